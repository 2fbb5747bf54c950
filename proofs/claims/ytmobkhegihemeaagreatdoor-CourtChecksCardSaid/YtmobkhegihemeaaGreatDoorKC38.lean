/-
  Part of the proof, part KC38. Own work.
-/
import Derived.Test.YtmobkhegihemeaaGreatDoorKC37
set_option linter.all false
namespace Go.Proofs.YtmobkhegihemeaaGreatDoor
open Go Go.Dom Go.Num
set_option maxRecDepth 100000
set_option maxHeartbeats 16000000
noncomputable def DF (q:Nat) (xs ys:List Nat) (x:Nat):Nat:=(tO q (nI (pL q xs ys)) x).toNat
theorem vY {q:Nat} (h:dS q=true):2≤q:=(pz h).1
theorem Gb {q:Nat} (h0:0<q) (xs ys:List Nat): ∀c∈pL q xs ys,c<q:=by
 intro c hc;unfold pL at hc;obtain⟨z,hz,rfl⟩:=a5.1 hc;unfold HZ at hz;obtain⟨j,-,rfl⟩:=a5.1 hz;have:=pf (q:=(q:Int)) (by omega) (fun k=>xR q ((nI xs).eraseIdx k)) (fN q xs ys) j (nI xs).length
 omega
theorem CS (q:Nat) (xs ys:List Nat):(pL q xs ys).length=xs.length:=by rw[pL,ix,HZ,aH,nH,pB]
theorem Ej {q:Nat} (hq:q<18446744073709551616) (hp:dS q=true) {xs ys:List Nat} {x:Nat} (hl:ys.length=xs.length) (h256:xs.length≤256) (hx: ∀a∈xs,a<q) (hy: ∀a∈ys,a<q) (ha:x<q) (hd:xs.Nodup) (hg: ∀i,i<xs.length→Nat.gcd (th q (xs.getD i 0:Nat) ((nI xs).eraseIdx i)).toNat q=1):
  aD Tryz.prog 82 [N q, .sl (xs.map cA), .sl (ys.map cA),N x] (.tup [N (DF q xs ys x),E 0]):=by
 have h2:=vY hp;have h1:=El hq hp hl h256 hx hy ha hd;have h3:=CM hq (by omega) (fun a h=>by have:=hx a h;omega) (fun a h=>by have:=hy a h;omega) hl (by omega) hg
 have h4:=yW hq (by omega) (cs:=pL q xs ys) (fun c hc=>by have:=Gb (by omega) xs ys c hc;omega) (x:=x) (by omega) (by rw[CS];omega)
 unfold DF;refine eW Tryz.call82 Tryz.func82 ?_;repeat' first|simp only[go_sem,seval]|refine cP h1 ?_|refine cP h3 ?_|refine cP h4 ?_|refine sB ?_|(first|apply pX|apply bX)<;>intro hc|refine⟨oD,?_⟩|exact oD|fail
def j2 (vs:List Bytes) (sd:Bytes) (n:Bytes):Nat→Nat→List Bytes→Except Int (List Bytes)
 |0,_,acc=> .ok acc
 |k+1,i,acc=>match gT vs sd i n with
  | .error e=> .error e
  | .ok x=>j2 vs sd n k (i+1) (acc++[x])
def wu (vs:List Bytes) (sd:Bytes) (i:Nat):Except Int (List Bytes)→PV
 | .ok l=> .tup [.sl (l.map .s),T vs sd (i:Nat),E 0]
 | .error e=> .tup [.sl [],T [] [] 0,E e]
theorem vF {vs:List Bytes} {sd:Bytes} {i:Nat} {n:Bytes} {e:Int} (h:gT vs sd i n= .error e):e=2∨e=14:=mH h
theorem BT {vs:List Bytes} {sd n:Bytes} (hv:vs.all aa=true) (hn:aa n=true) (hl:vs.length<1000000): ∀{k i:Nat} {acc l:List Bytes},i≤2147483647→(∀x∈acc,aa x=true∧num x<num n)→j2 vs sd n k i acc= .ok l→l.length=acc.length+k∧(∀x∈l,aa x=true∧num x<num n)∧i+k≤2147483647
 |0,i,acc,l,hi,ha,h=>by
  injection h with h;subst h;exact⟨rfl,ha,hi⟩
 |k+1,i,acc,l,hi,ha,h=>by
  rw[j2]at h
  split at h
  ·cases h
  ·rename_i x hx;obtain⟨d1,d2,d3⟩:=gU hv hn hl hi hx;obtain⟨a1,a2,a3⟩:=BT hv hn hl d3 (acc:=acc++[x]) (fun y hy=>by
    rcases fM.1 hy with hy|hy
    ·exact ha y hy
    ·rw[cO.1 hy];exact⟨d1,d2⟩) h
   exact⟨by rw[a1,bC];simp;omega,a2,by omega⟩
theorem BS {vs:List Bytes} {sd:Bytes} {i:Nat} {n:Bytes} {k:Nat} (hv:vs.all aa=true) (hn:aa n=true) (h0:n≠[]) (hi:i≤2147483647) (hk:k≤4096) (hl:vs.length<1000000) (hsd:sd.length<1000000):aD Tryz.prog 92 [T vs sd i, .s n,E k] (wu vs sd (i+k) (j2 vs sd n k i [])):=by
 have h1:=qI vs sd i n (by omega)
 rw[D8 hv hn h0 hi]at h1;have hd:=fun(j:Nat) (hj:j≤2147483647)=>vE (sd:=sd) hv hn (zQ hn h0) hj hl hsd
 obtain⟨R,hR0⟩: ∃R,R=j2 vs sd n k i []:=⟨_,rfl⟩;rw[←hR0]
 cases k with
 |zero=>
  rw[hR0];simp only[j2,wu];refine eW Tryz.call92 Tryz.func92 ?_;repeat' first|simp only[go_sem,seval]|refine cP h1 ?_|(refine ae ?_)|refine sB ?_|(first|apply pX|apply bX)<;>intro hc|refine⟨oD,?_⟩|exact oD|fail
 |succ k=>
  have d1:=hd i hi;rw[j2]at hR0;have hk4: ∀ _:True,decide ((4096:Int)<((k+1:Nat):Int))=false:=fun _=>decide_eq_false (by omega)
  cases hx:gT vs sd i n with
  |error e=>
   rw[hx]at d1 hR0;simp only at hR0;rw[hR0];have he:=vF hx;simp only[nK,wu]at d1⊢;clear hR0 hd hx hv hn;refine eW Tryz.call92 Tryz.func92 ?_;repeat' first|simp only[go_sem,seval]|refine cP h1 ?_|refine sB ?_|(first|apply pX|apply bX)<;>intro hc|refine⟨oD,?_⟩|exact oD|fail
   refine ae ?_;repeat' first|simp only[go_sem,seval]|refine cP d1 ?_|refine sB ?_|(first|apply pX|apply bX)<;>intro hc|refine⟨oD,?_⟩|exact oD|fail
   all_goals rfl
  |ok x=>
   rw[hx]at d1 hR0;simp only at hR0;obtain⟨v1,v2,hi2⟩:=gU hv hn hl hi hx;simp only[nK]at d1;refine eW Tryz.call92 Tryz.func92 ?_;repeat' first|simp only[go_sem,seval]|refine cP h1 ?_|refine sB ?_|(first|apply pX|apply bX)<;>intro hc|refine⟨oD,?_⟩|exact oD|fail
   refine ae ?_;repeat' first|simp only[go_sem,seval]|refine cP d1 ?_|refine sB ?_|(first|apply pX|apply bX)<;>intro hc|refine⟨oD,?_⟩|exact oD|fail
   refine aj (α:=Nat×List Bytes) (fun s=>k-s.1) (fun s=>⟨[(1, .v (.s n)),(3, .p 1000 0 0),(7, .p 1002 0 0),(10, .rs 1036 s.1 0 (s.1+1) 1),(28,E' (k+1)),(29,E' (s.1+1))],[(1000,⟨0,[.v (.sl (vs.map .s)), .v (.s sd), .v (.i .i64 ((i+(s.1+1):Nat):Int))],false,none⟩),(1002,⟨0,[.sn, .v (.s []), .v (.i .i64 0)],false,some 40⟩),(1036,⟨s.1,bJ PV.s s.2,true,some 22⟩)],1042⟩) (fun s=>s.1≤k∧s.2.length=s.1+1∧i+(s.1+1)≤2147483647∧R=j2 vs sd n (k-s.1) (i+(s.1+1)) s.2) (0,[x]) (fun _=>bQ rfl) ⟨aL _,rfl,hi2,hR0⟩ ?_ ?_
   ·show AS.Le _ _;simp only[bJ,dE,uz,PV.cells,ia,ba,bG];exact lE
   ·rintro⟨j,acc⟩ ⟨hj,hal,hij,hRj⟩ Q hQ;simp only at hj hal hij hRj;have q1:=dI eQ.s acc;have q2:=dT eQ.s acc;rw[hal,dP]at q1 q2;have dj:=hd (i+(j+1)) hij
    by_cases hlt:j<k
    ·rw[show k-j=(k-(j+1))+1 by omega,j2]at hRj
     cases hy:gT vs sd (i+(j+1)) n with
     |error e=>
      rw[hy]at dj hRj;simp only at hRj;rw[hRj];have he:=vF hy;simp only[nK,wu]at dj⊢;clear hRj hQ hd hy hx hv hn hR0 d1;repeat' first|simp only[go_sem,seval]|refine cP dj ?_|refine sB ?_|(first|apply pX|apply bX)<;>intro hc|refine⟨oD,?_⟩|exact oD|fail
      all_goals rfl
     |ok y=>
      rw[hy]at dj hRj;simp only at hRj;obtain⟨w1,w2,w3⟩:=gU hv hn hl hij hy;have hgo:=hQ (j+1,acc++[y]) ⟨by show j+1≤k;omega,by simp[hal],by show i+(j+1+1)≤ _;omega,by show R=j2 vs sd n (k-(j+1)) (i+(j+1+1)) (acc++[y]);rw[hRj];rfl⟩ (by show k-(j+1)<k-j;omega)
      simp only[dM]at hgo;simp only[nK]at dj;clear hRj hQ hd hy hx hv hn hR0 d1;repeat' first|simp only[go_sem,seval,q1,q2]|refine cP dj ?_|refine sB ?_|(first|apply pX|apply bX)<;>intro hc|refine⟨oD,?_⟩|exact oD|fail
      refine hgo _ ?_
      (refine AS.Le.of (by first|decide|omega) ?_ ?_<;>simp[cl,cj,aF,ar,AV.bd,AV.bd.bdL,u8,ah,ai,aq])
      all_goals exact⟨by omega,rfl,fun c hc=>by
       rcases hc with hc|⟨a,ha,rfl⟩
       ·exact ey hc
       ·simp[PV.cells]at ha;subst ha;rfl⟩
    ·obtain rfl:j=k:=by omega
     rw[fh,j2]at hRj;rw[hRj];simp only[wu];have q3:=fx eQ.s acc;have q4:chunk 1 (j+1) (acc.flatMap fun x=>[PV.s x])=acc.map .s:=by rw[←hal];exact dL eQ.s acc
     clear hRj hQ hd hx hv hn hR0 d1;repeat' first|simp only[go_sem,seval,q1,q2,q3,q4,fy]|refine sB ?_|(first|apply pX|apply bX)<;>intro hc|refine⟨oD,?_⟩|exact oD|fail
     all_goals rfl
theorem sf {vs:List Bytes} {sd n:Bytes} {e:Int}: ∀{k i:Nat} {acc:List Bytes},j2 vs sd n k i acc= .error e→e=2∨e=14
 |0,i,acc,h=>by cases h
 |k+1,i,acc,h=>by
  rw[j2]at h
  split at h
  ·rename_i e' he;injection h with h;subst h
   exact vF he
  ·exact sf h
def tE (q sec:Nat) (l:List Bytes) (k:Nat):List Nat:=(List.range k).map fun j=>(tO q (nI (sec::l.map num)) ((j+1:Nat):Int)).toNat
noncomputable def xU (q sec:Nat) (need count:Int) (vs:List Bytes) (sd:Bytes) (i:Nat):Except Int (List Nat×Nat):=
 if !dS q then .error 12 else if need<1∨need>count∨count>255∨(q:Int)≤count then .error 6
 else match j2 vs sd (aP q) (need-1).toNat i []with
  | .error e=> .error e
  | .ok l=> .ok (tE q sec l count.toNat,i+(need-1).toNat)
theorem CG (q sec:Nat) (l:List Bytes) (k:Nat):(tE q sec l k).length=k:=by simp[tE]
theorem HS (q sec:Nat) (l:List Bytes) (k:Nat):tE q sec l (k+1)=tE q sec l k++[(tO q (nI (sec::l.map num)) ((k+1:Nat):Int)).toNat]:=by
 rw[tE,rk,eB];rfl
theorem j4 (l:List Nat) (x:Nat):az (l++[x])=az l++[.v (N x)]:=by simp[az]
theorem DI {l:List Bytes} (h: ∀x∈l,aa x=true):l.map PV.s=(l.map num).map cA:=by
 rw[jE];exact l9 fun x hx=>(fq (h x hx)).symm
theorem rV (x y:Nat):decide (a6 x y≥0)=decide (y≤x):=by
 rw[Pk]
 by_cases h:x<y
 ·rw[decide_eq_true h,decide_eq_false (by omega)];rfl
 ·rw[decide_eq_false h,decide_eq_true (by omega)];rfl
theorem Em {q:Nat} (hq:q<18446744073709551616) (q0:0<q) {sec:Nat} (hs:sec<q) {need count:Int} (hc:count≤8∨count>255) {vs:List Bytes} {sd:Bytes} {i:Nat} (hv:vs.all aa=true) (hi:i≤2147483647) (hl:vs.length<1000000) (hsd:sd.length<1000000) {e:Int} (h:xU q sec need count vs sd i= .error e):
  aD Tryz.prog 45 [N q,N sec,E need,E count,T vs sd i] (.tup [.sl [],T [] [] 0,E e]):=by
 have hW:=jI;have c1:=EI sd (a:=(i:Int)) hl;rw[vO hv hi,if_pos rfl]at c1;have c2:=Ac (aP q) [[aP sec]] (by simp) (by simp)
 have e2:zc (aP q) [[aP sec]]=if dS q then 0 else 12:=by
  unfold zc;rw[qG hq,aK];simp[vN (show sec<18446744073709551616 by omega)]
 rw[e2]at c2;simp only[ba,bG,LN]at c2;have c3:=qL (q:=aP q) (vN hq) (l:=[aP sec]) (by simpa using vN (show sec<18446744073709551616 by omega)) (by simp)
 rw[show([aP sec].all fun y=>decide (num y<num (aP q)))=true by simp[aK,hs]]at c3
 simp only[ba,bG]at c3;unfold xU at h
 by_cases hp:dS q=true
 case neg=>
  have hp:dS q=false:=by simpa using hp
  rw[hp]at c2 h;injection h with h
  subst h;simp only[aW,if_false]at c2;refine eW Tryz.call45 Tryz.func45 ?_;repeat' first|simp only[go_sem,seval]|refine cP pV ?_|refine cP c1 ?_|refine cP c2 ?_|refine sB ?_|(first|apply pX|apply bX)<;>intro hc|refine⟨oD,?_⟩|exact oD|fail
  all_goals rfl
 rw[hp]at c2 h;simp only[if_true,bu,aW,if_false]at c2 h
 by_cases hb:need<1∨need>count∨count>255∨(q:Int)≤count
 ·rw[if_pos hb]at h;injection h with h
  subst h
  by_cases hin:need<1∨need>count∨count>255
  ·by_cases b1:need<1
   ·refine eW Tryz.call45 Tryz.func45 ?_;repeat' first|simp only[go_sem,seval]|refine cP pV ?_|refine cP c1 ?_|refine cP c2 ?_|refine cP c3 ?_|refine sB ?_|(first|apply pX|apply bX)<;>intro hc|refine⟨oD,?_⟩|exact oD|fail
    all_goals rfl
   ·by_cases b2:need>count
    ·refine eW Tryz.call45 Tryz.func45 ?_;repeat' first|simp only[go_sem,seval]|refine cP pV ?_|refine cP c1 ?_|refine cP c2 ?_|refine cP c3 ?_|refine sB ?_|(first|apply pX|apply bX)<;>intro hc|refine⟨oD,?_⟩|exact oD|fail
     all_goals rfl
    ·have b3:count>255:=by omega
     refine eW Tryz.call45 Tryz.func45 ?_;repeat' first|simp only[go_sem,seval]|refine cP pV ?_|refine cP c1 ?_|refine cP c2 ?_|refine cP c3 ?_|refine sB ?_|(first|apply pX|apply bX)<;>intro hc|refine⟨oD,?_⟩|exact oD|fail
     all_goals rfl
  ·obtain⟨c,rfl⟩: ∃c:Nat,count=c:=⟨count.toNat,by omega⟩
   have hw: ∀ _:True,IntKind.u64.wrap (c:Int)=c:=fun _=>IntWalk.u64_in _ (by omega)
   have o1:=jT c (by omega)
   have o2:=qi (a:=c) (b:=q) (by omega) (by omega)
   have o3: ∀ _:True,decide (a6 c q≥0)=true:=fun _=>by rw[rV];exact decide_eq_true (by omega)
   generalize a6 c q=cm at*;refine eW Tryz.call45 Tryz.func45 ?_;repeat' first|simp only[go_sem,seval,hw trivial,o3 trivial]|refine cP pV ?_|refine cP c1 ?_|refine cP c2 ?_|refine cP c3 ?_|refine cP o1 ?_|refine cP o2 ?_|refine sB ?_|(first|apply pX|apply bX)<;>intro hc|refine⟨oD,?_⟩|exact oD|fail
   all_goals rfl
 rw[if_neg hb]at h;obtain⟨c,rfl⟩: ∃c:Nat,count=c:=⟨count.toNat,by omega⟩
 obtain⟨d,rfl⟩: ∃d:Nat,need=(d+1:Nat):=⟨(need-1).toNat,by omega⟩
 have hd1:(((d+1:Nat):Int)-1).toNat=d:=by omega
 have hd2: ∀ _:True,IntKind.i64.wrap (((d+1:Nat):Int)-1)=(d:Int):=fun _=>by rw[IntWalk.i64_in _ (by omega)];omega
 rw[hd1]at h;have hm:=BS (sd:=sd) (k:=d) hv (vN hq) (fun g=>by have:=aK q;rw[g]at this;simp[num]at this;omega) hi (by omega) hl hsd
 have hw: ∀ _:True,IntKind.u64.wrap (c:Int)=c:=fun _=>IntWalk.u64_in _ (by omega)
 have o1:=jT c (by omega)
 have o2:=qi (a:=c) (b:=q) (by omega) (by omega)
 have o3: ∀ _:True,decide (a6 c q≥0)=false:=fun _=>by rw[rV];exact decide_eq_false (by omega)
 generalize a6 c q=cm at*
 cases hM:j2 vs sd (aP q) d i []with
 |ok l=>rw[hM]at h;cases h
 |error e'=>
  rw[hM]at h hm;have he:=sf hM;injection h with h
  subst h;simp only[wu]at hm;clear hM;refine eW Tryz.call45 Tryz.func45 ?_;repeat' first|simp only[go_sem,seval,hw trivial,o3 trivial,hd2 trivial]|refine cP pV ?_|refine cP c1 ?_|refine cP c2 ?_|refine cP c3 ?_|refine cP o1 ?_|refine cP o2 ?_|refine cP hm ?_|refine sB ?_|(first|apply pX|apply bX)<;>intro hc|refine⟨oD,?_⟩|exact oD|fail
  all_goals rfl
theorem fD (hf:Nat→Option ax) (k:Nat) (l:List Nat):(az l).flatMap (aN hf (k+1))=[]:=by
 unfold az
 induction l with
 |nil=>rfl
 |cons x r ih=>simp_all[aN]
theorem NK (L:List Nat):List.map AV.v (List.flatMap PV.cells (L.map cA))=az L:=by
 induction L with
 |nil=>rfl
 |cons x L ih=>simp only[ba,dE,eB,ih];rfl
theorem CI {q:Nat} (hq:q<18446744073709551616) (q0:0<q) {sec:Nat} (hs:sec<q) {need count:Int} (hc:count≤8∨count>255) {vs:List Bytes} {sd:Bytes} {i:Nat} (hv:vs.all aa=true) (hi:i≤2147483647) (hl:vs.length<1000000) (hsd:sd.length<1000000) {ls:List Nat} {j:Nat} (h:xU q sec need count vs sd i= .ok (ls,j)):
  aD Tryz.prog 45 [N q,N sec,E need,E count,T vs sd i] (.tup [.sl (ls.map cA),T vs sd (j:Nat),E 0]):=by
 have hW:=jI;have c1:=EI sd (a:=(i:Int)) hl;rw[vO hv hi,if_pos rfl]at c1;have c2:=Ac (aP q) [[aP sec]] (by simp) (by simp)
 have e2:zc (aP q) [[aP sec]]=if dS q then 0 else 12:=by
  unfold zc;rw[qG hq,aK];simp[vN (show sec<18446744073709551616 by omega)]
 rw[e2]at c2;simp only[ba,bG,LN]at c2;have c3:=qL (q:=aP q) (vN hq) (l:=[aP sec]) (by simpa using vN (show sec<18446744073709551616 by omega)) (by simp)
 rw[show([aP sec].all fun y=>decide (num y<num (aP q)))=true by simp[aK,hs]]at c3
 simp only[ba,bG]at c3;unfold xU at h
 cases hp:dS q with
 |false=>rw[hp]at h;cases h
 |true=>
 rw[hp]at c2 h;simp only[if_true,bu,aW,if_false]at c2 h
 by_cases hb:need<1∨need>count∨count>255∨(q:Int)≤count
 ·rw[if_pos hb]at h;cases h
 rw[if_neg hb]at h;obtain⟨c,rfl⟩: ∃c:Nat,count=c:=⟨count.toNat,by omega⟩
 obtain⟨d,rfl⟩: ∃d:Nat,need=(d+1:Nat):=⟨(need-1).toNat,by omega⟩
 have hd1:(((d+1:Nat):Int)-1).toNat=d:=by omega
 have hd2: ∀ _:True,IntKind.i64.wrap (((d+1:Nat):Int)-1)=(d:Int):=fun _=>by rw[IntWalk.i64_in _ (by omega)];omega
 rw[hd1,Int.toNat_natCast]at h;have bq:aa (aP q)=true:=vN hq;have hm:=BS (sd:=sd) (k:=d) hv bq (fun g=>by have:=aK q;rw[g]at this;simp[num]at this;omega) hi (by omega) hl hsd
 have hw: ∀ _:True,IntKind.u64.wrap (c:Int)=c:=fun _=>IntWalk.u64_in _ (by omega)
 have o1:=jT c (by omega)
 have o2:=qi (a:=c) (b:=q) (by omega) (by omega)
 have o3: ∀ _:True,decide (a6 c q≥0)=false:=fun _=>by rw[rV];exact decide_eq_false (by omega)
 generalize a6 c q=cm at*
 cases hM:j2 vs sd (aP q) d i []with
 |error e'=>rw[hM]at h;cases h
 |ok l=>
  rw[hM]at h hm;simp only[uf,cX]at h;obtain⟨rfl,rfl⟩:=h;obtain⟨m1,m2,m3⟩:=BT hv bq hl hi (acc:=[]) (fun _ h=>by cases h) hM
  simp only[List.length_nil,cW]at m1;simp only[wu]at hm;rw[DI fun x hx=>(m2 x hx).1]at hm
  have hsh: ∀k,tE q sec l (k+1)=tE q sec l k++[(tO q (nI (sec::l.map num)) ((k+1:Nat):Int)).toNat]:=HS q sec l;have hs0:tE q sec l 0=[]:=rfl;have hsl:=CG q sec l;obtain⟨L,hL⟩: ∃L,L=l.map num:=⟨_,rfl⟩;have lL:L.length=d:=by rw[hL,aH,m1]
  have hLq: ∀x∈sec::L,x<18446744073709551616:=fun x hx=>by
   rcases bL.1 hx with rfl|hx
   ·omega
   ·rw[hL]at hx;obtain⟨y,hy,rfl⟩:=a5.1 hx;have:=(m2 y hy).2;rw[aK]at this;omega
  rw[←hL]at hm hsh;have hval:=fun k (hk:k<300)=>yW hq q0 (cs:=sec::L) hLq (x:=k) (by omega) (by simp;omega)
  have hof:=fun k (hk:k<300)=>jT k (by omega)
  generalize hS:tE q sec l=S at*;have k1:=cu (hsl c);have k2:=dK (S c);have k3:=cK (hsl c);have k4:(az (S c)).length=c:=by rw[aS,hsl]
  have cpos:0<c:=by omega
  clear hM m2 hL hS hp;have n1:AV.v (.s (aP sec))::az L=az (sec::L):=rfl;have n2:(az (sec::L)).length=1+d:=by rw[aS];simp;omega
  have n3:=cu (l:=sec::L) (n:=1+d) (by simp;omega)
  have n4:=dK (sec::L);have n5:chunk 1 (1+d) (cA sec::L.map cA)=cA sec::L.map cA:=cK (l:=sec::L) (n:=1+d) (by simp;omega)
  refine eW Tryz.call45 Tryz.func45 ?_;repeat' first|simp only[go_sem,seval,hw trivial,o3 trivial,hd2 trivial,lL,NK,n1]|refine cP pV ?_|refine cP c1 ?_|refine cP c2 ?_|refine cP c3 ?_|refine cP o1 ?_|refine cP o2 ?_|refine cP hm ?_|refine sB ?_|(first|apply pX|apply bX)<;>intro hc|refine⟨oD,?_⟩|exact oD|fail
  have n6:(∀x,x∈List.map cA L→x.cells.length=1)=True:=by
   simp only[eq_iff_iff,iff_true];intro x hx;obtain⟨y,-,rfl⟩:=a5.1 hx;rfl
  have n7:(∀y,y∈az L→y.one=true)=True:=by
   simp only[eq_iff_iff,iff_true];intro x hx;obtain⟨y,-,rfl⟩:=a5.1 hx;rfl
  by_cases hd0:d=0
  ·have hL0:L=[]:=jz.1 (by omega)
   rw[if_pos hd0];repeat' first|simp only[go_sem,seval,n6]|refine sB ?_|(first|apply pX|apply bX)<;>intro hc|refine⟨oD,?_⟩|exact oD|fail
   refine aj (α:=Nat) (fun j=>c-j) (fun j=>match j with|0=>⟨[(17, .v (.sl ((sec::L).map cA))),(0, .v (N q)),(9, .p 1000 0 0),(11, .p 1002 0 0),(19, .sn),(86,E' c),(87, .v (.i .i64 0))],[(1000,⟨0,[.v (.sl (vs.map .s)), .v (.s sd), .v (.i .i64 ((i+d:Nat):Int))],false,none⟩),(1002,⟨0,[.sn, .v (.s []), .v (.i .i64 0)],false,some 40⟩)],1073⟩|j+1=>⟨[(17, .v (.sl ((sec::L).map cA))),(0, .v (N q)),(9, .p 1000 0 0),(11, .p 1002 0 0),(19, .rs 1085 j 0 (j+1) 1),(86,E' c),(87,E' (j+1))],[(1000,⟨0,[.v (.sl (vs.map .s)), .v (.s sd), .v (.i .i64 ((i+d:Nat):Int))],false,none⟩),(1002,⟨0,[.sn, .v (.s []), .v (.i .i64 0)],false,some 40⟩),(1085,⟨j,az (S (j+1)),true,some 22⟩)],1089⟩) (fun j=>j≤c) 0 (fun j=>by cases j<;>exact bQ rfl) (aL _) ?_ ?_
   ·refine(AS.Le.Kg [(17, .sl ((sec::L).map cA))] [] (fun _ h=>by cases h) (by intro p hp;rw[cO.1 hp];simp[aF,view,aN,hL0,cA]) (by first|decide|omega) ?_ ?_)<;>simp[cl,cj,aF,ar,AV.bd,AV.bd.bdL]
   ·intro j hj R hR
    cases j with
    |zero=>
     have hgo:=hR 1 (by omega) (by omega)
     simp only[hsh,hs0,List.nil_append,show∀y,az [y]=[AV.v (N y)]from fun _=>rfl]at hgo
     have o4:=hof 1 (by omega)
     have v1:=hval 1 (by omega)
     rw[show((0+1:Nat):Int)=((1:Nat):Int)from rfl]at hgo
     generalize (tO q (nI (sec::L)) ((1:Nat):Int)).toNat=y at*;clear hR hval hof hsh;repeat' first|simp only[go_sem,seval]|refine cP o4 ?_|refine cP v1 ?_|refine sB ?_|(first|apply pX|apply bX)<;>intro hc|refine⟨oD,?_⟩|exact oD|fail
     refine hgo _ ?_;exact lE
    |succ j=>
     have g1:=cu (hsl (j+1));have g2:(az (S (j+1))).length=j+1:=by rw[aS,hsl]
     by_cases hlt:j+1<c
     ·have hgo:=hR (j+2) (by omega) (by omega)
      simp only[hsh (j+1),j4]at hgo;have o4:=hof (j+2) (by omega)
      have v1:=hval (j+2) (by omega)
      have hw2: ∀ _:True,IntKind.u64.wrap (((j+1:Nat):Int)+1)=((j+2:Nat):Int):=fun _=>by rw[IntWalk.u64_in _ (by omega)];omega
      rw[show((j+1+1:Nat):Int)=((j+2:Nat):Int)from rfl]at hgo
      generalize (tO q (nI (sec::L)) ((j+2:Nat):Int)).toNat=y at*;clear hR hval hof hsh;repeat' first|simp only[go_sem,seval,hw2 trivial,g1,g2]|refine cP o4 ?_|refine cP v1 ?_|refine sB ?_|(first|apply pX|apply bX)<;>intro hc|refine⟨oD,?_⟩|exact oD|fail
      refine hgo _ ?_
      (refine AS.Le.of (by first|decide|omega) ?_ ?_<;>simp[cl,cj,aF,ar,AV.bd,AV.bd.bdL,u8,ah,ai,aq])
      all_goals exact fun c hc=>hc.elim (fun h=>cZ h) (fun h=>by rw[h];rfl)
     ·obtain rfl:j+1=c:=by omega
      clear hR hval hof hsh;repeat' first|simp only[go_sem,seval,k1,k2,k3,k4,cF]|refine sB ?_|(first|apply pX|apply bX)<;>intro hc|refine⟨oD,?_⟩|exact oD|fail
      all_goals rfl
  ·rw[if_neg hd0];repeat' first|simp only[go_sem,seval,n6,n7]|refine sB ?_|(first|apply pX|apply bX)<;>intro hc|refine⟨oD,?_⟩|exact oD|fail
   refine aj (α:=Nat) (fun j=>c-j) (fun j=>match j with|0=>⟨[(17, .v (.sl ((sec::L).map cA))),(0, .v (N q)),(9, .p 1000 0 0),(11, .p 1002 0 0),(19, .sn),(86,E' c),(87, .v (.i .i64 0))],[(1000,⟨0,[.v (.sl (vs.map .s)), .v (.s sd), .v (.i .i64 ((i+d:Nat):Int))],false,none⟩),(1002,⟨0,[.sn, .v (.s []), .v (.i .i64 0)],false,some 40⟩)],1073⟩|j+1=>⟨[(17, .v (.sl ((sec::L).map cA))),(0, .v (N q)),(9, .p 1000 0 0),(11, .p 1002 0 0),(19, .rs 1085 j 0 (j+1) 1),(86,E' c),(87,E' (j+1))],[(1000,⟨0,[.v (.sl (vs.map .s)), .v (.s sd), .v (.i .i64 ((i+d:Nat):Int))],false,none⟩),(1002,⟨0,[.sn, .v (.s []), .v (.i .i64 0)],false,some 40⟩),(1085,⟨j,az (S (j+1)),true,some 22⟩)],1089⟩) (fun j=>j≤c) 0 (fun j=>by cases j<;>exact bQ rfl) (aL _) ?_ ?_
   ·refine(AS.Le.Kg [(17, .sl ((sec::L).map cA))] [1068] (fun m hm=>by rw[cO.1 hm];exact⟨by decide,rfl⟩) (by intro p hp;rw[cO.1 hp];simp[aF,ar,view,aN,n2,n3,n4,n5,cF,fD]) (by first|decide|omega) ?_ ?_)<;>simp[cl,cj,aF,ar,AV.bd,AV.bd.bdL]
   ·intro j hj R hR
    cases j with
    |zero=>
     have hgo:=hR 1 (by omega) (by omega)
     simp only[hsh,hs0,List.nil_append,show∀y,az [y]=[AV.v (N y)]from fun _=>rfl]at hgo
     have o4:=hof 1 (by omega)
     have v1:=hval 1 (by omega)
     rw[show((0+1:Nat):Int)=((1:Nat):Int)from rfl]at hgo
     generalize (tO q (nI (sec::L)) ((1:Nat):Int)).toNat=y at*;clear hR hval hof hsh;repeat' first|simp only[go_sem,seval]|refine cP o4 ?_|refine cP v1 ?_|refine sB ?_|(first|apply pX|apply bX)<;>intro hc|refine⟨oD,?_⟩|exact oD|fail
     refine hgo _ ?_;exact lE
    |succ j=>
     have g1:=cu (hsl (j+1));have g2:(az (S (j+1))).length=j+1:=by rw[aS,hsl]
     by_cases hlt:j+1<c
     ·have hgo:=hR (j+2) (by omega) (by omega)
      simp only[hsh (j+1),j4]at hgo;have o4:=hof (j+2) (by omega)
      have v1:=hval (j+2) (by omega)
      have hw2: ∀ _:True,IntKind.u64.wrap (((j+1:Nat):Int)+1)=((j+2:Nat):Int):=fun _=>by rw[IntWalk.u64_in _ (by omega)];omega
      rw[show((j+1+1:Nat):Int)=((j+2:Nat):Int)from rfl]at hgo
      generalize (tO q (nI (sec::L)) ((j+2:Nat):Int)).toNat=y at*;clear hR hval hof hsh;repeat' first|simp only[go_sem,seval,hw2 trivial,g1,g2]|refine cP o4 ?_|refine cP v1 ?_|refine sB ?_|(first|apply pX|apply bX)<;>intro hc|refine⟨oD,?_⟩|exact oD|fail
      refine hgo _ ?_
      (refine AS.Le.of (by first|decide|omega) ?_ ?_<;>simp[cl,cj,aF,ar,AV.bd,AV.bd.bdL,u8,ah,ai,aq])
      all_goals exact fun c hc=>hc.elim (fun h=>cZ h) (fun h=>by rw[h];rfl)
     ·obtain rfl:j+1=c:=by omega
      clear hR hval hof hsh;repeat' first|simp only[go_sem,seval,k1,k2,k3,k4,cF]|refine sB ?_|(first|apply pX|apply bX)<;>intro hc|refine⟨oD,?_⟩|exact oD|fail
      all_goals rfl
end Go.Proofs.YtmobkhegihemeaaGreatDoor
