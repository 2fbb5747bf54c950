/- Part of the proof. -/
import Derived.Test.YtkmahpcpmgedkaaGreatDoorFC34
set_option linter.all false
set_option maxHeartbeats 16000000
set_option maxRecDepth 100000
namespace Go.Proofs.Tryz
open Go Go.Dom Go.Num
variable {count e need:Int} {i q sec:Nat} {n sd:Bytes} {vs:List Bytes}
noncomputable def GH (q:Nat) (xs ys:List Nat) (x:Nat):Nat:=(xf q (nI (sC q xs ys)) x).toNat
theorem y8 (h:eY q=true):2<=q:=(r5 h).1
theorem Jc (h0:0<q) (xs ys:List Nat): ∀c∈sC q xs ys,c<q:=by
 intro c hc;unfold sC at hc;obtain⟨z,hz,rfl⟩:=bm.1 hc;unfold Li at hz;obtain⟨j,-,rfl⟩:=bm.1 hz;have:=rO (q:=(q:Int)) oO (fun k=>AK q ((nI xs).eraseIdx k)) (fN q xs ys) j (nI xs).length
 omega
theorem F1 (q:Nat) (xs ys:List Nat):(sC q xs ys).length=xs.length:=by rw[sC,jH,Li,aC,pK,sf]
theorem Ht (hq:q<(2^64)) (hp:eY q=true) {xs ys:List Nat} {x:Nat} (hl:ys.length=xs.length) (h256:xs.length<=256) (hx: ∀a∈xs,a<q) (hy: ∀a∈ys,a<q) (ha:x<q) (hd:xs.Nodup) (hg: ∀i,i<xs.length->Nat.gcd (wH q (xs.getD i 0:Nat) ((nI xs).eraseIdx i)).toNat q=1):
  aE 102 [N q, .sl (xs.map cZ), .sl (ys.map cZ),N x] (.tup [N (GH q xs ys x),E 0]):=by
 have h2:=y8 hp;have h1:=Hv hq hp hl h256 hx hy ha hd;have h3:=FW hq oO (fun a h=>by have:=hx a h;omega) (fun a h=>by have:=hy a h;omega) hl oO hg
 have h4:=B3 hq oO (cs:=sC q xs ys) (fun c hc=>by have:=Jc oO xs ys c hc;omega) (x:=x) oO (by rw[F1];omega)
 unfold GH;refine eW call102 func102 ?_;exact z4 @h1 @h3 @h4 oT
def lU (vs:List Bytes) (sd:Bytes) (n:Bytes):Nat->Nat->List Bytes->Except Int (List Bytes)
 |0,_,acc=> .ok acc
 |k+1,i,acc=>match jd vs sd i n with
  | .error e=> .error e
  | .ok x=>lU vs sd n k (i+1) (acc++[x])
def zp (vs:List Bytes) (sd:Bytes) (i:Nat):Except Int (List Bytes)->PV
 | .ok l=> .tup [.sl (l.map .s),T vs sd (i:Nat),E 0]
 | .error e=> .tup [.sl [],T [] [] 0,E e]
theorem yM (h:jd vs sd i n= .error e):e=2\/e=14:=oG h
theorem ES (hv:vs.all aa=true) (hn:aa n=true) (hl:vs.length<1000000): ∀{k i:Nat} {acc l:List Bytes},i<=2147483647->(∀x∈acc,aa x=true/\num x<num n)->lU vs sd n k i acc= .ok l->l.length=acc.length+k/\(∀x∈l,aa x=true/\num x<num n)/\i+k<=2147483647
 |0,i,acc,l,hi,ha,h=>by
  injection h with h;subst h;exact⟨rfl,ha,hi⟩
 |k+1,i,acc,l,hi,ha,h=>by
  rw[lU]at h
  split at h
  ·cases h
  ·rename_i x hx;obtain⟨d1,d2,d3⟩:=je hv hn hl hi hx;obtain⟨a1,a2,a3⟩:=ES hv hn hl d3 (acc:=acc++[x]) (fun y hy=>by
    rcases gT.1 hy with hy|hy
    ·exact ha y hy
    ·rw[cR.1 hy];exact⟨d1,d2⟩) h
   exact⟨by rw[a1,bT];simp;omega,a2,oO⟩
theorem ER {k:Nat} (hv:vs.all aa=true) (hn:aa n=true) (h0:n≠[]) (hi:i<=2147483647) (hk:k<=4096) (hl:vs.length<1000000) (hsd:sd.length<1000000):aE 66 [T vs sd i, .s n,E k] (zp vs sd (i+k) (lU vs sd n k i [])):=by
 have h1:=tM vs sd i n oO;rw[Hh hv hn h0 hi]at h1;have hd:=fun(j:Nat) (hj:j<=2147483647)=>yL (sd:=sd) hv hn (CO hn h0) hj hl hsd
 obtain⟨R,hR0⟩: ∃R,R=lU vs sd n k i []:=⟨_,rfl⟩;rw[<-hR0]
 cases k with
 |zero=>
  rw[hR0];simp only[lU,zp];refine eW call66 func66 ?_;exact WC @h1
 |succ k=>
  have d1:=hd i hi;rw[lU]at hR0;have hk4: ∀ _:True,decide ((4096:Int)<((k+1:Nat):Int))=false:=fun _=>aG oO
  cases hx:jd vs sd i n with
  |error e=>
   rw[hx]at d1 hR0;simp only at hR0;rw[hR0];have he:=yM hx;simp only[pS,zp]at d1⊢;clear hR0 hd hx hv hn;refine eW call66 func66 ?_;refine WA @h1 ?_;refine ai ?_;exact z1 @d1
  |ok x=>
   rw[hx]at d1 hR0;simp only at hR0;obtain⟨v1,v2,hi2⟩:=je hv hn hl hi hx;simp only[pS]at d1;refine eW call66 func66 ?_;refine WA @h1 ?_;refine ai ?_;refine WA @d1 ?_;refine af (α:=Nat×List Bytes) (fun s=>k-s.1) (fun s=>⟨[(1, .v (.s n)),(3, .p 1000 0 0),(7, .p 1002 0 0),(10, .rs 1036 s.1 0 (s.1+1) 1),(28,E' (k+1)),(29,E' (s.1+1))],[(1000,⟨0,[.v (.sl (vs.map .s)), .v (.s sd), .v (.i .i64 ((i+(s.1+1):Nat):Int))],false,none⟩),(1002,⟨0,[.sn, .v (.s []), .v (.i .i64 0)],false,some 37⟩),(1036,⟨s.1,aX PV.s s.2,true,some 22⟩)],1042⟩) (fun s=>s.1<=k/\s.2.length=s.1+1/\i+(s.1+1)<=2147483647/\R=lU vs sd n (k-s.1) (i+(s.1+1)) s.2) (0,[x]) (fun _=>bQ rfl) ⟨aI _,rfl,hi2,hR0⟩ ?_ ?_
   ·show AS.Le _ _;simp only[aX,eu,uD,PV.cells,kx,bC,bR];exact lE
   ·rintro⟨j,acc⟩ ⟨hj,hal,hij,hRj⟩ Q hQ;simp only at hj hal hij hRj;have q1:=cj dL.s acc;have q2:=cq dL.s acc;rw[hal,db]at q1 q2;have dj:=hd (i+(j+1)) hij
    by_cases hlt:j<k
    ·rw[show k-j=(k-(j+1))+1 by omega,lU]at hRj
     cases hy:jd vs sd (i+(j+1)) n with
     |error e=>
      rw[hy]at dj hRj;simp only at hRj;rw[hRj];have he:=yM hy;simp only[pS,zp]at dj⊢;clear hRj hQ hd hy hx hv hn hR0 d1;exact z1 @dj
     |ok y=>
      rw[hy]at dj hRj;simp only at hRj;obtain⟨w1,w2,w3⟩:=je hv hn hl hij hy;have hgo:=hQ (j+1,acc++[y]) ⟨by show j+1<=k;omega,by simp[hal],by show i+(j+1+1)<= _;omega,by show R=lU vs sd n (k-(j+1)) (i+(j+1+1)) (acc++[y]);rw[hRj];rfl⟩ (by show k-(j+1)<k-j;omega)
      simp only[bU]at hgo;simp only[pS]at dj;clear hRj hQ hd hy hx hv hn hR0 d1;refine jm (aN @q1 @q2) @dj ?_;refine hgo _ ?_;refine lG ?_;all_goals exact⟨oO,rfl,fun c hc=>by
       rcases hc with hc|⟨a,ha,rfl⟩
       ·exact cL hc
       ·simp[PV.cells]at ha;subst ha;rfl⟩
    ·obtain rfl:j=k:=oO;rw[fC,lU]at hRj;rw[hRj];simp only[zp];have q3:=dQ dL.s acc;have q4:chunk 1 (j+1) (acc.flatMap fun x=>[PV.s x])=acc.map .s:=by rw[<-hal];exact cJ dL.s acc
     clear hRj hQ hd hx hv hn hR0 d1;exact gi (aN @q1 (aN @q2 (aN @q3 (aN @q4 @ec))))
theorem vk: ∀{k i:Nat} {acc:List Bytes},lU vs sd n k i acc= .error e->e=2\/e=14
 |0,i,acc,h=>by cases h
 |k+1,i,acc,h=>by
  rw[lU]at h
  split at h
  ·rename_i e' he;injection h with h;subst h
   exact yM he
  ·exact vk h
def wS (q sec:Nat) (l:List Bytes) (k:Nat):List Nat:=(List.range k).map fun j=>(xf q (nI (sec::l.map num)) ((j+1:Nat):Int)).toNat
noncomputable def AQ (q sec:Nat) (need count:Int) (vs:List Bytes) (sd:Bytes) (i:Nat):Except Int (List Nat×Nat):=
 if !eY q then .error 12 else if need<1\/need>count\/count>255\/(q:Int)<=count then .error 6
 else match lU vs sd (aY q) (need-1).toNat i []with
  | .error e=> .error e
  | .ok l=> .ok (wS q sec l count.toNat,i+(need-1).toNat)
theorem FP (q sec:Nat) (l:List Bytes) (k:Nat):(wS q sec l k).length=k:=by simp[wS]
theorem Lb (q sec:Nat) (l:List Bytes) (k:Nat):wS q sec l (k+1)=wS q sec l k++[(xf q (nI (sec::l.map num)) ((k+1:Nat):Int)).toNat]:=by
 rw[wS,re,jv];rfl
theorem lV (l:List Nat) (x:Nat):aD (l++[x])=aD l++[.v (N x)]:=by simp[aD]
theorem GJ {l:List Bytes} (h: ∀x∈l,aa x=true):l.map PV.s=(l.map num).map cZ:=by
 rw[iV];exact nS fun x hx=>(eH (h x hx)).symm
theorem uT (x y:Nat):decide (bc x y>=0)=decide (y<=x):=by
 rw[SZ]
 by_cases h:x<y
 ·rw[aJ h,aG oO];rfl
 ·rw[aG h,aJ oO];rfl
theorem Hw (hq:q<(2^64)) (q0:0<q) (hs:sec<q) (hc:count<=8\/count>255) (hv:vs.all aa=true) (hi:i<=2147483647) (hl:vs.length<1000000) (hsd:sd.length<1000000) (h:AQ q sec need count vs sd i= .error e):
  aE 59 [N q,N sec,E need,E count,T vs sd i] (.tup [.sl [],T [] [] 0,E e]):=by
 have hW:=jo;have c1:=HS sd (a:=(i:Int)) hl;rw[yT hv hi,ah rfl]at c1;have c2:=Dc (aY q) [[aY sec]] (by simp) (by simp)
 have e2:Cl (aY q) [[aY sec]]=if eY q then 0 else 12:=by
  unfold Cl;rw[tG hq,aQ];simp[vN (show sec<(2^64) by omega)]
 rw[e2]at c2;simp only[bC,bR,LN]at c2;have c3:=tR (q:=aY q) (vN hq) (l:=[aY sec]) (by simpa using vN (show sec<(2^64) by omega)) (by simp)
 rw[show([aY sec].all fun y=>decide (num y<num (aY q)))=true by simp[aQ,hs]]at c3
 simp only[bC,bR]at c3;unfold AQ at h
 by_cases hp:eY q=true
 case neg=>
  have hp:eY q=false:=by simpa using hp
  rw[hp]at c2 h;injection h with h
  subst h;simp only[bu,aq]at c2;refine eW call59 func59 ?_;exact z4 @sO @c1 @c2 oT
 rw[hp]at c2 h;simp only[ax,bV,bu,aq]at c2 h
 by_cases hb:need<1\/need>count\/count>255\/(q:Int)<=count
 ·rw[ah hb]at h;injection h with h
  subst h
  by_cases hin:need<1\/need>count\/count>255
  ·by_cases b1:need<1
   ·refine eW call59 func59 ?_;exact z4 @sO @c1 @c2 @c3
   ·by_cases b2:need>count
    ·refine eW call59 func59 ?_;exact z4 @sO @c1 @c2 @c3
    ·have b3:count>255:=oO;refine eW call59 func59 ?_;exact z4 @sO @c1 @c2 @c3
  ·obtain⟨c,rfl⟩: ∃c:Nat,count=c:=⟨count.toNat,oO⟩;have hw: ∀ _:True,IntKind.u64.wrap (c:Int)=c:=fun _=>IntWalk.u64_in _ oO
   have o1:=lH c oO;have o2:=sY (a:=c) (b:=q) oO oO;have o3: ∀ _:True,decide (bc c q>=0)=true:=fun _=>by rw[uT];exact aJ oO
   generalize bc c q=cm at*;refine eW call59 func59 ?_;exact Jl (aN (hw oT) (o3 oT)) @sO @c1 @c2 @c3 @o1 @o2 oT
 rw[ae hb]at h;obtain⟨c,rfl⟩: ∃c:Nat,count=c:=⟨count.toNat,oO⟩;obtain⟨d,rfl⟩: ∃d:Nat,need=(d+1:Nat):=⟨(need-1).toNat,oO⟩;have hd1:(((d+1:Nat):Int)-1).toNat=d:=oO;have hd2: ∀ _:True,IntKind.i64.wrap (((d+1:Nat):Int)-1)=(d:Int):=fun _=>by rw[IntWalk.i64_in _ oO];omega
 rw[hd1]at h;have hm:=ER (sd:=sd) (k:=d) hv (vN hq) (fun g=>by have:=aQ q;rw[g]at this;simp[num]at this;omega) hi oO hl hsd
 have hw: ∀ _:True,IntKind.u64.wrap (c:Int)=c:=fun _=>IntWalk.u64_in _ oO
 have o1:=lH c oO;have o2:=sY (a:=c) (b:=q) oO oO;have o3: ∀ _:True,decide (bc c q>=0)=false:=fun _=>by rw[uT];exact aG oO
 generalize bc c q=cm at*
 cases hM:lU vs sd (aY q) d i []with
 |ok l=>rw[hM]at h;cases h
 |error e'=>
  rw[hM]at h hm;have he:=vk hM;injection h with h
  subst h;simp only[zp]at hm;clear hM;refine eW call59 func59 ?_;exact Jl (aN (hw oT) (aN (o3 oT) (hd2 oT))) @sO @c1 @c2 @c3 @o1 @o2 @hm
theorem gQ (hf:Nat->Option aF) (k:Nat) (l:List Nat):(aD l).flatMap (aU hf (k+1))=[]:=by
 unfold aD
 induction l with
 |nil=>rfl
 |cons x r ih=>simp_all[aU]
theorem Rn (L:List Nat):List.map AV.v (List.flatMap PV.cells (L.map cZ))=aD L:=by
 induction L with
 |nil=>rfl
 |cons x L ih=>simp only[bC,eu,jv,ih];rfl
theorem FT (hq:q<(2^64)) (q0:0<q) (hs:sec<q) (hc:count<=8\/count>255) (hv:vs.all aa=true) (hi:i<=2147483647) (hl:vs.length<1000000) (hsd:sd.length<1000000) {ls:List Nat} {j:Nat} (h:AQ q sec need count vs sd i= .ok (ls,j)):
  aE 59 [N q,N sec,E need,E count,T vs sd i] (.tup [.sl (ls.map cZ),T vs sd (j:Nat),E 0]):=by
 have hW:=jo;have c1:=HS sd (a:=(i:Int)) hl;rw[yT hv hi,ah rfl]at c1;have c2:=Dc (aY q) [[aY sec]] (by simp) (by simp)
 have e2:Cl (aY q) [[aY sec]]=if eY q then 0 else 12:=by
  unfold Cl;rw[tG hq,aQ];simp[vN (show sec<(2^64) by omega)]
 rw[e2]at c2;simp only[bC,bR,LN]at c2;have c3:=tR (q:=aY q) (vN hq) (l:=[aY sec]) (by simpa using vN (show sec<(2^64) by omega)) (by simp)
 rw[show([aY sec].all fun y=>decide (num y<num (aY q)))=true by simp[aQ,hs]]at c3
 simp only[bC,bR]at c3;unfold AQ at h
 cases hp:eY q with
 |false=>rw[hp]at h;cases h
 |true=>
 rw[hp]at c2 h;simp only[ax,bV,bu,aq]at c2 h
 by_cases hb:need<1\/need>count\/count>255\/(q:Int)<=count
 ·rw[ah hb]at h;cases h
 rw[ae hb]at h;obtain⟨c,rfl⟩: ∃c:Nat,count=c:=⟨count.toNat,oO⟩;obtain⟨d,rfl⟩: ∃d:Nat,need=(d+1:Nat):=⟨(need-1).toNat,oO⟩;have hd1:(((d+1:Nat):Int)-1).toNat=d:=oO;have hd2: ∀ _:True,IntKind.i64.wrap (((d+1:Nat):Int)-1)=(d:Int):=fun _=>by rw[IntWalk.i64_in _ oO];omega
 rw[hd1,Int.toNat_natCast]at h;have bq:aa (aY q)=true:=vN hq;have hm:=ER (sd:=sd) (k:=d) hv bq (fun g=>by have:=aQ q;rw[g]at this;simp[num]at this;omega) hi oO hl hsd
 have hw: ∀ _:True,IntKind.u64.wrap (c:Int)=c:=fun _=>IntWalk.u64_in _ oO
 have o1:=lH c oO;have o2:=sY (a:=c) (b:=q) oO oO;have o3: ∀ _:True,decide (bc c q>=0)=false:=fun _=>by rw[uT];exact aG oO
 generalize bc c q=cm at*
 cases hM:lU vs sd (aY q) d i []with
 |error e'=>rw[hM]at h;cases h
 |ok l=>
  rw[hM]at h hm;simp only[xK,dR]at h;obtain⟨rfl,rfl⟩:=h;obtain⟨m1,m2,m3⟩:=ES hv bq hl hi (acc:=[]) (fun _ h=>by cases h) hM
  simp only[List.length_nil,dF]at m1;simp only[zp]at hm;rw[GJ fun x hx=>(m2 x hx).1]at hm
  have hsh: ∀k,wS q sec l (k+1)=wS q sec l k++[(xf q (nI (sec::l.map num)) ((k+1:Nat):Int)).toNat]:=Lb q sec l;have hs0:wS q sec l 0=[]:=rfl;have hsl:=FP q sec l;obtain⟨L,hL⟩: ∃L,L=l.map num:=⟨_,rfl⟩;have lL:L.length=d:=by rw[hL,aC,m1]
  have hLq: ∀x∈sec::L,x<(2^64):=fun x hx=>by
   rcases cb.1 hx with rfl|hx
   ·omega
   ·rw[hL]at hx;obtain⟨y,hy,rfl⟩:=bm.1 hx;have:=(m2 y hy).2;rw[aQ]at this;omega
  rw[<-hL]at hm hsh;have hval:=fun k (hk:k<300)=>B3 hq q0 (cs:=sec::L) hLq (x:=k) oO (by simp;omega)
  have hof:=fun k (hk:k<300)=>lH k oO
  generalize hS:wS q sec l=S at*;have k1:=dp (hsl c);have k2:=eQ (S c);have k3:=dJ (hsl c);have k4:(aD (S c)).length=c:=by rw[bA,hsl]
  have cpos:0<c:=oO;clear hM m2 hL hS hp;have n1:AV.v (.s (aY sec))::aD L=aD (sec::L):=rfl;have n2:(aD (sec::L)).length=1+d:=by rw[bA];simp;omega
  have n3:=dp (l:=sec::L) (n:=1+d) (by simp;omega)
  have n4:=eQ (sec::L);have n5:chunk 1 (1+d) (cZ sec::L.map cZ)=cZ sec::L.map cZ:=dJ (l:=sec::L) (n:=1+d) (by simp;omega)
  refine eW call59 func59 ?_;refine Sz (aN (hw oT) (aN (o3 oT) (aN (hd2 oT) (aN @lL (aN @Rn @n1))))) @sO @c1 @c2 @c3 @o1 @o2 @hm ?_;have n6:(∀x,x∈List.map cZ L->x.cells.length=1)=True:=by
   simp only[eq_iff_iff,iff_true];intro x hx;obtain⟨y,-,rfl⟩:=bm.1 hx;rfl
  have n7:(∀y,y∈aD L->y.one=true)=True:=by
   simp only[eq_iff_iff,iff_true];intro x hx;obtain⟨y,-,rfl⟩:=bm.1 hx;rfl
  by_cases hd0:d=0
  ·have hL0:L=[]:=gb.1 oO;rw[ah hd0];refine dH @n6 ?_;refine af (α:=Nat) (fun j=>c-j) (fun j=>match j with|0=>⟨[(17, .v (.sl ((sec::L).map cZ))),(0, .v (N q)),(9, .p 1000 0 0),(11, .p 1002 0 0),(19, .sn),(86,E' c),(87, .v (.i .i64 0))],[(1000,⟨0,[.v (.sl (vs.map .s)), .v (.s sd), .v (.i .i64 ((i+d:Nat):Int))],false,none⟩),(1002,⟨0,[.sn, .v (.s []), .v (.i .i64 0)],false,some 37⟩)],1073⟩|j+1=>⟨[(17, .v (.sl ((sec::L).map cZ))),(0, .v (N q)),(9, .p 1000 0 0),(11, .p 1002 0 0),(19, .rs 1085 j 0 (j+1) 1),(86,E' c),(87,E' (j+1))],[(1000,⟨0,[.v (.sl (vs.map .s)), .v (.s sd), .v (.i .i64 ((i+d:Nat):Int))],false,none⟩),(1002,⟨0,[.sn, .v (.s []), .v (.i .i64 0)],false,some 37⟩),(1085,⟨j,aD (S (j+1)),true,some 22⟩)],1089⟩) (fun j=>j<=c) 0 (fun j=>by cases j<;>exact bQ rfl) (aI _) ?_ ?_
   ·refine(AS.Le.NG [(17, .sl ((sec::L).map cZ))] [] (fun _ h=>by cases h) (by intro p hp;rw[cR.1 hp];simp[aP,view,aU,hL0,cZ]) (by first|decide|omega) ?_ ?_)<;>simp[dC,dA,aP,ay,AV.bd,AV.bd.bdL]
   ·intro j hj R hR
    cases j with
    |zero=>
     have hgo:=hR 1 oO oO;simp only[hsh,hs0,List.nil_append,show∀y,aD [y]=[AV.v (N y)]from fun _=>rfl]at hgo
     have o4:=hof 1 oO;have v1:=hval 1 oO;rw[show((0+1:Nat):Int)=((1:Nat):Int)from rfl]at hgo
     generalize (xf q (nI (sec::L)) ((1:Nat):Int)).toNat=y at*;clear hR hval hof hsh;exact zg2 @hgo @o4 @v1
    |succ j=>
     have g1:=dp (hsl (j+1));have g2:(aD (S (j+1))).length=j+1:=by rw[bA,hsl]
     by_cases hlt:j+1<c
     ·have hgo:=hR (j+2) oO oO;simp only[hsh (j+1),lV]at hgo;have o4:=hof (j+2) oO;have v1:=hval (j+2) oO;have hw2: ∀ _:True,IntKind.u64.wrap (((j+1:Nat):Int)+1)=((j+2:Nat):Int):=fun _=>by rw[IntWalk.u64_in _ oO];omega
      rw[show((j+1+1:Nat):Int)=((j+2:Nat):Int)from rfl]at hgo
      generalize (xf q (nI (sec::L)) ((j+2:Nat):Int)).toNat=y at*;clear hR hval hof hsh;refine qC (aN (hw2 oT) (aN @g1 @g2)) @o4 @v1 ?_;refine hgo _ ?_;refine lG ?_;all_goals exact fun c hc=>hc.elim (fun h=>dS h) (fun h=>by rw[h];rfl)
     ·obtain rfl:j+1=c:=oO;clear hR hval hof hsh;exact gi (aN @k1 (aN @k2 (aN @k3 (aN @k4 @dE))))
  ·rw[ae hd0];refine dH (aN @n6 @n7) ?_;refine af (α:=Nat) (fun j=>c-j) (fun j=>match j with|0=>⟨[(17, .v (.sl ((sec::L).map cZ))),(0, .v (N q)),(9, .p 1000 0 0),(11, .p 1002 0 0),(19, .sn),(86,E' c),(87, .v (.i .i64 0))],[(1000,⟨0,[.v (.sl (vs.map .s)), .v (.s sd), .v (.i .i64 ((i+d:Nat):Int))],false,none⟩),(1002,⟨0,[.sn, .v (.s []), .v (.i .i64 0)],false,some 37⟩)],1073⟩|j+1=>⟨[(17, .v (.sl ((sec::L).map cZ))),(0, .v (N q)),(9, .p 1000 0 0),(11, .p 1002 0 0),(19, .rs 1085 j 0 (j+1) 1),(86,E' c),(87,E' (j+1))],[(1000,⟨0,[.v (.sl (vs.map .s)), .v (.s sd), .v (.i .i64 ((i+d:Nat):Int))],false,none⟩),(1002,⟨0,[.sn, .v (.s []), .v (.i .i64 0)],false,some 37⟩),(1085,⟨j,aD (S (j+1)),true,some 22⟩)],1089⟩) (fun j=>j<=c) 0 (fun j=>by cases j<;>exact bQ rfl) (aI _) ?_ ?_
   ·refine(AS.Le.NG [(17, .sl ((sec::L).map cZ))] [1068] (fun m hm=>by rw[cR.1 hm];exact⟨by decide,rfl⟩) (by intro p hp;rw[cR.1 hp];simp[aP,ay,view,aU,n2,n3,n4,n5,dE,gQ]) (by first|decide|omega) ?_ ?_)<;>simp[dC,dA,aP,ay,AV.bd,AV.bd.bdL]
   ·intro j hj R hR
    cases j with
    |zero=>
     have hgo:=hR 1 oO oO;simp only[hsh,hs0,List.nil_append,show∀y,aD [y]=[AV.v (N y)]from fun _=>rfl]at hgo
     have o4:=hof 1 oO;have v1:=hval 1 oO;rw[show((0+1:Nat):Int)=((1:Nat):Int)from rfl]at hgo
     generalize (xf q (nI (sec::L)) ((1:Nat):Int)).toNat=y at*;clear hR hval hof hsh;exact zg2 @hgo @o4 @v1
    |succ j=>
     have g1:=dp (hsl (j+1));have g2:(aD (S (j+1))).length=j+1:=by rw[bA,hsl]
     by_cases hlt:j+1<c
     ·have hgo:=hR (j+2) oO oO;simp only[hsh (j+1),lV]at hgo;have o4:=hof (j+2) oO;have v1:=hval (j+2) oO;have hw2: ∀ _:True,IntKind.u64.wrap (((j+1:Nat):Int)+1)=((j+2:Nat):Int):=fun _=>by rw[IntWalk.u64_in _ oO];omega
      rw[show((j+1+1:Nat):Int)=((j+2:Nat):Int)from rfl]at hgo
      generalize (xf q (nI (sec::L)) ((j+2:Nat):Int)).toNat=y at*;clear hR hval hof hsh;refine qC (aN (hw2 oT) (aN @g1 @g2)) @o4 @v1 ?_;refine hgo _ ?_;refine lG ?_;all_goals exact fun c hc=>hc.elim (fun h=>dS h) (fun h=>by rw[h];rfl)
     ·obtain rfl:j+1=c:=oO;clear hR hval hof hsh;exact gi (aN @k1 (aN @k2 (aN @k3 (aN @k4 @dE))))
end Go.Proofs.Tryz
namespace Go.Proofs.Tryz
open Go Go.Dom
theorem B2 (l:List (Bool×Bytes)) (hl:l.length<1000000):aE 161 [.sl (l.map cT)] (.b (l.all cz)):=by
 have l5:(l.map cT).length=l.length:=aC ..;refine eW call161 func161 ?_;repeat' first|simp only[go_sem,seval,l5]|refine oE ?_|apply xX<;>intro hc
 refine af (α:=Nat) (fun i=>l.length-i) (fun i=>⟨[(5, .v (.sl (l.map cT))),(6,E' l.length),(7,E' i)],[],_⟩) (fun i=>i<=l.length/\(l.drop i).all cz=l.all cz) 0 (fun _=>aA _) ⟨aI _,rfl⟩ ?_ ?_
 ·exact lE
 ·rintro i ⟨hi,hf⟩ R hR;rw[<-hf]
  by_cases hlt:i<l.length
  ·have e1:=getD_map cT l fU hlt;have hgo:=hR (i+1);rw[<-hf]at hgo;rw[aW fU hlt,List.all_cons]at hgo⊢;obtain⟨x,hx⟩: ∃x,x=l.getD i fU:=⟨_,rfl⟩;rw[<-hx]at e1 hgo⊢;clear hx hf hR;obtain⟨n,a⟩:=x;have hv:=hO n a;have e:cz (n,a)=(aa a&& !(n&&a==[])):=rfl;rw[e]at hgo⊢;clear e;simp only[cT]at e1;generalize (aa a&& !(n&&a==[]))=b at*;cases b
   ·repeat' first|simp only[go_sem,seval,l5,e1]|refine cP hv ?_|refine oE ?_|apply xX<;>intro hc
    all_goals simp
   ·have hgo:=hgo ⟨oO,by simp⟩ oO
    repeat' first|simp only[go_sem,seval,l5,e1]|refine cP hv ?_|refine oE ?_|apply xX<;>intro hc
    refine hgo _ ?_;exact lE
  ·obtain rfl:i=l.length:=oO;rw[da];repeat' first|simp only[go_sem,seval,l5]|refine oE ?_|apply xX<;>intro hc
   all_goals rfl
end Go.Proofs.Tryz
namespace Go.Proofs.Tryz
open Go Go.Dom Go.Num
theorem Ga:dL Zp 2:=⟨fun _=>rfl,fun x y hy=>by simp[Zp,cT,nf,PV.cells]at hy;rcases hy with rfl|rfl<;>rfl,fun h=>oO,fun _ x=>rfl⟩
def Nu (vs:List Bytes) (sd:Bytes) (j:Nat):Except Int (List Int)->PV
 | .ok ms=> .tup [.sl (ms.map Zp),T vs sd j,E 0]
 | .error e=> .tup [.sl [],T [] [] 0,E e]
theorem CH {c sl b:Bytes} (hr:sP c sl) (vb:aa b=true) (hb:b≠[]) (lb:b.length<=16):1<=qk c sl b/\3*qk c sl b<dZ:=by
 have h1:=hr.c2;have h2:=hr.s2;have h3:=CO vb hb;unfold qk;refine⟨pD (pD oO oO) oO,?_⟩;have g1:num sl<256^8:=bE (cC sl) (dc oC hr.ls);have g2:num c<256^8:=bE (cC c) (dc oC hr.lc);have g3:num b<256^16:=bE (cC b) (dc oC lb);have g4:num sl*num c*num b<=256^8*256^8*256^16:=iP (iP (kX g1) (kX g2)) (kX g3);exact eX (jt 3 g4) (by unfold dZ;decide+kernel)
theorem Jm (ms:List Int) (z:Int):aX Zp (ms++[z])=aX Zp ms++[.v (.b (zs z)), .v (.s (zb z))]:=by rw[bU];rfl

def XM (vs:List Bytes) (sd:Bytes):Except Int (Bytes×List Int×Nat)->PV
 | .ok (ch,rs,j)=> .tup [.agg [.s ch, .sl (rs.map Zp), .sl [], .sl []],T vs sd j,E 0]
 | .error e=> .tup [.agg [.s [], .sl [], .sl [], .sl []],T [] [] 0,E e]
end Go.Proofs.Tryz
namespace Go.Proofs.Tryz
open Go Go.Dom
end Go.Proofs.Tryz
namespace Go.Proofs.Tryz
open Go Go.Dom Go.Num
end Go.Proofs.Tryz
namespace Go.Proofs.Tryz
open Go Go.Dom Go.Num
end Go.Proofs.Tryz
namespace Go.Proofs.Tryz
open Go Go.Dom Go.Num
def Uu:Bytes:=[98,97,110,107]
def K0:Key:=⟨Uu,[77],[],[],[4],[[],[]],[],[]⟩
def K1:Key:=⟨Uu,[77],[],[64],[4],[[23],[1]],[16],[60]⟩
abbrev KR:aF:=⟨0,[.v (.s []), .v (.s [])],false,none⟩
def K2:Key:=⟨Uu,[77],[],[64],[4],[[23],[1]],[64],[60]⟩
def Key.rb (k:Key):List Bytes:=k.z::k.u::k.h::k.r
def Key.l (k:Key):List Bytes:=k.m::k.o::k.s::k.rb
end Go.Proofs.Tryz
namespace Go.Proofs.Tryz
open Go Go.Dom
def aad (k:Key):List Bytes:=k.z::k.u::k.h::k.r
structure abb (k:Key):Prop where
 o:k.o=[]
 gd:jg k.m []=true
 s:zX k.m [] k.s=true
 t: ∀x∈aad k,zX k.m [] x=true
 r:k.r.length<=18
end Go.Proofs.Tryz
namespace Go.Proofs.Tryz
open Go Go.Dom Go.Num

theorem Eo (n:Bytes) (hn:n.length<=60):aE 57 [.s n] (.b (mi n)):=by
 refine eW call57 func57 ?_;refine qB ?_;refine af (α:=Nat) (fun i=>n.length-i) (fun i=>⟨[(0, .v (.s n)),(7, .v (.i .i64 n.length)),(8, .v (.i .i64 (i:Nat)))],[],_⟩) (fun i=>i<=n.length/\ ∀j,j<i->uP j (JH n j)=false) 0 (fun _=>aA _) ⟨aI _,fun j hj=>oO⟩ ?_ ?_
 ·exact lE
 ·rintro i ⟨hi,ha⟩ R hR
  by_cases hlt:i<n.length
  ·have hlt':(i:Int)<n.length:=oO;have hbad:uP i (JH n i)=true->mi n=false:=by
    intro h;unfold mi;have:(List.range n.length).all (fun i=> !uP i (JH n i))=false:=by
     rw[fz];intro g;have:=bH.1 g i (dW.2 hlt);rw[h]at this;cases this
    rw[this];rfl
   have hgo:uP i (JH n i)=false-> ∀s',(AS.mk [(0, .v (.s n)),(7, .v (.i .i64 n.length)),(8, .v (.i .i64 ((i+1:Nat):Int)))] [] 1004).Le s'->R s':=by
    intro h s' hs;refine hR (i+1) ⟨oO,fun j hj=> ?_⟩ oO s' hs
    by_cases e:j=i
    ·subst e;exact h
    ·exact ha j oO
   clear hR ha;obtain⟨c,hcc⟩: ∃c,JH n i=c:=⟨_,rfl⟩;have hcd:((n.getD i 0).toNat:Int)=c:=hcc;have h0:0<=c/\c<256:=by rw[<-hcd];have:=(n.getD i 0).toNat_lt;omega
   rw[hcc]at hbad hgo;unfold uP at hbad hgo;obtain⟨b1,h1⟩: ∃b,decide (c>=97)=b:=⟨_,rfl⟩;obtain⟨b2,h2⟩: ∃b,decide (c<=122)=b:=⟨_,rfl⟩;obtain⟨b3,h3⟩: ∃b,decide (c>=65)=b:=⟨_,rfl⟩;obtain⟨b4,h4⟩: ∃b,decide (c<=90)=b:=⟨_,rfl⟩;obtain⟨b5,h5⟩: ∃b,((i:Int)==0)=b:=⟨_,rfl⟩;obtain⟨b6,h6⟩: ∃b,(c !=95)=b:=⟨_,rfl⟩;obtain⟨b7,h7⟩: ∃b,decide (c<48)=b:=⟨_,rfl⟩;obtain⟨b8,h8⟩: ∃b,decide (c>57)=b:=⟨_,rfl⟩;rw[h1,h2,h3,h4,h5,h6,h7,h8]at hbad hgo;have e1:decide ((i:Int)<(n.length:Int))=true:=aJ hlt';repeat' first|simp only[go_sem,seval,hcd,h1,h2,h3,h4,h5,h6,h7,h8,e1]|refine oE ?_|apply xX<;>intro hc
   all_goals clear h1 h2 h3 h4 h5 h6 h7 h8 hcd hcc h0
   all_goals try simp only[fJ,Bool.not_eq_false']at*
   all_goals subst_vars
   all_goals first
     |(refine hgo rfl _ ?_;(refine AS.Le.of (by first|decide|omega) ?_ ?_<;>simp[dC,dA,aP,ay,AV.bd,AV.bd.bdL,u8,ar,au,az]);done)
     |(rw[hbad rfl];done)
     |(cases b6<;>first|(simp at hc;done)|(refine hgo rfl _ ?_;(refine AS.Le.of (by first|decide|omega) ?_ ?_<;>simp[dC,dA,aP,ay,AV.bd,AV.bd.bdL,u8,ar,au,az]);done)|(rw[hbad rfl];done)|fail)
     |fail
  ·obtain rfl:i=n.length:=oO;have e:mi n=(!(n==[])&&decide (n.length<=32)):=by
    unfold mi;have:(List.range n.length).all (fun i=> !uP i (JH n i))=true:=by
     rw[bH];intro j hj;rw[ha j (dW.1 hj)];rfl
    rw[this,cr]
   rw[e];have e2:decide ((n.length:Int)<=32)=decide (n.length<=32):=by rw[mD];omega
   clear ha hR e;exact Y6
structure CK where
 name:Bytes
 m:Bytes
 o:Bytes
 g:Bytes
 y:Bytes
 need:Int
 sh:List Bytes
def CK.pv (c:CK):PV:= .agg [.s c.name, .s c.m, .s c.o, .s c.g, .s c.y,E c.need, .sl (c.sh.map .s)]
abbrev CK0:PV:= .agg [.s [], .s [], .s [], .s [], .s [],E 0, .sl []]
theorem sW (e:Int):aE 56 [E e] (.tup [CK0, .sl [],T [] [] 0,E e]):=by
 refine eW call56 func56 ?_;exact z0
theorem Es (c:CK):aE 32 [c.pv] (.agg [.s c.o, .s [2]]):=by
 unfold CK.pv;refine eW call32 func32 ?_;exact z1 @WU
def mP (c:CK) (i:Nat):Bytes:=[99,111,117,114,116,32]++c.name++[46]++Lib.decDigits i
theorem H0 (c:CK) (hn:c.name.length<=1000) {i:Nat} (hi:i<100):aE 33 [c.pv,E i] (.s (mP c i)):=by
 have h:=HP i oO;have hl:(Lib.decDigits i).length<=2:=by
  have: ∀i,i<100->(Lib.decDigits i).length<=2:=by decide+kernel
  exact this i hi
 unfold CK.pv mP;generalize Lib.decDigits i=d at*;refine eW call33 func33 ?_;repeat' first|simp only[go_sem,seval,bT]|refine cP h ?_|refine oE ?_|apply xX<;>intro hc
 all_goals rfl
theorem H2 (t b:Bytes):aE 77 [.s t, .s b] (dx.pv ⟨0,t,[Al b 0]⟩):=by
 unfold dx.pv;refine eW call77 func77 ?_;exact z1 @PO
def ey (c:CK) (i:Nat) (a d:Bytes):cU:=⟨[(c.m,c.o)],[[]],[⟨0,c.sh.getD (i-1) [],[Al c.g 0]⟩,⟨0,d,[Al a 0]⟩]⟩
theorem H7 (c:CK) {i:Nat} (h1:1<=i) (hi:i<=c.sh.length) (hl:c.sh.length<1000000) (a d:Bytes):aE 34 [c.pv,E i, .s a, .s d] (ey c i a d).pv:=by
 obtain⟨j,rfl⟩: ∃j,i=j+1:=⟨i-1,oO⟩;have e1:=eN (l:=c.sh) (x:=j) oO;have hw: ∀ _:True,IntKind.i64.wrap (((j+1:Nat):Int)-1)=(j:Int):=fun _=>by rw[IntWalk.i64_in _ oO];omega
 have l1:(c.sh.map PV.s).length=c.sh.length:=aC ..;unfold ey CK.pv cU.pv;rw[iO];have c1:=H2 (c.sh.getD j []) c.g;have c2:=H2 d a;generalize c.sh.getD j []=t at*;simp only[dx.pv,bC,bR,eT.pv,Al]at c1 c2⊢;refine eW call34 func34 ?_;exact B8 (aN (hw oT) (aN @l1 @e1)) @c1 @c2
def qi (c:CK) (i:Int) (xs:List Bytes):Int:=if i<1\/i>c.sh.length then 2 else if !(xs.all (jb c.m c.o))then 13 else 0
theorem Cm (c:CK) (lm:c.m.length<=8) (lo:c.o.length<=8) (hl:c.sh.length<1000000) (i:Int) {xs:List Bytes} (hx:xs.length<1000000):aE 27 [c.pv,E i, .sl (xs.map .s)] (E (qi c i xs)):=by
 have l1:(c.sh.map PV.s).length=c.sh.length:=aC ..;have l2:(xs.map PV.s).length=xs.length:=aC ..;obtain⟨name,m,o,g,y,need,sh⟩:=c;unfold qi CK.pv;simp only at*
 by_cases h:i<1\/i>(sh.length:Int)
 ·rw[ah h]
  by_cases h1:i<1
  ·refine eW call27 func27 ?_;exact gi @l1
  ·have h2:i>(sh.length:Int):=oO;refine eW call27 func27 ?_;exact gi @l1
 rw[ae h];have h1: ¬i<1:=fun g=>h (.inl g)
 have h2: ¬i>(sh.length:Int):=fun g=>h (.inr g)
 refine eW call27 func27 ?_;refine dH @l1 ?_;refine af (α:=Nat) (fun i=>xs.length-i) (fun i=>⟨[(3, .p 1000 0 0),(18, .v (.sl (xs.map .s))),(19,E' xs.length),(20,E' i)],[(1000,⟨0,[.v (.s name), .v (.s m), .v (.s o), .v (.s g), .v (.s y), .v (E need), .v (.sl (sh.map .s))],false,none⟩)],_⟩) (fun i=>i<=xs.length/\(xs.drop i).all (jb m o)=xs.all (jb m o)) 0 (fun _=>aA _) ⟨aI _,rfl⟩ ?_ ?_
 ·exact lE
 ·rintro k ⟨hi,hf⟩ R hR;rw[<-hf]
  by_cases hlt:k<xs.length
  ·have e1:=eN hlt;have hgo:=hR (k+1);rw[<-hf]at hgo;rw[aW [] hlt,List.all_cons]at hgo⊢;generalize xs.getD k []=x at*;have hv:=yR lm lo x;clear hR hf;generalize jb m o x=b at*;cases b
   ·repeat' first|simp only[go_sem,seval,l2,e1]|refine cP hv ?_|refine oE ?_|apply xX<;>intro hc
    all_goals simp
   ·have hgo:=hgo ⟨oO,by simp⟩ oO
    exact gV (aN @l2 @e1) @hgo @hv
  ·obtain rfl:k=xs.length:=oO;rw[da];exact gi @l2
theorem Cn {n:Nat} (h:n<(2^64)):aE 100 [E n] (N n):=by
 have h1:=lH n h;have hw: ∀ _:True,IntKind.u64.wrap (n:Int)=n:=fun _=>IntWalk.u64_in _ oO
 refine eW call100 func100 ?_;exact m9 (hw oT) @h1
def me (n:Nat):PV:=E n
abbrev AG (m o g y:Bytes) (pts:List Nat):List PV:=[.pt (.agg [.sl (pts.map cZ)]) 0, .pt (.agg [.fn (.func 100)]) 0, .pt (.agg [.s m, .s o, .s g, .s y]) 0]
theorem Gv (m o g y:Bytes) {pts:List Nat} (h0:pts≠[]) (hl:pts.length<1000000) (hb: ∀a∈pts,a<(2^64)):aE 49 [.agg [.s m, .s o, .s g, .s y], .sl (pts.map me)] (.fc 101 [] (AG m o g y pts)):=by
 have hpos:0<pts.length:=iX.2 h0;have hc:=fun i (hi:i<pts.length)=>Cn (hb _ (an 0 hi))
 have hE:=fun i (hi:i<pts.length)=>getD_map me pts 0 hi
 obtain⟨n,hn⟩: ∃n,n=pts.length:=⟨_,rfl⟩;have lP:pts.length=n:=hn.symm;refine eW call49 func49 ?_;refine dH @lP ?_;refine ai ?_;have e1:=hE 0 hpos;have c1:=hc 0 hpos;have t1:pts.take 1=[pts.getD 0 0]:=by rw[cF 0 hpos];simp
 simp only[me]at e1;generalize pts.getD 0 0=x at*;refine oZ (aN @lP @e1) @c1 ?_;refine af (α:=Nat) (fun j=>n-(j+1)) (fun j=>⟨[(2, .p 1000 0 0),(5, .p 1002 0 0),(6, .p 1004 0 0),(9, .v (.sl (pts.map me))),(10,E' n),(11,E' (j+1))],[(1000,⟨0,[.v (.s m), .v (.s o), .v (.s g), .v (.s y)],false,none⟩),(1002,⟨0,[.v (.fn (.func 100))],false,some 182⟩),(1004,⟨0,[.rs 1017 j 0 (j+1) 1],false,some 27⟩),(1017,⟨j,aD (pts.take (j+1)),true,some 22⟩)],1021⟩) (fun j=>j+1<=n) 0 (fun _=>bQ rfl) oO ?_ ?_
 ·simp only[dF,t1,show aD [x]=[AV.v (N x)]from rfl]
  exact lE
 ·intro j hj R hR;have hlm:(pts.take (j+1)).length=j+1:=by rw[bL];omega
  have g1:=dp hlm;have g2:(aD (pts.take (j+1))).length=j+1:=by rw[bA,hlm]
  by_cases hlt:j+1<n
  ·have hgo:=hR (j+1) oO oO;have e2:=hE (j+1) oO;have c2:=hc (j+1) oO;rw[cF 0 (show j+1<pts.length by omega),lV]at hgo
   simp only[me]at e2;generalize pts.getD (j+1) 0=z at*;clear hR hE hc e1 c1;refine jm (aN @lP (aN @e2 (aN @g1 @g2))) @c2 ?_;refine hgo _ ?_;refine lG ?_;all_goals exact fun c hc=>hc.elim (fun h=>dS h) (fun h=>by rw[h];rfl)
  ·obtain rfl:j+1=n:=oO;have hT:pts.take (j+1)=pts:=cl oO;rw[hT]at g1 g2⊢;have g3:=eQ pts;have g4:=dJ (l:=pts) lP;clear hR hE hc e1 c1;exact gi (aN @lP (aN @g1 (aN @g2 (aN @g3 (aN @g4 @dE)))))
def uv (n i:Nat):List Nat:=(List.replicate n 0).set i 1
noncomputable def oI (q:Nat) (pts:List Nat) (x i:Nat):Nat:=GH q pts (uv pts.length i) x
noncomputable def tj (q:Nat) (pts:List Nat) (x k:Nat):List (Bool×Bytes):=(List.range k).map fun i=>(false,aY (oI q pts x i))
noncomputable def wX (m q:Nat) (pts gN:List Nat) (x:Nat):Nat:=wO m (gN.zip (tj q pts x pts.length))
theorem Iw {q:Nat} (h0:0<q) (pts:List Nat) (x i:Nat):oI q pts x i<q:=by
 unfold oI GH;have:=yW (q:=(q:Int)) oO x (nI (sC q pts (uv pts.length i)));omega
theorem Ch {m o:Bytes} (lm:m.length<=8) (lo:o.length<=8) (hE:gE m o=0) (ho:o≠[]) (hp:eY (num o)=true) (g y:Bytes) {pts gN:List Nat} (h0:pts≠[]) (hl:gN.length=pts.length) (hd:pts.Nodup) (hb: ∀a∈pts,a<=8/\a<num o) (h256:pts.length<=256) (he: ∀x∈gN,GP m o x) {x:Nat} (hx:x<num o):
  aE 101 (.sl (gN.map cZ)::E x::AG m o g y pts) (N (wX (num m) (num o) pts gN x)):=by
 obtain⟨vm,vo,m1,-,hoq⟩:=jf hE;have hq:=eR lo;have h2:=y8 hp;have hg:=fun i (hi:i<pts.length)=>I9 hp hd hb hi
 obtain⟨q,hqq⟩: ∃q,q=num o:=⟨_,rfl⟩;have eo:(PV.s o)=N q:=by rw[hqq,eH vo]
 rw[<-hqq]at hp hb hx hq h2 hg⊢;have hpos:0<pts.length:=iX.2 h0;have huv: ∀i,∀a∈uv pts.length i,a<q:=fun i a ha=>by
  unfold uv at ha;rcases List.mem_or_eq_of_mem_set ha with h|h
  ·have:=(DJ.1 h).2;omega
  ·omega
 have hI:=fun i=>Ht hq hp (xs:=pts) (ys:=uv pts.length i) (x:=x) (by simp[uv]) h256 (fun a h=>(hb a h).2) (huv i) hx hd hg
 have hlt:=fun i=>Iw (q:=q) oO pts x i
 have hF:=fun i=>qD (a:=aY (oI q pts x i)) (vN (by have:=hlt i;omega))
 have hP:=xd lm lo hE (xs:=gN) (es:=tj q pts x pts.length) he (fun e h=>by
  obtain⟨i,-,rfl⟩:=bm.1 h;unfold cz;simp[vN (show oI q pts x i<(2^64) by have:=hlt i;omega)]) (by simp[tj,hl]) oO
 have hc1:=Cn (n:=1) oC;have hcx:=Cn (n:=x) oO;have hsn: ∀k,tj q pts x (k+1)=tj q pts x k++[(false,aY (oI q pts x k))]:=fun k=>by
  unfold tj;rw[re,jv];rfl
 have hel: ∀k,(tj q pts x k).length=k:=fun k=>by simp[tj]
 have he0:tj q pts x 0=[]:=rfl;unfold wX;obtain⟨n,hn⟩: ∃n,n=pts.length:=⟨_,rfl⟩;have lP:pts.length=n:=hn.symm;simp only[lP]at hI hP⊢;have hI: ∀i,aE 102 [N q, .sl (pts.map cZ), .sl ((uv n i).map cZ),N x] (.tup [N (oI q pts x i),E 0]):=fun i=>by unfold oI;rw[lP];exact hI i
 simp only[G,AG]at hP⊢;rw[eo]at hP⊢;generalize tj q pts x=L at*;generalize oI q pts x=la at*;clear hg hlt huv he hd hb hE;have u0:(aD (List.replicate n 0)).length=n:=by rw[bA];simp
 have u1: ∀i,i<n->List.take i (aD (List.replicate n 0))++[AV.v (N 1)]++List.drop (i+1) (aD (List.replicate n 0))=aD (uv n i):=fun i hi=>dU (x:=1) (by simpa using hi)
 have u2:AV.v (N 1)::List.drop 1 (aD (List.replicate n 0))=aD (uv n 0):=u1 0 oO;have ul: ∀i,(uv n i).length=n:=fun i=>by simp[uv]
 have x1:=fun i=>dp (ul i)
 have x2:=fun i=>eQ (uv n i)
 have x3:=fun i=>dJ (ul i)
 have x4: ∀i,(aD (uv n i)).length=n:=fun i=>by rw[bA,ul]
 have r1: ∀k,aX cT (L (k+1))=aX cT (L k)++[.v (.b false), .v (N (la k))]:=fun k=>by rw[hsn,bU];rfl
 refine eW call101 func101 ?_;refine dH @lP ?_;refine af (α:=Nat) (fun j=>n-j) (fun j=>match j with|0=>⟨[(0, .v (.sl (gN.map cZ))),(1, .v (E x)),(2, .v (.pt (.agg [.sl (pts.map cZ)]) 0)),(3, .v (.pt (.agg [.fn (.func 100)]) 0)),(4, .v (.pt (.agg [.s m,N q, .s g, .s y]) 0)),(15, .v (.sl (pts.map cZ))),(16,E' n),(8, .sn),(17, .v (.i .i64 0))],[],1005⟩|j+1=>⟨[(0, .v (.sl (gN.map cZ))),(1, .v (E x)),(2, .v (.pt (.agg [.sl (pts.map cZ)]) 0)),(3, .v (.pt (.agg [.fn (.func 100)]) 0)),(4, .v (.pt (.agg [.s m,N q, .s g, .s y]) 0)),(15, .v (.sl (pts.map cZ))),(16,E' n),(8, .rs 1036 j 0 (j+1) 2),(17,E' (j+1))],[(1036,⟨j,aX cT (L (j+1)),true,some 77⟩)],1040⟩) (fun j=>j<=n) 0 (fun j=>by cases j<;>exact bQ rfl) (aI _) ?_ ?_
 ·show AS.Le _ _;exact lE
 ·intro j hj R hR
  cases j with
  |zero=>
   have hgo:=hR 1 oO oO;simp only[r1,he0,show aX cT []=[]from rfl,List.nil_append]at hgo
   have f0:=hF 0;have i0:=hI 0;generalize la 0=l0 at*;clear hR hF hI;repeat' first|simp only[go_sem,seval,lP,fX,u0,u2]|refine cP hc1 ?_|refine cP hcx ?_|(refine lf [1010] i0 rfl (by simp[aU,ay,x1,x2,x3,x4,gQ]) (by simp[bz,view,ay,x1,x2,x3,x4,dE]) ?_)|refine cP f0 ?_|refine oE ?_|apply xX<;>intro hc
   refine hgo _ ?_;exact lE
  |succ j=>
   have q1:=cj jA (L (j+1));have q2:=cq jA (L (j+1));rw[hel]at q1 q2
   by_cases hlt:j+1<n
   ·have hgo:=hR (j+2) oO oO;simp only[r1 (j+1)]at hgo;have f0:=hF (j+1);have i0:=hI (j+1);have u3:=u1 (j+1) hlt;have ht: ∀ _:True,((j:Int)+1).toNat=j+1:=fun _=>oO
    generalize la (j+1)=l0 at*;clear hR hF hI;repeat' first|simp only[go_sem,seval,lP,fX,u0,u3,q1,q2,ht oT]|refine cP hc1 ?_|refine cP hcx ?_|(refine lf [1045] i0 rfl (by simp[aU,ay,x1,x2,x3,x4,gQ]) (by simp[bz,view,ay,x1,x2,x3,x4,dE]) ?_)|refine cP f0 ?_|refine oE ?_|apply xX<;>intro hc
    refine hgo _ ?_;refine lG ?_;all_goals exact fun c hc=>by rcases hc with hc|rfl|rfl<;>first|exact cL hc|rfl
   ·obtain rfl:j+1=n:=oO;have q3:=dQ jA (L (j+1));have q4:=cJ jA (L (j+1));rw[hel]at q4;clear hR hF hI;repeat' first|simp only[go_sem,seval,lP,q1,q2]|(refine lf [1036] hP rfl (by simp[aU,ay,q1,q2,q3,q4,px]) (by simp[bz,view,ay,q1,q2,q3,q4,ec]) ?_)|refine oE ?_|apply xX<;>intro hc
    all_goals rfl
end Go.Proofs.Tryz
namespace Go.Proofs.Tryz
open Go Go.Dom

theorem EE {c:Bytes} {nv:Nat} {ch:Bytes} {rs:List (Bool×Bytes)} (h:fP c nv ch rs [] []=0):aa ch=true/\rs.all cz=true/\rs.length=nv/\ ¬num c<=num ch:=by
 unfold fP at h
 split at h
 ·exact aM h oC
 ·rename_i ho
  split at h
  ·exact aM h oC
  ·rename_i hm
   split at h
   ·exact aM h oC
   ·rename_i hc;simp only[fJ,DT,ba]at ho;exact⟨ho.1.1.1,ho.1.1.2,im fun h=>hm (.inl h),hc⟩
theorem Fv:aE 212 [B0] (.sl []):=by
 refine eW call212 func212 ?_;exact SA
theorem Om (n:Bytes):aE 213 [C0,B0, .s n] (.b true):=by
 refine eW call213 func213 ?_;exact z0
