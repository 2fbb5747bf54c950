/-
  Part of the proof, part Z26. Own work.
-/
import Derived.Test.YtmobkhegihemeaaGreatDoorZ24
import Derived.Test.YtmobkhegihemeaaGreatDoorZ25
set_option linter.all false
namespace Go.Num
def Pr (n:Nat):Prop:=2≤n∧ ∀d,d∣n→d=1∨d=n
theorem Pr.K0 {p a:Nat} (h:Pr p) (ha: ¬p∣a):Nat.Coprime a p:=by
 rcases h.2 _ (Nat.gcd_dvd_right a p)with e|e
 ·exact e
 ·exact absurd (e▸Nat.gcd_dvd_left a p) ha
def bI:List Nat:=[2,3,5,7,11,13,17,19,23,29,31,37]
def Ow:Nat→Nat→Nat
 |0,_=>0
 |f+1,n=>if n%2=1 then 0 else Ow f (n/2)+1
def Lv:Nat→Nat→Nat→Bool
 |0,_,_=>false
 |k+1,x,n=>x*x%n==n-1||Lv k (x*x%n) n
def rH (n s d a:Nat):Bool:=(a%n)^d%n==1||(a%n)^d%n==n-1||Lv (s-1) ((a%n)^d%n) n
def cX (n:Nat):Bool:=
 if n<2 then false else
 match bI.find? fun p=>n%p==0 with
 |some p=>n==p
 |none=>bI.all fun a=>rH n (Ow 64 (n-1)) ((n-1)/2^Ow 64 (n-1)) a
def Ep (n:Nat):Bool:=cX n&&cX ((n-1)/2)
end Go.Num
namespace Go.Proofs.YtmobkhegihemeaaGreatDoor
open Go Go.Dom
set_option maxRecDepth 100000
set_option maxHeartbeats 4000000
def ml (l:List Bytes) (m:Bytes):Int:=if l.all aa&&aa m then(if m=[]then 11 else 0)else 3
theorem MA (nm:Nat) (a m:Bytes):eL Tryz.prog 161 nm [] [.fs [.s a], .fs [.s m]] (.v (E (ml [a] m))) []:=by
 refine eL.w mixed Tryz.call161 Tryz.func161 rfl (fh.1 _ _ _ (by cbv)) (fh.2 _ _ (by cbv)) (obs:=[]) (args:=[.fs [.s a], .fs [.s m]]) (fs:=[]) (j:=none) (nw:=none) (v:= .v (E (ml [a] m))) (ns:=[]) (obsA:=[]) rfl ?_ (by simp) (by simp) rfl rfl (by simp[aJ,AV.aC]) (by simp[AV.aC]) (by simp[cL,outs])
 have va:=aG a;have vm:=aG m;simp only[go_sem,seval];repeat' first|simp only[go_sem,seval,true_or,or_true,false_or,or_false,Option.some.injEq,dR,ca,dF,cZ,cY,cl,jr,jJ,dx,dK,bu,az,AV.aC,AV.aC.renL,ar,List.getD_cons_zero,List.getD_cons_succ]|refine cP va ?_|refine cP vm ?_|(refine ae ?_)|refine sB ?_|(first|apply pX|apply bX)<;>intro hc|refine⟨oD,?_⟩|exact oD|fail
 all_goals simp_all[ml]
theorem uA (nm:Nat) (a b m:Bytes):eL Tryz.prog 161 nm [] [.fs [.s a, .s b], .fs [.s m]] (.v (E (ml [a,b] m))) []:=by
 refine eL.w mixed Tryz.call161 Tryz.func161 rfl (fh.1 _ _ _ (by cbv)) (fh.2 _ _ (by cbv)) (obs:=[]) (args:=[.fs [.s a, .s b], .fs [.s m]]) (fs:=[]) (j:=none) (nw:=none) (v:= .v (E (ml [a,b] m))) (ns:=[]) (obsA:=[]) rfl ?_ (by simp) (by simp) rfl rfl (by simp[aJ,AV.aC]) (by simp[AV.aC]) (by simp[cL,outs])
 have va:=aG a;have vb:=aG b;have vm:=aG m;simp only[go_sem,seval];repeat' first|simp only[go_sem,seval,true_or,or_true,false_or,or_false,Option.some.injEq,dR,ca,dF,cZ,cY,cl,jr,jJ,dx,dK,bu,az,AV.aC,AV.aC.renL,ar,List.getD_cons_zero,List.getD_cons_succ]|refine cP va ?_|refine cP vb ?_|refine cP vm ?_|(refine ae ?_)|refine sB ?_|(first|apply pX|apply bX)<;>intro hc|refine⟨oD,?_⟩|exact oD|fail
 all_goals simp_all[ml]
theorem Li {a m:Nat} (ha:a<18446744073709551616) (hm:m<18446744073709551616) (h0:0<m):ml [aI a] (aI m)=0:=by
 have:aI m≠[]:=fun h=>by rw[ep]at h;omega
 simp[ml,vN ha,vN hm,this]
theorem tu {a m:Nat} {e:Bytes} (ha:a<18446744073709551616) (he:aa e=true) (hm:m<18446744073709551616) (h0:0<m):ml [aI a,e] (aI m)=0:=by
 have:aI m≠[]:=fun h=>by rw[ep]at h;omega
 simp[ml,vN ha,he,vN hm,this]
theorem zX {a:Nat} (h:a<18446744073709551616):aA Tryz.prog 130 [N a] (.tup [.i .u64 a, .b true]):=by
 have:=iY (aI a);rw[vN h,decide_eq_true (lN h),aE]at this;exact this
theorem zE {a b m:Nat} (ha:a<18446744073709551616) (hb:b<18446744073709551616) (hm:m<18446744073709551616) (h0:0<m):aA Tryz.prog 164 [N a,N b,N m] (N (a*b%m)):=by
 have la:=lN ha;have lb:=lN hb;have lm:=lN hm;have h1:a%m<18446744073709551616:=Nat.lt_of_le_of_lt (Nat.mod_le _ _) ha;have h2:b%m<18446744073709551616:=Nat.lt_of_le_of_lt (Nat.mod_le _ _) hb;have hq:=l9 (a%m) (b%m) h1 h2;have h3:a%m*(b%m)/18446744073709551616<18446744073709551616:=(Nat.div_lt_iff_lt_mul (by decide)).2 (Nat.mul_lt_mul'' h1 h2)
 have hr:=Hl (a%m*(b%m)/18446744073709551616) (a%m*(b%m)%18446744073709551616) m h0 h3 (Nat.mod_lt _ (by decide)) hm
 have e:a%m*(b%m)/18446744073709551616*18446744073709551616+a%m*(b%m)%18446744073709551616=a%m*(b%m):=by omega
 rw[e,←Nat.mul_mod]at hr;have ho:=gi (a*b%m) (Nat.lt_trans (Nat.mod_lt _ h0) hm);have sa:=zX ha;have sb:=zX hb;have sm:=zX hm;clear h3 e h1 h2;refine eW Tryz.call164 Tryz.func164 ?_;repeat' first|simp only[go_sem,seval]|refine cP sa ?_|refine cP sb ?_|refine cP sm ?_|refine cP hq ?_|refine cP hr ?_|refine cP ho ?_|refine sB ?_|(first|apply pX|apply bX)<;>intro hc|refine⟨oD,?_⟩|exact oD|fail
theorem fW {a m:Nat} (ha:a<18446744073709551616) (hm:m<18446744073709551616) (h0:0<m):aA Tryz.prog 162 [N a,N m] (N (a%m)):=by
 refine eW Tryz.call162 Tryz.func162 ?_;repeat' first|simp only[go_sem,seval]|refine cP (lZ ha hm h0) ?_|refine sB ?_|(first|apply pX|apply bX)<;>intro hc|refine⟨oD,?_⟩|exact oD|fail
theorem j9 {a b m:Nat} (ha:a<18446744073709551616) (hb:b<18446744073709551616) (hm:m<18446744073709551616) (h0:0<m):aA Tryz.prog 128 [N a,N b,N m] (.tup [N (a*b%m),E 0]):=by
 have hc:=fun nm=>uA nm (aI a) (aI b) (aI m)
 rw[tu ha (vN hb) hm h0]at hc;refine eW Tryz.call128 Tryz.func128 ?_;repeat' first|simp only[go_sem,seval]|(refine aR (hc _) (by simp) ?_)|refine cP (zE ha hb hm h0) ?_|refine sB ?_|(first|apply pX|apply bX)<;>intro hc|refine⟨oD,?_⟩|exact oD|fail
theorem CU (e:Bytes):aA Tryz.prog 163 [.s e] (.fc 239 [] [.pt (.agg [.s e]) 0]):=by
 refine eW Tryz.call163 Tryz.func163 ?_;repeat' first|simp only[go_sem,seval]|refine sB ?_|(first|apply pX|apply bX)<;>intro hc|refine⟨oD,?_⟩|exact oD|fail
theorem xV (n:Nat): ∀k,∀y∈zC n k,y.length=1
 |0,y,h=>by cases h
 |k+1,y,h=>by
  rcases List.mem_cons.1 h with rfl|h
  ·rfl
  ·exact xV n k y h
theorem cE:(.s [1]:PV)=N 1:=rfl
theorem Lm {a z m:Nat}:a^z%m*(a^z%m)%m=a^(2*z)%m:=by rw[←Nat.mul_mod,←Nat.pow_add,Nat.two_mul]
theorem NM {a z m:Nat}:a^z%m*(a^z%m)%m*(a%m)%m=a^(2*z+1)%m:=by rw[Lm,←Nat.mul_mod,←Nat.pow_succ]
theorem PF {a m:Nat} {e:Bytes} (ha:a<18446744073709551616) (he:aa e=true) (hm:m<18446744073709551616) (h0:0<m):aA Tryz.prog 108 [N a, .s e,N m] (.tup [N (a^num e%m),E 0]):=by
 have hc:=fun nm=>uA nm (aI a) e (aI m)
 rw[tu ha he hm h0]at hc;have h1:=fW (a:=1) (by decide) hm h0
 refine eW Tryz.call108 Tryz.func108 ?_;simp only[go_sem,seval,cE];repeat' first|simp only[go_sem,seval,cE]|(refine aR (hc _) (by simp) ?_)|refine cP (fW ha hm h0) ?_|refine cP h1 ?_|refine cP (CU e) ?_|(refine Fq (Co e he) rfl (xV _ _) ?_)|refine sB ?_|(first|apply pX|apply bX)<;>intro hc|refine⟨oD,?_⟩|exact oD|fail
 obtain⟨n,hn⟩: ∃n,n=num e:=⟨_,rfl⟩;rw[←hn];have hbl:n/2^a9 n=0:=by
  refine Nat.div_eq_of_lt ?_;unfold a9;split
  ·subst_vars;rename_i h;rw[h];decide
  ·rename_i h;exact Nat.lt_log2_self
 refine Od (α:=Nat) (fun k=>⟨[(3, .p 1000 0 0),(5, .p 1001 0 0),(9, .p 1019 0 0)],[(1000,⟨0,[.v (N (a%m))],false,none⟩),(1001,⟨0,[.v (N m)],false,none⟩),(1019,⟨0,[.v (N (a^(n/2^k)%m))],false,some 22⟩)],_⟩) (fun ys k=>ys=zC n k) (a9 n) (fun _=>Nat.le_refl _) rfl ?_ ?_ ?_
 ·(refine AS.Le.of (by first|decide|omega) ?_ ?_<;>simp[bz,bA,aD,ak,AV.bd,AV.bd.bdL,u8,af,ah,aj])
  rw[hbl,Nat.pow_zero]
 ·intro k hk
  cases k with
  |succ k=>cases hk
  |zero=>
   repeat' first|simp only[go_sem,seval]|refine sB ?_|(first|apply pX|apply bX)<;>intro hc|refine⟨oD,?_⟩|exact oD|fail
   rw[Nat.div_one]
 ·intro y ys k hk R hR
  cases k with
  |zero=>cases hk
  |succ k=>
   simp only[zC,List.cons.injEq]at hk;obtain⟨rfl,rfl⟩:=hk;obtain⟨x,hx⟩: ∃x,x=a^(n/2^(k+1))%m:=⟨_,rfl⟩;have hxm:x<m:=by rw[hx];exact Nat.mod_lt _ h0
   have t1:=zE (a:=x) (b:=x) (by omega) (by omega) hm h0
   have hxx:x*x%m<m:=Nat.mod_lt _ h0;have ham:a%m<m:=Nat.mod_lt _ h0;have t2:=zE (a:=x*x%m) (b:=a%m) (by omega) (by omega) hm h0
   have hbit:=Nat.testBit_eq_decide_div_mod_eq (x:=n) (i:=k);have hdd:n/2^(k+1)=n/2^k/2:=by rw[Nat.pow_succ,Nat.div_div_eq_div_mul]
   rw[←hx,hbit];repeat' first|simp only[go_sem,seval]|refine cP t1 ?_|refine cP t2 ?_|refine sB ?_|(first|apply pX|apply bX)<;>intro hc|refine⟨oD,?_⟩|exact oD|fail
   ·have hb2:n/2^k=2*(n/2^(k+1))+1:=by omega
    refine hR k rfl _ ?_;rw[hb2,hx,NM];exact lE
   ·have hb2:n/2^k=2*(n/2^(k+1)):=by omega
    refine hR k rfl _ ?_;rw[hb2,hx,Lm];exact lE
theorem JR (n:Nat):(aI n==([1]:Bytes))=decide (n=1):=oM n 1
end Go.Proofs.YtmobkhegihemeaaGreatDoor
namespace Go.Proofs.YtmobkhegihemeaaGreatDoor
open Go Go.Dom Go.Num
set_option maxRecDepth 100000
set_option maxHeartbeats 4000000

end Go.Proofs.YtmobkhegihemeaaGreatDoor
namespace Go.Dom
def Oo (q:Int) (p:List Int):List Int:=p.map (·%q)
theorem Fa (q x:Int): ∀p:List Int,Cg q (dP (Oo q p) x) (dP p x)
 |[]=>Cg.eR _
 |a::p=>by
  have:=Fa q x p;simp only[Oo,List.map_cons,dP]at this⊢;exact(Cg.emod q a).add ((Cg.eR x).mul this)
theorem Kd (q:Int) (p:List Int):(Oo q p).length=p.length:=List.length_map ..
def iQ (q:Int) (p:List Int) (a:Int):List Int:=Oo q (yA (0::p) (p.map (-a* ·)))
theorem Om (q x a:Int) (p:List Int):Cg q (dP (iQ q p a) x) ((x-a)*dP p x):=by
 refine(Fa _ _ _).trans (Cg.of_eq ?_);rw[nB,nU,dP];grind
theorem kF (q a:Int) (p:List Int):(iQ q p a).length=p.length+1:=by
 rw[iQ,Kd,lT,List.length_map,List.length_cons];omega
def tH (q:Int) (l:List Int):List Int:=l.foldl (iQ q) [1]
theorem Gu (q x:Int): ∀(l:List Int) (p:List Int),Cg q (dP (l.foldl (iQ q) p) x) (dP p x*uH l x)
 |[],p=>Cg.of_eq (by simp[uH])
 |a::l,p=>by
  rw[List.foldl_cons,jQ];exact(Gu q x l _).trans (((Om q x a p).mul (Cg.eR _)).trans (Cg.of_eq (by grind)))
theorem Nm (q x:Int) (l:List Int):Cg q (dP (tH q l) x) (uH l x):=(Gu q x l [1]).trans (Cg.of_eq (by simp[dP]))
theorem A6 (q:Int): ∀(l:List Int) (p:List Int),(l.foldl (iQ q) p).length=p.length+l.length
 |[],p=>rfl
 |a::l,p=>by rw[List.foldl_cons,A6 q l,kF,List.length_cons];omega
theorem pf (q:Int) (l:List Int):(tH q l).length=l.length+1:=by rw[tH,A6];simp;omega
def qU (q x:Int) (l:List Int):Int:=l.foldl (fun s a=>s*((x-a)%q)%q) 1
theorem Hd (q x:Int): ∀(l:List Int) (s:Int),Cg q (l.foldl (fun s a=>s*((x-a)%q)%q) s) (s*uH l x)
 |[],s=>Cg.of_eq (by simp[uH])
 |a::l,s=>by
  rw[List.foldl_cons,jQ];exact(Hd q x l _).trans ((((Cg.emod q _).trans ((Cg.eR s).mul (Cg.emod q _))).mul (Cg.eR _)).trans (Cg.of_eq (by grind)))
theorem D0 (q x:Int) (l:List Int):Cg q (qU q x l) (uH l x):=(Hd q x l 1).trans (Cg.of_eq (by grind))
theorem mf: ∀(p r:List Int) (j:Nat),(yA p r).getD j 0=p.getD j 0+r.getD j 0
 |[],r,j=>by simp[yA]
 |a::p,[],j=>by simp[yA]
 |a::p,b::r,0=>rfl
 |a::p,b::r,j+1=>by
  simp only[yA,List.getD_cons_succ];exact mf p r j
theorem iZ (f:Int→Int) (h:f 0=0): ∀(p:List Int) (j:Nat),(p.map f).getD j 0=f (p.getD j 0)
 |[],j=>by simp[h]
 |a::p,0=>rfl
 |a::p,j+1=>by simp only[List.map_cons,List.getD_cons_succ];exact iZ f h p j
theorem p9 (q:Int) (p:List Int) (j:Nat):(Oo q p).getD j 0=p.getD j 0%q:=iZ _ (Int.zero_emod q) p j
theorem Ej (q a:Int) (p:List Int):(iQ q p a).getD 0 0=(-a*p.getD 0 0)%q:=by
 rw[iQ,p9,mf,iZ (-a* ·) (by grind),List.getD_cons_zero,Int.zero_add]
theorem xo (q a:Int) (p:List Int) (j:Nat):(iQ q p a).getD (j+1) 0=(p.getD j 0+ -a*p.getD (j+1) 0)%q:=by
 rw[iQ,p9,mf,iZ (-a* ·) (by grind),List.getD_cons_succ]
theorem mN {α:Type} (d:α): ∀(l:List α) (j:Nat),l.length≤j→l.getD j d=d
 |[],j,_=>rfl
 |a::l,0,h=>by simp at h
 |a::l,j+1,h=>by rw[List.getD_cons_succ];exact mN d l j (by simpa using h)
def r5 (q:Int) (P:Nat→List Int) (f:Nat→Int) (j:Nat):Nat→Int
 |0=>0
 |i+1=>(r5 q P f j i+(P i).getD j 0*f i%q)%q
theorem F7 (q:Int) (P:Nat→List Int) (f:Nat→Int) (j:Nat): ∀n,Cg q (r5 q P f j n) ((FH P f n).getD j 0)
 |0=>Cg.of_eq (by simp[r5,FH])
 |n+1=>by
  rw[r5,FH,mf,iZ (f n* ·) (by grind)]
  exact(Cg.emod q _).trans ((F7 q P f j n).add ((Cg.emod q _).trans (Cg.of_eq (by grind))))
def oT (q:Int) (p:List Int) (x:Int):Int:=p.foldr (fun a y=>(y*x%q+a)%q) 0
theorem Aa (q x:Int): ∀p:List Int,Cg q (oT q p x) (dP p x)
 |[]=>Cg.eR _
 |a::p=>by
  have:=Aa q x p;simp only[oT,List.foldr_cons,dP]at this⊢;exact(Cg.emod q _).trans ((((Cg.emod q _).trans (this.mul (Cg.eR x))).add (Cg.eR a)).trans (Cg.of_eq (by grind)))
theorem Cg.dvd {q a b:Int} (h:Cg q a b):q∣a-b:=h
variable {m:Nat}
theorem py (hm:0<m): ∀(l r:List (Nat×Int)),rV m (l++r)=rV m l*rV m r%m
 |[],r=>by rw[List.nil_append,rV,Nat.mod_mul_mod,Nat.one_mul,HT]
 |p::l,r=>by
  rw[List.cons_append,rV,rV,py hm l r,Nat.mul_mod_mod,Nat.mod_mul_mod,Nat.mul_assoc]
theorem lr (hm:0<m) (x:Nat) (z:Int):rV m [(x,z)]=cb m x z:=by
 rw[rV,rV,Nat.mul_mod_mod,Nat.mul_one,j5]
theorem yd {g:Nat} (hg:bN m g) (hm:0<m) (e w:Nat→Int): ∀n,rV m ((List.range n).map fun k=>(cb m g (e k),w k))=cb m g (Jw (fun k=>e k*w k) n)
 |0=>(nj m g).symm
 |n+1=>by
  rw[List.range_succ,List.map_append,py hm,yd hg hm e w n,List.map_cons,List.map_nil,lr hm,jb hg hm,pE hg hm];rfl
variable {q:Nat} {l:List Int} {w:Nat→Int}
theorem E9 {g:Nat} (hg:bN m g) (hm:0<m) (ho:g^q%m=1%m) (hp:Hu q l) (hw: ∀i,i<l.length→Cg q (w i*uH (l.eraseIdx i) (l.getD i 0)) 1) {c:List Int} (hc:c.length≤l.length) {x:Int} {v:Nat→Int} (hv: ∀i,i<l.length→Cg q (v i) (Ov l w i x)) {e:Nat→Int} (he: ∀i,i<l.length→Cg q (e i) (dP c (l.getD i 0))):
  rV m ((List.range l.length).map fun k=>(cb m g (e k),v k))=cb m g (dP c x):=by
 rw[yd hg hm];exact mC hg hm ho (((Ah fun i hi=>(he i hi).mul (hv i hi)).trans (Sb hp hw hc x)).dvd)
theorem LR {g:Nat} (hg:bN m g) (hm:0<m) (ho:g^q%m=1%m) {z:Int} (hz:Iv q z) (h:cb m g z=1%m):cb m g 1=1%m:=by
 obtain⟨y,hy⟩:=hz;rw[←mC hg hm ho hy.dvd,←jb hg hm,h];have:=jb (yx hm) hm 0 y
 rwa[Int.zero_mul,nj]at this
theorem qM {u:Nat} (hm:0<m) {b:Nat→Nat} (hb: ∀k,bN m (b k)) (hu:bN m u) (hq:u^q%m=1%m) (hu1:cb m u 1≠1%m) {v:Nat→Int} {i:Nat} (hi:Iv q (v i)): ∀n,rV m ((List.range n).map fun k=>(if k=i then b k*u%m else b k,v k))=rV m ((List.range n).map fun k=>(b k,v k))*(if i<n then cb m u (v i)else 1%m)%m
 |0=>by simp only[List.range_zero,List.map_nil,rV,Nat.not_lt_zero,if_false];rw[←Nat.mul_mod,Nat.one_mul]
 |n+1=>by
  rw[List.range_succ,List.map_append,List.map_append,py hm,py hm,qM hm hb hu hq hu1 hi n,List.map_cons,List.map_nil,List.map_cons,List.map_nil,lr hm,lr hm]
  by_cases h1:n=i
  ·subst h1;rw[if_pos rfl,if_neg (Nat.lt_irrefl _),if_pos (Nat.lt_succ_self _),GF (hb _) hu hm];simp only[Nat.mul_mod_mod,Nat.mod_mul_mod,Nat.mul_one,Nat.mul_assoc]
  ·rw[if_neg h1]
   by_cases h2:i<n
   ·rw[if_pos h2,if_pos (by omega)]
    simp only[Nat.mul_mod_mod,Nat.mod_mul_mod];rw[Nat.mul_right_comm]
   ·rw[if_neg h2,if_neg (by omega)]
    simp only[Nat.mul_mod_mod,Nat.mod_mul_mod,Nat.mul_one,Nat.mod_mod]
theorem MJ {a u:Nat} (hm:0<m) (ha:bN m a) (ham:a%m=a) (h:a*u%m=a):u%m=1%m:=by
 have hi:=ha.inv.2;have h1:cA a m*(a*u%m)%m=cA a m*a%m:=by rw[h]
 rw[Nat.mul_mod_mod,←Nat.mul_assoc,Nat.mul_comm (cA a m) a,hi,Nat.mul_mod,hi,←Nat.mul_mod,Nat.one_mul]at h1;exact h1
end Go.Dom
namespace Go.Dom
theorem pA {q:Int} (x:Int): ∀(p r:List Int),(∀j,Cg q (p.getD j 0) (r.getD j 0))→Cg q (dP p x) (dP r x)
 |[],[],_=>Cg.eR _
 |a::p,[],g=>by
  have h0:=g 0;have:=pA (q:=q) x p [] (fun j=>by have:=g (j+1);simpa using this)
  simp only[dP]at this⊢;exact(h0.add ((Cg.eR x).mul this)).trans (Cg.of_eq (by simp))
 |[],b::r,g=>by
  have h0:=g 0;have:=pA (q:=q) x [] r (fun j=>by have:=g (j+1);simpa using this)
  simp only[dP]at this⊢;exact Cg.trans (Cg.of_eq (by simp)) (h0.add ((Cg.eR x).mul this))
 |a::p,b::r,g=>by
  have h0:=g 0;have:=pA (q:=q) x p r (fun j=>by have:=g (j+1);simpa using this)
  simp only[dP];exact h0.add ((Cg.eR x).mul this)
def lj (q:Int) (l:List Int) (f:Nat→Int):List Int:=(List.range l.length).map fun j=>r5 q (fun k=>tH q (l.eraseIdx k)) f j l.length
theorem CA (q:Int) (l:List Int) (f:Nat→Int) {j:Nat} (h:j<l.length):(lj q l f).getD j 0=r5 q (fun k=>tH q (l.eraseIdx k)) f j l.length:=by
 rw[lj,List.getD_eq_getElem?_getD,List.getElem?_map,List.getElem?_range h];rfl
theorem Ey (q:Int) (l:List Int) (f:Nat→Int) (x:Int):Cg q (oT q (lj q l f) x) (Jw (fun k=>f k*uH (l.eraseIdx k) x) l.length):=by
 have hlen:(FH (fun k=>tH q (l.eraseIdx k)) f l.length).length≤l.length:=vi fun k hk=>by
  rw[pf,List.length_eraseIdx,if_pos hk];omega
 refine(Aa q x _).trans ((pA x _ (FH (fun k=>tH q (l.eraseIdx k)) f l.length) fun j=> ?_).trans ?_)
 ·by_cases hj:j<l.length
  ·rw[CA q l f hj];exact F7 _ _ _ _ _
  ·rw[mN 0 (lj q l f) j (by rw[lj,List.length_map,List.length_range];omega),mN 0 _ j (by omega)]
   exact Cg.eR _
 ·rw[uK];exact Ah fun i _=>(Cg.eR _).mul (Nm q x _)
theorem CP {q:Int} {l:List Int} {w f:Nat→Int} {i:Nat} (hi:i<l.length) (h1:Cg q (f i) (w i)) (h0: ∀k,k<l.length→k≠i→Cg q (f k) 0) (x:Int):Cg q (oT q (lj q l f) x) (Ov l w i x):=by
 refine(Ey q l f x).trans ((ud hi fun k hk hn=> ?_).trans (h1.mul (Cg.eR _)))
 exact((h0 k hk hn).mul (Cg.eR _)).trans (Cg.of_eq (by grind))
theorem nY {q:Int} (hq:0<q) (x:Int): ∀p:List Int,0≤oT q p x∧oT q p x<q
 |[]=>⟨Int.le_refl _,hq⟩
 |a::p=>⟨Int.emod_nonneg _ (by omega),Int.emod_lt_of_pos _ hq⟩
theorem oi {q:Int} (hq:0<q) (P:Nat→List Int) (f:Nat→Int) (j:Nat): ∀n,0≤r5 q P f j n∧r5 q P f j n<q
 |0=>⟨Int.le_refl _,hq⟩
 |n+1=>⟨Int.emod_nonneg _ (by omega),Int.emod_lt_of_pos _ hq⟩
theorem Iv.Nl {q a b:Nat} (h:a*b%q=1%q):Iv q a:=by
 refine⟨b,?_⟩;have h1:Cg q (((a*b%q:Nat):Int)) ((a*b:Nat):Int):=by rw[Int.natCast_emod];exact Cg.emod _ _
 have h2:Cg q (((1%q:Nat):Int)) ((1:Nat):Int):=by rw[Int.natCast_emod];exact Cg.emod _ _
 rw[←Int.natCast_mul];exact h1.symm.trans ((Cg.of_eq (by rw[h])).trans h2)
end Go.Dom
namespace Go.Dom
open Go.Num
theorem jD {q:Nat} (h:cX q=true):2≤q∧(q∈bI∨ ∀p∈bI,¬q%p=0):=by
 unfold cX at h
 split at h
 ·exact absurd h (by decide)
 ·rename_i h2;refine⟨by omega,?_⟩
  split at h
  ·rename_i p hf;have:=List.mem_of_find?_eq_some hf;exact .inl (by rw[show q=p by simpa using h];exact this)
  ·rename_i hf;exact .inr fun p hp hz=>by
    have:=List.find?_eq_none.1 hf p hp;simp[hz]at this
theorem H4 {q a:Nat} (h:cX q=true) (a0:0<a) (a8:a≤8) (hq:a<q):Nat.gcd a q=1:=by
 obtain⟨h2,h|h⟩:=jD h
 ·have hd: ∀q∈bI,∀a,a≤8→0<a→a<q→Nat.gcd a q=1:=by decide
  exact hd q h a a8 a0 hq
 ·have e2:=h 2 (by decide)
  have e3:=h 3 (by decide)
  have e5:=h 5 (by decide)
  have e7:=h 7 (by decide)
  rw[Nat.gcd_rec];obtain⟨r,hr⟩: ∃r,r=q%a:=⟨_,rfl⟩;rw[←hr];have hd: ∀a:Fin 9,∀r:Fin 9,r.1<a.1→(a.1%2=0∧r.1%2=0)∨(a.1%3=0∧r.1%3=0)∨(a.1%5=0∧r.1%5=0)∨(a.1%7=0∧r.1%7=0)∨Nat.gcd r.1 a.1=1:=by decide
  have hra:r<a:=hr▸Nat.mod_lt _ a0;have hm: ∀p,a%p=0→q%p≠0→r%p≠0:=fun p hp hq hz=>by
   rw[hr,Nat.mod_mod_of_dvd _ (Nat.dvd_of_mod_eq_zero hp)]at hz;exact hq hz
  rcases hd ⟨a,by omega⟩ ⟨r,by omega⟩ hra with⟨e,f⟩|⟨e,f⟩|⟨e,f⟩|⟨e,f⟩|e
  ·exact absurd f (hm 2 e e2)
  ·exact absurd f (hm 3 e e3)
  ·exact absurd f (hm 5 e e5)
  ·exact absurd f (hm 7 e e7)
  ·exact e
theorem FU {q a:Nat} (h:cX q=true) (a0:0<a) (a8:a≤8) (hq:a<q):bN q a:=dO (by omega) (H4 h a0 a8 hq)
theorem Hq {q a:Nat} (h:cX q=true) (a0:0<a) (a8:a≤8) (hq:a<q):Iv q a:=by
 obtain⟨b,-,hb⟩:=FU h a0 a8 hq;exact Iv.Nl hb
theorem BC {q a b:Nat} (h:cX q=true) (hn:a≠b) (ha:a≤8) (hb:b≤8) (qa:a<q) (qb:b<q):Iv q ((a:Int)-b):=by
 rcases Nat.lt_or_gt_of_ne hn with g|g
 ·have:=(Hq h (a:=b-a) (by omega) (by omega) (by omega)).neg
  exact this.cg (Cg.of_eq (by omega))
 ·have:=Hq h (a:=a-b) (by omega) (by omega) (by omega)
  exact this.cg (Cg.of_eq (by omega))
theorem uj {q:Nat} (h:cX q=true): ∀{l:List Nat},l.Nodup→(∀a∈l,a≤8∧a<q)→Hu q (l.map fun a:Nat=>(a:Int))
 |[],_,_=>trivial
 |a::l,hd,hb=>by
  have hd:=List.nodup_cons.1 hd;refine⟨fun x hx=> ?_,uj h hd.2 fun b hb'=>hb b (.tail _ hb')⟩
  obtain⟨b,hb',rfl⟩:=List.mem_map.1 hx;have ha:=hb a (.head _);have hbb:=hb b (.tail _ hb');exact BC h (fun e=>hd.1 (e▸hb')) hbb.1 ha.1 hbb.2 ha.2
end Go.Dom
namespace Go.Proofs.YtmobkhegihemeaaGreatDoor
open Go Go.Dom
set_option maxRecDepth 100000
set_option maxHeartbeats 8000000
theorem qz:18446744073709551616≤bL:=by decide
theorem jj:18446744073709551616≤bR:=by unfold bR;decide+kernel
theorem sY {x:Int} {m:Nat} (hx:x.natAbs<bL) (hm:m<bL) (h0:0<m):aA Tryz.prog 306 [Z x,Z m] (.tup [Z (x/m),N (x%m).toNat,E 0]):=by
 have hw:=vL;have v1:=eB (x:=x) (by omega)
 have v2:=eB (x:=(m:Int)) (by omega)
 have hd:=ka (a:=x.natAbs) (b:=m) (by omega) (by omega) h0
 have e0:(aI m==([]:Bytes))=false:=lU (by omega)
 have hl:=Nat.mod_lt x.natAbs h0;have hq:x.natAbs/m≤x.natAbs:=Nat.div_le_self _ _;have h1:=iR 1 (by decide)
 by_cases hs:x<0
 ·have hz:zs x=true:=by simp[zs,hs]
  have hn:x= -(x.natAbs:Int):=by omega
  simp only[Z,hz]at v1;simp only[Z,gW,gV]at v2
  by_cases hr:x.natAbs%m=0
  ·obtain⟨g1,g2⟩:=FB h0 hr;rw[←hn]at g1 g2;have hk:=gS true (x.natAbs/m) (z:=x/m) (by rw[g1];rfl)
   have e1:(aI (x.natAbs%m)==([]:Bytes))=true:=by rw[hr];rfl
   rw[g2,←hr];generalize x/(m:Int)=q at*;clear g1 g2 hn hr hw;refine eW Tryz.call306 Tryz.func306 ?_;repeat' first|simp only[go_sem,seval,Z,gW,gV,hz,e0,e1]|refine cP v1 ?_|refine cP v2 ?_|refine cP hd ?_|refine cP hk ?_|refine sB ?_|(first|apply pX|apply bX)<;>intro hc|refine⟨oD,?_⟩|exact oD|fail
  ·obtain⟨g1,g2⟩:=CI h0 hr;rw[←hn]at g1 g2;have hk:=gS true (x.natAbs/m+1) (z:=x/m) (by rw[g1];rfl)
   have e1:(aI (x.natAbs%m)==([]:Bytes))=false:=lU hr;have ha:=KT (a:=x.natAbs/m) (b:=1) (by have:=xX;unfold bL at*;omega)
   have hb:=FP (a:=m) (b:=x.natAbs%m) (by omega) (by omega)
   rw[g2];generalize x/(m:Int)=q at*;clear g1 g2 hn hr hw;refine eW Tryz.call306 Tryz.func306 ?_;repeat' first|simp only[go_sem,seval,Z,gW,gV,hz,e0,e1]|refine cP v1 ?_|refine cP v2 ?_|refine cP hd ?_|refine cP h1 ?_|refine cP ha ?_|refine cP hb ?_|refine cP hk ?_|refine sB ?_|(first|apply pX|apply bX)<;>intro hc|refine⟨oD,?_⟩|exact oD|fail
 ·have hz:zs x=false:=by simp[zs,hs]
  have hn:x=(x.natAbs:Int):=by omega
  simp only[Z,hz]at v1;simp only[Z,gW,gV]at v2;obtain⟨g1,g2⟩:=F5 x.natAbs m;rw[←hn]at g1 g2;have hk:=gS false (x.natAbs/m) (z:=x/m) (by rw[g1];rfl)
  rw[g2];generalize x/(m:Int)=q at*;clear g1 g2 hn hw;refine eW Tryz.call306 Tryz.func306 ?_;repeat' first|simp only[go_sem,seval,Z,gW,gV,hz,e0]|refine cP v1 ?_|refine cP v2 ?_|refine cP hd ?_|refine cP hk ?_|refine sB ?_|(first|apply pX|apply bX)<;>intro hc|refine⟨oD,?_⟩|exact oD|fail
theorem LF {x:Int} {m:Nat} (hx:x.natAbs<bL) (hm:m<bL) (h0:0<m):aA Tryz.prog 235 [Z x,N m] (.tup [N (x%m).toNat,E 0]):=by
 have hw:=vL;have v1:=eB (x:=x) (by omega)
 have v2:=aN (aI m);rw[vB (show m<bR by omega)]at v2
 have hf:=ry (n:=m) (by omega)
 have hd:=sY hx hm h0;refine eW Tryz.call235 Tryz.func235 ?_;repeat' first|simp only[go_sem,seval,Z]|refine cP v1 ?_|refine cP v2 ?_|refine cP hf ?_|refine cP hd ?_|refine sB ?_|(first|apply pX|apply bX)<;>intro hc|refine⟨oD,?_⟩|exact oD|fail
theorem yL: ∀(n a b:Nat),b≤n→a<18446744073709551616→b<18446744073709551616→ ∃g x y,K2 a b g x y∧aA Tryz.prog 305 [N a,N b] (.tup [N g,Z x,Z y]):=by
 intro n
 induction n with
 |zero=>
  intro a b hn ha hb;obtain rfl:b=0:=by omega
  refine⟨a,1,0,K2.base a,?_⟩;have h1:=Rz;have h0:=RY;refine eW Tryz.call305 Tryz.func305 ?_;repeat' first|simp only[go_sem,seval,yU,Z]|refine cP h1 ?_|refine cP h0 ?_|refine sB ?_|(first|apply pX|apply bX)<;>intro hc|refine⟨oD,?_⟩|exact oD|fail
 |succ n ih=>
  intro a b hn ha hb
  by_cases hb0:b=0
  ·subst hb0;exact ih a 0 (Nat.zero_le _) ha hb
  have hpos:0<b:=by omega
  have hml:=Nat.mod_lt a hpos;obtain⟨g,x,y,hz,he⟩:=ih b (a%b) (by omega) hb (by omega)
  have hst:=K2.step hpos hz;refine⟨g,y,_,hst,?_⟩;have hq:a/b≤a:=Nat.div_le_self _ _;have w1:=qz;have w2:=jj;have by1:=hst.bx hpos;have bx1:x.natAbs≤b:=by
   rcases Nat.eq_zero_or_pos (a%b)with h0|h0
   ·obtain⟨rfl,-⟩:=hz.z h0;exact hpos
   ·have:=hz.bx h0;omega
  have hf:=ry (n:=a/b) (by omega)
  have hm:=Gl (x:=((a/b:Nat):Int)) (y:=y) (by rw[Int.natAbs_natCast];omega) (by omega)
  have hpb:(((a/b:Nat):Int)*y).natAbs<bL:=by
   rw[Int.natAbs_mul,Int.natAbs_natCast];have:a/b*y.natAbs≤a/b*b:=Nat.mul_le_mul_left _ by1;have h2:a/b*b≤a:=Nat.div_mul_le_self a b;omega
  have hs:=N3 (x:=x) (y:=((a/b:Nat):Int)*y) (by omega) hpb
  have hd:=ka (a:=a) (b:=b) (by omega) (by omega) hpos
  have e0:=lU hb0;generalize x-((a/b:Nat):Int)*y=u at*;generalize ((a/b:Nat):Int)*y=v at*;clear hst hz hpb by1 bx1 hq ih;refine eW Tryz.call305 Tryz.func305 ?_;repeat' first|simp only[go_sem,seval,e0,Z,gW,gV]|refine cP hd ?_|refine cP he ?_|refine cP hf ?_|refine cP hm ?_|refine cP hs ?_|refine sB ?_|(first|apply pX|apply bX)<;>intro hc|refine⟨oD,?_⟩|exact oD|fail
theorem vk {a b:Nat} (ha:a<18446744073709551616) (hb:b<18446744073709551616) (h0:0<b): ∃X Y:Int,(Nat.gcd a b=1→0≤X∧X.natAbs%b=cA a b)∧X.natAbs<18446744073709551616∧aA Tryz.prog 234 [N a,N b] (.tup [N (Nat.gcd a b),Z X,Z Y,E 0]):=by
 obtain⟨g,x,y,hz,he⟩:=yL b a b (Nat.le_refl _) ha hb;have hg:=hz.g;have hgp:0<g:=by rw[hg];exact Nat.gcd_pos_of_pos_right _ h0
 have hgb:g≤b:=by rw[hg];exact Nat.gcd_le_right _ h0
 have hx:=hz.bx h0;have hy:=hz.by' h0
 have w1:=qz;have w2:=jj;have hm1:b/g≤b:=Nat.div_le_self _ _;have hk1:a/g≤a:=Nat.div_le_self _ _;have hmp:0<b/g:=Nat.div_pos hgb hgp;have v1:=aN (aI a);have v2:=aN (aI b);rw[vB (show a<bR by omega)]at v1
 rw[vB (show b<bR by omega)]at v2
 have e0:(aI b==([]:Bytes))=false:=lU (by omega)
 have d1:=ka (a:=b) (b:=g) (by omega) (by omega) hgp
 have d2:=ka (a:=a) (b:=g) (by omega) (by omega) hgp
 have f1:=ry (n:=b/g) (by omega)
 have f2:=ry (n:=a/g) (by omega)
 have dm:=sY (x:=x) (m:=b/g) (by omega) (by omega) hmp
 obtain⟨q,hq⟩: ∃q,q=x/((b/g:Nat):Int):=⟨_,rfl⟩;obtain⟨r,hr⟩: ∃r,r=(x%((b/g:Nat):Int)).toNat:=⟨_,rfl⟩;have hrl:r<b/g:=by
  have h1:=Int.emod_lt_of_pos x (show(0:Int)<((b/g:Nat):Int) by omega)
  omega
 have hqb:q.natAbs≤x.natAbs+1:=by
  have h1:=Int.emod_nonneg x (show((b/g:Nat):Int)≠0 by omega)
  have h2:=Int.emod_add_mul_ediv x ((b/g:Nat):Int);rw[←hq]at h2;have h3:(((b/g:Nat):Int)*q).natAbs=b/g*q.natAbs:=by rw[Int.natAbs_mul,Int.natAbs_natCast]
  have h4:q.natAbs≤b/g*q.natAbs:=Nat.le_mul_of_pos_left _ hmp
  by_cases hq0:q.natAbs≤1
  ·omega
  ·have h5:b/g+q.natAbs≤b/g*q.natAbs+1:=by
    obtain⟨u,hu⟩: ∃u,b/g=u+1:=⟨b/g-1,by omega⟩
    obtain⟨v,hv⟩: ∃v,q.natAbs=v+1:=⟨q.natAbs-1,by omega⟩
    rw[hu,hv,Nat.add_mul,Nat.mul_add];omega
   omega
 have mk:=Gl (x:=q) (y:=((a/g:Nat):Int)) (by unfold bL;omega) (by rw[Int.natAbs_natCast];unfold bL;omega)
 have hpk:(q*((a/g:Nat):Int)).natAbs<bL:=by
  rw[Int.natAbs_mul,Int.natAbs_natCast];have:=Nat.mul_le_mul (show q.natAbs≤18446744073709551616 by omega) (show a/g≤18446744073709551616-1 by omega)
  unfold bL;omega
 have ad:=LG (x:=y) (y:=q*((a/g:Nat):Int)) (by unfold bL;omega) hpk
 have fr:=ry (n:=r) (by omega)
 refine⟨(r:Int),y+q*((a/g:Nat):Int),?_,by omega,?_⟩
 ·intro h1;have g1:g=1:=by rw[hg];exact h1
  refine⟨by omega,(ed (Nat.mod_lt _ h0) ?_).symm⟩
  have he1:=hz.e;rw[g1]at hr he1;rw[Nat.div_one]at hr;have hnn:=Int.emod_nonneg x (show(b:Int)≠0 by omega)
  have:=zQ (a:=a) (b:=b) (X:=x%(b:Int)) (Y:=y+a*(x/(b:Int))) hnn (by
   have h2:=Int.emod_add_mul_ediv x (b:Int);have h3:x%(b:Int)=x-b*(x/(b:Int)):=by omega
   rw[h3,Int.mul_sub,Int.mul_add];have h4:(a:Int)*(b*(x/(b:Int)))=b*(a*(x/(b:Int))):=by rw[←Int.mul_assoc,Int.mul_comm (a:Int),Int.mul_assoc]
   simp only[Int.natCast_one]at he1;omega)
  have e5:(r:Int).natAbs=(x%(b:Int)).natAbs:=by rw[hr];omega
  rw[e5];exact this
 ·rw[←hg];rw[←hq,←hr]at dm;generalize q*((a/g:Nat):Int)=u at*;generalize y+u=v at*;clear hz hx hy hpk hqb hrl hq hr hmp hm1 hk1 hgp hgb hg;refine eW Tryz.call234 Tryz.func234 ?_;repeat' first|simp only[go_sem,seval,e0,Z,gW,gV]|refine cP v1 ?_|refine cP v2 ?_|refine cP he ?_|refine cP d1 ?_|refine cP d2 ?_|refine cP f1 ?_|refine cP f2 ?_|refine cP dm ?_|refine cP mk ?_|refine cP ad ?_|refine cP fr ?_|refine sB ?_|(first|apply pX|apply bX)<;>intro hc|refine⟨oD,?_⟩|exact oD|fail
theorem mH {a m:Nat} (ha:a<bR) (hm:m<bR) (h0:0<m):aA Tryz.prog 156 [N a,N m] (N (a%m)):=by
 have hd:=ka ha hm h0;refine eW Tryz.call156 Tryz.func156 ?_;repeat' first|simp only[go_sem,seval]|refine cP hd ?_|refine sB ?_|(first|apply pX|apply bX)<;>intro hc|refine⟨oD,?_⟩|exact oD|fail
theorem OV (a m:Bytes):aA Tryz.prog 104 [.sl [.s a, .s m]] (E (ml [a] m)):=by
 have va:=aN a;have vm:=aN m;refine eW Tryz.call104 Tryz.func104 ?_;repeat' first|simp only[go_sem,seval,List.getD_cons_zero,List.getD_cons_succ]|refine cP va ?_|refine cP vm ?_|(refine ae ?_)|refine sB ?_|(first|apply pX|apply bX)<;>intro hc|refine⟨oD,?_⟩|exact oD|fail
 all_goals simp_all[ml]
theorem K5 (a b m:Bytes):aA Tryz.prog 104 [.sl [.s a, .s b, .s m]] (E (ml [a,b] m)):=by
 have va:=aN a;have vb:=aN b;have vm:=aN m;refine eW Tryz.call104 Tryz.func104 ?_;repeat' first|simp only[go_sem,seval,List.getD_cons_zero,List.getD_cons_succ]|refine cP va ?_|refine cP vb ?_|refine cP vm ?_|(refine ae ?_)|refine sB ?_|(first|apply pX|apply bX)<;>intro hc|refine⟨oD,?_⟩|exact oD|fail
 all_goals simp_all[ml]
theorem uu {a b m:Nat} (ha:a<18446744073709551616) (hb:b<18446744073709551616) (hm:m<18446744073709551616) (h0:0<m):aA Tryz.prog 105 [N a,N b,N m] (N (a*b%m)):=by
 have w2:=jj;have hs:=nf (aI m);rw[vB (show m<bR by omega),decide_eq_true (lN hm),aE]at hs
 have d1:=mH (a:=a) (m:=m) (by omega) (by omega) h0
 have d2:=mH (a:=b) (m:=m) (by omega) (by omega) h0
 have l1:=Nat.mod_lt a h0;have l2:=Nat.mod_lt b h0;have s1:=nf (aI (a%m));rw[vB (show a%m<bR by omega),decide_eq_true (lN (show a%m<18446744073709551616 by omega)),aE]at s1
 have s2:=nf (aI (b%m));rw[vB (show b%m<bR by omega),decide_eq_true (lN (show b%m<18446744073709551616 by omega)),aE]at s2
 have hmul:a%m*(b%m)<18446744073709551616*18446744073709551616:=Nat.mul_lt_mul'' (by omega) (by omega)
 have hlm:18446744073709551616*18446744073709551616≤bR:=by unfold bR;decide+kernel
 have hp:=K9 (a:=a%m) (b:=b%m) (by omega) (by omega) (by omega)
 have d3:=mH (a:=a%m*(b%m)) (m:=m) (by omega) (by omega) h0
 rw[←Nat.mul_mod]at d3;have hl3:=Nat.mod_lt (a*b) h0
 by_cases hsm:m<2147483648
 ·have ho:=iR (a*b%m) (by omega)
  have hlt:a%m*(b%m)<18446744073709551616:=by
   have:a%m*(b%m)<2147483648*2147483648:=Nat.mul_lt_mul'' (by omega) (by omega)
   omega
  have hw: ∀ _:True,IntKind.u64.wrap (((a%m:Nat):Int)*((b%m:Nat):Int))=((a%m*(b%m):Nat):Int):=fun _=>by
   rw[←Int.natCast_mul,IntWalk.u64_in _ (by omega)]
  have hmm: ∀ _:True,((a%m*(b%m):Nat):Int).tmod (m:Int)=((a*b%m:Nat):Int):=fun _=>by
   rw[Nat.mul_mod];rfl
  clear hp d3 hmul hlm;generalize a%m=u at*;generalize b%m=v at*;refine eW Tryz.call105 Tryz.func105 ?_;repeat' first|simp only[go_sem,seval,if_true,hw trivial,hmm trivial]|refine cP hs ?_|refine cP d1 ?_|refine cP d2 ?_|refine cP s1 ?_|refine cP s2 ?_|refine cP ho ?_|refine sB ?_|(first|apply pX|apply bX)<;>intro hc|refine⟨oD,?_⟩|exact oD|fail
 ·clear hmul hlm;refine eW Tryz.call105 Tryz.func105 ?_;repeat' first|simp only[go_sem,seval,if_true]|refine cP hs ?_|refine cP d1 ?_|refine cP d2 ?_|refine cP hp ?_|refine cP d3 ?_|refine sB ?_|(first|apply pX|apply bX)<;>intro hc|refine⟨oD,?_⟩|exact oD|fail
theorem O0 {a b m:Nat} (ha:a<18446744073709551616) (hb:b<18446744073709551616) (hm:m<18446744073709551616) (h0:0<m):aA Tryz.prog 51 [N a,N b,N m] (.tup [N (a*b%m),E 0]):=by
 have hc:=K5 (aI a) (aI b) (aI m);rw[tu ha (vN hb) hm h0]at hc;have ht:=uu ha hb hm h0;refine eW Tryz.call51 Tryz.func51 ?_;repeat' first|simp only[go_sem,seval]|refine cP hc ?_|refine cP ht ?_|refine sB ?_|(first|apply pX|apply bX)<;>intro hc|refine⟨oD,?_⟩|exact oD|fail
theorem nA {a m:Nat} {e:Bytes} (ha:a<18446744073709551616) (he:aa e=true) (hm:m<18446744073709551616) (h0:0<m):aA Tryz.prog 159 [N a, .s e,N m] (N (a^num e%m)):=by
 have w2:=jj;have ho:=iR 1 (by decide)
 have d1:=mH (a:=1) (m:=m) (by omega) (by omega) h0
 have hb:=C6 he;have hbi:=fun i hi=>J0 he i hi
 obtain⟨n,hn⟩: ∃n,n=num e:=⟨_,rfl⟩;have hbl:a9 n<1000000:=by
  have h1:n<2^1024:=by
   rw[hn];refine Nat.lt_of_lt_of_le (aZ e) ?_;have le:=bw he;exact Nat.le_trans (Nat.pow_le_pow_right (by decide) le) (by decide+kernel)
  by_cases hz:n=0
  ·rw[hz];decide
  ·obtain⟨g1,g2⟩:=mi hz;have:=(Nat.pow_lt_pow_iff_right (by decide:1<2)).1 (Nat.lt_of_le_of_lt g1 h1)
   omega
 rw[←hn]at hb hbi⊢;have hb2:n/2^a9 n=0:=Nat.div_eq_of_lt (mZ n);clear hn;refine eW Tryz.call159 Tryz.func159 ?_;repeat' first|simp only[go_sem,seval]|refine cP ho ?_|refine cP d1 ?_|refine cP hb ?_|refine sB ?_|(first|apply pX|apply bX)<;>intro hc|refine⟨oD,?_⟩|exact oD|fail
 refine ai (α:=Nat) (fun k=>k) (fun k=>⟨[(0, .v (N a)),(1, .v (.s e)),(2, .v (N m)),(7, .v (N (a^(n/2^k)%m))),(8, .v (.i .i64 ((k:Int)-1)))],[],_⟩) (fun k=>k≤a9 n) (a9 n) (fun _=>Nat.le_refl _) (Nat.le_refl _) ?_ ?_
 ·(refine AS.Le.of (by first|decide|omega) ?_ ?_<;>simp[bz,bA,aD,ak,AV.bd,AV.bd.bdL,u8,af,ah,aj])
  rw[hb2,Nat.pow_zero]
 ·intro k hk R hR
  cases k with
  |zero=>
   repeat' first|simp only[go_sem,seval]|refine sB ?_|(first|apply pX|apply bX)<;>intro hc|refine⟨oD,?_⟩|exact oD|fail
   rw[Nat.div_one]
  |succ k=>
   obtain⟨x,hx⟩: ∃x,x=a^(n/2^(k+1))%m:=⟨_,rfl⟩;have hxm:x<m:=by rw[hx];exact Nat.mod_lt _ h0
   have hxx:x*x%m<m:=Nat.mod_lt _ h0;have t1:=uu (a:=x) (b:=x) (by omega) (by omega) hm h0
   have t2:=uu (a:=x*x%m) (b:=a) (by omega) ha hm h0
   have hbit:=hbi k (by omega)
   rw[Nat.testBit_eq_decide_div_mod_eq]at hbit;have hdd:=yc n k;have hw0: ∀ _:True,((k+1:Nat):Int)-1=(k:Int):=fun _=>by omega
   have hge0: ∀ _:True,decide ((k:Int)≥0)=true:=fun _=>by simp
   rw[←hx];repeat' first|simp only[go_sem,seval,hw0 trivial,hge0 trivial]|refine cP t1 ?_|refine cP t2 ?_|refine cP hbit ?_|refine sB ?_|(first|apply pX|apply bX)<;>intro hc|refine⟨oD,?_⟩|exact oD|fail
   ·have ez:x*x%m*a%m=a^(n/2^k)%m:=by
     have e3:x*x%m=a^(n/2^(k+1))*a^(n/2^(k+1))%m:=by rw[hx,←Nat.mul_mod]
     rw[e3,Nat.mod_mul_mod,←Nat.pow_add,←Nat.pow_succ];congr 2;omega
    refine hR k (by omega) (by omega) _ ?_
    rw[←ez];exact lE
   ·have ez:x*x%m=a^(n/2^k)%m:=by
     rw[hx,←Nat.mul_mod,←Nat.pow_add];congr 2;omega
    refine hR k (by omega) (by omega) _ ?_
    rw[←ez];exact lE
theorem P7 {a m:Nat} {e:Bytes} (ha:a<18446744073709551616) (he:aa e=true) (hm:m<18446744073709551616) (h0:0<m):aA Tryz.prog 155 [N a, .s e,N m] (.tup [N (a^num e%m),E 0]):=by
 have hc:=K5 (aI a) e (aI m);rw[tu ha he hm h0]at hc;have hr:=nA ha he hm h0;refine eW Tryz.call155 Tryz.func155 ?_;repeat' first|simp only[go_sem,seval]|refine cP hc ?_|refine cP hr ?_|refine sB ?_|(first|apply pX|apply bX)<;>intro hc|refine⟨oD,?_⟩|exact oD|fail
theorem wL {a m:Nat} (ha:a<18446744073709551616) (hm:m<18446744073709551616) (h0:0<m) (hg:Nat.gcd a m=1):aA Tryz.prog 158 [N a,N m] (.tup [N (cA a m),E 0]):=by
 have w1:=qz;have w2:=jj;have hc:=OV (aI a) (aI m);rw[Li ha hm h0]at hc;have hd:=mH (a:=a) (m:=m) (by omega) (by omega) h0
 have hl:=Nat.mod_lt a h0;have hg':Nat.gcd (a%m) m=1:=by rw[←hg,←Nat.gcd_rec,Nat.gcd_comm]
 obtain⟨X,Y,h1,h2,h3⟩:=vk (a:=a%m) (b:=m) (by omega) hm h0
 obtain⟨h4,h5⟩:=h1 hg';rw[hg']at h3;have ho:=iR 1 (by decide)
 have hi:=LF (x:=X) (m:=m) (by omega) (by omega) h0
 have hX:(X%(m:Int)).toNat=cA a m:=by
  obtain⟨n,rfl⟩:=Int.eq_ofNat_of_zero_le h4;rw[Int.natAbs_natCast]at h5;have e1:((n:Int)%(m:Int)).toNat=n%m:=rfl;rw[e1,h5];obtain⟨g1,g2⟩:=(dO h0 hg').inv;exact(ed g1 (by rw[Nat.mod_mul_mod]at g2;exact g2)).symm
 rw[hX]at hi;have hbn:(aI 1 !=aI 1)=false:=by simp
 clear h1 h4 h5 hX;refine eW Tryz.call158 Tryz.func158 ?_;repeat' first|simp only[go_sem,seval,Z,hbn,bne_self_eq_false,beq_self_eq_true]|refine cP hc ?_|refine cP hd ?_|refine cP h3 ?_|refine cP ho ?_|refine cP hi ?_|refine sB ?_|(first|apply pX|apply bX)<;>intro hc|refine⟨oD,?_⟩|exact oD|fail
theorem BV {a m:Nat} {e:Bytes} {ng:Bool} (ha:a<m) (he:aa e=true) (hz:(ng&&e==[])=false) (hm:m<18446744073709551616) (hu:Nat.gcd a m=1):aA Tryz.prog 106 [N a, .agg [.b ng, .s e],N m] (.tup [N (br m a ng (num e)),E 0]):=by
 have h0:0<m:=by omega
 have w2:=jj;have v1:=aN (aI a);have v2:=aN (aI m);rw[vB (show a<bR by omega)]at v1
 rw[vB (show m<bR by omega)]at v2
 have v3:=kY ng e;rw[he,hz]at v3;have e0:(aI m==([]:Bytes))=false:=lU (by omega)
 have hi:=wL (show a<18446744073709551616 by omega) hm h0 hu
 have hil:=(dO h0 hu).inv.1;cases ng
 ·have hr:=nA (a:=a) (m:=m) (e:=e) (by omega) he hm h0
  have e1:br m a false (num e)=a^num e%m:=rfl;rw[e1];refine eW Tryz.call106 Tryz.func106 ?_;repeat' first|simp only[go_sem,seval,e0]|refine cP v1 ?_|refine cP v2 ?_|refine cP v3 ?_|refine cP hr ?_|refine sB ?_|(first|apply pX|apply bX)<;>intro hc|refine⟨oD,?_⟩|exact oD|fail
 ·have hr:=nA (a:=cA a m) (m:=m) (e:=e) (by omega) he hm h0
  have e1:br m a true (num e)=cA a m^num e%m:=rfl;rw[e1];refine eW Tryz.call106 Tryz.func106 ?_;repeat' first|simp only[go_sem,seval,e0]|refine cP v1 ?_|refine cP v2 ?_|refine cP v3 ?_|refine cP hi ?_|refine cP hr ?_|refine sB ?_|(first|apply pX|apply bX)<;>intro hc|refine⟨oD,?_⟩|exact oD|fail
end Go.Proofs.YtmobkhegihemeaaGreatDoor
