/-
  Part of the proof, part KR48. Own work.
-/
import Derived.Test.YtmobkhegihemeaaGreatDoorKR47
set_option linter.all false
namespace Go.Proofs.YtmobkhegihemeaaGreatDoor
open Go Go.Dom Go.Num
set_option maxRecDepth 100000
noncomputable def NR (q:Nat) (pts:List Nat) (k:Nat):Int:=(cL (qR q (pts.getD k 0:Nat) ((nI pts).eraseIdx k)).toNat q:Nat)
theorem E9 {q:Nat} (hp:cT q=true) {pts:List Nat} (hd:pts.Nodup) (hb: ∀a∈pts,a≤8∧a<q) {k:Nat} (hk:k<pts.length):Cg q (NR q pts k*uG ((nI pts).eraseIdx k) ((nI pts).getD k 0)) 1:=by
 have h2:=uj hp;have hg:=Bp hp hd hb hk;have hu:=(fU (by omega) hg).inv.2
 have h5:=qS (q:=(q:Int)) (by omega) (pts.getD k 0:Nat) ((nI pts).eraseIdx k)
 have hs:=Gr (q:Int) (pts.getD k 0:Nat) ((nI pts).eraseIdx k);unfold NR;rw[kx];obtain⟨s,hs0⟩: ∃s:Nat,qR q (pts.getD k 0:Nat) ((nI pts).eraseIdx k)=s:=⟨_,(Int.toNat_of_nonneg h5.1).symm⟩;rw[hs0]at hs hu⊢;rw[Int.toNat_natCast]at hu⊢;generalize cL s q=i at*;refine((Cg.eD (i:Int)).mul hs.symm).trans ?_;have h1:Cg q (((s*i%q:Nat):Int)) ((s*i:Nat):Int):=by rw[Int.natCast_emod];exact Cg.emod _ _
 have h3:Cg q (((1%q:Nat):Int)) ((1:Nat):Int):=by rw[Int.natCast_emod];exact Cg.emod _ _
 rw[hu]at h1;rw[←Int.natCast_mul,Nat.mul_comm i s];exact h1.symm.trans h3
theorem OU {q:Int} {l:List Int} (h: ∀x∈l,0≤x∧x<q):nI (tN l)=l:=by
 unfold nI tN;rw[List.map_map]
 conv=>rhs;rw[←List.map_id l]
 exact List.map_congr_left fun x hx=>Int.toNat_of_nonneg (h x hx).1
theorem JW {q:Int} (hq:0<q) (l:List Int) (f:Nat→Int): ∀x∈lk q l f,0≤x∧x<q:=fun x hx=>by
 obtain⟨j,-,rfl⟩:=List.mem_map.1 hx;exact mY hq _ _ _ _
theorem GQ {n i k:Nat} (hk:k<n):(uv n i).getD k 0=if k=i then 1 else 0:=by
 unfold uv;rw[List.getD_eq_getElem?_getD,List.getElem?_set]
 by_cases e:i=k
 ·subst e;simp[hk]
 ·rw[if_neg e,if_neg (fun h=>e h.symm),List.getElem?_replicate,if_pos hk];rfl
theorem AQ {q:Nat} (hp:cT q=true) (pts:List Nat) (x:Nat) {i:Nat} (hi:i<pts.length):Cg q (jd q pts x i:Nat) (NS (nI pts) (NR q pts) i (x:Int)):=by
 have h2:=uj hp;have hl:nI (oL q pts (uv pts.length i))=lk q (nI pts) (fN q pts (uv pts.length i)):=OU (JW (q:=(q:Int)) (by omega) _ _)
 have hb:=nA (q:=(q:Int)) (by omega) (x:Int) (lk q (nI pts) (fN q pts (uv pts.length i)))
 unfold jd Cn;rw[hl,Int.toNat_of_nonneg hb.1];refine Db (by rw[gX];exact hi) ?_ (fun k hk hn=> ?_) _
 ·unfold fN NR;rw[GQ hi,if_pos rfl,Nat.one_mul,Int.natCast_emod];exact Cg.emod _ _
 ·rw[gX]at hk;unfold fN;rw[GQ hk,if_neg hn,Nat.zero_mul,Nat.zero_mod];exact Cg.eD _
theorem tC (m q:Nat) (pts fF:List Nat) (x:Nat) (hl:fF.length=pts.length):yo m q pts fF x=rq m ((List.range pts.length).map fun k=>(fF.getD k 0,((jd q pts x k:Nat):Int))):=by
 unfold yo oF;rw[←Jm _ (fun p=>(p.1,(decide (p.2<0),aK p.2.natAbs))) fun _=>rfl,List.map_map]
 congr 1;refine List.ext_getElem? fun t=> ?_
 by_cases ht:t<pts.length
 ·rw[List.getElem?_map,List.getElem?_range ht,(List.getElem?_zip_eq_some (z:=(fF[t]'(by omega),(false,aK (jd q pts x t))))).2 ⟨List.getElem?_eq_getElem (by omega),by rw[List.getElem?_map,List.getElem?_range ht];rfl⟩]
  simp[List.getD_eq_getElem?_getD,List.getElem?_eq_getElem (show t<fF.length by omega)]
 ·rw[List.getElem?_eq_none (by simp;omega),List.getElem?_eq_none (by simp;omega)]
theorem Aa {m q g:Nat} (m0:0<m) (hg:bE m g) (ho:g^q%m=1%m) (hp:cT q=true) {pts:List Nat} (hd:pts.Nodup) (hb: ∀a∈pts,a≤8∧a<q) {c:List Int} (hc:c.length≤pts.length) {fF:List Nat} (hl:fF.length=pts.length) (he: ∀k,k<pts.length→fF.getD k 0=bT m g (dP c (pts.getD k 0:Nat))) (x:Nat):yo m q pts fF x=bT m g (dP c (x:Int)):=by
 rw[tC m q pts fF x hl];have hn:=gX pts;have:=Ek (m:=m) (q:=q) (l:=nI pts) (w:=NR q pts) hg m0 ho (tZ hp hd hb) (fun i hi=>E9 hp hd hb (by omega)) (c:=c) (by omega) (x:=x) (v:=fun k=>((jd q pts x k:Nat):Int)) (fun i hi=>AQ hp pts x (by omega)) (e:=fun k=>dP c (pts.getD k 0:Nat)) (fun i hi=>by rw[kx];exact Cg.eD _)
 rw[hn]at this;rw[←this];congr 1;exact List.map_congr_left fun k hk=>by rw[he k (List.mem_range.1 hk)]
structure Fc (C:CK) (c:List Int):Prop where
 e:gE C.m C.o=0
 o0:C.o≠[]
 p:cT (num C.o)=true
 gg:GP C.m C.o (num C.g)
 n1:1≤C.need
 n2:C.need≤C.sh.length
 nq:C.sh.length<num C.o
 n8:C.sh.length≤8
 hc:c.length≤C.need.toNat
 he: ∀k:Nat,k≤C.sh.length→num ((C.y::C.sh).getD k [])=bT (num C.m) (num C.g) (dP c (k:Int))
theorem wu (C:CK) {d:Nat} (h:1≤d):C.fF d=(C.y::C.sh).take d:=by
 obtain⟨n,rfl⟩: ∃n,d=n+1:=⟨d-1,by omega⟩
 rfl
theorem tW (C:CK) {d k:Nat} (hk:k<d) (hd:d≤C.sh.length+1):((C.fF d).map num).getD k 0=num ((C.y::C.sh).getD k []):=by
 rw[wu C (by omega),List.getD_eq_getElem?_getD,List.getElem?_map,List.getElem?_take,if_pos hk,List.getD_eq_getElem?_getD,List.getElem?_eq_getElem (show k<(C.y::C.sh).length by rw[List.length_cons];omega)];rfl
theorem tX (C:CK) {d:Nat} (h:1≤d) (hd:d≤C.sh.length+1):((C.fF d).map num).length=d:=by
 rw[wu C h,List.length_map,List.length_take,List.length_cons];omega
theorem uM {n q:Nat} (h8:n≤9) (hq:n≤q):(List.range n).Nodup∧ ∀a∈List.range n,a≤8∧a<q:=⟨List.nodup_range,fun a ha=>by have:=List.mem_range.1 ha;omega⟩
theorem zk {n k:Nat} (h:k<n):(List.range n).getD k 0=k:=by rw[List.getD_eq_getElem?_getD,List.getElem?_range h];rfl
theorem Fc.law {C:CK} {c:List Int} (h:Fc C c) (i:Nat):C.at i=bT (num C.m) (num C.g) (dP c (i:Int)):=by
 obtain⟨-,-,m1,-,-⟩:=fb h.e;have a1:=h.n1;have a2:=h.n2;have a3:=h.nq;have a4:=h.n8;obtain⟨r1,r2⟩:=uM (n:=C.need.toNat) (q:=num C.o) (by omega) (by omega)
 unfold CK.at
 refine Aa (by omega) h.gg.unit (h.gg.ord.resolve_left h.o0) h.p r1 r2 (by rw[List.length_range];exact h.hc) (by rw[List.length_range];exact tX C (by omega) (by omega)) (fun k hk=> ?_) i
 rw[List.length_range]at hk;rw[zk hk,tW C hk (by omega)]
 exact h.he k (by omega)
theorem Fc.RC {C:CK} {c:List Int} (h:Fc C c):oz C=true:=by
 unfold oz;refine List.all_eq_true.2 fun i hi=> ?_
 have hi:=List.mem_range.1 hi
 by_cases g:i<C.need.toNat
 ·rw[decide_eq_true g];rfl
 ·have a1:=h.n1;obtain⟨j,rfl⟩: ∃j,i=j+1:=⟨i-1,by omega⟩
  have:=h.he (j+1) (by omega)
  rw[List.getD_cons_succ]at this;rw[decide_eq_true (show C.at (j+1)=num (C.sh.getD (j+1-1) [])from(h.law _).trans this.symm),Bool.or_true]
theorem Eg {C:CK} (h:oz C=true) {i:Nat} (hi:i≤C.sh.length) (hn:C.need.toNat≤i) (i0:1≤i):C.at i=num ((C.y::C.sh).getD i []):=by
 unfold oz at h;have:=List.all_eq_true.1 h i (List.mem_range.2 (by omega))
 rw[decide_eq_false (show¬i<C.need.toNat by omega),Bool.false_or]at this
 have:=of_decide_eq_true this;obtain⟨j,rfl⟩: ∃j,i=j+1:=⟨i-1,by omega⟩
 exact this
def CK.put (C:CK) (t:Nat) (v:Bytes):CK:=⟨C.name,C.m,C.o,C.g,C.y,C.need,C.sh.set t v⟩
theorem uI (C:CK) {t k:Nat} (v:Bytes) (ht:t<C.sh.length):((C.put t v).y::(C.put t v).sh).getD k []=if k=t+1 then v else(C.y::C.sh).getD k []:=by
 show(C.y::C.sh.set t v).getD k []= _
 cases k with
 |zero=>rw[if_neg (by omega)];rfl
 |succ k=>
  rw[List.getD_cons_succ,List.getD_cons_succ,List.getD_eq_getElem?_getD,List.getElem?_set]
  by_cases e:t=k
  ·subst e;rw[if_pos rfl,if_pos rfl,if_pos ht];rfl
  ·rw[if_neg e,if_neg (by omega),List.getD_eq_getElem?_getD]
theorem Fc.change {C:CK} {c:List Int} (h:Fc C c) {t:Nat} (ht:t<C.sh.length) {u:Nat} (hu:GP C.m C.o u) {v:Bytes} (hv:num v=num (C.sh.getD t [])*u%num C.m) (hne:num v≠num (C.sh.getD t [])):oz (C.put t v)=false:=by
 rw[Bool.eq_false_iff];intro hc;obtain⟨-,-,m1,-,-⟩:=fb h.e;have a1:=h.n1;have a2:=h.n2;have a3:=h.nq;have a4:=h.n8;have m0:0<num C.m:=by omega
 have hlen:(C.put t v).sh.length=C.sh.length:=List.length_set ..;have hneed:(C.put t v).need=C.need:=rfl
 by_cases hb:C.need.toNat≤t+1
 ·have h1:=Eg hc (i:=t+1) (by rw[hlen];omega) (by rw[hneed];exact hb) (by omega)
  rw[uI C v ht,if_pos rfl]at h1;have h2:(C.put t v).at (t+1)=C.at (t+1):=by
   unfold CK.at
   have:(C.put t v).fF C.need.toNat=C.fF C.need.toNat:=by
    unfold CK.fF CK.put;simp only;rw[List.take_set_of_le (by omega)]
   rw[hneed,this];rfl
  have h3:=h.law (t+1);have h4:=h.he (t+1) (by omega)
  rw[List.getD_cons_succ]at h4;exact hne (h1.symm.trans (h2.trans (h3.trans h4.symm)))
 ·obtain⟨n,hn⟩: ∃n,n=C.need.toNat:=⟨_,rfl⟩;have h1:=Eg hc (i:=n) (by rw[hlen];omega) (by rw[hneed,hn];exact Nat.le_refl _) (by omega)
  rw[uI C v ht,if_neg (by omega),h.he n (by omega)]at h1
  obtain⟨r1,r2⟩:=uM (n:=n) (q:=num C.o) (by omega) (by omega)
  have hU:=h.gg.unit;have hord:=h.gg.ord.resolve_left h.o0;have e1:(C.put t v).at n=rq (num C.m) ((List.range n).map fun k:Nat=>(if k=t+1 then bT (num C.m) (num C.g) (dP c (k:Int))*u%num C.m else bT (num C.m) (num C.g) (dP c (k:Int)),((jd (num C.o) (List.range n) n k:Nat):Int))):=by
   unfold CK.at
   rw[hneed,←hn];show yo (num C.m) (num C.o) _ _ _= _;rw[tC _ _ _ _ _ (by rw[List.length_range];exact tX (C.put t v) (by omega) (by rw[hlen];omega)),List.length_range]
   congr 1;refine List.map_congr_left fun k hk=> ?_
   have hk:=List.mem_range.1 hk;rw[tW (C.put t v) hk (by rw[hlen];omega),uI C v ht]
   by_cases e:k=t+1
   ·rw[if_pos e,if_pos e,hv,e,←h.he (t+1) (by omega),List.getD_cons_succ]
   ·rw[if_neg e,if_neg e,h.he k (by omega)]
  have e2:bT (num C.m) (num C.g) (dP c (n:Int))=rq (num C.m) ((List.range n).map fun k:Nat=>(bT (num C.m) (num C.g) (dP c (k:Int)),((jd (num C.o) (List.range n) n k:Nat):Int))):=by
   rw[←h.law n];unfold CK.at
   rw[←hn,tC _ _ _ _ _ (by rw[List.length_range];exact tX C (by omega) (by omega)),List.length_range]
   congr 1;refine List.map_congr_left fun k hk=> ?_
   have hk:=List.mem_range.1 hk;rw[tW C hk (by omega),h.he k (by omega)]
  have hi:Iv (num C.o) ((jd (num C.o) (List.range n) n (t+1):Nat):Int):=by
   have hw:=fun k (hk:k<(nI (List.range n)).length)=>E9 h.p r1 r2 (k:=k) (by rwa[gX]at hk)
   have:=Mi (q:=(num C.o:Int)) (l:=nI (List.range n)) (w:=NR (num C.o) (List.range n)) hw (i:=t+1) (by rw[gX,List.length_range];omega) (x:=(n:Int)) (fun a ha=>by
    have ha:=List.mem_of_mem_eraseIdx ha;obtain⟨j,hj,rfl⟩:=List.mem_map.1 ha;have:=List.mem_range.1 hj;exact AD h.p (by omega) (by omega) (by omega) (by omega) (by omega))
   exact this.cg (AQ h.p (List.range n) n (by rw[List.length_range];omega)).symm
  have hu1:bT (num C.m) u 1≠1%num C.m:=fun e=>by
   have e:=(dG (num C.m) u 1).symm.trans e;rw[Nat.pow_one]at e;refine hne ?_;have hb2:=h.he (t+1) (by omega)
   rw[List.getD_cons_succ]at hb2;rw[hv,Nat.mul_mod,e,←Nat.mul_mod,Nat.mul_one,hb2];exact jW ..
  have e3:=qJ m0 (b:=fun k:Nat=>bT (num C.m) (num C.g) (dP c (k:Int))) (fun k=>ti hU m0 _) hu.unit (hu.ord.resolve_left h.o0) hu1 (v:=fun k:Nat=>((jd (num C.o) (List.range n) n k:Nat):Int)) (i:=t+1) hi n
  rw[if_pos (by omega),←e1,←e2,h1]at e3
  have e4:=Ms m0 (ti hU m0 _) (jW ..) e3.symm;rw[jW]at e4;exact hu1 (Nb hu.unit m0 (hu.ord.resolve_left h.o0) hi e4)
def FC (name m o base:Bytes) (need:Int) (y:Nat) (S:List Nat):CK:=⟨name,m,o,base,aK y,need,S.map aK⟩
theorem Oa (name m o base:Bytes) (need:Int) (y:Nat) (S:List Nat):(FC name m o base need y S).pv= .agg [.s name, .s m, .s o, .s base,N y,E need, .sl (S.map bO)]:=by
 unfold FC CK.pv;simp only[List.map_map];rfl
theorem yI (C:CK) (h1:([C.m,C.o,C.g,C.y].all aa)=true) (h2:C.sh.all aa=true) (h3:jH C.name=true) (h4:fg C.m C.o C.g C.y=0) (h5:cT (num C.o)=true) (h6:(C.sh.length:Int)<num C.o) (h7:1≤C.need) (h8:C.need≤C.sh.length) (h9:C.sh.all (fX C.m C.o)=true):ec C=if oz C then 0 else 22:=by
 unfold ec;rw[h1,h2,h3,h4,h5,h9,if_neg (by simp),if_neg (by simp),if_neg (by simp),if_neg (by simp),if_neg (by omega),if_neg (by simp)]
structure K2 (name m o base:Bytes) (need count:Int) (y:Nat) (ls:List Nat):Prop where
 nm:jH name=true
 vb:aa base=true
 vm:aa m=true
 vo:aa o=true
 key:fg m o base (aK y)=0
 fc: ∃c,Fc (FC name m o base need y (ei (num m) (num base) ls)) c
 cn:(ls.length:Int)=count
 lq: ∀s∈ls,s<num o
theorem mA (m b:Nat) (ls:List Nat):(ei m b ls).length=ls.length:=List.length_map ..
theorem xh {m b:Nat} {ls:List Nat} {j:Nat} (h:j<ls.length):(ei m b ls).getD j 0=b^ls.getD j 0%m:=by
 rw[ei,List.getD_eq_getElem?_getD,List.getElem?_map,List.getD_eq_getElem?_getD,List.getElem?_eq_getElem h];rfl
theorem Gz {q sec:Nat} {l:List Bytes} {k j:Nat} (h:j<k):(mJ q sec l k).getD j 0=(oE q (nI (sec::l.map num)) ((j+1:Nat):Int)).toNat:=by
 rw[mJ,List.getD_eq_getElem?_getD,List.getElem?_map,List.getElem?_range h];rfl
theorem wT (S:List Nat) {j:Nat} (h:j<S.length):num ((S.map aK).getD j [])=S.getD j 0:=by
 rw[List.getD_eq_getElem?_getD,List.getElem?_map,List.getD_eq_getElem?_getD,List.getElem?_eq_getElem h];exact aG _
theorem L8 {name m o base:Bytes} {need count:Int} {vs:List Bytes} {sd:Bytes} {a:Int} {y:Nat} {ls:List Nat} {j:Nat} (lm:m.length≤8) (lo:o.length≤8) (hl:vs.length<1000000) (h8:count≤8) (h:wD name m o base need count vs sd a= .ok (y,ls,j)):K2 name m o base need count y ls:=by
 unfold wD at h
 split at h
 ·cases h
 split at h
 ·cases h
 rename_i hnm;have hnm:jH name=true:=by simpa using hnm
 split at h
 ·cases h
 rename_i y' x i hs
 split at h
 ·cases h
 rename_i ls' j' hp;simp only[Except.ok.injEq,Prod.mk.injEq]at h;obtain⟨rfl,rfl,rfl⟩:=h;obtain⟨vb,hE,o0,gp,g1,hv,x0,xq,ye,y1,ib⟩:=Bo lo hl hs;obtain⟨n1,n2,n3,n4,n5,l,hm,hls,mr⟩:=xP hp;obtain⟨vm,vo,m1,-,-⟩:=fb hE;have hW:=cE lo;have hM:=cE lm;obtain⟨hml,-,-⟩:=qn hv (vN hW) hl ib (fun x hx=>by cases hx) hm
 have hml:l.length=(need-1).toNat:=by simpa using hml
 have gy:GP m o y':=by rw[ye];exact gp.pow x
 have hy:=gy.lt;have hPl:=mA (num m) (num base) ls';refine⟨hnm,vb,vm,vo,?_,⟨nI (x::l.map num),hE,o0,mr,gp,n1,?_,?_,?_,?_,fun k hk=> ?_⟩,by omega,fun s hs=> ?_⟩
 ·have hyn:aK y'≠[1]:=fun e=>y1 (by have:=congrArg num e;rw[aG]at this;exact this)
  have i1:zu m o base=true:=by unfold zu;rw[jQ hE vb gp];simpa using g1
  have i2:zu m o (aK y')=true:=by unfold zu;rw[jQ hE (vN (by omega)) (by rw[aG];exact gy)];simpa using hyn
  unfold fg;rw[i1,i2,hE];simp[vm,vo,vb,vN (show y'<18446744073709551616 by omega),o0]
 ·show need≤(((ei (num m) (num base) ls').map aK).length:Int);rw[List.length_map,hPl];omega
 ·show((ei (num m) (num base) ls').map aK).length<num o;rw[List.length_map,hPl];omega
 ·show((ei (num m) (num base) ls').map aK).length≤8;rw[List.length_map,hPl];omega
 ·rw[gX,List.length_cons,List.length_map,hml];show(need-1).toNat+1≤need.toNat;omega
 ·have hk:k≤ls'.length:=by
   have:((ei (num m) (num base) ls').map aK).length=ls'.length:=by rw[List.length_map,hPl]
   rw[←this];exact hk
  show num ((aK y'::(ei (num m) (num base) ls').map aK).getD k [])=bT (num m) (num base) (dP (nI (x::l.map num)) (k:Int));have hord:num base^num o%num m=1%num m:=gp.ord.resolve_left o0
  cases k with
  |zero=>
   rw[List.getD_cons_zero,aG,ye];have:dP (nI (x::l.map num)) ((0:Nat):Int)=(x:Nat):=by
    show((x:Nat):Int)+((0:Nat):Int)* _= _;simp
   rw[this,dG]
  |succ k=>
   rw[List.getD_cons_succ,wT _ (by rw[hPl];omega),xh (by omega),hls,Gz (by omega)]
   have hb:=nA (q:=(num o:Int)) (by omega) ((k+1:Nat):Int) (nI (x::l.map num))
   have hc:=yT (num o:Int) ((k+1:Nat):Int) (nI (x::l.map num));rw[←dG,Int.toNat_of_nonneg hb.1];exact mz gp.unit (by omega) hord hc.dvd
 ·rw[hls]at hs;exact Br (by omega) _ _ s hs
theorem K2.valid {name m o base:Bytes} {need count:Int} {y:Nat} {ls:List Nat} (lm:m.length≤8) (h:K2 name m o base need count y ls) (hy:y<18446744073709551616) {sh:List Bytes} (hl:sh.length=ls.length) (hs: ∀x∈sh,aa x=true∧GP m o (num x)):ec ⟨name,m,o,base,aK y,need,sh⟩=if oz ⟨name,m,o,base,aK y,need,sh⟩then 0 else 22:=by
 obtain⟨nm,vb,vm,vo,key,⟨c,fc⟩,cn,lq⟩:=h;have hP:(FC name m o base need y (ei (num m) (num base) ls)).sh.length=ls.length:=by
  show((ei (num m) (num base) ls).map aK).length= _;rw[List.length_map,mA]
 have n1:1≤need:=fc.n1;have n2:need≤ _:=fc.n2;have nq: _<num o:=fc.nq;rw[hP]at n2 nq;refine yI _ ?_ (List.all_eq_true.2 fun x hx=>(hs x hx).1) nm key fc.p ?_ n1 ?_ (List.all_eq_true.2 fun x hx=>jQ fc.e (hs x hx).1 (hs x hx).2)
 ·simp[vm,vo,vb,vN hy]
 ·show(sh.length:Int)<num o;rw[hl];omega
 ·show need≤(sh.length:Int);rw[hl];exact n2
theorem Ji {m o base:Bytes} (gp:GP m o (num base)) (hM:num m<18446744073709551616) (ls:List Nat): ∀x∈(ei (num m) (num base) ls).map aK,aa x=true∧GP m o (num x):=fun x hx=>by
 obtain⟨v,hv,rfl⟩:=List.mem_map.1 hx;obtain⟨s,-,rfl⟩:=List.mem_map.1 hv;have g:=gp.pow s;have:=g.lt;exact⟨vN (by omega),by rw[aG];exact g⟩
theorem K2.Rq {name m o base:Bytes} {need count:Int} {y:Nat} {ls:List Nat} (lm:m.length≤8) (h:K2 name m o base need count y ls):y<18446744073709551616:=by
 obtain⟨-,-,-,-,-,-,hy,-⟩:=iL h.key;have:=hy;have hM:=cE lm;have:=(iL h.key).2.2.2.2.2.2.1.lt;rw[aG]at this;omega
theorem K2.ok {name m o base:Bytes} {need count:Int} {y:Nat} {ls:List Nat} (lm:m.length≤8) (h:K2 name m o base need count y ls):ec (FC name m o base need y (ei (num m) (num base) ls))=0:=by
 obtain⟨c,fc⟩:=h.fc;have:=h.valid lm (h.Rq lm) (sh:=(ei (num m) (num base) ls).map aK) (by rw[List.length_map,mA]) (Ji fc.gg (cE lm) ls)
 unfold FC;rw[this];have:=fc.RC;unfold FC at this;rw[this];rfl
theorem FY {m M d:Nat} (hm:0<m) (hM:M<m) (hd:bE m d):uH m [(M*d%m,(false,[1])),(d,(true,[1]))]=M:=by
 rw[mB,o9];show bJ m _ false (num [1])*bJ m d true (num [1])%m=M;rw[show num ([1]:Bytes)=1 from rfl]
 show(M*d%m)^1%m*(cL d m^1%m)%m=M;rw[Nat.pow_one,Nat.pow_one,Nat.mod_mod,←Nat.mul_mod,Nat.mul_assoc,Nat.mul_mod,hd.inv.2,←Nat.mul_mod,Nat.mul_one,Nat.mod_eq_of_lt hM]
theorem Jd {C:CK} {c:List Int} (h:Fc C c) {e:Nat} {pts fF:List Nat} (hd:pts.Nodup) (hb: ∀a∈pts,1≤a∧a≤C.sh.length) (hn:pts.length=C.need.toNat) (hl:fF.length=pts.length) {x:Nat→Nat} (hx: ∀k,k<pts.length→num C.g^x k%num C.m=num (C.sh.getD (pts.getD k 0-1) [])) (he: ∀k,k<pts.length→fF.getD k 0=(num C.g^e%num C.m)^x k%num C.m):yo (num C.m) (num C.o) pts fF 0=num C.y^e%num C.m:=by
 obtain⟨-,-,m1,-,-⟩:=fb h.e;have m0:0<num C.m:=by omega
 have a3:=h.nq;have a4:=h.n8;have hu:=h.gg.unit;have hA:GP C.m C.o (num C.g^e%num C.m):=h.gg.pow e;have sw: ∀z:Int,bT (num C.m) (num C.g^e%num C.m) z=bT (num C.m) (bT (num C.m) (num C.g) z) (e:Int):=fun z=>by
  rw[←dG,fx hu m0,fx hu m0,Int.mul_comm]
 have:=Aa (m:=num C.m) (q:=num C.o) (g:=num C.g^e%num C.m) m0 hA.unit (hA.ord.resolve_left h.o0) h.p hd (fun a ha=>by have:=hb a ha;omega) (c:=c) (by rw[hn];exact h.hc) hl (fun k hk=> ?_) 0
 ·rw[this,sw];have h0:=h.he 0 (by omega)
  rw[List.getD_cons_zero]at h0;rw[show(((0:Nat):Int))=((0:Nat):Int)from rfl,←h0,dG]
 ·have h1:=hb _ (au 0 hk);have h2:=h.he (pts.getD k 0) h1.2;obtain⟨j,hj⟩: ∃j,pts.getD k 0=j+1:=⟨pts.getD k 0-1,by omega⟩
  have h3:=hx k hk;rw[hj]at h2 h3⊢;rw[List.getD_cons_succ]at h2;rw[Nat.add_sub_cancel]at h3;rw[he k hk,sw,←h2,←h3,dG,←Nat.pow_mod,←Nat.pow_mod,←Nat.pow_mul,←Nat.pow_mul,Nat.mul_comm]
end Go.Proofs.YtmobkhegihemeaaGreatDoor
namespace Go.Proofs.YtmobkhegihemeaaGreatDoor
open Go Go.Dom Go.Num
set_option maxRecDepth 100000
set_option maxHeartbeats 16000000
theorem EK {name m o base:Bytes} {need count:Int} {vs:List Bytes} {sd:Bytes} {a e:Int} (hr:wD name m o base need count vs sd a= .error e):e≠0:=by
 unfold wD at hr
 split at hr
 ·injection hr with hr;omega
 split at hr
 ·injection hr with hr;omega
 split at hr
 ·rename_i e' hs;injection hr with hr;rw[←hr];exact xD hs
 split at hr
 ·rename_i e' hs;injection hr with hr;rw[←hr];exact xO hs
 ·cases hr
structure N8 (C:CK) (A:Nat) (ls:List Nat) (fr k:Nat) (s:Sh):Prop where
 i:s.1=idx fr ls.length k+1
 d:s.2.1=A^ls.getD (idx fr ls.length k) 0%num C.m
 g:NP C (aK A) s
theorem Ev {C:CK} {c:List Int} (h:Fc C c) (gy:GP C.m C.o (num C.y)) {e A x fr:Nat} {ls:List Nat} (hA:A=num C.g^e%num C.m) (hx:x<num C.m) (hls:ls.length=C.sh.length) (hpw: ∀j,j<ls.length→num C.g^ls.getD j 0%num C.m=num (C.sh.getD j [])) {L:List Sh} (hL:(L.length:Int)=C.need) (hD: ∀k,k<L.length→N8 C A ls fr k (L.getD k yd)):(∀s∈L,NP C (aK A) s)∧(L.map (·.1)).Nodup∧yo (num C.m) (num C.o) (L.map (·.1)) (L.map (·.2.1)) 0=num C.y^e%num C.m∧uH (num C.m) [(x*(num C.y^e%num C.m)%num C.m,(false,[1])),(num C.y^e%num C.m,(true,[1]))]=x:=by
 have n1:=h.n1;have n2:=h.n2;obtain⟨-,-,m1,-,-⟩:=fb h.e;have hi: ∀k,k<L.length→(L.map (·.1)).getD k 0=(L.getD k yd).1∧(L.map (·.2.1)).getD k 0=(L.getD k yd).2.1:=fun i hi=>by simp[List.getD_eq_getElem?_getD,hi]
 have lp:(L.map (·.1)).length=L.length:=List.length_map ..;have lel:(L.map (·.2.1)).length=L.length:=List.length_map ..;have hin: ∀k,k<L.length→idx fr ls.length k<ls.length:=fun k _=>yV (by omega)
 have hG: ∀s∈L,NP C (aK A) s:=fun s hs=>by
  obtain⟨k,hk,rfl⟩:=List.mem_iff_getElem.1 hs;have:=(hD k hk).g
  rwa[List.getD_eq_getElem?_getD,List.getElem?_eq_getElem hk]at this
 have hN:(L.map (·.1)).Nodup:=by
  refine List.pairwise_iff_getElem.2 fun a b ha hb hab e=> ?_
  rw[lp]at ha hb;have e1:=(hD a ha).i;have e2:=(hD b hb).i;rw[List.getD_eq_getElem?_getD,List.getElem?_eq_getElem ha]at e1;rw[List.getD_eq_getElem?_getD,List.getElem?_eq_getElem hb]at e2;simp only[List.getElem_map,Option.getD_some]at e e1 e2;exact IH (f:=fr) (n:=ls.length) hab (by omega) (by omega)
 refine⟨hG,hN,?_,FY (by omega) hx (gy.pow e).unit⟩
 refine Jd h hN (fun a ha=> ?_) (by rw[lp];omega) (by rw[lp,lel]) (x:=fun k=>ls.getD (idx fr ls.length k) 0) (fun k hk=> ?_) (fun k hk=> ?_)
 ·obtain⟨s,hs,rfl⟩:=List.mem_map.1 ha;exact⟨(hG s hs).i1,(hG s hs).i2⟩
 ·rw[lp]at hk;rw[(hi k hk).1,(hD k hk).i,Nat.add_sub_cancel];exact hpw _ (hin k hk)
 ·rw[lp]at hk;rw[(hi k hk).2,(hD k hk).d,←hA]
theorem B4 {C:CK} (ln:C.name.length≤60) (lm:C.m.length≤8) (lo:C.o.length≤8) (l8:C.sh.length≤8) (hc:ec C=0) {A B:Nat} {sd:Bytes} (hsd:sd.length<1000000) (gA:GP C.m C.o A) (gB:GP C.m C.o B) {ls:List Nat} {fr:Nat} (hls:ls.length=C.sh.length) (hlq: ∀s∈ls,s<num C.o) (hpw: ∀j,j<ls.length→num C.g^ls.getD j 0%num C.m=num (C.sh.getD j [])) (n0:0<ls.length) (k:Nat) {a:Nat} (ha:bm [] (a:Int)=true):
  aB Tryz.prog 21 [C.pv,E ((idx fr ls.length k:Nat)+1),N (ls.getD (idx fr ls.length k) 0), .agg [N A,N B],T [] sd (a:Int)] (.tup [.agg [E 0, .s [], .s [], .sl [], .sl [], .sl []],T [] [] 0,E 14])∨ ∃s:Sh,N8 C A ls fr k s∧bm [] ((a+1:Nat):Int)=true∧aB Tryz.prog 21 [C.pv,E ((idx fr ls.length k:Nat)+1),N (ls.getD (idx fr ls.length k) 0), .agg [N A,N B],T [] sd (a:Int)] (.tup [lz s,T [] sd ((a+1:Nat):Int),E 0])∧aB Tryz.prog 22 [C.pv, .agg [N A,N B],lz s] (E 0):=by
 have kk:=gR hc;have hM:=cE lm;have hi:=yV (f:=fr) (k:=k) n0;have l1:=gA.lt;have l2:=gB.lt;have vA:aa (aK A)=true:=vN (by omega)
 have vB:aa (aK B)=true:=vN (by omega)
 have iA:=jQ kk.e vA (by rw[aG];exact gA)
 have iB:=jQ kk.e vB (by rw[aG];exact gB)
 rcases wa C ln lm lo l8 hc (i:=idx fr ls.length k+1) (by omega) (by omega) (x:=ls.getD (idx fr ls.length k) 0) (A:=aK A) (B:=aK B) (sd:=sd) (a:=a) hsd vA vB ha iA iB (hlq _ (au 0 hi)) (hpw _ hi)with h|⟨s,h1,h2,h3,h4,h5⟩
 ·exact .inl h
 ·rw[aG]at h2;exact .inr ⟨s,⟨h1,h2,h3⟩,h4,h5,LR C ln lm lo l8 hc (Ag C ln lm lo l8 kk iA iB vA vB h3)⟩
theorem BV (name m o base:Bytes) (need count:Int) (x:Bytes) {fr:Nat} (hfr:fr<256):aB Tryz.prog 6 [P4 name m o base need count, .s x, .i .u8 fr] (.b true):=by
 have hf:=ED name m o base need count;have ha:=yv;have hW:=gF
 cases hfb:jq name m o base count with
 |false=>
  rw[hfb]at hf;refine eW Tryz.call6 Tryz.func6 ?_;repeat' first|simp only[go_sem,seval]|refine cP hf ?_|refine cP ha ?_|refine sB ?_|(first|apply pX|apply bX)<;>intro hc|refine⟨oD,?_⟩|exact oD|fail
  all_goals rfl
 |true=>
 rw[hfb]at hf;obtain⟨ln,lm,lo,-,lc⟩:=of_decide_eq_true hfb
 by_cases h12:x.length>12
 ·refine eW Tryz.call6 Tryz.func6 ?_;repeat' first|simp only[go_sem,seval]|refine cP hf ?_|refine cP ha ?_|refine sB ?_|(first|apply pX|apply bX)<;>intro hc|refine⟨oD,?_⟩|exact oD|fail
  all_goals rfl
 by_cases h5:count>5
 ·refine eW Tryz.call6 Tryz.func6 ?_;repeat' first|simp only[go_sem,seval]|refine cP hf ?_|refine cP ha ?_|refine sB ?_|(first|apply pX|apply bX)<;>intro hc|refine⟨oD,?_⟩|exact oD|fail
  all_goals rfl
 have hsd:=uQ ([102,111,117,110,100]++x);have hsl:([102,111,117,110,100]++x).length<1000000:=by simp;omega
 obtain⟨sd,hs⟩: ∃sd:Bytes,sd=[102,111,117,110,100]++x:=⟨_,rfl⟩;rw[←hs]at hsl;have fo:=wG (name:=name) (m:=m) (o:=o) ln lm lo base need (count:=count) (by omega) (vs:=[]) (sd:=sd) (a:=0) (by simp) hsl
 cases hr:wD name m o base need count [] sd 0 with
 |error e=>
  have he:=EK hr;rw[hr]at fo;simp only[rO]at fo;subst hs;clear hr;refine eW Tryz.call6 Tryz.func6 ?_;repeat' first|simp only[go_sem,seval]|refine cP hf ?_|refine cP ha ?_|refine cP hsd ?_|refine cP fo ?_|refine sB ?_|(first|apply pX|apply bX)<;>intro hc|refine⟨oD,?_⟩|exact oD|fail
  all_goals rfl
 |ok R=>
 obtain⟨y,ls,j⟩:=R;have F:=L8 lm lo (by simp) (by omega) hr
 rw[hr]at fo;simp only[rO]at fo;have hOK:=F.ok lm;obtain⟨c,fc⟩:=F.fc;have hP:=mA (num m) (num base) ls;have hcn:=F.cn;have n1:1≤need:=fc.n1;have n2:need≤(((ei (num m) (num base) ls).map aK).length:Int):=fc.n2;rw[List.length_map,hP]at n2;have lS:(ls.map bO).length=ls.length:=List.length_map ..;have en:=yR lm lo base (aK y) x (vs:=[]) (sd:=sd) (a:=(j:Int)) (by simp) hsl
 cases hen:yQ m o base (aK y) x [] sd (j:Int)with
 |error e=>
  have he:=Ez hen;rw[hen]at en;simp only[B6]at en;subst hs hcn;clear hr hen F fc hOK;refine eW Tryz.call6 Tryz.func6 ?_;repeat' first|simp only[go_sem,seval,lS]|refine cP hf ?_|refine cP ha ?_|refine cP hsd ?_|refine cP fo ?_|refine cP en ?_|refine sB ?_|(first|apply pX|apply bX)<;>intro hc|refine⟨oD,?_⟩|exact oD|fail
  all_goals rfl
 |ok R=>
 obtain⟨A,B,e,j2⟩:=R;rw[hen]at en;simp only[B6]at en;obtain⟨vx,gx,hA,hB,hj⟩:=Ik lo hen;rw[aG]at hB;have gb:GP m o (num base):=fc.gg;have gA:GP m o A:=by rw[hA];exact gb.pow e
 have gy:GP m o (num (aK y)):=(iL F.key).2.2.2.2.2.2.1;have gB:GP m o B:=by rw[hB];exact gx.mul (by have:=gy.pow e;rwa[aG]at this)
 have hls:ls.length=(FC name m o base need y (ei (num m) (num base) ls)).sh.length:=by
  show _=((ei (num m) (num base) ls).map aK).length;rw[List.length_map,hP]
 have hpw: ∀t,t<ls.length→num base^ls.getD t 0%num m=num (((ei (num m) (num base) ls).map aK).getD t []):=fun t ht=>by rw[wT _ (by omega),xh ht]
 have c1:=gI (FC name m o base need y (ei (num m) (num base) ls)) ln lm lo (by rw[←hls];omega)
 have hsh:=fun k a=>B4 (C:=FC name m o base need y (ei (num m) (num base) ls)) ln lm lo (by rw[←hls];omega) hOK (sd:=sd) hsl gA gB (fr:=fr) hls F.lq hpw (by omega) k (a:=a)
 have hop:=fun L=>Ev fc gy hA gx.lt hls hpw (L:=L) (fr:=fr)
 have hO:=fun L h1 h2 h3 h4 h5 h6=>Er (FC name m o base need y (ei (num m) (num base) ls)) ln lm lo (by rw[←hls];omega) hOK (A:=aK A) (B:=aK B) h1 h2 h3 h4 (L:=L) h5 h6
 have hQ:=fun l h=>BU (FC name m o base need y (ei (num m) (num base) ls)) ln lm lo (by rw[←hls];omega) hOK (aK A) (aK B) (l:=l) h
 have hMW:=cE lm;have hlA:=gA.lt;have hlB:=gB.lt;have vA:aa (aK A)=true:=vN (by omega)
 have vB:aa (aK B)=true:=vN (by omega)
 have iA:=jQ fc.e vA (by rw[aG];exact gA)
 have iB:=jQ fc.e vB (by rw[aG];exact gB)
 have hO2: ∀L:List Sh,(L.length:Int)=need→(∀k,k<L.length→N8 (FC name m o base need y (ei (num m) (num base) ls)) A ls fr k (L.getD k yd))→aB Tryz.prog 23 [(FC name m o base need y (ei (num m) (num base) ls)).pv, .agg [N A,N B], .sl (L.map lz)] (.tup [.s x,E 0]):=fun L h1 h2=>by
  obtain⟨g1,g2,g3,g4⟩:=hop L h1 h2;have:=hO L vA vB iA iB h1 g1 g2 g3 (gy.pow e) (r:=num x) (by rw[aG,hB];rw[show num (FC name m o base need y (ei (num m) (num base) ls)).y=y from aG y]at g4⊢;exact g4)
  rw[dy vx]at this;exact this
 have hQ2: ∀l:List PV,(l.length:Int)<need→aB Tryz.prog 23 [(FC name m o base need y (ei (num m) (num base) ls)).pv, .agg [N A,N B], .sl l] (.tup [.s [],E 6]):=hQ;rw[hOK]at c1;obtain⟨C,hC⟩: ∃C,C=FC name m o base need y (ei (num m) (num base) ls):=⟨_,rfl⟩;have hpv:=Oa name m o base need y (ei (num m) (num base) ls);rw[←hC]at c1 hsh hO2 hQ2 hpv;obtain⟨n,hn⟩: ∃n,n=ls.length:=⟨_,rfl⟩;rw[←hn]at lS hcn hsh n2;obtain⟨d,hd⟩: ∃d:Nat,need=d:=⟨need.toNat,by omega⟩
 have hgN:=fun t (ht:t<n)=>ny ls (i:=t) (by omega)
 have hidx:=fun k=>yV (f:=fr) (n:=n) (k:=k) (by omega)
 have htm: ∀k,k<d→((fr:Int)+3*(n:Int)-(k:Int)).tmod (n:Int)=((idx fr n k:Nat):Int):=fun k hk=>by
  rw[Int.tmod_eq_emod_of_nonneg (by omega),show(fr:Int)+3*(n:Int)-(k:Int)=((fr+3*n-k:Nat):Int) by omega];rfl
 rw[hpv]at c1 hsh hO2 hQ2;generalize ei (num m) (num base) ls=S at*;clear hr hen hOK fc hP hA hB gb gA gy gB hls hpw hop hO hQ vA vB iA iB hlA hlB hpv gx vx;subst hs hcn hd;refine eW Tryz.call6 Tryz.func6 ?_;repeat' first|simp only[go_sem,seval,lS]|refine cP hf ?_|refine cP ha ?_|refine cP hsd ?_|refine cP fo ?_|refine cP en ?_|refine sB ?_|(first|apply pX|apply bX)<;>intro hc|refine⟨oD,?_⟩|exact oD|fail
 refine aj (α:=Nat×List Sh×Nat) (fun p=>d-p.1) (fun p=>match p.1 with|0=>⟨[(1, .v (.s x)),(2, .v (.i .u8 fr)),(3, .p 1000 0 0),(7, .p 1034 0 0),(8, .v (.sl (ls.map bO))),(9, .p 1035 0 0),(11, .p 1069 0 0),(13, .sn),(14, .v (.i .i64 0))],[(1000,⟨0,[.v (.s name), .v (.s m), .v (.s o), .v (.s base), .v (E d), .v (E n)],false,none⟩),(1034,⟨0,[.v (.s name), .v (.s m), .v (.s o), .v (.s base), .v (N y), .v (E d), .v (.sl (S.map bO))],false,some 29⟩),(1035,⟨0,[.v (.sl []), .v (.s (102::111::117::110::100::x)), .v (E p.2.2)],false,some 40⟩),(1069,⟨0,[.v (N A), .v (N B)],false,some 60⟩)],1078⟩|k+1=>⟨[(1, .v (.s x)),(2, .v (.i .u8 fr)),(3, .p 1000 0 0),(7, .p 1034 0 0),(8, .v (.sl (ls.map bO))),(9, .p 1035 0 0),(11, .p 1069 0 0),(13, .rs 1129 k 0 (k+1) 6),(14,E' (k+1))],[(1000,⟨0,[.v (.s name), .v (.s m), .v (.s o), .v (.s base), .v (E d), .v (E n)],false,none⟩),(1034,⟨0,[.v (.s name), .v (.s m), .v (.s o), .v (.s base), .v (N y), .v (E d), .v (.sl (S.map bO))],false,some 29⟩),(1035,⟨0,[.v (.sl []), .v (.s (102::111::117::110::100::x)), .v (E p.2.2)],false,some 40⟩),(1069,⟨0,[.v (N A), .v (N B)],false,some 60⟩),(1129,⟨k,aQ lz p.2.1,true,some 68⟩)],1134⟩) (fun p=>p.1≤d∧p.2.1.length=p.1∧(∀t,t<p.1→N8 C A ls fr t (p.2.1.getD t yd))∧bm [] (p.2.2:Int)=true) (0,[],j2) (fun p=>by obtain⟨k,-⟩:=p;cases k<;>exact Nat.le_of_ble_eq_true rfl) ⟨Nat.zero_le _,rfl,fun t h=>absurd h (Nat.not_lt_zero _),hj⟩ ?_ ?_
 ·show AS.Le _ _;exact lE
 ·rintro⟨k,L,a⟩ ⟨hk,hl,hD,hg⟩ R hR;simp only at hk hl hD hg
  by_cases hlt:k<d
  ·have t1:=htm k hlt;have g1:=hgN _ (hidx k);have i1:=hidx k;have hgo:=fun s (hs:N8 C A ls fr k s) h=>hR (k+1,L++[s],a+1) ⟨hlt,by simp[hl],fun t ht=>by
    by_cases e:t<k
    ·rw[List.getD_eq_getElem?_getD,List.getElem?_append_left (by omega),←List.getD_eq_getElem?_getD];exact hD t e
    ·obtain rfl:t=k:=by simp only at ht;omega
     rw[List.getD_eq_getElem?_getD,List.getElem?_append_right (by omega),hl,Nat.sub_self];exact hs,h⟩ (by simp only;omega)
   have h:=hsh k a hg;clear hR hsh hO2 hQ2 hgN hidx htm;generalize idx fr n k=i at*;generalize ls.getD i 0=v at*;rcases h with h|⟨⟨s1,s2,s3,s4⟩,h1,h2,h3,h4⟩
   ·clear hgo
    cases k with
    |zero=>
     have t1:((fr:Int)+3*(n:Int)-0).tmod (n:Int)=(i:Int):=t1;repeat' first|simp only[go_sem,seval,lS,t1,g1]|refine cP h ?_|refine cP ha ?_|refine sB ?_|(first|apply pX|apply bX)<;>intro hc|refine⟨oD,?_⟩|exact oD|fail
     all_goals rfl
    |succ k=>
     repeat' first|simp only[go_sem,seval,lS,t1,g1]|refine cP h ?_|refine cP ha ?_|refine sB ?_|(first|apply pX|apply bX)<;>intro hc|refine⟨oD,?_⟩|exact oD|fail
     all_goals rfl
   ·have hgo:=hgo _ h1 h2;have r1: ∀L,aQ lz (L++[(s1,s2,s3,s4)])=aQ lz L++[.v (E s1), .v (N s2), .v (.s s3), .v (.sl (s4.map Zp)), .v (.sl []), .v (.sl [])]:=fun L=>by rw[bz];rfl
    simp only[r1]at hgo;simp only[lz]at h3 h4;have q1:=a9 jB L;have q2:=a5 jB L;rw[hl]at q1 q2;clear h1 hD
    cases k with
    |zero=>
     obtain rfl:L=[]:=List.length_eq_zero_iff.1 hl;have t1:((fr:Int)+3*(n:Int)-0).tmod (n:Int)=(i:Int):=t1;simp only[show aQ lz []=[]from rfl,List.nil_append]at hgo
     repeat' first|simp only[go_sem,seval,lS,t1,g1]|refine cP h3 ?_|refine cP h4 ?_|refine sB ?_|(first|apply pX|apply bX)<;>intro hc|refine⟨oD,?_⟩|exact oD|fail
     refine hgo _ ?_;exact lE
    |succ k=>
     repeat' first|simp only[go_sem,seval,lS,t1,g1,q1,q2]|refine cP h3 ?_|refine cP h4 ?_|refine sB ?_|(first|apply pX|apply bX)<;>intro hc|refine⟨oD,?_⟩|exact oD|fail
     refine hgo _ ?_
     (refine AS.Le.of (by first|decide|omega) ?_ ?_<;>simp[bL,bK,aD,ai,AV.bd,AV.bd.bdL,u8,af,ah,ak])
     all_goals exact fun c hc=>by rcases hc with hc|rfl|rfl|rfl|rfl|rfl|rfl<;>first|exact cb hc|rfl
  ·obtain rfl:k=d:=by omega
   obtain⟨k,rfl⟩: ∃t,k=t+1:=⟨k-1,by omega⟩
   have op:=hO2 L (by omega) (fun t ht=>hD t (by omega))
   obtain⟨s0,L,rfl⟩: ∃s0 L',L=s0::L':=by
    cases L with
    |nil=>cases hl
    |cons s0 L=>exact⟨s0,L,rfl⟩
   have hl':L.length=k:=by simpa using hl
   have oq:=hQ2 (L.map lz) (by rw[List.length_map];omega)
   have q1:=a9 jB (s0::L);have q2:=a5 jB (s0::L);have q3:=ct jB (s0::L);have q4:=bj jB (s0::L);have q5:=bj jB L;have q6:List.take (k*6) (List.drop 6 (aQ lz (s0::L)))=aQ lz L:=by
    have:=a5 jB L;rw[hl']at this;exact this
   have q7:(∀x:AV,x∈aQ lz L→x.one=true)=True:=eq_true (List.all_eq_true.1 (ct jB L));rw[hl]at q1 q2 q4;rw[hl']at q5;have q8:6+k*6≤(aQ lz (s0::L)).length:=by rw[q1];omega
   simp only[List.flatMap_cons,List.map_cons]at q4;clear hR hsh hO2 hQ2 hgN hidx htm hD;repeat' first|simp only[go_sem,seval,lS,q1,q2,beq_self_eq_true]|(refine ij (avs:=[_,_, .rs 1129 k 0 (k+1) 6]) op (by simp[aI,view,ai,q1,q2,q3,q4,cj]) rfl ?_)|(refine gD (avs:=[_,_, .rs 1129 k 6 k 6]) [1129] oq rfl (by simp[aH,ai,q6,q7,q8,ia]) (by simp[aI,view,ai,q5,q6,q7,q8,cj]) ?_)|refine cP ha ?_|refine cP c1 ?_|refine sB ?_|(first|apply pX|apply bX)<;>intro hc|refine⟨oD,?_⟩|exact oD|fail
   all_goals rfl
end Go.Proofs.YtmobkhegihemeaaGreatDoor
namespace Go.Proofs.YtmobkhegihemeaaGreatDoor
open Go Go.Dom Go.ChangeShapes Go.WideShapes Go.ChangeAt Go.RowKit
set_option maxRecDepth 100000
theorem Ra:MA Tryz.prog 9 22=true:=by kernel_rfl
theorem oI (os:Os) (started:os.Started) (H:Type) (enc:TypeId×Value→H):
  ReturnsInHanded {} Tryz.checked os 6 .any (fun w args=>(Rows.courtRestoresSpec.pre enc Tryz.prog Tryz.f6 [] false w args∧laidMetH Tryz.prog oh w)∧sizedMet enc Tryz.prog Tryz.f6 (OpenSpec.ofChange Rows.courtRestoresSpec) false w args)
   (Rows.courtRestoresSpec.post enc Tryz.prog Tryz.f6 false true false false):=by
 refine returnsInHanded_of_change_and (C:=Tryz.checked) (X:=fun w _=>laidMetH Tryz.prog oh w) (fun _ _ _ hh h=>h.of_heap hh) Rb started (by kernel_rfl) Tryz.func6
  (ChangeSpec.witness_shaped (enc:=enc) (C:=Tryz.checked) (os:=os) (X:=fun w _=>laidMetH Tryz.prog oh w) false (World.laidAll Tryz.prog os oh) #[.agg #[.string ⟨#[]⟩, .string ⟨#[]⟩, .string ⟨#[]⟩, .string ⟨#[]⟩, .int .i64 0, .int .i64 0], .string ⟨#[]⟩, .int .u8 0] 8 (World.laidAll_os _ _ _)
   (World.shaped_of_ZipB (by kernel_rfl) (by kernel_rfl)) (by kernel_rfl) (by kernel_rfl) (by kernel_rfl)
   (by rw[MakeChecks.laidMetH_plain _ _ _ (by kernel_rfl)];exact laidMet_laidAll _ (by kernel_rfl) (by kernel_rfl))) ?_
 intro W base args ds gs before hval0 hW hcnd hwt hL _;rw[MakeChecks.laidMetH_plain _ _ _ (by kernel_rfl)]at hL
 have hval: ∀(j:Nat) t v,Tryz.f6.params[j]?=some t→args[j]?=some v→Value.okWide Tryz.prog W .any base t v:=hval0;have hW':=hW;obtain⟨p,q,hA0,hV,rfl,hfz,hnd⟩:=hW;have hA:DataW.TrodAll enc Tryz.prog W 0 (fun _=>true) true Tryz.f6.params.toList args.toList ds p:=hA0
 have hlt: ∀x∈p++q,x.block<W.heap.size:=fun x hx=>hW'.lt x hx
 rw[Tryz.params6]at hA hval;obtain⟨v0,v1,v2,d0,d1,d2,p0,p1,p2,rfl,rfl,rfl,h0,h1,h2⟩:=trodAll_three hA;obtain⟨rfl,rfl⟩:=trodVars_none hV;have hall:=List.all_eq_true.1 hwt;have rb:=reachBytes_lt;have hv0:=hval 0 36 v0 rfl rfl;unfold Value.okWide at hv0;rw[Tryz.underlying36]at hv0;simp only at hv0;obtain⟨c0,rfl,s0,-⟩:=hv0;have w0: ∀m∈d0.weights Tryz.prog 36,m≤reachBytes:=fun m hm=>of_decide_eq_true (hall m (DataW.weights_mem_each (j:=0) rfl rfl m hm))
 obtain⟨n0,t0⟩:=id h0;obtain⟨KI,r0,o0,y0⟩:=Bs 9 n0 _ c0.toList d0 p0 Q9 t0 w0;obtain⟨name,m,o,ba,need,count,ea⟩:=PL y0;have q0:PR (CU W) (P4 name m o ba need count) (.agg c0):=by
  rw[←ea];have:=PR.agg (rd:=CU W) KI c0.toList o0 r0.1 r0.2;simpa using this
 have hv1:=hval 1 22 v1 rfl rfl;obtain⟨z1,rfl⟩:=okWide_string uN hv1;have w1: ∀m∈d1.weights Tryz.prog 22,m≤reachBytes:=fun m hm=>of_decide_eq_true (hall m (DataW.weights_mem_each (j:=1) rfl rfl m hm))
 obtain⟨n1,t1⟩:=id h1;obtain⟨uJ,r1,o1,y1⟩:=Bs 9 n1 _ [.string z1] d1 p1 Ra t1 w1;obtain⟨b1,rfl⟩:=J3 y1;have q1:PR (CU W) (.s b1) (.string z1):=r1.2 0 _ _ rfl rfl;have hv2:=hval 2 5 v2 rfl rfl;obtain⟨z2,rfl⟩:=okWide_int RX hv2;have k2:=Dd RX h2;obtain⟨x2,rfl,hx2⟩:=wf_u8 k2;obtain⟨g,hg,hc⟩:=BV name m o ba need count b1 hx2;have hg3:g=6:=by
  have a1:=hg #[] W;have a2:=Tryz.call6 #[] W;rw[a1]at a2;injection a2 with a2 _
  injection a2
 subst hg3;refine(hc W (CU W) [.agg c0, .string z1, .int .u8 x2] (C8 hL) (fun _ _ _ h=>h) (.cons q0 (.cons q1 (.cons (.i .u8 x2) .nil)))).mono ?_
 rintro e W' ⟨v,rfl,hb,hpr⟩;cases hpr;refine⟨_,rfl,CP (pa:=p0++(p1++p2)) (pv:=[]) hW' (fun _ _ _=>trodAll_mk1 (shut_bool KO true)) (fun sp hsp=>trodAll_mk3 (WideElems.Trod_stays Fh (by kernel_rfl) (of_decide_eq_true (by kernel_rfl)) h0 (fun x hx=>hb.same (hlt x (by simp[hx]))) (fun x hx=>hsp x (by simp[hx]))) (WideElems.Trod_stays Fh (by kernel_rfl) (of_decide_eq_true (by kernel_rfl)) h1 (fun x hx=>hb.same (hlt x (by simp[hx]))) (fun x hx=>hsp x (by simp[hx]))) (WideElems.Trod_stays Fh (by kernel_rfl) (of_decide_eq_true (by kernel_rfl)) h2 (fun x hx=>hb.same (hlt x (by simp[hx]))) (fun x hx=>hsp x (by simp[hx])))) (fun _ _=>rfl) (by simp) hb (ok_one (by kernel_rfl) rfl (okWide_bool_mk KO true))⟩
end Go.Proofs.YtmobkhegihemeaaGreatDoor
