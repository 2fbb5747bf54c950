/- Part of the proof. -/
import Derived.Test.YthlapgdhjcddkaaGreatDoorUF51
set_option linter.all false
set_option maxHeartbeats 16000000
set_option maxRecDepth 100000
namespace Go.Dom
namespace Cg
variable {q a b c d:Int}
theorem emod (q a:Int):Cg q (a%q) a:=⟨-(a/q),by have:=Int.mul_ediv_add_emod a q;grind⟩
end Cg
theorem Iv.cg {q a b:Int} (h:Iv q a) (g:Cg q a b):Iv q b:=by
 obtain⟨x,h⟩:=h;exact⟨x,(g.symm.mul (Cg.PO x)).trans h⟩
def YP (q:Int):List Int->Prop
 |[]=>True
 |a::l=>(∀x∈l,Iv q (x-a))/\YP q l
theorem JI: ∀p r:List Int,(Q1 p r).length=max p.length r.length
 |[],r=>by simp[Q1]
 |a::p,[]=>by simp[Q1]
 |a::p,b::r=>by
  have:=JI p r;simp only[Q1,List.length_cons];omega
def XP (l:List Int) (x:Int):Int:=(l.map fun a=>x-a).prod
theorem Gr (a:Int) (l:List Int) (x:Int):XP (a::l) x=(x-a)*XP l x:=by simp[XP]
theorem XQ {q:Int} {l:List Int} {x:Int} (h: ∀a∈l,Iv q (x-a)):Iv q (XP l x):=by
 induction l with
 |nil=>exact Iv.one q
 |cons a l ih=>rw[Gr];exact(h a (.head _)).mul (ih fun b hb=>h b (.tail _ hb))
theorem YP.iv {q:Int}: ∀{l:List Int} {i:Nat},YP q l->i<l.length-> ∀a∈l.eraseIdx i,Iv q (l.getD i 0-a)
 |[],_,_,hi,_,_=>by simp at hi
 |b::l,0,h,_,a,ha=>by
  have:=(h.1 a (by simpa using ha)).neg
  exact this.cg (Cg.of_eq (by simp only[kO];omega))
 |b::l,i+1,h,hi,a,ha=>by
  have hi':i<l.length:=by simpa using hi
  rw[gA];rw[List.eraseIdx_cons_succ]at ha;rcases cM.1 ha with rfl|ha
  ·refine h.1 _ ?_;rw[bu,bC hi'];exact j7 hi'
  ·exact YP.iv h.2 hi' a ha
variable {q:Int} {l:List Int} {w:Nat->Int}
end Go.Dom
namespace Go.Dom
theorem Tb (q:Int) (p:List Int):(mdP q p).length=p.length:=au ..
theorem rT (q a:Int) (p:List Int):(pz q p a).length=p.length+1:=by
 rw[pz,Tb,JI,au,List.length_cons];omega
theorem JD (q:Int): ∀(l:List Int) (p:List Int),(l.foldl (pz q) p).length=p.length+l.length
 |[],p=>rfl
 |a::l,p=>by rw[List.foldl_cons,JD q l,rT,List.length_cons];omega
theorem DL (q:Int) (l:List Int):(HQ q l).length=l.length+1:=by rw[HQ,JD];simp;omega
theorem P6 (q x:Int): ∀(l:List Int) (s:Int),Cg q (l.foldl (fun s a=>s*((x-a)%q)%q) s) (s*XP l x)
 |[],s=>Cg.of_eq (by simp[XP])
 |a::l,s=>by
  rw[List.foldl_cons,Gr];exact(P6 q x l _).trans ((((Cg.emod q _).trans ((Cg.PO s).mul (Cg.emod q _))).mul (Cg.PO _)).trans (Cg.of_eq (by grind)))
theorem Yn (q x:Int) (l:List Int):Cg q (Hd q x l) (XP l x):=(P6 q x l 1).trans (Cg.of_eq (by grind))
theorem AM: ∀(p r:List Int) (j:Nat),(Q1 p r).getD j 0=p.getD j 0+r.getD j 0
 |[],r,j=>by simp[Q1]
 |a::p,[],j=>by simp[Q1]
 |a::p,b::r,0=>rfl
 |a::p,b::r,j+1=>by
  simp only[Q1,gA];exact AM p r j
theorem rR (f:Int->Int) (h:f 0=0): ∀(p:List Int) (j:Nat),(p.map f).getD j 0=f (p.getD j 0)
 |[],j=>by simp[h]
 |a::p,0=>rfl
 |a::p,j+1=>by simp only[b8,gA];exact rR f h p j
theorem Aw (q:Int) (p:List Int) (j:Nat):(mdP q p).getD j 0=p.getD j 0%q:=rR _ (Int.zero_emod q) p j
theorem OV (q a:Int) (p:List Int):(pz q p a).getD 0 0=(-a*p.getD 0 0)%q:=by
 rw[pz,Aw,AM,rR (-a* ·) (by grind),kO,yR]
theorem Gc (q a:Int) (p:List Int) (j:Nat):(pz q p a).getD (j+1) 0=(p.getD j 0+ -a*p.getD (j+1) 0)%q:=by
 rw[pz,Aw,AM,rR (-a* ·) (by grind),gA]
theorem Ji {α:Type} (d:α): ∀(l:List α) (j:Nat),l.length<=j->l.getD j d=d
 |[],j,_=>rfl
 |a::l,0,h=>by simp at h
 |a::l,j+1,h=>by rw[gA];exact Ji d l j (by simpa using h)
theorem Dc {q:Int} (hq:0<q) (P:Nat->List Int) (f:Nat->Int) (j:Nat): ∀n,0<=Fe q P f j n/\Fe q P f j n<q
 |0=>⟨Int.le_refl _,hq⟩
 |n+1=>⟨jz _ (by omega),kQ _ hq⟩
theorem Iv.Xe {q a b:Nat} (h:a*b%q=1%q):Iv q a:=by
 refine⟨b,?_⟩;have h1:Cg q (((a*b%q:Nat):Int)) ((a*b:Nat):Int):=by rw[Int.natCast_emod];exact Cg.emod _ _
 have h2:Cg q (((1%q:Nat):Int)) ((1:Nat):Int):=by rw[Int.natCast_emod];exact Cg.emod _ _
 rw[<-Int.natCast_mul];exact h1.symm.trans ((Cg.of_eq (by rw[h])).trans h2)
end Go.Dom
namespace Go.Dom
open Go.RowKit Go.Num
variable {i j k:Nat} {p:List Int}
theorem HT (l:List Nat):(nI l).length=l.length:=au ..
theorem pf (l:List Int):(tN l).length=l.length:=au ..
theorem oK: ∀(l:List Int) (j:Nat),(tN l).getD j 0=(l.getD j 0).toNat
 |[],j=>rfl
 |a::l,0=>rfl
 |a::l,j+1=>by simp only[tN,b8,gA];exact oK l j
theorem DM: ∀(l:List Nat) (j:Nat),(nI l).getD j 0=(l.getD j 0:Nat)
 |[],j=>rfl
 |a::l,0=>rfl
 |a::l,j+1=>by simp only[nI,b8,gA];exact DM l j
def QU (q:Int) (l:List Int):Prop:= ∀j,0<=l.getD j 0/\l.getD j 0<q
theorem W6 {q:Int} (hq:0<q) (p:List Int):QU q (mdP q p):=fun j=>by
 rw[Aw];exact⟨jz _ (by omega),kQ _ hq⟩
theorem W9 {q:Int} (hq:0<q) (p:List Int) (a:Int):QU q (pz q p a):=W6 hq _
theorem Pb {q:Int} (hq:1<q):QU q [1]:=fun j=>by
 cases j with
 |zero=>exact⟨by decide,hq⟩
 |succ j=>simp only[gA,List.getD_nil];omega
theorem OS {q:Int} (hq:0<q): ∀(l p:List Int),QU q p->QU q (l.foldl (pz q) p)
 |[],p,h=>h
 |a::l,p,_=>OS hq l _ (W9 hq p a)
theorem OT {q:Int} (hq:1<q) (l:List Int):QU q (HQ q l):=OS (by omega) l _ (Pb hq)
theorem OU (q:Int) (l:List Int) (a:Int):HQ q (l++[a])=pz q (HQ q l) a:=by simp[HQ]
theorem P7 (q x:Int) (l:List Int) (a:Int):Hd q x (l++[a])=Hd q x l*((x-a)%q)%q:=by simp[Hd]
theorem D7 {q:Int} (hq:1<q) (x:Int) (l:List Int):0<=Hd q x l/\Hd q x l<q:=by
 unfold Hd;have: ∀(l:List Int) (s:Int),0<=s/\s<q->0<=l.foldl (fun s a=>s*((x-a)%q)%q) s/\l.foldl (fun s a=>s*((x-a)%q)%q) s<q:=by
  intro l
  induction l with
  |nil=>intro s h;exact h
  |cons a l ih=>intro s _;exact ih _ ⟨jz _ (by omega),kQ _ (by omega)⟩
 exact this l 1 ⟨by decide,hq⟩
theorem Sb {q a b:Int} (h:Cg q a b):a%q=b%q:=by
 obtain⟨k,hk⟩:=h;rw[show a=b+q*k by omega,sk]
theorem LP (x y q:Int):(x-y%q)%q=(x-y)%q:=Sb ((Cg.PO x).sub (Cg.emod q y))
theorem OX (q a:Int) (p:List Int) (j:Nat):(pz q p a).getD j 0=((0::p).getD j 0-p.getD j 0*a%q)%q:=by
 rw[LP]
 cases j with
 |zero=>rw[OV,kO];congr 1;grind
 |succ j=>rw[Gc,gA];congr 1;grind
theorem rY {α:Type} (d:α) {l:List α} (h:k<l.length):l.take (k+1)=l.take k++[l.getD k d]:=by
 rw[List.take_succ,bC h];simp[bu,bC h]
def jX (q:Int) (p:List Int) (a:Int) (j:Nat):List Int:=(pz q p a).take j++(0::p).getD j 0::List.replicate (p.length-j) 0
theorem GA {q a:Int} (h:j<=p.length):(jX q p a j).length=p.length+1:=by
 have:=rT q a p;simp[jX];omega
theorem PU (q a:Int) (p:List Int):jX q p a 0=List.replicate (p.length+1) 0:=by
 simp[jX,List.replicate_succ]
theorem JW {q a:Int} (h:j<=p.length):(jX q p a j).getD j 0=(0::p).getD j 0:=by
 have hl:((pz q p a).take j).length=j:=by rw[bQ,rT];omega
 unfold jX;rw[bu,r9 (by omega),hl,gD];rfl
theorem CS {q a:Int} (h:j<p.length):(jX q p a j).getD (j+1) 0=0:=by
 have hl:((pz q p a).take j).length=j:=by rw[bQ,rT];omega
 unfold jX;rw[bu,r9 (by omega),hl,show j+1-j=1 by omega,List.getElem?_cons_succ,List.getElem?_replicate]
 split<;>rfl
theorem CT {q a:Int} (h:j<p.length):((jX q p a j).set (j+1) (p.getD j 0)).set j ((pz q p a).getD j 0)=jX q p a (j+1):=by
 have hm:=rT q a p;have hl:((pz q p a).take j).length=j:=by rw[bQ,hm];omega
 unfold jX;rw[EG _ _ (by omega),EG _ _ (by omega),hl,gD,show j+1-j=1 by omega,show p.length-j=(p.length-(j+1))+1 by omega,List.replicate_succ]
 simp only[List.set_cons_succ,List.set_cons_zero];rw[rY 0 (show j<(pz q p a).length by omega),gA];simp only[eg,List.cons_append,List.nil_append]
theorem Gz {q a:Int} (hp:p≠[]) (hq:QU q p):jX q p a p.length=pz q p a:=by
 have hm:=rT q a p;obtain⟨n,hn⟩: ∃n,p.length=n+1:=⟨p.length-1,by have:=gF.2 hp;omega⟩
 have h1:(pz q p a).getD (n+1) 0=p.getD n 0:=by
  rw[Gc,Ji 0 p (n+1) (by omega),zm,Int.add_zero]
  exact Int.emod_eq_of_lt (hq n).1 (hq n).2
 unfold jX;rw[gD,List.replicate_zero,hn,gA,<-h1];have e:pz q p a=(pz q p a).take (n+1)++[(pz q p a).getD (n+1) 0]:=by
  conv=>lhs;rw[<-vT (n+1) (pz q p a)]
  congr 1;rw[kJ (by omega),gG (by omega)]
  simp[bu,bC (show n+1<(pz q p a).length by omega)]
 exact e.symm
def xS (l:List Int) (i k:Nat):List Int:=(l.take k).eraseIdx i
theorem ZN (l:List Int) (i:Nat):xS l i 0=[]:=by simp[xS]
theorem WJ {l:List Int} (hk:k<l.length) (h:k≠i):xS l i (k+1)=xS l i k++[l.getD k 0]:=by
 have hl:(l.take k).length=k:=by rw[bQ];omega
 unfold xS;rw[rY 0 hk];rcases Nat.lt_or_gt_of_ne h with g|g
 ·rw[EJ (by simp;omega),EJ (by omega)]
 ·rw[List.eraseIdx_append_of_lt_length (by omega)]
theorem WI {l:List Int} (hk:i<l.length):xS l i (i+1)=xS l i i:=by
 have hl:(l.take i).length=i:=by rw[bQ];omega
 unfold xS;have r:(l.take i).eraseIdx i=l.take i:=EJ (by omega)
 rw[rY 0 hk,List.eraseIdx_append_of_length_le (by omega),hl,gD,r]
 simp
theorem Su (l:List Int) (i:Nat):xS l i l.length=l.eraseIdx i:=by rw[xS,bm]
def iP (q:Int) (P:Nat->List Int) (f:Nat->Int) (n i j:Nat):List Int:=(List.range n).map fun t=>if t<j then Fe q P f t (i+1)else Fe q P f t i
theorem pB (q:Int) (P:Nat->List Int) (f:Nat->Int) (n i j:Nat):(iP q P f n i j).length=n:=by simp[iP]
theorem JG {q:Int} {P:Nat->List Int} {f:Nat->Int} {n i j:Nat} (h:j<n):(iP q P f n i j).getD j 0=Fe q P f j i:=by
 rw[iP,bu,fy,mf h];simp
theorem CE {q:Int} {P:Nat->List Int} {f:Nat->Int} {n i j:Nat} (h:j<n):(iP q P f n i j).set j (Fe q P f j (i+1))=iP q P f n i (j+1):=by
 refine vR fun t=> ?_
 by_cases ht:t<n
 ·by_cases e:j=t
  ·subst e;rw[List.getElem?_set_self (by rw[pB];exact h),iP,fy,mf h];simp
  ·rw[List.getElem?_set_ne e,iP,iP,fy,fy,mf ht];simp only[Option.map_some,ar]
   by_cases g:t<j
   ·rw[af g,af (by omega)]
   ·rw[aa g,aa (by omega)]
 ·rw[mi (by rw[jZ,pB];omega),mi (by rw[pB];omega)]
theorem CD (q:Int) (P:Nat->List Int) (f:Nat->Int) (n i:Nat):iP q P f n i n=iP q P f n (i+1) 0:=by
 unfold iP;refine mW fun t ht=> ?_
 rw[af (fV.1 ht),aa (kI _)]
theorem XK (q:Int) (P:Nat->List Int) (f:Nat->Int) (n:Nat):iP q P f n 0 0=List.replicate n 0:=by
 unfold iP;refine vR fun t=> ?_
 by_cases ht:t<n
 ·rw[fy,mf ht,List.getElem?_replicate,af ht];simp[Fe]
 ·rw[mi (by simp;omega),mi (by simp;omega)]
theorem Pd (q:Int) (l:List Int) (f:Nat->Int):iP q (fun k=>HQ q (l.eraseIdx k)) f l.length l.length 0=Ug q l f:=by
 unfold iP Ug;refine mW fun t ht=> ?_
 rw[aa (kI _)]
theorem WV {q a:Nat} (h:Iv q a):Nat.gcd a q=1:=by
 obtain⟨b,k,hk⟩:=h;have h1:((Nat.gcd a q:Nat):Int)∣a:=Ez.2 (ED a q);have h2:((Nat.gcd a q:Nat):Int)∣q:=Ez.2 (EM a q);have h3:((Nat.gcd a q:Nat):Int)∣(a:Int)*b-(q:Int)*k:=Int.dvd_sub (Int.dvd_mul_of_dvd_left h1) (Int.dvd_mul_of_dvd_left h2);rw[show(a:Int)*b-(q:Int)*k=1 by omega]at h3
 exact Nat.dvd_one.1 (Ez.1 (by simpa using h3))
section
variable {α:Type} [DecidableEq α] {st:Bool} {κ:α->PV}
def qB (κ:α->PV) (l:List α):List AV:=l.flatMap fun x=>[.v (κ x), .v (.b true)]
theorem P9 (κ:α->PV):qB κ []=[]:=rfl
theorem Ga (hk: ∀a b,mz st (κ a) (κ b)=some (decide (a=b))) (x:α): ∀l:List α,QZ st (κ x) (qB κ l)=True
 |[]=>by simp[qB,QZ,hk]
 |a::l=>by
  have:=Ga hk x l;simp only[qB,ft,List.cons_append,List.nil_append,QZ,hk,Option.isSome_some,sF]at this⊢;exact this
theorem CB (hk: ∀a b,mz st (κ a) (κ b)=some (decide (a=b))) (x:α): ∀l:List α,sI st (.b false) (κ x) (qB κ l)= .b (decide (x∈l))
 |[]=>rfl
 |a::l=>by
  have:=CB hk x l;simp only[qB,ft,List.cons_append,List.nil_append,sI,hk,ar,a8]at this⊢
  by_cases e:x=a
  ·subst e;simp
  ·rw[aa e,this];simp[e]
theorem CA (hk: ∀a b,mz st (κ a) (κ b)=some (decide (a=b))) {x:α}: ∀{l:List α},x∉l->xU st (κ x) (.b true) (qB κ l)=qB κ (l++[x])
 |[],_=>rfl
 |a::l,h=>by
  simp only[cM,not_or]at h;have:=CA hk h.2;simp only[qB,ft,List.cons_append,List.nil_append,xU,hk,ar,a8,aa h.1]at this⊢;rw[this]
theorem Uc (κ:α->PV) (l:List α) (n:Nat):(∀y,y∈qB κ l->y.bd n=true)=True:=by
 simp only[eq_iff_iff,iff_true];intro y hy;obtain⟨a,-,hy⟩:=jy.1 hy;simp only[cM,jN,or_false]at hy;rcases hy with rfl|rfl<;>rfl
end
theorem OA (a b:Bytes):mz true (.s a) (.s b)=some (decide (a=b)):=by
 by_cases h:a=b<;>simp[mz,h]
end Go.Dom
namespace Go.Proofs.Tryz
open Go Go.Dom Go.Num
variable {a i:Nat} {xs:List Nat}
def Nd (q:Bytes) (ls:List (List Bytes)):Int:=if !(ls.all fun l=>l.all ae)then 3 else if fq q≠0 then fq q else if ia (num q)then 0 else 12
def LN (l:List Bytes):PV:= .sl (l.map .s)
theorem Po {q:Bytes} (h:fq q=0):ae q=true/\q.length<=8:=by
 unfold fq at h
 split at h
 ·rename_i h1
  split at h
  ·exact⟨h1,by assumption⟩
  ·cases h
 ·cases h
theorem Ua (q:Bytes) (ls:List (List Bytes)) (h1:ls.length<1000000) (h2: ∀l∈ls,l.length<1000000):aH 292 [.s q, .sl (ls.map LN)] (E (Nd q ls)):=by
 have hp:=CH q;have l1:(ls.map LN).length=ls.length:=au ..;refine eW call292 func292 ?_;refine dh @l1 ?_;refine ah (α:=Nat) (fun i=>ls.length-i) (fun i=>⟨[(0, .v (.s q)),(11, .v (.sl (ls.map LN))),(12,E' ls.length),(13,E' i)],[],_⟩) (fun i=>i<=ls.length/\(ls.drop i).all (fun l=>l.all ae)=ls.all (fun l=>l.all ae)) 0 (fun _=>aA _) ⟨aD _,rfl⟩ ?_ ?_
 ·exact lE
 ·rintro i ⟨hi,hf⟩ R hR
  by_cases hlt:i<ls.length
  ·have e1:(ls.map LN).getD i .fn0= .sl ((ls.getD i []).map .s):=getD_map LN ls [] hlt;have hgo:=fun h=>hR (i+1) ⟨oO,h⟩ oO
   rw[aE [] hlt,List.all_cons]at hf;have hl:=h2 _ (ai [] hlt);generalize ls.getD i []=l at*;clear hR;have l2:(l.map PV.s).length=l.length:=au ..;refine dh (aN @l1 (aN @l2 @e1)) ?_;refine ah (α:=Nat) (fun j=>l.length-j) (fun j=>⟨[(0, .v (.s q)),(11, .v (.sl (ls.map LN))),(12,E' ls.length),(13,E' i),(17, .v (.sl (l.map .s))),(18,E' l.length),(19,E' j)],[],_⟩) (fun j=>j<=l.length/\(l.drop j).all ae=l.all ae) 0 (fun _=>aA _) ⟨aD _,rfl⟩ ?_ ?_
   ·exact lE
   ·rintro j ⟨hj,hk⟩ R' hR'
    by_cases hjl:j<l.length
    ·have e2:=fJ hjl;have hgo':=fun h=>hR' (j+1) ⟨oO,h⟩ oO
     rw[aE [] hjl,List.all_cons]at hk;generalize l.getD j []=x at*;have hv:=aX x;clear hR'
     cases hb:ae x with
     |true=>
      rw[hb,bE]at hk;rw[hb]at hv;refine gR (aN @l2 @e2) @hv ?_;refine hgo' hk _ ?_;exact lE
     |false=>
      rw[hb,br]at hk;rw[<-hk,br]at hf;rw[hb]at hv;unfold Nd;rw[<-hf];clear hgo hgo' hk hf;exact iE (aN @l2 @e2) @hv
    ·obtain rfl:j=l.length:=oO;rw[bw]at hk;rw[<-hk]at hf;simp only[List.all_nil,bE]at hf;refine dw (aN @l1 @l2) ?_;refine hgo hf _ ?_;exact lE
  ·obtain rfl:i=ls.length:=oO;rw[bw]at hf;unfold Nd;rw[<-hf];simp only[List.all_nil,dy,cE,aB];clear hf hR
   by_cases h0:fq q=0
   ·obtain⟨vq,lq⟩:=Po h0;rw[h0,vq,aQ lq,bE,bE]at hp;rw[h0];generalize ia (num q)=b at*;cases b
    ·exact iE @l1 @hp
    ·exact iE @l1 @hp
   ·rw[af h0];generalize (ae q&&decide (q.length<=8)&&ia (num q))=b at*;generalize fq q=e at*;exact iE @l1 @hp
theorem D6 {q:Bytes} (vq:ae q=true) {l:List Bytes} (hv: ∀x∈l,ae x=true) (hl:l.length<1000000):aH 293 [.s q, .sl (l.map .s)] (.b (l.all fun x=>decide (num x<num q))):=by
 have l5:(l.map PV.s).length=l.length:=au ..;refine eW call293 func293 ?_;refine dh @l5 ?_;refine ah (α:=Nat) (fun i=>l.length-i) (fun i=>⟨[(0, .v (.s q)),(7, .v (.sl (l.map .s))),(8,E' l.length),(9,E' i)],[],_⟩) (fun i=>i<=l.length/\(l.drop i).all (fun x=>decide (num x<num q))=l.all fun x=>decide (num x<num q)) 0 (fun _=>aA _) ⟨aD _,rfl⟩ ?_ ?_
 ·exact lE
 ·rintro i ⟨hi,hf⟩ R hR;rw[<-hf]
  by_cases hlt:i<l.length
  ·have e1:=fJ hlt;have hgo:=hR (i+1);rw[<-hf]at hgo;rw[aE [] hlt,List.all_cons]at hgo⊢;have vx:=hv _ (ai [] hlt);generalize l.getD i []=x at*;have hc:=nA vx vq;have hg:=WQ (num x) (num q);clear hR hf hv vx;generalize a7 (num x) (num q)=cm at*;generalize decide (num x<num q)=b at*;cases b
   ·repeat' first|simp only[go_sem,seval,l5,e1,hg]|refine cP hc ?_|refine oE ?_|apply xX<;>intro hc
    all_goals simp
   ·have hgo:=hgo ⟨oO,by simp⟩ oO
    exact gi (aN @l5 (aN @e1 @hg)) @hgo @hc
  ·obtain rfl:i=l.length:=oO;rw[bw];exact fz @l5
theorem LO {l:List Bytes} (hd:l.Nodup) (hl:l.length<1000000):aH 294 [.sl (l.map .s)] (.b false):=by
 have l5:(l.map PV.s).length=l.length:=au ..;refine eW call294 func294 ?_;refine dh @l5 ?_;refine ah (α:=Nat) (fun i=>l.length-i) (fun i=>⟨[(3, .mp 1001),(7, .v (.sl (l.map .s))),(8,E' l.length),(9,E' i)],[(1001,⟨0,qB PV.s (l.take i),false,none⟩)],_⟩) (fun i=>i<=l.length) 0 (fun _=>aA _) (aD _) ?_ ?_
 ·rw[List.take_zero,P9];exact lE
 ·intro i hi R hR
  by_cases hlt:i<l.length
  ·have e1:=fJ hlt;have hgo:=hR (i+1) oO oO;rw[rY [] hlt]at hgo;have hnm:l.getD i []∉l.take i:=fun hm=>by
    obtain⟨j,hj,he⟩:=List.mem_take_iff_getElem.1 hm;exact(List.pairwise_iff_getElem.1 hd) j i oO hlt oO (he.trans (by simp[bu,hlt]))
   generalize l.getD i []=x at*;generalize l.take i=p at*;have m1:=Ga OA x p;have m2:sI true (.b false) (.s x) (qB PV.s p)= .b false:=by rw[CB OA];simp[hnm]
   have m3:=CA OA hnm;clear hR;refine dw (aN @l5 (aN @e1 (aN @m1 (aN @m2 @m3)))) ?_;refine hgo _ ?_;refine lG ?_;exact fun c hc=>(Uc PV.s (p++[x]) _).mpr oT c hc
  ·obtain rfl:i=l.length:=oO;exact fz @l5
theorem ON (l:List Nat):l.map fY=(l.map b7).map PV.s:=by rw[iK];rfl
theorem Pp {q:Nat} (hq:q<(2^64)):fq (b7 q)=0:=by
 unfold fq;rw[vN hq,af rfl,af (lQ.2 hq)]
theorem Ww {q:Nat} (hq:q<(2^64)) (hp:ia q=true) {ls:List (List Bytes)} (h: ∀l∈ls,∀x∈l,ae x=true):Nd (b7 q) ls=0:=by
 have h1:(ls.all fun l=>l.all ae)=true:=by
  rw[bz];intro l hl;rw[bz];exact h l hl
 unfold Nd;rw[h1,Pp hq,bG,hp];rfl
theorem MQ {q:Nat} {l:List Nat} (h: ∀x∈l,x<q):((l.map b7).all fun x=>decide (num x<num (b7 q)))=true:=by
 rw[bz];intro x hx;obtain⟨n,hn,rfl⟩:=cx.1 hx;rw[bG,bG];exact aQ (h n hn)
theorem Is {q:Nat} (hq:q<(2^64)) (hp:ia q=true) {ys:List Nat} {x:Nat} (hl:ys.length=xs.length) (h256:xs.length<=256) (hx: ∀a∈xs,a<q) (hy: ∀a∈ys,a<q) (ha:x<q) (hd:xs.Nodup):
  aH 211 [N q, .sl (xs.map fY), .sl (ys.map fY),N x] (E 0):=by
 have vl: ∀{l:List Nat},(∀a∈l,a<q)-> ∀b∈l.map b7,ae b=true:=fun{l} h b hb=>by
  obtain⟨n,hn,rfl⟩:=cx.1 hb;exact vN (by have:=h n hn;omega)
 have h1:=Ua (b7 q) [xs.map b7,ys.map b7,[b7 x]] (by simp) (by simp;omega)
 rw[Ww hq hp (by
  intro l hl b hb;simp only[cM,jN,or_false]at hl;rcases hl with rfl|rfl|rfl
  ·exact vl hx b hb
  ·exact vl hy b hb
  ·exact vl (l:=[x]) (by simpa using ha) b (by simpa using hb))]at h1
 simp only[b8,cb,LN]at h1;rw[<-ON,<-ON]at h1;have h2:=D6 (q:=b7 q) (vN hq) (vl hx) (by simp;omega)
 rw[MQ hx,<-ON]at h2;have h3:=D6 (q:=b7 q) (vN hq) (vl hy) (by simp;omega)
 rw[MQ hy,<-ON]at h3;have h4:=D6 (q:=b7 q) (vN hq) (l:=[b7 x]) (vl (l:=[x]) (by simpa using ha)) (by simp)
 rw[show([b7 x].all fun y=>decide (num y<num (b7 q)))=true from MQ (l:=[x]) (by simpa using ha)]at h4
 have h5:=LO (l:=xs.map b7) (hd.map b7 fun a b h e=>h (by rw[<-bG a,e,bG])) (by simp;omega)
 rw[<-ON]at h5;have l1:(xs.map fY).length=xs.length:=au ..;have l2:(ys.map fY).length=xs.length:=by rw[au];exact hl
 simp only[b8,cb]at h4;refine eW call211 func211 ?_;exact Uq (aN @l1 @l2) @h1 @h2 @h3 @h4 @h5 oT oT
theorem q9 {l:List Nat} {n:Nat} (h:l.length=n):List.take n (bL l)=bL l:=cQ (by rw[e9];omega)
theorem tE (l:List Nat):(bL l).all AV.one=true:=by simp[bL,AV.one,PV.one]
theorem qZ (hf:Nat->Option aI) (k:Nat) (l:List Nat):bA (view hf (k+1)) (bL l)=some (l.map fY):=by
 have:=iW hf k (l.map fY)
 rwa[iK]at this
theorem pZ {l:List Nat} {n:Nat} (h:l.length=n):chunk 1 n (l.map fY)=l.map fY:=by
 have:=zQ (l.map fY)
 rwa[au,h]at this
theorem xf (l:List Int) (i:Nat) (x:Int):(tN l).set i x.toNat=tN (l.set i x):=by simp[tN,vF]
theorem Jj (p:List Int) (h:i<p.length):((tN p).map fY).getD i .fn0=N (p.getD i 0).toNat:=by
 rw[Af _ (by rw[pf];exact h),oK]
theorem qA {q x:Int} (h:0<=x/\x<q): ∃n:Nat,x=n:=⟨x.toNat,(oX h.1).symm⟩
abbrev oR (e:Option TypeId) (x:AV):aI:=⟨0,[x],false,e⟩
abbrev tI:Option TypeId:=some 3
abbrev tL:Option TypeId:=some 40
abbrev tA:Option TypeId:=some 22
theorem Ui (nm:Nat) {q:Nat} (hq:q<(2^64)) (h1:1<q) (hx: ∀a∈xs,a<(2^64)) (hi:i<xs.length) (hxl:xs.length<1000000) (ha:a<(2^64)) {p:List Int} (hp:p≠[]) (hin:QU q p) (hpl:p.length<1000000) {s:Nat} (hs:s<q):
  jS prog 295 nm [(1017,oR tL (.v (.sl ((tN p).map fY)))),(1000,oR none (.v (N q))),(1001,oR none (.v (.sl (xs.map fY)))),(1012,oR tI (.v (E i))),(1018,oR tA (.v (N s)))] [.v (N a), .p 1017 0 0, .p 1000 0 0, .p 1001 0 0, .p 1012 0 0, .p 1018 0 0] (.tup []) [(1017,some (oR tL (.v (.sl ((tN (pz q p a)).map fY))))),(1018,some (oR tA (.v (N (s*((((xs.getD i 0:Nat):Int)-a)%q).toNat%q)))))]:=by
 have q0:0<q:=oO;obtain⟨n,hn⟩: ∃n,n=p.length:=⟨_,rfl⟩;have lP:(tN p).length=n:=by rw[pf,hn]
 have ht: ∀ _:True,((n:Int)+1).toNat=n+1:=fun _=>oO
 have r0:tN (jX q p a 0)=List.replicate (n+1) 0:=by rw[PU,hn];simp[tN]
 have rE:jX q p a n=pz q p a:=by rw[hn];exact Gz hp hin
 have rL: ∀j,j<=n->(tN (jX q p a j)).length=n+1:=fun j hj=>by rw[pf,GA oO,hn]
 have rS: ∀j,j<n->((tN (jX q p a j)).set (j+1) (p.getD j 0).toNat).set j ((pz q p a).getD j 0).toNat=tN (jX q p a (j+1)):=fun j hj=>by
  rw[xf,xf,CT oO]
 have rN: ∀j,j<n->(tN (jX q p a j)).getD (j+1) 0=0:=fun j hj=>by rw[oK,CS oO];rfl
 have rA: ∀j,j<=n->(tN (jX q p a j)).getD j 0=((0::p).getD j 0).toNat:=fun j hj=>by rw[oK,JW oO]
 have rM:=fun j=>OX q a p j
 have e3:=Af xs hi;have xi:=hx _ (ai 0 hi);have d1:=F9 (a:=xs.getD i 0) (b:=a) (m:=q) xi ha hq q0;have hdl:(((xs.getD i 0:Nat):Int)-a)%q<q:=kQ _ oO;have hd0:0<=(((xs.getD i 0:Nat):Int)-a)%q:=jz _ oO;generalize (((xs.getD i 0:Nat):Int)-a)%q=dz at*;obtain⟨dn,rfl⟩: ∃d:Nat,dz=d:=⟨dz.toNat,oO⟩;rw[Int.toNat_natCast]at d1⊢;have d2:=qY (a:=s) (b:=dn) (m:=q) oO oO hq q0;have lE:(tN (pz q p a)).length=n+1:=by rw[<-rE];exact rL n (aA _)
 have k1:=q9 lE;have k2:=tE (tN (pz q p a));have k3:=pZ lE;have k4:(bL (tN (pz q p a))).length=n+1:=by rw[e9,lE]
 generalize xs.getD i 0=xv at*;refine jS.w mixed call295 func295 rfl (jq.1 _ _ _ (by cbv)) (jq.2 _ _ (by cbv)) (obs:=[oR tL (.v (.sl ((tN p).map fY))),oR none (.v (N q)),oR none (.v (.sl (xs.map fY))),oR tI (.v (E i)),oR tA (.v (N s))]) (args:=[.v (N a), .p 0 0 0, .p 1 0 0, .p 2 0 0, .p 3 0 0, .p 4 0 0]) (fs:=[some (some (oR tL (.v (.sl ((tN (pz q p a)).map fY))))),none,none,none,some (some (oR tA (.v (N (s*dn%q)))))]) (j:=none) (nw:=none) (v:= .tup []) (ns:=[1017,1000,1001,1012,1018]) (obsA:=[oR tL (.v (.sl ((tN p).map fY))),oR none (.v (N q)),oR none (.v (.sl (xs.map fY))),oR tI (.v (E i)),oR tA (.v (N s))]) rfl ?_ (by simp) (by simp) rfl (by simp[bA,aI.aR,AV.aR,AV.aR.renL]) (by simp[bA,AV.aR,dq]) (by simp[AV.aR,AV.aR.renL]) (by simp[fh,outs,aI.aR,AV.aR,AV.aR.renL])
 simp only[go_sem,seval];repeat' first|simp only[go_sem,seval,lP,ht oT,p9]|refine oE ?_|apply xX<;>intro hc
 refine ah (α:=Nat) (fun j=>n-j) (fun j=>⟨[(0, .v (N a)),(1, .p 0 0 0),(2, .p 1 0 0),(3, .p 2 0 0),(4, .p 3 0 0),(5, .p 4 0 0),(7, .rs 1003 0 0 (n+1) 1),(18, .v (.sl ((tN p).map fY))),(19,E' n),(20,E' j)],[(0,oR tL (.v (.sl ((tN p).map fY)))),(1,oR none (.v (N q))),(2,oR none (.v (.sl (xs.map fY)))),(3,oR tI (.v (E i))),(4,oR tA (.v (N s))),(1003,⟨0,bL (tN (jX q p a j)),false,none⟩)],_⟩) (fun j=>j<=n) 0 (fun _=>aA _) (aD _) ?_ ?_
 ·rw[r0];refine lG ?_;all_goals exact fun c hc=>iN hc
 ·intro j hj R hR
  by_cases hlt:j<n
  ·have hgo:=hR (j+1) oO oO;have e1:=Jj p (i:=j) oO;have hrm:=rM j;have hrn:=rN j hlt;have hra:=rA j oO;have hrs:=rS j hlt;have hrl:=rL j oO;rw[<-hrs,hrm]at hgo;obtain⟨c,hc⟩:=qA (hin j);have hcq:=(hin j).2;obtain⟨v,hv⟩:=qA (x:=(0::p).getD j 0) (q:=q) (by
    cases j with
    |zero=>exact⟨Int.le_refl _,by simp;omega⟩
    |succ j=>exact hin j)
   have hvq:v<q:=by
    have:(0::p).getD j 0<(q:Int):=by
     cases j with
     |zero=>simp;omega
     |succ j=>exact(hin j).2
    omega
   rw[hc]at hcq e1 hgo;rw[hv]at hra hgo;rw[Int.toNat_natCast]at e1 hra hgo;have m1:=F8 (a:=0) (b:=c) (m:=q) oC oO hq q0;rw[eX,bV oO]at m1;have m2:=qY (a:=c) (b:=a) (m:=q) oO ha hq q0;have m3:=F9 (a:=v) (b:=c*a%q) (m:=q) oO (by have:=aV (c*a) q0;omega) hq q0
   rw[show(((c*a%q:Nat):Int))=(c:Int)*a%q by push_cast;rfl]at m3
   generalize (((v:Int)-(c:Int)*a%q)%q).toNat=z at*;have ht1: ∀ _:True,((j:Int)+1).toNat=j+1:=fun _=>oO
   generalize tN (jX q p a j)=R0 at*;have g0:(bL R0).length=n+1:=by rw[e9,hrl]
   have g1:(bL R0).getD (j+1) .u= .v (N 0):=by rw[jT oO,hrn]
   have g2:List.take (j+1) (bL R0)++[AV.v (.s (b7 c))]++List.drop (j+1+1) (bL R0)=bL (R0.set (j+1) c):=iX oO;have g3:(bL (R0.set (j+1) c)).getD j .u= .v (N v):=by
    rw[jT (by rw[jZ];omega),<-hra]
    simp[bu,yM]
   have g4:(bL (R0.set (j+1) c)).length=n+1:=by rw[e9,jZ,hrl]
   have g5:List.take j (bL (R0.set (j+1) c))++[AV.v (.s (b7 z))]++List.drop (j+1) (bL (R0.set (j+1) c))=bL ((R0.set (j+1) c).set j z):=iX (by rw[jZ];omega)
   clear hR rM rN rA rS rL d1 d2 k1 k2 k3 k4 r0 rE hin;refine nX (aN @lP (aN @e1 (aN (ht1 oT) (aN @g0 (aN @g1 (aN @g2 (aN @g3 (aN @g4 @g5)))))))) @m1 @m2 @m3 oT ?_;refine hgo _ ?_;refine lG ?_;all_goals exact fun c hc=>iN hc
  ·obtain rfl:j=n:=oO;rw[rE];clear hR rM rN rA rS rL;repeat' first|simp only[go_sem,seval,true_or,or_true,false_or,or_false,ar,gX,ey,gM,fp,fH,eA,nT,om,fO,gS,dE,aK,AV.aR,AV.aR.renL,aG,lP,e3,k1,k2,k3,k4,qZ]|refine cP d1 ?_|refine cP d2 ?_|refine oE ?_|apply xX<;>intro hc
   all_goals trivial
theorem Uh (nm:Nat) {q:Nat} (hq:q<(2^64)) (h1:1<q) (hx: ∀a∈xs,a<(2^64)) (hi:i<xs.length) (hxl:xs.length<1000000) (ha:a<(2^64)) {p:List Int} (hp:p≠[]) (hin:QU q p) (hpl:p.length<1000000) {s:Nat} (hs:s<q):
  jS prog 295 nm [(1017,oR tL (.fs ((tN p).map fY))),(1000,oR none (.v (N q))),(1001,oR none (.v (.sl (xs.map fY)))),(1012,oR tI (.v (E i))),(1018,oR tA (.v (N s)))] [.v (N a), .p 1017 0 0, .p 1000 0 0, .p 1001 0 0, .p 1012 0 0, .p 1018 0 0] (.tup []) [(1017,some (oR tL (.v (.sl ((tN (pz q p a)).map fY))))),(1018,some (oR tA (.v (N (s*((((xs.getD i 0:Nat):Int)-a)%q).toNat%q)))))]:=by
 have q0:0<q:=oO;obtain⟨n,hn⟩: ∃n,n=p.length:=⟨_,rfl⟩;have lP:(tN p).length=n:=by rw[pf,hn]
 have ht: ∀ _:True,((n:Int)+1).toNat=n+1:=fun _=>oO
 have r0:tN (jX q p a 0)=List.replicate (n+1) 0:=by rw[PU,hn];simp[tN]
 have rE:jX q p a n=pz q p a:=by rw[hn];exact Gz hp hin
 have rL: ∀j,j<=n->(tN (jX q p a j)).length=n+1:=fun j hj=>by rw[pf,GA oO,hn]
 have rS: ∀j,j<n->((tN (jX q p a j)).set (j+1) (p.getD j 0).toNat).set j ((pz q p a).getD j 0).toNat=tN (jX q p a (j+1)):=fun j hj=>by
  rw[xf,xf,CT oO]
 have rN: ∀j,j<n->(tN (jX q p a j)).getD (j+1) 0=0:=fun j hj=>by rw[oK,CS oO];rfl
 have rA: ∀j,j<=n->(tN (jX q p a j)).getD j 0=((0::p).getD j 0).toNat:=fun j hj=>by rw[oK,JW oO]
 have rM:=fun j=>OX q a p j
 have e3:=Af xs hi;have xi:=hx _ (ai 0 hi);have d1:=F9 (a:=xs.getD i 0) (b:=a) (m:=q) xi ha hq q0;have hdl:(((xs.getD i 0:Nat):Int)-a)%q<q:=kQ _ oO;have hd0:0<=(((xs.getD i 0:Nat):Int)-a)%q:=jz _ oO;generalize (((xs.getD i 0:Nat):Int)-a)%q=dz at*;obtain⟨dn,rfl⟩: ∃d:Nat,dz=d:=⟨dz.toNat,oO⟩;rw[Int.toNat_natCast]at d1⊢;have d2:=qY (a:=s) (b:=dn) (m:=q) oO oO hq q0;have lE:(tN (pz q p a)).length=n+1:=by rw[<-rE];exact rL n (aA _)
 have k1:=q9 lE;have k2:=tE (tN (pz q p a));have k3:=pZ lE;have k4:(bL (tN (pz q p a))).length=n+1:=by rw[e9,lE]
 generalize xs.getD i 0=xv at*;refine jS.w mixed call295 func295 rfl (jq.1 _ _ _ (by cbv)) (jq.2 _ _ (by cbv)) (obs:=[oR tL (.fs ((tN p).map fY)),oR none (.v (N q)),oR none (.v (.sl (xs.map fY))),oR tI (.v (E i)),oR tA (.v (N s))]) (args:=[.v (N a), .p 0 0 0, .p 1 0 0, .p 2 0 0, .p 3 0 0, .p 4 0 0]) (fs:=[some (some (oR tL (.v (.sl ((tN (pz q p a)).map fY))))),none,none,none,some (some (oR tA (.v (N (s*dn%q)))))]) (j:=none) (nw:=none) (v:= .tup []) (ns:=[1017,1000,1001,1012,1018]) (obsA:=[oR tL (.fs ((tN p).map fY)),oR none (.v (N q)),oR none (.v (.sl (xs.map fY))),oR tI (.v (E i)),oR tA (.v (N s))]) rfl ?_ (by simp) (by simp) rfl (by simp[bA,aI.aR,AV.aR,AV.aR.renL]) (by simp[bA,AV.aR,dq]) (by simp[AV.aR,AV.aR.renL]) (by simp[fh,outs,aI.aR,AV.aR,AV.aR.renL])
 simp only[go_sem,seval];repeat' first|simp only[go_sem,seval,lP,ht oT,p9]|refine oE ?_|apply xX<;>intro hc
 refine ah (α:=Nat) (fun j=>n-j) (fun j=>⟨[(0, .v (N a)),(1, .p 0 0 0),(2, .p 1 0 0),(3, .p 2 0 0),(4, .p 3 0 0),(5, .p 4 0 0),(7, .rs 1003 0 0 (n+1) 1),(18, .fs ((tN p).map fY)),(19,E' n),(20,E' j)],[(0,oR tL (.fs ((tN p).map fY))),(1,oR none (.v (N q))),(2,oR none (.v (.sl (xs.map fY)))),(3,oR tI (.v (E i))),(4,oR tA (.v (N s))),(1003,⟨0,bL (tN (jX q p a j)),false,none⟩)],_⟩) (fun j=>j<=n) 0 (fun _=>aA _) (aD _) ?_ ?_
 ·rw[r0];refine lG ?_;all_goals exact fun c hc=>iN hc
 ·intro j hj R hR
  by_cases hlt:j<n
  ·have hgo:=hR (j+1) oO oO;have e1:=Jj p (i:=j) oO;have hrm:=rM j;have hrn:=rN j hlt;have hra:=rA j oO;have hrs:=rS j hlt;have hrl:=rL j oO;rw[<-hrs,hrm]at hgo;obtain⟨c,hc⟩:=qA (hin j);have hcq:=(hin j).2;obtain⟨v,hv⟩:=qA (x:=(0::p).getD j 0) (q:=q) (by
    cases j with
    |zero=>exact⟨Int.le_refl _,by simp;omega⟩
    |succ j=>exact hin j)
   have hvq:v<q:=by
    have:(0::p).getD j 0<(q:Int):=by
     cases j with
     |zero=>simp;omega
     |succ j=>exact(hin j).2
    omega
   rw[hc]at hcq e1 hgo;rw[hv]at hra hgo;rw[Int.toNat_natCast]at e1 hra hgo;have m1:=F8 (a:=0) (b:=c) (m:=q) oC oO hq q0;rw[eX,bV oO]at m1;have m2:=qY (a:=c) (b:=a) (m:=q) oO ha hq q0;have m3:=F9 (a:=v) (b:=c*a%q) (m:=q) oO (by have:=aV (c*a) q0;omega) hq q0
   rw[show(((c*a%q:Nat):Int))=(c:Int)*a%q by push_cast;rfl]at m3
   generalize (((v:Int)-(c:Int)*a%q)%q).toNat=z at*;have ht1: ∀ _:True,((j:Int)+1).toNat=j+1:=fun _=>oO
   generalize tN (jX q p a j)=R0 at*;have g0:(bL R0).length=n+1:=by rw[e9,hrl]
   have g1:(bL R0).getD (j+1) .u= .v (N 0):=by rw[jT oO,hrn]
   have g2:List.take (j+1) (bL R0)++[AV.v (.s (b7 c))]++List.drop (j+1+1) (bL R0)=bL (R0.set (j+1) c):=iX oO;have g3:(bL (R0.set (j+1) c)).getD j .u= .v (N v):=by
    rw[jT (by rw[jZ];omega),<-hra]
    simp[bu,yM]
   have g4:(bL (R0.set (j+1) c)).length=n+1:=by rw[e9,jZ,hrl]
   have g5:List.take j (bL (R0.set (j+1) c))++[AV.v (.s (b7 z))]++List.drop (j+1) (bL (R0.set (j+1) c))=bL ((R0.set (j+1) c).set j z):=iX (by rw[jZ];omega)
   clear hR rM rN rA rS rL d1 d2 k1 k2 k3 k4 r0 rE hin;refine nX (aN @lP (aN @e1 (aN (ht1 oT) (aN @g0 (aN @g1 (aN @g2 (aN @g3 (aN @g4 @g5)))))))) @m1 @m2 @m3 oT ?_;refine hgo _ ?_;refine lG ?_;all_goals exact fun c hc=>iN hc
  ·obtain rfl:j=n:=oO;rw[rE];clear hR rM rN rA rS rL;repeat' first|simp only[go_sem,seval,true_or,or_true,false_or,or_false,ar,gX,ey,gM,fp,fH,eA,nT,om,fO,gS,dE,aK,AV.aR,AV.aR.renL,aG,lP,e3,k1,k2,k3,k4,qZ]|refine cP d1 ?_|refine cP d2 ?_|refine oE ?_|apply xX<;>intro hc
   all_goals trivial
