/- Part of the proof. -/
import Derived.Test.YtkmahpcpmgedkaaGreatDoorFB30
import Derived.Test.YtkmahpcpmgedkaaGreatDoorFB33
set_option linter.all false
set_option maxHeartbeats 16000000
set_option maxRecDepth 100000
namespace Go.Dom
open Go.RowKit Go.Num
variable {a q:Int} {i j k n:Nat} {p:List Int}
def nI (l:List Nat):List Int:=l.map fun a:Nat=>(a:Int)
def tN (l:List Int):List Nat:=l.map Int.toNat
theorem sf (l:List Nat):(nI l).length=l.length:=aB ..
theorem ju (l:List Int):(tN l).length=l.length:=aB ..
theorem jY: ∀(l:List Int) (j:Nat),(tN l).getD j 0=(l.getD j 0).toNat
 |[],j=>rfl
 |a::l,0=>rfl
 |a::l,j+1=>by simp only[tN,br,eK];exact jY l j
theorem tH: ∀(l:List Nat) (j:Nat),(nI l).getD j 0=(l.getD j 0:Nat)
 |[],j=>rfl
 |a::l,0=>rfl
 |a::l,j+1=>by simp only[nI,br,eK];exact tH l j
def LH (q:Int) (l:List Int):Prop:= ∀j,0<=l.getD j 0/\l.getD j 0<q
theorem Ve (hq:0<q) (p:List Int):LH q (Ze q p):=fun j=>by
 rw[zQ];exact⟨gK _ (by omega),gT _ hq⟩
theorem Vf (hq:0<q) (p:List Int) (a:Int):LH q (mb q p a):=Ve hq _
theorem NX (hq:1<q):LH q [1]:=fun j=>by
 cases j with
 |zero=>exact⟨by decide,hq⟩
 |succ j=>simp only[eK,List.getD_nil];omega
theorem NG (hq:0<q): ∀(l p:List Int),LH q p->LH q (l.foldl (mb q) p)
 |[],p,h=>h
 |a::l,p,_=>NG hq l _ (Vf hq p a)
theorem C9 (hq:1<q) (l:List Int):LH q (Bm q l):=NG (by omega) l _ (NX hq)
theorem E9 (q:Int) (l:List Int) (a:Int):Bm q (l++[a])=mb q (Bm q l) a:=by simp[Bm]
theorem FO (q x:Int) (l:List Int) (a:Int):wZ q x (l++[a])=wZ q x l*((x-a)%q)%q:=by simp[wZ]
theorem wz (hq:1<q) (x:Int) (l:List Int):0<=wZ q x l/\wZ q x l<q:=by
 unfold wZ;have: ∀(l:List Int) (s:Int),0<=s/\s<q->0<=l.foldl (fun s a=>s*((x-a)%q)%q) s/\l.foldl (fun s a=>s*((x-a)%q)%q) s<q:=by
  intro l
  induction l with
  |nil=>intro s h;exact h
  |cons a l ih=>intro s _;exact ih _ ⟨gK _ (by omega),gT _ (by omega)⟩
 exact this l 1 ⟨by decide,hq⟩
theorem QK {b:Int} (h:Cg q a b):a%q=b%q:=by
 obtain⟨k,hk⟩:=h;rw[show a=b+q*k by omega,ri]
theorem Lm (x y q:Int):(x-y%q)%q=(x-y)%q:=QK ((Cg.Oy x).sub (Cg.emod q y))
theorem GY (q a:Int) (p:List Int) (j:Nat):(mb q p a).getD j 0=((0::p).getD j 0-p.getD j 0*a%q)%q:=by
 rw[Lm]
 cases j with
 |zero=>rw[NH,fY];congr 1;grind
 |succ j=>rw[Fa,eK];congr 1;grind
theorem eY {α:Type} (d:α) {l:List α} (h:k<l.length):l.take (k+1)=l.take k++[l.getD k d]:=by
 rw[List.take_succ,bC h];simp[bu,bC h]
def jt (q:Int) (p:List Int) (a:Int) (j:Nat):List Int:=(mb q p a).take j++(0::p).getD j 0::List.replicate (p.length-j) 0
theorem FJ (h:j<=p.length):(jt q p a j).length=p.length+1:=by
 have:=qO q a p;simp[jt];omega
theorem OB (q a:Int) (p:List Int):jt q p a 0=List.replicate (p.length+1) 0:=by
 simp[jt,List.replicate_succ]
theorem Jd (h:j<=p.length):(jt q p a j).getD j 0=(0::p).getD j 0:=by
 have hl:((mb q p a).take j).length=j:=by rw[bV,qO];omega
 unfold jt;rw[bu,uq (by omega),hl,fA];rfl
theorem Ck (h:j<p.length):(jt q p a j).getD (j+1) 0=0:=by
 have hl:((mb q p a).take j).length=j:=by rw[bV,qO];omega
 unfold jt;rw[bu,uq (by omega),hl,show j+1-j=1 by omega,List.getElem?_cons_succ,yf]
 split<;>rfl
theorem Cl (h:j<p.length):((jt q p a j).set (j+1) (p.getD j 0)).set j ((mb q p a).getD j 0)=jt q p a (j+1):=by
 have hm:=qO q a p;have hl:((mb q p a).take j).length=j:=by rw[bV,hm];omega
 unfold jt;rw[Ed _ _ (by omega),Ed _ _ (by omega),hl,fA,show j+1-j=1 by omega,show p.length-j=(p.length-(j+1))+1 by omega,List.replicate_succ]
 simp only[List.set_cons_succ,List.set_cons_zero];rw[eY 0 (show j<(mb q p a).length by omega),eK];simp only[fw,List.cons_append,List.nil_append]
theorem FI (hp:p≠[]) (hq:LH q p):jt q p a p.length=mb q p a:=by
 have hm:=qO q a p;obtain⟨n,hn⟩: ∃n,p.length=n+1:=⟨p.length-1,by have:=kq.2 hp;omega⟩
 have h1:(mb q p a).getD (n+1) 0=p.getD n 0:=by
  rw[Fa,CY 0 p (n+1) (by omega),yt,Int.add_zero]
  exact Int.emod_eq_of_lt (hq n).1 (hq n).2
 unfold jt;rw[fA,List.replicate_zero,hn,eK,<-h1];have e:mb q p a=(mb q p a).take (n+1)++[(mb q p a).getD (n+1) 0]:=by
  conv=>lhs;rw[<-uK (n+1) (mb q p a)]
  congr 1;rw[jf (by omega),gU (by omega)]
  simp[bu,bC (show n+1<(mb q p a).length by omega)]
 exact e.symm
def pO (l:List Int) (i k:Nat):List Int:=(l.take k).eraseIdx i
theorem ML (l:List Int) (i:Nat):pO l i 0=[]:=by simp[pO]
theorem MN {l:List Int} (hk:k<l.length) (h:k≠i):pO l i (k+1)=pO l i k++[l.getD k 0]:=by
 have hl:(l.take k).length=k:=by rw[bV];omega
 unfold pO;rw[eY 0 hk];rcases Nat.lt_or_gt_of_ne h with g|g
 ·rw[DU (by simp;omega),DU (by omega)]
 ·rw[List.eraseIdx_append_of_lt_length (by omega)]
theorem MM {l:List Int} (hk:i<l.length):pO l i (i+1)=pO l i i:=by
 have hl:(l.take i).length=i:=by rw[bV];omega
 unfold pO;have r:(l.take i).eraseIdx i=l.take i:=DU (by omega)
 rw[eY 0 hk,List.eraseIdx_append_of_length_le (by omega),hl,fA,r]
 simp
theorem Ix (l:List Int) (i:Nat):pO l i l.length=l.eraseIdx i:=by rw[pO,ct]
def fz (q:Int) (P:Nat->List Int) (f:Nat->Int) (n i j:Nat):List Int:=(List.range n).map fun t=>if t<j then Be q P f t (i+1)else Be q P f t i
theorem lZ (q:Int) (P:Nat->List Int) (f:Nat->Int) (n i j:Nat):(fz q P f n i j).length=n:=by simp[fz]
theorem Dd {P:Nat->List Int} {f:Nat->Int} (h:j<n):(fz q P f n i j).getD j 0=Be q P f j i:=by
 rw[fz,bu,dG,jx h];simp
theorem vV {P:Nat->List Int} {f:Nat->Int} (h:j<n):(fz q P f n i j).set j (Be q P f j (i+1))=fz q P f n i (j+1):=by
 refine nU fun t=> ?_
 by_cases ht:t<n
 ·by_cases e:j=t
  ·subst e;rw[List.getElem?_set_self (by rw[lZ];exact h),fz,dG,jx h];simp
  ·rw[DS e,fz,fz,dG,dG,jx ht];simp only[Option.map_some,aj]
   by_cases g:t<j
   ·rw[ah g,ah (by omega)]
   ·rw[ae g,ae (by omega)]
 ·rw[iS (by rw[ft,lZ];omega),iS (by rw[lZ];omega)]
theorem vU (q:Int) (P:Nat->List Int) (f:Nat->Int) (n i:Nat):fz q P f n i n=fz q P f n (i+1) 0:=by
 unfold fz;refine lD fun t ht=> ?_
 rw[ah (dV.1 ht),ae (pB _)]
theorem NY (q:Int) (P:Nat->List Int) (f:Nat->Int) (n:Nat):fz q P f n 0 0=List.replicate n 0:=by
 unfold fz;refine nU fun t=> ?_
 by_cases ht:t<n
 ·rw[dG,jx ht,yf,ah ht];simp[Be]
 ·rw[iS (by simp;omega),iS (by simp;omega)]
theorem Fk (q:Int) (l:List Int) (f:Nat->Int):fz q (fun k=>Bm q (l.eraseIdx k)) f l.length l.length 0=Lp q l f:=by
 unfold fz Lp;refine lD fun t ht=> ?_
 rw[ae (pB _)]
theorem Nd {x:Int} (h:i<p.length):xG q (p.drop i) x=(xG q (p.drop (i+1)) x*x%q+p.getD i 0)%q:=by
 rw[jf h,bu,bC h];rfl
theorem U2 {q a:Nat} (h:Iv q a):Nat.gcd a q=1:=by
 obtain⟨b,k,hk⟩:=h;have h1:((Nat.gcd a q:Nat):Int)∣a:=D4.2 (DL a q);have h2:((Nat.gcd a q:Nat):Int)∣q:=D4.2 (Eh a q);have h3:((Nat.gcd a q:Nat):Int)∣(a:Int)*b-(q:Int)*k:=Int.dvd_sub (Int.dvd_mul_of_dvd_left h1) (Int.dvd_mul_of_dvd_left h2);rw[show(a:Int)*b-(q:Int)*k=1 by omega]at h3
 exact Nat.dvd_one.1 (D4.1 (by simpa using h3))
theorem Jj {q:Nat} (hp:fj q=true) {pts:List Nat} (hd:pts.Nodup) (hb: ∀a∈pts,a<=8/\a<q) (hi:i<pts.length):Nat.gcd (wZ q (pts.getD i 0:Nat) ((nI pts).eraseIdx i)).toNat q=1:=by
 have h2:=(r8 hp).1;have h1:WA q (nI pts):=IB hp hd hb;have h3:=h1.iv (i:=i) (by rw[sf];exact hi)
 rw[tH]at h3;have h4:=(VM h3).cg (We q _ _).symm;have h5:=wz (q:=(q:Int)) (by omega) (pts.getD i 0:Nat) ((nI pts).eraseIdx i)
 refine U2 ?_;rw[lz h5.1];exact h4
section
variable {α:Type} [DecidableEq α] {st:Bool} {κ:α->PV}
def pM (κ:α->PV) (l:List α):List AV:=l.flatMap fun x=>[.v (κ x), .v (.b true)]
theorem OP (κ:α->PV):pM κ []=[]:=rfl
theorem E8 (hk: ∀a b,jG st (κ a) (κ b)=some (decide (a=b))) (x:α): ∀l:List α,ND st (κ x) (pM κ l)=True
 |[]=>by simp[pM,ND,hk]
 |a::l=>by
  have:=E8 hk x l;simp only[pM,eD,List.cons_append,List.nil_append,ND,hk,Option.isSome_some,rk]at this⊢;exact this
theorem BZ (hk: ∀a b,jG st (κ a) (κ b)=some (decide (a=b))) (x:α): ∀l:List α,qm st (.b false) (κ x) (pM κ l)= .b (decide (x∈l))
 |[]=>rfl
 |a::l=>by
  have:=BZ hk x l;simp only[pM,eD,List.cons_append,List.nil_append,qm,hk,aj,cq]at this⊢
  by_cases e:x=a
  ·subst e;simp
  ·rw[ae e,this];simp[e]
theorem BY (hk: ∀a b,jG st (κ a) (κ b)=some (decide (a=b))) {x:α}: ∀{l:List α},x∉l->vM st (κ x) (.b true) (pM κ l)=pM κ (l++[x])
 |[],_=>rfl
 |a::l,h=>by
  simp only[cr,not_or]at h;have:=BY hk h.2;simp only[pM,eD,List.cons_append,List.nil_append,vM,hk,aj,cq,ae h.1]at this⊢;rw[this]
theorem SA (κ:α->PV) (l:List α) (n:Nat):(∀y,y∈pM κ l->y.bd n=true)=True:=by
 simp only[eq_iff_iff,iff_true];intro y hy;obtain⟨a,-,hy⟩:=kj.1 hy;simp only[cr,kx,or_false]at hy;rcases hy with rfl|rfl<;>rfl
end
theorem Ns (a b:Bytes):jG true (.s a) (.s b)=some (decide (a=b)):=by
 by_cases h:a=b<;>simp[jG,h]
theorem Xz (a b:Int):jG false (.i .i64 a) (.i .i64 b)=some (decide (a=b)):=by
 by_cases h:a=b<;>simp[jG,h]
end Go.Dom
namespace Go.Proofs.Tryz
open Go Go.Dom Go.Num
variable {q x:Nat}
theorem sB (l:List Bytes) (hl:l.length<1000000):aD 117 [.sl (l.map .s)] (.b (l.all aa)):=by
 have l5:(l.map PV.s).length=l.length:=aB ..;refine eW call117 func117 ?_;refine cU @l5 ?_;refine af (α:=Nat) (fun i=>l.length-i) (fun i=>⟨[(5, .v (.sl (l.map .s))),(6,E' l.length),(7,E' i)],[],_⟩) (fun i=>i<=l.length/\(l.drop i).all aa=l.all aa) 0 (fun _=>ay _) ⟨aJ _,rfl⟩ ?_ ?_
 ·exact lE
 ·rintro i ⟨hi,hf⟩ R hR;rw[<-hf]
  by_cases hlt:i<l.length
  ·have e1:=dM hlt;have hgo:=hR (i+1);rw[<-hf]at hgo;rw[aT [] hlt,List.all_cons]at hgo⊢;generalize l.getD i []=x at*;have hv:=aS x;clear hR hf;generalize aa x=b at*;cases b
   ·repeat' first|simp only[go_sem,seval,l5,e1]|refine cP hv ?_|refine oE ?_|apply xX<;>intro hc
    all_goals simp
   ·have hgo:=hgo ⟨oO,by simp⟩ oO
    exact gV (aN @l5 @e1) @hgo @hv
  ·obtain rfl:i=l.length:=oO;rw[cO];exact gn @l5
theorem mH (l:List Bytes) (hl:l.length<1000000):aD 25 [.sl (l.map .s)] (.b (l.all aa)):=by
 have l5:(l.map PV.s).length=l.length:=aB ..;refine eW call25 func25 ?_;refine cU @l5 ?_;refine af (α:=Nat) (fun i=>l.length-i) (fun i=>⟨[(5, .v (.sl (l.map .s))),(6,E' l.length),(7,E' i)],[],_⟩) (fun i=>i<=l.length/\(l.drop i).all aa=l.all aa) 0 (fun _=>ay _) ⟨aJ _,rfl⟩ ?_ ?_
 ·exact lE
 ·rintro i ⟨hi,hf⟩ R hR;rw[<-hf]
  by_cases hlt:i<l.length
  ·have e1:=dM hlt;have hgo:=hR (i+1);rw[<-hf]at hgo;rw[aT [] hlt,List.all_cons]at hgo⊢;generalize l.getD i []=x at*;have hv:=aS x;clear hR hf;generalize aa x=b at*;cases b
   ·repeat' first|simp only[go_sem,seval,l5,e1]|refine cP hv ?_|refine oE ?_|apply xX<;>intro hc
    all_goals simp
   ·have hgo:=hgo ⟨oO,by simp⟩ oO
    exact gV (aN @l5 @e1) @hgo @hv
  ·obtain rfl:i=l.length:=oO;rw[cO];exact gn @l5
theorem OS (vs:List Bytes) (sd:Bytes) (a:Int) (hl:vs.length<1000000):aD 118 [T vs sd a] (.b (e9 vs a)):=by
 have h:=sB vs hl;unfold e9;rw[CA,ux];generalize vs.all aa=b at*;cases b
 ·refine eW call118 func118 ?_;repeat' first|simp only[go_sem,seval]|refine cP h ?_|refine oE ?_|apply xX<;>intro hc
  all_goals simp
 ·refine eW call118 func118 ?_;repeat' first|simp only[go_sem,seval]|refine cP h ?_|refine oE ?_|apply xX<;>intro hc
  all_goals first|(simp;done)|(simp;omega)|(simp_all;done)|(simp_all;omega)
theorem zf (vs:List Bytes) (sd:Bytes) (a:Int) (hl:vs.length<1000000):aD 26 [T vs sd a] (.b (e9 vs a)):=by
 have h:=H5 sd (a:=a) hl;generalize e9 vs a=b at*;cases b
 ·simp only[bm,an]at h;refine eW call26 func26 ?_;exact z2 @sQ @h
 ·simp only[au]at h;refine eW call26 func26 ?_;exact z2 @sQ @h
def CG (q:Bytes) (ls:List (List Bytes)):Int:=if !(ls.all fun l=>l.all aa)then 3 else if jr q≠0 then jr q else if fj (num q)then 0 else 12
def LN (l:List Bytes):PV:= .sl (l.map .s)
theorem N9 {q:Bytes} (h:jr q=0):aa q=true/\q.length<=8:=by
 unfold jr at h
 split at h
 ·rename_i h1
  split at h
  ·exact⟨h1,by assumption⟩
  ·cases h
 ·cases h
theorem Du (q:Bytes) (ls:List (List Bytes)) (h1:ls.length<1000000) (h2: ∀l∈ls,l.length<1000000):aD 124 [.s q, .sl (ls.map LN)] (E (CG q ls)):=by
 have hp:=B6 q;have l1:(ls.map LN).length=ls.length:=aB ..;refine eW call124 func124 ?_;refine cU @l1 ?_;refine af (α:=Nat) (fun i=>ls.length-i) (fun i=>⟨[(0, .v (.s q)),(11, .v (.sl (ls.map LN))),(12,E' ls.length),(13,E' i)],[],_⟩) (fun i=>i<=ls.length/\(ls.drop i).all (fun l=>l.all aa)=ls.all (fun l=>l.all aa)) 0 (fun _=>ay _) ⟨aJ _,rfl⟩ ?_ ?_
 ·exact lE
 ·rintro i ⟨hi,hf⟩ R hR
  by_cases hlt:i<ls.length
  ·have e1:(ls.map LN).getD i .fn0= .sl ((ls.getD i []).map .s):=getD_map LN ls [] hlt;have hgo:=fun h=>hR (i+1) ⟨oO,h⟩ oO
   rw[aT [] hlt,List.all_cons]at hf;have hl:=h2 _ (aq [] hlt);generalize ls.getD i []=l at*;clear hR;have l2:(l.map PV.s).length=l.length:=aB ..;refine cU (aN @l1 (aN @l2 @e1)) ?_;refine af (α:=Nat) (fun j=>l.length-j) (fun j=>⟨[(0, .v (.s q)),(11, .v (.sl (ls.map LN))),(12,E' ls.length),(13,E' i),(17, .v (.sl (l.map .s))),(18,E' l.length),(19,E' j)],[],_⟩) (fun j=>j<=l.length/\(l.drop j).all aa=l.all aa) 0 (fun _=>ay _) ⟨aJ _,rfl⟩ ?_ ?_
   ·exact lE
   ·rintro j ⟨hj,hk⟩ R' hR'
    by_cases hjl:j<l.length
    ·have e2:=dM hjl;have hgo':=fun h=>hR' (j+1) ⟨oO,h⟩ oO
     rw[aT [] hjl,List.all_cons]at hk;generalize l.getD j []=x at*;have hv:=aS x;clear hR'
     cases hb:aa x with
     |true=>
      rw[hb,cj]at hk;rw[hb]at hv;refine kz (aN @l2 @e2) @hv ?_;refine hgo' hk _ ?_;exact lE
     |false=>
      rw[hb,dW]at hk;rw[<-hk,dW]at hf;rw[hb]at hv;unfold CG;rw[<-hf];clear hgo hgo' hk hf;exact mi (aN @l2 @e2) @hv
    ·obtain rfl:j=l.length:=oO;rw[cO]at hk;rw[<-hk]at hf;simp only[List.all_nil,cj]at hf;refine dH (aN @l1 @l2) ?_;refine hgo hf _ ?_;exact lE
  ·obtain rfl:i=ls.length:=oO;rw[cO]at hf;unfold CG;rw[<-hf];simp only[List.all_nil,bQ,bm,an];clear hf hR
   by_cases h0:jr q=0
   ·obtain⟨vq,lq⟩:=N9 h0;rw[h0,vq,aI lq,cj,cj]at hp;rw[h0];generalize fj (num q)=b at*;cases b
    ·exact mi @l1 @hp
    ·exact mi @l1 @hp
   ·rw[ah h0];generalize (aa q&&decide (q.length<=8)&&fj (num q))=b at*;generalize jr q=e at*;exact mi @l1 @hp
theorem ue {q:Bytes} (vq:aa q=true) {l:List Bytes} (hv: ∀x∈l,aa x=true) (hl:l.length<1000000):aD 125 [.s q, .sl (l.map .s)] (.b (l.all fun x=>decide (num x<num q))):=by
 have l5:(l.map PV.s).length=l.length:=aB ..;refine eW call125 func125 ?_;refine cU @l5 ?_;refine af (α:=Nat) (fun i=>l.length-i) (fun i=>⟨[(0, .v (.s q)),(7, .v (.sl (l.map .s))),(8,E' l.length),(9,E' i)],[],_⟩) (fun i=>i<=l.length/\(l.drop i).all (fun x=>decide (num x<num q))=l.all fun x=>decide (num x<num q)) 0 (fun _=>ay _) ⟨aJ _,rfl⟩ ?_ ?_
 ·exact lE
 ·rintro i ⟨hi,hf⟩ R hR;rw[<-hf]
  by_cases hlt:i<l.length
  ·have e1:=dM hlt;have hgo:=hR (i+1);rw[<-hf]at hgo;rw[aT [] hlt,List.all_cons]at hgo⊢;have vx:=hv _ (aq [] hlt);generalize l.getD i []=x at*;have hc:=rG vx vq;have hg:=Kc (num x) (num q);clear hR hf hv vx;generalize ba (num x) (num q)=cm at*;generalize decide (num x<num q)=b at*;cases b
   ·repeat' first|simp only[go_sem,seval,l5,e1,hg]|refine cP hc ?_|refine oE ?_|apply xX<;>intro hc
    all_goals simp
   ·have hgo:=hgo ⟨oO,by simp⟩ oO
    exact gV (aN @l5 (aN @e1 @hg)) @hgo @hc
  ·obtain rfl:i=l.length:=oO;rw[cO];exact gn @l5
theorem Xi:aX 0=[]:=by decide
theorem Nf (h0:0<q) (cs:List Nat) (x:Nat) {k:Nat} (hk:k<cs.length):(xG q ((nI cs).drop k) x).toNat=((xG q ((nI cs).drop (k+1)) x).toNat*x%q+cs.getD k 0)%q:=by
 have hb:=(zw (q:=q) oO x ((nI cs).drop (k+1))).1;obtain⟨y,hy⟩: ∃y:Nat,xG q ((nI cs).drop (k+1)) x=y:=⟨_,(lz hb).symm⟩;rw[Nd (by rw[sf];exact hk),hy,tH,Int.toNat_natCast]
 have e:((y:Int)*x%q+((cs.getD k 0:Nat):Int))%q=(((y*x%q+cs.getD k 0)%q:Nat):Int):=by push_cast;rfl
 rw[e,Int.toNat_natCast]
theorem Cs (hq:q<(2^64)) (h0:0<q) {cs:List Nat} (hc: ∀c∈cs,c<(2^64)) (hx:x<(2^64)) (hl:cs.length<1000000):aD 126 [N q, .sl (cs.map dr),N x] (N (xG q (nI cs) x).toNat):=by
 have l5:(cs.map dr).length=cs.length:=aB ..;have hw: ∀ _:True,IntKind.i64.wrap ((cs.length:Int)-1)=(cs.length:Int)-1:=fun _=>IntWalk.i64_in _ oO
 refine eW call126 func126 ?_;refine cU (aN @l5 (hw oT)) ?_;refine af (α:=Nat) (fun k=>k) (fun k=>⟨[(0, .v (N q)),(1, .v (.sl (cs.map dr))),(2, .v (N x)),(7, .v (N (xG q ((nI cs).drop k) x).toNat)),(8, .v (.i .i64 ((k:Int)-1)))],[],_⟩) (fun k=>k<=cs.length) cs.length (fun _=>ay _) (ay _) ?_ ?_
 ·have e:(nI cs).drop cs.length=[]:=gU (by rw[sf];exact ay _)
  have e2:N (xG q ((nI cs).drop cs.length) x).toNat= .s []:=by rw[e];exact congrArg PV.s Xi
  rw[e2];exact lE
 ·intro k hk R hR
  cases k with
  |zero=>
   rw[pA];exact z0
  |succ k=>
   have hgo:=hR k oO oO;rw[Nf h0 cs x oO]at hgo;have hb:=zw (q:=q) oO x ((nI cs).drop (k+1));have e1: ∀ _:True,((k+1:Nat):Int)-1=(k:Int):=fun _=>oO
   have hge: ∀ _:True,decide ((k:Int)>=0)=true:=fun _=>by simp
   have hwk: ∀ _:True,IntKind.i64.wrap ((k:Int)-1)=(k:Int)-1:=fun _=>IntWalk.i64_in _ oO
   have e2:=o6 cs (i:=k) oO;have hck:=hc _ (aq 0 (show k<cs.length by omega))
   obtain⟨y,hy⟩: ∃y,y=(xG q ((nI cs).drop (k+1)) x).toNat:=⟨_,rfl⟩;rw[<-hy]at hgo⊢;have hyq:y<q:=oO;generalize cs.getD k 0=c at*;have m1:=qk (a:=y) (b:=x) (m:=q) oO hx hq h0;have m2:=BW (a:=y*x%q) (b:=c) (m:=q) (by have:=aL (y*x) h0;omega) hck hq h0
   clear hR hy hb hc;exact rv (aN (e1 oT) (aN (hge oT) (aN (hwk oT) (aN @l5 @e2)))) @hgo @m1 @m2
theorem Ll {l:List Bytes} (hd:l.Nodup) (hl:l.length<1000000):aD 329 [.sl (l.map .s)] (.b false):=by
 have l5:(l.map PV.s).length=l.length:=aB ..;refine eW call329 func329 ?_;refine cU @l5 ?_;refine af (α:=Nat) (fun i=>l.length-i) (fun i=>⟨[(3, .mp 1001),(7, .v (.sl (l.map .s))),(8,E' l.length),(9,E' i)],[(1001,⟨0,pM PV.s (l.take i),false,none⟩)],_⟩) (fun i=>i<=l.length) 0 (fun _=>ay _) (aJ _) ?_ ?_
 ·rw[List.take_zero,OP];exact lE
 ·intro i hi R hR
  by_cases hlt:i<l.length
  ·have e1:=dM hlt;have hgo:=hR (i+1) oO oO;rw[eY [] hlt]at hgo;have hnm:l.getD i []∉l.take i:=fun hm=>by
    obtain⟨j,hj,he⟩:=List.mem_take_iff_getElem.1 hm;exact(List.pairwise_iff_getElem.1 hd) j i oO hlt oO (he.trans (by simp[bu,hlt]))
   generalize l.getD i []=x at*;generalize l.take i=p at*;have m1:=E8 Ns x p;have m2:qm true (.b false) (.s x) (pM PV.s p)= .b false:=by rw[BZ Ns];simp[hnm]
   have m3:=BY Ns hnm;clear hR;refine dH (aN @l5 (aN @e1 (aN @m1 (aN @m2 @m3)))) ?_;refine hgo _ ?_;refine lG ?_;exact fun c hc=>(SA PV.s (p++[x]) _).mpr oT c hc
  ·obtain rfl:i=l.length:=oO;exact gn @l5
theorem NB (l:List Nat):l.map dr=(l.map aX).map PV.s:=by rw[iB];rfl
theorem tS (hq:q<(2^64)):jr (aX q)=0:=by
 unfold jr;rw[vN hq,ah rfl,ah (oV.2 hq)]
theorem UN (hq:q<(2^64)) (hp:fj q=true) {ls:List (List Bytes)} (h: ∀l∈ls,∀x∈l,aa x=true):CG (aX q) ls=0:=by
 have h1:(ls.all fun l=>l.all aa)=true:=by
  rw[bM];intro l hl;rw[bM];exact h l hl
 unfold CG;rw[h1,tS hq,aP,hp];rfl
theorem Mh {l:List Nat} (h: ∀x∈l,x<q):((l.map aX).all fun x=>decide (num x<num (aX q)))=true:=by
 rw[bM];intro x hx;obtain⟨n,hn,rfl⟩:=bG.1 hx;rw[aP,aP];exact aI (h n hn)
theorem HI (hq:q<(2^64)) (hp:fj q=true) {xs ys:List Nat} (hl:ys.length=xs.length) (h256:xs.length<=256) (hx: ∀a∈xs,a<q) (hy: ∀a∈ys,a<q) (ha:x<q) (hd:xs.Nodup):
  aD 214 [N q, .sl (xs.map dr), .sl (ys.map dr),N x] (E 0):=by
 have vl: ∀{l:List Nat},(∀a∈l,a<q)-> ∀b∈l.map aX,aa b=true:=fun{l} h b hb=>by
  obtain⟨n,hn,rfl⟩:=bG.1 hb;exact vN (by have:=h n hn;omega)
 have h1:=Du (aX q) [xs.map aX,ys.map aX,[aX x]] (by simp) (by simp;omega)
 rw[UN hq hp (by
  intro l hl b hb;simp only[cr,kx,or_false]at hl;rcases hl with rfl|rfl|rfl
  ·exact vl hx b hb
  ·exact vl hy b hb
  ·exact vl (l:=[x]) (by simpa using ha) b (by simpa using hb))]at h1
 simp only[br,bK,LN]at h1;rw[<-NB,<-NB]at h1;have h2:=ue (q:=aX q) (vN hq) (vl hx) (by simp;omega)
 rw[Mh hx,<-NB]at h2;have h3:=ue (q:=aX q) (vN hq) (vl hy) (by simp;omega)
 rw[Mh hy,<-NB]at h3;have h4:=ue (q:=aX q) (vN hq) (l:=[aX x]) (vl (l:=[x]) (by simpa using ha)) (by simp)
 rw[show([aX x].all fun y=>decide (num y<num (aX q)))=true from Mh (l:=[x]) (by simpa using ha)]at h4
 have h5:=Ll (l:=xs.map aX) (hd.map aX fun a b h e=>h (by rw[<-aP a,e,aP])) (by simp;omega)
 rw[<-NB]at h5;have l1:(xs.map dr).length=xs.length:=aB ..;have l2:(ys.map dr).length=xs.length:=by rw[aB];exact hl
 simp only[br,bK]at h4;refine eW call214 func214 ?_;exact AU (aN @l1 @l2) @h1 @h2 @h3 @h4 @h5 oT oT
