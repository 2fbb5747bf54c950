/-
  Part of the proof, part FA39. Own work.
-/
import Derived.Test.YtfdjchnefpefbaaGreatDoorFA38
set_option linter.all false
namespace Go.Dom
open Go.RowKit Go.Num
def nI (l:List Nat):List Int:=l.map fun a:Nat=>(a:Int)
def tN (l:List Int):List Nat:=l.map Int.toNat
theorem lr (l:List Nat):(nI l).length=l.length:=aE ..
theorem mP (l:List Int):(tN l).length=l.length:=aE ..
theorem mq: ∀(l:List Int) (j:Nat),(tN l).getD j 0=(l.getD j 0).toNat
 |[],j=>rfl
 |a::l,0=>rfl
 |a::l,j+1=>by simp only[tN,aS,cA];exact mq l j
theorem pw: ∀(l:List Nat) (j:Nat),(nI l).getD j 0=(l.getD j 0:Nat)
 |[],j=>rfl
 |a::l,0=>rfl
 |a::l,j+1=>by simp only[nI,aS,cA];exact pw l j
def NT (q:Int) (l:List Int):Prop:= ∀j,0<=l.getD j 0/\l.getD j 0<q
theorem TD {q:Int} (hq:0<q) (p:List Int):NT q (Vd q p):=fun j=>by
 rw[xO];exact⟨fS _ (by omega),gZ _ hq⟩
theorem TH {q:Int} (hq:0<q) (p:List Int) (a:Int):NT q (mL q p a):=TD hq _
theorem Mi {q:Int} (hq:1<q):NT q [1]:=fun j=>by
 cases j with
 |zero=>exact⟨by decide,hq⟩
 |succ j=>simp only[cA,List.getD_nil];omega
theorem LZ {q:Int} (hq:0<q): ∀(l p:List Int),NT q p->NT q (l.foldl (mL q) p)
 |[],p,h=>h
 |a::l,p,_=>LZ hq l _ (TH hq p a)
theorem L0 {q:Int} (hq:1<q) (l:List Int):NT q (zW q l):=LZ (by omega) l _ (Mi hq)
theorem L1 (q:Int) (l:List Int) (a:Int):zW q (l++[a])=mL q (zW q l) a:=by simp[zW]
theorem Nc (q x:Int) (l:List Int) (a:Int):yu q x (l++[a])=yu q x l*((x-a)%q)%q:=by simp[yu]
theorem yv {q:Int} (hq:1<q) (x:Int) (l:List Int):0<=yu q x l/\yu q x l<q:=by
 unfold yu;have: ∀(l:List Int) (s:Int),0<=s/\s<q->0<=l.foldl (fun s a=>s*((x-a)%q)%q) s/\l.foldl (fun s a=>s*((x-a)%q)%q) s<q:=by
  intro l
  induction l with
  |nil=>intro s h;exact h
  |cons a l ih=>intro s _;exact ih _ ⟨fS _ (by omega),gZ _ (by omega)⟩
 exact this l 1 ⟨by decide,hq⟩
theorem OT {q a b:Int} (h:Cg q a b):a%q=b%q:=by
 obtain⟨k,hk⟩:=h;rw[show a=b+q*k by omega,pL]
theorem Ju (x y q:Int):(x-y%q)%q=(x-y)%q:=OT ((Cg.iI x).sub (Cg.emod q y))
theorem L3 (q a:Int) (p:List Int) (j:Nat):(mL q p a).getD j 0=((0::p).getD j 0-p.getD j 0*a%q)%q:=by
 rw[Ju]
 cases j with
 |zero=>rw[L2,fw];congr 1;grind
 |succ j=>rw[Du,cA];congr 1;grind
theorem fa {α:Type} (d:α) {l:List α} {k:Nat} (h:k<l.length):l.take (k+1)=l.take k++[l.getD k d]:=by
 rw[List.take_succ,bJ h];simp[aR,bJ h]
def iK (q:Int) (p:List Int) (a:Int) (j:Nat):List Int:=(mL q p a).take j++(0::p).getD j 0::List.replicate (p.length-j) 0
theorem DU {q a:Int} {p:List Int} {j:Nat} (h:j<=p.length):(iK q p a j).length=p.length+1:=by
 have:=pq q a p;simp[iK];omega
theorem MQ (q a:Int) (p:List Int):iK q p a 0=List.replicate (p.length+1) 0:=by
 simp[iK,List.replicate_succ]
theorem Hv {q a:Int} {p:List Int} {j:Nat} (h:j<=p.length):(iK q p a j).getD j 0=(0::p).getD j 0:=by
 have hl:((mL q p a).take j).length=j:=by rw[bU,pq];omega
 unfold iK;rw[aR,sJ (by omega),hl,eE];rfl
theorem Aj {q a:Int} {p:List Int} {j:Nat} (h:j<p.length):(iK q p a j).getD (j+1) 0=0:=by
 have hl:((mL q p a).take j).length=j:=by rw[bU,pq];omega
 unfold iK;rw[aR,sJ (by omega),hl,show j+1-j=1 by omega,List.getElem?_cons_succ,Cw]
 split<;>rfl
theorem Ak {q a:Int} {p:List Int} {j:Nat} (h:j<p.length):((iK q p a j).set (j+1) (p.getD j 0)).set j ((mL q p a).getD j 0)=iK q p a (j+1):=by
 have hm:=pq q a p;have hl:((mL q p a).take j).length=j:=by rw[bU,hm];omega
 unfold iK;rw[B8 _ _ (by omega),B8 _ _ (by omega),hl,eE,show j+1-j=1 by omega,show p.length-j=(p.length-(j+1))+1 by omega,List.replicate_succ]
 simp only[List.set_cons_succ,List.set_cons_zero];rw[fa 0 (show j<(mL q p a).length by omega),cA];simp only[eU,List.cons_append,List.nil_append]
theorem DT {q a:Int} {p:List Int} (hp:p≠[]) (hq:NT q p):iK q p a p.length=mL q p a:=by
 have hm:=pq q a p;obtain⟨n,hn⟩: ∃n,p.length=n+1:=⟨p.length-1,by have:=kJ.2 hp;omega⟩
 have h1:(mL q p a).getD (n+1) 0=p.getD n 0:=by
  rw[Du,rv 0 p (n+1) (by omega),we,Int.add_zero]
  exact Int.emod_eq_of_lt (hq n).1 (hq n).2
 unfold iK;rw[eE,List.replicate_zero,hn,cA,<-h1];have e:mL q p a=(mL q p a).take (n+1)++[(mL q p a).getD (n+1) 0]:=by
  conv=>lhs;rw[<-sQ (n+1) (mL q p a)]
  congr 1;rw[iq (by omega),iO (by omega)]
  simp[aR,bJ (show n+1<(mL q p a).length by omega)]
 exact e.symm
def uM (l:List Int) (i k:Nat):List Int:=(l.take k).eraseIdx i
theorem VT (l:List Int) (i:Nat):uM l i 0=[]:=by simp[uM]
theorem Th {l:List Int} {i k:Nat} (hk:k<l.length) (h:k≠i):uM l i (k+1)=uM l i k++[l.getD k 0]:=by
 have hl:(l.take k).length=k:=by rw[bU];omega
 unfold uM;rw[fa 0 hk];rcases Nat.lt_or_gt_of_ne h with g|g
 ·rw[Cr (by simp;omega),Cr (by omega)]
 ·rw[List.eraseIdx_append_of_lt_length (by omega)]
theorem Tg {l:List Int} {i:Nat} (hk:i<l.length):uM l i (i+1)=uM l i i:=by
 have hl:(l.take i).length=i:=by rw[bU];omega
 unfold uM;have r:(l.take i).eraseIdx i=l.take i:=Cr (by omega)
 rw[fa 0 hk,List.eraseIdx_append_of_length_le (by omega),hl,eE,r]
 simp
theorem Pd (l:List Int) (i:Nat):uM l i l.length=l.eraseIdx i:=by rw[uM,cK]
def fY (q:Int) (P:Nat->List Int) (f:Nat->Int) (n i j:Nat):List Int:=(List.range n).map fun t=>if t<j then yZ q P f t (i+1)else yZ q P f t i
theorem nc (q:Int) (P:Nat->List Int) (f:Nat->Int) (n i j:Nat):(fY q P f n i j).length=n:=by simp[fY]
theorem Hd {q:Int} {P:Nat->List Int} {f:Nat->Int} {n i j:Nat} (h:j<n):(fY q P f n i j).getD j 0=yZ q P f j i:=by
 rw[fY,aR,dt,jS h];simp
theorem Aa {q:Int} {P:Nat->List Int} {f:Nat->Int} {n i j:Nat} (h:j<n):(fY q P f n i j).set j (yZ q P f j (i+1))=fY q P f n i (j+1):=by
 refine sL fun t=> ?_
 by_cases ht:t<n
 ·by_cases e:j=t
  ·subst e;rw[List.getElem?_set_self (by rw[nc];exact h),fY,dt,jS h];simp
  ·rw[List.getElem?_set_ne e,fY,fY,dt,dt,jS ht];simp only[Option.map_some,ae]
   by_cases g:t<j
   ·rw[if_pos g,if_pos (by omega)]
   ·rw[if_neg g,if_neg (by omega)]
 ·rw[kd (by rw[fU,nc];omega),kd (by rw[nc];omega)]
theorem zZ (q:Int) (P:Nat->List Int) (f:Nat->Int) (n i:Nat):fY q P f n i n=fY q P f n (i+1) 0:=by
 unfold fY;refine ir fun t ht=> ?_
 rw[if_pos (cM.1 ht),if_neg (mD _)]
theorem Ud (q:Int) (P:Nat->List Int) (f:Nat->Int) (n:Nat):fY q P f n 0 0=List.replicate n 0:=by
 unfold fY;refine sL fun t=> ?_
 by_cases ht:t<n
 ·rw[dt,jS ht,Cw,if_pos ht];simp[yZ]
 ·rw[kd (by simp;omega),kd (by simp;omega)]
theorem Mj (q:Int) (l:List Int) (f:Nat->Int):fY q (fun k=>zW q (l.eraseIdx k)) f l.length l.length 0=qJ q l f:=by
 unfold fY qJ;refine ir fun t ht=> ?_
 rw[if_neg (mD _)]
theorem Lt {q x:Int} {p:List Int} {i:Nat} (h:i<p.length):pT q (p.drop i) x=(pT q (p.drop (i+1)) x*x%q+p.getD i 0)%q:=by
 rw[iq h,aR,bJ h];rfl
theorem To {q a:Nat} (h:Iv q a):Nat.gcd a q=1:=by
 obtain⟨b,k,hk⟩:=h;have h1:((Nat.gcd a q:Nat):Int)∣a:=Cp.2 (Cd a q);have h2:((Nat.gcd a q:Nat):Int)∣q:=Cp.2 (B6 a q);have h3:((Nat.gcd a q:Nat):Int)∣(a:Int)*b-(q:Int)*k:=Int.dvd_sub (Int.dvd_mul_of_dvd_left h1) (Int.dvd_mul_of_dvd_left h2);rw[show(a:Int)*b-(q:Int)*k=1 by omega]at h3
 exact Nat.dvd_one.1 (Cp.1 (by simpa using h3))
theorem HC {q:Nat} (hp:du q=true) {pts:List Nat} (hd:pts.Nodup) (hb: ∀a∈pts,a<=8/\a<q) {i:Nat} (hi:i<pts.length):Nat.gcd (yu q (pts.getD i 0:Nat) ((nI pts).eraseIdx i)).toNat q=1:=by
 have h2:=(nJ hp).1;have h1:NU q (nI pts):=AY hp hd hb;have h3:=h1.iv (i:=i) (by rw[lr];exact hi)
 rw[pw]at h3;have h4:=(Mr h3).cg (Nb q _ _).symm;have h5:=yv (q:=(q:Int)) (by omega) (pts.getD i 0:Nat) ((nI pts).eraseIdx i)
 refine To ?_;rw[gV h5.1];exact h4
section
variable {α:Type} [DecidableEq α] {st:Bool} {κ:α->PV}
def oh (κ:α->PV) (l:List α):List AV:=l.flatMap fun x=>[.v (κ x), .v (.b true)]
theorem Nd (κ:α->PV):oh κ []=[]:=rfl
theorem Dr (hk: ∀a b,iW st (κ a) (κ b)=some (decide (a=b))) (x:α): ∀l:List α,LW st (κ x) (oh κ l)=True
 |[]=>by simp[oh,LW,hk]
 |a::l=>by
  have:=Dr hk x l;simp only[oh,dQ,List.cons_append,List.nil_append,LW,hk,Option.isSome_some,true_and]at this⊢;exact this
theorem zV (hk: ∀a b,iW st (κ a) (κ b)=some (decide (a=b))) (x:α): ∀l:List α,oL st (.b false) (κ x) (oh κ l)= .b (decide (x∈l))
 |[]=>rfl
 |a::l=>by
  have:=zV hk x l;simp only[oh,dQ,List.cons_append,List.nil_append,oL,hk,ae,decide_eq_true_eq]at this⊢
  by_cases e:x=a
  ·subst e;simp
  ·rw[if_neg e,this];simp[e]
theorem zU (hk: ∀a b,iW st (κ a) (κ b)=some (decide (a=b))) {x:α}: ∀{l:List α},x∉l->tM st (κ x) (.b true) (oh κ l)=oh κ (l++[x])
 |[],_=>rfl
 |a::l,h=>by
  simp only[bL,not_or]at h;have:=zU hk h.2;simp only[oh,dQ,List.cons_append,List.nil_append,tM,hk,ae,decide_eq_true_eq,if_neg h.1]at this⊢;rw[this]
theorem QF (κ:α->PV) (l:List α) (n:Nat):(∀y,y∈oh κ l->y.bd n=true)=True:=by
 simp only[eq_iff_iff,iff_true];intro y hy;obtain⟨a,-,hy⟩:=jq.1 hy;simp only[bL,iy,or_false]at hy;rcases hy with rfl|rfl<;>rfl
end
theorem LI (a b:Bytes):iW true (.s a) (.s b)=some (decide (a=b)):=by
 by_cases h:a=b<;>simp[iW,h]
theorem V4 (a b:Int):iW false (.i .i64 a) (.i .i64 b)=some (decide (a=b)):=by
 by_cases h:a=b<;>simp[iW,h]
end Go.Dom
namespace Go.Proofs.YtfdjchnefpefbaaGreatDoor
open Go Go.Dom Go.Num
set_option maxRecDepth 100000
set_option maxHeartbeats 16000000
theorem qH (l:List Bytes) (hl:l.length<1000000):aA Tryz.prog 71 [.sl (l.map .s)] (.b (l.all aa)):=by
 have l5:(l.map PV.s).length=l.length:=aE ..;refine eW Tryz.call71 Tryz.func71 ?_;refine eF @l5 ?_;refine af (α:=Nat) (fun i=>l.length-i) (fun i=>⟨[(5, .v (.sl (l.map .s))),(6,E' l.length),(7,E' i)],[],_⟩) (fun i=>i<=l.length/\(l.drop i).all aa=l.all aa) 0 (fun _=>an _) ⟨aH _,rfl⟩ ?_ ?_
 ·exact lE
 ·rintro i ⟨hi,hf⟩ R hR;rw[<-hf]
  by_cases hlt:i<l.length
  ·have e1:=eX hlt;have hgo:=hR (i+1);rw[<-hf]at hgo;rw[aT [] hlt,List.all_cons]at hgo⊢;generalize l.getD i []=x at*;have hv:=aJ x;clear hR hf;generalize aa x=b at*;cases b
   ·repeat' first|simp only[go_sem,seval,l5,e1]|refine cP hv ?_|refine sB ?_|apply xX<;>intro hc|refine⟨oD,?_⟩|exact oD|fail
    all_goals simp
   ·have hgo:=hgo ⟨by omega,by simp⟩ oO
    exact kR (aN @l5 @e1) @hgo @hv
  ·obtain rfl:i=l.length:=by omega
   rw[cX];exact lQ @l5
theorem mV (l:List Bytes) (hl:l.length<1000000):aA Tryz.prog 29 [.sl (l.map .s)] (.b (l.all aa)):=by
 have l5:(l.map PV.s).length=l.length:=aE ..;refine eW Tryz.call29 Tryz.func29 ?_;refine eF @l5 ?_;refine af (α:=Nat) (fun i=>l.length-i) (fun i=>⟨[(5, .v (.sl (l.map .s))),(6,E' l.length),(7,E' i)],[],_⟩) (fun i=>i<=l.length/\(l.drop i).all aa=l.all aa) 0 (fun _=>an _) ⟨aH _,rfl⟩ ?_ ?_
 ·exact lE
 ·rintro i ⟨hi,hf⟩ R hR;rw[<-hf]
  by_cases hlt:i<l.length
  ·have e1:=eX hlt;have hgo:=hR (i+1);rw[<-hf]at hgo;rw[aT [] hlt,List.all_cons]at hgo⊢;generalize l.getD i []=x at*;have hv:=aJ x;clear hR hf;generalize aa x=b at*;cases b
   ·repeat' first|simp only[go_sem,seval,l5,e1]|refine cP hv ?_|refine sB ?_|apply xX<;>intro hc|refine⟨oD,?_⟩|exact oD|fail
    all_goals simp
   ·have hgo:=hgo ⟨by omega,by simp⟩ oO
    exact kR (aN @l5 @e1) @hgo @hv
  ·obtain rfl:i=l.length:=by omega
   rw[cX];exact lQ @l5
theorem Ng (vs:List Bytes) (sd:Bytes) (a:Int) (hl:vs.length<1000000):aA Tryz.prog 72 [T vs sd a] (.b (eD vs a)):=by
 have h:=qH vs hl;unfold eD;rw[AA,nW];generalize vs.all aa=b at*;cases b
 ·refine eW Tryz.call72 Tryz.func72 ?_;repeat' first|simp only[go_sem,seval]|refine cP h ?_|refine sB ?_|apply xX<;>intro hc|refine⟨oD,?_⟩|exact oD|fail
  all_goals simp
 ·refine eW Tryz.call72 Tryz.func72 ?_;repeat' first|simp only[go_sem,seval]|refine cP h ?_|refine sB ?_|apply xX<;>intro hc|refine⟨oD,?_⟩|exact oD|fail
  all_goals first|(simp;done)|(simp;omega)|(simp_all;done)|(simp_all;omega)
theorem C3 (vs:List Bytes) (sd:Bytes) (a:Int) (hl:vs.length<1000000):aA Tryz.prog 30 [T vs sd a] (.b (eD vs a)):=by
 have h:=Gf sd (a:=a) hl;generalize eD vs a=b at*;cases b
 ·simp only[aX,if_false]at h;refine eW Tryz.call30 Tryz.func30 ?_;exact z2 @qT @h
 ·simp only[if_true]at h;refine eW Tryz.call30 Tryz.func30 ?_;exact z2 @qT @h
def AH (q:Bytes) (ls:List (List Bytes)):Int:=if !(ls.all fun l=>l.all aa)then 3 else if iH q≠0 then iH q else if du (num q)then 0 else 12
def LN (l:List Bytes):PV:= .sl (l.map .s)
theorem Mu {q:Bytes} (h:iH q=0):aa q=true/\q.length<=8:=by
 unfold iH at h
 split at h
 ·rename_i h1
  split at h
  ·exact⟨h1,by assumption⟩
  ·cases h
 ·cases h
theorem BF (q:Bytes) (ls:List (List Bytes)) (h1:ls.length<1000000) (h2: ∀l∈ls,l.length<1000000):aA Tryz.prog 78 [.s q, .sl (ls.map LN)] (E (AH q ls)):=by
 have hp:=Ac q;have l1:(ls.map LN).length=ls.length:=aE ..;refine eW Tryz.call78 Tryz.func78 ?_;refine eF @l1 ?_;refine af (α:=Nat) (fun i=>ls.length-i) (fun i=>⟨[(0, .v (.s q)),(11, .v (.sl (ls.map LN))),(12,E' ls.length),(13,E' i)],[],_⟩) (fun i=>i<=ls.length/\(ls.drop i).all (fun l=>l.all aa)=ls.all (fun l=>l.all aa)) 0 (fun _=>an _) ⟨aH _,rfl⟩ ?_ ?_
 ·exact lE
 ·rintro i ⟨hi,hf⟩ R hR
  by_cases hlt:i<ls.length
  ·have e1:(ls.map LN).getD i .fn0= .sl ((ls.getD i []).map .s):=getD_map LN ls [] hlt;have hgo:=fun h=>hR (i+1) ⟨by omega,h⟩ oO
   rw[aT [] hlt,List.all_cons]at hf;have hl:=h2 _ (az [] hlt);generalize ls.getD i []=l at*;clear hR;have l2:(l.map PV.s).length=l.length:=aE ..;refine eF (aN @l1 (aN @l2 @e1)) ?_;refine af (α:=Nat) (fun j=>l.length-j) (fun j=>⟨[(0, .v (.s q)),(11, .v (.sl (ls.map LN))),(12,E' ls.length),(13,E' i),(17, .v (.sl (l.map .s))),(18,E' l.length),(19,E' j)],[],_⟩) (fun j=>j<=l.length/\(l.drop j).all aa=l.all aa) 0 (fun _=>an _) ⟨aH _,rfl⟩ ?_ ?_
   ·exact lE
   ·rintro j ⟨hj,hk⟩ R' hR'
    by_cases hjl:j<l.length
    ·have e2:=eX hjl;have hgo':=fun h=>hR' (j+1) ⟨by omega,h⟩ oO
     rw[aT [] hjl,List.all_cons]at hk;generalize l.getD j []=x at*;have hv:=aJ x;clear hR'
     cases hb:aa x with
     |true=>
      rw[hb,cf]at hk;rw[hb]at hv;refine o8 (aN @l2 @e2) @hv ?_;refine hgo' hk _ ?_;exact lE
     |false=>
      rw[hb,dH]at hk;rw[<-hk,dH]at hf;rw[hb]at hv;unfold AH;rw[<-hf];clear hgo hgo' hk hf;exact o7 (aN @l2 @e2) @hv
    ·obtain rfl:j=l.length:=by omega
     rw[cX]at hk;rw[<-hk]at hf;simp only[List.all_nil,cf]at hf;refine fx (aN @l1 @l2) ?_;refine hgo hf _ ?_;exact lE
  ·obtain rfl:i=ls.length:=by omega
   rw[cX]at hf;unfold AH;rw[<-hf];simp only[List.all_nil,bR,aX,if_false];clear hf hR
   by_cases h0:iH q=0
   ·obtain⟨vq,lq⟩:=Mu h0;rw[h0,vq,decide_eq_true lq,cf,cf]at hp;rw[h0];generalize du (num q)=b at*;cases b
    ·exact o7 @l1 @hp
    ·exact o7 @l1 @hp
   ·rw[if_pos h0];generalize (aa q&&decide (q.length<=8)&&du (num q))=b at*;generalize iH q=e at*;exact o7 @l1 @hp
theorem rX {q:Bytes} (vq:aa q=true) {l:List Bytes} (hv: ∀x∈l,aa x=true) (hl:l.length<1000000):aA Tryz.prog 79 [.s q, .sl (l.map .s)] (.b (l.all fun x=>decide (num x<num q))):=by
 have l5:(l.map PV.s).length=l.length:=aE ..;refine eW Tryz.call79 Tryz.func79 ?_;refine eF @l5 ?_;refine af (α:=Nat) (fun i=>l.length-i) (fun i=>⟨[(0, .v (.s q)),(7, .v (.sl (l.map .s))),(8,E' l.length),(9,E' i)],[],_⟩) (fun i=>i<=l.length/\(l.drop i).all (fun x=>decide (num x<num q))=l.all fun x=>decide (num x<num q)) 0 (fun _=>an _) ⟨aH _,rfl⟩ ?_ ?_
 ·exact lE
 ·rintro i ⟨hi,hf⟩ R hR;rw[<-hf]
  by_cases hlt:i<l.length
  ·have e1:=eX hlt;have hgo:=hR (i+1);rw[<-hf]at hgo;rw[aT [] hlt,List.all_cons]at hgo⊢;have vx:=hv _ (az [] hlt);generalize l.getD i []=x at*;have hc:=ri vx vq;have hg:=Po (num x) (num q);clear hR hf hv vx;generalize aU (num x) (num q)=cm at*;generalize decide (num x<num q)=b at*;cases b
   ·repeat' first|simp only[go_sem,seval,l5,e1,hg]|refine cP hc ?_|refine sB ?_|apply xX<;>intro hc|refine⟨oD,?_⟩|exact oD|fail
    all_goals simp
   ·have hgo:=hgo ⟨by omega,by simp⟩ oO
    exact kR (aN @l5 (aN @e1 @hg)) @hgo @hc
  ·obtain rfl:i=l.length:=by omega
   rw[cX];exact lQ @l5
theorem VM:aO 0=[]:=by decide
theorem Lu {q:Nat} (h0:0<q) (cs:List Nat) (x:Nat) {k:Nat} (hk:k<cs.length):(pT q ((nI cs).drop k) x).toNat=((pT q ((nI cs).drop (k+1)) x).toNat*x%q+cs.getD k 0)%q:=by
 have hb:=(tD (q:=q) oO x ((nI cs).drop (k+1))).1;obtain⟨y,hy⟩: ∃y:Nat,pT q ((nI cs).drop (k+1)) x=y:=⟨_,(gV hb).symm⟩;rw[Lt (by rw[lr];exact hk),hy,pw,Int.toNat_natCast]
 have e:((y:Int)*x%q+((cs.getD k 0:Nat):Int))%q=(((y*x%q+cs.getD k 0)%q:Nat):Int):=by push_cast;rfl
 rw[e,Int.toNat_natCast]
theorem Ar {q:Nat} (hq:q<18446744073709551616) (h0:0<q) {cs:List Nat} (hc: ∀c∈cs,c<18446744073709551616) {x:Nat} (hx:x<18446744073709551616) (hl:cs.length<1000000):aA Tryz.prog 80 [N q, .sl (cs.map cY),N x] (N (pT q (nI cs) x).toNat):=by
 have l5:(cs.map cY).length=cs.length:=aE ..;have hw: ∀ _:True,IntKind.i64.wrap ((cs.length:Int)-1)=(cs.length:Int)-1:=fun _=>IntWalk.i64_in _ oO
 refine eW Tryz.call80 Tryz.func80 ?_;refine eF (aN @l5 (hw trivial)) ?_;refine af (α:=Nat) (fun k=>k) (fun k=>⟨[(0, .v (N q)),(1, .v (.sl (cs.map cY))),(2, .v (N x)),(7, .v (N (pT q ((nI cs).drop k) x).toNat)),(8, .v (.i .i64 ((k:Int)-1)))],[],_⟩) (fun k=>k<=cs.length) cs.length (fun _=>an _) (an _) ?_ ?_
 ·have e:(nI cs).drop cs.length=[]:=iO (by rw[lr];exact an _)
  have e2:N (pT q ((nI cs).drop cs.length) x).toNat= .s []:=by rw[e];exact congrArg PV.s VM
  rw[e2];exact lE
 ·intro k hk R hR
  cases k with
  |zero=>
   rw[sw];exact z0
  |succ k=>
   have hgo:=hR k oO oO;rw[Lu h0 cs x oO]at hgo;have hb:=tD (q:=q) oO x ((nI cs).drop (k+1));have e1: ∀ _:True,((k+1:Nat):Int)-1=(k:Int):=fun _=>by omega
   have hge: ∀ _:True,decide ((k:Int)>=0)=true:=fun _=>by simp
   have hwk: ∀ _:True,IntKind.i64.wrap ((k:Int)-1)=(k:Int)-1:=fun _=>IntWalk.i64_in _ oO
   have e2:=qv cs (i:=k) oO;have hck:=hc _ (az 0 (show k<cs.length by omega))
   obtain⟨y,hy⟩: ∃y,y=(pT q ((nI cs).drop (k+1)) x).toNat:=⟨_,rfl⟩;rw[<-hy]at hgo⊢;have hyq:y<q:=by omega
   generalize cs.getD k 0=c at*;have m1:=oJ (a:=y) (b:=x) (m:=q) oO hx hq h0;have m2:=zT (a:=y*x%q) (b:=c) (m:=q) (by have:=aD (y*x) h0;omega) hck hq h0
   clear hR hy hb hc;exact yQ (aN (e1 trivial) (aN (hge trivial) (aN (hwk trivial) (aN @l5 @e2)))) @hgo @m1 @m2
theorem Jt {l:List Bytes} (hd:l.Nodup) (hl:l.length<1000000):aA Tryz.prog 351 [.sl (l.map .s)] (.b false):=by
 have l5:(l.map PV.s).length=l.length:=aE ..;refine eW Tryz.call351 Tryz.func351 ?_;refine eF @l5 ?_;refine af (α:=Nat) (fun i=>l.length-i) (fun i=>⟨[(3, .mp 1001),(7, .v (.sl (l.map .s))),(8,E' l.length),(9,E' i)],[(1001,⟨0,oh PV.s (l.take i),false,none⟩)],_⟩) (fun i=>i<=l.length) 0 (fun _=>an _) (aH _) ?_ ?_
 ·rw[List.take_zero,Nd];exact lE
 ·intro i hi R hR
  by_cases hlt:i<l.length
  ·have e1:=eX hlt;have hgo:=hR (i+1) oO oO;rw[fa [] hlt]at hgo;have hnm:l.getD i []∉l.take i:=fun hm=>by
    obtain⟨j,hj,he⟩:=List.mem_take_iff_getElem.1 hm;exact(List.pairwise_iff_getElem.1 hd) j i oO hlt oO (he.trans (by simp[aR,hlt]))
   generalize l.getD i []=x at*;generalize l.take i=p at*;have m1:=Dr LI x p;have m2:oL true (.b false) (.s x) (oh PV.s p)= .b false:=by rw[zV LI];simp[hnm]
   have m3:=zU LI hnm;clear hR;refine fx (aN @l5 (aN @e1 (aN @m1 (aN @m2 @m3)))) ?_;refine hgo _ ?_;refine lG ?_;exact fun c hc=>(QF PV.s (p++[x]) _).mpr trivial c hc
  ·obtain rfl:i=l.length:=by omega
   exact lQ @l5
theorem IN (l:List Nat):l.map cY=(l.map aO).map PV.s:=by rw[iQ];rfl
theorem rP {q:Nat} (hq:q<18446744073709551616):iH (aO q)=0:=by
 unfold iH;rw[vN hq,if_pos rfl,if_pos (nA.2 hq)]
theorem S8 {q:Nat} (hq:q<18446744073709551616) (hp:du q=true) {ls:List (List Bytes)} (h: ∀l∈ls,∀x∈l,aa x=true):AH (aO q) ls=0:=by
 have h1:(ls.all fun l=>l.all aa)=true:=by
  rw[bz];intro l hl;rw[bz];exact h l hl
 unfold AH;rw[h1,rP hq,aG,hp];rfl
theorem Kr {q:Nat} {l:List Nat} (h: ∀x∈l,x<q):((l.map aO).all fun x=>decide (num x<num (aO q)))=true:=by
 rw[bz];intro x hx;obtain⟨n,hn,rfl⟩:=bw.1 hx;rw[aG,aG];exact decide_eq_true (h n hn)
theorem FQ {q:Nat} (hq:q<18446744073709551616) (hp:du q=true) {xs ys:List Nat} {x:Nat} (hl:ys.length=xs.length) (h256:xs.length<=256) (hx: ∀a∈xs,a<q) (hy: ∀a∈ys,a<q) (ha:x<q) (hd:xs.Nodup):
  aA Tryz.prog 237 [N q, .sl (xs.map cY), .sl (ys.map cY),N x] (E 0):=by
 have vl: ∀{l:List Nat},(∀a∈l,a<q)-> ∀b∈l.map aO,aa b=true:=fun{l} h b hb=>by
  obtain⟨n,hn,rfl⟩:=bw.1 hb;exact vN (by have:=h n hn;omega)
 have h1:=BF (aO q) [xs.map aO,ys.map aO,[aO x]] (by simp) (by simp;omega)
 rw[S8 hq hp (by
  intro l hl b hb;simp only[bL,iy,or_false]at hl;rcases hl with rfl|rfl|rfl
  ·exact vl hx b hb
  ·exact vl hy b hb
  ·exact vl (l:=[x]) (by simpa using ha) b (by simpa using hb))]at h1
 simp only[aS,bH,LN]at h1;rw[<-IN,<-IN]at h1;have h2:=rX (q:=aO q) (vN hq) (vl hx) (by simp;omega)
 rw[Kr hx,<-IN]at h2;have h3:=rX (q:=aO q) (vN hq) (vl hy) (by simp;omega)
 rw[Kr hy,<-IN]at h3;have h4:=rX (q:=aO q) (vN hq) (l:=[aO x]) (vl (l:=[x]) (by simpa using ha)) (by simp)
 rw[show([aO x].all fun y=>decide (num y<num (aO q)))=true from Kr (l:=[x]) (by simpa using ha)]at h4
 have h5:=Jt (l:=xs.map aO) (hd.map aO fun a b h e=>h (by rw[<-aG a,e,aG])) (by simp;omega)
 rw[<-IN]at h5;have l1:(xs.map cY).length=xs.length:=aE ..;have l2:(ys.map cY).length=xs.length:=by rw[aE];exact hl
 simp only[aS,bH]at h4;refine eW Tryz.call237 Tryz.func237 ?_;exact XD (aN @l1 @l2) @h1 @h2 @h3 @h4 @h5
end Go.Proofs.YtfdjchnefpefbaaGreatDoor
