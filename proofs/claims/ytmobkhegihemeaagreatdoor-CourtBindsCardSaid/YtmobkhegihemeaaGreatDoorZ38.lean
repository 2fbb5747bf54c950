/-
  Part of the proof, part Z38. Own work.
-/
import Derived.Test.YtmobkhegihemeaaGreatDoorZ37
set_option linter.all false
namespace Go.Dom
open Go.RowKit Go.Num
def nI (l:List Nat):List Int:=l.map fun a:Nat=>(a:Int)
def tN (l:List Int):List Nat:=l.map Int.toNat
theorem gX (l:List Nat):(nI l).length=l.length:=List.length_map ..
theorem iT (l:List Int):(tN l).length=l.length:=List.length_map ..
theorem iB: ∀(l:List Int) (j:Nat),(tN l).getD j 0=(l.getD j 0).toNat
 |[],j=>rfl
 |a::l,0=>rfl
 |a::l,j+1=>by simp only[tN,List.map_cons,List.getD_cons_succ];exact iB l j
theorem kD: ∀(l:List Nat) (j:Nat),(nI l).getD j 0=(l.getD j 0:Nat)
 |[],j=>rfl
 |a::l,0=>rfl
 |a::l,j+1=>by simp only[nI,List.map_cons,List.getD_cons_succ];exact kD l j
def Hv (q:Int) (l:List Int):Prop:= ∀j,0≤l.getD j 0∧l.getD j 0<q
theorem MV {q:Int} (hq:0<q) (p:List Int):Hv q (Oo q p):=fun j=>by
 rw[p9];exact⟨Int.emod_nonneg _ (by omega),Int.emod_lt_of_pos _ hq⟩
theorem Oi {q:Int} (hq:0<q) (p:List Int) (a:Int):Hv q (iQ q p a):=MV hq _
theorem G7 {q:Int} (hq:1<q):Hv q [1]:=fun j=>by
 cases j with
 |zero=>exact⟨by decide,hq⟩
 |succ j=>simp only[List.getD_cons_succ,List.getD_nil];omega
theorem FJ {q:Int} (hq:0<q): ∀(l p:List Int),Hv q p→Hv q (l.foldl (iQ q) p)
 |[],p,h=>h
 |a::l,p,_=>FJ hq l _ (Oi hq p a)
theorem Gr {q:Int} (hq:1<q) (l:List Int):Hv q (tH q l):=FJ (by omega) l _ (G7 hq)
theorem Er (q:Int) (l:List Int) (a:Int):tH q (l++[a])=iQ q (tH q l) a:=by simp[tH]
theorem FF (q x:Int) (l:List Int) (a:Int):qU q x (l++[a])=qU q x l*((x-a)%q)%q:=by simp[qU]
theorem qh {q:Int} (hq:1<q) (x:Int) (l:List Int):0≤qU q x l∧qU q x l<q:=by
 unfold qU;have: ∀(l:List Int) (s:Int),0≤s∧s<q→0≤l.foldl (fun s a=>s*((x-a)%q)%q) s∧l.foldl (fun s a=>s*((x-a)%q)%q) s<q:=by
  intro l
  induction l with
  |nil=>intro s h;exact h
  |cons a l ih=>intro s _;exact ih _ ⟨Int.emod_nonneg _ (by omega),Int.emod_lt_of_pos _ (by omega)⟩
 exact this l 1 ⟨by decide,hq⟩
theorem It {q a b:Int} (h:Cg q a b):a%q=b%q:=by
 obtain⟨k,hk⟩:=h;rw[show a=b+q*k by omega,Int.add_mul_emod_self_left]
theorem CQ (x y q:Int):(x-y%q)%q=(x-y)%q:=It ((Cg.eR x).sub (Cg.emod q y))
theorem EK (q a:Int) (p:List Int) (j:Nat):(iQ q p a).getD j 0=((0::p).getD j 0-p.getD j 0*a%q)%q:=by
 rw[CQ]
 cases j with
 |zero=>rw[Ej,List.getD_cons_zero];congr 1;grind
 |succ j=>rw[xo,List.getD_cons_succ];congr 1;grind
theorem dJ {α:Type} (d:α) {l:List α} {k:Nat} (h:k<l.length):l.take (k+1)=l.take k++[l.getD k d]:=by
 rw[List.take_succ,List.getElem?_eq_getElem h];simp[List.getD_eq_getElem?_getD,List.getElem?_eq_getElem h]
def eQ (q:Int) (p:List Int) (a:Int) (j:Nat):List Int:=(iQ q p a).take j++(0::p).getD j 0::List.replicate (p.length-j) 0
theorem yk {q a:Int} {p:List Int} {j:Nat} (h:j≤p.length):(eQ q p a j).length=p.length+1:=by
 have:=kF q a p;simp[eQ];omega
theorem EN (q a:Int) (p:List Int):eQ q p a 0=List.replicate (p.length+1) 0:=by
 simp[eQ,List.replicate_succ]
theorem BO {q a:Int} {p:List Int} {j:Nat} (h:j≤p.length):(eQ q p a j).getD j 0=(0::p).getD j 0:=by
 have hl:((iQ q p a).take j).length=j:=by rw[List.length_take,kF];omega
 unfold eQ;rw[List.getD_eq_getElem?_getD,List.getElem?_append_right (by omega),hl,Nat.sub_self];rfl
theorem tx {q a:Int} {p:List Int} {j:Nat} (h:j<p.length):(eQ q p a j).getD (j+1) 0=0:=by
 have hl:((iQ q p a).take j).length=j:=by rw[List.length_take,kF];omega
 unfold eQ;rw[List.getD_eq_getElem?_getD,List.getElem?_append_right (by omega),hl,show j+1-j=1 by omega,List.getElem?_cons_succ,List.getElem?_replicate]
 split<;>rfl
theorem tM {q a:Int} {p:List Int} {j:Nat} (h:j<p.length):((eQ q p a j).set (j+1) (p.getD j 0)).set j ((iQ q p a).getD j 0)=eQ q p a (j+1):=by
 have hm:=kF q a p;have hl:((iQ q p a).take j).length=j:=by rw[List.length_take,hm];omega
 unfold eQ;rw[List.set_append_right _ _ (by omega),List.set_append_right _ _ (by omega),hl,Nat.sub_self,show j+1-j=1 by omega,show p.length-j=(p.length-(j+1))+1 by omega,List.replicate_succ]
 simp only[List.set_cons_succ,List.set_cons_zero];rw[dJ 0 (show j<(iQ q p a).length by omega),List.getD_cons_succ];simp only[List.append_assoc,List.cons_append,List.nil_append]
theorem ya {q a:Int} {p:List Int} (hp:p≠[]) (hq:Hv q p):eQ q p a p.length=iQ q p a:=by
 have hm:=kF q a p;obtain⟨n,hn⟩: ∃n,p.length=n+1:=⟨p.length-1,by have:=List.length_pos_iff.2 hp;omega⟩
 have h1:(iQ q p a).getD (n+1) 0=p.getD n 0:=by
  rw[xo,mN 0 p (n+1) (by omega),Int.mul_zero,Int.add_zero]
  exact Int.emod_eq_of_lt (hq n).1 (hq n).2
 unfold eQ;rw[Nat.sub_self,List.replicate_zero,hn,List.getD_cons_succ,←h1];have e:iQ q p a=(iQ q p a).take (n+1)++[(iQ q p a).getD (n+1) 0]:=by
  conv=>lhs;rw[←List.take_append_drop (n+1) (iQ q p a)]
  congr 1;rw[List.drop_eq_getElem_cons (by omega),List.drop_of_length_le (by omega)]
  simp[List.getD_eq_getElem?_getD,List.getElem?_eq_getElem (show n+1<(iQ q p a).length by omega)]
 exact e.symm
def oW (l:List Int) (i k:Nat):List Int:=(l.take k).eraseIdx i
theorem Qy (l:List Int) (i:Nat):oW l i 0=[]:=by simp[oW]
theorem ML {l:List Int} {i k:Nat} (hk:k<l.length) (h:k≠i):oW l i (k+1)=oW l i k++[l.getD k 0]:=by
 have hl:(l.take k).length=k:=by rw[List.length_take];omega
 unfold oW;rw[dJ 0 hk];rcases Nat.lt_or_gt_of_ne h with g|g
 ·rw[List.eraseIdx_of_length_le (by simp;omega),List.eraseIdx_of_length_le (by omega)]
 ·rw[List.eraseIdx_append_of_lt_length (by omega)]
theorem Ml {l:List Int} {i:Nat} (hk:i<l.length):oW l i (i+1)=oW l i i:=by
 have hl:(l.take i).length=i:=by rw[List.length_take];omega
 unfold oW;have r:(l.take i).eraseIdx i=l.take i:=List.eraseIdx_of_length_le (by omega)
 rw[dJ 0 hk,List.eraseIdx_append_of_length_le (by omega),hl,Nat.sub_self,r]
 simp
theorem J7 (l:List Int) (i:Nat):oW l i l.length=l.eraseIdx i:=by rw[oW,List.take_length]
def dN (q:Int) (P:Nat→List Int) (f:Nat→Int) (n i j:Nat):List Int:=(List.range n).map fun t=>if t<j then r5 q P f t (i+1)else r5 q P f t i
theorem ji (q:Int) (P:Nat→List Int) (f:Nat→Int) (n i j:Nat):(dN q P f n i j).length=n:=by simp[dN]
theorem Ar {q:Int} {P:Nat→List Int} {f:Nat→Int} {n i j:Nat} (h:j<n):(dN q P f n i j).getD j 0=r5 q P f j i:=by
 rw[dN,List.getD_eq_getElem?_getD,List.getElem?_map,List.getElem?_range h];simp
theorem sW {q:Int} {P:Nat→List Int} {f:Nat→Int} {n i j:Nat} (h:j<n):(dN q P f n i j).set j (r5 q P f j (i+1))=dN q P f n i (j+1):=by
 refine List.ext_getElem? fun t=> ?_
 by_cases ht:t<n
 ·by_cases e:j=t
  ·subst e;rw[List.getElem?_set_self (by rw[ji];exact h),dN,List.getElem?_map,List.getElem?_range h];simp
  ·rw[List.getElem?_set_ne e,dN,dN,List.getElem?_map,List.getElem?_map,List.getElem?_range ht];simp only[Option.map_some,Option.some.injEq]
   by_cases g:t<j
   ·rw[if_pos g,if_pos (by omega)]
   ·rw[if_neg g,if_neg (by omega)]
 ·rw[List.getElem?_eq_none (by rw[List.length_set,ji];omega),List.getElem?_eq_none (by rw[ji];omega)]
theorem tE (q:Int) (P:Nat→List Int) (f:Nat→Int) (n i:Nat):dN q P f n i n=dN q P f n (i+1) 0:=by
 unfold dN;refine List.map_congr_left fun t ht=> ?_
 rw[if_pos (List.mem_range.1 ht),if_neg (Nat.not_lt_zero _)]
theorem N7 (q:Int) (P:Nat→List Int) (f:Nat→Int) (n:Nat):dN q P f n 0 0=List.replicate n 0:=by
 unfold dN;refine List.ext_getElem? fun t=> ?_
 by_cases ht:t<n
 ·rw[List.getElem?_map,List.getElem?_range ht,List.getElem?_replicate,if_pos ht];simp[r5]
 ·rw[List.getElem?_eq_none (by simp;omega),List.getElem?_eq_none (by simp;omega)]
theorem FM (q:Int) (l:List Int) (f:Nat→Int):dN q (fun k=>tH q (l.eraseIdx k)) f l.length l.length 0=lj q l f:=by
 unfold dN lj;refine List.map_congr_left fun t ht=> ?_
 rw[if_neg (Nat.not_lt_zero _)]
theorem EA {q x:Int} {p:List Int} {i:Nat} (h:i<p.length):oT q (p.drop i) x=(oT q (p.drop (i+1)) x*x%q+p.getD i 0)%q:=by
 rw[List.drop_eq_getElem_cons h,List.getD_eq_getElem?_getD,List.getElem?_eq_getElem h];rfl
theorem LZ {q a:Nat} (h:Iv q a):Nat.gcd a q=1:=by
 obtain⟨b,k,hk⟩:=h;have h1:((Nat.gcd a q:Nat):Int)∣a:=Int.natCast_dvd_natCast.2 (Nat.gcd_dvd_left a q);have h2:((Nat.gcd a q:Nat):Int)∣q:=Int.natCast_dvd_natCast.2 (Nat.gcd_dvd_right a q);have h3:((Nat.gcd a q:Nat):Int)∣(a:Int)*b-(q:Int)*k:=Int.dvd_sub (Int.dvd_mul_of_dvd_left h1) (Int.dvd_mul_of_dvd_left h2);rw[show(a:Int)*b-(q:Int)*k=1 by omega]at h3
 exact Nat.dvd_one.1 (Int.natCast_dvd_natCast.1 (by simpa using h3))
theorem BI {q:Nat} (hp:cX q=true) {pts:List Nat} (hd:pts.Nodup) (hb: ∀a∈pts,a≤8∧a<q) {i:Nat} (hi:i<pts.length):Nat.gcd (qU q (pts.getD i 0:Nat) ((nI pts).eraseIdx i)).toNat q=1:=by
 have h2:=(jD hp).1;have h1:Hu q (nI pts):=uj hp hd hb;have h3:=h1.iv (i:=i) (by rw[gX];exact hi)
 rw[kD]at h3;have h4:=(Eb h3).cg (D0 q _ _).symm;have h5:=qh (q:=(q:Int)) (by omega) (pts.getD i 0:Nat) ((nI pts).eraseIdx i)
 refine LZ ?_;rw[Int.toNat_of_nonneg h5.1];exact h4
section
variable {α:Type} [DecidableEq α] {st:Bool} {κ:α→PV}
def jK (κ:α→PV) (l:List α):List AV:=l.flatMap fun x=>[.v (κ x), .v (.b true)]
theorem D3 (κ:α→PV):jK κ []=[]:=rfl
theorem yu (hk: ∀a b,fa st (κ a) (κ b)=some (decide (a=b))) (x:α): ∀l:List α,Ec st (κ x) (jK κ l)=True
 |[]=>by simp[jK,Ec,hk]
 |a::l=>by
  have:=yu hk x l;simp only[jK,List.flatMap_cons,List.cons_append,List.nil_append,Ec,hk,Option.isSome_some,true_and]at this⊢;exact this
theorem tU (hk: ∀a b,fa st (κ a) (κ b)=some (decide (a=b))) (x:α): ∀l:List α,j8 st (.b false) (κ x) (jK κ l)= .b (decide (x∈l))
 |[]=>rfl
 |a::l=>by
  have:=tU hk x l;simp only[jK,List.flatMap_cons,List.cons_append,List.nil_append,j8,hk,Option.some.injEq,decide_eq_true_eq]at this⊢
  by_cases e:x=a
  ·subst e;simp
  ·rw[if_neg e,this];simp[e]
theorem sU (hk: ∀a b,fa st (κ a) (κ b)=some (decide (a=b))) {x:α}: ∀{l:List α},x∉l→nN st (κ x) (.b true) (jK κ l)=jK κ (l++[x])
 |[],_=>rfl
 |a::l,h=>by
  simp only[List.mem_cons,not_or]at h;have:=sU hk h.2;simp only[jK,List.flatMap_cons,List.cons_append,List.nil_append,nN,hk,Option.some.injEq,decide_eq_true_eq,if_neg h.1]at this⊢;rw[this]
theorem JZ (κ:α→PV) (l:List α) (n:Nat):(∀y,y∈jK κ l→y.bd n=true)=True:=by
 simp only[eq_iff_iff,iff_true];intro y hy;obtain⟨a,-,hy⟩:=List.mem_flatMap.1 hy;simp only[List.mem_cons,List.not_mem_nil,or_false]at hy;rcases hy with rfl|rfl<;>rfl
end
theorem Eu (a b:Bytes):fa true (.s a) (.s b)=some (decide (a=b)):=by
 by_cases h:a=b<;>simp[fa,h]
theorem Qc (a b:Int):fa false (.i .i64 a) (.i .i64 b)=some (decide (a=b)):=by
 by_cases h:a=b<;>simp[fa,h]
end Go.Dom
namespace Go.Proofs.YtmobkhegihemeaaGreatDoor
open Go Go.Dom Go.Num
set_option maxRecDepth 100000
set_option maxHeartbeats 16000000
theorem kR (l:List Bytes) (hl:l.length<1000000):aA Tryz.prog 72 [.sl (l.map .s)] (.b (l.all aa)):=by
 have l5:(l.map PV.s).length=l.length:=List.length_map ..;refine eW Tryz.call72 Tryz.func72 ?_;repeat' first|simp only[go_sem,seval,l5]|refine sB ?_|(first|apply pX|apply bX)<;>intro hc|refine⟨oD,?_⟩|exact oD|fail
 refine ai (α:=Nat) (fun i=>l.length-i) (fun i=>⟨[(5, .v (.sl (l.map .s))),(6,E' l.length),(7,E' i)],[],_⟩) (fun i=>i≤l.length∧(l.drop i).all aa=l.all aa) 0 (fun _=>Nat.le_refl _) ⟨Nat.zero_le _,rfl⟩ ?_ ?_
 ·exact lE
 ·rintro i ⟨hi,hf⟩ R hR;rw[←hf]
  by_cases hlt:i<l.length
  ·have e1:=eN hlt;have hgo:=hR (i+1);rw[←hf]at hgo;rw[aK [] hlt,List.all_cons]at hgo⊢;generalize l.getD i []=x at*;have hv:=aG x;clear hR hf;generalize aa x=b at*;cases b
   ·repeat' first|simp only[go_sem,seval,l5,e1]|refine cP hv ?_|refine sB ?_|(first|apply pX|apply bX)<;>intro hc|refine⟨oD,?_⟩|exact oD|fail
    all_goals simp
   ·have hgo:=hgo ⟨by omega,by simp⟩ (by omega)
    repeat' first|simp only[go_sem,seval,l5,e1]|refine cP hv ?_|refine sB ?_|(first|apply pX|apply bX)<;>intro hc|refine⟨oD,?_⟩|exact oD|fail
    refine hgo _ ?_;exact lE
  ·obtain rfl:i=l.length:=by omega
   rw[List.drop_length];repeat' first|simp only[go_sem,seval,l5]|refine sB ?_|(first|apply pX|apply bX)<;>intro hc|refine⟨oD,?_⟩|exact oD|fail
   all_goals rfl
theorem jf (l:List Bytes) (hl:l.length<1000000):aA Tryz.prog 26 [.sl (l.map .s)] (.b (l.all aa)):=by
 have l5:(l.map PV.s).length=l.length:=List.length_map ..;refine eW Tryz.call26 Tryz.func26 ?_;repeat' first|simp only[go_sem,seval,l5]|refine sB ?_|(first|apply pX|apply bX)<;>intro hc|refine⟨oD,?_⟩|exact oD|fail
 refine ai (α:=Nat) (fun i=>l.length-i) (fun i=>⟨[(5, .v (.sl (l.map .s))),(6,E' l.length),(7,E' i)],[],_⟩) (fun i=>i≤l.length∧(l.drop i).all aa=l.all aa) 0 (fun _=>Nat.le_refl _) ⟨Nat.zero_le _,rfl⟩ ?_ ?_
 ·exact lE
 ·rintro i ⟨hi,hf⟩ R hR;rw[←hf]
  by_cases hlt:i<l.length
  ·have e1:=eN hlt;have hgo:=hR (i+1);rw[←hf]at hgo;rw[aK [] hlt,List.all_cons]at hgo⊢;generalize l.getD i []=x at*;have hv:=aG x;clear hR hf;generalize aa x=b at*;cases b
   ·repeat' first|simp only[go_sem,seval,l5,e1]|refine cP hv ?_|refine sB ?_|(first|apply pX|apply bX)<;>intro hc|refine⟨oD,?_⟩|exact oD|fail
    all_goals simp
   ·have hgo:=hgo ⟨by omega,by simp⟩ (by omega)
    repeat' first|simp only[go_sem,seval,l5,e1]|refine cP hv ?_|refine sB ?_|(first|apply pX|apply bX)<;>intro hc|refine⟨oD,?_⟩|exact oD|fail
    refine hgo _ ?_;exact lE
  ·obtain rfl:i=l.length:=by omega
   rw[List.drop_length];repeat' first|simp only[go_sem,seval,l5]|refine sB ?_|(first|apply pX|apply bX)<;>intro hc|refine⟨oD,?_⟩|exact oD|fail
   all_goals rfl
theorem EW (vs:List Bytes) (sd:Bytes) (a:Int) (hl:vs.length<1000000):aA Tryz.prog 93 [T vs sd a] (.b (dc vs a)):=by
 have h:=kR vs hl;unfold dc;rw[Ac,Bool.not_not];generalize vs.all aa=b at*;cases b
 ·refine eW Tryz.call93 Tryz.func93 ?_;repeat' first|simp only[go_sem,seval]|refine cP h ?_|refine sB ?_|(first|apply pX|apply bX)<;>intro hc|refine⟨oD,?_⟩|exact oD|fail
  all_goals simp
 ·refine eW Tryz.call93 Tryz.func93 ?_;repeat' first|simp only[go_sem,seval]|refine cP h ?_|refine sB ?_|(first|apply pX|apply bX)<;>intro hc|refine⟨oD,?_⟩|exact oD|fail
  all_goals first|(simp;done)|(simp;omega)|(simp_all;done)|(simp_all;omega)
theorem xS (vs:List Bytes) (sd:Bytes) (a:Int) (hl:vs.length<1000000):aA Tryz.prog 43 [T vs sd a] (.b (dc vs a)):=by
 have h:=Bf sd (a:=a) hl;generalize dc vs a=b at*;cases b
 ·simp only[Bool.false_eq_true,if_false]at h;refine eW Tryz.call43 Tryz.func43 ?_;repeat' first|simp only[go_sem,seval]|refine cP l8 ?_|refine cP h ?_|refine sB ?_|(first|apply pX|apply bX)<;>intro hc|refine⟨oD,?_⟩|exact oD|fail
 ·simp only[if_true]at h;refine eW Tryz.call43 Tryz.func43 ?_;repeat' first|simp only[go_sem,seval]|refine cP l8 ?_|refine cP h ?_|refine sB ?_|(first|apply pX|apply bX)<;>intro hc|refine⟨oD,?_⟩|exact oD|fail
def ux (q:Bytes) (ls:List (List Bytes)):Int:=if !(ls.all fun l=>l.all aa)then 3 else if eT q≠0 then eT q else if cX (num q)then 0 else 12
def LN (l:List Bytes):PV:= .sl (l.map .s)
theorem FW {q:Bytes} (h:eT q=0):aa q=true∧q.length≤8:=by
 unfold eT at h
 split at h
 ·rename_i h1
  split at h
  ·exact⟨h1,by assumption⟩
  ·cases h
 ·cases h
theorem tX (q:Bytes) (ls:List (List Bytes)) (h1:ls.length<1000000) (h2: ∀l∈ls,l.length<1000000):aA Tryz.prog 96 [.s q, .sl (ls.map LN)] (E (ux q ls)):=by
 have hp:=tG q;have l1:(ls.map LN).length=ls.length:=List.length_map ..;refine eW Tryz.call96 Tryz.func96 ?_;repeat' first|simp only[go_sem,seval,l1]|refine sB ?_|(first|apply pX|apply bX)<;>intro hc|refine⟨oD,?_⟩|exact oD|fail
 refine ai (α:=Nat) (fun i=>ls.length-i) (fun i=>⟨[(0, .v (.s q)),(11, .v (.sl (ls.map LN))),(12,E' ls.length),(13,E' i)],[],_⟩) (fun i=>i≤ls.length∧(ls.drop i).all (fun l=>l.all aa)=ls.all (fun l=>l.all aa)) 0 (fun _=>Nat.le_refl _) ⟨Nat.zero_le _,rfl⟩ ?_ ?_
 ·exact lE
 ·rintro i ⟨hi,hf⟩ R hR
  by_cases hlt:i<ls.length
  ·have e1:(ls.map LN).getD i .fn0= .sl ((ls.getD i []).map .s):=getD_map LN ls [] hlt;have hgo:=fun h=>hR (i+1) ⟨by omega,h⟩ (by omega)
   rw[aK [] hlt,List.all_cons]at hf;have hl:=h2 _ (ax [] hlt);generalize ls.getD i []=l at*;clear hR;have l2:(l.map PV.s).length=l.length:=List.length_map ..;repeat' first|simp only[go_sem,seval,l1,l2,e1]|refine sB ?_|(first|apply pX|apply bX)<;>intro hc|refine⟨oD,?_⟩|exact oD|fail
   refine ai (α:=Nat) (fun j=>l.length-j) (fun j=>⟨[(0, .v (.s q)),(11, .v (.sl (ls.map LN))),(12,E' ls.length),(13,E' i),(17, .v (.sl (l.map .s))),(18,E' l.length),(19,E' j)],[],_⟩) (fun j=>j≤l.length∧(l.drop j).all aa=l.all aa) 0 (fun _=>Nat.le_refl _) ⟨Nat.zero_le _,rfl⟩ ?_ ?_
   ·exact lE
   ·rintro j ⟨hj,hk⟩ R' hR'
    by_cases hjl:j<l.length
    ·have e2:=eN hjl;have hgo':=fun h=>hR' (j+1) ⟨by omega,h⟩ (by omega)
     rw[aK [] hjl,List.all_cons]at hk;generalize l.getD j []=x at*;have hv:=aG x;clear hR'
     cases hb:aa x with
     |true=>
      rw[hb,Bool.true_and]at hk;rw[hb]at hv;repeat' first|simp only[go_sem,seval,l2,e2]|refine cP hv ?_|refine sB ?_|(first|apply pX|apply bX)<;>intro hc|refine⟨oD,?_⟩|exact oD|fail
      refine hgo' hk _ ?_;exact lE
     |false=>
      rw[hb,Bool.false_and]at hk;rw[←hk,Bool.false_and]at hf;rw[hb]at hv;unfold ux;rw[←hf];clear hgo hgo' hk hf;repeat' first|simp only[go_sem,seval,l2,e2]|refine cP hv ?_|refine sB ?_|(first|apply pX|apply bX)<;>intro hc|refine⟨oD,?_⟩|exact oD|fail
      all_goals rfl
    ·obtain rfl:j=l.length:=by omega
     rw[List.drop_length]at hk;rw[←hk]at hf;simp only[List.all_nil,Bool.true_and]at hf;repeat' first|simp only[go_sem,seval,l1,l2]|refine sB ?_|(first|apply pX|apply bX)<;>intro hc|refine⟨oD,?_⟩|exact oD|fail
     refine hgo hf _ ?_;exact lE
  ·obtain rfl:i=ls.length:=by omega
   rw[List.drop_length]at hf;unfold ux;rw[←hf];simp only[List.all_nil,Bool.not_true,Bool.false_eq_true,if_false];clear hf hR
   by_cases h0:eT q=0
   ·obtain⟨vq,lq⟩:=FW h0;rw[h0,vq,decide_eq_true lq,Bool.true_and,Bool.true_and]at hp;rw[h0];generalize cX (num q)=b at*;cases b
    ·repeat' first|simp only[go_sem,seval,l1]|refine cP hp ?_|refine sB ?_|(first|apply pX|apply bX)<;>intro hc|refine⟨oD,?_⟩|exact oD|fail
     all_goals rfl
    ·repeat' first|simp only[go_sem,seval,l1]|refine cP hp ?_|refine sB ?_|(first|apply pX|apply bX)<;>intro hc|refine⟨oD,?_⟩|exact oD|fail
     all_goals rfl
   ·rw[if_pos h0];generalize (aa q&&decide (q.length≤8)&&cX (num q))=b at*;generalize eT q=e at*;repeat' first|simp only[go_sem,seval,l1]|refine cP hp ?_|refine sB ?_|(first|apply pX|apply bX)<;>intro hc|refine⟨oD,?_⟩|exact oD|fail
theorem mK {q:Bytes} (vq:aa q=true) {l:List Bytes} (hv: ∀x∈l,aa x=true) (hl:l.length<1000000):aA Tryz.prog 97 [.s q, .sl (l.map .s)] (.b (l.all fun x=>decide (num x<num q))):=by
 have l5:(l.map PV.s).length=l.length:=List.length_map ..;refine eW Tryz.call97 Tryz.func97 ?_;repeat' first|simp only[go_sem,seval,l5]|refine sB ?_|(first|apply pX|apply bX)<;>intro hc|refine⟨oD,?_⟩|exact oD|fail
 refine ai (α:=Nat) (fun i=>l.length-i) (fun i=>⟨[(0, .v (.s q)),(7, .v (.sl (l.map .s))),(8,E' l.length),(9,E' i)],[],_⟩) (fun i=>i≤l.length∧(l.drop i).all (fun x=>decide (num x<num q))=l.all fun x=>decide (num x<num q)) 0 (fun _=>Nat.le_refl _) ⟨Nat.zero_le _,rfl⟩ ?_ ?_
 ·exact lE
 ·rintro i ⟨hi,hf⟩ R hR;rw[←hf]
  by_cases hlt:i<l.length
  ·have e1:=eN hlt;have hgo:=hR (i+1);rw[←hf]at hgo;rw[aK [] hlt,List.all_cons]at hgo⊢;have vx:=hv _ (ax [] hlt);generalize l.getD i []=x at*;have hc:=mc vx vq;have hg:=LH (num x) (num q);clear hR hf hv vx;generalize aO (num x) (num q)=cm at*;generalize decide (num x<num q)=b at*;cases b
   ·repeat' first|simp only[go_sem,seval,l5,e1,hg]|refine cP hc ?_|refine sB ?_|(first|apply pX|apply bX)<;>intro hc|refine⟨oD,?_⟩|exact oD|fail
    all_goals simp
   ·have hgo:=hgo ⟨by omega,by simp⟩ (by omega)
    repeat' first|simp only[go_sem,seval,l5,e1,hg]|refine cP hc ?_|refine sB ?_|(first|apply pX|apply bX)<;>intro hc|refine⟨oD,?_⟩|exact oD|fail
    refine hgo _ ?_;exact lE
  ·obtain rfl:i=l.length:=by omega
   rw[List.drop_length];repeat' first|simp only[go_sem,seval,l5]|refine sB ?_|(first|apply pX|apply bX)<;>intro hc|refine⟨oD,?_⟩|exact oD|fail
   all_goals rfl
theorem Rq:aI 0=[]:=by decide
theorem LY {q:Nat} (h0:0<q) (cs:List Nat) (x:Nat) {k:Nat} (hk:k<cs.length):(oT q ((nI cs).drop k) x).toNat=((oT q ((nI cs).drop (k+1)) x).toNat*x%q+cs.getD k 0)%q:=by
 have hb:=(nY (q:=q) (by omega) x ((nI cs).drop (k+1))).1
 obtain⟨y,hy⟩: ∃y:Nat,oT q ((nI cs).drop (k+1)) x=y:=⟨_,(Int.toNat_of_nonneg hb).symm⟩;rw[EA (by rw[gX];exact hk),hy,kD,Int.toNat_natCast]
 have e:((y:Int)*x%q+((cs.getD k 0:Nat):Int))%q=(((y*x%q+cs.getD k 0)%q:Nat):Int):=by push_cast;rfl
 rw[e,Int.toNat_natCast]
theorem tB {q:Nat} (hq:q<18446744073709551616) (h0:0<q) {cs:List Nat} (hc: ∀c∈cs,c<18446744073709551616) {x:Nat} (hx:x<18446744073709551616) (hl:cs.length<1000000):aA Tryz.prog 98 [N q, .sl (cs.map cd),N x] (N (oT q (nI cs) x).toNat):=by
 have l5:(cs.map cd).length=cs.length:=List.length_map ..;have hw: ∀ _:True,IntKind.i64.wrap ((cs.length:Int)-1)=(cs.length:Int)-1:=fun _=>IntWalk.i64_in _ (by omega)
 refine eW Tryz.call98 Tryz.func98 ?_;repeat' first|simp only[go_sem,seval,l5,hw trivial]|refine sB ?_|(first|apply pX|apply bX)<;>intro hc|refine⟨oD,?_⟩|exact oD|fail
 refine ai (α:=Nat) (fun k=>k) (fun k=>⟨[(0, .v (N q)),(1, .v (.sl (cs.map cd))),(2, .v (N x)),(7, .v (N (oT q ((nI cs).drop k) x).toNat)),(8, .v (.i .i64 ((k:Int)-1)))],[],_⟩) (fun k=>k≤cs.length) cs.length (fun _=>Nat.le_refl _) (Nat.le_refl _) ?_ ?_
 ·have e:(nI cs).drop cs.length=[]:=List.drop_of_length_le (by rw[gX];exact Nat.le_refl _)
  have e2:N (oT q ((nI cs).drop cs.length) x).toNat= .s []:=by rw[e];exact congrArg PV.s Rq
  rw[e2];exact lE
 ·intro k hk R hR
  cases k with
  |zero=>
   rw[List.drop_zero];repeat' first|simp only[go_sem,seval]|refine sB ?_|(first|apply pX|apply bX)<;>intro hc|refine⟨oD,?_⟩|exact oD|fail
  |succ k=>
   have hgo:=hR k (by omega) (by omega)
   rw[LY h0 cs x (by omega)]at hgo
   have hb:=nY (q:=q) (by omega) x ((nI cs).drop (k+1))
   have e1: ∀ _:True,((k+1:Nat):Int)-1=(k:Int):=fun _=>by omega
   have hge: ∀ _:True,decide ((k:Int)≥0)=true:=fun _=>by simp
   have hwk: ∀ _:True,IntKind.i64.wrap ((k:Int)-1)=(k:Int)-1:=fun _=>IntWalk.i64_in _ (by omega)
   have e2:=oe cs (i:=k) (by omega)
   have hck:=hc _ (ax 0 (show k<cs.length by omega))
   obtain⟨y,hy⟩: ∃y,y=(oT q ((nI cs).drop (k+1)) x).toNat:=⟨_,rfl⟩;rw[←hy]at hgo⊢;have hyq:y<q:=by omega
   generalize cs.getD k 0=c at*;have m1:=j9 (a:=y) (b:=x) (m:=q) (by omega) hx hq h0
   have m2:=td (a:=y*x%q) (b:=c) (m:=q) (by have:=Nat.mod_lt (y*x) h0;omega) hck hq h0
   clear hR hy hb hc;repeat' first|simp only[go_sem,seval,e1 trivial,hge trivial,hwk trivial,l5,e2]|refine cP m1 ?_|refine cP m2 ?_|refine sB ?_|(first|apply pX|apply bX)<;>intro hc|refine⟨oD,?_⟩|exact oD|fail
   refine hgo _ ?_;exact lE
theorem C3 {l:List Bytes} (hd:l.Nodup) (hl:l.length<1000000):aA Tryz.prog 217 [.sl (l.map .s)] (.b false):=by
 have l5:(l.map PV.s).length=l.length:=List.length_map ..;refine eW Tryz.call217 Tryz.func217 ?_;repeat' first|simp only[go_sem,seval,l5]|refine sB ?_|(first|apply pX|apply bX)<;>intro hc|refine⟨oD,?_⟩|exact oD|fail
 refine ai (α:=Nat) (fun i=>l.length-i) (fun i=>⟨[(3, .mp 1001),(7, .v (.sl (l.map .s))),(8,E' l.length),(9,E' i)],[(1001,⟨0,jK PV.s (l.take i),false,none⟩)],_⟩) (fun i=>i≤l.length) 0 (fun _=>Nat.le_refl _) (Nat.zero_le _) ?_ ?_
 ·rw[List.take_zero,D3];exact lE
 ·intro i hi R hR
  by_cases hlt:i<l.length
  ·have e1:=eN hlt;have hgo:=hR (i+1) (by omega) (by omega)
   rw[dJ [] hlt]at hgo;have hnm:l.getD i []∉l.take i:=fun hm=>by
    obtain⟨j,hj,he⟩:=List.mem_take_iff_getElem.1 hm;exact(List.pairwise_iff_getElem.1 hd) j i (by omega) hlt (by omega) (he.trans (by simp[List.getD_eq_getElem?_getD,hlt]))
   generalize l.getD i []=x at*;generalize l.take i=p at*;have m1:=yu Eu x p;have m2:j8 true (.b false) (.s x) (jK PV.s p)= .b false:=by rw[tU Eu];simp[hnm]
   have m3:=sU Eu hnm;clear hR;repeat' first|simp only[go_sem,seval,l5,e1,m1,m2,m3]|refine sB ?_|(first|apply pX|apply bX)<;>intro hc|refine⟨oD,?_⟩|exact oD|fail
   refine hgo _ ?_
   (refine AS.Le.of (by first|decide|omega) ?_ ?_<;>simp[bz,bA,aD,ak,AV.bd,AV.bd.bdL,u8,af,ah,aj])
   exact fun c hc=>(JZ PV.s (p++[x]) _).mpr trivial c hc
  ·obtain rfl:i=l.length:=by omega
   repeat' first|simp only[go_sem,seval,l5]|refine sB ?_|(first|apply pX|apply bX)<;>intro hc|refine⟨oD,?_⟩|exact oD|fail
theorem GO (l:List Nat):l.map cd=(l.map aI).map PV.s:=by rw[List.map_map];rfl
theorem lH {q:Nat} (hq:q<18446744073709551616):eT (aI q)=0:=by
 unfold eT;rw[vN hq,if_pos rfl,if_pos (ju.2 hq)]
theorem NA {q:Nat} (hq:q<18446744073709551616) (hp:cX q=true) {ls:List (List Bytes)} (h: ∀l∈ls,∀x∈l,aa x=true):ux (aI q) ls=0:=by
 have h1:(ls.all fun l=>l.all aa)=true:=by
  rw[List.all_eq_true];intro l hl;rw[List.all_eq_true];exact h l hl
 unfold ux;rw[h1,lH hq,aE,hp];rfl
theorem EV {q:Nat} {l:List Nat} (h: ∀x∈l,x<q):((l.map aI).all fun x=>decide (num x<num (aI q)))=true:=by
 rw[List.all_eq_true];intro x hx;obtain⟨n,hn,rfl⟩:=List.mem_map.1 hx;rw[aE,aE];exact decide_eq_true (h n hn)
theorem yT {q:Nat} (hq:q<18446744073709551616) (hp:cX q=true) {xs ys:List Nat} {x:Nat} (hl:ys.length=xs.length) (h256:xs.length≤256) (hx: ∀a∈xs,a<q) (hy: ∀a∈ys,a<q) (ha:x<q) (hd:xs.Nodup):
  aA Tryz.prog 138 [N q, .sl (xs.map cd), .sl (ys.map cd),N x] (E 0):=by
 have vl: ∀{l:List Nat},(∀a∈l,a<q)→ ∀b∈l.map aI,aa b=true:=fun{l} h b hb=>by
  obtain⟨n,hn,rfl⟩:=List.mem_map.1 hb;exact vN (by have:=h n hn;omega)
 have h1:=tX (aI q) [xs.map aI,ys.map aI,[aI x]] (by simp) (by simp;omega)
 rw[NA hq hp (by
  intro l hl b hb;simp only[List.mem_cons,List.not_mem_nil,or_false]at hl;rcases hl with rfl|rfl|rfl
  ·exact vl hx b hb
  ·exact vl hy b hb
  ·exact vl (l:=[x]) (by simpa using ha) b (by simpa using hb))]at h1
 simp only[List.map_cons,List.map_nil,LN]at h1;rw[←GO,←GO]at h1;have h2:=mK (q:=aI q) (vN hq) (vl hx) (by simp;omega)
 rw[EV hx,←GO]at h2;have h3:=mK (q:=aI q) (vN hq) (vl hy) (by simp;omega)
 rw[EV hy,←GO]at h3;have h4:=mK (q:=aI q) (vN hq) (l:=[aI x]) (vl (l:=[x]) (by simpa using ha)) (by simp)
 rw[show([aI x].all fun y=>decide (num y<num (aI q)))=true from EV (l:=[x]) (by simpa using ha)]at h4
 have h5:=C3 (l:=xs.map aI) (hd.map aI fun a b h e=>h (by rw[←aE a,e,aE])) (by simp;omega)
 rw[←GO]at h5;have l1:(xs.map cd).length=xs.length:=List.length_map ..;have l2:(ys.map cd).length=xs.length:=by rw[List.length_map];exact hl
 simp only[List.map_cons,List.map_nil]at h4;refine eW Tryz.call138 Tryz.func138 ?_;repeat' first|simp only[go_sem,seval,l1,l2]|refine cP h1 ?_|refine cP h2 ?_|refine cP h3 ?_|refine cP h4 ?_|refine cP h5 ?_|refine sB ?_|(first|apply pX|apply bX)<;>intro hc|refine⟨oD,?_⟩|exact oD|fail
end Go.Proofs.YtmobkhegihemeaaGreatDoor
