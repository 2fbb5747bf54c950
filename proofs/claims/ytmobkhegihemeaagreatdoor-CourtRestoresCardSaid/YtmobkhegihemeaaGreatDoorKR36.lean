/-
  Part of the proof, part KR36. Own work.
-/
import Derived.Test.YtmobkhegihemeaaGreatDoorKR35
set_option linter.all false
namespace Go.Dom
open Go.RowKit Go.Num
def nI (l:List Nat):List Int:=l.map fun a:Nat=>(a:Int)
def tN (l:List Int):List Nat:=l.map Int.toNat
theorem gX (l:List Nat):(nI l).length=l.length:=List.length_map ..
theorem iT (l:List Int):(tN l).length=l.length:=List.length_map ..
theorem iM: ∀(l:List Int) (j:Nat),(tN l).getD j 0=(l.getD j 0).toNat
 |[],j=>rfl
 |a::l,0=>rfl
 |a::l,j+1=>by simp only[tN,List.map_cons,List.getD_cons_succ];exact iM l j
theorem kx: ∀(l:List Nat) (j:Nat),(nI l).getD j 0=(l.getD j 0:Nat)
 |[],j=>rfl
 |a::l,0=>rfl
 |a::l,j+1=>by simp only[nI,List.map_cons,List.getD_cons_succ];exact kx l j
def G3 (q:Int) (l:List Int):Prop:= ∀j,0≤l.getD j 0∧l.getD j 0<q
theorem Mr {q:Int} (hq:0<q) (p:List Int):G3 q (NT q p):=fun j=>by
 rw[qt];exact⟨Int.emod_nonneg _ (by omega),Int.emod_lt_of_pos _ hq⟩
theorem Mv {q:Int} (hq:0<q) (p:List Int) (a:Int):G3 q (iR q p a):=Mr hq _
theorem FX {q:Int} (hq:1<q):G3 q [1]:=fun j=>by
 cases j with
 |zero=>exact⟨by decide,hq⟩
 |succ j=>simp only[List.getD_cons_succ,List.getD_nil];omega
theorem Fy {q:Int} (hq:0<q): ∀(l p:List Int),G3 q p→G3 q (l.foldl (iR q) p)
 |[],p,h=>h
 |a::l,p,_=>Fy hq l _ (Mv hq p a)
theorem Fz {q:Int} (hq:1<q) (l:List Int):G3 q (sM q l):=Fy (by omega) l _ (FX hq)
theorem FA (q:Int) (l:List Int) (a:Int):sM q (l++[a])=iR q (sM q l) a:=by simp[sM]
theorem Gs (q x:Int) (l:List Int) (a:Int):qR q x (l++[a])=qR q x l*((x-a)%q)%q:=by simp[qR]
theorem qS {q:Int} (hq:1<q) (x:Int) (l:List Int):0≤qR q x l∧qR q x l<q:=by
 unfold qR;have: ∀(l:List Int) (s:Int),0≤s∧s<q→0≤l.foldl (fun s a=>s*((x-a)%q)%q) s∧l.foldl (fun s a=>s*((x-a)%q)%q) s<q:=by
  intro l
  induction l with
  |nil=>intro s h;exact h
  |cons a l ih=>intro s _;exact ih _ ⟨Int.emod_nonneg _ (by omega),Int.emod_lt_of_pos _ (by omega)⟩
 exact this l 1 ⟨by decide,hq⟩
theorem HZ {q a b:Int} (h:Cg q a b):a%q=b%q:=by
 obtain⟨k,hk⟩:=h;rw[show a=b+q*k by omega,Int.add_mul_emod_self_left]
theorem C7 (x y q:Int):(x-y%q)%q=(x-y)%q:=HZ ((Cg.eD x).sub (Cg.emod q y))
theorem FD (q a:Int) (p:List Int) (j:Nat):(iR q p a).getD j 0=((0::p).getD j 0-p.getD j 0*a%q)%q:=by
 rw[C7]
 cases j with
 |zero=>rw[FB,List.getD_cons_zero];congr 1;grind
 |succ j=>rw[wV,List.getD_cons_succ];congr 1;grind
theorem cv {α:Type} (d:α) {l:List α} {k:Nat} (h:k<l.length):l.take (k+1)=l.take k++[l.getD k d]:=by
 rw[List.take_succ,List.getElem?_eq_getElem h];simp[List.getD_eq_getElem?_getD,List.getElem?_eq_getElem h]
def eE (q:Int) (p:List Int) (a:Int) (j:Nat):List Int:=(iR q p a).take j++(0::p).getD j 0::List.replicate (p.length-j) 0
theorem xu {q a:Int} {p:List Int} {j:Nat} (h:j≤p.length):(eE q p a j).length=p.length+1:=by
 have:=ku q a p;simp[eE];omega
theorem Gi (q a:Int) (p:List Int):eE q p a 0=List.replicate (p.length+1) 0:=by
 simp[eE,List.replicate_succ]
theorem Bi {q a:Int} {p:List Int} {j:Nat} (h:j≤p.length):(eE q p a j).getD j 0=(0::p).getD j 0:=by
 have hl:((iR q p a).take j).length=j:=by rw[List.length_take,ku];omega
 unfold eE;rw[List.getD_eq_getElem?_getD,List.getElem?_append_right (by omega),hl,Nat.sub_self];rfl
theorem sU {q a:Int} {p:List Int} {j:Nat} (h:j<p.length):(eE q p a j).getD (j+1) 0=0:=by
 have hl:((iR q p a).take j).length=j:=by rw[List.length_take,ku];omega
 unfold eE;rw[List.getD_eq_getElem?_getD,List.getElem?_append_right (by omega),hl,show j+1-j=1 by omega,List.getElem?_cons_succ,List.getElem?_replicate]
 split<;>rfl
theorem sV {q a:Int} {p:List Int} {j:Nat} (h:j<p.length):((eE q p a j).set (j+1) (p.getD j 0)).set j ((iR q p a).getD j 0)=eE q p a (j+1):=by
 have hm:=ku q a p;have hl:((iR q p a).take j).length=j:=by rw[List.length_take,hm];omega
 unfold eE;rw[List.set_append_right _ _ (by omega),List.set_append_right _ _ (by omega),hl,Nat.sub_self,show j+1-j=1 by omega,show p.length-j=(p.length-(j+1))+1 by omega,List.replicate_succ]
 simp only[List.set_cons_succ,List.set_cons_zero];rw[cv 0 (show j<(iR q p a).length by omega),List.getD_cons_succ];simp only[List.append_assoc,List.cons_append,List.nil_append]
theorem xt {q a:Int} {p:List Int} (hp:p≠[]) (hq:G3 q p):eE q p a p.length=iR q p a:=by
 have hm:=ku q a p;obtain⟨n,hn⟩: ∃n,p.length=n+1:=⟨p.length-1,by have:=List.length_pos_iff.2 hp;omega⟩
 have h1:(iR q p a).getD (n+1) 0=p.getD n 0:=by
  rw[wV,mc 0 p (n+1) (by omega),Int.mul_zero,Int.add_zero]
  exact Int.emod_eq_of_lt (hq n).1 (hq n).2
 unfold eE;rw[Nat.sub_self,List.replicate_zero,hn,List.getD_cons_succ,←h1];have e:iR q p a=(iR q p a).take (n+1)++[(iR q p a).getD (n+1) 0]:=by
  conv=>lhs;rw[←List.take_append_drop (n+1) (iR q p a)]
  congr 1;rw[List.drop_eq_getElem_cons (by omega),List.drop_of_length_le (by omega)]
  simp[List.getD_eq_getElem?_getD,List.getElem?_eq_getElem (show n+1<(iR q p a).length by omega)]
 exact e.symm
def oB (l:List Int) (i k:Nat):List Int:=(l.take k).eraseIdx i
theorem OG (l:List Int) (i:Nat):oB l i 0=[]:=by simp[oB]
theorem L6 {l:List Int} {i k:Nat} (hk:k<l.length) (h:k≠i):oB l i (k+1)=oB l i k++[l.getD k 0]:=by
 have hl:(l.take k).length=k:=by rw[List.length_take];omega
 unfold oB;rw[cv 0 hk];rcases Nat.lt_or_gt_of_ne h with g|g
 ·rw[List.eraseIdx_of_length_le (by simp;omega),List.eraseIdx_of_length_le (by omega)]
 ·rw[List.eraseIdx_append_of_lt_length (by omega)]
theorem L5 {l:List Int} {i:Nat} (hk:i<l.length):oB l i (i+1)=oB l i i:=by
 have hl:(l.take i).length=i:=by rw[List.length_take];omega
 unfold oB;have r:(l.take i).eraseIdx i=l.take i:=List.eraseIdx_of_length_le (by omega)
 rw[cv 0 hk,List.eraseIdx_append_of_length_le (by omega),hl,Nat.sub_self,r]
 simp
theorem Iq (l:List Int) (i:Nat):oB l i l.length=l.eraseIdx i:=by rw[oB,List.take_length]
def dM (q:Int) (P:Nat→List Int) (f:Nat→Int) (n i j:Nat):List Int:=(List.range n).map fun t=>if t<j then rH q P f t (i+1)else rH q P f t i
theorem jf (q:Int) (P:Nat→List Int) (f:Nat→Int) (n i j:Nat):(dM q P f n i j).length=n:=by simp[dM]
theorem A9 {q:Int} {P:Nat→List Int} {f:Nat→Int} {n i j:Nat} (h:j<n):(dM q P f n i j).getD j 0=rH q P f j i:=by
 rw[dM,List.getD_eq_getElem?_getD,List.getElem?_map,List.getElem?_range h];simp
theorem sR {q:Int} {P:Nat→List Int} {f:Nat→Int} {n i j:Nat} (h:j<n):(dM q P f n i j).set j (rH q P f j (i+1))=dM q P f n i (j+1):=by
 refine List.ext_getElem? fun t=> ?_
 by_cases ht:t<n
 ·by_cases e:j=t
  ·subst e;rw[List.getElem?_set_self (by rw[jf];exact h),dM,List.getElem?_map,List.getElem?_range h];simp
  ·rw[List.getElem?_set_ne e,dM,dM,List.getElem?_map,List.getElem?_map,List.getElem?_range ht];simp only[Option.map_some,Option.some.injEq]
   by_cases g:t<j
   ·rw[if_pos g,if_pos (by omega)]
   ·rw[if_neg g,if_neg (by omega)]
 ·rw[List.getElem?_eq_none (by rw[List.length_set,jf];omega),List.getElem?_eq_none (by rw[jf];omega)]
theorem sQ (q:Int) (P:Nat→List Int) (f:Nat→Int) (n i:Nat):dM q P f n i n=dM q P f n (i+1) 0:=by
 unfold dM;refine List.map_congr_left fun t ht=> ?_
 rw[if_pos (List.mem_range.1 ht),if_neg (Nat.not_lt_zero _)]
theorem MY (q:Int) (P:Nat→List Int) (f:Nat→Int) (n:Nat):dM q P f n 0 0=List.replicate n 0:=by
 unfold dM;refine List.ext_getElem? fun t=> ?_
 by_cases ht:t<n
 ·rw[List.getElem?_map,List.getElem?_range ht,List.getElem?_replicate,if_pos ht];simp[rH]
 ·rw[List.getElem?_eq_none (by simp;omega),List.getElem?_eq_none (by simp;omega)]
theorem FZ (q:Int) (l:List Int) (f:Nat→Int):dM q (fun k=>sM q (l.eraseIdx k)) f l.length l.length 0=lk q l f:=by
 unfold dM lk;refine List.map_congr_left fun t ht=> ?_
 rw[if_neg (Nat.not_lt_zero _)]
theorem EU {q x:Int} {p:List Int} {i:Nat} (h:i<p.length):oE q (p.drop i) x=(oE q (p.drop (i+1)) x*x%q+p.getD i 0)%q:=by
 rw[List.drop_eq_getElem_cons h,List.getD_eq_getElem?_getD,List.getElem?_eq_getElem h];rfl
theorem Me {q a:Nat} (h:Iv q a):Nat.gcd a q=1:=by
 obtain⟨b,k,hk⟩:=h;have h1:((Nat.gcd a q:Nat):Int)∣a:=Int.natCast_dvd_natCast.2 (Nat.gcd_dvd_left a q);have h2:((Nat.gcd a q:Nat):Int)∣q:=Int.natCast_dvd_natCast.2 (Nat.gcd_dvd_right a q);have h3:((Nat.gcd a q:Nat):Int)∣(a:Int)*b-(q:Int)*k:=Int.dvd_sub (Int.dvd_mul_of_dvd_left h1) (Int.dvd_mul_of_dvd_left h2);rw[show(a:Int)*b-(q:Int)*k=1 by omega]at h3
 exact Nat.dvd_one.1 (Int.natCast_dvd_natCast.1 (by simpa using h3))
theorem Bp {q:Nat} (hp:cT q=true) {pts:List Nat} (hd:pts.Nodup) (hb: ∀a∈pts,a≤8∧a<q) {i:Nat} (hi:i<pts.length):Nat.gcd (qR q (pts.getD i 0:Nat) ((nI pts).eraseIdx i)).toNat q=1:=by
 have h2:=(jt hp).1;have h1:G4 q (nI pts):=tZ hp hd hb;have h3:=h1.iv (i:=i) (by rw[gX];exact hi)
 rw[kx]at h3;have h4:=(F6 h3).cg (Gr q _ _).symm;have h5:=qS (q:=(q:Int)) (by omega) (pts.getD i 0:Nat) ((nI pts).eraseIdx i)
 refine Me ?_;rw[Int.toNat_of_nonneg h5.1];exact h4
section
variable {α:Type} [DecidableEq α] {st:Bool} {κ:α→PV}
def gn (κ:α→PV) (l:List α):List AV:=l.flatMap fun x=>[.v (κ x), .v (.b true)]
theorem xG (κ:α→PV):gn κ []=[]:=rfl
theorem ml (hk: ∀a b,dY st (κ a) (κ b)=some (decide (a=b))) (x:α): ∀l:List α,Fv st (κ x) (gn κ l)=True
 |[]=>by simp[gn,Fv,hk]
 |a::l=>by
  have:=ml hk x l;simp only[gn,List.flatMap_cons,List.cons_append,List.nil_append,Fv,hk,Option.isSome_some,true_and]at this⊢;exact this
theorem nJ (hk: ∀a b,dY st (κ a) (κ b)=some (decide (a=b))) (x:α): ∀l:List α,ju st (.b false) (κ x) (gn κ l)= .b (decide (x∈l))
 |[]=>rfl
 |a::l=>by
  have:=nJ hk x l;simp only[gn,List.flatMap_cons,List.cons_append,List.nil_append,ju,hk,Option.some.injEq,decide_eq_true_eq]at this⊢
  by_cases e:x=a
  ·subst e;simp
  ·rw[if_neg e,this];simp[e]
theorem kq (hk: ∀a b,dY st (κ a) (κ b)=some (decide (a=b))) {x:α}: ∀{l:List α},x∉l→nG st (κ x) (.b true) (gn κ l)=gn κ (l++[x])
 |[],_=>rfl
 |a::l,h=>by
  simp only[List.mem_cons,not_or]at h;have:=kq hk h.2;simp only[gn,List.flatMap_cons,List.cons_append,List.nil_append,nG,hk,Option.some.injEq,decide_eq_true_eq,if_neg h.1]at this⊢;rw[this]
theorem uR (κ:α→PV) (l:List α) (n:Nat):(∀y,y∈gn κ l→y.bd n=true)=True:=by
 simp only[eq_iff_iff,iff_true];intro y hy;obtain⟨a,-,hy⟩:=List.mem_flatMap.1 hy;simp only[List.mem_cons,List.not_mem_nil,or_false]at hy;rcases hy with rfl|rfl<;>rfl
end
theorem Fb (a b:Bytes):dY true (.s a) (.s b)=some (decide (a=b)):=by
 by_cases h:a=b<;>simp[dY,h]
theorem Kz (a b:Int):dY false (.i .i64 a) (.i .i64 b)=some (decide (a=b)):=by
 by_cases h:a=b<;>simp[dY,h]
end Go.Dom
namespace Go.Proofs.YtmobkhegihemeaaGreatDoor
open Go Go.Dom Go.Num
set_option maxRecDepth 100000
set_option maxHeartbeats 16000000
theorem lh (l:List Bytes) (hl:l.length<1000000):aB Tryz.prog 72 [.sl (l.map .s)] (.b (l.all aa)):=by
 have l5:(l.map PV.s).length=l.length:=List.length_map ..;refine eW Tryz.call72 Tryz.func72 ?_;repeat' first|simp only[go_sem,seval,l5]|refine sB ?_|(first|apply pX|apply bX)<;>intro hc|refine⟨oD,?_⟩|exact oD|fail
 refine aj (α:=Nat) (fun i=>l.length-i) (fun i=>⟨[(5, .v (.sl (l.map .s))),(6,E' l.length),(7,E' i)],[],_⟩) (fun i=>i≤l.length∧(l.drop i).all aa=l.all aa) 0 (fun _=>Nat.le_refl _) ⟨Nat.zero_le _,rfl⟩ ?_ ?_
 ·exact lE
 ·rintro i ⟨hi,hf⟩ R hR;rw[←hf]
  by_cases hlt:i<l.length
  ·have e1:=eg hlt;have hgo:=hR (i+1);rw[←hf]at hgo;rw[aJ [] hlt,List.all_cons]at hgo⊢;generalize l.getD i []=x at*;have hv:=aF x;clear hR hf;generalize aa x=b at*;cases b
   ·repeat' first|simp only[go_sem,seval,l5,e1]|refine cP hv ?_|refine sB ?_|(first|apply pX|apply bX)<;>intro hc|refine⟨oD,?_⟩|exact oD|fail
    all_goals simp
   ·have hgo:=hgo ⟨by omega,by simp⟩ (by omega)
    repeat' first|simp only[go_sem,seval,l5,e1]|refine cP hv ?_|refine sB ?_|(first|apply pX|apply bX)<;>intro hc|refine⟨oD,?_⟩|exact oD|fail
    refine hgo _ ?_;exact lE
  ·obtain rfl:i=l.length:=by omega
   rw[List.drop_length];repeat' first|simp only[go_sem,seval,l5]|refine sB ?_|(first|apply pX|apply bX)<;>intro hc|refine⟨oD,?_⟩|exact oD|fail
   all_goals rfl
theorem iZ (l:List Bytes) (hl:l.length<1000000):aB Tryz.prog 26 [.sl (l.map .s)] (.b (l.all aa)):=by
 have l5:(l.map PV.s).length=l.length:=List.length_map ..;refine eW Tryz.call26 Tryz.func26 ?_;repeat' first|simp only[go_sem,seval,l5]|refine sB ?_|(first|apply pX|apply bX)<;>intro hc|refine⟨oD,?_⟩|exact oD|fail
 refine aj (α:=Nat) (fun i=>l.length-i) (fun i=>⟨[(5, .v (.sl (l.map .s))),(6,E' l.length),(7,E' i)],[],_⟩) (fun i=>i≤l.length∧(l.drop i).all aa=l.all aa) 0 (fun _=>Nat.le_refl _) ⟨Nat.zero_le _,rfl⟩ ?_ ?_
 ·exact lE
 ·rintro i ⟨hi,hf⟩ R hR;rw[←hf]
  by_cases hlt:i<l.length
  ·have e1:=eg hlt;have hgo:=hR (i+1);rw[←hf]at hgo;rw[aJ [] hlt,List.all_cons]at hgo⊢;generalize l.getD i []=x at*;have hv:=aF x;clear hR hf;generalize aa x=b at*;cases b
   ·repeat' first|simp only[go_sem,seval,l5,e1]|refine cP hv ?_|refine sB ?_|(first|apply pX|apply bX)<;>intro hc|refine⟨oD,?_⟩|exact oD|fail
    all_goals simp
   ·have hgo:=hgo ⟨by omega,by simp⟩ (by omega)
    repeat' first|simp only[go_sem,seval,l5,e1]|refine cP hv ?_|refine sB ?_|(first|apply pX|apply bX)<;>intro hc|refine⟨oD,?_⟩|exact oD|fail
    refine hgo _ ?_;exact lE
  ·obtain rfl:i=l.length:=by omega
   rw[List.drop_length];repeat' first|simp only[go_sem,seval,l5]|refine sB ?_|(first|apply pX|apply bX)<;>intro hc|refine⟨oD,?_⟩|exact oD|fail
   all_goals rfl
theorem Gu (vs:List Bytes) (sd:Bytes) (a:Int) (hl:vs.length<1000000):aB Tryz.prog 93 [T vs sd a] (.b (bm vs a)):=by
 have h:=lh vs hl;unfold bm;rw[tx,Bool.not_not];generalize vs.all aa=b at*;cases b
 ·refine eW Tryz.call93 Tryz.func93 ?_;repeat' first|simp only[go_sem,seval]|refine cP h ?_|refine sB ?_|(first|apply pX|apply bX)<;>intro hc|refine⟨oD,?_⟩|exact oD|fail
  all_goals simp
 ·refine eW Tryz.call93 Tryz.func93 ?_;repeat' first|simp only[go_sem,seval]|refine cP h ?_|refine sB ?_|(first|apply pX|apply bX)<;>intro hc|refine⟨oD,?_⟩|exact oD|fail
  all_goals first|(simp;done)|(simp;omega)|(simp_all;done)|(simp_all;omega)
theorem we (vs:List Bytes) (sd:Bytes) (a:Int) (hl:vs.length<1000000):aB Tryz.prog 43 [T vs sd a] (.b (bm vs a)):=by
 have h:=z8 sd (a:=a) hl;generalize bm vs a=b at*;cases b
 ·simp only[Bool.false_eq_true,if_false]at h;refine eW Tryz.call43 Tryz.func43 ?_;repeat' first|simp only[go_sem,seval]|refine cP lH ?_|refine cP h ?_|refine sB ?_|(first|apply pX|apply bX)<;>intro hc|refine⟨oD,?_⟩|exact oD|fail
 ·simp only[if_true]at h;refine eW Tryz.call43 Tryz.func43 ?_;repeat' first|simp only[go_sem,seval]|refine cP lH ?_|refine cP h ?_|refine sB ?_|(first|apply pX|apply bX)<;>intro hc|refine⟨oD,?_⟩|exact oD|fail
def tJ (q:Bytes) (ls:List (List Bytes)):Int:=if !(ls.all fun l=>l.all aa)then 3 else if eC q≠0 then eC q else if cT (num q)then 0 else 12
def LN (l:List Bytes):PV:= .sl (l.map .s)
theorem F9 {q:Bytes} (h:eC q=0):aa q=true∧q.length≤8:=by
 unfold eC at h
 split at h
 ·rename_i h1
  split at h
  ·exact⟨h1,by assumption⟩
  ·cases h
 ·cases h
theorem uP (q:Bytes) (ls:List (List Bytes)) (h1:ls.length<1000000) (h2: ∀l∈ls,l.length<1000000):aB Tryz.prog 96 [.s q, .sl (ls.map LN)] (E (tJ q ls)):=by
 have hp:=sS q;have l1:(ls.map LN).length=ls.length:=List.length_map ..;refine eW Tryz.call96 Tryz.func96 ?_;repeat' first|simp only[go_sem,seval,l1]|refine sB ?_|(first|apply pX|apply bX)<;>intro hc|refine⟨oD,?_⟩|exact oD|fail
 refine aj (α:=Nat) (fun i=>ls.length-i) (fun i=>⟨[(0, .v (.s q)),(11, .v (.sl (ls.map LN))),(12,E' ls.length),(13,E' i)],[],_⟩) (fun i=>i≤ls.length∧(ls.drop i).all (fun l=>l.all aa)=ls.all (fun l=>l.all aa)) 0 (fun _=>Nat.le_refl _) ⟨Nat.zero_le _,rfl⟩ ?_ ?_
 ·exact lE
 ·rintro i ⟨hi,hf⟩ R hR
  by_cases hlt:i<ls.length
  ·have e1:(ls.map LN).getD i .fn0= .sl ((ls.getD i []).map .s):=getD_map LN ls [] hlt;have hgo:=fun h=>hR (i+1) ⟨by omega,h⟩ (by omega)
   rw[aJ [] hlt,List.all_cons]at hf;have hl:=h2 _ (au [] hlt);generalize ls.getD i []=l at*;clear hR;have l2:(l.map PV.s).length=l.length:=List.length_map ..;repeat' first|simp only[go_sem,seval,l1,l2,e1]|refine sB ?_|(first|apply pX|apply bX)<;>intro hc|refine⟨oD,?_⟩|exact oD|fail
   refine aj (α:=Nat) (fun j=>l.length-j) (fun j=>⟨[(0, .v (.s q)),(11, .v (.sl (ls.map LN))),(12,E' ls.length),(13,E' i),(17, .v (.sl (l.map .s))),(18,E' l.length),(19,E' j)],[],_⟩) (fun j=>j≤l.length∧(l.drop j).all aa=l.all aa) 0 (fun _=>Nat.le_refl _) ⟨Nat.zero_le _,rfl⟩ ?_ ?_
   ·exact lE
   ·rintro j ⟨hj,hk⟩ R' hR'
    by_cases hjl:j<l.length
    ·have e2:=eg hjl;have hgo':=fun h=>hR' (j+1) ⟨by omega,h⟩ (by omega)
     rw[aJ [] hjl,List.all_cons]at hk;generalize l.getD j []=x at*;have hv:=aF x;clear hR'
     cases hb:aa x with
     |true=>
      rw[hb,Bool.true_and]at hk;rw[hb]at hv;repeat' first|simp only[go_sem,seval,l2,e2]|refine cP hv ?_|refine sB ?_|(first|apply pX|apply bX)<;>intro hc|refine⟨oD,?_⟩|exact oD|fail
      refine hgo' hk _ ?_;exact lE
     |false=>
      rw[hb,Bool.false_and]at hk;rw[←hk,Bool.false_and]at hf;rw[hb]at hv;unfold tJ;rw[←hf];clear hgo hgo' hk hf;repeat' first|simp only[go_sem,seval,l2,e2]|refine cP hv ?_|refine sB ?_|(first|apply pX|apply bX)<;>intro hc|refine⟨oD,?_⟩|exact oD|fail
      all_goals rfl
    ·obtain rfl:j=l.length:=by omega
     rw[List.drop_length]at hk;rw[←hk]at hf;simp only[List.all_nil,Bool.true_and]at hf;repeat' first|simp only[go_sem,seval,l1,l2]|refine sB ?_|(first|apply pX|apply bX)<;>intro hc|refine⟨oD,?_⟩|exact oD|fail
     refine hgo hf _ ?_;exact lE
  ·obtain rfl:i=ls.length:=by omega
   rw[List.drop_length]at hf;unfold tJ;rw[←hf];simp only[List.all_nil,Bool.not_true,Bool.false_eq_true,if_false];clear hf hR
   by_cases h0:eC q=0
   ·obtain⟨vq,lq⟩:=F9 h0;rw[h0,vq,decide_eq_true lq,Bool.true_and,Bool.true_and]at hp;rw[h0];generalize cT (num q)=b at*;cases b
    ·repeat' first|simp only[go_sem,seval,l1]|refine cP hp ?_|refine sB ?_|(first|apply pX|apply bX)<;>intro hc|refine⟨oD,?_⟩|exact oD|fail
     all_goals rfl
    ·repeat' first|simp only[go_sem,seval,l1]|refine cP hp ?_|refine sB ?_|(first|apply pX|apply bX)<;>intro hc|refine⟨oD,?_⟩|exact oD|fail
     all_goals rfl
   ·rw[if_pos h0];generalize (aa q&&decide (q.length≤8)&&cT (num q))=b at*;generalize eC q=e at*;repeat' first|simp only[go_sem,seval,l1]|refine cP hp ?_|refine sB ?_|(first|apply pX|apply bX)<;>intro hc|refine⟨oD,?_⟩|exact oD|fail
theorem mG {q:Bytes} (vq:aa q=true) {l:List Bytes} (hv: ∀x∈l,aa x=true) (hl:l.length<1000000):aB Tryz.prog 97 [.s q, .sl (l.map .s)] (.b (l.all fun x=>decide (num x<num q))):=by
 have l5:(l.map PV.s).length=l.length:=List.length_map ..;refine eW Tryz.call97 Tryz.func97 ?_;repeat' first|simp only[go_sem,seval,l5]|refine sB ?_|(first|apply pX|apply bX)<;>intro hc|refine⟨oD,?_⟩|exact oD|fail
 refine aj (α:=Nat) (fun i=>l.length-i) (fun i=>⟨[(0, .v (.s q)),(7, .v (.sl (l.map .s))),(8,E' l.length),(9,E' i)],[],_⟩) (fun i=>i≤l.length∧(l.drop i).all (fun x=>decide (num x<num q))=l.all fun x=>decide (num x<num q)) 0 (fun _=>Nat.le_refl _) ⟨Nat.zero_le _,rfl⟩ ?_ ?_
 ·exact lE
 ·rintro i ⟨hi,hf⟩ R hR;rw[←hf]
  by_cases hlt:i<l.length
  ·have e1:=eg hlt;have hgo:=hR (i+1);rw[←hf]at hgo;rw[aJ [] hlt,List.all_cons]at hgo⊢;have vx:=hv _ (au [] hlt);generalize l.getD i []=x at*;have hc:=lW vx vq;have hg:=L9 (num x) (num q);clear hR hf hv vx;generalize aT (num x) (num q)=cm at*;generalize decide (num x<num q)=b at*;cases b
   ·repeat' first|simp only[go_sem,seval,l5,e1,hg]|refine cP hc ?_|refine sB ?_|(first|apply pX|apply bX)<;>intro hc|refine⟨oD,?_⟩|exact oD|fail
    all_goals simp
   ·have hgo:=hgo ⟨by omega,by simp⟩ (by omega)
    repeat' first|simp only[go_sem,seval,l5,e1,hg]|refine cP hc ?_|refine sB ?_|(first|apply pX|apply bX)<;>intro hc|refine⟨oD,?_⟩|exact oD|fail
    refine hgo _ ?_;exact lE
  ·obtain rfl:i=l.length:=by omega
   rw[List.drop_length];repeat' first|simp only[go_sem,seval,l5]|refine sB ?_|(first|apply pX|apply bX)<;>intro hc|refine⟨oD,?_⟩|exact oD|fail
   all_goals rfl
theorem Qu:aK 0=[]:=by decide
theorem Ma {q:Nat} (h0:0<q) (cs:List Nat) (x:Nat) {k:Nat} (hk:k<cs.length):(oE q ((nI cs).drop k) x).toNat=((oE q ((nI cs).drop (k+1)) x).toNat*x%q+cs.getD k 0)%q:=by
 have hb:=(nA (q:=q) (by omega) x ((nI cs).drop (k+1))).1
 obtain⟨y,hy⟩: ∃y:Nat,oE q ((nI cs).drop (k+1)) x=y:=⟨_,(Int.toNat_of_nonneg hb).symm⟩;rw[EU (by rw[gX];exact hk),hy,kx,Int.toNat_natCast]
 have e:((y:Int)*x%q+((cs.getD k 0:Nat):Int))%q=(((y*x%q+cs.getD k 0)%q:Nat):Int):=by push_cast;rfl
 rw[e,Int.toNat_natCast]
theorem tc {q:Nat} (hq:q<18446744073709551616) (h0:0<q) {cs:List Nat} (hc: ∀c∈cs,c<18446744073709551616) {x:Nat} (hx:x<18446744073709551616) (hl:cs.length<1000000):aB Tryz.prog 98 [N q, .sl (cs.map bO),N x] (N (oE q (nI cs) x).toNat):=by
 have l5:(cs.map bO).length=cs.length:=List.length_map ..;have hw: ∀ _:True,IntKind.i64.wrap ((cs.length:Int)-1)=(cs.length:Int)-1:=fun _=>IntWalk.i64_in _ (by omega)
 refine eW Tryz.call98 Tryz.func98 ?_;repeat' first|simp only[go_sem,seval,l5,hw trivial]|refine sB ?_|(first|apply pX|apply bX)<;>intro hc|refine⟨oD,?_⟩|exact oD|fail
 refine aj (α:=Nat) (fun k=>k) (fun k=>⟨[(0, .v (N q)),(1, .v (.sl (cs.map bO))),(2, .v (N x)),(7, .v (N (oE q ((nI cs).drop k) x).toNat)),(8, .v (.i .i64 ((k:Int)-1)))],[],_⟩) (fun k=>k≤cs.length) cs.length (fun _=>Nat.le_refl _) (Nat.le_refl _) ?_ ?_
 ·have e:(nI cs).drop cs.length=[]:=List.drop_of_length_le (by rw[gX];exact Nat.le_refl _)
  have e2:N (oE q ((nI cs).drop cs.length) x).toNat= .s []:=by rw[e];exact congrArg PV.s Qu
  rw[e2];exact lE
 ·intro k hk R hR
  cases k with
  |zero=>
   rw[List.drop_zero];repeat' first|simp only[go_sem,seval]|refine sB ?_|(first|apply pX|apply bX)<;>intro hc|refine⟨oD,?_⟩|exact oD|fail
  |succ k=>
   have hgo:=hR k (by omega) (by omega)
   rw[Ma h0 cs x (by omega)]at hgo
   have hb:=nA (q:=q) (by omega) x ((nI cs).drop (k+1))
   have e1: ∀ _:True,((k+1:Nat):Int)-1=(k:Int):=fun _=>by omega
   have hge: ∀ _:True,decide ((k:Int)≥0)=true:=fun _=>by simp
   have hwk: ∀ _:True,IntKind.i64.wrap ((k:Int)-1)=(k:Int)-1:=fun _=>IntWalk.i64_in _ (by omega)
   have e2:=ny cs (i:=k) (by omega)
   have hck:=hc _ (au 0 (show k<cs.length by omega))
   obtain⟨y,hy⟩: ∃y,y=(oE q ((nI cs).drop (k+1)) x).toNat:=⟨_,rfl⟩;rw[←hy]at hgo⊢;have hyq:y<q:=by omega
   generalize cs.getD k 0=c at*;have m1:=jU (a:=y) (b:=x) (m:=q) (by omega) hx hq h0
   have m2:=sK (a:=y*x%q) (b:=c) (m:=q) (by have:=Nat.mod_lt (y*x) h0;omega) hck hq h0
   clear hR hy hb hc;repeat' first|simp only[go_sem,seval,e1 trivial,hge trivial,hwk trivial,l5,e2]|refine cP m1 ?_|refine cP m2 ?_|refine sB ?_|(first|apply pX|apply bX)<;>intro hc|refine⟨oD,?_⟩|exact oD|fail
   refine hgo _ ?_;exact lE
theorem C6 {l:List Bytes} (hd:l.Nodup) (hl:l.length<1000000):aB Tryz.prog 217 [.sl (l.map .s)] (.b false):=by
 have l5:(l.map PV.s).length=l.length:=List.length_map ..;refine eW Tryz.call217 Tryz.func217 ?_;repeat' first|simp only[go_sem,seval,l5]|refine sB ?_|(first|apply pX|apply bX)<;>intro hc|refine⟨oD,?_⟩|exact oD|fail
 refine aj (α:=Nat) (fun i=>l.length-i) (fun i=>⟨[(3, .mp 1001),(7, .v (.sl (l.map .s))),(8,E' l.length),(9,E' i)],[(1001,⟨0,gn PV.s (l.take i),false,none⟩)],_⟩) (fun i=>i≤l.length) 0 (fun _=>Nat.le_refl _) (Nat.zero_le _) ?_ ?_
 ·rw[List.take_zero,xG];exact lE
 ·intro i hi R hR
  by_cases hlt:i<l.length
  ·have e1:=eg hlt;have hgo:=hR (i+1) (by omega) (by omega)
   rw[cv [] hlt]at hgo;have hnm:l.getD i []∉l.take i:=fun hm=>by
    obtain⟨j,hj,he⟩:=List.mem_take_iff_getElem.1 hm;exact(List.pairwise_iff_getElem.1 hd) j i (by omega) hlt (by omega) (he.trans (by simp[List.getD_eq_getElem?_getD,hlt]))
   generalize l.getD i []=x at*;generalize l.take i=p at*;have m1:=ml Fb x p;have m2:ju true (.b false) (.s x) (gn PV.s p)= .b false:=by rw[nJ Fb];simp[hnm]
   have m3:=kq Fb hnm;clear hR;repeat' first|simp only[go_sem,seval,l5,e1,m1,m2,m3]|refine sB ?_|(first|apply pX|apply bX)<;>intro hc|refine⟨oD,?_⟩|exact oD|fail
   refine hgo _ ?_
   (refine AS.Le.of (by first|decide|omega) ?_ ?_<;>simp[bL,bK,aD,ai,AV.bd,AV.bd.bdL,u8,af,ah,ak])
   exact fun c hc=>(uR PV.s (p++[x]) _).mpr trivial c hc
  ·obtain rfl:i=l.length:=by omega
   repeat' first|simp only[go_sem,seval,l5]|refine sB ?_|(first|apply pX|apply bX)<;>intro hc|refine⟨oD,?_⟩|exact oD|fail
theorem Fp (l:List Nat):l.map bO=(l.map aK).map PV.s:=by rw[List.map_map];rfl
theorem mC {q:Nat} (hq:q<18446744073709551616):eC (aK q)=0:=by
 unfold eC;rw[vN hq,if_pos rfl,if_pos (kf.2 hq)]
theorem LV {q:Nat} (hq:q<18446744073709551616) (hp:cT q=true) {ls:List (List Bytes)} (h: ∀l∈ls,∀x∈l,aa x=true):tJ (aK q) ls=0:=by
 have h1:(ls.all fun l=>l.all aa)=true:=by
  rw[List.all_eq_true];intro l hl;rw[List.all_eq_true];exact h l hl
 unfold tJ;rw[h1,mC hq,aG,hp];rfl
theorem D5 {q:Nat} {l:List Nat} (h: ∀x∈l,x<q):((l.map aK).all fun x=>decide (num x<num (aK q)))=true:=by
 rw[List.all_eq_true];intro x hx;obtain⟨n,hn,rfl⟩:=List.mem_map.1 hx;rw[aG,aG];exact decide_eq_true (h n hn)
theorem zD {q:Nat} (hq:q<18446744073709551616) (hp:cT q=true) {xs ys:List Nat} {x:Nat} (hl:ys.length=xs.length) (h256:xs.length≤256) (hx: ∀a∈xs,a<q) (hy: ∀a∈ys,a<q) (ha:x<q) (hd:xs.Nodup):
  aB Tryz.prog 138 [N q, .sl (xs.map bO), .sl (ys.map bO),N x] (E 0):=by
 have vl: ∀{l:List Nat},(∀a∈l,a<q)→ ∀b∈l.map aK,aa b=true:=fun{l} h b hb=>by
  obtain⟨n,hn,rfl⟩:=List.mem_map.1 hb;exact vN (by have:=h n hn;omega)
 have h1:=uP (aK q) [xs.map aK,ys.map aK,[aK x]] (by simp) (by simp;omega)
 rw[LV hq hp (by
  intro l hl b hb;simp only[List.mem_cons,List.not_mem_nil,or_false]at hl;rcases hl with rfl|rfl|rfl
  ·exact vl hx b hb
  ·exact vl hy b hb
  ·exact vl (l:=[x]) (by simpa using ha) b (by simpa using hb))]at h1
 simp only[List.map_cons,List.map_nil,LN]at h1;rw[←Fp,←Fp]at h1;have h2:=mG (q:=aK q) (vN hq) (vl hx) (by simp;omega)
 rw[D5 hx,←Fp]at h2;have h3:=mG (q:=aK q) (vN hq) (vl hy) (by simp;omega)
 rw[D5 hy,←Fp]at h3;have h4:=mG (q:=aK q) (vN hq) (l:=[aK x]) (vl (l:=[x]) (by simpa using ha)) (by simp)
 rw[show([aK x].all fun y=>decide (num y<num (aK q)))=true from D5 (l:=[x]) (by simpa using ha)]at h4
 have h5:=C6 (l:=xs.map aK) (hd.map aK fun a b h e=>h (by rw[←aG a,e,aG])) (by simp;omega)
 rw[←Fp]at h5;have l1:(xs.map bO).length=xs.length:=List.length_map ..;have l2:(ys.map bO).length=xs.length:=by rw[List.length_map];exact hl
 simp only[List.map_cons,List.map_nil]at h4;refine eW Tryz.call138 Tryz.func138 ?_;repeat' first|simp only[go_sem,seval,l1,l2]|refine cP h1 ?_|refine cP h2 ?_|refine cP h3 ?_|refine cP h4 ?_|refine cP h5 ?_|refine sB ?_|(first|apply pX|apply bX)<;>intro hc|refine⟨oD,?_⟩|exact oD|fail
end Go.Proofs.YtmobkhegihemeaaGreatDoor
