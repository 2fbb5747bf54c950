/-
  Part of the proof, part KC36. Own work.
-/
import Derived.Test.YtmobkhegihemeaaGreatDoorKC35
set_option linter.all false
namespace Go.Dom
open Go.RowKit Go.Num
def nI (l:List Nat):List Int:=l.map fun a:Nat=>(a:Int)
def tN (l:List Int):List Nat:=l.map Int.toNat
theorem pB (l:List Nat):(nI l).length=l.length:=aH ..
theorem ix (l:List Int):(tN l).length=l.length:=aH ..
theorem iQ: ∀(l:List Int) (j:Nat),(tN l).getD j 0=(l.getD j 0).toNat
 |[],j=>rfl
 |a::l,0=>rfl
 |a::l,j+1=>by simp only[tN,ba,bI];exact iQ l j
theorem qy: ∀(l:List Nat) (j:Nat),(nI l).getD j 0=(l.getD j 0:Nat)
 |[],j=>rfl
 |a::l,0=>rfl
 |a::l,j+1=>by simp only[nI,ba,bI];exact qy l j
def Ih (q:Int) (l:List Int):Prop:= ∀j,0≤l.getD j 0∧l.getD j 0<q
theorem Rn {q:Int} (hq:0<q) (p:List Int):Ih q (UZ q p):=fun j=>by
 rw[wA];exact⟨fE _ (by omega),fQ _ hq⟩
theorem Rp {q:Int} (hq:0<q) (p:List Int) (a:Int):Ih q (kd q p a):=Rn hq _
theorem Ks {q:Int} (hq:1<q):Ih q [1]:=fun j=>by
 cases j with
 |zero=>exact⟨by decide,hq⟩
 |succ j=>simp only[bI,List.getD_nil];omega
theorem J8 {q:Int} (hq:0<q): ∀(l p:List Int),Ih q p→Ih q (l.foldl (kd q) p)
 |[],p,h=>h
 |a::l,p,_=>J8 hq l _ (Rp hq p a)
theorem zO {q:Int} (hq:1<q) (l:List Int):Ih q (xR q l):=J8 (by omega) l _ (Ks hq)
theorem BW (q:Int) (l:List Int) (a:Int):xR q (l++[a])=kd q (xR q l) a:=by simp[xR]
theorem Cy (q x:Int) (l:List Int) (a:Int):th q x (l++[a])=th q x l*((x-a)%q)%q:=by simp[th]
theorem sH {q:Int} (hq:1<q) (x:Int) (l:List Int):0≤th q x l∧th q x l<q:=by
 unfold th;have: ∀(l:List Int) (s:Int),0≤s∧s<q→0≤l.foldl (fun s a=>s*((x-a)%q)%q) s∧l.foldl (fun s a=>s*((x-a)%q)%q) s<q:=by
  intro l
  induction l with
  |nil=>intro s h;exact h
  |cons a l ih=>intro s _;exact ih _ ⟨fE _ (by omega),fQ _ (by omega)⟩
 exact this l 1 ⟨by decide,hq⟩
theorem MJ {q a b:Int} (h:Cg q a b):a%q=b%q:=by
 obtain⟨k,hk⟩:=h;rw[show a=b+q*k by omega,oP]
theorem HW (x y q:Int):(x-y%q)%q=(x-y)%q:=MJ ((Cg.KV x).sub (Cg.emod q y))
theorem DK (q a:Int) (p:List Int) (j:Nat):(kd q p a).getD j 0=((0::p).getD j 0-p.getD j 0*a%q)%q:=by
 rw[HW]
 cases j with
 |zero=>rw[J9,cb];congr 1;grind
 |succ j=>rw[BZ,bI];congr 1;grind
theorem dN {α:Type} (d:α) {l:List α} {k:Nat} (h:k<l.length):l.take (k+1)=l.take k++[l.getD k d]:=by
 rw[List.take_succ,aU h];simp[aX,aU h]
def iu (q:Int) (p:List Int) (a:Int) (j:Nat):List Int:=(kd q p a).take j++(0::p).getD j 0::List.replicate (p.length-j) 0
theorem Cq {q a:Int} {p:List Int} {j:Nat} (h:j≤p.length):(iu q p a j).length=p.length+1:=by
 have:=oE q a p;simp[iu];omega
theorem KY (q a:Int) (p:List Int):iu q p a 0=List.replicate (p.length+1) 0:=by
 simp[iu,List.replicate_succ]
theorem F1 {q a:Int} {p:List Int} {j:Nat} (h:j≤p.length):(iu q p a j).getD j 0=(0::p).getD j 0:=by
 have hl:((kd q p a).take j).length=j:=by rw[cG,oE];omega
 unfold iu;rw[aX,rh (by omega),hl,fh];rfl
theorem yO {q a:Int} {p:List Int} {j:Nat} (h:j<p.length):(iu q p a j).getD (j+1) 0=0:=by
 have hl:((kd q p a).take j).length=j:=by rw[cG,oE];omega
 unfold iu;rw[aX,rh (by omega),hl,show j+1-j=1 by omega,List.getElem?_cons_succ,uE]
 split<;>rfl
theorem yP {q a:Int} {p:List Int} {j:Nat} (h:j<p.length):((iu q p a j).set (j+1) (p.getD j 0)).set j ((kd q p a).getD j 0)=iu q p a (j+1):=by
 have hm:=oE q a p;have hl:((kd q p a).take j).length=j:=by rw[cG,hm];omega
 unfold iu;rw[As _ _ (by omega),As _ _ (by omega),hl,fh,show j+1-j=1 by omega,show p.length-j=(p.length-(j+1))+1 by omega,List.replicate_succ]
 simp only[List.set_cons_succ,List.set_cons_zero];rw[dN 0 (show j<(kd q p a).length by omega),bI];simp only[gF,List.cons_append,List.nil_append]
theorem Cp {q a:Int} {p:List Int} (hp:p≠[]) (hq:Ih q p):iu q p a p.length=kd q p a:=by
 have hm:=oE q a p;obtain⟨n,hn⟩: ∃n,p.length=n+1:=⟨p.length-1,by have:=ky.2 hp;omega⟩
 have h1:(kd q p a).getD (n+1) 0=p.getD n 0:=by
  rw[BZ,zA 0 p (n+1) (by omega),ud,Int.add_zero]
  exact Int.emod_eq_of_lt (hq n).1 (hq n).2
 unfold iu;rw[fh,List.replicate_zero,hn,bI,←h1];have e:kd q p a=(kd q p a).take (n+1)++[(kd q p a).getD (n+1) 0]:=by
  conv=>lhs;rw[←uy (n+1) (kd q p a)]
  congr 1;rw[ig (by omega),gS (by omega)]
  simp[aX,aU (show n+1<(kd q p a).length by omega)]
 exact e.symm
def nP (l:List Int) (i k:Nat):List Int:=(l.take k).eraseIdx i
theorem Jp (l:List Int) (i:Nat):nP l i 0=[]:=by simp[nP]
theorem Jr {l:List Int} {i k:Nat} (hk:k<l.length) (h:k≠i):nP l i (k+1)=nP l i k++[l.getD k 0]:=by
 have hl:(l.take k).length=k:=by rw[cG];omega
 unfold nP;rw[dN 0 hk];rcases Nat.lt_or_gt_of_ne h with g|g
 ·rw[AZ (by simp;omega),AZ (by omega)]
 ·rw[List.eraseIdx_append_of_lt_length (by omega)]
theorem Jq {l:List Int} {i:Nat} (hk:i<l.length):nP l i (i+1)=nP l i i:=by
 have hl:(l.take i).length=i:=by rw[cG];omega
 unfold nP;have r:(l.take i).eraseIdx i=l.take i:=AZ (by omega)
 rw[dN 0 hk,List.eraseIdx_append_of_length_le (by omega),hl,fh,r]
 simp
theorem Fc (l:List Int) (i:Nat):nP l i l.length=l.eraseIdx i:=by rw[nP,cM]
def eu (q:Int) (P:Nat→List Int) (f:Nat→Int) (n i j:Nat):List Int:=(List.range n).map fun t=>if t<j then xL q P f t (i+1)else xL q P f t i
theorem j6 (q:Int) (P:Nat→List Int) (f:Nat→Int) (n i j:Nat):(eu q P f n i j).length=n:=by simp[eu]
theorem zU {q:Int} {P:Nat→List Int} {f:Nat→Int} {n i j:Nat} (h:j<n):(eu q P f n i j).getD j 0=xL q P f j i:=by
 rw[eu,aX,cH,iA h];simp
theorem su {q:Int} {P:Nat→List Int} {f:Nat→Int} {n i j:Nat} (h:j<n):(eu q P f n i j).set j (xL q P f j (i+1))=eu q P f n i (j+1):=by
 refine mi fun t=> ?_
 by_cases ht:t<n
 ·by_cases e:j=t
  ·subst e;rw[List.getElem?_set_self (by rw[j6];exact h),eu,cH,iA h];simp
  ·rw[A1 e,eu,eu,cH,cH,iA ht];simp only[Option.map_some,af]
   by_cases g:t<j
   ·rw[if_pos g,if_pos (by omega)]
   ·rw[if_neg g,if_neg (by omega)]
 ·rw[iB (by rw[eP,j6];omega),iB (by rw[j6];omega)]
theorem ss (q:Int) (P:Nat→List Int) (f:Nat→Int) (n i:Nat):eu q P f n i n=eu q P f n (i+1) 0:=by
 unfold eu;refine l9 fun t ht=> ?_
 rw[if_pos (dk.1 ht),if_neg (nG _)]
theorem Kt (q:Int) (P:Nat→List Int) (f:Nat→Int) (n:Nat):eu q P f n 0 0=List.replicate n 0:=by
 unfold eu;refine mi fun t=> ?_
 by_cases ht:t<n
 ·rw[cH,iA ht,uE,if_pos ht];simp[xL]
 ·rw[iB (by simp;omega),iB (by simp;omega)]
theorem Ca (q:Int) (l:List Int) (f:Nat→Int):eu q (fun k=>xR q (l.eraseIdx k)) f l.length l.length 0=HZ q l f:=by
 unfold eu HZ;refine l9 fun t ht=> ?_
 rw[if_neg (nG _)]
theorem JJ {q x:Int} {p:List Int} {i:Nat} (h:i<p.length):tO q (p.drop i) x=(tO q (p.drop (i+1)) x*x%q+p.getD i 0)%q:=by
 rw[ig h,aX,aU h];rfl
theorem Q8 {q a:Nat} (h:Iv q a):Nat.gcd a q=1:=by
 obtain⟨b,k,hk⟩:=h;have h1:((Nat.gcd a q:Nat):Int)∣a:=A0.2 (AL a q);have h2:((Nat.gcd a q:Nat):Int)∣q:=A0.2 (AG a q);have h3:((Nat.gcd a q:Nat):Int)∣(a:Int)*b-(q:Int)*k:=Int.dvd_sub (Int.dvd_mul_of_dvd_left h1) (Int.dvd_mul_of_dvd_left h2);rw[show(a:Int)*b-(q:Int)*k=1 by omega]at h3
 exact Nat.dvd_one.1 (A0.1 (by simpa using h3))
theorem F7 {q:Nat} (hp:dS q=true) {pts:List Nat} (hd:pts.Nodup) (hb: ∀a∈pts,a≤8∧a<q) {i:Nat} (hi:i<pts.length):Nat.gcd (th q (pts.getD i 0:Nat) ((nI pts).eraseIdx i)).toNat q=1:=by
 have h2:=(pz hp).1;have h1:SN q (nI pts):=Fg hp hd hb;have h3:=h1.iv (i:=i) (by rw[pB];exact hi)
 rw[qy]at h3;have h4:=(RY h3).cg (Su q _ _).symm;have h5:=sH (q:=(q:Int)) (by omega) (pts.getD i 0:Nat) ((nI pts).eraseIdx i)
 refine Q8 ?_;rw[jP h5.1];exact h4
section
variable {α:Type} [DecidableEq α] {st:Bool} {κ:α→PV}
def nN (κ:α→PV) (l:List α):List AV:=l.flatMap fun x=>[.v (κ x), .v (.b true)]
theorem K7 (κ:α→PV):nN κ []=[]:=rfl
theorem BU (hk: ∀a b,iE st (κ a) (κ b)=some (decide (a=b))) (x:α): ∀l:List α,J6 st (κ x) (nN κ l)=True
 |[]=>by simp[nN,J6,hk]
 |a::l=>by
  have:=BU hk x l;simp only[nN,dE,List.cons_append,List.nil_append,J6,hk,Option.isSome_some,true_and]at this⊢;exact this
theorem yE (hk: ∀a b,iE st (κ a) (κ b)=some (decide (a=b))) (x:α): ∀l:List α,nY st (.b false) (κ x) (nN κ l)= .b (decide (x∈l))
 |[]=>rfl
 |a::l=>by
  have:=yE hk x l;simp only[nN,dE,List.cons_append,List.nil_append,nY,hk,af,decide_eq_true_eq]at this⊢
  by_cases e:x=a
  ·subst e;simp
  ·rw[if_neg e,this];simp[e]
theorem yD (hk: ∀a b,iE st (κ a) (κ b)=some (decide (a=b))) {x:α}: ∀{l:List α},x∉l→si st (κ x) (.b true) (nN κ l)=nN κ (l++[x])
 |[],_=>rfl
 |a::l,h=>by
  simp only[bL,not_or]at h;have:=yD hk h.2;simp only[nN,dE,List.cons_append,List.nil_append,si,hk,af,decide_eq_true_eq,if_neg h.1]at this⊢;rw[this]
theorem OB (κ:α→PV) (l:List α) (n:Nat):(∀y,y∈nN κ l→y.bd n=true)=True:=by
 simp only[eq_iff_iff,iff_true];intro y hy;obtain⟨a,-,hy⟩:=iZ.1 hy;simp only[bL,ij,or_false]at hy;rcases hy with rfl|rfl<;>rfl
end
theorem JU (a b:Bytes):iE true (.s a) (.s b)=some (decide (a=b)):=by
 by_cases h:a=b<;>simp[iE,h]
theorem TG (a b:Int):iE false (.i .i64 a) (.i .i64 b)=some (decide (a=b)):=by
 by_cases h:a=b<;>simp[iE,h]
end Go.Dom
namespace Go.Proofs.YtmobkhegihemeaaGreatDoor
open Go Go.Dom Go.Num
set_option maxRecDepth 100000
set_option maxHeartbeats 16000000
theorem pJ (l:List Bytes) (hl:l.length<1000000):aD Tryz.prog 72 [.sl (l.map .s)] (.b (l.all aa)):=by
 have l5:(l.map PV.s).length=l.length:=aH ..;refine eW Tryz.call72 Tryz.func72 ?_;repeat' first|simp only[go_sem,seval,l5]|refine sB ?_|(first|apply pX|apply bX)<;>intro hc|refine⟨oD,?_⟩|exact oD|fail
 refine aj (α:=Nat) (fun i=>l.length-i) (fun i=>⟨[(5, .v (.sl (l.map .s))),(6,E' l.length),(7,E' i)],[],_⟩) (fun i=>i≤l.length∧(l.drop i).all aa=l.all aa) 0 (fun _=>au _) ⟨aL _,rfl⟩ ?_ ?_
 ·exact lE
 ·rintro i ⟨hi,hf⟩ R hR;rw[←hf]
  by_cases hlt:i<l.length
  ·have e1:=eA hlt;have hgo:=hR (i+1);rw[←hf]at hgo;rw[aR [] hlt,List.all_cons]at hgo⊢;generalize l.getD i []=x at*;have hv:=aM x;clear hR hf;generalize aa x=b at*;cases b
   ·repeat' first|simp only[go_sem,seval,l5,e1]|refine cP hv ?_|refine sB ?_|(first|apply pX|apply bX)<;>intro hc|refine⟨oD,?_⟩|exact oD|fail
    all_goals simp
   ·have hgo:=hgo ⟨by omega,by simp⟩ (by omega)
    repeat' first|simp only[go_sem,seval,l5,e1]|refine cP hv ?_|refine sB ?_|(first|apply pX|apply bX)<;>intro hc|refine⟨oD,?_⟩|exact oD|fail
    refine hgo _ ?_;exact lE
  ·obtain rfl:i=l.length:=by omega
   rw[cY];repeat' first|simp only[go_sem,seval,l5]|refine sB ?_|(first|apply pX|apply bX)<;>intro hc|refine⟨oD,?_⟩|exact oD|fail
   all_goals rfl
theorem mG (l:List Bytes) (hl:l.length<1000000):aD Tryz.prog 26 [.sl (l.map .s)] (.b (l.all aa)):=by
 have l5:(l.map PV.s).length=l.length:=aH ..;refine eW Tryz.call26 Tryz.func26 ?_;repeat' first|simp only[go_sem,seval,l5]|refine sB ?_|(first|apply pX|apply bX)<;>intro hc|refine⟨oD,?_⟩|exact oD|fail
 refine aj (α:=Nat) (fun i=>l.length-i) (fun i=>⟨[(5, .v (.sl (l.map .s))),(6,E' l.length),(7,E' i)],[],_⟩) (fun i=>i≤l.length∧(l.drop i).all aa=l.all aa) 0 (fun _=>au _) ⟨aL _,rfl⟩ ?_ ?_
 ·exact lE
 ·rintro i ⟨hi,hf⟩ R hR;rw[←hf]
  by_cases hlt:i<l.length
  ·have e1:=eA hlt;have hgo:=hR (i+1);rw[←hf]at hgo;rw[aR [] hlt,List.all_cons]at hgo⊢;generalize l.getD i []=x at*;have hv:=aM x;clear hR hf;generalize aa x=b at*;cases b
   ·repeat' first|simp only[go_sem,seval,l5,e1]|refine cP hv ?_|refine sB ?_|(first|apply pX|apply bX)<;>intro hc|refine⟨oD,?_⟩|exact oD|fail
    all_goals simp
   ·have hgo:=hgo ⟨by omega,by simp⟩ (by omega)
    repeat' first|simp only[go_sem,seval,l5,e1]|refine cP hv ?_|refine sB ?_|(first|apply pX|apply bX)<;>intro hc|refine⟨oD,?_⟩|exact oD|fail
    refine hgo _ ?_;exact lE
  ·obtain rfl:i=l.length:=by omega
   rw[cY];repeat' first|simp only[go_sem,seval,l5]|refine sB ?_|(first|apply pX|apply bX)<;>intro hc|refine⟨oD,?_⟩|exact oD|fail
   all_goals rfl
theorem K9 (vs:List Bytes) (sd:Bytes) (a:Int) (hl:vs.length<1000000):aD Tryz.prog 93 [T vs sd a] (.b (eU vs a)):=by
 have h:=pJ vs hl;unfold eU;rw[Dg,ui];generalize vs.all aa=b at*;cases b
 ·refine eW Tryz.call93 Tryz.func93 ?_;repeat' first|simp only[go_sem,seval]|refine cP h ?_|refine sB ?_|(first|apply pX|apply bX)<;>intro hc|refine⟨oD,?_⟩|exact oD|fail
  all_goals simp
 ·refine eW Tryz.call93 Tryz.func93 ?_;repeat' first|simp only[go_sem,seval]|refine cP h ?_|refine sB ?_|(first|apply pX|apply bX)<;>intro hc|refine⟨oD,?_⟩|exact oD|fail
  all_goals first|(simp;done)|(simp;omega)|(simp_all;done)|(simp_all;omega)
theorem Bt (vs:List Bytes) (sd:Bytes) (a:Int) (hl:vs.length<1000000):aD Tryz.prog 43 [T vs sd a] (.b (eU vs a)):=by
 have h:=EI sd (a:=a) hl;generalize eU vs a=b at*;cases b
 ·simp only[aW,if_false]at h;refine eW Tryz.call43 Tryz.func43 ?_;repeat' first|simp only[go_sem,seval]|refine cP pV ?_|refine cP h ?_|refine sB ?_|(first|apply pX|apply bX)<;>intro hc|refine⟨oD,?_⟩|exact oD|fail
 ·simp only[if_true]at h;refine eW Tryz.call43 Tryz.func43 ?_;repeat' first|simp only[go_sem,seval]|refine cP pV ?_|refine cP h ?_|refine sB ?_|(first|apply pX|apply bX)<;>intro hc|refine⟨oD,?_⟩|exact oD|fail
def zc (q:Bytes) (ls:List (List Bytes)):Int:=if !(ls.all fun l=>l.all aa)then 3 else if ir q≠0 then ir q else if dS (num q)then 0 else 12
def LN (l:List Bytes):PV:= .sl (l.map .s)
theorem KD {q:Bytes} (h:ir q=0):aa q=true∧q.length≤8:=by
 unfold ir at h
 split at h
 ·rename_i h1
  split at h
  ·exact⟨h1,by assumption⟩
  ·cases h
 ·cases h
theorem Ac (q:Bytes) (ls:List (List Bytes)) (h1:ls.length<1000000) (h2: ∀l∈ls,l.length<1000000):aD Tryz.prog 96 [.s q, .sl (ls.map LN)] (E (zc q ls)):=by
 have hp:=yJ q;have l1:(ls.map LN).length=ls.length:=aH ..;refine eW Tryz.call96 Tryz.func96 ?_;repeat' first|simp only[go_sem,seval,l1]|refine sB ?_|(first|apply pX|apply bX)<;>intro hc|refine⟨oD,?_⟩|exact oD|fail
 refine aj (α:=Nat) (fun i=>ls.length-i) (fun i=>⟨[(0, .v (.s q)),(11, .v (.sl (ls.map LN))),(12,E' ls.length),(13,E' i)],[],_⟩) (fun i=>i≤ls.length∧(ls.drop i).all (fun l=>l.all aa)=ls.all (fun l=>l.all aa)) 0 (fun _=>au _) ⟨aL _,rfl⟩ ?_ ?_
 ·exact lE
 ·rintro i ⟨hi,hf⟩ R hR
  by_cases hlt:i<ls.length
  ·have e1:(ls.map LN).getD i .fn0= .sl ((ls.getD i []).map .s):=getD_map LN ls [] hlt;have hgo:=fun h=>hR (i+1) ⟨by omega,h⟩ (by omega)
   rw[aR [] hlt,List.all_cons]at hf;have hl:=h2 _ (ay [] hlt);generalize ls.getD i []=l at*;clear hR;have l2:(l.map PV.s).length=l.length:=aH ..;repeat' first|simp only[go_sem,seval,l1,l2,e1]|refine sB ?_|(first|apply pX|apply bX)<;>intro hc|refine⟨oD,?_⟩|exact oD|fail
   refine aj (α:=Nat) (fun j=>l.length-j) (fun j=>⟨[(0, .v (.s q)),(11, .v (.sl (ls.map LN))),(12,E' ls.length),(13,E' i),(17, .v (.sl (l.map .s))),(18,E' l.length),(19,E' j)],[],_⟩) (fun j=>j≤l.length∧(l.drop j).all aa=l.all aa) 0 (fun _=>au _) ⟨aL _,rfl⟩ ?_ ?_
   ·exact lE
   ·rintro j ⟨hj,hk⟩ R' hR'
    by_cases hjl:j<l.length
    ·have e2:=eA hjl;have hgo':=fun h=>hR' (j+1) ⟨by omega,h⟩ (by omega)
     rw[aR [] hjl,List.all_cons]at hk;generalize l.getD j []=x at*;have hv:=aM x;clear hR'
     cases hb:aa x with
     |true=>
      rw[hb,bZ]at hk;rw[hb]at hv;repeat' first|simp only[go_sem,seval,l2,e2]|refine cP hv ?_|refine sB ?_|(first|apply pX|apply bX)<;>intro hc|refine⟨oD,?_⟩|exact oD|fail
      refine hgo' hk _ ?_;exact lE
     |false=>
      rw[hb,ec]at hk;rw[←hk,ec]at hf;rw[hb]at hv;unfold zc;rw[←hf];clear hgo hgo' hk hf;repeat' first|simp only[go_sem,seval,l2,e2]|refine cP hv ?_|refine sB ?_|(first|apply pX|apply bX)<;>intro hc|refine⟨oD,?_⟩|exact oD|fail
      all_goals rfl
    ·obtain rfl:j=l.length:=by omega
     rw[cY]at hk;rw[←hk]at hf;simp only[List.all_nil,bZ]at hf;repeat' first|simp only[go_sem,seval,l1,l2]|refine sB ?_|(first|apply pX|apply bX)<;>intro hc|refine⟨oD,?_⟩|exact oD|fail
     refine hgo hf _ ?_;exact lE
  ·obtain rfl:i=ls.length:=by omega
   rw[cY]at hf;unfold zc;rw[←hf];simp only[List.all_nil,bu,aW,if_false];clear hf hR
   by_cases h0:ir q=0
   ·obtain⟨vq,lq⟩:=KD h0;rw[h0,vq,decide_eq_true lq,bZ,bZ]at hp;rw[h0];generalize dS (num q)=b at*;cases b
    ·repeat' first|simp only[go_sem,seval,l1]|refine cP hp ?_|refine sB ?_|(first|apply pX|apply bX)<;>intro hc|refine⟨oD,?_⟩|exact oD|fail
     all_goals rfl
    ·repeat' first|simp only[go_sem,seval,l1]|refine cP hp ?_|refine sB ?_|(first|apply pX|apply bX)<;>intro hc|refine⟨oD,?_⟩|exact oD|fail
     all_goals rfl
   ·rw[if_pos h0];generalize (aa q&&decide (q.length≤8)&&dS (num q))=b at*;generalize ir q=e at*;repeat' first|simp only[go_sem,seval,l1]|refine cP hp ?_|refine sB ?_|(first|apply pX|apply bX)<;>intro hc|refine⟨oD,?_⟩|exact oD|fail
theorem qL {q:Bytes} (vq:aa q=true) {l:List Bytes} (hv: ∀x∈l,aa x=true) (hl:l.length<1000000):aD Tryz.prog 97 [.s q, .sl (l.map .s)] (.b (l.all fun x=>decide (num x<num q))):=by
 have l5:(l.map PV.s).length=l.length:=aH ..;refine eW Tryz.call97 Tryz.func97 ?_;repeat' first|simp only[go_sem,seval,l5]|refine sB ?_|(first|apply pX|apply bX)<;>intro hc|refine⟨oD,?_⟩|exact oD|fail
 refine aj (α:=Nat) (fun i=>l.length-i) (fun i=>⟨[(0, .v (.s q)),(7, .v (.sl (l.map .s))),(8,E' l.length),(9,E' i)],[],_⟩) (fun i=>i≤l.length∧(l.drop i).all (fun x=>decide (num x<num q))=l.all fun x=>decide (num x<num q)) 0 (fun _=>au _) ⟨aL _,rfl⟩ ?_ ?_
 ·exact lE
 ·rintro i ⟨hi,hf⟩ R hR;rw[←hf]
  by_cases hlt:i<l.length
  ·have e1:=eA hlt;have hgo:=hR (i+1);rw[←hf]at hgo;rw[aR [] hlt,List.all_cons]at hgo⊢;have vx:=hv _ (ay [] hlt);generalize l.getD i []=x at*;have hc:=qj vx vq;have hg:=Pk (num x) (num q);clear hR hf hv vx;generalize a6 (num x) (num q)=cm at*;generalize decide (num x<num q)=b at*;cases b
   ·repeat' first|simp only[go_sem,seval,l5,e1,hg]|refine cP hc ?_|refine sB ?_|(first|apply pX|apply bX)<;>intro hc|refine⟨oD,?_⟩|exact oD|fail
    all_goals simp
   ·have hgo:=hgo ⟨by omega,by simp⟩ (by omega)
    repeat' first|simp only[go_sem,seval,l5,e1,hg]|refine cP hc ?_|refine sB ?_|(first|apply pX|apply bX)<;>intro hc|refine⟨oD,?_⟩|exact oD|fail
    refine hgo _ ?_;exact lE
  ·obtain rfl:i=l.length:=by omega
   rw[cY];repeat' first|simp only[go_sem,seval,l5]|refine sB ?_|(first|apply pX|apply bX)<;>intro hc|refine⟨oD,?_⟩|exact oD|fail
   all_goals rfl
theorem Tr:aP 0=[]:=by decide
theorem JK {q:Nat} (h0:0<q) (cs:List Nat) (x:Nat) {k:Nat} (hk:k<cs.length):(tO q ((nI cs).drop k) x).toNat=((tO q ((nI cs).drop (k+1)) x).toNat*x%q+cs.getD k 0)%q:=by
 have hb:=(vR (q:=q) (by omega) x ((nI cs).drop (k+1))).1
 obtain⟨y,hy⟩: ∃y:Nat,tO q ((nI cs).drop (k+1)) x=y:=⟨_,(jP hb).symm⟩;rw[JJ (by rw[pB];exact hk),hy,qy,Int.toNat_natCast]
 have e:((y:Int)*x%q+((cs.getD k 0:Nat):Int))%q=(((y*x%q+cs.getD k 0)%q:Nat):Int):=by push_cast;rfl
 rw[e,Int.toNat_natCast]
theorem yW {q:Nat} (hq:q<18446744073709551616) (h0:0<q) {cs:List Nat} (hc: ∀c∈cs,c<18446744073709551616) {x:Nat} (hx:x<18446744073709551616) (hl:cs.length<1000000):aD Tryz.prog 98 [N q, .sl (cs.map cA),N x] (N (tO q (nI cs) x).toNat):=by
 have l5:(cs.map cA).length=cs.length:=aH ..;have hw: ∀ _:True,IntKind.i64.wrap ((cs.length:Int)-1)=(cs.length:Int)-1:=fun _=>IntWalk.i64_in _ (by omega)
 refine eW Tryz.call98 Tryz.func98 ?_;repeat' first|simp only[go_sem,seval,l5,hw trivial]|refine sB ?_|(first|apply pX|apply bX)<;>intro hc|refine⟨oD,?_⟩|exact oD|fail
 refine aj (α:=Nat) (fun k=>k) (fun k=>⟨[(0, .v (N q)),(1, .v (.sl (cs.map cA))),(2, .v (N x)),(7, .v (N (tO q ((nI cs).drop k) x).toNat)),(8, .v (.i .i64 ((k:Int)-1)))],[],_⟩) (fun k=>k≤cs.length) cs.length (fun _=>au _) (au _) ?_ ?_
 ·have e:(nI cs).drop cs.length=[]:=gS (by rw[pB];exact au _)
  have e2:N (tO q ((nI cs).drop cs.length) x).toNat= .s []:=by rw[e];exact congrArg PV.s Tr
  rw[e2];exact lE
 ·intro k hk R hR
  cases k with
  |zero=>
   rw[nJ];repeat' first|simp only[go_sem,seval]|refine sB ?_|(first|apply pX|apply bX)<;>intro hc|refine⟨oD,?_⟩|exact oD|fail
  |succ k=>
   have hgo:=hR k (by omega) (by omega)
   rw[JK h0 cs x (by omega)]at hgo
   have hb:=vR (q:=q) (by omega) x ((nI cs).drop (k+1))
   have e1: ∀ _:True,((k+1:Nat):Int)-1=(k:Int):=fun _=>by omega
   have hge: ∀ _:True,decide ((k:Int)≥0)=true:=fun _=>by simp
   have hwk: ∀ _:True,IntKind.i64.wrap ((k:Int)-1)=(k:Int)-1:=fun _=>IntWalk.i64_in _ (by omega)
   have e2:=mZ cs (i:=k) (by omega)
   have hck:=hc _ (ay 0 (show k<cs.length by omega))
   obtain⟨y,hy⟩: ∃y,y=(tO q ((nI cs).drop (k+1)) x).toNat:=⟨_,rfl⟩;rw[←hy]at hgo⊢;have hyq:y<q:=by omega
   generalize cs.getD k 0=c at*;have m1:=nX (a:=y) (b:=x) (m:=q) (by omega) hx hq h0
   have m2:=yB (a:=y*x%q) (b:=c) (m:=q) (by have:=aG (y*x) h0;omega) hck hq h0
   clear hR hy hb hc;repeat' first|simp only[go_sem,seval,e1 trivial,hge trivial,hwk trivial,l5,e2]|refine cP m1 ?_|refine cP m2 ?_|refine sB ?_|(first|apply pX|apply bX)<;>intro hc|refine⟨oD,?_⟩|exact oD|fail
   refine hgo _ ?_;exact lE
theorem HV {l:List Bytes} (hd:l.Nodup) (hl:l.length<1000000):aD Tryz.prog 217 [.sl (l.map .s)] (.b false):=by
 have l5:(l.map PV.s).length=l.length:=aH ..;refine eW Tryz.call217 Tryz.func217 ?_;repeat' first|simp only[go_sem,seval,l5]|refine sB ?_|(first|apply pX|apply bX)<;>intro hc|refine⟨oD,?_⟩|exact oD|fail
 refine aj (α:=Nat) (fun i=>l.length-i) (fun i=>⟨[(3, .mp 1001),(7, .v (.sl (l.map .s))),(8,E' l.length),(9,E' i)],[(1001,⟨0,nN PV.s (l.take i),false,none⟩)],_⟩) (fun i=>i≤l.length) 0 (fun _=>au _) (aL _) ?_ ?_
 ·rw[List.take_zero,K7];exact lE
 ·intro i hi R hR
  by_cases hlt:i<l.length
  ·have e1:=eA hlt;have hgo:=hR (i+1) (by omega) (by omega)
   rw[dN [] hlt]at hgo;have hnm:l.getD i []∉l.take i:=fun hm=>by
    obtain⟨j,hj,he⟩:=List.mem_take_iff_getElem.1 hm;exact(List.pairwise_iff_getElem.1 hd) j i (by omega) hlt (by omega) (he.trans (by simp[aX,hlt]))
   generalize l.getD i []=x at*;generalize l.take i=p at*;have m1:=BU JU x p;have m2:nY true (.b false) (.s x) (nN PV.s p)= .b false:=by rw[yE JU];simp[hnm]
   have m3:=yD JU hnm;clear hR;repeat' first|simp only[go_sem,seval,l5,e1,m1,m2,m3]|refine sB ?_|(first|apply pX|apply bX)<;>intro hc|refine⟨oD,?_⟩|exact oD|fail
   refine hgo _ ?_
   (refine AS.Le.of (by first|decide|omega) ?_ ?_<;>simp[cl,cj,aF,ar,AV.bd,AV.bd.bdL,u8,ah,ai,aq])
   exact fun c hc=>(OB PV.s (p++[x]) _).mpr trivial c hc
  ·obtain rfl:i=l.length:=by omega
   repeat' first|simp only[go_sem,seval,l5]|refine sB ?_|(first|apply pX|apply bX)<;>intro hc|refine⟨oD,?_⟩|exact oD|fail
theorem J3 (l:List Nat):l.map cA=(l.map aP).map PV.s:=by rw[jE];rfl
theorem qG {q:Nat} (hq:q<18446744073709551616):ir (aP q)=0:=by
 unfold ir;rw[vN hq,if_pos rfl,if_pos (mT.2 hq)]
theorem QU {q:Nat} (hq:q<18446744073709551616) (hp:dS q=true) {ls:List (List Bytes)} (h: ∀l∈ls,∀x∈l,aa x=true):zc (aP q) ls=0:=by
 have h1:(ls.all fun l=>l.all aa)=true:=by
  rw[bc];intro l hl;rw[bc];exact h l hl
 unfold zc;rw[h1,qG hq,aK,hp];rfl
theorem IY {q:Nat} {l:List Nat} (h: ∀x∈l,x<q):((l.map aP).all fun x=>decide (num x<num (aP q)))=true:=by
 rw[bc];intro x hx;obtain⟨n,hn,rfl⟩:=a5.1 hx;rw[aK,aK];exact decide_eq_true (h n hn)
theorem El {q:Nat} (hq:q<18446744073709551616) (hp:dS q=true) {xs ys:List Nat} {x:Nat} (hl:ys.length=xs.length) (h256:xs.length≤256) (hx: ∀a∈xs,a<q) (hy: ∀a∈ys,a<q) (ha:x<q) (hd:xs.Nodup):
  aD Tryz.prog 138 [N q, .sl (xs.map cA), .sl (ys.map cA),N x] (E 0):=by
 have vl: ∀{l:List Nat},(∀a∈l,a<q)→ ∀b∈l.map aP,aa b=true:=fun{l} h b hb=>by
  obtain⟨n,hn,rfl⟩:=a5.1 hb;exact vN (by have:=h n hn;omega)
 have h1:=Ac (aP q) [xs.map aP,ys.map aP,[aP x]] (by simp) (by simp;omega)
 rw[QU hq hp (by
  intro l hl b hb;simp only[bL,ij,or_false]at hl;rcases hl with rfl|rfl|rfl
  ·exact vl hx b hb
  ·exact vl hy b hb
  ·exact vl (l:=[x]) (by simpa using ha) b (by simpa using hb))]at h1
 simp only[ba,bG,LN]at h1;rw[←J3,←J3]at h1;have h2:=qL (q:=aP q) (vN hq) (vl hx) (by simp;omega)
 rw[IY hx,←J3]at h2;have h3:=qL (q:=aP q) (vN hq) (vl hy) (by simp;omega)
 rw[IY hy,←J3]at h3;have h4:=qL (q:=aP q) (vN hq) (l:=[aP x]) (vl (l:=[x]) (by simpa using ha)) (by simp)
 rw[show([aP x].all fun y=>decide (num y<num (aP q)))=true from IY (l:=[x]) (by simpa using ha)]at h4
 have h5:=HV (l:=xs.map aP) (hd.map aP fun a b h e=>h (by rw[←aK a,e,aK])) (by simp;omega)
 rw[←J3]at h5;have l1:(xs.map cA).length=xs.length:=aH ..;have l2:(ys.map cA).length=xs.length:=by rw[aH];exact hl
 simp only[ba,bG]at h4;refine eW Tryz.call138 Tryz.func138 ?_;repeat' first|simp only[go_sem,seval,l1,l2]|refine cP h1 ?_|refine cP h2 ?_|refine cP h3 ?_|refine cP h4 ?_|refine cP h5 ?_|refine sB ?_|(first|apply pX|apply bX)<;>intro hc|refine⟨oD,?_⟩|exact oD|fail
end Go.Proofs.YtmobkhegihemeaaGreatDoor
