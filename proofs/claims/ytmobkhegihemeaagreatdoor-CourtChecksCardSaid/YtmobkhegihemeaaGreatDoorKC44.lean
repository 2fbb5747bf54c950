/-
  Part of the proof, part KC44. Own work.
-/
import Derived.Test.YtmobkhegihemeaaGreatDoorKC39
import Derived.Test.YtmobkhegihemeaaGreatDoorKC43
set_option linter.all false
namespace Go.Proofs.YtmobkhegihemeaaGreatDoor
open Go Go.Dom Go.Num
set_option maxRecDepth 100000
set_option maxHeartbeats 16000000
def CK.k9 (c:CK) (d:Nat):List Bytes:=c.y::c.sh.take (d-1)
noncomputable def CK.at (c:CK) (i:Nat):Nat:=Ia (num c.m) (num c.o) (List.range c.need.toNat) ((c.k9 c.need.toNat).map num) i
noncomputable def GI (c:CK):Bool:=(List.range (c.sh.length+1)).all fun i=>decide (i<c.need.toNat)||decide (c.at i=num (c.sh.getD (i-1) []))
noncomputable def gN (c:CK):Int:=
 if !([c.m,c.o,c.g,c.y].all aa)|| !(c.sh.all aa)then 3 else if !kq c.name then 1
 else if lV c.m c.o c.g c.y≠0 then lV c.m c.o c.g c.y
 else if !dS (num c.o)then 12
 else if(num c.o:Int)≤c.sh.length∨c.need<1∨c.need>c.sh.length then 6
 else if !(c.sh.all (kG c.m c.o))then 13 else if GI c then 0 else 22
theorem Ab {m o g y:Bytes} (h:lV m o g y=0):gE m o=0∧o≠[]∧aa g=true∧GP m o (num g)∧g≠[1]∧aa y=true∧GP m o (num y)∧y≠[1]:=by
 unfold lV at h
 split at h
 ·cases h
 ·split at h
  ·rename_i h1;exact absurd h h1
  ·rename_i h1
   split at h
   ·cases h
   ·rename_i h2;have h0:gE m o=0:=by simpa using h1
    simp only[oQ,fF,not_or,Bool.not_eq_false,beq_iff_eq,Ef,kG,aZ,beq_eq_false_iff_ne]at h2;obtain⟨⟨ho,⟨-,hg⟩,hg1⟩,⟨-,hy⟩,hy1⟩:=h2;obtain⟨a1,a2⟩:=(dp h0).1 hg;obtain⟨b1,b2⟩:=(dp h0).1 hy;exact⟨h0,ho,a1,a2,hg1,b1,b2,hy1⟩
theorem qR (hf:Nat→Option ax) (f:Nat) (l:List PV):(l.map AV.v).flatMap (aN hf (f+1))=[]:=by
 induction l with
 |nil=>rfl
 |cons x r ih=>simp_all[aN]
theorem MF {x:Bytes} (vx:aa x=true) (v:Nat):(aP v==x)=decide (v=num x):=by
 conv=>lhs;rw[←fW vx]
 exact sS v (num x)
theorem rU (c:CK) (ln:c.name.length≤60) (lm:c.m.length≤8) (lo:c.o.length≤8) (ls:c.sh.length≤8):aD Tryz.prog 9 [c.pv] (E (gN c)):=by
 unfold gN;obtain⟨name,m,o,g,y,need,sh⟩:=c;simp only[CK.pv]at*;have l1:(sh.map PV.s).length=sh.length:=aH ..;have h1:=mG [m,o,g,y] (by simp)
 simp only[ba,bG]at h1;have h2:=mG sh (by omega)
 have h3:=Bn name ln;have h4:=HO lm lo g y;have h5:=yJ o
 cases hb1:[m,o,g,y].all aa with
 |false=>
  rw[hb1]at h1;simp only[bR,oM,if_true];refine eW Tryz.call9 Tryz.func9 ?_;repeat' first|simp only[go_sem,seval]|refine cP h1 ?_|refine sB ?_|(first|apply pX|apply bX)<;>intro hc|refine⟨oD,?_⟩|exact oD|fail
  all_goals rfl
 |true=>
 rw[hb1]at h1
 cases hb2:sh.all aa with
 |false=>
  rw[hb2]at h2;simp only[bR,uq,if_true];refine eW Tryz.call9 Tryz.func9 ?_;repeat' first|simp only[go_sem,seval]|refine cP h1 ?_|refine cP h2 ?_|refine sB ?_|(first|apply pX|apply bX)<;>intro hc|refine⟨oD,?_⟩|exact oD|fail
  all_goals rfl
 |true=>
 rw[hb2]at h2;simp only[bu,rz,aW,if_false]
 cases hn:kq name with
 |false=>
  rw[hn]at h3;simp only[bR,if_true];refine eW Tryz.call9 Tryz.func9 ?_;repeat' first|simp only[go_sem,seval]|refine cP h1 ?_|refine cP h2 ?_|refine cP h3 ?_|refine sB ?_|(first|apply pX|apply bX)<;>intro hc|refine⟨oD,?_⟩|exact oD|fail
  all_goals rfl
 |true=>
 rw[hn]at h3;simp only[bu,aW,if_false]
 by_cases hk:lV m o g y=0
 case neg=>
  rw[if_pos hk];generalize lV m o g y=e at*;refine eW Tryz.call9 Tryz.func9 ?_;repeat' first|simp only[go_sem,seval]|refine cP h1 ?_|refine cP h2 ?_|refine cP h3 ?_|refine cP h4 ?_|refine sB ?_|(first|apply pX|apply bX)<;>intro hc|refine⟨oD,?_⟩|exact oD|fail
 rw[hk]at h4;rw[if_neg (by simpa using hk)]
 obtain⟨hE,ho,vg,gg,-,vy,gy,-⟩:=Ab hk;obtain⟨vm,vo,m1,-,-⟩:=jY hE;have hqW:=ep lo;rw[vo,decide_eq_true lo,show ir o=0 by have:=qG hqW;rwa[fW vo]at this]at h5
 simp only[bZ]at h5
 cases hp:dS (num o)with
 |false=>
  rw[hp]at h5;simp only[bR,if_true];refine eW Tryz.call9 Tryz.func9 ?_;repeat' first|simp only[go_sem,seval]|refine cP h1 ?_|refine cP h2 ?_|refine cP h3 ?_|refine cP h4 ?_|refine cP h5 ?_|refine sB ?_|(first|apply pX|apply bX)<;>intro hc|refine⟨oD,?_⟩|exact oD|fail
  all_goals rfl
 |true=>
 rw[hp]at h5;simp only[bu,aW,if_false];obtain⟨n,hn0⟩: ∃n,n=sh.length:=⟨_,rfl⟩;have hW:=jI;have lS:sh.length=n:=hn0.symm;rw[lS]at ls⊢;have h6:=jT n (by omega)
 have h7:=qi (a:=n) (b:=num o) (by omega) (by omega)
 rw[fq vo]at h7;have hw: ∀ _:True,IntKind.u64.wrap (n:Int)=n:=fun _=>IntWalk.u64_in _ (by omega)
 have hcg:=rV n (num o);generalize a6 n (num o)=cm at*
 by_cases hb:(num o:Int)≤n∨need<1∨need>n
 ·rw[if_pos hb]
  by_cases b1:num o≤n
  ·rw[decide_eq_true b1]at hcg;refine eW Tryz.call9 Tryz.func9 ?_;repeat' first|simp only[go_sem,seval,l1,lS,hw trivial,hcg]|refine cP h1 ?_|refine cP h2 ?_|refine cP h3 ?_|refine cP h4 ?_|refine cP h5 ?_|refine cP h6 ?_|refine cP h7 ?_|refine sB ?_|(first|apply pX|apply bX)<;>intro hc|refine⟨oD,?_⟩|exact oD|fail
   all_goals rfl
  ·rw[decide_eq_false b1]at hcg
   by_cases b2:need<1
   ·refine eW Tryz.call9 Tryz.func9 ?_;repeat' first|simp only[go_sem,seval,l1,lS,hw trivial,hcg]|refine cP h1 ?_|refine cP h2 ?_|refine cP h3 ?_|refine cP h4 ?_|refine cP h5 ?_|refine cP h6 ?_|refine cP h7 ?_|refine sB ?_|(first|apply pX|apply bX)<;>intro hc|refine⟨oD,?_⟩|exact oD|fail
    all_goals rfl
   ·have b3:need>n:=by omega
    refine eW Tryz.call9 Tryz.func9 ?_;repeat' first|simp only[go_sem,seval,l1,lS,hw trivial,hcg]|refine cP h1 ?_|refine cP h2 ?_|refine cP h3 ?_|refine cP h4 ?_|refine cP h5 ?_|refine cP h6 ?_|refine cP h7 ?_|refine sB ?_|(first|apply pX|apply bX)<;>intro hc|refine⟨oD,?_⟩|exact oD|fail
    all_goals rfl
 rw[if_neg hb];obtain⟨d,rfl⟩: ∃d:Nat,need=d:=⟨need.toNat,by omega⟩
 obtain⟨A,hA⟩: ∃A:Nat→Nat,A=fun i=>Ia (num m) (num o) (List.range d) ((y::sh.take (d-1)).map num) i:=⟨_,rfl⟩
 obtain⟨cB,hcB0⟩: ∃cB,cB=GI ⟨name,m,o,g,y,(d:Int),sh⟩:=⟨_,rfl⟩;rw[←hcB0];have hcB:cB=(List.range (n+1)).all fun i=>decide (i<d)||decide (A i=num (sh.getD (i-1) [])):=by
  rw[hcB0,hA,←lS];rfl
 clear hcB0;rw[decide_eq_false (show¬(num o≤n) by omega)]at hcg
 have hsv:=bc.1 hb2;refine eW Tryz.call9 Tryz.func9 ?_;repeat' first|simp only[go_sem,seval,l1,lS,hw trivial,hcg]|refine cP h1 ?_|refine cP h2 ?_|refine cP h3 ?_|refine cP h4 ?_|refine cP h5 ?_|refine cP h6 ?_|refine cP h7 ?_|refine sB ?_|(first|apply pX|apply bX)<;>intro hc|refine⟨oD,?_⟩|exact oD|fail
 refine aj (α:=Nat) (fun i=>n-i) (fun i=>⟨[(1, .p 1000 0 0),(7,E' n),(90, .v (.sl (sh.map .s))),(91,E' n),(92,E' i)],[(1000,⟨0,[.v (.s name), .v (.s m), .v (.s o), .v (.s g), .v (.s y), .v (E d), .v (.sl (sh.map .s))],false,none⟩)],_⟩) (fun i=>i≤n∧(sh.drop i).all (kG m o)=sh.all (kG m o)) 0 (fun _=>au _) ⟨aL _,rfl⟩ ?_ ?_
 ·exact lE
 ·rintro i ⟨hi,hf⟩ R hR
  by_cases hlt:i<n
  ·have e1:=eA (l:=sh) (x:=i) (by omega)
   have hgo:=fun h=>hR (i+1) ⟨by omega,h⟩ (by omega)
   rw[aR [] (show i<sh.length by omega),List.all_cons]at hf
   generalize sh.getD i []=x at*;have hv:=vL lm lo x;clear hR hcB hA
   cases hbx:kG m o x with
   |true=>
    rw[hbx,bZ]at hf;rw[hbx]at hv;repeat' first|simp only[go_sem,seval,l1,e1]|refine cP hv ?_|refine sB ?_|(first|apply pX|apply bX)<;>intro hc|refine⟨oD,?_⟩|exact oD|fail
    refine hgo hf _ ?_;exact lE
   |false=>
    rw[hbx,ec]at hf;rw[hbx]at hv;rw[←hf];clear hgo hf;repeat' first|simp only[go_sem,seval,l1,e1]|refine cP hv ?_|refine sB ?_|(first|apply pX|apply bX)<;>intro hc|refine⟨oD,?_⟩|exact oD|fail
    all_goals rfl
  ·obtain rfl:n=i:=by omega
   rw[←lS,cY]at hf;have hall:sh.all (kG m o)=true:=hf.symm;rw[hall];simp only[bu,aW,if_false];clear hf hR;have hgp: ∀x∈sh,GP m o (num x):=fun x hx=>by
    have:=bc.1 hall x hx;unfold kG at this;rw[aZ]at this;exact((dp hE).1 this.2).2
   have hge: ∀x∈(y::sh.take (d-1)).map num,GP m o x:=fun x hx=>by
    obtain⟨z,hz,rfl⟩:=a5.1 hx;rcases bL.1 hz with rfl|hz
    ·exact gy
    ·exact hgp z (iW hz)
   have hlv: ∀x∈y::sh.take (d-1),aa x=true:=fun x hx=>by
    rcases bL.1 hx with rfl|hx
    ·exact vy
    ·exact hsv x (iW hx)
   have hll:(y::sh.take (d-1)).length=d:=by simp;omega
   have hat:=I6 m o g y (pts:=List.range d) (by simp;omega) (by simp;omega) (fun a ha=>by have:=dk.1 ha;omega)
   have hcat:=fun k (hk:k<num o)=>ES lm lo hE ho hp g y (pts:=List.range d) (k9:=(y::sh.take (d-1)).map num) (by simp;omega) (by rw[aH,hll];simp) AB (fun a ha=>by have:=dk.1 ha;omega) (by simp;omega) hge (x:=k) hk
   rw[←DI hlv]at hcat;have hcat: ∀k,k≤n→aD Tryz.prog 81 (.sl ((y::sh.take (d-1)).map .s)::E k::Du m o g y (List.range d)) (N (A k)):=fun k hk=>by rw[hA];exact hcat k (by omega)
   have hLs: ∀k,k+1<sh.length→sh.take (k+1)=sh.take k++[sh.getD k []]:=fun k hk=>dN [] (by omega)
   have hLr: ∀k,List.range (k+1)=List.range k++[k]:=fun k=>rk
   clear hA hgp hge hlv;repeat' first|simp only[go_sem,seval,l1,lS]|refine sB ?_|(first|apply pX|apply bX)<;>intro hc|refine⟨oD,?_⟩|exact oD|fail
   by_cases hd1:d=1
   ·have hr1:(List.range d).map uP=[E 0]:=by rw[hd1];rfl
    have hr2:(y::sh.take (d-1)).map PV.s=[.s y]:=by rw[hd1];rfl
    rw[hr2]at hcat;rw[hr1]at hat;have hlt1: ∀ _:True,decide ((1:Int)<(d:Int))=false:=fun _=>decide_eq_false (by omega)
    refine ae ?_;repeat' first|simp only[go_sem,seval,l1,lS,hlt1 trivial]|refine cP hat ?_|refine sB ?_|(first|apply pX|apply bX)<;>intro hc|refine⟨oD,?_⟩|exact oD|fail
    refine aj (α:=Nat) (fun k=>n+1-k) (fun k=>⟨[(1, .p 1000 0 0),(7,E' n),(11, .fs [.s y]),(13, .v (.fc 81 [] (Du m o g y (List.range d)))),(14,E' k)],[(1000,⟨0,[.v (.s name), .v (.s m), .v (.s o), .v (.s g), .v (.s y), .v (E d), .v (.sl (sh.map .s))],false,none⟩)],1102⟩) (fun k=>d≤k∧k≤n+1∧ ∀i,d≤i→i<k→A i=num (sh.getD (i-1) [])) d (fun _=>bQ rfl) ⟨au _,by omega,fun i h1 h2=>by omega⟩ ?_ ?_
    ·exact lE
    ·rintro k ⟨hdk,hkn,hall⟩ R hR
     by_cases hlt:k≤n
     ·obtain⟨j,rfl⟩: ∃j,k=j+1:=⟨k-1,by omega⟩
      have hgo:=fun(h:A (j+1)=num (sh.getD j []))=>hR (j+1+1) ⟨by omega,by omega,fun i h1 h2=>by
       by_cases e:i=j+1
       ·subst e;exact h
       ·exact hall i h1 (by omega)⟩ (by omega)
      have e1:=eA (l:=sh) (x:=j) (by omega)
      have vx:=hsv _ (ay [] (show j<sh.length by omega))
      have hc:=hcat (j+1) (by omega)
      have hw: ∀ _:True,IntKind.i64.wrap (((j+1:Nat):Int)-1)=(j:Int):=fun _=>by rw[IntWalk.i64_in _ (by omega)];omega
      have hb:=MF vx (A (j+1));have hle: ∀ _:True,decide (((j+1:Nat):Int)≤(n:Int))=true:=fun _=>decide_eq_true (by omega)
      have hbad:A (j+1)≠num (sh.getD j [])→cB=false:=fun h=>by
       rw[hcB];exact uC.2 ⟨j+1,dk.2 (by omega),by
        rw[kn,decide_eq_false (show¬(j+1<d) by omega),decide_eq_false h];decide⟩
      generalize A (j+1)=v at*;generalize sh.getD j []=x at*;clear hR hall hcat hsv hcB
      by_cases hv:v=num x
      ·rw[decide_eq_true hv]at hb;have hgo:=hgo hv;clear hbad;repeat' first|simp only[go_sem,seval,l1,e1,hw trivial,hb,hle trivial,bu]|refine cP hc ?_|refine sB ?_|(first|apply pX|apply bX)<;>intro hc|refine⟨oD,?_⟩|exact oD|fail
       refine hgo _ ?_;exact lE
      ·rw[decide_eq_false hv]at hb;rw[hbad hv];clear hgo hbad;repeat' first|simp only[go_sem,seval,l1,e1,hw trivial,hb,hle trivial,bR]|refine cP hc ?_|refine sB ?_|(first|apply pX|apply bX)<;>intro hc|refine⟨oD,?_⟩|exact oD|fail
       all_goals rfl
     ·obtain rfl:k=n+1:=by omega
      have hgood:cB=true:=by
       rw[hcB];refine bc.2 fun i hi=> ?_
       have:=dk.1 hi
       by_cases h:i<d
       ·rw[decide_eq_true h];rfl
       ·rw[decide_eq_true (hall i (by omega) (by omega))];simp
      rw[hgood];have hle: ∀ _:True,decide (((n+1:Nat):Int)≤(n:Int))=false:=fun _=>decide_eq_false (by omega)
      clear hR hall hcat hsv hcB;repeat' first|simp only[go_sem,seval,hle trivial]|refine sB ?_|(first|apply pX|apply bX)<;>intro hc|refine⟨oD,?_⟩|exact oD|fail
      all_goals rfl
   ·refine ae ?_;have e1:=eA (l:=sh) (x:=0) (by omega)
    have t1:sh.take 1=[sh.getD 0 []]:=by rw[dN [] (by omega)];simp
    have hlt1: ∀ _:True,decide ((1:Int)<(d:Int))=true:=fun _=>decide_eq_true (by omega)
    repeat' first|simp only[go_sem,seval,l1,lS,e1,hlt1 trivial]|refine sB ?_|(first|apply pX|apply bX)<;>intro hc|refine⟨oD,?_⟩|exact oD|fail
    obtain⟨PX,hPX⟩: ∃PX:Nat→List PV,∀k,PX k=(List.range k).map uP:=⟨_,fun _=>rfl⟩
    obtain⟨PY,hPY⟩: ∃PY:Nat→List PV,∀k,PY k=(y::sh.take k).map PV.s:=⟨_,fun _=>rfl⟩
    rw[←hPX]at hat;rw[←hPY]at hcat;have XL: ∀k,(PX k).length=k:=fun k=>by rw[hPX];simp
    have YL: ∀k,k≤n→(PY k).length=k+1:=fun k hk=>by rw[hPY];simp;omega
    have XO: ∀k,((PX k).map AV.v).all AV.one=true:=fun k=>by rw[hPX];simp[uP,AV.one,PV.one]
    have YO: ∀k,((PY k).map AV.v).all AV.one=true:=fun k=>by
     rw[hPY,bc];intro a ha;obtain⟨b,hb,rfl⟩:=a5.1 ha;obtain⟨c,-,rfl⟩:=a5.1 hb;rfl
    have XN: ∀hf f k,((PX k).map AV.v).flatMap (aN hf (f+1))=[]:=fun hf f k=>qR hf f _
    have YN: ∀hf f k,((PY k).map AV.v).flatMap (aN hf (f+1))=[]:=fun hf f k=>qR hf f _
    have XB: ∀k,∀c∈(PX k).map AV.v,c.bd 1112=true:=fun k c hc=>by obtain⟨x,-,rfl⟩:=a5.1 hc;rfl
    have YB: ∀k,∀c∈(PY k).map AV.v,c.bd 1112=true:=fun k c hc=>by obtain⟨x,-,rfl⟩:=a5.1 hc;rfl
    have XS: ∀k,(PX k).map AV.v++[.v (E (k:Nat))]=(PX (k+1)).map AV.v:=fun k=>by rw[hPX,hPX,hLr];simp[uP]
    have YS: ∀k,k+1<n→(PY k).map AV.v++[.v (.s (sh.getD k []))]=(PY (k+1)).map AV.v:=fun k hk=>by rw[hPY,hPY,hLs k (by omega)];simp
    have X2:(PX 2).map AV.v=[.v (E 0), .v (E 1)]:=by rw[hPX];rfl
    have Y1:(PY 1).map AV.v=[.v (.s y), .v (.s (sh.getD 0 []))]:=by rw[hPY,t1];rfl
    have X2':PX 2=[E 0,E 1]:=by rw[hPX];rfl
    have Y1':PY 1=[.s y, .s (sh.getD 0 [])]:=by rw[hPY,t1];rfl
    clear hPX hPY hLr hLs;refine aj (α:=Nat⊕Unit) (fun j=>match j with| .inl j=>d-j| .inr _=>0) (fun j=>match j with| .inl j=>⟨[(1, .p 1000 0 0),(7,E' n),(10, .rs 1097 j 0 (j+2) 1),(11, .rs 1106 j 0 (j+2) 1),(12,E' (j+2))],[(1000,⟨0,[.v (.s name), .v (.s m), .v (.s o), .v (.s g), .v (.s y), .v (E d), .v (.sl (sh.map .s))],false,none⟩),(1097,⟨j,(PX (j+2)).map AV.v,true,some 3⟩),(1106,⟨j,(PY (j+1)).map AV.v,true,some 22⟩)],1112⟩| .inr _=>⟨[(10, .v (.sl (PX d))),(11, .v (.sl (PY (d-1)))),(1, .p 1000 0 0),(7,E' n),(12,E' d)],[(1000,⟨0,[.v (.s name), .v (.s m), .v (.s o), .v (.s g), .v (.s y), .v (E d), .v (.sl (sh.map .s))],false,none⟩)],1112⟩) (fun j=>match j with| .inl j=>j+2<d| .inr _=>True) (if 2<d then .inl 0 else .inr ()) (fun j=>by cases j<;>exact bQ rfl) ?_ ?_ ?_
    ·by_cases h2:2<d
     ·rw[if_pos h2];show 0+2<d;omega
     ·rw[if_neg h2];trivial
    ·by_cases h2:2<d
     ·rw[if_pos h2];simp only[cW,X2,Y1];exact lE
     ·rw[if_neg h2];have hd2:d=2:=by omega
      have z1:PX d=[E 0,E 1]:=by rw[hd2,X2']
      have z2:PY (d-1)=[.s y, .s (sh.getD 0 [])]:=by rw[hd2,Y1']
      simp only[z1,z2];have z3:((d:Nat):Int)=2:=by omega
      refine AS.Le.Kg [(10, .sl [E 0,E 1]),(11, .sl [.s y, .s (sh.getD 0 [])])] [1097,1106] ?_ ?_ (by first|decide|omega) ?_ ?_
      ·intro q hq;simp at hq;rcases hq with rfl|rfl<;>exact⟨by decide,rfl⟩
      ·intro p hp;simp at hp;rcases hp with rfl|rfl<;>simp[aF,ar,view,aN,aQ,chunk,AV.one,PV.one]
      ·simp[cl,cj,aF,ar,AV.bd,AV.bd.bdL,z3]
      ·simp[cl,cj,aF,ar,AV.bd,AV.bd.bdL,z3]
    ·rintro(j| _) hj R hR
     ·have hj:j+2<d:=hj;have q1:=XL (j+2);have q2:List.take (j+2) ((PX (j+2)).map AV.v)=(PX (j+2)).map AV.v:=bM (by rw[aH,q1];omega)
      have q3:=YL (j+1) (by omega)
      have q4:List.take (j+2) ((PY (j+1)).map AV.v)=(PY (j+1)).map AV.v:=bM (by rw[aH,q3];omega)
      have p1:=XS (j+2);have p2:=YS (j+1) (by omega)
      have e2:=eA (l:=sh) (x:=j+1) (by omega)
      have hw: ∀ _:True,IntKind.i64.wrap (((j+2:Nat):Int)-1)=((j+1:Nat):Int):=fun _=>by rw[IntWalk.i64_in _ (by omega)];omega
      have hlt2: ∀ _:True,decide (((j+2:Nat):Int)<(d:Int))=true:=fun _=>decide_eq_true (by omega)
      clear hcat hsv hcB e1 t1
      by_cases h3:j+3<d
      ·have hgo:=hR (.inl (j+1)) h3 (by show d-(j+1)<d-j;omega)
       simp only[show j+1+2=j+2+1 from rfl]at hgo
       clear hR;generalize sh.getD (j+1) []=x at*;repeat' first|simp only[go_sem,seval,l1,lS,e2,hw trivial,hlt2 trivial,q1,q2,q3,q4,p1,p2]|refine sB ?_|(first|apply pX|apply bX)<;>intro hc|refine⟨oD,?_⟩|exact oD|fail
       refine hgo _ ?_
       (refine AS.Le.of (by first|decide|omega) ?_ ?_<;>simp[cl,cj,aF,ar,AV.bd,AV.bd.bdL,u8,ah,ai,aq])
       all_goals exact⟨fun c hc=>XB _ c (by simpa using hc),fun c hc=>YB _ c (by simpa using hc)⟩
      ·have hgo:=hR (.inr ()) trivial (by show 0<d-j;omega)
       clear hR;obtain rfl:d=j+3:=by omega
       generalize sh.getD (j+1) []=x at*;repeat' first|simp only[go_sem,seval,l1,lS,e2,hw trivial,hlt2 trivial,q1,q2,q3,q4,p1,p2]|refine sB ?_|(first|apply pX|apply bX)<;>intro hc|refine⟨oD,?_⟩|exact oD|fail
       refine hgo _ ?_;have q5:=XL (j+3);have q6:List.take (j+3) ((PX (j+3)).map AV.v)=(PX (j+3)).map AV.v:=bM (by rw[aH,q5];omega)
       have q7:=XO (j+3);have q8:chunk 1 (j+3) (PX (j+3))=PX (j+3):=by have:=mU (PX (j+3));rwa[q5]at this
       have p5:=YL (j+2) (by omega)
       have p6:List.take (j+3) ((PY (j+2)).map AV.v)=(PY (j+2)).map AV.v:=bM (by rw[aH,p5];omega)
       have p7:=YO (j+2);have p8:chunk 1 (j+3) (PY (j+2))=PY (j+2):=by have:=mU (PY (j+2));rwa[p5]at this
       refine AS.Le.Kg [(10, .sl (PX (j+3))),(11, .sl (PY (j+2)))] [1097,1106] ?_ ?_ (by first|decide|omega) ?_ ?_
       ·intro q hq;simp at hq;rcases hq with rfl|rfl<;>exact⟨by decide,rfl⟩
       ·intro p hp;simp only[bL,ij,or_false]at hp;rcases hp with rfl|rfl<;>simp only[aF,ar,view,aN,eF,cW,nJ,dP,aH,Nat.reduceEqDiff,if_true,if_false,q5,q6,q7,q8,p5,p6,p7,p8,XN,YN]<;>simp
        all_goals first|exact q8|exact p8
       ·simp[cl,cj,aF,ar,AV.bd,AV.bd.bdL]<;>omega
       ·simp[cl,cj,aF,ar,AV.bd,AV.bd.bdL]
     ·repeat' first|simp only[go_sem,seval,l1,lS]|refine cP hat ?_|refine sB ?_|(first|apply pX|apply bX)<;>intro hc|refine⟨oD,?_⟩|exact oD|fail
      refine aj (α:=Nat) (fun k=>n+1-k) (fun k=>⟨[(1, .p 1000 0 0),(7,E' n),(11, .v (.sl (PY (d-1)))),(13, .v (.fc 81 [] (Du m o g y (List.range d)))),(14,E' k)],[(1000,⟨0,[.v (.s name), .v (.s m), .v (.s o), .v (.s g), .v (.s y), .v (E d), .v (.sl (sh.map .s))],false,none⟩)],1124⟩) (fun k=>d≤k∧k≤n+1∧ ∀i,d≤i→i<k→A i=num (sh.getD (i-1) [])) d (fun _=>bQ rfl) ⟨au _,by omega,fun i h1 h2=>by omega⟩ ?_ ?_
      ·exact lE
      ·rintro k ⟨hdk,hkn,hall⟩ R hR
       by_cases hlt:k≤n
       ·obtain⟨j,rfl⟩: ∃j,k=j+1:=⟨k-1,by omega⟩
        have hgo:=fun(h:A (j+1)=num (sh.getD j []))=>hR (j+1+1) ⟨by omega,by omega,fun i h1 h2=>by
         by_cases e:i=j+1
         ·subst e;exact h
         ·exact hall i h1 (by omega)⟩ (by omega)
        have e1:=eA (l:=sh) (x:=j) (by omega)
        have vx:=hsv _ (ay [] (show j<sh.length by omega))
        have hc:=hcat (j+1) (by omega)
        have hw: ∀ _:True,IntKind.i64.wrap (((j+1:Nat):Int)-1)=(j:Int):=fun _=>by rw[IntWalk.i64_in _ (by omega)];omega
        have hb:=MF vx (A (j+1));have hle: ∀ _:True,decide (((j+1:Nat):Int)≤(n:Int))=true:=fun _=>decide_eq_true (by omega)
        have hbad:A (j+1)≠num (sh.getD j [])→cB=false:=fun h=>by
         rw[hcB];exact uC.2 ⟨j+1,dk.2 (by omega),by
          rw[kn,decide_eq_false (show¬(j+1<d) by omega),decide_eq_false h];decide⟩
        generalize A (j+1)=v at*;generalize sh.getD j []=x at*;clear hR hall hcat hsv hcB
        by_cases hv:v=num x
        ·rw[decide_eq_true hv]at hb;have hgo:=hgo hv;clear hbad;repeat' first|simp only[go_sem,seval,l1,e1,hw trivial,hb,hle trivial,bu]|refine cP hc ?_|refine sB ?_|(first|apply pX|apply bX)<;>intro hc|refine⟨oD,?_⟩|exact oD|fail
         refine hgo _ ?_;exact lE
        ·rw[decide_eq_false hv]at hb;rw[hbad hv];clear hgo hbad;repeat' first|simp only[go_sem,seval,l1,e1,hw trivial,hb,hle trivial,bR]|refine cP hc ?_|refine sB ?_|(first|apply pX|apply bX)<;>intro hc|refine⟨oD,?_⟩|exact oD|fail
         all_goals rfl
       ·obtain rfl:k=n+1:=by omega
        have hgood:cB=true:=by
         rw[hcB];refine bc.2 fun i hi=> ?_
         have:=dk.1 hi
         by_cases h:i<d
         ·rw[decide_eq_true h];rfl
         ·rw[decide_eq_true (hall i (by omega) (by omega))];simp
        rw[hgood];have hle: ∀ _:True,decide (((n+1:Nat):Int)≤(n:Int))=false:=fun _=>decide_eq_false (by omega)
        clear hR hall hcat hsv hcB;repeat' first|simp only[go_sem,seval,hle trivial]|refine sB ?_|(first|apply pX|apply bX)<;>intro hc|refine⟨oD,?_⟩|exact oD|fail
        all_goals rfl
def y5 (b:Bytes) (x:Bool×Bytes) (L:Nat):Bool:=decide (num x.2<L)&& !(b==[]&&x.1)
theorem K4 (b:Bytes) {n:Bool} {a:Bytes} (va:aa a=true) {L:Nat} (hL:L<du):aD Tryz.prog 338 [dC b,N L, .agg [.b n, .s a]] (.b (y5 b (n,a) L)):=by
 have hc:=qi (sk va) hL;rw[fq va]at hc;have hd: ∀ _:True,decide (a6 (num a) L<0)=decide (num a<L):=fun _=>by rw[dx];simp only[decide_eq_true_eq];exact fS
 generalize a6 (num a) L=cm at*;unfold dC y5;simp only;generalize decide (num a<L)=p at*;generalize hb:(b==([]:Bytes))=q at*
 cases p<;>cases q<;>cases n<;>
 ·refine eW Tryz.call338 Tryz.func338 ?_;repeat' first|simp only[go_sem,seval,hb,hd trivial]|refine cP hc ?_|refine sB ?_|(first|apply pX|apply bX)<;>intro hc|refine⟨oD,?_⟩|exact oD|fail
  all_goals rfl
def DQ (o c sl:Bytes) (vs:List Bytes) (l:List (Bool×Bytes)):Bool:=(List.range vs.length).all fun i=>y5 (vs.getD i []) (l.getD i kZ) (lR o c sl (vs.getD i []))
def gM (o c sl:Bytes) (vs:List Bytes) (ch:Bytes) (l:List (Bool×Bytes)):Int:=
 if !(aa ch&&l.all db)then 3 else if num c≤num ch then 2 else if l.length≠vs.length then 6 else if !DQ o c sl vs l then 2 else 0
noncomputable def qo (c sl:Bytes) (s:dy) (ch:Bytes) (l:List (Bool×Bytes)):List PV:=
 if gM (bK s.groups) c sl s.vars ch l=0 then s.eqs.map fun q=>N (mw s.groups ch l q)else[]
theorem Kj {o c sl:Bytes} {vs:List Bytes} {l:List (Bool×Bytes)} {i:Nat} (hi:i<vs.length) (h: ¬y5 (vs.getD i []) (l.getD i kZ) (lR o c sl (vs.getD i []))=true):DQ o c sl vs l=false:=by
 unfold DQ;rw[fj];intro g;exact h (bc.1 g i (dk.2 hi))
theorem yG {o c sl:Bytes} {vs:List Bytes} {l:List (Bool×Bytes)} (h: ∀i,i<vs.length→y5 (vs.getD i []) (l.getD i kZ) (lR o c sl (vs.getD i []))=true):DQ o c sl vs l=true:=by
 unfold DQ;rw[bc];intro i hi;exact h i (dk.1 hi)
theorem F6 {c sl:Bytes} {s:dy} (hp:EJ c sl s) (h1:s.eqs≠[]) {ch:Bytes} {l:List (Bool×Bytes)} (hll:l.length<1000000):aD Tryz.prog 289 [.agg [.s c, .s sl],s.pv, .s ch, .sl (l.map eg)] (.tup [.sl (qo c sl s ch l),E (gM (bK s.groups) c sl s.vars ch l)]):=by
 have hr:=hp.r;have hs:=hp.g;have hb:=Cu hp;have lo:=(ff hs.g).2;clear hp;have vh:=aM ch;have hi:=Lg l hll;have l5:(l.map eg).length=l.length:=aH ..;have l2:(s.vars.map dC).length=s.vars.length:=aH ..;have l6:(s.vars.map fun b=>N (lR (bK s.groups) c sl b)).length=s.vars.length:=aH ..
 have nv:=hs.nv
 by_cases g1:aa ch=true∧l.all db=true
 case neg=>
  have e:(aa ch&&l.all db)=false:=by rw[fj];intro g;simp at g;exact g1 ⟨g.1,by simpa[bc]using g.2⟩
  have e2:gM (bK s.groups) c sl s.vars ch l=3:=by simp only[gM,e];rfl
  rw[qo,if_neg (by rw[e2];decide),e2]
  clear e2 hs;unfold dy.pv at*;generalize aa ch=b1 at*;generalize l.all db=b2 at*;refine eW Tryz.call289 Tryz.func289 ?_;repeat' first|simp only[go_sem,seval]|refine cP hb ?_|refine cP vh ?_|refine cP hi ?_|refine sB ?_|(first|apply pX|apply bX)<;>intro hc|refine⟨oD,?_⟩|exact oD|fail
  all_goals (exfalso;simp_all)
 obtain⟨vc,hok⟩:=g1;rw[vc]at vh;rw[hok]at hi;have hcm:=qj vc hr.vc
 by_cases g2:num c≤num ch
 ·have e2:gM (bK s.groups) c sl s.vars ch l=2:=by simp only[gM,vc,hok];rw[if_neg (by simp),if_pos g2]
  have hd: ∀ _:True,decide (a6 (num ch) (num c)≥0)=true:=fun _=>decide_eq_true (jJ.2 g2)
  rw[qo,if_neg (by rw[e2];decide),e2]
  generalize a6 (num ch) (num c)=cm at*;clear e2 hs;unfold dy.pv at*;refine eW Tryz.call289 Tryz.func289 ?_;repeat' first|simp only[go_sem,seval,hd trivial]|refine cP hb ?_|refine cP vh ?_|refine cP hi ?_|refine cP hcm ?_|refine sB ?_|(first|apply pX|apply bX)<;>intro hc|refine⟨oD,?_⟩|exact oD|fail
 have hd: ∀ _:True,decide (a6 (num ch) (num c)≥0)=false:=fun _=>decide_eq_false (fun g=>g2 (jJ.1 g))
 by_cases g3:l.length=s.vars.length
 case neg=>
  have e2:gM (bK s.groups) c sl s.vars ch l=6:=by simp only[gM,vc,hok];rw[if_neg (by simp),if_neg g2,if_pos g3]
  rw[qo,if_neg (by rw[e2];decide),e2]
  generalize a6 (num ch) (num c)=cm at*;clear e2 hs;unfold dy.pv at*;refine eW Tryz.call289 Tryz.func289 ?_;repeat' first|simp only[go_sem,seval,hd trivial,l5,l2]|refine cP hb ?_|refine cP vh ?_|refine cP hi ?_|refine cP hcm ?_|refine sB ?_|(first|apply pX|apply bX)<;>intro hc|refine⟨oD,?_⟩|exact oD|fail
  all_goals (exfalso;omega)
 have hms:=Af hs.m h1 vc g3 (bc.1 hok);have hv:=hs.v;have hval: ∀x∈l,aa x.2=true:=fun x hx=>by
  have:=bc.1 hok x hx;simp only[db,aZ]at this;exact this.1
 have e0:gM (bK s.groups) c sl s.vars ch l=if !DQ (bK s.groups) c sl s.vars l then 2 else 0:=by
  simp only[gM,vc,hok];rw[if_neg (by simp),if_neg g2,if_neg (by omega)]
 unfold qo;rw[e0];clear e0 hs hok;obtain⟨gs,vs,es⟩:=s;simp only at*;generalize bK gs=o at*;unfold dy.pv at*;simp only at*;generalize a6 (num ch) (num c)=cm at*;refine eW Tryz.call289 Tryz.func289 ?_;repeat' first|simp only[go_sem,seval,hd trivial,l5,l2]|refine cP hb ?_|refine cP vh ?_|refine cP hi ?_|refine cP hcm ?_|refine sB ?_|(first|apply pX|apply bX)<;>intro hc|refine⟨oD,?_⟩|exact oD|fail
 refine aj (α:=Nat) (fun i=>vs.length-i) (fun i=>⟨[(2, .v (.s ch)),(3, .v (.sl (l.map eg))),(5, .p 1001 0 0),(11, .v (.sl (vs.map fun b=>N (lR o c sl b)))),(45, .v (.sl (vs.map dC))),(46,E' vs.length),(47,E' i)],[(1001,⟨0,[.v (.sl (gs.map gG)), .v (.sl (vs.map dC)), .v (.sl (es.map eE.pv))],false,none⟩)],_⟩) (fun i=>i≤vs.length∧ ∀j,j<i→y5 (vs.getD j []) (l.getD j kZ) (lR o c sl (vs.getD j []))=true) 0 (fun _=>au _) ⟨aL _,fun j hj=>by omega⟩ ?_ ?_
 ·exact lE
 ·rintro i ⟨hi',hf⟩ R hR
  by_cases hlt:i<vs.length
  ·have e1:=getD_map dC vs [] hlt;have e2:=getD_map (fun b=>N (lR o c sl b)) vs [] hlt
   have hlt2:i<l.length:=by omega
   have e3:=getD_map eg l kZ hlt2;obtain⟨k1,k3⟩:=hv _ (ay [] hlt);have kv:=hval _ (ay kZ hlt2);have ad:aD Tryz.prog 338 [dC (vs.getD i []),N (lR o c sl (vs.getD i [])),eg (l.getD i kZ)] (.b (y5 (vs.getD i []) (l.getD i kZ) (lR o c sl (vs.getD i [])))):=K4 (vs.getD i []) (n:=(l.getD i kZ).1) kv (JW hr lo k3);have hgo:=hR (i+1)
   by_cases hc2:y5 (vs.getD i []) (l.getD i kZ) (lR o c sl (vs.getD i []))=true
   ·have hgo:=hgo ⟨by omega,fun j hj=>by
     by_cases e:j=i
     ·rw[e];exact hc2
     ·exact hf j (by omega)⟩ (by omega)
    rw[hc2]at ad;clear hR hf hc2 kv k1 k3;generalize lR o c sl (vs.getD i [])=L at*;generalize vs.getD i []=b at*;obtain⟨x,hx⟩: ∃x,x=l.getD i kZ:=⟨_,rfl⟩;rw[←hx]at ad e3;clear hx;obtain⟨xn,xa⟩:=x;simp only[dC,eg]at*;repeat' first|simp only[go_sem,seval,l2,l5,l6,e1,e2,e3]|refine cP ad ?_|refine sB ?_|(first|apply pX|apply bX)<;>intro hc|refine⟨oD,?_⟩|exact oD|fail
    refine hgo _ ?_;exact lE
   ·rw[Kj hlt hc2];rw[fj.2 hc2]at ad;clear hR hf hgo hc2 kv k1 k3;generalize lR o c sl (vs.getD i [])=L at*;generalize vs.getD i []=b at*;obtain⟨x,hx⟩: ∃x,x=l.getD i kZ:=⟨_,rfl⟩;rw[←hx]at ad e3;clear hx;obtain⟨xn,xa⟩:=x;simp only[dC,eg]at*;repeat' first|simp only[go_sem,seval,l2,l5,l6,e1,e2,e3]|refine cP ad ?_|refine sB ?_|(first|apply pX|apply bX)<;>intro hc|refine⟨oD,?_⟩|exact oD|fail
    all_goals rfl
  ·obtain rfl:i=vs.length:=by omega
   rw[yG hf];repeat' first|simp only[go_sem,seval,l2]|refine cP hms ?_|refine sB ?_|(first|apply pX|apply bX)<;>intro hc|refine⟨oD,?_⟩|exact oD|fail
   all_goals rfl
theorem BF {α:Type} {f:Nat→α→Nat} {m:Nat} (h: ∀x a,f x a<m): ∀(l:List α) (x:Nat),x<m→l.foldl f x<m
 |[],_,hx=>hx
 |a::l,x,_=>BF h l _ (h x a)
theorem Ng {s:dy} (hs:Be s) (ch:Bytes) (rs:List (Bool×Bytes)): ∀x∈tw s ch rs,x.length≤8∧aa x=true:=by
 intro x hx;obtain⟨q,hq,rfl⟩:=a5.1 hx;obtain⟨q1,q2,-⟩:=hs.q q hq;have hg:=hs.g _ (ay gO (show q.lF.toNat<s.groups.length by omega))
 have hm:=(jY hg.1).2.2.1;have hlt:mw s.groups ch rs q<256^8:=by
  refine ie ?_ (ep hg.2.1);unfold mw;exact BF (fun x a=>aG _ (by omega)) _ _ (aG _ (by omega))
 exact⟨mT.2 hlt,vN hlt⟩
theorem DS {c sl:Bytes} {s:dy} (hp:EJ c sl s) (h0:s.vars≠[]) (h00:s.eqs≠[]) {ch:Bytes} {rs:List (Bool×Bytes)} (h1:rs.length<1000000) (hf:jh c s.vars.length ch rs [] []=0) (hi:gM (bK s.groups) c sl s.vars ch rs≠0):
  aD Tryz.prog 206 [X0 c sl s,HU ch rs [] []] (.tup [Wg,B0,E (gM (bK s.groups) c sl s.vars ch rs)]):=by
 have hfo:=zw (c:=c) (sl:=sl) hp.r.vc s ch rs [] [] h1 (by simp) (by simp) (by simp)
 rw[hf]at hfo;have hfi:=F6 hp h00 (ch:=ch) (l:=rs) h1;have hl:qo c sl s ch rs=[]:=by unfold qo;rw[if_neg hi]
 rw[hl]at hfi;have hb:(gM (bK s.groups) c sl s.vars ch rs==0)=false:=by simpa using hi
 generalize gM (bK s.groups) c sl s.vars ch rs=e at*;obtain⟨gq,vs,es⟩:=s;simp only[X0,HU,dy.pv]at hfo hfi⊢;refine eW Tryz.call206 Tryz.func206 ?_;repeat' first|simp only[go_sem,seval,hb]|refine cP hfo ?_|refine cP hfi ?_|refine sB ?_|(first|apply pX|apply bX)<;>intro hc|refine⟨oD,?_⟩|exact oD|fail
 all_goals skip
theorem DT {c sl:Bytes} {s:dy} (hp:EJ c sl s) (h0:s.vars≠[]) (h00:s.eqs≠[]) {ch:Bytes} {rs:List (Bool×Bytes)} (h1:rs.length<1000000) (hf:jh c s.vars.length ch rs [] []=0) (hi:gM (bK s.groups) c sl s.vars ch rs=0):
  aD Tryz.prog 206 [X0 c sl s,HU ch rs [] []] (.tup [.agg [.sl (s.eqs.map fun q=>N (mw s.groups ch rs q)), .s ch, .sl (rs.map eg)],B0,E 0]):=by
 have hfo:=zw (c:=c) (sl:=sl) hp.r.vc s ch rs [] [] h1 (by simp) (by simp) (by simp)
 rw[hf]at hfo;have hfi:=F6 hp h00 (ch:=ch) (l:=rs) h1;have hl:qo c sl s ch rs=s.eqs.map fun q=>N (mw s.groups ch rs q):=by unfold qo;rw[if_pos hi]
 rw[hl,hi]at hfi;have hrs:rs≠[]:=by
  intro h;subst h;unfold jh at hf;have hv:([]:List (Bool×Bytes)).length≠s.vars.length:=by
   intro h;exact h0 (jz.1 h.symm)
  split at hf
  ·exact absurd hf (by decide)
  ·rw[if_pos (.inl hv)]at hf;exact absurd hf (by decide)
 have hcl:=Gl hrs h1;have hcn:=ED;generalize (s.eqs.map fun q=>N (mw s.groups ch rs q))=fl at*
 obtain⟨gq,vs,es⟩:=s;simp only[X0,HU,dy.pv,bG]at hfo hfi⊢;refine eW Tryz.call206 Tryz.func206 ?_;repeat' first|simp only[go_sem,seval]|refine cP hfo ?_|refine cP hfi ?_|refine cP hcl ?_|refine cP hcn ?_|(refine ae ?_)|refine sB ?_|(first|apply pX|apply bX)<;>intro hc|refine⟨oD,?_⟩|exact oD|fail
noncomputable def CY (c sl ctx:Bytes) (s:dy) (ch:Bytes) (rs:List (Bool×Bytes)) (gs:List Bytes) (ls:List (List (Bool×Bytes))):Int:=
 if jh c s.vars.length ch rs gs ls≠0 then jh c s.vars.length ch rs gs ls else if gM (bK s.groups) c sl s.vars ch rs≠0 then gM (bK s.groups) c sl s.vars ch rs else if aP (kj (Fj ctx s (tw s ch rs)) c)=ch then 0 else 16
theorem Js {c sl:Bytes} {s:dy} (hp:EJ c sl s) (hb:S2 s) (h00:s.eqs≠[]) {ctx:Bytes} (hx:ctx.length≤100000) {ch:Bytes} {rs:List (Bool×Bytes)} {gs:List Bytes} {ls:List (List (Bool×Bytes))} (h1:rs.length<1000000) (h2:gs.length≤1000) (h3:ls.length≤1000) (h4: ∀l∈ls,l.length<4611686018427387904):
  aD Tryz.prog 123 [.agg [.s c, .s sl], .s ctx,s.pv,C0,HU ch rs gs ls] (E (CY c sl ctx s ch rs gs ls)):=by
 have hn:=sZ hp;unfold CY
 by_cases hf:jh c s.vars.length ch rs gs ls=0
 ·obtain⟨rfl,rfl⟩:=G4 hf;rw[if_neg (by simpa using hf)]
  by_cases hi:gM (bK s.groups) c sl s.vars ch rs=0
  ·rw[if_neg (by simpa using hi)]
   have ho:=DT hp hb.v0 h00 h1 hf hi;have hmap:(s.eqs.map fun q=>N (mw s.groups ch rs q))=(tw s ch rs).map .s:=by unfold tw;rw[jE];rfl
   rw[hmap]at ho;have f0:tw s ch rs≠[]:=by unfold tw;simpa using h00
   have fl: ∀x∈tw s ch rs,x.length≤100000:=fun x hx=>by have:=(Ng hp.g ch rs x hx).1;omega
   have fn:(tw s ch rs).length≤900:=by unfold tw;rw[aH];have:=hp.g.ne;omega
   generalize tw s ch rs=fs at*;have hc:=vf hp.r hb hx f0 fn fl;have ha:=Df (c:=c) (sl:=sl) s B0 (aP (kj (Fj ctx s fs) c));generalize kj (Fj ctx s fs) c=z at*;obtain⟨gq,vs,es⟩:=s;simp only[X0,HU,dy.pv,bG]at hn ho hc ha⊢;clear hp hb h2 h3 h4 hf hi hmap
   by_cases hz:aP z=ch
   ·rw[if_pos hz];have hz1:(aP z==ch)=true:=by simpa using hz
    refine eW Tryz.call123 Tryz.func123 ?_;repeat' first|simp only[go_sem,seval,hz1]|refine cP hn ?_|refine cP ho ?_|refine cP hc ?_|refine cP ha ?_|(refine ae ?_)|refine sB ?_|(first|apply pX|apply bX)<;>intro hc|refine⟨oD,?_⟩|exact oD|fail
   ·rw[if_neg hz];have hz1:(aP z==ch)=false:=by simpa using hz
    refine eW Tryz.call123 Tryz.func123 ?_;repeat' first|simp only[go_sem,seval,hz1]|refine cP hn ?_|refine cP ho ?_|refine cP hc ?_|refine cP ha ?_|(refine ae ?_)|refine sB ?_|(first|apply pX|apply bX)<;>intro hc|refine⟨oD,?_⟩|exact oD|fail
  ·rw[if_pos hi];have ho:=DS hp hb.v0 h00 h1 hf hi;have hb:(gM (bK s.groups) c sl s.vars ch rs==0)=false:=by simpa using hi
   generalize gM (bK s.groups) c sl s.vars ch rs=e at*;obtain⟨gq,vs,es⟩:=s;simp only[X0,HU,dy.pv,bG]at hn ho⊢;refine eW Tryz.call123 Tryz.func123 ?_;repeat' first|simp only[go_sem,seval,hb]|refine cP hn ?_|refine cP ho ?_|refine sB ?_|(first|apply pX|apply bX)<;>intro hc|refine⟨oD,?_⟩|exact oD|fail
 ·rw[if_pos hf];have ho:=Hr hp.r h1 h2 h3 h4 hf (sl:=sl);have hb:(jh c s.vars.length ch rs gs ls==0)=false:=by simpa using hf
  generalize jh c s.vars.length ch rs gs ls=e at*;obtain⟨gq,vs,es⟩:=s;simp only[X0,HU,dy.pv]at hn ho⊢;refine eW Tryz.call123 Tryz.func123 ?_;repeat' first|simp only[go_sem,seval,hb]|refine cP hn ?_|refine cP ho ?_|refine sB ?_|(first|apply pX|apply bX)<;>intro hc|refine⟨oD,?_⟩|exact oD|fail
structure S4 (c:CK):Prop where
 e:gE c.m c.o=0
 o0:c.o≠[]
 p:dS (num c.o)=true
 vg:aa c.g=true
 gg:GP c.m c.o (num c.g)
 vy:aa c.y=true
 gy:GP c.m c.o (num c.y)
 hs: ∀x∈c.sh,aa x=true∧GP c.m c.o (num x)
 n1:1≤c.need
 n2:c.need≤c.sh.length
 nq:c.sh.length<num c.o
 cmb:GI c=true
theorem vC {c:CK} (h:gN c=0):S4 c:=by
 unfold gN at h
 split at h
 ·cases h
 rename_i h1
 split at h
 ·cases h
 split at h
 ·rename_i h3;exact absurd h h3
 rename_i h3
 split at h
 ·cases h
 rename_i h4
 split at h
 ·cases h
 rename_i h5
 split at h
 ·cases h
 rename_i h6
 split at h
 case isFalse=>cases h
 rename_i h7;obtain⟨hE,ho,vg,gg,-,vy,gy,-⟩:=Ab (by simpa using h3)
 refine⟨hE,ho,by simpa using h4,vg,gg,vy,gy,fun x hx=> ?_,by omega,by omega,by omega,h7⟩
 have h8:c.sh.all (kG c.m c.o)=true:=by simpa using h6
 have:=bc.1 h8 x hx;unfold kG at this;rw[aZ]at this;exact(dp hE).1 this.2
theorem GN {c:CK} (k:S4 c) (lo:c.o.length≤8):pW c.o [2]:=by
 obtain⟨-,vo,-,-,hq⟩:=jY k.e;have:=(hq k.o0).1;exact⟨vo,rfl,lo,by decide,by omega,by decide⟩
theorem Bs {c:CK} (k:S4 c) (lm:c.m.length≤8) (lo:c.o.length≤8) {i:Nat} {a d:Bytes} (hi:jg c.m c.o (c.sh.getD (i-1) [])=true) (ha:jg c.m c.o a=true) (hd:jg c.m c.o d=true):EJ c.o [2] (dV c i a d):=by
 have hg:jg c.m c.o c.g=true:=(dp k.e).2 ⟨k.vg,k.gg⟩;have ho:=k.o0;have hor:bK [(c.m,c.o)]=c.o:=by simp[bK,ho]
 refine⟨GN k lo,⟨⟨?_,?_,?_,?_,?_,?_⟩,?_,?_,?_,?_,?_,?_,?_⟩,?_⟩
 ·intro p hp;simp only[dV,cO]at hp;subst hp;exact⟨lm,lo⟩
 ·intro b hb;simp only[dV,cO]at hb;subst hb;decide
 ·intro q hq;simp only[dV,bL,ij,or_false]at hq;rcases hq with rfl|rfl<;>simp[xY]
 ·simp[dV]
 ·simp[dV]
 ·simp[dV]
 ·intro p hp;simp only[dV,cO]at hp;subst hp;exact⟨k.e,lm,lo⟩
 ·intro b hb;simp only[dV,cO]at hb;subst hb;exact⟨rfl,by decide⟩
 ·intro q hq;simp only[dV,bL,ij,or_false]at hq;rcases hq with rfl|rfl
  ·refine⟨kB _,by simp[dV],hi,by simp,fun t ht=> ?_⟩
   simp only[cO]at ht;subst ht;exact⟨by simp[xY],by simp[xY,dV],hg,rfl⟩
  ·refine⟨kB _,by simp[dV],hd,by simp,fun t ht=> ?_⟩
   simp only[cO]at ht;subst ht;exact⟨by simp[xY],by simp[xY,dV],ha,rfl⟩
 ·simp[dV]
 ·simp[dV]
 ·simp[dV]
 ·simp[DG,dV,hor,Kf,IM,ho]
 ·intro b hb _;show num c.o≤num (bK [(c.m,c.o)]);rw[hor];exact au _
theorem Br (c:CK) (lm:c.m.length≤8) (lo:c.o.length≤8) {i:Nat} {a d:Bytes} (lg:c.g.length≤128) (li:(c.sh.getD (i-1) []).length≤128) (la:a.length≤128) (ld:d.length≤128):S2 (dV c i a d):=by
 refine⟨⟨c.m,c.o,rfl,by omega,by omega⟩,by simp[dV],by simp[dV],fun b hb=> ?_,by simp[dV],fun q hq=> ?_⟩
 ·simp only[dV,cO]at hb;subst hb;decide
 ·simp only[dV,bL,ij,or_false]at hq;rcases hq with rfl|rfl
  ·refine⟨kB _,by simp,by show(c.sh.getD (i-1) []).length≤1000;omega,by simp,fun t ht=> ?_⟩
   simp only[cO]at ht;subst ht;exact⟨by simp[xY],by simp[xY],by show c.g.length≤1000;omega,by simp[xY]⟩
  ·refine⟨kB _,by simp,by show d.length≤1000;omega,by simp,fun t ht=> ?_⟩
   simp only[cO]at ht;subst ht;exact⟨by simp[xY],by simp[xY],by show a.length≤1000;omega,by simp[xY]⟩
theorem MM (c:CK) {i:Nat} {a d:Bytes} {x:Nat} (hx:x<18446744073709551616):WS (dV c i a d) [(x:Int)]:=by
 have hL:=np;intro q hq;simp only[dV,bL,ij,or_false]at hq;rcases hq with rfl|rfl
 all_goals
  intro t ht;simp only[cO]at ht;subst ht;refine⟨by simp[xY],by simp[xY],rfl,?_,?_⟩
  ·show((x:Int)).natAbs<du;omega
  ·show(1:Nat)*((x:Int)).natAbs<du;omega
abbrev U5 (a b:Bytes):PV:= .agg [.s a, .s b]
def Sw (i d:Nat) (vs:List Bytes) (sd:Bytes):Except Int (Bytes×List Int×Nat)→PV
 | .ok (ch,rs,j)=> .tup [.agg [E i,N d, .s ch, .sl (rs.map Zp), .sl [], .sl []],T vs sd (j:Nat),E 0]
 | .error e=> .tup [.agg [E 0, .s [], .s [], .sl [], .sl [], .sl []],T [] [] 0,E e]
theorem ym (c:CK) (ln:c.name.length≤60) (lm:c.m.length≤8) (lo:c.o.length≤8) (ls:c.sh.length≤8) (hc:gN c=0) {i:Nat} (h1:1≤i) (hi:i≤c.sh.length) {x A B:Bytes} {vs:List Bytes} {sd:Bytes} {a:Int} (hl:vs.length<1000000) (hsd:sd.length<1000000)
  (hv:[x,A,B].all aa=true) (hg:eU vs a=true) (hA:kG c.m c.o A=true) (hB:kG c.m c.o B=true) (hx:num x<num c.o) (hy:num c.g^num x%num c.m=num (c.sh.getD (i-1) [])) {d:Nat} (hd:d=num A^num x%num c.m) {R:Except Int (Bytes×List Int×Nat)} (hp:zW c.o [2] (po c i) (dV c i A (aP d)) [(num x:Int)] vs sd a=R) (h0: ∀e,R= .error e→e≠0):
  aD Tryz.prog 21 [c.pv,E i, .s x,U5 A B,T vs sd a] (Sw i d vs sd R):=by
 have k:=vC hc;have v1:=rU c ln lm lo ls;rw[hc]at v1;have v2:=mG [x,A,B] (by simp)
 rw[hv]at v2;simp only[ba,bG]at v2;have v3:=Bt vs sd a hl;rw[hg]at v3;have v4:=EW c lm lo (by omega) i (xs:=[A,B]) (by simp)
 have e4:G8 c (i:Nat) [A,B]=0:=by
  unfold G8;rw[if_neg (by omega)]
  simp[hA,hB]
 rw[e4]at v4;simp only[ba,bG]at v4;simp only[List.all_cons,List.all_nil,kA,aZ]at hv;obtain⟨vx,vA,vB⟩:=hv;obtain⟨vm,vo,m1,-,-⟩:=jY k.e;have hqW:=ep lo;have hmW:=ep lm;have hW:=jI;have v5:=oo vx;have hAg:jg c.m c.o A=true:=by unfold kG at hA;rw[aZ]at hA;exact hA.2
 obtain⟨-,gA⟩:=(dp k.e).1 hAg;have v6:=jK lm lo (ng:=false) k.e k.gg vx rfl;rw[fq k.vg,show cL (num c.m) (num c.g) false (num x)=num c.g^num x%num c.m from rfl,hy]at v6
 have hj:=ay ([]:Bytes) (show i-1<c.sh.length by omega)
 obtain⟨vj,gj⟩:=k.hs _ hj;rw[fq vj]at v6;have v7:=jK lm lo (ng:=false) k.e gA vx rfl;rw[fq vA,show cL (num c.m) (num A) false (num x)=num A^num x%num c.m from rfl,←hd]at v7
 have hdl:d<num c.m:=by rw[hd];exact aG _ (by omega)
 have vd:aa (aP d)=true:=vN (by omega)
 have gd:jg c.m c.o (aP d)=true:=(dp k.e).2 ⟨vd,by rw[aK,hd];exact gA.pow _⟩
 have v8:=Bq c;have v9:=EU c (by omega) (i:=i) (by omega)
 have w1:=E5 c h1 hi (by omega) A (aP d)
 have hS:=Bs k lm lo (i:=i) (a:=A) (d:=aP d) ((dp k.e).2 ⟨vj,gj⟩) hAg gd;have hB2:=Br c lm lo (i:=i) (a:=A) (d:=aP d) (cI k.vg) (cI vj) (cI vA) (cI vd);have hxl:(po c i).length≤100000:=by
  have: ∀i,i<100→(Lib.decDigits i).length≤2:=by decide+kernel
  have:=this i (by omega)
  simp[po];omega
 have w2:=Im hS hB2 (by simp[dV]) rfl hxl (w:=[(num x:Int)]) (by simp) (fun z hz=>by simp at hz;subst hz;have:=B3 (o:=x);have:=np;omega) (fun _=>MM c (by omega)) (vs:=vs) (sd:=sd) (a:=a) hl hsd
 rw[hp]at w2;simp only[ba,bG]at w2;rw[show Zp (num x:Int)= .agg [.b false, .s x] by show eg (lf (num x:Int))= _;rw[zF vx];rfl]at w2
 obtain⟨r,rfl⟩: ∃r,i=r+1:=⟨i-1,by omega⟩
 rw[kn]at v6 hy vj;have e1:=eA (l:=c.sh) (x:=r) (by omega)
 have l1:(c.sh.map PV.s).length=c.sh.length:=aH ..;have hw: ∀ _:True,IntKind.i64.wrap (((r+1:Nat):Int)-1)=(r:Int):=fun _=>by rw[IntWalk.i64_in _ (by omega)];omega
 have c1:=qj vx vo;have hcg:=Pk (num x) (num c.o);rw[decide_eq_true hx]at hcg;have hrl:r<c.sh.length:=by omega
 generalize a6 (num x) (num c.o)=cm at*;generalize c.sh.getD r []=y at*;generalize po c (r+1)=cx at*;generalize dV c (r+1) A (aP d)=S at*;clear hp hS hB2 k hy hd hc hj;obtain⟨sg,sv,se⟩:=S;obtain⟨name,m,o,g,yy,need,sh⟩:=c;simp only[CK.pv,dy.pv]at*;rcases R with e|⟨ch,rs,j⟩
 all_goals
  first|have h0:=h0 _ rfl|skip
  simp only[TW,Sw]at w2⊢;refine eW Tryz.call21 Tryz.func21 ?_;repeat' first|simp only[go_sem,seval,l1,e1,hw trivial,hcg,beq_self_eq_true,bne_self_eq_false]|refine cP v1 ?_|refine cP v2 ?_|refine cP v3 ?_|refine cP v4 ?_|refine cP v5 ?_|refine cP v6 ?_|refine cP v7 ?_|refine cP c1 ?_|refine cP v8 ?_|refine cP v9 ?_|refine cP w1 ?_|refine cP w2 ?_|refine sB ?_|(first|apply pX|apply bX)<;>intro hc|refine⟨oD,?_⟩|exact oD|fail
  all_goals rfl
theorem ET (c:CK) (ln:c.name.length≤60) (lm:c.m.length≤8) (lo:c.o.length≤8) (ls:c.sh.length≤8) (k:S4 c) {i:Nat} (h1:1≤i) (hi:i≤c.sh.length) {A B d:Bytes} (hv:[A,B,d].all aa=true) (hA:kG c.m c.o A=true) (hB:kG c.m c.o B=true) (hd:kG c.m c.o d=true) {ch:Bytes} {rs:List (Bool×Bytes)} {gs:List Bytes} {ls':List (List (Bool×Bytes))} (n1:rs.length<1000000) (n2:gs.length≤1000) (n3:ls'.length≤1000) (n4: ∀l∈ls',l.length<4611686018427387904):
  aD Tryz.prog 68 [c.pv,U5 A B, .agg [E i, .s d, .s ch, .sl (rs.map eg), .sl (gs.map .s), .sl (ls'.map Fy)]] (E (CY c.o [2] (po c i) (dV c i A d) ch rs gs ls')):=by
 have v2:=mG [A,B,d] (by simp)
 rw[hv]at v2;simp only[ba,bG]at v2;have v4:=EW c lm lo (by omega) i (xs:=[A,B,d]) (by simp)
 have e4:G8 c (i:Nat) [A,B,d]=0:=by
  unfold G8;rw[if_neg (by omega)]
  simp[hA,hB,hd]
 rw[e4]at v4;simp only[ba,bG]at v4;simp only[List.all_cons,List.all_nil,kA,aZ]at hv;obtain⟨vA,vB,vd⟩:=hv;have hAg:jg c.m c.o A=true:=by unfold kG at hA;rw[aZ]at hA;exact hA.2
 have hdg:jg c.m c.o d=true:=by unfold kG at hd;rw[aZ]at hd;exact hd.2
 have hj:=ay ([]:Bytes) (show i-1<c.sh.length by omega)
 obtain⟨vj,gj⟩:=k.hs _ hj;have v8:=Bq c;have v9:=EU c (by omega) (i:=i) (by omega)
 have w1:=E5 c h1 hi (by omega) A d
 have hS:=Bs k lm lo (i:=i) (a:=A) (d:=d) ((dp k.e).2 ⟨vj,gj⟩) hAg hdg;have hB2:=Br c lm lo (i:=i) (a:=A) (d:=d) (cI k.vg) (cI vj) (cI vA) (cI vd);have hxl:(po c i).length≤100000:=by
  have: ∀i,i<100→(Lib.decDigits i).length≤2:=by decide+kernel
  have:=this i (by omega)
  simp[po];omega
 have w2:=Js hS hB2 (by simp[dV]) hxl (ch:=ch) (rs:=rs) (gs:=gs) (ls:=ls') n1 n2 n3 n4
 generalize CY c.o [2] (po c i) (dV c i A d) ch rs gs ls'=E0 at*;generalize po c i=cx at*;generalize dV c i A d=S at*;clear hS hB2 k hj;obtain⟨sg,sv,se⟩:=S;obtain⟨name,m,o,g,yy,need,sh⟩:=c;simp only[CK.pv,dy.pv,HU]at*;refine eW Tryz.call68 Tryz.func68 ?_;repeat' first|simp only[go_sem,seval]|refine cP v2 ?_|refine cP v4 ?_|refine cP v8 ?_|refine cP v9 ?_|refine cP w1 ?_|refine cP w2 ?_|refine sB ?_|(first|apply pX|apply bX)<;>intro hc|refine⟨oD,?_⟩|exact oD|fail
 all_goals rfl
theorem yI (m x:Nat) (z:Int):cL m x (lf z).1 (num (lf z).2)=iJ m x z:=by
 simp only[lf,zS,zs];rfl
theorem HB (m x z:Nat):cL m x (!(aP z==[])) (num (aP z))=iJ m x (-(z:Int)):=by
 have e:(!(aP z==([]:Bytes)))=decide (-(z:Int)<0):=by
  rw[dx];simp[gI];omega
 rw[e,aK];unfold iJ;congr 1;omega
theorem Ak {c sl ctx:Bytes} {s:dy} {w:List Int} {vs:List Bytes} {sd:Bytes} {ch:Bytes} {rs:List Int} {j:Nat}: ∀{n i:Nat},Aj c sl ctx s w vs sd n i= .ok (ch,rs,j)→ ∃i' ms z,my (bK s.groups) c sl vs sd s.vars i' []= .ok ms∧z=kj (Fj ctx s (vT s ms)) c∧ch=aP z∧rs=fH (bK s.groups) s.vars ms w z
 |0,i,h=>by cases h
 |n+1,i,h=>by
  rw[Aj]at h
  split at h
  ·cases h
  ·rename_i ms hms
   split at h
   ·simp only[uf,cX]at h;obtain⟨rfl,rfl,-⟩:=h;exact⟨i,ms,_,hms,rfl,rfl,rfl⟩
   ·exact Ak h
theorem Ci {c sl ctx:Bytes} {s:dy} {w:List Int} {vs:List Bytes} {sd:Bytes} {a:Int} {R:Bytes×List Int×Nat} (h:zW c sl ctx s w vs sd a= .ok R):Aj c sl ctx s w vs sd 64 a.toNat= .ok R:=by
 unfold zW at h
 split at h
 ·cases h
 ·exact h
theorem Pq {m o x y z b t:Nat} (hm:0<m) (hu:fk m b) (ho:b^o%m=1%m) (ht:b^x%m=t):iJ m t (-(z:Int))*iJ m b (((y:Int)+z*x)%o)%m=iJ m b y:=by
 have h1:iJ m b (((y:Int)+z*x)%o)=iJ m b ((y:Int)+z*x):=Ky hu hm ho (by
  refine⟨-(((y:Int)+z*x)/o),?_⟩;have:=Int.mul_ediv_add_emod ((y:Int)+z*x) o
  grind)
 rw[h1,←ht,show((z:Int)*(x:Int))=((z*x:Nat):Int)from(Int.natCast_mul _ _).symm]
 exact Co hu hm _ _ _
theorem Jf {c:CK} (k:S4 c) (lo:c.o.length≤8) {i:Nat} {A d ctx:Bytes} (gA:GP c.m c.o (num A)) {x:Nat} (h1:num c.g^x%num c.m=num (c.sh.getD (i-1) [])) (h2:num A^x%num c.m=num d) {vs:List Bytes} {sd:Bytes} {a:Int} {ch:Bytes} {rs:List Int} {j:Nat} (h:zW c.o [2] ctx (dV c i A d) [(x:Int)] vs sd a= .ok (ch,rs,j)):CY c.o [2] ctx (dV c i A d) ch (rs.map lf) [] []=0:=by
 obtain⟨i',ms,z,hms,hz,rfl,rfl⟩:=Ak (Ci h);have hor:bK (dV c i A d).groups=c.o:=by simp[dV,bK,k.o0]
 have hvr:(dV c i A d).vars=[[]]:=rfl;rw[hor,hvr]at hms;rw[hor,hvr];simp only[my,mI,if_true,List.nil_append]at hms;obtain⟨vm,vo,m1,-,hq⟩:=jY k.e;have q1:=(hq k.o0).1
 split at hms
 ·cases hms
 rename_i yz hyz
 split at hyz
 ·cases hyz
 rename_i yb hyb;injection hyz with hyz
 injection hms with hms
 subst hyz;subst hms;obtain⟨y,hy⟩: ∃y,y=num yb:=⟨_,rfl⟩;rw[←hy]at hz⊢;have hzc:z<num c.o:=by rw[hz];exact yX _ (by omega)
 have hr0:fH c.o [[]] [(y:Int)] [(x:Int)] z=[((y:Int)+z*x)%num c.o]:=by simp[fH,gK]
 rw[hr0];have hr1:0≤((y:Int)+z*x)%num c.o:=fE _ (by omega)
 have hr2:((y:Int)+z*x)%num c.o<num c.o:=fQ _ (by omega)
 have go: ∀b,GP c.m c.o b→b^num c.o%num c.m=1%num c.m:=fun b hb=>hb.ord.resolve_left k.o0
 have hfm:tw (dV c i A d) (aP z) ([((y:Int)+z*x)%num c.o].map lf)=vT (dV c i A d) [(y:Int)]:=by
  have e1:=Pq (o:=num c.o) (x:=x) (y:=y) (z:=z) (by omega) k.gg.unit (go _ k.gg) h1
  have e2:=Pq (o:=num c.o) (x:=x) (y:=y) (z:=z) (by omega) gA.unit (go _ gA) h2
  have p1: ∀b,GP c.m c.o b→cL (num c.m) b false (num [1])=b:=fun b hb=>by
   show b^(num [1])%num c.m=b;rw[show num ([1]:Bytes)=1 from rfl,Nat.pow_one,bA hb.lt]
  have t1: ∀b:Bytes,tz [(y:Int)] (xY b 0)=y:=fun b=>by simp[tz,xY,Gi,num]
  simp only[tw,vT,dV,ba,bG,mw,Q6,List.foldl_cons,List.foldl_nil,tx,xY,show((0:Int)).toNat=0 from rfl,Int.toNat_natCast,cb,HB,p1 _ k.gg,p1 _ gA,yI,e1,e2]
  simp only[show∀b,tz [(y:Int)] ⟨b,((0:Nat):Int),false,[1]⟩=y from fun b=>t1 b,FM,yI]
 obtain⟨r,hr⟩: ∃r:Nat,((y:Int)+z*x)%num c.o=r:=⟨_,(jP hr1).symm⟩;rw[hr]at hfm hr2⊢;have hqW:=ep lo;have iz:lf (r:Int)=(false,aP r):=by
  have:=zF (x:=aP r) (vN (by omega))
  rwa[aK]at this
 have a1:aa (aP z)=true:=vN (by omega)
 have a2:aa (aP r)=true:=vN (by omega)
 simp only[ba,bG,iz]at hfm⊢;have f1:jh c.o (dV c i A d).vars.length (aP z) [(false,aP r)] [] []=0:=by
  unfold jh;rw[a1,if_neg (by simp[db,a2]),if_neg (by simp[dV]),if_neg (by rw[aK];omega)]
 have f2:gM (bK (dV c i A d).groups) c.o [2] (dV c i A d).vars (aP z) [(false,aP r)]=0:=by
  rw[hor,hvr];have f3:DQ c.o c.o [2] [[]] [(false,aP r)]=true:=yG fun q hq=>by
   have:q=0:=by simp at hq;omega
   subst this;simp[y5,lR,aK];omega
  unfold gM;rw[a1,f3,if_neg (by simp[db,a2]),if_neg (by rw[aK];omega),if_neg (by simp),if_neg (by simp)]
 unfold CY;rw[if_neg (by rw[f1];simp),if_neg (by rw[f2];simp),hfm,←hz,if_pos rfl]
end Go.Proofs.YtmobkhegihemeaaGreatDoor
