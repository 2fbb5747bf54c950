/-
  Part of the proof, part KC46. Own work.
-/
import Derived.Test.YtmobkhegihemeaaGreatDoorKC45
set_option linter.all false
namespace Go.Proofs.YtmobkhegihemeaaGreatDoor
open Go Go.Dom Go.Num
set_option maxRecDepth 100000
set_option maxHeartbeats 16000000
def Mi (c:CK):List Bytes:=c.m::c.o::c.g::c.y::c.sh
theorem Mj (c:CK):(Mi c).all aa=([c.m,c.o,c.g,c.y].all aa&&c.sh.all aa):=by
 simp[Mi,Bool.and_assoc]
theorem Oy (L:List Bytes):List.map AV.v (List.flatMap PV.cells (L.map PV.s))=(L.map PV.s).map AV.v:=by
 congr 1
 induction L with
 |nil=>rfl
 |cons x L ih=>rw[ba,dE,ih];rfl
theorem Cj (c:CK) (ln:c.name.length≤60) (lm:c.m.length≤8) (lo:c.o.length≤8) (ls:c.sh.length≤8) (hsh:c.sh≠[]):aD Tryz.prog 10 [c.pv] (E (gN c)):=by
 obtain⟨L,hL⟩: ∃L,L=Mi c:=⟨_,rfl⟩;have hall:=Mj c;rw[←hL]at hall;have hcE:L.all aa=false→gN c=3:=fun h=>by
  rw[hall]at h;unfold gN;rw[if_pos];rcases Bool.and_eq_false_iff.1 h with h|h<;>rw[h]<;>simp
 obtain⟨eC,hC⟩: ∃e,e=gN c:=⟨_,rfl⟩;rw[←hC]at hcE⊢;obtain⟨name,m,o,g,y,need,sh⟩:=c;simp only[CK.pv,Mi]at*;have l1:(sh.map PV.s).length=sh.length:=aH ..;have h3:=wW name ln;have h4:=s9 lm lo g y;have h5:=D6 o (by omega)
 obtain⟨n,hn0⟩: ∃n,n=sh.length:=⟨_,rfl⟩;have lS:sh.length=n:=hn0.symm;have n0:0<n:=by rw[hn0];exact ky.2 hsh
 have q0:(n=0)=False:=eq_false (by omega)
 have q1:(∀(x:PV),x∈List.map PV.s sh→x.cells.length=1)=True:=eq_true fun x hx=>by
  obtain⟨z,-,rfl⟩:=a5.1 hx;rfl
 have q2:(∀(y:AV),y∈List.map AV.v (List.map PV.s sh)→y.one=true)=True:=eq_true fun x hx=>by
  obtain⟨z,hz,rfl⟩:=a5.1 hx;obtain⟨w,-,rfl⟩:=a5.1 hz;rfl
 rw[lS]at l1;have zL:AV.v (.s m)::AV.v (.s o)::AV.v (.s g)::AV.v (.s y)::(sh.map PV.s).map AV.v=(L.map PV.s).map AV.v:=by rw[hL];rfl
 have LL:L.length=4+n:=by rw[hL,hn0];simp;omega
 have k0:(L.map PV.s).length=4+n:=by rw[aH,LL]
 have k1:List.take (4+n) ((L.map PV.s).map AV.v)=(L.map PV.s).map AV.v:=bM (by rw[aH,k0];omega)
 have k2:((L.map PV.s).map AV.v).all AV.one=true:=by
  rw[bc];intro a ha;obtain⟨b,hb,rfl⟩:=a5.1 ha;obtain⟨c,-,rfl⟩:=a5.1 hb;rfl
 have k3:chunk 1 (4+n) (L.map PV.s)=L.map PV.s:=by have:=mU (L.map PV.s);rwa[k0]at this
 have k4: ∀hf f,((L.map PV.s).map AV.v).flatMap (aN hf (f+1))=[]:=fun hf f=>qR hf f _
 refine eW Tryz.call10 Tryz.func10 ?_;repeat' first|simp only[go_sem,seval,l1,lS,q0,Oy,q1,q2,zL]|refine sB ?_|(first|apply pX|apply bX)<;>intro hc|refine⟨oD,?_⟩|exact oD|fail
 refine aj (α:=Nat) (fun i=>4+n-i) (fun i=>⟨[(3, .v (.sl (L.map .s))),(1, .p 1000 0 0),(4,E' i)],[(1000,⟨0,[.v (.s name), .v (.s m), .v (.s o), .v (.s g), .v (.s y), .v (E need), .v (.sl (sh.map .s))],false,none⟩)],1022⟩) (fun i=>i≤4+n∧(L.drop i).all aa=L.all aa) 0 (fun _=>bQ rfl) ⟨aL _,rfl⟩ ?_ ?_
 ·refine AS.Le.Kg [(3, .sl (L.map .s))] [1019] (fun q hq=>by rw[cO.1 hq];exact⟨by decide,rfl⟩) ?_ (by first|decide|omega) ?_ ?_
  ·intro p hp;rw[cO.1 hp];simp only[aF,ar,view,aN,eF,cW,nJ,dP,aH,Nat.reduceEqDiff,if_true,if_false,LL,k1,k2,k3,k4];simp
   try exact k3
  ·simp[cl,cj,aF,ar,AV.bd,AV.bd.bdL]
  ·simp[cl,cj,aF,ar,AV.bd,AV.bd.bdL]
 ·rintro i ⟨hi,hf⟩ R hR
  by_cases hlt:i<4+n
  ·have e1:=eA (l:=L) (x:=i) (by omega)
   have hgo:=fun h=>hR (i+1) ⟨by omega,h⟩ (by omega)
   rw[aR [] (show i<L.length by omega),List.all_cons]at hf
   have vx:=aO (L.getD i []);generalize L.getD i []=x at*;clear hR k1 k2 k3 k4 zL
   cases hv:aa x with
   |true=>
    rw[hv]at hf vx;rw[bZ]at hf;have hgo:=hgo hf;clear hf;repeat' first|simp only[go_sem,seval,k0,LL,e1]|refine cP vx ?_|refine sB ?_|(first|apply pX|apply bX)<;>intro hc|refine⟨oD,?_⟩|exact oD|fail
    refine hgo _ ?_;exact lE
   |false=>
    rw[hv]at hf vx;rw[ec]at hf;rw[hcE hf.symm];clear hgo hf;repeat' first|simp only[go_sem,seval,k0,LL,e1]|refine cP vx ?_|refine sB ?_|(first|apply pX|apply bX)<;>intro hc|refine⟨oD,?_⟩|exact oD|fail
    all_goals rfl
  ·obtain rfl:i=4+n:=by omega
   have hLa:L.all aa=true:=by
    rw[←hf,gS (by omega)];rfl
   rw[hLa]at hall;obtain⟨hb1,hb2⟩:=Bool.and_eq_true_iff.1 hall.symm;clear hR hf hcE k1 k2 k3 k4 zL hall;rw[hC];unfold gN;clear hC;simp only[hb1,hb2,bu,rz,aW,if_false]
   cases hn:kq name with
   |false=>
    rw[hn]at h3;simp only[bR,if_true];repeat' first|simp only[go_sem,seval,k0,LL]|refine cP h3 ?_|refine sB ?_|(first|apply pX|apply bX)<;>intro hc|refine⟨oD,?_⟩|exact oD|fail
    all_goals rfl
   |true=>
   rw[hn]at h3;simp only[bu,aW,if_false]
   by_cases hk:lV m o g y=0
   case neg=>
    rw[if_pos hk];generalize lV m o g y=e at*;repeat' first|simp only[go_sem,seval,k0,LL]|refine cP h3 ?_|refine cP h4 ?_|refine sB ?_|(first|apply pX|apply bX)<;>intro hc|refine⟨oD,?_⟩|exact oD|fail
    all_goals rfl
   rw[hk]at h4;rw[if_neg (by simpa using hk)]
   obtain⟨hE,ho,vg,gg,-,vy,gy,-⟩:=Ab hk;obtain⟨vm,vo,m1,-,-⟩:=jY hE;have hqW:=ep lo;rw[vo,decide_eq_true lo,if_pos rfl,if_pos lo]at h5;simp only[bZ]at h5
   cases hp:dS (num o)with
   |false=>
    rw[hp]at h5;simp only[bR,if_true];repeat' first|simp only[go_sem,seval,k0,LL]|refine cP h3 ?_|refine cP h4 ?_|refine cP h5 ?_|refine sB ?_|(first|apply pX|apply bX)<;>intro hc|refine⟨oD,?_⟩|exact oD|fail
    all_goals rfl
   |true=>
   rw[hp]at h5;simp only[bu,aW,if_false];rw[lS]at ls;simp only[lS];have hW:=jI;have h6:=gP n (by omega)
   have h7:=tU (aP n) o;rw[vN (show n<18446744073709551616 by omega),vo,aK]at h7
   simp only[dh,if_true]at h7;have hw: ∀ _:True,IntKind.u64.wrap (n:Int)=n:=fun _=>IntWalk.u64_in _ (by omega)
   have hcg:=rV n (num o);generalize a6 n (num o)=cm at*
   by_cases hb:(num o:Int)≤n∨need<1∨need>n
   ·rw[if_pos hb]
    by_cases b1:num o≤n
    ·rw[decide_eq_true b1]at hcg;repeat' first|simp only[go_sem,seval,k0,LL,l1,lS,hw trivial,hcg]|refine cP h3 ?_|refine cP h4 ?_|refine cP h5 ?_|refine cP h6 ?_|refine cP h7 ?_|refine sB ?_|(first|apply pX|apply bX)<;>intro hc|refine⟨oD,?_⟩|exact oD|fail
     all_goals rfl
    ·rw[decide_eq_false b1]at hcg
     by_cases b2:need<1
     ·repeat' first|simp only[go_sem,seval,k0,LL,l1,lS,hw trivial,hcg]|refine cP h3 ?_|refine cP h4 ?_|refine cP h5 ?_|refine cP h6 ?_|refine cP h7 ?_|refine sB ?_|(first|apply pX|apply bX)<;>intro hc|refine⟨oD,?_⟩|exact oD|fail
      all_goals rfl
     ·have b3:need>n:=by omega
      repeat' first|simp only[go_sem,seval,k0,LL,l1,lS,hw trivial,hcg]|refine cP h3 ?_|refine cP h4 ?_|refine cP h5 ?_|refine cP h6 ?_|refine cP h7 ?_|refine sB ?_|(first|apply pX|apply bX)<;>intro hc|refine⟨oD,?_⟩|exact oD|fail
      all_goals rfl
   rw[if_neg hb];obtain⟨d,rfl⟩: ∃d:Nat,need=d:=⟨need.toNat,by omega⟩
   rw[decide_eq_false (show¬(num o≤n) by omega)]at hcg
   have hsv:=bc.1 hb2;repeat' first|simp only[go_sem,seval,k0,LL,l1,lS,hw trivial,hcg]|refine cP h3 ?_|refine cP h4 ?_|refine cP h5 ?_|refine cP h6 ?_|refine cP h7 ?_|refine sB ?_|(first|apply pX|apply bX)<;>intro hc|refine⟨oD,?_⟩|exact oD|fail
   clear h3 h4 h5 h6 h7;refine aj (α:=Nat) (fun i=>n-i) (fun i=>⟨[(1, .p 1000 0 0),(9,E' n),(10,E' i)],[(1000,⟨0,[.v (.s name), .v (.s m), .v (.s o), .v (.s g), .v (.s y), .v (E d), .v (.sl (sh.map .s))],false,none⟩)],1078⟩) (fun i=>i≤n∧(sh.drop i).all (kG m o)=sh.all (kG m o)) 0 (fun _=>bQ rfl) ⟨aL _,rfl⟩ ?_ ?_
   ·exact lE
   ·rintro i ⟨hi,hf⟩ R hR
    by_cases hlt:i<n
    ·have e1:=eA (l:=sh) (x:=i) (by omega)
     have hgo:=fun h=>hR (i+1) ⟨by omega,h⟩ (by omega)
     rw[aR [] (show i<sh.length by omega),List.all_cons]at hf
     generalize sh.getD i []=x at*;have hv:=yK lm lo x;clear hR
     cases hbx:kG m o x with
     |true=>
      rw[hbx,bZ]at hf;rw[hbx]at hv;repeat' first|simp only[go_sem,seval,l1,lS,e1]|refine cP hv ?_|refine sB ?_|(first|apply pX|apply bX)<;>intro hc|refine⟨oD,?_⟩|exact oD|fail
      refine hgo hf _ ?_;exact lE
     |false=>
      rw[hbx,ec]at hf;rw[hbx]at hv;rw[←hf];clear hgo hf;repeat' first|simp only[go_sem,seval,l1,lS,e1]|refine cP hv ?_|refine sB ?_|(first|apply pX|apply bX)<;>intro hc|refine⟨oD,?_⟩|exact oD|fail
      all_goals rfl
    ·obtain rfl:n=i:=by omega
     rw[←lS,cY]at hf;have hgI:sh.all (kG m o)=true:=hf.symm;rw[hgI];simp only[bu,aW,if_false];clear hf hR;obtain⟨A,hA⟩: ∃A:Nat→Nat,A=fun i=>Ia (num m) (num o) (List.range d) ((y::sh.take (d-1)).map num) i:=⟨_,rfl⟩
     obtain⟨cB,hcB0⟩: ∃cB,cB=GI ⟨name,m,o,g,y,(d:Int),sh⟩:=⟨_,rfl⟩;rw[←hcB0];have hcB:cB=(List.range (n+1)).all fun i=>decide (i<d)||decide (A i=num (sh.getD (i-1) [])):=by
      rw[hcB0,hA,←lS];rfl
     clear hcB0;have hgp: ∀x∈sh,GP m o (num x):=fun x hx=>by
      have:=bc.1 hgI x hx;unfold kG at this;rw[aZ]at this;exact((dp hE).1 this.2).2
     have hge: ∀x∈(y::sh.take (d-1)).map num,GP m o x:=fun x hx=>by
      obtain⟨z,hz,rfl⟩:=a5.1 hx;rcases bL.1 hz with rfl|hz
      ·exact gy
      ·exact hgp z (iW hz)
     have hlv: ∀x∈y::sh.take (d-1),aa x=true:=fun x hx=>by
      rcases bL.1 hx with rfl|hx
      ·exact vy
      ·exact hsv x (iW hx)
     have hll:(y::sh.take (d-1)).length=d:=by simp;omega
     have hcat:=fun k (hk:k<num o)=>xT ⟨name,m,o,g,y,(d:Int),sh⟩ lm lo hE hp (pts:=List.range d) (k9:=(y::sh.take (d-1)).map num) (by simp;omega) (by rw[aH,hll];simp) AB (fun a ha=>by have:=dk.1 ha;exact⟨by omega,by show a<num o;omega⟩) (by simp;omega) hge (x:=k) hk
     rw[←DI hlv]at hcat;have hcat: ∀k,k≤n→aD Tryz.prog 41 [.agg [.s name, .s m, .s o, .s g, .s y,E d, .sl (sh.map .s)], .sl ((List.range d).map uP), .sl ((y::sh.take (d-1)).map .s),E k] (N (A k)):=fun k hk=>by rw[hA];exact hcat k (by omega)
     have hLs: ∀k,k+1<sh.length→sh.take (k+1)=sh.take k++[sh.getD k []]:=fun k hk=>dN [] (by omega)
     have hLr: ∀k,List.range (k+1)=List.range k++[k]:=fun k=>rk
     clear hA hgp hge hlv;repeat' first|simp only[go_sem,seval,l1,lS]|refine sB ?_|(first|apply pX|apply bX)<;>intro hc|refine⟨oD,?_⟩|exact oD|fail
     by_cases hd1:d=1
     ·have hr1:(List.range d).map uP=[E 0]:=by rw[hd1];rfl
      have hr2:(y::sh.take (d-1)).map PV.s=[.s y]:=by rw[hd1];rfl
      rw[hr1,hr2]at hcat;have hlt1: ∀ _:True,decide ((1:Int)<(d:Int))=false:=fun _=>decide_eq_false (by omega)
      refine ae ?_;repeat' first|simp only[go_sem,seval,l1,lS,hlt1 trivial]|refine sB ?_|(first|apply pX|apply bX)<;>intro hc|refine⟨oD,?_⟩|exact oD|fail
      refine aj (α:=Nat) (fun k=>n+1-k) (fun k=>⟨[(1, .p 1000 0 0),(9,E' n),(11, .fs [E 0]),(12, .fs [.s y]),(14,E' k)],[(1000,⟨0,[.v (.s name), .v (.s m), .v (.s o), .v (.s g), .v (.s y), .v (E d), .v (.sl (sh.map .s))],false,none⟩)],1096⟩) (fun k=>d≤k∧k≤n+1∧ ∀i,d≤i→i<k→A i=num (sh.getD (i-1) [])) d (fun _=>bQ rfl) ⟨au _,by omega,fun i h1 h2=>by omega⟩ ?_ ?_
      ·exact lE
      ·rintro k ⟨hdk,hkn,hall⟩ R hR
       by_cases hlt:k≤n
       ·obtain⟨j,rfl⟩: ∃j,k=j+1:=⟨k-1,by omega⟩
        have hgo:=fun(h:A (j+1)=num (sh.getD j []))=>hR (j+1+1) ⟨by omega,by omega,fun i h1 h2=>by
         by_cases e:i=j+1
         ·subst e;exact h
         ·exact hall i h1 (by omega)⟩ (by omega)
        have e1:=eA (l:=sh) (x:=j) (by omega)
        have vx:=hsv _ (ay [] (show j<sh.length by omega))
        have hc:=hcat (j+1) (by omega)
        have hw: ∀ _:True,IntKind.i64.wrap (((j+1:Nat):Int)-1)=(j:Int):=fun _=>by rw[IntWalk.i64_in _ (by omega)];omega
        have hb:=MF vx (A (j+1));have hle: ∀ _:True,decide (((j+1:Nat):Int)≤(n:Int))=true:=fun _=>decide_eq_true (by omega)
        have hbad:A (j+1)≠num (sh.getD j [])→cB=false:=fun h=>by
         rw[hcB];exact uC.2 ⟨j+1,dk.2 (by omega),by
          rw[kn,decide_eq_false (show¬(j+1<d) by omega),decide_eq_false h];decide⟩
        generalize A (j+1)=v at*;generalize sh.getD j []=x at*;clear hR hall hcat hsv hcB
        by_cases hv:v=num x
        ·rw[decide_eq_true hv]at hb;have hgo:=hgo hv;have hb':(aP v !=x)=false:=by rw[bne,hb];rfl
         clear hbad;repeat' first|simp only[go_sem,seval,l1,lS,e1,hw trivial,hb,hb',hle trivial,bu]|refine cP hc ?_|refine sB ?_|(first|apply pX|apply bX)<;>intro hc|refine⟨oD,?_⟩|exact oD|fail
         refine hgo _ ?_;exact lE
        ·rw[decide_eq_false hv]at hb;rw[hbad hv];have hb':(aP v !=x)=true:=by rw[bne,hb];rfl
         clear hgo hbad;repeat' first|simp only[go_sem,seval,l1,lS,e1,hw trivial,hb,hb',hle trivial,bR]|refine cP hc ?_|refine sB ?_|(first|apply pX|apply bX)<;>intro hc|refine⟨oD,?_⟩|exact oD|fail
         all_goals rfl
       ·obtain rfl:k=n+1:=by omega
        have hgood:cB=true:=by
         rw[hcB];refine bc.2 fun i hi=> ?_
         have:=dk.1 hi
         by_cases h:i<d
         ·rw[decide_eq_true h];rfl
         ·rw[decide_eq_true (hall i (by omega) (by omega))];simp
        rw[hgood];have hle: ∀ _:True,decide (((n+1:Nat):Int)≤(n:Int))=false:=fun _=>decide_eq_false (by omega)
        clear hR hall hcat hsv hcB;repeat' first|simp only[go_sem,seval,hle trivial]|refine sB ?_|(first|apply pX|apply bX)<;>intro hc|refine⟨oD,?_⟩|exact oD|fail
        all_goals rfl
     ·refine ae ?_;have e1:=eA (l:=sh) (x:=0) (by omega)
      have t1:sh.take 1=[sh.getD 0 []]:=by rw[dN [] (by omega)];simp
      have hlt1: ∀ _:True,decide ((1:Int)<(d:Int))=true:=fun _=>decide_eq_true (by omega)
      repeat' first|simp only[go_sem,seval,l1,lS,e1,hlt1 trivial]|refine sB ?_|(first|apply pX|apply bX)<;>intro hc|refine⟨oD,?_⟩|exact oD|fail
      obtain⟨PX,hPX⟩: ∃PX:Nat→List PV,∀k,PX k=(List.range k).map uP:=⟨_,fun _=>rfl⟩
      obtain⟨PY,hPY⟩: ∃PY:Nat→List PV,∀k,PY k=(y::sh.take k).map PV.s:=⟨_,fun _=>rfl⟩
      rw[←hPX,←hPY]at hcat;have XL: ∀k,(PX k).length=k:=fun k=>by rw[hPX];simp
      have YL: ∀k,k≤n→(PY k).length=k+1:=fun k hk=>by rw[hPY];simp;omega
      have XO: ∀k,((PX k).map AV.v).all AV.one=true:=fun k=>by rw[hPX];simp[uP,AV.one,PV.one]
      have YO: ∀k,((PY k).map AV.v).all AV.one=true:=fun k=>by
       rw[hPY,bc];intro a ha;obtain⟨b,hb,rfl⟩:=a5.1 ha;obtain⟨c,-,rfl⟩:=a5.1 hb;rfl
      have XN: ∀hf f k,((PX k).map AV.v).flatMap (aN hf (f+1))=[]:=fun hf f k=>qR hf f _
      have YN: ∀hf f k,((PY k).map AV.v).flatMap (aN hf (f+1))=[]:=fun hf f k=>qR hf f _
      have XB: ∀k,∀c∈(PX k).map AV.v,c.bd 1111=true:=fun k c hc=>by obtain⟨x,-,rfl⟩:=a5.1 hc;rfl
      have YB: ∀k,∀c∈(PY k).map AV.v,c.bd 1111=true:=fun k c hc=>by obtain⟨x,-,rfl⟩:=a5.1 hc;rfl
      have XS: ∀k,(PX k).map AV.v++[.v (E (k:Nat))]=(PX (k+1)).map AV.v:=fun k=>by rw[hPX,hPX,hLr];simp[uP]
      have YS: ∀k,k+1<n→(PY k).map AV.v++[.v (.s (sh.getD k []))]=(PY (k+1)).map AV.v:=fun k hk=>by rw[hPY,hPY,hLs k (by omega)];simp
      have X2:(PX 2).map AV.v=[.v (E 0), .v (E 1)]:=by rw[hPX];rfl
      have Y1:(PY 1).map AV.v=[.v (.s y), .v (.s (sh.getD 0 []))]:=by rw[hPY,t1];rfl
      have X2':PX 2=[E 0,E 1]:=by rw[hPX];rfl
      have Y1':PY 1=[.s y, .s (sh.getD 0 [])]:=by rw[hPY,t1];rfl
      clear hPX hPY hLr hLs;refine aj (α:=Nat⊕Unit) (fun j=>match j with| .inl j=>d-j| .inr _=>0) (fun j=>match j with| .inl j=>⟨[(1, .p 1000 0 0),(9,E' n),(11, .rs 1096 j 0 (j+2) 1),(12, .rs 1106 j 0 (j+2) 1),(13,E' (j+2))],[(1000,⟨0,[.v (.s name), .v (.s m), .v (.s o), .v (.s g), .v (.s y), .v (E d), .v (.sl (sh.map .s))],false,none⟩),(1096,⟨j,(PX (j+2)).map AV.v,true,some 3⟩),(1106,⟨j,(PY (j+1)).map AV.v,true,some 22⟩)],1111⟩| .inr _=>⟨[(11, .v (.sl (PX d))),(12, .v (.sl (PY (d-1)))),(1, .p 1000 0 0),(9,E' n),(13,E' d)],[(1000,⟨0,[.v (.s name), .v (.s m), .v (.s o), .v (.s g), .v (.s y), .v (E d), .v (.sl (sh.map .s))],false,none⟩)],1111⟩) (fun j=>match j with| .inl j=>j+2<d| .inr _=>True) (if 2<d then .inl 0 else .inr ()) (fun j=>by cases j<;>exact bQ rfl) ?_ ?_ ?_
      ·by_cases h2:2<d
       ·rw[if_pos h2];show 0+2<d;omega
       ·rw[if_neg h2];trivial
      ·by_cases h2:2<d
       ·rw[if_pos h2];simp only[cW,X2,Y1];exact lE
       ·rw[if_neg h2];have hd2:d=2:=by omega
        have z1:PX d=[E 0,E 1]:=by rw[hd2,X2']
        have z2:PY (d-1)=[.s y, .s (sh.getD 0 [])]:=by rw[hd2,Y1']
        simp only[z1,z2];have z3:((d:Nat):Int)=2:=by omega
        refine AS.Le.Kg [(11, .sl [E 0,E 1]),(12, .sl [.s y, .s (sh.getD 0 [])])] [1096,1106] ?_ ?_ (by first|decide|omega) ?_ ?_
        ·intro q hq;simp at hq;rcases hq with rfl|rfl<;>exact⟨by decide,rfl⟩
        ·intro p hp;simp at hp;rcases hp with rfl|rfl<;>simp[aF,ar,view,aN,aQ,chunk,AV.one,PV.one]
        ·simp[cl,cj,aF,ar,AV.bd,AV.bd.bdL,z3]
        ·simp[cl,cj,aF,ar,AV.bd,AV.bd.bdL,z3]
      ·rintro(j| _) hj R hR
       ·have hj:j+2<d:=hj;have q1:=XL (j+2);have q2:List.take (j+2) ((PX (j+2)).map AV.v)=(PX (j+2)).map AV.v:=bM (by rw[aH,q1];omega)
        have q3:=YL (j+1) (by omega)
        have q4:List.take (j+2) ((PY (j+1)).map AV.v)=(PY (j+1)).map AV.v:=bM (by rw[aH,q3];omega)
        have p1:=XS (j+2);have p2:=YS (j+1) (by omega)
        have e2:=eA (l:=sh) (x:=j+1) (by omega)
        have hw: ∀ _:True,IntKind.i64.wrap (((j+2:Nat):Int)-1)=((j+1:Nat):Int):=fun _=>by rw[IntWalk.i64_in _ (by omega)];omega
        have hlt2: ∀ _:True,decide (((j+2:Nat):Int)<(d:Int))=true:=fun _=>decide_eq_true (by omega)
        clear hcat hsv hcB e1 t1
        by_cases h3:j+3<d
        ·have hgo:=hR (.inl (j+1)) h3 (by show d-(j+1)<d-j;omega)
         simp only[show j+1+2=j+2+1 from rfl]at hgo
         clear hR;generalize sh.getD (j+1) []=x at*;repeat' first|simp only[go_sem,seval,l1,lS,e2,hw trivial,hlt2 trivial,q1,q2,q3,q4,p1,p2]|refine sB ?_|(first|apply pX|apply bX)<;>intro hc|refine⟨oD,?_⟩|exact oD|fail
         refine hgo _ ?_
         (refine AS.Le.of (by first|decide|omega) ?_ ?_<;>simp[cl,cj,aF,ar,AV.bd,AV.bd.bdL,u8,ah,ai,aq])
         all_goals exact⟨fun c hc=>XB _ c (by simpa using hc),fun c hc=>YB _ c (by simpa using hc)⟩
        ·have hgo:=hR (.inr ()) trivial (by show 0<d-j;omega)
         clear hR;obtain rfl:d=j+3:=by omega
         generalize sh.getD (j+1) []=x at*;repeat' first|simp only[go_sem,seval,l1,lS,e2,hw trivial,hlt2 trivial,q1,q2,q3,q4,p1,p2]|refine sB ?_|(first|apply pX|apply bX)<;>intro hc|refine⟨oD,?_⟩|exact oD|fail
         refine hgo _ ?_;have q5:=XL (j+3);have q6:List.take (j+3) ((PX (j+3)).map AV.v)=(PX (j+3)).map AV.v:=bM (by rw[aH,q5];omega)
         have q7:=XO (j+3);have q8:chunk 1 (j+3) (PX (j+3))=PX (j+3):=by have:=mU (PX (j+3));rwa[q5]at this
         have p5:=YL (j+2) (by omega)
         have p6:List.take (j+3) ((PY (j+2)).map AV.v)=(PY (j+2)).map AV.v:=bM (by rw[aH,p5];omega)
         have p7:=YO (j+2);have p8:chunk 1 (j+3) (PY (j+2))=PY (j+2):=by have:=mU (PY (j+2));rwa[p5]at this
         refine AS.Le.Kg [(11, .sl (PX (j+3))),(12, .sl (PY (j+2)))] [1096,1106] ?_ ?_ (by first|decide|omega) ?_ ?_
         ·intro q hq;simp at hq;rcases hq with rfl|rfl<;>exact⟨by decide,rfl⟩
         ·intro p hp;simp only[bL,ij,or_false]at hp;rcases hp with rfl|rfl<;>simp only[aF,ar,view,aN,eF,cW,nJ,dP,aH,Nat.reduceEqDiff,if_true,if_false,q5,q6,q7,q8,p5,p6,p7,p8,XN,YN]<;>simp
          all_goals first|exact q8|exact p8
         ·simp[cl,cj,aF,ar,AV.bd,AV.bd.bdL]<;>omega
         ·simp[cl,cj,aF,ar,AV.bd,AV.bd.bdL]
       ·repeat' first|simp only[go_sem,seval,l1,lS]|refine sB ?_|(first|apply pX|apply bX)<;>intro hc|refine⟨oD,?_⟩|exact oD|fail
        refine aj (α:=Nat) (fun k=>n+1-k) (fun k=>⟨[(1, .p 1000 0 0),(9,E' n),(11, .v (.sl (PX d))),(12, .v (.sl (PY (d-1)))),(14,E' k)],[(1000,⟨0,[.v (.s name), .v (.s m), .v (.s o), .v (.s g), .v (.s y), .v (E d), .v (.sl (sh.map .s))],false,none⟩)],1118⟩) (fun k=>d≤k∧k≤n+1∧ ∀i,d≤i→i<k→A i=num (sh.getD (i-1) [])) d (fun _=>bQ rfl) ⟨au _,by omega,fun i h1 h2=>by omega⟩ ?_ ?_
        ·exact lE
        ·rintro k ⟨hdk,hkn,hall⟩ R hR
         by_cases hlt:k≤n
         ·obtain⟨j,rfl⟩: ∃j,k=j+1:=⟨k-1,by omega⟩
          have hgo:=fun(h:A (j+1)=num (sh.getD j []))=>hR (j+1+1) ⟨by omega,by omega,fun i h1 h2=>by
           by_cases e:i=j+1
           ·subst e;exact h
           ·exact hall i h1 (by omega)⟩ (by omega)
          have e1:=eA (l:=sh) (x:=j) (by omega)
          have vx:=hsv _ (ay [] (show j<sh.length by omega))
          have hc:=hcat (j+1) (by omega)
          have hw: ∀ _:True,IntKind.i64.wrap (((j+1:Nat):Int)-1)=(j:Int):=fun _=>by rw[IntWalk.i64_in _ (by omega)];omega
          have hb:=MF vx (A (j+1));have hle: ∀ _:True,decide (((j+1:Nat):Int)≤(n:Int))=true:=fun _=>decide_eq_true (by omega)
          have hbad:A (j+1)≠num (sh.getD j [])→cB=false:=fun h=>by
           rw[hcB];exact uC.2 ⟨j+1,dk.2 (by omega),by
            rw[kn,decide_eq_false (show¬(j+1<d) by omega),decide_eq_false h];decide⟩
          generalize A (j+1)=v at*;generalize sh.getD j []=x at*;clear hR hall hcat hsv hcB
          by_cases hv:v=num x
          ·rw[decide_eq_true hv]at hb;have hgo:=hgo hv;have hb':(aP v !=x)=false:=by rw[bne,hb];rfl
           clear hbad;repeat' first|simp only[go_sem,seval,l1,lS,e1,hw trivial,hb,hb',hle trivial,bu]|refine cP hc ?_|refine sB ?_|(first|apply pX|apply bX)<;>intro hc|refine⟨oD,?_⟩|exact oD|fail
           refine hgo _ ?_;exact lE
          ·rw[decide_eq_false hv]at hb;rw[hbad hv];have hb':(aP v !=x)=true:=by rw[bne,hb];rfl
           clear hgo hbad;repeat' first|simp only[go_sem,seval,l1,lS,e1,hw trivial,hb,hb',hle trivial,bR]|refine cP hc ?_|refine sB ?_|(first|apply pX|apply bX)<;>intro hc|refine⟨oD,?_⟩|exact oD|fail
           all_goals rfl
         ·obtain rfl:k=n+1:=by omega
          have hgood:cB=true:=by
           rw[hcB];refine bc.2 fun i hi=> ?_
           have:=dk.1 hi
           by_cases h:i<d
           ·rw[decide_eq_true h];rfl
           ·rw[decide_eq_true (hall i (by omega) (by omega))];simp
          rw[hgood];have hle: ∀ _:True,decide (((n+1:Nat):Int)≤(n:Int))=false:=fun _=>decide_eq_false (by omega)
          clear hR hall hcat hsv hcB;repeat' first|simp only[go_sem,seval,hle trivial]|refine sB ?_|(first|apply pX|apply bX)<;>intro hc|refine⟨oD,?_⟩|exact oD|fail
          all_goals rfl
end Go.Proofs.YtmobkhegihemeaaGreatDoor
