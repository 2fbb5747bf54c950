/- Part of the proof. -/
import Derived.Test.YtkmahpcpmgedkaaGreatDoorFC44
set_option linter.all false
set_option maxHeartbeats 16000000
set_option maxRecDepth 100000
namespace Go.Proofs.Tryz
open Go Go.Dom Go.Num
def P4 (c:CK):List Bytes:=c.m::c.o::c.g::c.y::c.sh
theorem P5 (c:CK):(P4 c).all aa=([c.m,c.o,c.g,c.y].all aa&&c.sh.all aa):=by
 simp[P4,Bool.and_assoc]
theorem Sg (L:List Bytes):List.map AV.v (List.flatMap PV.cells (L.map PV.s))=(L.map PV.s).map AV.v:=by
 congr 1
 induction L with
 |nil=>rfl
 |cons x L ih=>rw[bC,eu,ih];rfl
theorem Fk (c:CK) (ln:c.name.length<=60) (lm:c.m.length<=8) (lo:c.o.length<=8) (ls:c.sh.length<=8) (hsh:c.sh≠[]):aE 35 [c.pv] (E (dP c)):=by
 obtain⟨L,hL⟩: ∃L,L=P4 c:=⟨_,rfl⟩;have hall:=P5 c;rw[<-hL]at hall;have hcE:L.all aa=false->dP c=3:=fun h=>by
  rw[hall]at h;unfold dP;rw[ah];rcases Bool.and_eq_false_iff.1 h with h|h<;>rw[h]<;>simp
 obtain⟨eC,hC⟩: ∃e,e=dP c:=⟨_,rfl⟩;rw[<-hC]at hcE⊢;obtain⟨name,m,o,g,y,need,sh⟩:=c;simp only[CK.pv,P4]at*;have l1:(sh.map PV.s).length=sh.length:=aC ..;have h3:=zT name ln;have h4:=wD lm lo g y;have h5:=Hb o oO;obtain⟨n,hn0⟩: ∃n,n=sh.length:=⟨_,rfl⟩;have lS:sh.length=n:=hn0.symm;have n0:0<n:=by rw[hn0];exact iX.2 hsh
 have q0:(n=0)=False:=eq_false oO;have q1:(∀(x:PV),x∈List.map PV.s sh->x.cells.length=1)=True:=eq_true fun x hx=>by
  obtain⟨z,-,rfl⟩:=bm.1 hx;rfl
 have q2:(∀(y:AV),y∈List.map AV.v (List.map PV.s sh)->y.one=true)=True:=eq_true fun x hx=>by
  obtain⟨z,hz,rfl⟩:=bm.1 hx;obtain⟨w,-,rfl⟩:=bm.1 hz;rfl
 rw[lS]at l1;have zL:AV.v (.s m)::AV.v (.s o)::AV.v (.s g)::AV.v (.s y)::(sh.map PV.s).map AV.v=(L.map PV.s).map AV.v:=by rw[hL];rfl
 have LL:L.length=4+n:=by rw[hL,hn0];simp;omega
 have k0:(L.map PV.s).length=4+n:=by rw[aC,LL]
 have k1:List.take (4+n) ((L.map PV.s).map AV.v)=(L.map PV.s).map AV.v:=cl (by rw[aC,k0];omega)
 have k2:((L.map PV.s).map AV.v).all AV.one=true:=by
  rw[bH];intro a ha;obtain⟨b,hb,rfl⟩:=bm.1 ha;obtain⟨c,-,rfl⟩:=bm.1 hb;rfl
 have k3:chunk 1 (4+n) (L.map PV.s)=L.map PV.s:=by have:=oe (L.map PV.s);rwa[k0]at this
 have k4: ∀hf f,((L.map PV.s).map AV.v).flatMap (aU hf (f+1))=[]:=fun hf f=>tV hf f _
 refine eW call35 func35 ?_;refine dH (aN @l1 (aN @lS (aN @q0 (aN @Sg (aN @q1 (aN @q2 @zL)))))) ?_;refine af (α:=Nat) (fun i=>4+n-i) (fun i=>⟨[(3, .v (.sl (L.map .s))),(1, .p 1000 0 0),(4,E' i)],[(1000,⟨0,[.v (.s name), .v (.s m), .v (.s o), .v (.s g), .v (.s y), .v (E need), .v (.sl (sh.map .s))],false,none⟩)],1022⟩) (fun i=>i<=4+n/\(L.drop i).all aa=L.all aa) 0 (fun _=>bQ rfl) ⟨aI _,rfl⟩ ?_ ?_
 ·refine AS.Le.NG [(3, .sl (L.map .s))] [1019] (fun q hq=>by rw[cR.1 hq];exact⟨by decide,rfl⟩) ?_ (by first|decide|omega) ?_ ?_
  ·intro p hp;rw[cR.1 hp];simp only[aP,ay,view,aU,fm,dF,pJ,db,aC,Nat.reduceEqDiff,ax,aq,LL,k1,k2,k3,k4];simp
   try exact k3
  ·simp[dC,dA,aP,ay,AV.bd,AV.bd.bdL]
  ·simp[dC,dA,aP,ay,AV.bd,AV.bd.bdL]
 ·rintro i ⟨hi,hf⟩ R hR
  by_cases hlt:i<4+n
  ·have e1:=eN (l:=L) (x:=i) oO;have hgo:=fun h=>hR (i+1) ⟨oO,h⟩ oO
   rw[aW [] (show i<L.length by omega),List.all_cons]at hf
   have vx:=aK (L.getD i []);generalize L.getD i []=x at*;clear hR k1 k2 k3 k4 zL
   cases hv:aa x with
   |true=>
    rw[hv]at hf vx;rw[cr]at hf;have hgo:=hgo hf;clear hf;exact gV (aN @k0 (aN @LL @e1)) @hgo @vx
   |false=>
    rw[hv]at hf vx;rw[dK]at hf;rw[hcE hf.symm];clear hgo hf;exact m9 (aN @k0 (aN @LL @e1)) @vx
  ·obtain rfl:i=4+n:=oO;have hLa:L.all aa=true:=by
    rw[<-hf,il oO];rfl
   rw[hLa]at hall;obtain⟨hb1,hb2⟩:=Bool.and_eq_true_iff.1 hall.symm;clear hR hf hcE k1 k2 k3 k4 zL hall;rw[hC];unfold dP;clear hC;simp only[hb1,hb2,bV,uc,bu,aq]
   cases hn:mi name with
   |false=>
    rw[hn]at h3;simp only[cv,ax];exact m9 (aN @k0 @LL) @h3
   |true=>
   rw[hn]at h3;simp only[bV,bu,aq]
   by_cases hk:nO m o g y=0
   case neg=>
    rw[ah hk];generalize nO m o g y=e at*;exact B8 (aN @k0 @LL) @h3 @h4
   rw[hk]at h4;rw[ae (by simpa using hk)]
   obtain⟨hE,ho,vg,gg,-,vy,gy,-⟩:=Db hk;obtain⟨vm,vo,m1,-,-⟩:=jf hE;have hqW:=eR lo;rw[vo,aJ lo,ah rfl,ah lo]at h5;simp only[cr]at h5
   cases hp:eY (num o)with
   |false=>
    rw[hp]at h5;simp only[cv,ax];exact wJ (aN @k0 @LL) @h3 @h4 @h5 oT
   |true=>
   rw[hp]at h5;simp only[bV,bu,aq];rw[lS]at ls;simp only[lS];have hW:=jo;have h6:=ie n oO;have h7:=po (aY n) o;rw[vN (show n<(2^64) by omega),vo,aQ]at h7
   simp only[dt,ax]at h7;have hw: ∀ _:True,IntKind.u64.wrap (n:Int)=n:=fun _=>IntWalk.u64_in _ oO
   have hcg:=uT n (num o);generalize bc n (num o)=cm at*
   by_cases hb:(num o:Int)<=n\/need<1\/need>n
   ·rw[ah hb]
    by_cases b1:num o<=n
    ·rw[aJ b1]at hcg;exact Jl (aN @k0 (aN @LL (aN @l1 (aN @lS (aN (hw oT) @hcg))))) @h3 @h4 @h5 @h6 @h7 oT oT
    ·rw[aG b1]at hcg
     by_cases b2:need<1
     ·exact Jl (aN @k0 (aN @LL (aN @l1 (aN @lS (aN (hw oT) @hcg))))) @h3 @h4 @h5 @h6 @h7 oT oT
     ·have b3:need>n:=oO;exact Jl (aN @k0 (aN @LL (aN @l1 (aN @lS (aN (hw oT) @hcg))))) @h3 @h4 @h5 @h6 @h7 oT oT
   rw[ae hb];obtain⟨d,rfl⟩: ∃d:Nat,need=d:=⟨need.toNat,oO⟩;rw[aG (show¬(num o<=n) by omega)]at hcg
   have hsv:=bH.1 hb2;refine Sz (aN @k0 (aN @LL (aN @l1 (aN @lS (aN (hw oT) @hcg))))) @h3 @h4 @h5 @h6 @h7 oT oT ?_;clear h3 h4 h5 h6 h7;refine af (α:=Nat) (fun i=>n-i) (fun i=>⟨[(1, .p 1000 0 0),(9,E' n),(10,E' i)],[(1000,⟨0,[.v (.s name), .v (.s m), .v (.s o), .v (.s g), .v (.s y), .v (E d), .v (.sl (sh.map .s))],false,none⟩)],1078⟩) (fun i=>i<=n/\(sh.drop i).all (jb m o)=sh.all (jb m o)) 0 (fun _=>bQ rfl) ⟨aI _,rfl⟩ ?_ ?_
   ·exact lE
   ·rintro i ⟨hi,hf⟩ R hR
    by_cases hlt:i<n
    ·have e1:=eN (l:=sh) (x:=i) oO;have hgo:=fun h=>hR (i+1) ⟨oO,h⟩ oO
     rw[aW [] (show i<sh.length by omega),List.all_cons]at hf
     generalize sh.getD i []=x at*;have hv:=oM lm lo x;clear hR
     cases hbx:jb m o x with
     |true=>
      rw[hbx,cr]at hf;rw[hbx]at hv;refine jm (aN @l1 (aN @lS @e1)) @hv ?_;refine hgo hf _ ?_;exact lE
     |false=>
      rw[hbx,dK]at hf;rw[hbx]at hv;rw[<-hf];clear hgo hf;exact m9 (aN @l1 (aN @lS @e1)) @hv
    ·obtain rfl:n=i:=oO;rw[<-lS,da]at hf;have hgI:sh.all (jb m o)=true:=hf.symm;rw[hgI];simp only[bV,bu,aq];clear hf hR;obtain⟨A,hA⟩: ∃A:Nat->Nat,A=fun i=>wX (num m) (num o) (List.range d) ((y::sh.take (d-1)).map num) i:=⟨_,rfl⟩
     obtain⟨cB,hcB0⟩: ∃cB,cB=JJ ⟨name,m,o,g,y,(d:Int),sh⟩:=⟨_,rfl⟩;rw[<-hcB0];have hcB:cB=(List.range (n+1)).all fun i=>decide (i<d)||decide (A i=num (sh.getD (i-1) [])):=by
      rw[hcB0,hA,<-lS];rfl
     clear hcB0;have hgp: ∀x∈sh,GP m o (num x):=fun x hx=>by
      have:=bH.1 hgI x hx;unfold jb at this;rw[ba]at this;exact((ct hE).1 this.2).2
     have hge: ∀x∈(y::sh.take (d-1)).map num,GP m o x:=fun x hx=>by
      obtain⟨z,hz,rfl⟩:=bm.1 hx;rcases cb.1 hz with rfl|hz
      ·exact gy
      ·exact hgp z (gS hz)
     have hlv: ∀x∈y::sh.take (d-1),aa x=true:=fun x hx=>by
      rcases cb.1 hx with rfl|hx
      ·exact vy
      ·exact hsv x (gS hx)
     have hll:(y::sh.take (d-1)).length=d:=by simp;omega
     have hcat:=fun k (hk:k<num o)=>rH ⟨name,m,o,g,y,(d:Int),sh⟩ lm lo hE hp (pts:=List.range d) (gN:=(y::sh.take (d-1)).map num) (by simp;omega) (by rw[aC,hll];simp) DZ (fun a ha=>by have:=dW.1 ha;exact⟨oO,by show a<num o;omega⟩) (by simp;omega) hge (x:=k) hk
     rw[<-GJ hlv]at hcat;have hcat: ∀k,k<=n->aE 52 [.agg [.s name, .s m, .s o, .s g, .s y,E d, .sl (sh.map .s)], .sl ((List.range d).map me), .sl ((y::sh.take (d-1)).map .s),E k] (N (A k)):=fun k hk=>by rw[hA];exact hcat k oO
     have hLs: ∀k,k+1<sh.length->sh.take (k+1)=sh.take k++[sh.getD k []]:=fun k hk=>cF [] oO
     have hLr: ∀k,List.range (k+1)=List.range k++[k]:=fun k=>re
     clear hA hgp hge hlv;refine dI (aN @l1 @lS) ?_
     by_cases hd1:d=1
     ·have hr1:(List.range d).map me=[E 0]:=by rw[hd1];rfl
      have hr2:(y::sh.take (d-1)).map PV.s=[.s y]:=by rw[hd1];rfl
      rw[hr1,hr2]at hcat;have hlt1: ∀ _:True,decide ((1:Int)<(d:Int))=false:=fun _=>aG oO
      refine ai ?_;refine dH (aN @l1 (aN @lS (hlt1 oT))) ?_;refine af (α:=Nat) (fun k=>n+1-k) (fun k=>⟨[(1, .p 1000 0 0),(9,E' n),(11, .fs [E 0]),(12, .fs [.s y]),(14,E' k)],[(1000,⟨0,[.v (.s name), .v (.s m), .v (.s o), .v (.s g), .v (.s y), .v (E d), .v (.sl (sh.map .s))],false,none⟩)],1096⟩) (fun k=>d<=k/\k<=n+1/\ ∀i,d<=i->i<k->A i=num (sh.getD (i-1) [])) d (fun _=>bQ rfl) ⟨aA _,oO,fun i h1 h2=>oO⟩ ?_ ?_
      ·exact lE
      ·rintro k ⟨hdk,hkn,hall⟩ R hR
       by_cases hlt:k<=n
       ·obtain⟨j,rfl⟩: ∃j,k=j+1:=⟨k-1,oO⟩;have hgo:=fun(h:A (j+1)=num (sh.getD j []))=>hR (j+1+1) ⟨oO,oO,fun i h1 h2=>by
         by_cases e:i=j+1
         ·subst e;exact h
         ·exact hall i h1 oO⟩ oO
        have e1:=eN (l:=sh) (x:=j) oO;have vx:=hsv _ (an [] (show j<sh.length by omega))
        have hc:=hcat (j+1) oO;have hw: ∀ _:True,IntKind.i64.wrap (((j+1:Nat):Int)-1)=(j:Int):=fun _=>by rw[IntWalk.i64_in _ oO];omega
        have hb:=Qt vx (A (j+1));have hle: ∀ _:True,decide (((j+1:Nat):Int)<=(n:Int))=true:=fun _=>aJ oO
        have hbad:A (j+1)≠num (sh.getD j [])->cB=false:=fun h=>by
         rw[hcB];exact ue.2 ⟨j+1,dW.2 oO,by
          rw[iO,aG (show¬(j+1<d) by omega),aG h];decide⟩
        generalize A (j+1)=v at*;generalize sh.getD j []=x at*;clear hR hall hcat hsv hcB
        by_cases hv:v=num x
        ·rw[aJ hv]at hb;have hgo:=hgo hv;have hb':(aY v !=x)=false:=by rw[bne,hb];rfl
         clear hbad;exact gV (aN @l1 (aN @lS (aN @e1 (aN (hw oT) (aN @hb (aN @hb' (hle oT))))))) @hgo @hc
        ·rw[aG hv]at hb;rw[hbad hv];have hb':(aY v !=x)=true:=by rw[bne,hb];rfl
         clear hgo hbad;exact m9 (aN @l1 (aN @lS (aN @e1 (aN (hw oT) (aN @hb (aN @hb' (hle oT))))))) @hc
       ·obtain rfl:k=n+1:=oO;have hgood:cB=true:=by
         rw[hcB];refine bH.2 fun i hi=> ?_
         have:=dW.1 hi
         by_cases h:i<d
         ·rw[aJ h];rfl
         ·rw[aJ (hall i oO oO)];simp
        rw[hgood];have hle: ∀ _:True,decide (((n+1:Nat):Int)<=(n:Int))=false:=fun _=>aG oO
        clear hR hall hcat hsv hcB;exact gi (hle oT)
     ·refine ai ?_;have e1:=eN (l:=sh) (x:=0) oO;have t1:sh.take 1=[sh.getD 0 []]:=by rw[cF [] oO];simp
      have hlt1: ∀ _:True,decide ((1:Int)<(d:Int))=true:=fun _=>aJ oO
      refine dI (aN @l1 (aN @lS (aN @e1 (hlt1 oT)))) ?_;obtain⟨PX,hPX⟩: ∃PX:Nat->List PV,∀k,PX k=(List.range k).map me:=⟨_,fun _=>rfl⟩
      obtain⟨PY,hPY⟩: ∃PY:Nat->List PV,∀k,PY k=(y::sh.take k).map PV.s:=⟨_,fun _=>rfl⟩
      rw[<-hPX,<-hPY]at hcat;have XL: ∀k,(PX k).length=k:=fun k=>by rw[hPX];simp
      have YL: ∀k,k<=n->(PY k).length=k+1:=fun k hk=>by rw[hPY];simp;omega
      have XO: ∀k,((PX k).map AV.v).all AV.one=true:=fun k=>by rw[hPX];simp[me,AV.one,PV.one]
      have YO: ∀k,((PY k).map AV.v).all AV.one=true:=fun k=>by
       rw[hPY,bH];intro a ha;obtain⟨b,hb,rfl⟩:=bm.1 ha;obtain⟨c,-,rfl⟩:=bm.1 hb;rfl
      have XN: ∀hf f k,((PX k).map AV.v).flatMap (aU hf (f+1))=[]:=fun hf f k=>tV hf f _
      have YN: ∀hf f k,((PY k).map AV.v).flatMap (aU hf (f+1))=[]:=fun hf f k=>tV hf f _
      have XB: ∀k,∀c∈(PX k).map AV.v,c.bd 1111=true:=fun k c hc=>by obtain⟨x,-,rfl⟩:=bm.1 hc;rfl
      have YB: ∀k,∀c∈(PY k).map AV.v,c.bd 1111=true:=fun k c hc=>by obtain⟨x,-,rfl⟩:=bm.1 hc;rfl
      have XS: ∀k,(PX k).map AV.v++[.v (E (k:Nat))]=(PX (k+1)).map AV.v:=fun k=>by rw[hPX,hPX,hLr];simp[me]
      have YS: ∀k,k+1<n->(PY k).map AV.v++[.v (.s (sh.getD k []))]=(PY (k+1)).map AV.v:=fun k hk=>by rw[hPY,hPY,hLs k oO];simp
      have X2:(PX 2).map AV.v=[.v (E 0), .v (E 1)]:=by rw[hPX];rfl
      have Y1:(PY 1).map AV.v=[.v (.s y), .v (.s (sh.getD 0 []))]:=by rw[hPY,t1];rfl
      have X2':PX 2=[E 0,E 1]:=by rw[hPX];rfl
      have Y1':PY 1=[.s y, .s (sh.getD 0 [])]:=by rw[hPY,t1];rfl
      clear hPX hPY hLr hLs;refine af (α:=Nat⊕Unit) (fun j=>match j with| .inl j=>d-j| .inr _=>0) (fun j=>match j with| .inl j=>⟨[(1, .p 1000 0 0),(9,E' n),(11, .rs 1096 j 0 (j+2) 1),(12, .rs 1106 j 0 (j+2) 1),(13,E' (j+2))],[(1000,⟨0,[.v (.s name), .v (.s m), .v (.s o), .v (.s g), .v (.s y), .v (E d), .v (.sl (sh.map .s))],false,none⟩),(1096,⟨j,(PX (j+2)).map AV.v,true,some 3⟩),(1106,⟨j,(PY (j+1)).map AV.v,true,some 22⟩)],1111⟩| .inr _=>⟨[(11, .v (.sl (PX d))),(12, .v (.sl (PY (d-1)))),(1, .p 1000 0 0),(9,E' n),(13,E' d)],[(1000,⟨0,[.v (.s name), .v (.s m), .v (.s o), .v (.s g), .v (.s y), .v (E d), .v (.sl (sh.map .s))],false,none⟩)],1111⟩) (fun j=>match j with| .inl j=>j+2<d| .inr _=>True) (if 2<d then .inl 0 else .inr ()) (fun j=>by cases j<;>exact bQ rfl) ?_ ?_ ?_
      ·by_cases h2:2<d
       ·rw[ah h2];show 0+2<d;omega
       ·rw[ae h2];trivial
      ·by_cases h2:2<d
       ·rw[ah h2];simp only[dF,X2,Y1];exact lE
       ·rw[ae h2];have hd2:d=2:=oO;have z1:PX d=[E 0,E 1]:=by rw[hd2,X2']
        have z2:PY (d-1)=[.s y, .s (sh.getD 0 [])]:=by rw[hd2,Y1']
        simp only[z1,z2];have z3:((d:Nat):Int)=2:=oO;refine AS.Le.NG [(11, .sl [E 0,E 1]),(12, .sl [.s y, .s (sh.getD 0 [])])] [1096,1106] ?_ ?_ (by first|decide|omega) ?_ ?_
        ·intro q hq;simp at hq;rcases hq with rfl|rfl<;>exact⟨by decide,rfl⟩
        ·intro p hp;simp at hp;rcases hp with rfl|rfl<;>simp[aP,ay,view,aU,bz,chunk,AV.one,PV.one]
        ·simp[dC,dA,aP,ay,AV.bd,AV.bd.bdL,z3]
        ·simp[dC,dA,aP,ay,AV.bd,AV.bd.bdL,z3]
      ·rintro(j| _) hj R hR
       ·have hj:j+2<d:=hj;have q1:=XL (j+2);have q2:List.take (j+2) ((PX (j+2)).map AV.v)=(PX (j+2)).map AV.v:=cl (by rw[aC,q1];omega)
        have q3:=YL (j+1) oO;have q4:List.take (j+2) ((PY (j+1)).map AV.v)=(PY (j+1)).map AV.v:=cl (by rw[aC,q3];omega)
        have p1:=XS (j+2);have p2:=YS (j+1) oO;have e2:=eN (l:=sh) (x:=j+1) oO;have hw: ∀ _:True,IntKind.i64.wrap (((j+2:Nat):Int)-1)=((j+1:Nat):Int):=fun _=>by rw[IntWalk.i64_in _ oO];omega
        have hlt2: ∀ _:True,decide (((j+2:Nat):Int)<(d:Int))=true:=fun _=>aJ oO
        clear hcat hsv hcB e1 t1
        by_cases h3:j+3<d
        ·have hgo:=hR (.inl (j+1)) h3 (by show d-(j+1)<d-j;omega)
         simp only[show j+1+2=j+2+1 from rfl]at hgo
         clear hR;generalize sh.getD (j+1) []=x at*;refine dI (aN @l1 (aN @lS (aN @e2 (aN (hw oT) (aN (hlt2 oT) (aN @q1 (aN @q2 (aN @q3 (aN @q4 (aN @p1 @p2)))))))))) ?_;refine hgo _ ?_
         (refine AS.Le.of (by first|decide|omega) ?_ ?_<;>simp[dC,dA,aP,ay,AV.bd,AV.bd.bdL,u8,ar,au,az])
         all_goals exact⟨fun c hc=>XB _ c (by simpa using hc),fun c hc=>YB _ c (by simpa using hc)⟩
        ·have hgo:=hR (.inr ()) trivial (by show 0<d-j;omega)
         clear hR;obtain rfl:d=j+3:=oO;generalize sh.getD (j+1) []=x at*;refine dI (aN @l1 (aN @lS (aN @e2 (aN (hw oT) (aN (hlt2 oT) (aN @q1 (aN @q2 (aN @q3 (aN @q4 (aN @p1 @p2)))))))))) ?_;refine hgo _ ?_;have q5:=XL (j+3);have q6:List.take (j+3) ((PX (j+3)).map AV.v)=(PX (j+3)).map AV.v:=cl (by rw[aC,q5];omega)
         have q7:=XO (j+3);have q8:chunk 1 (j+3) (PX (j+3))=PX (j+3):=by have:=oe (PX (j+3));rwa[q5]at this
         have p5:=YL (j+2) oO;have p6:List.take (j+3) ((PY (j+2)).map AV.v)=(PY (j+2)).map AV.v:=cl (by rw[aC,p5];omega)
         have p7:=YO (j+2);have p8:chunk 1 (j+3) (PY (j+2))=PY (j+2):=by have:=oe (PY (j+2));rwa[p5]at this
         refine AS.Le.NG [(11, .sl (PX (j+3))),(12, .sl (PY (j+2)))] [1096,1106] ?_ ?_ (by first|decide|omega) ?_ ?_
         ·intro q hq;simp at hq;rcases hq with rfl|rfl<;>exact⟨by decide,rfl⟩
         ·intro p hp;simp only[cb,iD,or_false]at hp;rcases hp with rfl|rfl<;>simp only[aP,ay,view,aU,fm,dF,pJ,db,aC,Nat.reduceEqDiff,ax,aq,q5,q6,q7,q8,p5,p6,p7,p8,XN,YN]<;>simp
          all_goals first|exact q8|exact p8
         ·simp[dC,dA,aP,ay,AV.bd,AV.bd.bdL]<;>omega
         ·simp[dC,dA,aP,ay,AV.bd,AV.bd.bdL]
       ·refine dH (aN @l1 @lS) ?_;refine af (α:=Nat) (fun k=>n+1-k) (fun k=>⟨[(1, .p 1000 0 0),(9,E' n),(11, .v (.sl (PX d))),(12, .v (.sl (PY (d-1)))),(14,E' k)],[(1000,⟨0,[.v (.s name), .v (.s m), .v (.s o), .v (.s g), .v (.s y), .v (E d), .v (.sl (sh.map .s))],false,none⟩)],1118⟩) (fun k=>d<=k/\k<=n+1/\ ∀i,d<=i->i<k->A i=num (sh.getD (i-1) [])) d (fun _=>bQ rfl) ⟨aA _,oO,fun i h1 h2=>oO⟩ ?_ ?_
        ·exact lE
        ·rintro k ⟨hdk,hkn,hall⟩ R hR
         by_cases hlt:k<=n
         ·obtain⟨j,rfl⟩: ∃j,k=j+1:=⟨k-1,oO⟩;have hgo:=fun(h:A (j+1)=num (sh.getD j []))=>hR (j+1+1) ⟨oO,oO,fun i h1 h2=>by
           by_cases e:i=j+1
           ·subst e;exact h
           ·exact hall i h1 oO⟩ oO
          have e1:=eN (l:=sh) (x:=j) oO;have vx:=hsv _ (an [] (show j<sh.length by omega))
          have hc:=hcat (j+1) oO;have hw: ∀ _:True,IntKind.i64.wrap (((j+1:Nat):Int)-1)=(j:Int):=fun _=>by rw[IntWalk.i64_in _ oO];omega
          have hb:=Qt vx (A (j+1));have hle: ∀ _:True,decide (((j+1:Nat):Int)<=(n:Int))=true:=fun _=>aJ oO
          have hbad:A (j+1)≠num (sh.getD j [])->cB=false:=fun h=>by
           rw[hcB];exact ue.2 ⟨j+1,dW.2 oO,by
            rw[iO,aG (show¬(j+1<d) by omega),aG h];decide⟩
          generalize A (j+1)=v at*;generalize sh.getD j []=x at*;clear hR hall hcat hsv hcB
          by_cases hv:v=num x
          ·rw[aJ hv]at hb;have hgo:=hgo hv;have hb':(aY v !=x)=false:=by rw[bne,hb];rfl
           clear hbad;exact gV (aN @l1 (aN @lS (aN @e1 (aN (hw oT) (aN @hb (aN @hb' (hle oT))))))) @hgo @hc
          ·rw[aG hv]at hb;rw[hbad hv];have hb':(aY v !=x)=true:=by rw[bne,hb];rfl
           clear hgo hbad;exact m9 (aN @l1 (aN @lS (aN @e1 (aN (hw oT) (aN @hb (aN @hb' (hle oT))))))) @hc
         ·obtain rfl:k=n+1:=oO;have hgood:cB=true:=by
           rw[hcB];refine bH.2 fun i hi=> ?_
           have:=dW.1 hi
           by_cases h:i<d
           ·rw[aJ h];rfl
           ·rw[aJ (hall i oO oO)];simp
          rw[hgood];have hle: ∀ _:True,decide (((n+1:Nat):Int)<=(n:Int))=false:=fun _=>aG oO
          clear hR hall hcat hsv hcB;exact gi (hle oT)
