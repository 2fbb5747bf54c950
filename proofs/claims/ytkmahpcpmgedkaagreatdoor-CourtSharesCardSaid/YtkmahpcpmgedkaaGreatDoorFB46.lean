/- Part of the proof. -/
import Derived.Test.YtkmahpcpmgedkaaGreatDoorFB44
import Derived.Test.YtkmahpcpmgedkaaGreatDoorFB45
set_option linter.all false
set_option maxHeartbeats 16000000
set_option maxRecDepth 100000
namespace Go.Proofs.Tryz
open Go Go.Dom Go.Num
def Qk (c:CK):List Bytes:=c.m::c.o::c.g::c.y::c.sh
theorem Ql (c:CK):(Qk c).all aa=([c.m,c.o,c.g,c.y].all aa&&c.sh.all aa):=by
 simp[Qk,Bool.and_assoc]
theorem Sx (L:List Bytes):List.map AV.v (List.flatMap PV.cells (L.map PV.s))=(L.map PV.s).map AV.v:=by
 congr 1
 induction L with
 |nil=>rfl
 |cons x L ih=>rw[br,eD,ih];rfl
theorem Ft (c:CK) (ln:c.name.length<=60) (lm:c.m.length<=8) (lo:c.o.length<=8) (ls:c.sh.length<=8) (hsh:c.sh≠[]):aD 35 [c.pv] (E (fp c)):=by
 obtain⟨L,hL⟩: ∃L,L=Qk c:=⟨_,rfl⟩;have hall:=Ql c;rw[<-hL]at hall;have hcE:L.all aa=false->fp c=3:=fun h=>by
  rw[hall]at h;unfold fp;rw[ah];rcases Bool.and_eq_false_iff.1 h with h|h<;>rw[h]<;>simp
 obtain⟨eC,hC⟩: ∃e,e=fp c:=⟨_,rfl⟩;rw[<-hC]at hcE⊢;obtain⟨name,m,o,g,y,need,sh⟩:=c;simp only[CK.pv,Qk]at*;have l1:(sh.map PV.s).length=sh.length:=aB ..;have h3:=Al name ln;have h4:=wV lm lo g y;have h5:=Hn o oO;obtain⟨n,hn0⟩: ∃n,n=sh.length:=⟨_,rfl⟩;have lS:sh.length=n:=hn0.symm;have n0:0<n:=by rw[hn0];exact kq.2 hsh
 have q0:(n=0)=False:=eq_false oO;have q1:(∀(x:PV),x∈List.map PV.s sh->x.cells.length=1)=True:=eq_true fun x hx=>by
  obtain⟨z,-,rfl⟩:=bG.1 hx;rfl
 have q2:(∀(y:AV),y∈List.map AV.v (List.map PV.s sh)->y.one=true)=True:=eq_true fun x hx=>by
  obtain⟨z,hz,rfl⟩:=bG.1 hx;obtain⟨w,-,rfl⟩:=bG.1 hz;rfl
 rw[lS]at l1;have zL:AV.v (.s m)::AV.v (.s o)::AV.v (.s g)::AV.v (.s y)::(sh.map PV.s).map AV.v=(L.map PV.s).map AV.v:=by rw[hL];rfl
 have LL:L.length=4+n:=by rw[hL,hn0];simp;omega
 have k0:(L.map PV.s).length=4+n:=by rw[aB,LL]
 have k1:List.take (4+n) ((L.map PV.s).map AV.v)=(L.map PV.s).map AV.v:=cb (by rw[aB,k0];omega)
 have k2:((L.map PV.s).map AV.v).all AV.one=true:=by
  rw[bM];intro a ha;obtain⟨b,hb,rfl⟩:=bG.1 ha;obtain⟨c,-,rfl⟩:=bG.1 hb;rfl
 have k3:chunk 1 (4+n) (L.map PV.s)=L.map PV.s:=by have:=nZ (L.map PV.s);rwa[k0]at this
 have k4: ∀hf f,((L.map PV.s).map AV.v).flatMap (aV hf (f+1))=[]:=fun hf f=>ui hf f _
 refine eW call35 func35 ?_;refine cU (aN @l1 (aN @lS (aN @q0 (aN @Sx (aN @q1 (aN @q2 @zL)))))) ?_;refine af (α:=Nat) (fun i=>4+n-i) (fun i=>⟨[(3, .v (.sl (L.map .s))),(1, .p 1000 0 0),(4,E' i)],[(1000,⟨0,[.v (.s name), .v (.s m), .v (.s o), .v (.s g), .v (.s y), .v (E need), .v (.sl (sh.map .s))],false,none⟩)],1022⟩) (fun i=>i<=4+n/\(L.drop i).all aa=L.all aa) 0 (fun _=>bZ rfl) ⟨aJ _,rfl⟩ ?_ ?_
 ·refine AS.Le.LA [(3, .sl (L.map .s))] [1019] (fun q hq=>by rw[dt.1 hq];exact⟨by decide,rfl⟩) ?_ (by first|decide|omega) ?_ ?_
  ·intro p hp;rw[dt.1 hp];simp only[aO,az,view,aV,eQ,dq,pA,dN,aB,Nat.reduceEqDiff,au,an,LL,k1,k2,k3,k4];simp
   try exact k3
  ·simp[dy,dx,aO,az,AV.bd,AV.bd.bdL]
  ·simp[dy,dx,aO,az,AV.bd,AV.bd.bdL]
 ·rintro i ⟨hi,hf⟩ R hR
  by_cases hlt:i<4+n
  ·have e1:=dM (l:=L) (x:=i) oO;have hgo:=fun h=>hR (i+1) ⟨oO,h⟩ oO
   rw[aT [] (show i<L.length by omega),List.all_cons]at hf
   have vx:=aK (L.getD i []);generalize L.getD i []=x at*;clear hR k1 k2 k3 k4 zL
   cases hv:aa x with
   |true=>
    rw[hv]at hf vx;rw[cj]at hf;have hgo:=hgo hf;clear hf;exact gV (aN @k0 (aN @LL @e1)) @hgo @vx
   |false=>
    rw[hv]at hf vx;rw[dW]at hf;rw[hcE hf.symm];clear hgo hf;exact mi (aN @k0 (aN @LL @e1)) @vx
  ·obtain rfl:i=4+n:=oO;have hLa:L.all aa=true:=by
    rw[<-hf,gU oO];rfl
   rw[hLa]at hall;obtain⟨hb1,hb2⟩:=Bool.and_eq_true_iff.1 hall.symm;clear hR hf hcE k1 k2 k3 k4 zL hall;rw[hC];unfold fp;clear hC;simp only[hb1,hb2,bQ,rf,bm,an]
   cases hn:mn name with
   |false=>
    rw[hn]at h3;simp only[ca,au];exact mi (aN @k0 @LL) @h3
   |true=>
   rw[hn]at h3;simp only[bQ,bm,an]
   by_cases hk:nN m o g y=0
   case neg=>
    rw[ah hk];generalize nN m o g y=e at*;exact AN (aN @k0 @LL) @h3 @h4
   rw[hk]at h4;rw[ae (by simpa using hk)]
   obtain⟨hE,ho,vg,gg,-,vy,gy,-⟩:=Dt hk;obtain⟨vm,vo,m1,-,-⟩:=jm hE;have hqW:=eP lo;rw[vo,aI lo,ah rfl,ah lo]at h5;simp only[cj]at h5
   cases hp:fj (num o)with
   |false=>
    rw[hp]at h5;simp only[ca,au];exact yG (aN @k0 @LL) @h3 @h4 @h5 oT
   |true=>
   rw[hp]at h5;simp only[bQ,bm,an];rw[lS]at ls;simp only[lS];have hW:=jQ;have h6:=ig n oO;have h7:=mA (aX n) o;rw[vN (show n<(2^64) by omega),vo,aP]at h7
   simp only[dE,au]at h7;have hw: ∀ _:True,IntKind.u64.wrap (n:Int)=n:=fun _=>IntWalk.u64_in _ oO
   have hcg:=vz n (num o);generalize ba n (num o)=cm at*
   by_cases hb:(num o:Int)<=n\/need<1\/need>n
   ·rw[ah hb]
    by_cases b1:num o<=n
    ·rw[aI b1]at hcg;exact AU (aN @k0 (aN @LL (aN @l1 (aN @lS (aN (hw oT) @hcg))))) @h3 @h4 @h5 @h6 @h7 oT oT
    ·rw[aH b1]at hcg
     by_cases b2:need<1
     ·exact AU (aN @k0 (aN @LL (aN @l1 (aN @lS (aN (hw oT) @hcg))))) @h3 @h4 @h5 @h6 @h7 oT oT
     ·have b3:need>n:=oO;exact AU (aN @k0 (aN @LL (aN @l1 (aN @lS (aN (hw oT) @hcg))))) @h3 @h4 @h5 @h6 @h7 oT oT
   rw[ae hb];obtain⟨d,rfl⟩: ∃d:Nat,need=d:=⟨need.toNat,oO⟩;rw[aH (show¬(num o<=n) by omega)]at hcg
   have hsv:=bM.1 hb2;refine SV (aN @k0 (aN @LL (aN @l1 (aN @lS (aN (hw oT) @hcg))))) @h3 @h4 @h5 @h6 @h7 oT oT ?_;clear h3 h4 h5 h6 h7;refine af (α:=Nat) (fun i=>n-i) (fun i=>⟨[(1, .p 1000 0 0),(9,E' n),(10,E' i)],[(1000,⟨0,[.v (.s name), .v (.s m), .v (.s o), .v (.s g), .v (.s y), .v (E d), .v (.sl (sh.map .s))],false,none⟩)],1078⟩) (fun i=>i<=n/\(sh.drop i).all (jn m o)=sh.all (jn m o)) 0 (fun _=>bZ rfl) ⟨aJ _,rfl⟩ ?_ ?_
   ·exact lE
   ·rintro i ⟨hi,hf⟩ R hR
    by_cases hlt:i<n
    ·have e1:=dM (l:=sh) (x:=i) oO;have hgo:=fun h=>hR (i+1) ⟨oO,h⟩ oO
     rw[aT [] (show i<sh.length by omega),List.all_cons]at hf
     generalize sh.getD i []=x at*;have hv:=oH lm lo x;clear hR
     cases hbx:jn m o x with
     |true=>
      rw[hbx,cj]at hf;rw[hbx]at hv;refine kz (aN @l1 (aN @lS @e1)) @hv ?_;refine hgo hf _ ?_;exact lE
     |false=>
      rw[hbx,dW]at hf;rw[hbx]at hv;rw[<-hf];clear hgo hf;exact mi (aN @l1 (aN @lS @e1)) @hv
    ·obtain rfl:n=i:=oO;rw[<-lS,cO]at hf;have hgI:sh.all (jn m o)=true:=hf.symm;rw[hgI];simp only[bQ,bm,an];clear hf hR;obtain⟨A,hA⟩: ∃A:Nat->Nat,A=fun i=>Lz (num m) (num o) (List.range d) ((y::sh.take (d-1)).map num) i:=⟨_,rfl⟩
     obtain⟨cB,hcB0⟩: ∃cB,cB=JR ⟨name,m,o,g,y,(d:Int),sh⟩:=⟨_,rfl⟩;rw[<-hcB0];have hcB:cB=(List.range (n+1)).all fun i=>decide (i<d)||decide (A i=num (sh.getD (i-1) [])):=by
      rw[hcB0,hA,<-lS];rfl
     clear hcB0;have hgp: ∀x∈sh,GP m o (num x):=fun x hx=>by
      have:=bM.1 hgI x hx;unfold jn at this;rw[aZ]at this;exact((cH hE).1 this.2).2
     have hge: ∀x∈(y::sh.take (d-1)).map num,GP m o x:=fun x hx=>by
      obtain⟨z,hz,rfl⟩:=bG.1 hx;rcases cr.1 hz with rfl|hz
      ·exact gy
      ·exact hgp z (jA hz)
     have hlv: ∀x∈y::sh.take (d-1),aa x=true:=fun x hx=>by
      rcases cr.1 hx with rfl|hx
      ·exact vy
      ·exact hsv x (jA hx)
     have hll:(y::sh.take (d-1)).length=d:=by simp;omega
     have hcat:=fun k (hk:k<num o)=>Bp ⟨name,m,o,g,y,(d:Int),sh⟩ lm lo hE hp (pts:=List.range d) (nh:=(y::sh.take (d-1)).map num) (by simp;omega) (by rw[aB,hll];simp) DK (fun a ha=>by have:=dV.1 ha;exact⟨oO,by show a<num o;omega⟩) (by simp;omega) hge (x:=k) hk
     rw[<-GV hlv]at hcat;have hcat: ∀k,k<=n->aD 52 [.agg [.s name, .s m, .s o, .s g, .s y,E d, .sl (sh.map .s)], .sl ((List.range d).map yJ), .sl ((y::sh.take (d-1)).map .s),E k] (N (A k)):=fun k hk=>by rw[hA];exact hcat k oO
     have hLs: ∀k,k+1<sh.length->sh.take (k+1)=sh.take k++[sh.getD k []]:=fun k hk=>eY [] oO
     have hLr: ∀k,List.range (k+1)=List.range k++[k]:=fun k=>rj
     clear hA hgp hge hlv;refine dH (aN @l1 @lS) ?_
     by_cases hd1:d=1
     ·have hr1:(List.range d).map yJ=[E 0]:=by rw[hd1];rfl
      have hr2:(y::sh.take (d-1)).map PV.s=[.s y]:=by rw[hd1];rfl
      rw[hr1,hr2]at hcat;have hlt1: ∀ _:True,decide ((1:Int)<(d:Int))=false:=fun _=>aH oO
      refine ai ?_;refine cU (aN @l1 (aN @lS (hlt1 oT))) ?_;refine af (α:=Nat) (fun k=>n+1-k) (fun k=>⟨[(1, .p 1000 0 0),(9,E' n),(11, .fs [E 0]),(12, .fs [.s y]),(14,E' k)],[(1000,⟨0,[.v (.s name), .v (.s m), .v (.s o), .v (.s g), .v (.s y), .v (E d), .v (.sl (sh.map .s))],false,none⟩)],1096⟩) (fun k=>d<=k/\k<=n+1/\ ∀i,d<=i->i<k->A i=num (sh.getD (i-1) [])) d (fun _=>bZ rfl) ⟨ay _,oO,fun i h1 h2=>oO⟩ ?_ ?_
      ·exact lE
      ·rintro k ⟨hdk,hkn,hall⟩ R hR
       by_cases hlt:k<=n
       ·obtain⟨j,rfl⟩: ∃j,k=j+1:=⟨k-1,oO⟩;have hgo:=fun(h:A (j+1)=num (sh.getD j []))=>hR (j+1+1) ⟨oO,oO,fun i h1 h2=>by
         by_cases e:i=j+1
         ·subst e;exact h
         ·exact hall i h1 oO⟩ oO
        have e1:=dM (l:=sh) (x:=j) oO;have vx:=hsv _ (aq [] (show j<sh.length by omega))
        have hc:=hcat (j+1) oO;have hw: ∀ _:True,IntKind.i64.wrap (((j+1:Nat):Int)-1)=(j:Int):=fun _=>by rw[IntWalk.i64_in _ oO];omega
        have hb:=JL vx (A (j+1));have hle: ∀ _:True,decide (((j+1:Nat):Int)<=(n:Int))=true:=fun _=>aI oO
        have hbad:A (j+1)≠num (sh.getD j [])->cB=false:=fun h=>by
         rw[hcB];exact x9.2 ⟨j+1,dV.2 oO,by
          rw[jw,aH (show¬(j+1<d) by omega),aH h];decide⟩
        generalize A (j+1)=v at*;generalize sh.getD j []=x at*;clear hR hall hcat hsv hcB
        by_cases hv:v=num x
        ·rw[aI hv]at hb;have hgo:=hgo hv;have hb':(aX v !=x)=false:=by rw[bne,hb];rfl
         clear hbad;exact gV (aN @l1 (aN @lS (aN @e1 (aN (hw oT) (aN @hb (aN @hb' (hle oT))))))) @hgo @hc
        ·rw[aH hv]at hb;rw[hbad hv];have hb':(aX v !=x)=true:=by rw[bne,hb];rfl
         clear hgo hbad;exact mi (aN @l1 (aN @lS (aN @e1 (aN (hw oT) (aN @hb (aN @hb' (hle oT))))))) @hc
       ·obtain rfl:k=n+1:=oO;have hgood:cB=true:=by
         rw[hcB];refine bM.2 fun i hi=> ?_
         have:=dV.1 hi
         by_cases h:i<d
         ·rw[aI h];rfl
         ·rw[aI (hall i oO oO)];simp
        rw[hgood];have hle: ∀ _:True,decide (((n+1:Nat):Int)<=(n:Int))=false:=fun _=>aH oO
        clear hR hall hcat hsv hcB;exact gn (hle oT)
     ·refine ai ?_;have e1:=dM (l:=sh) (x:=0) oO;have t1:sh.take 1=[sh.getD 0 []]:=by rw[eY [] oO];simp
      have hlt1: ∀ _:True,decide ((1:Int)<(d:Int))=true:=fun _=>aI oO
      refine dH (aN @l1 (aN @lS (aN @e1 (hlt1 oT)))) ?_;obtain⟨PX,hPX⟩: ∃PX:Nat->List PV,∀k,PX k=(List.range k).map yJ:=⟨_,fun _=>rfl⟩
      obtain⟨PY,hPY⟩: ∃PY:Nat->List PV,∀k,PY k=(y::sh.take k).map PV.s:=⟨_,fun _=>rfl⟩
      rw[<-hPX,<-hPY]at hcat;have XL: ∀k,(PX k).length=k:=fun k=>by rw[hPX];simp
      have YL: ∀k,k<=n->(PY k).length=k+1:=fun k hk=>by rw[hPY];simp;omega
      have XO: ∀k,((PX k).map AV.v).all AV.one=true:=fun k=>by rw[hPX];simp[yJ,AV.one,PV.one]
      have YO: ∀k,((PY k).map AV.v).all AV.one=true:=fun k=>by
       rw[hPY,bM];intro a ha;obtain⟨b,hb,rfl⟩:=bG.1 ha;obtain⟨c,-,rfl⟩:=bG.1 hb;rfl
      have XN: ∀hf f k,((PX k).map AV.v).flatMap (aV hf (f+1))=[]:=fun hf f k=>ui hf f _
      have YN: ∀hf f k,((PY k).map AV.v).flatMap (aV hf (f+1))=[]:=fun hf f k=>ui hf f _
      have XB: ∀k,∀c∈(PX k).map AV.v,c.bd 1111=true:=fun k c hc=>by obtain⟨x,-,rfl⟩:=bG.1 hc;rfl
      have YB: ∀k,∀c∈(PY k).map AV.v,c.bd 1111=true:=fun k c hc=>by obtain⟨x,-,rfl⟩:=bG.1 hc;rfl
      have XS: ∀k,(PX k).map AV.v++[.v (E (k:Nat))]=(PX (k+1)).map AV.v:=fun k=>by rw[hPX,hPX,hLr];simp[yJ]
      have YS: ∀k,k+1<n->(PY k).map AV.v++[.v (.s (sh.getD k []))]=(PY (k+1)).map AV.v:=fun k hk=>by rw[hPY,hPY,hLs k oO];simp
      have X2:(PX 2).map AV.v=[.v (E 0), .v (E 1)]:=by rw[hPX];rfl
      have Y1:(PY 1).map AV.v=[.v (.s y), .v (.s (sh.getD 0 []))]:=by rw[hPY,t1];rfl
      have X2':PX 2=[E 0,E 1]:=by rw[hPX];rfl
      have Y1':PY 1=[.s y, .s (sh.getD 0 [])]:=by rw[hPY,t1];rfl
      clear hPX hPY hLr hLs;refine af (α:=Nat⊕Unit) (fun j=>match j with| .inl j=>d-j| .inr _=>0) (fun j=>match j with| .inl j=>⟨[(1, .p 1000 0 0),(9,E' n),(11, .rs 1096 j 0 (j+2) 1),(12, .rs 1106 j 0 (j+2) 1),(13,E' (j+2))],[(1000,⟨0,[.v (.s name), .v (.s m), .v (.s o), .v (.s g), .v (.s y), .v (E d), .v (.sl (sh.map .s))],false,none⟩),(1096,⟨j,(PX (j+2)).map AV.v,true,some 3⟩),(1106,⟨j,(PY (j+1)).map AV.v,true,some 22⟩)],1111⟩| .inr _=>⟨[(11, .v (.sl (PX d))),(12, .v (.sl (PY (d-1)))),(1, .p 1000 0 0),(9,E' n),(13,E' d)],[(1000,⟨0,[.v (.s name), .v (.s m), .v (.s o), .v (.s g), .v (.s y), .v (E d), .v (.sl (sh.map .s))],false,none⟩)],1111⟩) (fun j=>match j with| .inl j=>j+2<d| .inr _=>True) (if 2<d then .inl 0 else .inr ()) (fun j=>by cases j<;>exact bZ rfl) ?_ ?_ ?_
      ·by_cases h2:2<d
       ·rw[ah h2];show 0+2<d;omega
       ·rw[ae h2];trivial
      ·by_cases h2:2<d
       ·rw[ah h2];simp only[dq,X2,Y1];exact lE
       ·rw[ae h2];have hd2:d=2:=oO;have z1:PX d=[E 0,E 1]:=by rw[hd2,X2']
        have z2:PY (d-1)=[.s y, .s (sh.getD 0 [])]:=by rw[hd2,Y1']
        simp only[z1,z2];have z3:((d:Nat):Int)=2:=oO;refine AS.Le.LA [(11, .sl [E 0,E 1]),(12, .sl [.s y, .s (sh.getD 0 [])])] [1096,1106] ?_ ?_ (by first|decide|omega) ?_ ?_
        ·intro q hq;simp at hq;rcases hq with rfl|rfl<;>exact⟨by decide,rfl⟩
        ·intro p hp;simp at hp;rcases hp with rfl|rfl<;>simp[aO,az,view,aV,bz,chunk,AV.one,PV.one]
        ·simp[dy,dx,aO,az,AV.bd,AV.bd.bdL,z3]
        ·simp[dy,dx,aO,az,AV.bd,AV.bd.bdL,z3]
      ·rintro(j| _) hj R hR
       ·have hj:j+2<d:=hj;have q1:=XL (j+2);have q2:List.take (j+2) ((PX (j+2)).map AV.v)=(PX (j+2)).map AV.v:=cb (by rw[aB,q1];omega)
        have q3:=YL (j+1) oO;have q4:List.take (j+2) ((PY (j+1)).map AV.v)=(PY (j+1)).map AV.v:=cb (by rw[aB,q3];omega)
        have p1:=XS (j+2);have p2:=YS (j+1) oO;have e2:=dM (l:=sh) (x:=j+1) oO;have hw: ∀ _:True,IntKind.i64.wrap (((j+2:Nat):Int)-1)=((j+1:Nat):Int):=fun _=>by rw[IntWalk.i64_in _ oO];omega
        have hlt2: ∀ _:True,decide (((j+2:Nat):Int)<(d:Int))=true:=fun _=>aI oO
        clear hcat hsv hcB e1 t1
        by_cases h3:j+3<d
        ·have hgo:=hR (.inl (j+1)) h3 (by show d-(j+1)<d-j;omega)
         simp only[show j+1+2=j+2+1 from rfl]at hgo
         clear hR;generalize sh.getD (j+1) []=x at*;refine dH (aN @l1 (aN @lS (aN @e2 (aN (hw oT) (aN (hlt2 oT) (aN @q1 (aN @q2 (aN @q3 (aN @q4 (aN @p1 @p2)))))))))) ?_;refine hgo _ ?_
         (refine AS.Le.of (by first|decide|omega) ?_ ?_<;>simp[dy,dx,aO,az,AV.bd,AV.bd.bdL,u8,ar,ax,aA])
         all_goals exact⟨fun c hc=>XB _ c (by simpa using hc),fun c hc=>YB _ c (by simpa using hc)⟩
        ·have hgo:=hR (.inr ()) trivial (by show 0<d-j;omega)
         clear hR;obtain rfl:d=j+3:=oO;generalize sh.getD (j+1) []=x at*;refine dH (aN @l1 (aN @lS (aN @e2 (aN (hw oT) (aN (hlt2 oT) (aN @q1 (aN @q2 (aN @q3 (aN @q4 (aN @p1 @p2)))))))))) ?_;refine hgo _ ?_;have q5:=XL (j+3);have q6:List.take (j+3) ((PX (j+3)).map AV.v)=(PX (j+3)).map AV.v:=cb (by rw[aB,q5];omega)
         have q7:=XO (j+3);have q8:chunk 1 (j+3) (PX (j+3))=PX (j+3):=by have:=nZ (PX (j+3));rwa[q5]at this
         have p5:=YL (j+2) oO;have p6:List.take (j+3) ((PY (j+2)).map AV.v)=(PY (j+2)).map AV.v:=cb (by rw[aB,p5];omega)
         have p7:=YO (j+2);have p8:chunk 1 (j+3) (PY (j+2))=PY (j+2):=by have:=nZ (PY (j+2));rwa[p5]at this
         refine AS.Le.LA [(11, .sl (PX (j+3))),(12, .sl (PY (j+2)))] [1096,1106] ?_ ?_ (by first|decide|omega) ?_ ?_
         ·intro q hq;simp at hq;rcases hq with rfl|rfl<;>exact⟨by decide,rfl⟩
         ·intro p hp;simp only[cr,kx,or_false]at hp;rcases hp with rfl|rfl<;>simp only[aO,az,view,aV,eQ,dq,pA,dN,aB,Nat.reduceEqDiff,au,an,q5,q6,q7,q8,p5,p6,p7,p8,XN,YN]<;>simp
          all_goals first|exact q8|exact p8
         ·simp[dy,dx,aO,az,AV.bd,AV.bd.bdL]<;>omega
         ·simp[dy,dx,aO,az,AV.bd,AV.bd.bdL]
       ·refine cU (aN @l1 @lS) ?_;refine af (α:=Nat) (fun k=>n+1-k) (fun k=>⟨[(1, .p 1000 0 0),(9,E' n),(11, .v (.sl (PX d))),(12, .v (.sl (PY (d-1)))),(14,E' k)],[(1000,⟨0,[.v (.s name), .v (.s m), .v (.s o), .v (.s g), .v (.s y), .v (E d), .v (.sl (sh.map .s))],false,none⟩)],1118⟩) (fun k=>d<=k/\k<=n+1/\ ∀i,d<=i->i<k->A i=num (sh.getD (i-1) [])) d (fun _=>bZ rfl) ⟨ay _,oO,fun i h1 h2=>oO⟩ ?_ ?_
        ·exact lE
        ·rintro k ⟨hdk,hkn,hall⟩ R hR
         by_cases hlt:k<=n
         ·obtain⟨j,rfl⟩: ∃j,k=j+1:=⟨k-1,oO⟩;have hgo:=fun(h:A (j+1)=num (sh.getD j []))=>hR (j+1+1) ⟨oO,oO,fun i h1 h2=>by
           by_cases e:i=j+1
           ·subst e;exact h
           ·exact hall i h1 oO⟩ oO
          have e1:=dM (l:=sh) (x:=j) oO;have vx:=hsv _ (aq [] (show j<sh.length by omega))
          have hc:=hcat (j+1) oO;have hw: ∀ _:True,IntKind.i64.wrap (((j+1:Nat):Int)-1)=(j:Int):=fun _=>by rw[IntWalk.i64_in _ oO];omega
          have hb:=JL vx (A (j+1));have hle: ∀ _:True,decide (((j+1:Nat):Int)<=(n:Int))=true:=fun _=>aI oO
          have hbad:A (j+1)≠num (sh.getD j [])->cB=false:=fun h=>by
           rw[hcB];exact x9.2 ⟨j+1,dV.2 oO,by
            rw[jw,aH (show¬(j+1<d) by omega),aH h];decide⟩
          generalize A (j+1)=v at*;generalize sh.getD j []=x at*;clear hR hall hcat hsv hcB
          by_cases hv:v=num x
          ·rw[aI hv]at hb;have hgo:=hgo hv;have hb':(aX v !=x)=false:=by rw[bne,hb];rfl
           clear hbad;exact gV (aN @l1 (aN @lS (aN @e1 (aN (hw oT) (aN @hb (aN @hb' (hle oT))))))) @hgo @hc
          ·rw[aH hv]at hb;rw[hbad hv];have hb':(aX v !=x)=true:=by rw[bne,hb];rfl
           clear hgo hbad;exact mi (aN @l1 (aN @lS (aN @e1 (aN (hw oT) (aN @hb (aN @hb' (hle oT))))))) @hc
         ·obtain rfl:k=n+1:=oO;have hgood:cB=true:=by
           rw[hcB];refine bM.2 fun i hi=> ?_
           have:=dV.1 hi
           by_cases h:i<d
           ·rw[aI h];rfl
           ·rw[aI (hall i oO oO)];simp
          rw[hgood];have hle: ∀ _:True,decide (((n+1:Nat):Int)<=(n:Int))=false:=fun _=>aH oO
          clear hR hall hcat hsv hcB;exact gn (hle oT)
theorem Zx:aD 51 [E (-1)] (.agg [.b true, .s [1]]):=by
 have hm:=xK true [1];refine eW call51 func51 ?_;exact z2 @sQ @hm
abbrev Shr (i:Nat) (d ch:Bytes) (rs:List Int):PV:= .agg [E i, .s d, .s ch, .sl (rs.map Zp), .sl [], .sl []]
theorem Vd (l:List Int):(l.map gW).map dI=l.map Zp:=by rw[iB];rfl
theorem aal (a b:Int):jG false (.i .i64 a) (.i .i64 b)=some (decide (a=b)):=Xz a b
theorem Nr:gE [23] [11]=0:=by decide+kernel
theorem Nb (n:Nat) (h1:n<23) (h2:Nat.gcd n 23=1) (h3:n^11%23=1):GP [23] [11] n:=⟨h1,h2, .inr h3⟩
theorem MA {ch1 ch3:Bytes} {rs1 rs3:List Int} (l1:rs1.length<1000) (l3:rs3.length<1000) (v1:DH [11] [2] (mc AP 1) (eB AP 1 [16] [18]) ch1 (rs1.map gW) [] []=0) (v3:DH [11] [2] (mc AP 3) (eB AP 3 [16] [1]) ch3 (rs3.map gW) [] []=0):
  aD 16 [AP.pv,PA [16] [9], .sl [Shr 1 [18] ch1 rs1,Shr 3 [1] ch3 rs3]] (.tup [.s [13],E 0]):=by
 have k:=ov zH;have c0:=qH AP oC oC oC oC;rw[zH]at c0;have c1:=CE AP oC oC oC oC k (i:=1) oC oC (A:=[16]) (B:=[9]) (d:=[18]) oC (by decide+kernel) (by decide+kernel) (by decide+kernel) (ch:=ch1) (rs:=rs1.map gW) (gs:=[]) (ls':=[]) (by simp;omega) (by simp) (by simp) (fun l h=>by cases h)
 have c3:=CE AP oC oC oC oC k (i:=3) oC oC (A:=[16]) (B:=[9]) (d:=[1]) oC (by decide+kernel) (by decide+kernel) (by decide+kernel) (ch:=ch3) (rs:=rs3.map gW) (gs:=[]) (ls':=[]) (by simp;omega) (by simp) (by simp) (fun l h=>by cases h)
 rw[show AP.o=[11]from rfl]at c1 c3
 rw[v1]at c1;rw[v3]at c3;simp only[Vd,bK]at c1 c3;have a1:=Mr [23] [11] [4] [12] (pts:=[1,3]) (by simp) (by simp) oC
 have a2:=Ie (m:=[23]) (o:=[11]) oC oC Nr oC (by decide+kernel) [4] [12] (pts:=[1,3]) (nh:=[18,1]) (by simp) rfl oC oC (by simp) (fun x hx=>by
  simp only[cr,kx,or_false]at hx;rcases hx with rfl|rfl
  ·exact Nb 18 oC oC oC
  ·exact Nb 1 oC oC oC) (x:=0) oC
 rw[show Lz (num [23]) (num [11]) [1,3] [18,1] 0=6 from ZE]at a2
 have p1:=CX (m:=[23]) (o:=[11]) oC oC Nr (xs:=[9,6]) (es:=[(false,[1]),(true,[1])]) (fun x hx=>by
  simp only[cr,kx,or_false]at hx;rcases hx with rfl|rfl
  ·exact Nb 9 oC oC oC
  ·exact Nb 6 oC oC oC) (fun e he=>by
  simp only[cr,kx,or_false]at he;rcases he with rfl|rfl<;>rfl) rfl (by simp)
 have hz:B5 (num [23]) ([9,6].zip [(false,[1]),(true,[1])])=13:=by
  show B5 23 [(9,(false,[1])),(6,(true,[1]))]=13;rw[tR,I2];show dh 23 9 false 1*dh 23 6 true 1%23=13;have:fR 6 23=4:=jd oC oC;simp only[dh,this];decide
 rw[hz]at p1;have z1:([9,6]:List Nat).map dr=[.s [9], .s [6]]:=by kernel_rfl
 have z2:([18,1]:List Nat).map dr=[.s [18], .s [1]]:=by kernel_rfl
 have z3:([1,3]:List Nat).map dr=[.s [1], .s [3]]:=by kernel_rfl
 have z4:([1,3]:List Nat).map yJ=[E 1,E 3]:=rfl;have z5:([(false,[1]),(true,[1])]:List (Bool×Bytes)).map dI=[.agg [.b false, .s [1]], .agg [.b true, .s [1]]]:=rfl;have z6:N 6= .s [6]:=by kernel_rfl
 have z7:N 13= .s [13]:=by kernel_rfl
 have o1:aD 51 [E 1] (.agg [.b false, .s [1]]):=T7;simp only[GC,z3,z4]at a1 a2;rw[z2,z6]at a2;rw[z1,z5,z7]at p1;have hK:AP.pv= .agg [.s [99], .s [23], .s [11], .s [4], .s [12],E 2, .sl [.s [8], .s [13], .s [1]]]:=rfl;rw[hK]at c0 c1 c3⊢;clear k v1 v3 hz;refine eW call16 func16 ?_;repeat' first|simp only[go_sem,seval,fY,eK,ND,qm,vM,aal,aj,bm,Option.isSome_some]|refine cP c0 ?_|refine cP c1 ?_|refine cP c3 ?_|(refine nk [1081] a1 rfl (by simp[aV,az]) (by simp[bz,view,az,AV.one,PV.one,chunk]) ?_)|(refine nk [1086] a2 rfl (by simp[aV,az]) (by simp[bz,view,az,AV.one,PV.one,chunk]) ?_)|refine cP o1 ?_|refine cP Zx ?_|refine cP p1 ?_|(refine ai ?_)|refine oE ?_|apply xX<;>intro hc
theorem qM (n:Nat) (h:n<(2^64)):aD 18 [.i .u64 n] (N n):=by
 have h1:=ig n h;refine eW call18 func18 ?_;exact z1 @h1
theorem Tm:aD 21 [.sl [.i .u64 4, .i .u64 2]] (.sl [.s [4], .s [2]]):=by
 have a:aD 18 [.i .u64 4] (.s [4]):=qM 4 oC;have b:aD 18 [.i .u64 2] (.s [2]):=qM 2 oC;refine eW call21 func21 ?_;exact Pz @a @b
theorem Tn {a b c:Nat} (ha:a<(2^64)) (hb:b<(2^64)) (hc:c<(2^64)):aD 21 [.sl [.i .u64 a, .i .u64 b, .i .u64 c]] (.sl [N a,N b,N c]):=by
 have a:=qM a ha;have b:=qM b hb;have c:=qM c hc;refine eW call21 func21 ?_;exact Y7 @a @b @c
theorem UO (a b:Bytes):aD 60 [.sl [.s a, .s b]] (.sl [.s a, .s b]):=by
 refine eW call60 func60 ?_;exact z0
theorem YU (a b:Bytes):aD 20 [.sl [.s a, .s b]] (T [a,b] [] 0):=by
 have h:=UO a b;refine eW call20 func20 ?_;exact z1 @h
theorem Jk (s:Bytes):aD 23 [.s s] (T [] s 0):=by
 refine eW call23 func23 ?_;exact z0
theorem Tv (a b c:Bytes):aD 22 [.sl [.s a, .s b, .s c], .sl [.s a, .s b, .s c]] (.b true):=by
 refine eW call22 func22 ?_;repeat' first|simp only[go_sem,seval,fY,eK,dO,bQ]|(refine ai ?_)|refine oE ?_|apply xX<;>intro hc
 all_goals rfl
theorem Hy {c sl ctx:Bytes} {s:cG} {w:List Int} {vs:List Bytes} {sd:Bytes} {a:Int} {ch:Bytes} {rs:List Int} {j:Nat} (h:qn c sl ctx s w vs sd a= .ok (ch,rs,j)):rs.length=s.vars.length:=by
 obtain⟨i',ms,z,-,-,-,rfl⟩:=DE (Fs h);exact Av ..
theorem Gw:aD 8 [] (.b true):=by
 obtain⟨⟨ch1,rs1,j1⟩,p1⟩:=Tp aar;obtain⟨⟨ch3,rs3,j3⟩,p3⟩:=Tp aas;have k:=ov zH;have g16:GP AP.m AP.o (num [16]):=Nb 16 oC oC oC;have s1:=vC AP oC oC oC oC zH (i:=1) oC oC (x:=[7]) (A:=[16]) (B:=[9]) (vs:=[]) (sd:=[97]) (a:=0) (by simp) (by simp) oC oC (by decide+kernel) (by decide+kernel) oC (by decide+kernel) (d:=18) (by decide+kernel) p1 (fun e h=>by cases h)
 have s3:=vC AP oC oC oC oC zH (i:=3) oC oC (x:=[]) (A:=[16]) (B:=[9]) (vs:=[]) (sd:=[98]) (a:=0) (by simp) (by simp) oC oC (by decide+kernel) (by decide+kernel) oC (by decide+kernel) (d:=1) (by decide+kernel) p3 (fun e h=>by cases h)
 have v1:=GD k oC g16 (by decide+kernel) (by decide+kernel) p1
 have v3:=GD k oC g16 (by decide+kernel) (by decide+kernel) p3
 have l1:rs1.length<1000:=by rw[Hy p1];decide
 have l3:rs3.length<1000:=by rw[Hy p3];decide
 have op:=MA l1 l3 v1 v3;have fo:=MY (name:=[99]) (m:=[23]) (o:=[11]) oC oC oC [4] 2 (count:=3) oC (vs:=[[4],[2]]) (sd:=[]) (a:=0) (by simp) (by simp)
 rw[Xq]at fo;rw[show EN [99] [23] [11] [4] 2 [[4],[2]] [] (.ok (12,[7,9,0],2))= .tup [.agg [.s [99], .s [23], .s [11], .s [4], .s [12],E 2, .sl [.s [8], .s [13], .s [1]]], .sl [.s [7], .s [9], .s []],T [[4],[2]] [] 2,E 0] by kernel_rfl]at fo
 simp only[nj]at s1 s3;have hK:AP.pv= .agg [.s [99], .s [23], .s [11], .s [4], .s [12],E 2, .sl [.s [8], .s [13], .s [1]]]:=rfl;rw[hK]at s1 s3 op;rw[show N 18= .s [18]from rfl]at s1
 rw[show N 1= .s [1]from rfl]at s3
 have n: ∀(x:Nat) (b:Bytes),x<(2^64)->aX x=b->aD 18 [.i .u64 x] (.s b):=fun x b hx hb=>by rw[<-hb];exact qM x hx
 have n23:=n 23 [23] oC rfl;have n11:=n 11 [11] oC rfl;have n4:=n 4 [4] oC rfl;have n12:=n 12 [12] oC rfl;have n16:=n 16 [16] oC rfl;have n9:=n 9 [9] oC rfl;have n7:=n 7 [7] oC rfl;have n0:=n 0 [] oC rfl;have n18:=n 18 [18] oC rfl;have n1:=n 1 [1] oC rfl;have n13:=n 13 [13] oC rfl;have m1:aD 21 [.sl [.i .u64 7, .i .u64 9, .i .u64 0]] (.sl [.s [7], .s [9], .s []]):=Tn (a:=7) (b:=9) (c:=0) oC oC oC;have m2:aD 21 [.sl [.i .u64 8, .i .u64 13, .i .u64 1]] (.sl [.s [8], .s [13], .s [1]]):=Tn (a:=8) (b:=13) (c:=1) oC oC oC;have vv:=YU [4] [2];have sa:=Jk [97];have sb:=Jk [98];have q1:=Tv [7] [9] [];have q2:=Tv [8] [13] [1];simp only[show((1:Nat):Int)=1 from rfl,show((3:Nat):Int)=3 from rfl,show((23:Nat):Int)=23 from rfl,show((11:Nat):Int)=11 from rfl,show((4:Nat):Int)=4 from rfl,show((12:Nat):Int)=12 from rfl,show((16:Nat):Int)=16 from rfl,show((9:Nat):Int)=9 from rfl,show((7:Nat):Int)=7 from rfl,show((0:Nat):Int)=0 from rfl,show((18:Nat):Int)=18 from rfl,show((13:Nat):Int)=13 from rfl]at s1 s3 op n23 n11 n4 n12 n16 n9 n7 n0 n18 n1 n13
 clear p1 p3 k v1 v3 hK n;refine eW call8 func8 ?_;repeat' first|simp only[go_sem,seval,dO,jl,bQ]|refine cP n23 ?_|refine cP n11 ?_|refine cP n4 ?_|refine cP Tm ?_|refine cP vv ?_|refine cP fo ?_|refine cP n12 ?_|refine cP m1 ?_|refine cP q1 ?_|refine cP m2 ?_|refine cP q2 ?_|refine cP n16 ?_|refine cP n9 ?_|refine cP n7 ?_|refine cP sa ?_|refine cP s1 ?_|refine cP n0 ?_|refine cP sb ?_|refine cP s3 ?_|refine cP op ?_|refine cP n18 ?_|refine cP n1 ?_|refine cP n13 ?_|refine oE ?_|apply xX<;>intro hc
 all_goals rfl
theorem KK (name m o g y:Bytes) (need:Int) (ln:name.length<=60) (lm:m.length<=8) (lo:o.length<=8):aD 35 [.agg [.s name, .s m, .s o, .s g, .s y,E need, .sl []]] (E (fp ⟨name,m,o,g,y,need,[]⟩)):=by
 have v1:=aK m;have v2:=aK o;have v3:=aK g;have v4:=aK y;have h3:=Al name ln;have h4:=wV lm lo g y;have h5:=Hn o oO;unfold fp;simp only[List.all_cons,List.all_nil,jB,bQ,Bool.or_false,List.length_nil]
 by_cases hv:(aa m&&(aa o&&(aa g&&aa y)))=true
 case neg=>
  have hv:(aa m&&(aa o&&(aa g&&aa y)))=false:=by simpa using hv
  rw[hv];simp only[ca,au];generalize aa m=c1 at*;generalize aa g=c3 at*;generalize aa y=c4 at*;cases c1
  ·clear h4 h5;refine eW call35 func35 ?_;repeat' first|simp only[go_sem,seval,fY,eK,bK,uI]|refine cP v1 ?_|(refine ai ?_)|refine oE ?_|apply xX<;>intro hc
   all_goals rfl
  cases hc2:aa o
  ·rw[hc2]at v2;clear h4 h5;refine eW call35 func35 ?_;exact Pz @v1 @v2
  rw[hc2]at v2 hv;cases c3
  ·clear h4 h5;refine eW call35 func35 ?_;exact Y7 @v1 @v2 @v3
  cases c4
  ·clear h4 h5;refine eW call35 func35 ?_;exact Y8 @v1 @v2 @v3 @v4
  ·cases hv
 rw[hv];simp only[aZ]at hv;obtain⟨vm,vo,vg,vy⟩:=hv;rw[vm]at v1;rw[vo]at v2;rw[vg]at v3;rw[vy]at v4;simp only[bQ,bm,an]
 cases hn:mn name with
 |false=>
  rw[hn]at h3;simp only[ca,au];refine eW call35 func35 ?_;exact zu5 @v1 @v2 @v3 @v4 @h3
 |true=>
 rw[hn]at h3;simp only[bQ,bm,an]
 by_cases hk:nN m o g y=0
 case neg=>
  rw[ah hk];generalize nN m o g y=e at*;refine eW call35 func35 ?_;repeat' first|simp only[go_sem,seval,fY,eK]|refine cP v1 ?_|refine cP v2 ?_|refine cP v3 ?_|refine cP v4 ?_|(refine ai ?_)|refine cP h3 ?_|refine cP h4 ?_|refine oE ?_|apply xX<;>intro hc
  all_goals rfl
 rw[hk]at h4;rw[ae (by simpa using hk)]
 rw[vo,aI lo,ah rfl,ah lo]at h5;simp only[cj]at h5
 cases hp:fj (num o)with
 |false=>
  rw[hp]at h5;simp only[ca,au];refine eW call35 func35 ?_;repeat' first|simp only[go_sem,seval,fY,eK]|refine cP v1 ?_|refine cP v2 ?_|refine cP v3 ?_|refine cP v4 ?_|(refine ai ?_)|refine cP h3 ?_|refine cP h4 ?_|refine cP h5 ?_|refine oE ?_|apply xX<;>intro hc
  all_goals rfl
 |true=>
 rw[hp]at h5;simp only[bQ,bm,an];have hq2:=zE hp;rw[ah oO];have h6:aD 55 [.i .u64 0] (N 0):=ig 0 oC;have h7:=mA (aX 0) o;rw[vN (show 0<(2^64) by decide),vo,aP]at h7
 simp only[dE,au]at h7;have hcg:=vz 0 (num o);rw[aH (show¬(num o<=0) by omega)]at hcg
 generalize ba 0 (num o)=cm at*
 by_cases b2:need<1
 ·refine eW call35 func35 ?_;repeat' first|simp only[go_sem,seval,fY,eK,hcg]|refine cP v1 ?_|refine cP v2 ?_|refine cP v3 ?_|refine cP v4 ?_|(refine ai ?_)|refine cP h3 ?_|refine cP h4 ?_|refine cP h5 ?_|refine cP h6 ?_|refine cP h7 ?_|refine oE ?_|apply xX<;>intro hc
  all_goals rfl
 ·have b3:need>0:=oO;refine eW call35 func35 ?_;repeat' first|simp only[go_sem,seval,fY,eK,hcg]|refine cP v1 ?_|refine cP v2 ?_|refine cP v3 ?_|refine cP v4 ?_|(refine ai ?_)|refine cP h3 ?_|refine cP h4 ?_|refine cP h5 ?_|refine cP h6 ?_|refine cP h7 ?_|refine oE ?_|apply xX<;>intro hc
  all_goals rfl
theorem Oj (c:CK) (ln:c.name.length<=60) (lm:c.m.length<=8) (lo:c.o.length<=8) (ls:c.sh.length<=8):aD 35 [c.pv] (E (fp c)):=by
 by_cases h:c.sh=[]
 ·obtain⟨name,m,o,g,y,need,sh⟩:=c;simp only at h ln lm lo;subst h;exact KK name m o g y need ln lm lo
 ·exact Ft c ln lm lo ls h
def Co (x:Bytes):Bool:=decide (x.length<=12)
def HH (c:CK):Bool:=decide (c.m.length<=8/\c.o.length<=8/\c.g.length<=12/\c.y.length<=12/\c.sh.length<=8/\c.name.length<=60)
def CT (c:CK):Bool:=(c.sh.take 20).all Co&&HH c
theorem J4 (c:CK) (hl:c.sh.length<4611686018427387904):aD 5 [c.pv] (.b (CT c)):=by
 unfold CT;obtain⟨S,hS⟩: ∃S,S=HH c:=⟨_,rfl⟩;rw[<-hS];obtain⟨name,m,o,g,y,need,sh⟩:=c;simp only[CK.pv,HH]at*;obtain⟨n,hn⟩: ∃n,n=sh.length:=⟨_,rfl⟩;have l1:(sh.map PV.s).length=n:=by rw[aB,hn]
 refine eW call5 func5 ?_;refine pU ?_;refine af (α:=Nat) (fun i=>n-i) (fun i=>⟨[(1, .p 1000 0 0),(3,E' i)],[(1000,⟨0,[.v (.s name), .v (.s m), .v (.s o), .v (.s g), .v (.s y), .v (E need), .v (.sl (sh.map .s))],false,none⟩)],_⟩) (fun i=>i<=n/\i<=20/\((sh.drop i).take (20-i)).all Co=(sh.take 20).all Co) 0 (fun _=>ay _) ⟨aJ _,aJ _,rfl⟩ ?_ ?_
 ·exact lE
 ·rintro i ⟨hi,h20,hf⟩ R hR
  by_cases hlt:i<n/\i<20
  ·obtain⟨h1,h2⟩:=hlt;have e1:=dM (l:=sh) (x:=i) oO;have hgo:=fun h=>hR (i+1) ⟨oO,oO,h⟩ oO
   obtain⟨j,hj⟩: ∃j,20-i=j+1:=⟨19-i,oO⟩;rw[hj,aT [] (show i<sh.length by omega),List.take_succ_cons,List.all_cons]at hf
   rw[show 20-(i+1)=j by omega]at hgo
   have d1:decide ((i:Int)<(n:Int))=true:=aI oO;have d2:decide ((i:Int)<20)=true:=aI oO;generalize sh.getD i []=x at*;clear hR
   by_cases hx:x.length<=12
   ·rw[show Co x=true from aI hx,cj]at hf
    have hgo:=hgo hf;have d3:decide ((x.length:Int)>12)=false:=aH oO;clear hf hS;exact jC (aN @l1 (aN @e1 (aN @d1 (aN @d2 @d3)))) @hgo
   ·rw[show Co x=false from aH hx,dW]at hf
    rw[<-hf,dW];have d3:decide ((x.length:Int)>12)=true:=aI oO;clear hf hgo hS;exact gn (aN @l1 (aN @e1 (aN @d1 (aN @d2 @d3))))
  ·have hall:(sh.take 20).all Co=true:=by
    rw[<-hf]
    by_cases g:i<20
    ·rw[gU oO];simp
    ·rw[show 20-i=0 by omega];rfl
   rw[hall,cj];clear hf hR
   by_cases hin:i<n
   ·have h8: ¬n<=8:=oO;have hSf:S=false:=by rw[hS,<-hn];exact aH fun h=>h8 h.2.2.2.2.1
    rw[hSf];have d1:decide ((i:Int)<(n:Int))=true:=aI oO;have d2:decide ((i:Int)<20)=false:=aH oO;have d4:decide ((n:Int)<=8)=false:=aH oO;clear hS hall
    by_cases h1:m.length<=8
    case neg=>
     repeat' first|simp only[go_sem,seval,l1,d1,d2,d4]|refine oE ?_|apply xX<;>intro hc
     all_goals simp
    by_cases h2:o.length<=8
    case neg=>
     repeat' first|simp only[go_sem,seval,l1,d1,d2,d4]|refine oE ?_|apply xX<;>intro hc
     all_goals simp
    by_cases h3:g.length<=12
    case neg=>
     repeat' first|simp only[go_sem,seval,l1,d1,d2,d4]|refine oE ?_|apply xX<;>intro hc
     all_goals simp
    by_cases h4:y.length<=12
    case neg=>
     repeat' first|simp only[go_sem,seval,l1,d1,d2,d4]|refine oE ?_|apply xX<;>intro hc
     all_goals simp
    repeat' first|simp only[go_sem,seval,l1,d1,d2,d4]|refine oE ?_|apply xX<;>intro hc
    all_goals simp
   ·have d1:decide ((i:Int)<(n:Int))=false:=aH oO;clear hall;rw[<-hn]at hS
    by_cases h1:m.length<=8
    case neg=>
     rw[show S=false by rw[hS];exact aH fun h=>h1 h.1]
     repeat' first|simp only[go_sem,seval,l1,d1]|refine oE ?_|apply xX<;>intro hc
     all_goals simp
    by_cases h2:o.length<=8
    case neg=>
     rw[show S=false by rw[hS];exact aH fun h=>h2 h.2.1]
     repeat' first|simp only[go_sem,seval,l1,d1]|refine oE ?_|apply xX<;>intro hc
     all_goals simp
    by_cases h3:g.length<=12
    case neg=>
     rw[show S=false by rw[hS];exact aH fun h=>h3 h.2.2.1]
     repeat' first|simp only[go_sem,seval,l1,d1]|refine oE ?_|apply xX<;>intro hc
     all_goals simp
    by_cases h4:y.length<=12
    case neg=>
     rw[show S=false by rw[hS];exact aH fun h=>h4 h.2.2.2.1]
     repeat' first|simp only[go_sem,seval,l1,d1]|refine oE ?_|apply xX<;>intro hc
     all_goals simp
    by_cases h5:n<=8
    case neg=>
     rw[show S=false by rw[hS];exact aH fun h=>h5 h.2.2.2.2.1]
     repeat' first|simp only[go_sem,seval,l1,d1]|refine oE ?_|apply xX<;>intro hc
     all_goals simp
    by_cases h6:name.length<=60
    case neg=>
     rw[show S=false by rw[hS];exact aH fun h=>h6 h.2.2.2.2.2]
     have d6:decide ((name.length:Int)<=60)=false:=aH oO;repeat' first|simp only[go_sem,seval,l1,d1,d6]|refine oE ?_|apply xX<;>intro hc
     all_goals simp
    rw[show S=true by rw[hS];exact aI ⟨h1,h2,h3,h4,h5,h6⟩]
    have d6:decide ((name.length:Int)<=60)=true:=aI oO;repeat' first|simp only[go_sem,seval,l1,d1,d6]|refine oE ?_|apply xX<;>intro hc
    all_goals simp
