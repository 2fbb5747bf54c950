/- Part of the proof. -/
import Derived.Test.YtkmahpcpmgedkaaGreatDoorFB41
import Derived.Test.YtkmahpcpmgedkaaGreatDoorFB42
set_option linter.all false
set_option maxHeartbeats 16000000
set_option maxRecDepth 100000
namespace Go.Proofs.Tryz
open Go Go.Dom Go.Num
variable {A B a c ch ctx d o sd sl x:Bytes} {gs vs:List Bytes} {i j:Nat} {rs:List (Bool×Bytes)}
def CK.nh (c:CK) (d:Nat):List Bytes:=c.y::c.sh.take (d-1)
noncomputable def CK.at (c:CK) (i:Nat):Nat:=Lz (num c.m) (num c.o) (List.range c.need.toNat) ((c.nh c.need.toNat).map num) i
noncomputable def JR (c:CK):Bool:=(List.range (c.sh.length+1)).all fun i=>decide (i<c.need.toNat)||decide (c.at i=num (c.sh.getD (i-1) []))
noncomputable def fp (c:CK):Int:=
 if !([c.m,c.o,c.g,c.y].all aa)|| !(c.sh.all aa)then 3 else if !mn c.name then 1
 else if nN c.m c.o c.g c.y≠0 then nN c.m c.o c.g c.y
 else if !fj (num c.o)then 12
 else if(num c.o:Int)<=c.sh.length\/c.need<1\/c.need>c.sh.length then 6
 else if !(c.sh.all (jn c.m c.o))then 13 else if JR c then 0 else 22
theorem Dt {m o g y:Bytes} (h:nN m o g y=0):gE m o=0/\o≠[]/\aa g=true/\GP m o (num g)/\g≠[1]/\aa y=true/\GP m o (num y)/\y≠[1]:=by
 unfold nN at h
 split at h
 ·cases h
 ·split at h
  ·rename_i h1;exact aW h h1
  ·rename_i h1
   split at h
   ·cases h
   ·rename_i h2;have h0:gE m o=0:=by simpa using h1
    simp only[lB,fJ,not_or,D8,eT,HD,jn,aZ,ey]at h2;obtain⟨⟨ho,⟨-,hg⟩,hg1⟩,⟨-,hy⟩,hy1⟩:=h2;obtain⟨a1,a2⟩:=(cH h0).1 hg;obtain⟨b1,b2⟩:=(cH h0).1 hy;exact⟨h0,ho,a1,a2,hg1,b1,b2,hy1⟩
theorem ui (hf:Nat->Option aF) (f:Nat) (l:List PV):(l.map AV.v).flatMap (aV hf (f+1))=[]:=by
 induction l with
 |nil=>rfl
 |cons x r ih=>simp_all[aV]
theorem JL (vx:aa x=true) (v:Nat):(aX v==x)=decide (v=num x):=by
 conv=>lhs;rw[<-gN vx]
 exact wM v (num x)
theorem qH (c:CK) (ln:c.name.length<=60) (lm:c.m.length<=8) (lo:c.o.length<=8) (ls:c.sh.length<=8):aD 24 [c.pv] (E (fp c)):=by
 unfold fp;obtain⟨name,m,o,g,y,need,sh⟩:=c;simp only[CK.pv]at*;have l1:(sh.map PV.s).length=sh.length:=aB ..;have h1:=mH [m,o,g,y] (by simp)
 simp only[br,bK]at h1;have h2:=mH sh oO;have h3:=EC name ln;have h4:=Ld lm lo g y;have h5:=B6 o
 cases hb1:[m,o,g,y].all aa with
 |false=>
  rw[hb1]at h1;simp only[ca,j7,au];refine eW call24 func24 ?_;exact z1 @h1
 |true=>
 rw[hb1]at h1
 cases hb2:sh.all aa with
 |false=>
  rw[hb2]at h2;simp only[ca,uu,au];refine eW call24 func24 ?_;exact z2 @h1 @h2
 |true=>
 rw[hb2]at h2;simp only[bQ,rf,bm,an]
 cases hn:mn name with
 |false=>
  rw[hn]at h3;simp only[ca,au];refine eW call24 func24 ?_;exact z4 @h1 @h2 @h3 oT
 |true=>
 rw[hn]at h3;simp only[bQ,bm,an]
 by_cases hk:nN m o g y=0
 case neg=>
  rw[ah hk];generalize nN m o g y=e at*;refine eW call24 func24 ?_;exact z4 @h1 @h2 @h3 @h4
 rw[hk]at h4;rw[ae (by simpa using hk)]
 obtain⟨hE,ho,vg,gg,-,vy,gy,-⟩:=Dt hk;obtain⟨vm,vo,m1,-,-⟩:=jm hE;have hqW:=eP lo;rw[vo,aI lo,show jr o=0 by have:=tS hqW;rwa[gN vo]at this]at h5
 simp only[cj]at h5
 cases hp:fj (num o)with
 |false=>
  rw[hp]at h5;simp only[ca,au];refine eW call24 func24 ?_;exact z7 @h1 @h2 @h3 @h4 @h5 oT oT
 |true=>
 rw[hp]at h5;simp only[bQ,bm,an];obtain⟨n,hn0⟩: ∃n,n=sh.length:=⟨_,rfl⟩;have hW:=jQ;have lS:sh.length=n:=hn0.symm;rw[lS]at ls⊢;have h6:=lJ n oO;have h7:=sZ (a:=n) (b:=num o) oO oO;rw[eE vo]at h7;have hw: ∀ _:True,IntKind.u64.wrap (n:Int)=n:=fun _=>IntWalk.u64_in _ oO
 have hcg:=vz n (num o);generalize ba n (num o)=cm at*
 by_cases hb:(num o:Int)<=n\/need<1\/need>n
 ·rw[ah hb]
  by_cases b1:num o<=n
  ·rw[aI b1]at hcg;refine eW call24 func24 ?_;exact AU (aN @l1 (aN @lS (aN (hw oT) @hcg))) @h1 @h2 @h3 @h4 @h5 @h6 @h7
  ·rw[aH b1]at hcg
   by_cases b2:need<1
   ·refine eW call24 func24 ?_;exact AU (aN @l1 (aN @lS (aN (hw oT) @hcg))) @h1 @h2 @h3 @h4 @h5 @h6 @h7
   ·have b3:need>n:=oO;refine eW call24 func24 ?_;exact AU (aN @l1 (aN @lS (aN (hw oT) @hcg))) @h1 @h2 @h3 @h4 @h5 @h6 @h7
 rw[ae hb];obtain⟨d,rfl⟩: ∃d:Nat,need=d:=⟨need.toNat,oO⟩;obtain⟨A,hA⟩: ∃A:Nat->Nat,A=fun i=>Lz (num m) (num o) (List.range d) ((y::sh.take (d-1)).map num) i:=⟨_,rfl⟩
 obtain⟨cB,hcB0⟩: ∃cB,cB=JR ⟨name,m,o,g,y,(d:Int),sh⟩:=⟨_,rfl⟩;rw[<-hcB0];have hcB:cB=(List.range (n+1)).all fun i=>decide (i<d)||decide (A i=num (sh.getD (i-1) [])):=by
  rw[hcB0,hA,<-lS];rfl
 clear hcB0;rw[aH (show¬(num o<=n) by omega)]at hcg
 have hsv:=bM.1 hb2;refine eW call24 func24 ?_;refine Gj (aN @l1 (aN @lS (aN (hw oT) @hcg))) @h1 @h2 @h3 @h4 @h5 @h6 @h7 ?_;refine af (α:=Nat) (fun i=>n-i) (fun i=>⟨[(1, .p 1000 0 0),(7,E' n),(90, .v (.sl (sh.map .s))),(91,E' n),(92,E' i)],[(1000,⟨0,[.v (.s name), .v (.s m), .v (.s o), .v (.s g), .v (.s y), .v (E d), .v (.sl (sh.map .s))],false,none⟩)],_⟩) (fun i=>i<=n/\(sh.drop i).all (jn m o)=sh.all (jn m o)) 0 (fun _=>ay _) ⟨aJ _,rfl⟩ ?_ ?_
 ·exact lE
 ·rintro i ⟨hi,hf⟩ R hR
  by_cases hlt:i<n
  ·have e1:=dM (l:=sh) (x:=i) oO;have hgo:=fun h=>hR (i+1) ⟨oO,h⟩ oO
   rw[aT [] (show i<sh.length by omega),List.all_cons]at hf
   generalize sh.getD i []=x at*;have hv:=zq lm lo x;clear hR hcB hA
   cases hbx:jn m o x with
   |true=>
    rw[hbx,cj]at hf;rw[hbx]at hv;refine kz (aN @l1 @e1) @hv ?_;refine hgo hf _ ?_;exact lE
   |false=>
    rw[hbx,dW]at hf;rw[hbx]at hv;rw[<-hf];clear hgo hf;exact mi (aN @l1 @e1) @hv
  ·obtain rfl:n=i:=oO;rw[<-lS,cO]at hf;have hall:sh.all (jn m o)=true:=hf.symm;rw[hall];simp only[bQ,bm,an];clear hf hR;have hgp: ∀x∈sh,GP m o (num x):=fun x hx=>by
    have:=bM.1 hall x hx;unfold jn at this;rw[aZ]at this;exact((cH hE).1 this.2).2
   have hge: ∀x∈(y::sh.take (d-1)).map num,GP m o x:=fun x hx=>by
    obtain⟨z,hz,rfl⟩:=bG.1 hx;rcases cr.1 hz with rfl|hz
    ·exact gy
    ·exact hgp z (jA hz)
   have hlv: ∀x∈y::sh.take (d-1),aa x=true:=fun x hx=>by
    rcases cr.1 hx with rfl|hx
    ·exact vy
    ·exact hsv x (jA hx)
   have hll:(y::sh.take (d-1)).length=d:=by simp;omega
   have hat:=Mr m o g y (pts:=List.range d) (by simp;omega) (by simp;omega) (fun a ha=>by have:=dV.1 ha;omega)
   have hcat:=fun k (hk:k<num o)=>Ie lm lo hE ho hp g y (pts:=List.range d) (nh:=(y::sh.take (d-1)).map num) (by simp;omega) (by rw[aB,hll];simp) DK (fun a ha=>by have:=dV.1 ha;omega) (by simp;omega) hge (x:=k) hk
   rw[<-GV hlv]at hcat;have hcat: ∀k,k<=n->aD 101 (.sl ((y::sh.take (d-1)).map .s)::E k::GC m o g y (List.range d)) (N (A k)):=fun k hk=>by rw[hA];exact hcat k oO
   have hLs: ∀k,k+1<sh.length->sh.take (k+1)=sh.take k++[sh.getD k []]:=fun k hk=>eY [] oO
   have hLr: ∀k,List.range (k+1)=List.range k++[k]:=fun k=>rj
   clear hA hgp hge hlv;refine dH (aN @l1 @lS) ?_
   by_cases hd1:d=1
   ·have hr1:(List.range d).map yJ=[E 0]:=by rw[hd1];rfl
    have hr2:(y::sh.take (d-1)).map PV.s=[.s y]:=by rw[hd1];rfl
    rw[hr2]at hcat;rw[hr1]at hat;have hlt1: ∀ _:True,decide ((1:Int)<(d:Int))=false:=fun _=>aH oO
    refine ai ?_;refine nc (aN @l1 (aN @lS (hlt1 oT))) @hat ?_;refine af (α:=Nat) (fun k=>n+1-k) (fun k=>⟨[(1, .p 1000 0 0),(7,E' n),(11, .fs [.s y]),(13, .v (.fc 101 [] (GC m o g y (List.range d)))),(14,E' k)],[(1000,⟨0,[.v (.s name), .v (.s m), .v (.s o), .v (.s g), .v (.s y), .v (E d), .v (.sl (sh.map .s))],false,none⟩)],1102⟩) (fun k=>d<=k/\k<=n+1/\ ∀i,d<=i->i<k->A i=num (sh.getD (i-1) [])) d (fun _=>bZ rfl) ⟨ay _,oO,fun i h1 h2=>oO⟩ ?_ ?_
    ·exact lE
    ·rintro k ⟨hdk,hkn,hall⟩ R hR
     by_cases hlt:k<=n
     ·obtain⟨j,rfl⟩: ∃j,k=j+1:=⟨k-1,oO⟩;have hgo:=fun(h:A (j+1)=num (sh.getD j []))=>hR (j+1+1) ⟨oO,oO,fun i h1 h2=>by
       by_cases e:i=j+1
       ·subst e;exact h
       ·exact hall i h1 oO⟩ oO
      have e1:=dM (l:=sh) (x:=j) oO;have vx:=hsv _ (aq [] (show j<sh.length by omega))
      have hc:=hcat (j+1) oO;have hw: ∀ _:True,IntKind.i64.wrap (((j+1:Nat):Int)-1)=(j:Int):=fun _=>by rw[IntWalk.i64_in _ oO];omega
      have hb:=JL vx (A (j+1));have hle: ∀ _:True,decide (((j+1:Nat):Int)<=(n:Int))=true:=fun _=>aI oO
      have hbad:A (j+1)≠num (sh.getD j [])->cB=false:=fun h=>by
       rw[hcB];exact x9.2 ⟨j+1,dV.2 oO,by
        rw[jw,aH (show¬(j+1<d) by omega),aH h];decide⟩
      generalize A (j+1)=v at*;generalize sh.getD j []=x at*;clear hR hall hcat hsv hcB
      by_cases hv:v=num x
      ·rw[aI hv]at hb;have hgo:=hgo hv;clear hbad;exact gV (aN @l1 (aN @e1 (aN (hw oT) (aN @hb (hle oT))))) @hgo @hc
      ·rw[aH hv]at hb;rw[hbad hv];clear hgo hbad;exact mi (aN @l1 (aN @e1 (aN (hw oT) (aN @hb (hle oT))))) @hc
     ·obtain rfl:k=n+1:=oO;have hgood:cB=true:=by
       rw[hcB];refine bM.2 fun i hi=> ?_
       have:=dV.1 hi
       by_cases h:i<d
       ·rw[aI h];rfl
       ·rw[aI (hall i oO oO)];simp
      rw[hgood];have hle: ∀ _:True,decide (((n+1:Nat):Int)<=(n:Int))=false:=fun _=>aH oO
      clear hR hall hcat hsv hcB;exact gn (hle oT)
   ·refine ai ?_;have e1:=dM (l:=sh) (x:=0) oO;have t1:sh.take 1=[sh.getD 0 []]:=by rw[eY [] oO];simp
    have hlt1: ∀ _:True,decide ((1:Int)<(d:Int))=true:=fun _=>aI oO
    refine dH (aN @l1 (aN @lS (aN @e1 (hlt1 oT)))) ?_;obtain⟨PX,hPX⟩: ∃PX:Nat->List PV,∀k,PX k=(List.range k).map yJ:=⟨_,fun _=>rfl⟩
    obtain⟨PY,hPY⟩: ∃PY:Nat->List PV,∀k,PY k=(y::sh.take k).map PV.s:=⟨_,fun _=>rfl⟩
    rw[<-hPX]at hat;rw[<-hPY]at hcat;have XL: ∀k,(PX k).length=k:=fun k=>by rw[hPX];simp
    have YL: ∀k,k<=n->(PY k).length=k+1:=fun k hk=>by rw[hPY];simp;omega
    have XO: ∀k,((PX k).map AV.v).all AV.one=true:=fun k=>by rw[hPX];simp[yJ,AV.one,PV.one]
    have YO: ∀k,((PY k).map AV.v).all AV.one=true:=fun k=>by
     rw[hPY,bM];intro a ha;obtain⟨b,hb,rfl⟩:=bG.1 ha;obtain⟨c,-,rfl⟩:=bG.1 hb;rfl
    have XN: ∀hf f k,((PX k).map AV.v).flatMap (aV hf (f+1))=[]:=fun hf f k=>ui hf f _
    have YN: ∀hf f k,((PY k).map AV.v).flatMap (aV hf (f+1))=[]:=fun hf f k=>ui hf f _
    have XB: ∀k,∀c∈(PX k).map AV.v,c.bd 1112=true:=fun k c hc=>by obtain⟨x,-,rfl⟩:=bG.1 hc;rfl
    have YB: ∀k,∀c∈(PY k).map AV.v,c.bd 1112=true:=fun k c hc=>by obtain⟨x,-,rfl⟩:=bG.1 hc;rfl
    have XS: ∀k,(PX k).map AV.v++[.v (E (k:Nat))]=(PX (k+1)).map AV.v:=fun k=>by rw[hPX,hPX,hLr];simp[yJ]
    have YS: ∀k,k+1<n->(PY k).map AV.v++[.v (.s (sh.getD k []))]=(PY (k+1)).map AV.v:=fun k hk=>by rw[hPY,hPY,hLs k oO];simp
    have X2:(PX 2).map AV.v=[.v (E 0), .v (E 1)]:=by rw[hPX];rfl
    have Y1:(PY 1).map AV.v=[.v (.s y), .v (.s (sh.getD 0 []))]:=by rw[hPY,t1];rfl
    have X2':PX 2=[E 0,E 1]:=by rw[hPX];rfl
    have Y1':PY 1=[.s y, .s (sh.getD 0 [])]:=by rw[hPY,t1];rfl
    clear hPX hPY hLr hLs;refine af (α:=Nat⊕Unit) (fun j=>match j with| .inl j=>d-j| .inr _=>0) (fun j=>match j with| .inl j=>⟨[(1, .p 1000 0 0),(7,E' n),(10, .rs 1097 j 0 (j+2) 1),(11, .rs 1106 j 0 (j+2) 1),(12,E' (j+2))],[(1000,⟨0,[.v (.s name), .v (.s m), .v (.s o), .v (.s g), .v (.s y), .v (E d), .v (.sl (sh.map .s))],false,none⟩),(1097,⟨j,(PX (j+2)).map AV.v,true,some 3⟩),(1106,⟨j,(PY (j+1)).map AV.v,true,some 22⟩)],1112⟩| .inr _=>⟨[(10, .v (.sl (PX d))),(11, .v (.sl (PY (d-1)))),(1, .p 1000 0 0),(7,E' n),(12,E' d)],[(1000,⟨0,[.v (.s name), .v (.s m), .v (.s o), .v (.s g), .v (.s y), .v (E d), .v (.sl (sh.map .s))],false,none⟩)],1112⟩) (fun j=>match j with| .inl j=>j+2<d| .inr _=>True) (if 2<d then .inl 0 else .inr ()) (fun j=>by cases j<;>exact bZ rfl) ?_ ?_ ?_
    ·by_cases h2:2<d
     ·rw[ah h2];show 0+2<d;omega
     ·rw[ae h2];trivial
    ·by_cases h2:2<d
     ·rw[ah h2];simp only[dq,X2,Y1];exact lE
     ·rw[ae h2];have hd2:d=2:=oO;have z1:PX d=[E 0,E 1]:=by rw[hd2,X2']
      have z2:PY (d-1)=[.s y, .s (sh.getD 0 [])]:=by rw[hd2,Y1']
      simp only[z1,z2];have z3:((d:Nat):Int)=2:=oO;refine AS.Le.LA [(10, .sl [E 0,E 1]),(11, .sl [.s y, .s (sh.getD 0 [])])] [1097,1106] ?_ ?_ (by first|decide|omega) ?_ ?_
      ·intro q hq;simp at hq;rcases hq with rfl|rfl<;>exact⟨by decide,rfl⟩
      ·intro p hp;simp at hp;rcases hp with rfl|rfl<;>simp[aO,az,view,aV,bz,chunk,AV.one,PV.one]
      ·simp[dy,dx,aO,az,AV.bd,AV.bd.bdL,z3]
      ·simp[dy,dx,aO,az,AV.bd,AV.bd.bdL,z3]
    ·rintro(j| _) hj R hR
     ·have hj:j+2<d:=hj;have q1:=XL (j+2);have q2:List.take (j+2) ((PX (j+2)).map AV.v)=(PX (j+2)).map AV.v:=cb (by rw[aB,q1];omega)
      have q3:=YL (j+1) oO;have q4:List.take (j+2) ((PY (j+1)).map AV.v)=(PY (j+1)).map AV.v:=cb (by rw[aB,q3];omega)
      have p1:=XS (j+2);have p2:=YS (j+1) oO;have e2:=dM (l:=sh) (x:=j+1) oO;have hw: ∀ _:True,IntKind.i64.wrap (((j+2:Nat):Int)-1)=((j+1:Nat):Int):=fun _=>by rw[IntWalk.i64_in _ oO];omega
      have hlt2: ∀ _:True,decide (((j+2:Nat):Int)<(d:Int))=true:=fun _=>aI oO
      clear hcat hsv hcB e1 t1
      by_cases h3:j+3<d
      ·have hgo:=hR (.inl (j+1)) h3 (by show d-(j+1)<d-j;omega)
       simp only[show j+1+2=j+2+1 from rfl]at hgo
       clear hR;generalize sh.getD (j+1) []=x at*;refine dH (aN @l1 (aN @lS (aN @e2 (aN (hw oT) (aN (hlt2 oT) (aN @q1 (aN @q2 (aN @q3 (aN @q4 (aN @p1 @p2)))))))))) ?_;refine hgo _ ?_
       (refine AS.Le.of (by first|decide|omega) ?_ ?_<;>simp[dy,dx,aO,az,AV.bd,AV.bd.bdL,u8,ar,ax,aA])
       all_goals exact⟨fun c hc=>XB _ c (by simpa using hc),fun c hc=>YB _ c (by simpa using hc)⟩
      ·have hgo:=hR (.inr ()) trivial (by show 0<d-j;omega)
       clear hR;obtain rfl:d=j+3:=oO;generalize sh.getD (j+1) []=x at*;refine dH (aN @l1 (aN @lS (aN @e2 (aN (hw oT) (aN (hlt2 oT) (aN @q1 (aN @q2 (aN @q3 (aN @q4 (aN @p1 @p2)))))))))) ?_;refine hgo _ ?_;have q5:=XL (j+3);have q6:List.take (j+3) ((PX (j+3)).map AV.v)=(PX (j+3)).map AV.v:=cb (by rw[aB,q5];omega)
       have q7:=XO (j+3);have q8:chunk 1 (j+3) (PX (j+3))=PX (j+3):=by have:=nZ (PX (j+3));rwa[q5]at this
       have p5:=YL (j+2) oO;have p6:List.take (j+3) ((PY (j+2)).map AV.v)=(PY (j+2)).map AV.v:=cb (by rw[aB,p5];omega)
       have p7:=YO (j+2);have p8:chunk 1 (j+3) (PY (j+2))=PY (j+2):=by have:=nZ (PY (j+2));rwa[p5]at this
       refine AS.Le.LA [(10, .sl (PX (j+3))),(11, .sl (PY (j+2)))] [1097,1106] ?_ ?_ (by first|decide|omega) ?_ ?_
       ·intro q hq;simp at hq;rcases hq with rfl|rfl<;>exact⟨by decide,rfl⟩
       ·intro p hp;simp only[cr,kx,or_false]at hp;rcases hp with rfl|rfl<;>simp only[aO,az,view,aV,eQ,dq,pA,dN,aB,Nat.reduceEqDiff,au,an,q5,q6,q7,q8,p5,p6,p7,p8,XN,YN]<;>simp
        all_goals first|exact q8|exact p8
       ·simp[dy,dx,aO,az,AV.bd,AV.bd.bdL]<;>omega
       ·simp[dy,dx,aO,az,AV.bd,AV.bd.bdL]
     ·refine nc (aN @l1 @lS) @hat ?_;refine af (α:=Nat) (fun k=>n+1-k) (fun k=>⟨[(1, .p 1000 0 0),(7,E' n),(11, .v (.sl (PY (d-1)))),(13, .v (.fc 101 [] (GC m o g y (List.range d)))),(14,E' k)],[(1000,⟨0,[.v (.s name), .v (.s m), .v (.s o), .v (.s g), .v (.s y), .v (E d), .v (.sl (sh.map .s))],false,none⟩)],1124⟩) (fun k=>d<=k/\k<=n+1/\ ∀i,d<=i->i<k->A i=num (sh.getD (i-1) [])) d (fun _=>bZ rfl) ⟨ay _,oO,fun i h1 h2=>oO⟩ ?_ ?_
      ·exact lE
      ·rintro k ⟨hdk,hkn,hall⟩ R hR
       by_cases hlt:k<=n
       ·obtain⟨j,rfl⟩: ∃j,k=j+1:=⟨k-1,oO⟩;have hgo:=fun(h:A (j+1)=num (sh.getD j []))=>hR (j+1+1) ⟨oO,oO,fun i h1 h2=>by
         by_cases e:i=j+1
         ·subst e;exact h
         ·exact hall i h1 oO⟩ oO
        have e1:=dM (l:=sh) (x:=j) oO;have vx:=hsv _ (aq [] (show j<sh.length by omega))
        have hc:=hcat (j+1) oO;have hw: ∀ _:True,IntKind.i64.wrap (((j+1:Nat):Int)-1)=(j:Int):=fun _=>by rw[IntWalk.i64_in _ oO];omega
        have hb:=JL vx (A (j+1));have hle: ∀ _:True,decide (((j+1:Nat):Int)<=(n:Int))=true:=fun _=>aI oO
        have hbad:A (j+1)≠num (sh.getD j [])->cB=false:=fun h=>by
         rw[hcB];exact x9.2 ⟨j+1,dV.2 oO,by
          rw[jw,aH (show¬(j+1<d) by omega),aH h];decide⟩
        generalize A (j+1)=v at*;generalize sh.getD j []=x at*;clear hR hall hcat hsv hcB
        by_cases hv:v=num x
        ·rw[aI hv]at hb;have hgo:=hgo hv;clear hbad;exact gV (aN @l1 (aN @e1 (aN (hw oT) (aN @hb (hle oT))))) @hgo @hc
        ·rw[aH hv]at hb;rw[hbad hv];clear hgo hbad;exact mi (aN @l1 (aN @e1 (aN (hw oT) (aN @hb (hle oT))))) @hc
       ·obtain rfl:k=n+1:=oO;have hgood:cB=true:=by
         rw[hcB];refine bM.2 fun i hi=> ?_
         have:=dV.1 hi
         by_cases h:i<d
         ·rw[aI h];rfl
         ·rw[aI (hall i oO oO)];simp
        rw[hgood];have hle: ∀ _:True,decide (((n+1:Nat):Int)<=(n:Int))=false:=fun _=>aH oO
        clear hR hall hcat hsv hcB;exact gn (hle oT)
def Cz (b:Bytes) (x:Bool×Bytes) (L:Nat):Bool:=decide (num x.2<L)&& !(b==[]&&x.1)
theorem OM (b:Bytes) {n:Bool} (va:aa a=true) {L:Nat} (hL:L<cW):aD 391 [cl b,N L, .agg [.b n, .s a]] (.b (Cz b (n,a) L)):=by
 have hc:=sZ (mV va) hL;rw[eE va]at hc;have hd: ∀ _:True,decide (ba (num a) L<0)=decide (num a<L):=fun _=>by rw[dK];simp only[cq];exact fP
 generalize ba (num a) L=cm at*;unfold cl Cz;simp only;generalize decide (num a<L)=p at*;generalize hb:(b==([]:Bytes))=q at*
 cases p<;>cases q<;>cases n<;>
 ·refine eW call391 func391 ?_;exact mi (aN @hb (hd oT)) @hc
def G5 (o c sl:Bytes) (vs:List Bytes) (l:List (Bool×Bytes)):Bool:=(List.range vs.length).all fun i=>Cz (vs.getD i []) (l.getD i kJ) (lR o c sl (vs.getD i []))
def iO (o c sl:Bytes) (vs:List Bytes) (ch:Bytes) (l:List (Bool×Bytes)):Int:=
 if !(aa ch&&l.all cJ)then 3 else if num c<=num ch then 2 else if l.length≠vs.length then 6 else if !G5 o c sl vs l then 2 else 0
noncomputable def ti (c sl:Bytes) (s:cG) (ch:Bytes) (l:List (Bool×Bytes)):List PV:=
 if iO (bA s.groups) c sl s.vars ch l=0 then s.eqs.map fun q=>N (oe s.groups ch l q)else[]
theorem NP {l:List (Bool×Bytes)} (hi:i<vs.length) (h: ¬Cz (vs.getD i []) (l.getD i kJ) (lR o c sl (vs.getD i []))=true):G5 o c sl vs l=false:=by
 unfold G5;rw[fy];intro g;exact h (bM.1 g i (dV.2 hi))
theorem B2 {l:List (Bool×Bytes)} (h: ∀i,i<vs.length->Cz (vs.getD i []) (l.getD i kJ) (lR o c sl (vs.getD i []))=true):G5 o c sl vs l=true:=by
 unfold G5;rw[bM];intro i hi;exact h i (dV.1 hi)
theorem Ji {s:cG} (hp:BD c sl s) (h1:s.eqs≠[]) {l:List (Bool×Bytes)} (hll:l.length<1000000):aD 289 [.agg [.s c, .s sl],s.pv, .s ch, .sl (l.map dI)] (.tup [.sl (ti c sl s ch l),E (iO (bA s.groups) c sl s.vars ch l)]):=by
 have hr:=hp.r;have hs:=hp.g;have hb:=FN hp;have lo:=(dc hs.g).2;clear hp;have vh:=aS ch;have hi:=OY l hll;have l5:(l.map dI).length=l.length:=aB ..;have l2:(s.vars.map cl).length=s.vars.length:=aB ..;have l6:(s.vars.map fun b=>N (lR (bA s.groups) c sl b)).length=s.vars.length:=aB ..
 have nv:=hs.nv
 by_cases g1:aa ch=true/\l.all cJ=true
 case neg=>
  have e:(aa ch&&l.all cJ)=false:=by rw[fy];intro g;simp at g;exact g1 ⟨g.1,by simpa[bM]using g.2⟩
  have e2:iO (bA s.groups) c sl s.vars ch l=3:=by simp only[iO,e];rfl
  rw[ti,ae (by rw[e2];decide),e2]
  clear e2 hs;unfold cG.pv at*;generalize aa ch=b1 at*;generalize l.all cJ=b2 at*;refine eW call289 func289 ?_;repeat' first|simp only[go_sem,seval]|refine cP hb ?_|refine cP vh ?_|refine cP hi ?_|refine oE ?_|apply xX<;>intro hc
  all_goals (exfalso;simp_all)
 obtain⟨vc,hok⟩:=g1;rw[vc]at vh;rw[hok]at hi;have hcm:=rG vc hr.vc
 by_cases g2:num c<=num ch
 ·have e2:iO (bA s.groups) c sl s.vars ch l=2:=by simp only[iO,vc,hok];rw[ae (by simp),ah g2]
  have hd: ∀ _:True,decide (ba (num ch) (num c)>=0)=true:=fun _=>aI (kZ.2 g2)
  rw[ti,ae (by rw[e2];decide),e2]
  generalize ba (num ch) (num c)=cm at*;clear e2 hs;unfold cG.pv at*;refine eW call289 func289 ?_;exact yG (hd oT) @hb @vh @hi @hcm
 have hd: ∀ _:True,decide (ba (num ch) (num c)>=0)=false:=fun _=>aH (fun g=>g2 (kZ.1 g))
 by_cases g3:l.length=s.vars.length
 case neg=>
  have e2:iO (bA s.groups) c sl s.vars ch l=6:=by simp only[iO,vc,hok];rw[ae (by simp),ae g2,ah g3]
  rw[ti,ae (by rw[e2];decide),e2]
  generalize ba (num ch) (num c)=cm at*;clear e2 hs;unfold cG.pv at*;refine eW call289 func289 ?_;repeat' first|simp only[go_sem,seval,hd oT,l5,l2]|refine cP hb ?_|refine cP vh ?_|refine cP hi ?_|refine cP hcm ?_|refine oE ?_|apply xX<;>intro hc
  all_goals (exfalso;omega)
 have hms:=Dy hs.m h1 vc g3 (bM.1 hok);have hv:=hs.v;have hval: ∀x∈l,aa x.2=true:=fun x hx=>by
  have:=bM.1 hok x hx;simp only[cJ,aZ]at this;exact this.1
 have e0:iO (bA s.groups) c sl s.vars ch l=if !G5 (bA s.groups) c sl s.vars l then 2 else 0:=by
  simp only[iO,vc,hok];rw[ae (by simp),ae g2,ae oO]
 unfold ti;rw[e0];clear e0 hs hok;obtain⟨gs,vs,es⟩:=s;simp only at*;generalize bA gs=o at*;unfold cG.pv at*;simp only at*;generalize ba (num ch) (num c)=cm at*;refine eW call289 func289 ?_;refine uV (aN (hd oT) (aN @l5 @l2)) @hb @vh @hi @hcm ?_;refine af (α:=Nat) (fun i=>vs.length-i) (fun i=>⟨[(2, .v (.s ch)),(3, .v (.sl (l.map dI))),(5, .p 1001 0 0),(11, .v (.sl (vs.map fun b=>N (lR o c sl b)))),(45, .v (.sl (vs.map cl))),(46,E' vs.length),(47,E' i)],[(1001,⟨0,[.v (.sl (gs.map eu)), .v (.sl (vs.map cl)), .v (.sl (es.map da.pv))],false,none⟩)],_⟩) (fun i=>i<=vs.length/\ ∀j,j<i->Cz (vs.getD j []) (l.getD j kJ) (lR o c sl (vs.getD j []))=true) 0 (fun _=>ay _) ⟨aJ _,fun j hj=>oO⟩ ?_ ?_
 ·exact lE
 ·rintro i ⟨hi',hf⟩ R hR
  by_cases hlt:i<vs.length
  ·have e1:=getD_map cl vs [] hlt;have e2:=getD_map (fun b=>N (lR o c sl b)) vs [] hlt
   have hlt2:i<l.length:=oO;have e3:=getD_map dI l kJ hlt2;obtain⟨k1,k3⟩:=hv _ (aq [] hlt);have kv:=hval _ (aq kJ hlt2);have ad:aD 391 [cl (vs.getD i []),N (lR o c sl (vs.getD i [])),dI (l.getD i kJ)] (.b (Cz (vs.getD i []) (l.getD i kJ) (lR o c sl (vs.getD i [])))):=OM (vs.getD i []) (n:=(l.getD i kJ).1) kv (E5 hr lo k3);have hgo:=hR (i+1)
   by_cases hc2:Cz (vs.getD i []) (l.getD i kJ) (lR o c sl (vs.getD i []))=true
   ·have hgo:=hgo ⟨oO,fun j hj=>by
     by_cases e:j=i
     ·rw[e];exact hc2
     ·exact hf j oO⟩ oO
    rw[hc2]at ad;clear hR hf hc2 kv k1 k3;generalize lR o c sl (vs.getD i [])=L at*;generalize vs.getD i []=b at*;obtain⟨x,hx⟩: ∃x,x=l.getD i kJ:=⟨_,rfl⟩;rw[<-hx]at ad e3;clear hx;obtain⟨xn,xa⟩:=x;simp only[cl,dI]at*;exact gV (aN @l2 (aN @l5 (aN @l6 (aN @e1 (aN @e2 @e3))))) @hgo @ad
   ·rw[NP hlt hc2];rw[fy.2 hc2]at ad;clear hR hf hgo hc2 kv k1 k3;generalize lR o c sl (vs.getD i [])=L at*;generalize vs.getD i []=b at*;obtain⟨x,hx⟩: ∃x,x=l.getD i kJ:=⟨_,rfl⟩;rw[<-hx]at ad e3;clear hx;obtain⟨xn,xa⟩:=x;simp only[cl,dI]at*;exact mi (aN @l2 (aN @l5 (aN @l6 (aN @e1 (aN @e2 @e3))))) @ad
  ·obtain rfl:i=vs.length:=oO;rw[B2 hf];exact mi @l2 @hms
theorem EO {α:Type} {f:Nat->α->Nat} {m:Nat} (h: ∀x a,f x a<m): ∀(l:List α) (x:Nat),x<m->l.foldl f x<m
 |[],_,hx=>hx
 |a::l,x,_=>EO h l _ (h x a)
theorem Q4 {s:cG} (hs:xf s) (ch:Bytes) (rs:List (Bool×Bytes)): ∀x∈xg s ch rs,x.length<=8/\aa x=true:=by
 intro x hx;obtain⟨q,hq,rfl⟩:=bG.1 hx;obtain⟨q1,q2,-⟩:=hs.q q hq;have hg:=hs.g _ (aq fC (show q.mT.toNat<s.groups.length by omega))
 have hm:=(jm hg.1).2.2.1;have hlt:oe s.groups ch rs q<256^8:=by
  refine jy ?_ (eP hg.2.1);unfold oe;exact EO (fun x a=>aL _ oO) _ _ (aL _ oO)
 exact⟨oV.2 hlt,vN hlt⟩
theorem G7 {s:cG} (hp:BD c sl s) (h0:s.vars≠[]) (h00:s.eqs≠[]) (h1:rs.length<1000000) (hf:kE c s.vars.length ch rs [] []=0) (hi:iO (bA s.groups) c sl s.vars ch rs≠0):
  aD 209 [X0 c sl s,Lk ch rs [] []] (.tup [PZ0,B0,E (iO (bA s.groups) c sl s.vars ch rs)]):=by
 have hfo:=CU (c:=c) (sl:=sl) hp.r.vc s ch rs [] [] h1 (by simp) (by simp) (by simp)
 rw[hf]at hfo;have hfi:=Ji hp h00 (ch:=ch) (l:=rs) h1;have hl:ti c sl s ch rs=[]:=by unfold ti;rw[ae hi]
 rw[hl]at hfi;have hb:(iO (bA s.groups) c sl s.vars ch rs==0)=false:=by simpa using hi
 generalize iO (bA s.groups) c sl s.vars ch rs=e at*;obtain⟨gq,vs,es⟩:=s;simp only[X0,Lk,cG.pv]at hfo hfi⊢;refine eW call209 func209 ?_;repeat' first|simp only[go_sem,seval,hb]|refine cP hfo ?_|refine cP hfi ?_|refine oE ?_|apply xX<;>intro hc
 all_goals skip
theorem G8 {s:cG} (hp:BD c sl s) (h0:s.vars≠[]) (h00:s.eqs≠[]) (h1:rs.length<1000000) (hf:kE c s.vars.length ch rs [] []=0) (hi:iO (bA s.groups) c sl s.vars ch rs=0):
  aD 209 [X0 c sl s,Lk ch rs [] []] (.tup [.agg [.sl (s.eqs.map fun q=>N (oe s.groups ch rs q)), .s ch, .sl (rs.map dI)],B0,E 0]):=by
 have hfo:=CU (c:=c) (sl:=sl) hp.r.vc s ch rs [] [] h1 (by simp) (by simp) (by simp)
 rw[hf]at hfo;have hfi:=Ji hp h00 (ch:=ch) (l:=rs) h1;have hl:ti c sl s ch rs=s.eqs.map fun q=>N (oe s.groups ch rs q):=by unfold ti;rw[ah hi]
 rw[hl,hi]at hfi;have hrs:rs≠[]:=by
  intro h;subst h;unfold kE at hf;have hv:([]:List (Bool×Bytes)).length≠s.vars.length:=by
   intro h;exact h0 (gS.1 h.symm)
  split at hf
  ·exact aW hf oC
  ·rw[ah (.inl hv)]at hf;exact aW hf oC
 have hcl:=Jw hrs h1;have hcn:=HZ;generalize (s.eqs.map fun q=>N (oe s.groups ch rs q))=fl at*
 obtain⟨gq,vs,es⟩:=s;simp only[X0,Lk,cG.pv,bK]at hfo hfi⊢;refine eW call209 func209 ?_;exact Y8 @hfo @hfi @hcl @hcn
noncomputable def DH (c sl ctx:Bytes) (s:cG) (ch:Bytes) (rs:List (Bool×Bytes)) (gs:List Bytes) (ls:List (List (Bool×Bytes))):Int:=
 if kE c s.vars.length ch rs gs ls≠0 then kE c s.vars.length ch rs gs ls else if iO (bA s.groups) c sl s.vars ch rs≠0 then iO (bA s.groups) c sl s.vars ch rs else if aX (iQ (Bj ctx s (xg s ch rs)) c)=ch then 0 else 16
theorem MO {s:cG} (hp:BD c sl s) (hb:SZ s) (h00:s.eqs≠[]) (hx:ctx.length<=100000) {ls:List (List (Bool×Bytes))} (h1:rs.length<1000000) (h2:gs.length<=1000) (h3:ls.length<=1000) (h4: ∀l∈ls,l.length<4611686018427387904):
  aD 98 [.agg [.s c, .s sl], .s ctx,s.pv,C0,Lk ch rs gs ls] (E (DH c sl ctx s ch rs gs ls)):=by
 have hn:=wS hp;unfold DH
 by_cases hf:kE c s.vars.length ch rs gs ls=0
 ·obtain⟨rfl,rfl⟩:=Ka hf;rw[ae (by simpa using hf)]
  by_cases hi:iO (bA s.groups) c sl s.vars ch rs=0
  ·rw[ae (by simpa using hi)]
   have ho:=G8 hp hb.v0 h00 h1 hf hi;have hmap:(s.eqs.map fun q=>N (oe s.groups ch rs q))=(xg s ch rs).map .s:=by unfold xg;rw[iB];rfl
   rw[hmap]at ho;have f0:xg s ch rs≠[]:=by unfold xg;simpa using h00
   have fl: ∀x∈xg s ch rs,x.length<=100000:=fun x hx=>by have:=(Q4 hp.g ch rs x hx).1;omega
   have fn:(xg s ch rs).length<=900:=by unfold xg;rw[aB];have:=hp.g.ne;omega
   generalize xg s ch rs=fs at*;have hc:=yZ hp.r hb hx f0 fn fl;have ha:=Gr (c:=c) (sl:=sl) s B0 (aX (iQ (Bj ctx s fs) c));generalize iQ (Bj ctx s fs) c=z at*;obtain⟨gq,vs,es⟩:=s;simp only[X0,Lk,cG.pv,bK]at hn ho hc ha⊢;clear hp hb h2 h3 h4 hf hi hmap
   by_cases hz:aX z=ch
   ·rw[ah hz];have hz1:(aX z==ch)=true:=by simpa using hz
    refine eW call98 func98 ?_;exact Y6 @hz1 @hn @ho @hc @ha
   ·rw[ae hz];have hz1:(aX z==ch)=false:=by simpa using hz
    refine eW call98 func98 ?_;exact Y6 @hz1 @hn @ho @hc @ha
  ·rw[ah hi];have ho:=G7 hp hb.v0 h00 h1 hf hi;have hb:(iO (bA s.groups) c sl s.vars ch rs==0)=false:=by simpa using hi
   generalize iO (bA s.groups) c sl s.vars ch rs=e at*;obtain⟨gq,vs,es⟩:=s;simp only[X0,Lk,cG.pv,bK]at hn ho⊢;refine eW call98 func98 ?_;exact AN @hb @hn @ho
 ·rw[ah hf];have ho:=Kv hp.r h1 h2 h3 h4 hf (sl:=sl);have hb:(kE c s.vars.length ch rs gs ls==0)=false:=by simpa using hf
  generalize kE c s.vars.length ch rs gs ls=e at*;obtain⟨gq,vs,es⟩:=s;simp only[X0,Lk,cG.pv]at hn ho⊢;refine eW call98 func98 ?_;exact AN @hb @hn @ho
structure Ww (c:CK):Prop where
 e:gE c.m c.o=0
 o0:c.o≠[]
 p:fj (num c.o)=true
 vg:aa c.g=true
 gg:GP c.m c.o (num c.g)
 vy:aa c.y=true
 gy:GP c.m c.o (num c.y)
 hs: ∀x∈c.sh,aa x=true/\GP c.m c.o (num x)
 n1:1<=c.need
 n2:c.need<=c.sh.length
 nq:c.sh.length<num c.o
 cmb:JR c=true
theorem ov {c:CK} (h:fp c=0):Ww c:=by
 unfold fp at h
 split at h
 ·cases h
 rename_i h1
 split at h
 ·cases h
 split at h
 ·rename_i h3;exact aW h h3
 rename_i h3
 split at h
 ·cases h
 rename_i h4
 split at h
 ·cases h
 rename_i h5
 split at h
 ·cases h
 rename_i h6
 split at h
 case isFalse=>cases h
 rename_i h7;obtain⟨hE,ho,vg,gg,-,vy,gy,-⟩:=Dt (by simpa using h3)
 refine⟨hE,ho,by simpa using h4,vg,gg,vy,gy,fun x hx=> ?_,oO,oO,oO,h7⟩
 have h8:c.sh.all (jn c.m c.o)=true:=by simpa using h6
 have:=bM.1 h8 x hx;unfold jn at this;rw[aZ]at this;exact(cH hE).1 this.2
theorem U0 {m o x:Bytes} (hE:gE m o=0) (vx:aa x=true) (hx:GP m o (num x)):jn m o x=true:=by
 unfold jn;rw[hE,(cH hE).2 ⟨vx,hx⟩];rfl
theorem JW {c:CK} (k:Ww c) (lo:c.o.length<=8):sR c.o [2]:=by
 obtain⟨-,vo,-,-,hq⟩:=jm k.e;have:=(hq k.o0).1;exact⟨vo,rfl,lo,by decide,oO,by decide⟩
theorem zd {c:CK} (k:Ww c) (lm:c.m.length<=8) (lo:c.o.length<=8) (hi:iV c.m c.o (c.sh.getD (i-1) [])=true) (ha:iV c.m c.o a=true) (hd:iV c.m c.o d=true):BD c.o [2] (eB c i a d):=by
 have hg:iV c.m c.o c.g=true:=(cH k.e).2 ⟨k.vg,k.gg⟩;have ho:=k.o0;have hor:bA [(c.m,c.o)]=c.o:=by simp[bA,ho]
 refine⟨JW k lo,⟨⟨?_,?_,?_,?_,?_,?_⟩,?_,?_,?_,?_,?_,?_,?_⟩,?_⟩
 ·intro p hp;simp only[eB,dt]at hp;subst hp;exact⟨lm,lo⟩
 ·intro b hb;simp only[eB,dt]at hb;subst hb;decide
 ·intro q hq;simp only[eB,cr,kx,or_false]at hq;rcases hq with rfl|rfl<;>simp[AQ]
 ·simp[eB]
 ·simp[eB]
 ·simp[eB]
 ·intro p hp;simp only[eB,dt]at hp;subst hp;exact⟨k.e,lm,lo⟩
 ·intro b hb;simp only[eB,dt]at hb;subst hb;exact⟨rfl,by decide⟩
 ·intro q hq;simp only[eB,cr,kx,or_false]at hq;rcases hq with rfl|rfl
  ·refine⟨mG _,by simp[eB],hi,by simp,fun t ht=> ?_⟩
   simp only[dt]at ht;subst ht;exact⟨by simp[AQ],by simp[AQ,eB],hg,rfl⟩
  ·refine⟨mG _,by simp[eB],hd,by simp,fun t ht=> ?_⟩
   simp only[dt]at ht;subst ht;exact⟨by simp[AQ],by simp[AQ,eB],ha,rfl⟩
 ·simp[eB]
 ·simp[eB]
 ·simp[eB]
 ·simp[E4,eB,hor,G2,JF,ho]
 ·intro b hb _;show num c.o<=num (bA [(c.m,c.o)]);rw[hor];exact ay _
theorem zc (c:CK) (lm:c.m.length<=8) (lo:c.o.length<=8) (lg:c.g.length<=128) (li:(c.sh.getD (i-1) []).length<=128) (la:a.length<=128) (ld:d.length<=128):SZ (eB c i a d):=by
 refine⟨⟨c.m,c.o,rfl,oO,oO⟩,by simp[eB],by simp[eB],fun b hb=> ?_,by simp[eB],fun q hq=> ?_⟩
 ·simp only[eB,dt]at hb;subst hb;decide
 ·simp only[eB,cr,kx,or_false]at hq;rcases hq with rfl|rfl
  ·refine⟨mG _,by simp,by show(c.sh.getD (i-1) []).length<=1000;omega,by simp,fun t ht=> ?_⟩
   simp only[dt]at ht;subst ht;exact⟨by simp[AQ],by simp[AQ],by show c.g.length<=1000;omega,by simp[AQ]⟩
  ·refine⟨mG _,by simp,by show d.length<=1000;omega,by simp,fun t ht=> ?_⟩
   simp only[dt]at ht;subst ht;exact⟨by simp[AQ],by simp[AQ],by show a.length<=1000;omega,by simp[AQ]⟩
theorem Im (c:CK) {x:Nat} (hx:x<(2^64)):WS (eB c i a d) [(x:Int)]:=by
 have hL:=lr;intro q hq;simp only[eB,cr,kx,or_false]at hq;rcases hq with rfl|rfl
 all_goals
  intro t ht;simp only[dt]at ht;subst ht;refine⟨by simp[AQ],by simp[AQ],rfl,?_,?_⟩
  ·show((x:Int)).natAbs<cW;omega
  ·show(1:Nat)*((x:Int)).natAbs<cW;omega
abbrev PA (a b:Bytes):PV:= .agg [.s a, .s b]
def nj (i d:Nat) (vs:List Bytes) (sd:Bytes):Except Int (Bytes×List Int×Nat)->PV
 | .ok (ch,rs,j)=> .tup [.agg [E i,N d, .s ch, .sl (rs.map Zp), .sl [], .sl []],T vs sd (j:Nat),E 0]
 | .error e=> .tup [.agg [E 0, .s [], .s [], .sl [], .sl [], .sl []],T [] [] 0,E e]
theorem vC (c:CK) (ln:c.name.length<=60) (lm:c.m.length<=8) (lo:c.o.length<=8) (ls:c.sh.length<=8) (hc:fp c=0) (h1:1<=i) (hi:i<=c.sh.length) {a:Int} (hl:vs.length<1000000) (hsd:sd.length<1000000)
  (hv:[x,A,B].all aa=true) (hg:e9 vs a=true) (hA:jn c.m c.o A=true) (hB:jn c.m c.o B=true) (hx:num x<num c.o) (hy:num c.g^num x%num c.m=num (c.sh.getD (i-1) [])) {d:Nat} (hd:d=num A^num x%num c.m) {R:Except Int (Bytes×List Int×Nat)} (hp:qn c.o [2] (mc c i) (eB c i A (aX d)) [(num x:Int)] vs sd a=R) (h0: ∀e,R= .error e->e≠0):
  aD 9 [c.pv,E i, .s x,PA A B,T vs sd a] (nj i d vs sd R):=by
 have k:=ov hc;have v1:=qH c ln lm lo ls;rw[hc]at v1;have v2:=mH [x,A,B] (by simp)
 rw[hv]at v2;simp only[br,bK]at v2;have v3:=zf vs sd a hl;rw[hg]at v3;have v4:=CH c lm lo oO i (xs:=[A,B]) (by simp)
 have e4:pR c (i:Nat) [A,B]=0:=by
  unfold pR;rw[ae oO];simp[hA,hB]
 rw[e4]at v4;simp only[br,bK]at v4;simp only[List.all_cons,List.all_nil,jB,aZ]at hv;obtain⟨vx,vA,vB⟩:=hv;obtain⟨vm,vo,m1,-,-⟩:=jm k.e;have hqW:=eP lo;have hmW:=eP lm;have hW:=jQ;have v5:=oU vx;have hAg:iV c.m c.o A=true:=by unfold jn at hA;rw[aZ]at hA;exact hA.2
 obtain⟨-,gA⟩:=(cH k.e).1 hAg;have v6:=jT lm lo (ng:=false) k.e k.gg vx rfl;rw[eE k.vg,show dh (num c.m) (num c.g) false (num x)=num c.g^num x%num c.m from rfl,hy]at v6
 have hj:=aq ([]:Bytes) (show i-1<c.sh.length by omega)
 obtain⟨vj,gj⟩:=k.hs _ hj;rw[eE vj]at v6;have v7:=jT lm lo (ng:=false) k.e gA vx rfl;rw[eE vA,show dh (num c.m) (num A) false (num x)=num A^num x%num c.m from rfl,<-hd]at v7
 have hdl:d<num c.m:=by rw[hd];exact aL _ oO
 have vd:aa (aX d)=true:=vN oO;have gd:iV c.m c.o (aX d)=true:=(cH k.e).2 ⟨vd,by rw[aP,hd];exact gA.pow _⟩
 have v8:=EF c;have v9:=Ig c oO (i:=i) oO;have w1:=Io c h1 hi oO A (aX d);have hS:=zd k lm lo (i:=i) (a:=A) (d:=aX d) ((cH k.e).2 ⟨vj,gj⟩) hAg gd;have hB2:=zc c lm lo (i:=i) (a:=A) (d:=aX d) (cT k.vg) (cT vj) (cT vA) (cT vd);have hxl:(mc c i).length<=100000:=by
  have: ∀i,i<100->(Lib.decDigits i).length<=2:=by decide+kernel
  have:=this i oO;simp[mc];omega
 have w2:=LO hS hB2 (by simp[eB]) rfl hxl (w:=[(num x:Int)]) (by simp) (fun z hz=>by simp at hz;subst hz;have:=wT (o:=x);have:=lr;omega) (fun _=>Im c oO) (vs:=vs) (sd:=sd) (a:=a) hl hsd
 rw[hp]at w2;simp only[br,bK]at w2;rw[show Zp (num x:Int)= .agg [.b false, .s x] by show dI (gW (num x:Int))= _;rw[xH vx];rfl]at w2
 obtain⟨r,rfl⟩: ∃r,i=r+1:=⟨i-1,oO⟩;rw[jw]at v6 hy vj;have e1:=dM (l:=c.sh) (x:=r) oO;have l1:(c.sh.map PV.s).length=c.sh.length:=aB ..;have hw: ∀ _:True,IntKind.i64.wrap (((r+1:Nat):Int)-1)=(r:Int):=fun _=>by rw[IntWalk.i64_in _ oO];omega
 have c1:=rG vx vo;have hcg:=Kc (num x) (num c.o);rw[aI hx]at hcg;have hrl:r<c.sh.length:=oO;generalize ba (num x) (num c.o)=cm at*;generalize c.sh.getD r []=y at*;generalize mc c (r+1)=cx at*;generalize eB c (r+1) A (aX d)=S at*;clear hp hS hB2 k hy hd hc hj;obtain⟨sg,sv,se⟩:=S;obtain⟨name,m,o,g,yy,need,sh⟩:=c;simp only[CK.pv,cG.pv]at*;rcases R with e|⟨ch,rs,j⟩
 all_goals
  first|have h0:=h0 _ rfl|skip
  simp only[RS,nj]at w2⊢;refine eW call9 func9 ?_;repeat' first|simp only[go_sem,seval,l1,e1,hw oT,hcg,dO,jl]|refine cP v1 ?_|refine cP v2 ?_|refine cP v3 ?_|refine cP v4 ?_|refine cP v5 ?_|refine cP v6 ?_|refine cP v7 ?_|refine cP c1 ?_|refine cP v8 ?_|refine cP v9 ?_|refine cP w1 ?_|refine cP w2 ?_|refine oE ?_|apply xX<;>intro hc
  all_goals rfl
theorem CE (c:CK) (ln:c.name.length<=60) (lm:c.m.length<=8) (lo:c.o.length<=8) (ls:c.sh.length<=8) (k:Ww c) (h1:1<=i) (hi:i<=c.sh.length) (hv:[A,B,d].all aa=true) (hA:jn c.m c.o A=true) (hB:jn c.m c.o B=true) (hd:jn c.m c.o d=true) {ls':List (List (Bool×Bytes))} (n1:rs.length<1000000) (n2:gs.length<=1000) (n3:ls'.length<=1000) (n4: ∀l∈ls',l.length<4611686018427387904):
  aD 47 [c.pv,PA A B, .agg [E i, .s d, .s ch, .sl (rs.map dI), .sl (gs.map .s), .sl (ls'.map GU)]] (E (DH c.o [2] (mc c i) (eB c i A d) ch rs gs ls')):=by
 have v2:=mH [A,B,d] (by simp)
 rw[hv]at v2;simp only[br,bK]at v2;have v4:=CH c lm lo oO i (xs:=[A,B,d]) (by simp)
 have e4:pR c (i:Nat) [A,B,d]=0:=by
  unfold pR;rw[ae oO];simp[hA,hB,hd]
 rw[e4]at v4;simp only[br,bK]at v4;simp only[List.all_cons,List.all_nil,jB,aZ]at hv;obtain⟨vA,vB,vd⟩:=hv;have hAg:iV c.m c.o A=true:=by unfold jn at hA;rw[aZ]at hA;exact hA.2
 have hdg:iV c.m c.o d=true:=by unfold jn at hd;rw[aZ]at hd;exact hd.2
 have hj:=aq ([]:Bytes) (show i-1<c.sh.length by omega)
 obtain⟨vj,gj⟩:=k.hs _ hj;have v8:=EF c;have v9:=Ig c oO (i:=i) oO;have w1:=Io c h1 hi oO A d;have hS:=zd k lm lo (i:=i) (a:=A) (d:=d) ((cH k.e).2 ⟨vj,gj⟩) hAg hdg;have hB2:=zc c lm lo (i:=i) (a:=A) (d:=d) (cT k.vg) (cT vj) (cT vA) (cT vd);have hxl:(mc c i).length<=100000:=by
  have: ∀i,i<100->(Lib.decDigits i).length<=2:=by decide+kernel
  have:=this i oO;simp[mc];omega
 have w2:=MO hS hB2 (by simp[eB]) hxl (ch:=ch) (rs:=rs) (gs:=gs) (ls:=ls') n1 n2 n3 n4
 generalize DH c.o [2] (mc c i) (eB c i A d) ch rs gs ls'=E0 at*;generalize mc c i=cx at*;generalize eB c i A d=S at*;clear hS hB2 k hj;obtain⟨sg,sv,se⟩:=S;obtain⟨name,m,o,g,yy,need,sh⟩:=c;simp only[CK.pv,cG.pv,Lk]at*;refine eW call47 func47 ?_;exact z7 @v2 @v4 @v8 @v9 @w1 @w2 oT
theorem B4 (m x:Nat) (z:Int):dh m x (gW z).1 (num (gW z).2)=jP m x z:=by
 simp only[gW,vQ,zs];rfl
theorem KF (m x z:Nat):dh m x (!(aX z==[])) (num (aX z))=jP m x (-(z:Int)):=by
 have e:(!(aX z==([]:Bytes)))=decide (-(z:Int)<0):=by
  rw[dK];simp[gM];omega
 rw[e,aP];unfold jP;congr 1;omega
theorem DE {s:cG} {w:List Int} {rs:List Int}: ∀{n i:Nat},sG c sl ctx s w vs sd n i= .ok (ch,rs,j)-> ∃i' ms z,iH (bA s.groups) c sl vs sd s.vars i' []= .ok ms/\z=iQ (Bj ctx s (pQ s ms)) c/\ch=aX z/\rs=dT (bA s.groups) s.vars ms w z
 |0,i,h=>by cases h
 |n+1,i,h=>by
  rw[sG]at h
  split at h
  ·cases h
  ·rename_i ms hms
   split at h
   ·simp only[yp,dU]at h;obtain⟨rfl,rfl,-⟩:=h;exact⟨i,ms,_,hms,rfl,rfl,rfl⟩
   ·exact DE h
theorem Fs {s:cG} {w:List Int} {a:Int} {R:Bytes×List Int×Nat} (h:qn c sl ctx s w vs sd a= .ok R):sG c sl ctx s w vs sd 64 a.toNat= .ok R:=by
 unfold qn at h
 split at h
 ·cases h
 ·exact h
theorem Tl {m o x y z b t:Nat} (hm:0<m) (hu:ga m b) (ho:b^o%m=1%m) (ht:b^x%m=t):jP m t (-(z:Int))*jP m b (((y:Int)+z*x)%o)%m=jP m b y:=by
 have h1:jP m b (((y:Int)+z*x)%o)=jP m b ((y:Int)+z*x):=N4 hu hm ho (by
  refine⟨-(((y:Int)+z*x)/o),?_⟩;have:=Int.mul_ediv_add_emod ((y:Int)+z*x) o
  grind)
 rw[h1,<-ht,show((z:Int)*(x:Int))=((z*x:Nat):Int)from(Int.natCast_mul _ _).symm]
 exact FE hu hm _ _ _
theorem GD {c:CK} (k:Ww c) (lo:c.o.length<=8) (gA:GP c.m c.o (num A)) {x:Nat} (h1:num c.g^x%num c.m=num (c.sh.getD (i-1) [])) (h2:num A^x%num c.m=num d) {a:Int} {rs:List Int} (h:qn c.o [2] ctx (eB c i A d) [(x:Int)] vs sd a= .ok (ch,rs,j)):DH c.o [2] ctx (eB c i A d) ch (rs.map gW) [] []=0:=by
 obtain⟨i',ms,z,hms,hz,rfl,rfl⟩:=DE (Fs h);have hor:bA (eB c i A d).groups=c.o:=by simp[eB,bA,k.o0]
 have hvr:(eB c i A d).vars=[[]]:=rfl;rw[hor,hvr]at hms;rw[hor,hvr];simp only[iH,iF,au,List.nil_append]at hms;obtain⟨vm,vo,m1,-,hq⟩:=jm k.e;have q1:=(hq k.o0).1
 split at hms
 ·cases hms
 rename_i yz hyz
 split at hyz
 ·cases hyz
 rename_i yb hyb;injection hyz with hyz
 injection hms with hms
 subst hyz;subst hms;obtain⟨y,hy⟩: ∃y,y=num yb:=⟨_,rfl⟩;rw[<-hy]at hz⊢;have hzc:z<num c.o:=by rw[hz];exact wF _ oO
 have hr0:dT c.o [[]] [(y:Int)] [(x:Int)] z=[((y:Int)+z*x)%num c.o]:=by simp[dT,gi]
 rw[hr0];have hr1:0<=((y:Int)+z*x)%num c.o:=gK _ oO;have hr2:((y:Int)+z*x)%num c.o<num c.o:=gT _ oO;have go: ∀b,GP c.m c.o b->b^num c.o%num c.m=1%num c.m:=fun b hb=>hb.ord.resolve_left k.o0
 have hfm:xg (eB c i A d) (aX z) ([((y:Int)+z*x)%num c.o].map gW)=pQ (eB c i A d) [(y:Int)]:=by
  have e1:=Tl (o:=num c.o) (x:=x) (y:=y) (z:=z) oO k.gg.unit (go _ k.gg) h1;have e2:=Tl (o:=num c.o) (x:=x) (y:=y) (z:=z) oO gA.unit (go _ gA) h2;have p1: ∀b,GP c.m c.o b->dh (num c.m) b false (num [1])=b:=fun b hb=>by
   show b^(num [1])%num c.m=b;rw[show num ([1]:Bytes)=1 from rfl,Nat.pow_one,bY hb.lt]
  have t1: ∀b:Bytes,tz [(y:Int)] (AQ b 0)=y:=fun b=>by simp[tz,AQ,xb,num]
  simp only[xg,pQ,eB,br,bK,oe,PE,List.foldl_cons,List.foldl_nil,xh,AQ,show((0:Int)).toNat=0 from rfl,Int.toNat_natCast,fY,KF,p1 _ k.gg,p1 _ gA,B4,e1,e2]
  simp only[show∀b,tz [(y:Int)] ⟨b,((0:Nat):Int),false,[1]⟩=y from fun b=>t1 b,I2,B4]
 obtain⟨r,hr⟩: ∃r:Nat,((y:Int)+z*x)%num c.o=r:=⟨_,(lz hr1).symm⟩;rw[hr]at hfm hr2⊢;have hqW:=eP lo;have iz:gW (r:Int)=(false,aX r):=by
  have:=xH (x:=aX r) (vN oO)
  rwa[aP]at this
 have a1:aa (aX z)=true:=vN oO;have a2:aa (aX r)=true:=vN oO;simp only[br,bK,iz]at hfm⊢;have f1:kE c.o (eB c i A d).vars.length (aX z) [(false,aX r)] [] []=0:=by
  unfold kE;rw[a1,ae (by simp[cJ,a2]),ae (by simp[eB]),ae (by rw[aP];omega)]
 have f2:iO (bA (eB c i A d).groups) c.o [2] (eB c i A d).vars (aX z) [(false,aX r)]=0:=by
  rw[hor,hvr];have f3:G5 c.o c.o [2] [[]] [(false,aX r)]=true:=B2 fun q hq=>by
   have:q=0:=by simp at hq;omega
   subst this;simp[Cz,lR,aP];omega
  unfold iO;rw[a1,f3,ae (by simp[cJ,a2]),ae (by rw[aP];omega),ae (by simp),ae (by simp)]
 unfold DH;rw[ae (by rw[f1];simp),ae (by rw[f2];simp),hfm,<-hz,ah rfl]

theorem Rw (l:List Int):(l.map gW).map dI=l.map Zp:=by rw[iB];rfl
abbrev Sh:=Nat×Nat×Bytes×List Int
def Zg (s:Sh):PV:= .agg [E s.1,N s.2.1, .s s.2.2.1, .sl (s.2.2.2.map Zp), .sl [], .sl []]
structure ShG (c:CK) (A:Bytes) (s:Sh):Prop where
 i1:1<=s.1
 i2:s.1<=c.sh.length
 g:GP c.m c.o s.2.1
 r:s.2.2.2.length<=1
 v:DH c.o [2] (mc c s.1) (eB c s.1 A (aX s.2.1)) s.2.2.1 (s.2.2.2.map gW) [] []=0
theorem QI (c:CK) (ln:c.name.length<=60) (lm:c.m.length<=8) (lo:c.o.length<=8) (ls:c.sh.length<=8) (k:Ww c) (hA:jn c.m c.o A=true) (hB:jn c.m c.o B=true) (vA:aa A=true) (vB:aa B=true) {s:Sh} (h:ShG c A s):aD 47 [c.pv,PA A B,Zg s] (E 0):=by
 obtain⟨i,d,ch,rs⟩:=s;obtain⟨i1,i2,g,r,v⟩:=h;simp only at i1 i2 g r v;have hM:=eP lm;have:=g.lt;have vd:aa (aX d)=true:=vN oO;have e:=CE c ln lm lo ls k i1 i2 (A:=A) (B:=B) (d:=aX d) (by simp[vA,vB,vd]) hA hB (U0 k.e vd (by rw[aP];exact g)) (ch:=ch) (rs:=rs.map gW) (gs:=[]) (ls':=[]) (by rw[aB];omega) (by simp) (by simp) (fun l h=>by cases h)
 rw[v,Rw]at e;exact e
theorem UK (c:CK) (ln:c.name.length<=60) (lm:c.m.length<=8) (lo:c.o.length<=8) (ls:c.sh.length<=8) (hc:fp c=0) {s:Sh} (h:aD 47 [c.pv,PA A B,Zg s] (E 0)):aD 13 [c.pv,PA A B,Zg s] (E 0):=by
 have v1:=qH c ln lm lo ls;rw[hc]at v1;obtain⟨name,m,o,g,yy,need,sh⟩:=c;obtain⟨i,d,ch,rs⟩:=s;simp only[CK.pv,Zg]at*;refine eW call13 func13 ?_;exact z2 @v1 @h
