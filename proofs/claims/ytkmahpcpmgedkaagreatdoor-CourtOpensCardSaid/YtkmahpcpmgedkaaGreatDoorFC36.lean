/- Part of the proof. -/
import Derived.Test.YtkmahpcpmgedkaaGreatDoorFC35
set_option linter.all false
set_option maxHeartbeats 16000000
set_option maxRecDepth 100000
namespace Go.Proofs.Tryz
open Go Go.Dom Go.Num
variable {a count e need:Int} {b i q sec x:Nat} {o sd:Bytes} {vs:List Bytes}
def Hr (m o x:Bytes):Bool:=jb m o x&& !(x==[1])
theorem De {m:Bytes} (lm:m.length<=8) (lo:o.length<=8) (x:Bytes):aE 120 [G m o, .s x] (.b (Hr m o x)):=by
 have h:=yR lm lo x;unfold Hr;generalize jb m o x=b at*;cases b
 ·refine eW call120 func120 ?_;exact z1 @h
 ·refine eW call120 func120 ?_;exact z1 @h
theorem Ev {n:Bytes} (h:jd vs sd i n= .error e):e=2\/e=14:=oG h
abbrev SK (m o g y:Bytes):PV:= .agg [.s m, .s o, .s g, .s y]
def nO (m o g y:Bytes):Int:=if !([m,o,g,y].all aa)then 3 else if gE m o≠0 then gE m o else if o==[]|| !Hr m o g|| !Hr m o y then 13 else 0
theorem KU {m:Bytes} (lm:m.length<=8) (lo:o.length<=8) (g y:Bytes):aE 61 [SK m o g y] (E (nO m o g y)):=by
 have h1:=sA [m,o,g,y] (by simp)
 simp only[bC,bR]at h1;have h2:=kL lm lo;have h3:=De lm lo g;have h4:=De lm lo y;unfold nO;generalize [m,o,g,y].all aa=b1 at*;generalize Hr m o g=b3 at*;generalize Hr m o y=b4 at*;cases b1
 ·refine eW call61 func61 ?_;exact z1 @h1
 ·by_cases h0:gE m o=0
  ·rw[h0]at h2⊢;obtain⟨b2,hb2⟩: ∃b2,(o==([]:Bytes))=b2:=⟨_,rfl⟩;rw[hb2]
   cases b2<;>cases b3<;>cases b4
   all_goals
    refine eW call61 func61 ?_;exact wJ @hb2 @h1 @h2 @h3 @h4
  ·simp only[bV,bu,aq,ah h0];generalize gE m o=e at*;refine eW call61 func61 ?_;exact z2 @h1 @h2
def FH (m o base:Bytes) (vs:List Bytes) (sd:Bytes) (a:Int):Except Int (Nat×Nat×Nat):=
 if !([m,o,base].all aa)|| !fQ vs a then .error 3 else if gE m o≠0 then .error (gE m o)else if o==[]|| !Hr m o base then .error 13
 else match jd vs sd a.toNat (aY (num o-1))with
  | .error e=> .error e
  | .ok c=>if num base^(num c+1)%num m=1 then .error 13 else .ok (num base^(num c+1)%num m,num c+1,a.toNat+1)
def Ac (m o base:Bytes) (vs:List Bytes) (sd:Bytes):Except Int (Nat×Nat×Nat)->PV
 | .ok (y,x,j)=> .tup [.agg [.s m, .s o, .s base,N y],N x,T vs sd (j:Nat),E 0]
 | .error e=> .tup [SK [] [] [] [], .s [],T [] [] 0,E e]
theorem OS {m:Bytes} (lm:m.length<=8) (lo:o.length<=8) (base:Bytes) (hl:vs.length<1000000) (hsd:sd.length<1000000):aE 58 [G m o, .s base,T vs sd a] (Ac m o base vs sd (FH m o base vs sd a)):=by
 have h1:=sA [m,o,base] (by simp)
 simp only[bC,bR]at h1;have h2:=kL lm lo;have h3:=De lm lo base;have h4:=OK vs sd a hl;unfold FH
 cases hb1:[m,o,base].all aa with
 |false=>
  rw[hb1]at h1;simp only[cv,pL,ax,Ac];refine eW call58 func58 ?_;exact z1 @h1
 |true=>
 rw[hb1]at h1
 cases hg:fQ vs a with
 |false=>
  rw[hg]at h4;simp only[cv,xQ,ax,Ac];refine eW call58 func58 ?_;exact z2 @h1 @h4
 |true=>
 rw[hg]at h4;simp only[bV,uc,bu,aq]
 by_cases h0:gE m o=0
 case neg=>
  rw[ah h0];simp only[Ac];generalize gE m o=e at*;refine eW call58 func58 ?_;exact z4 @h1 @h4 @h2 oT
 rw[h0]at h2;rw[ae (by simpa using h0)]
 cases hb3:Hr m o base with
 |false=>
  rw[hb3]at h3;simp only[cv,xQ,ax,Ac]
  by_cases ho:o=[]
  ·subst ho;refine eW call58 func58 ?_;repeat' first|simp only[go_sem,seval,iq]|refine cP h1 ?_|refine cP h4 ?_|refine cP h2 ?_|refine cP h3 ?_|refine oE ?_|apply xX<;>intro hc
   all_goals rfl
  ·have ho':(o==([]:Bytes))=false:=by simpa using ho
   refine eW call58 func58 ?_;exact wJ @ho' @h1 @h4 @h2 @h3
 |true=>
 rw[hb3]at h3
 by_cases ho:o=[]
 ·subst ho;simp only[iq,pL,ax,Ac];refine eW call58 func58 ?_;repeat' first|simp only[go_sem,seval,iq]|refine cP h1 ?_|refine cP h4 ?_|refine cP h2 ?_|refine cP h3 ?_|refine oE ?_|apply xX<;>intro hc
  all_goals rfl
 have ho':(o==([]:Bytes))=false:=by simpa using ho
 simp only[ho',bV,uc,bu,aq];obtain⟨vm,vo,m1,-,hoq⟩:=jf h0;obtain⟨q1,-⟩:=hoq ho;have hqW:=eR lo;have hmW:=eR lm;have hW:=jo;unfold Hr at hb3;rw[ba]at hb3;have hin:=hb3.1;unfold jb at hin;rw[ba]at hin;obtain⟨vb,gp⟩:=(ct h0).1 hin.2;obtain⟨hv,a0,a1⟩:=yU hg;obtain⟨i,rfl⟩: ∃i:Nat,a=i:=⟨a.toNat,oO⟩;rw[Int.toNat_natCast];have s1:=wT (a:=num o) (b:=1) oO oO;rw[eH vo,<-e9]at s1;have hbn:aY (num o-1)≠[]:=fun h=>by have:=iJ.1 h;omega
 have dB:=uG (vs:=vs) (sd:=sd) (i:=i) (n:=aY (num o-1)) hv (vN oO) hbn oO hl hsd
 cases hd:jd vs sd i (aY (num o-1))with
 |error e=>
  rw[hd]at dB;have he:=Ev hd;simp only[pS,Ac]at dB⊢;clear hd;refine eW call58 func58 ?_;exact Jl @ho' @h1 @h4 @h2 @h3 @s1 @dB oT
 |ok c=>
  rw[hd]at dB;obtain⟨vc,c2,c3⟩:=je hv (vN oO) hl oO hd;rw[aQ]at c2;simp only[pS]at dB;have s2:=P2 (a:=num c) (b:=1) oO;rw[eH vc,<-e9]at s2;have s3:=lh lm lo (ng:=false) (e:=aY (num c+1)) h0 gp (vN oO) rfl;rw[eH vb,aQ]at s3;have hz:de (num m) (num base) false (num c+1)=num base^(num c+1)%num m:=rfl;rw[hz]at s3;simp only;generalize num base^(num c+1)%num m=y at*;have e1:=Rx y;clear hd hz
  by_cases hy:y=1
  ·rw[ah hy];rw[aJ hy]at e1;simp only[Ac];refine eW call58 func58 ?_;exact Wm (aN @ho' @e1) @h1 @h4 @h2 @h3 @s1 @dB @s2 @s3 oT oT oT oT
  ·rw[ae hy];rw[aG hy]at e1;simp only[Ac];refine eW call58 func58 ?_;exact Wm (aN @ho' @e1) @h1 @h4 @h2 @h3 @s1 @dB @s2 @s3 oT oT oT oT
def CK.gN (c:CK) (d:Nat):List Bytes:=c.y::c.sh.take (d-1)
noncomputable def CK.at (c:CK) (i:Nat):Nat:=wX (num c.m) (num c.o) (List.range c.need.toNat) ((c.gN c.need.toNat).map num) i
noncomputable def JJ (c:CK):Bool:=(List.range (c.sh.length+1)).all fun i=>decide (i<c.need.toNat)||decide (c.at i=num (c.sh.getD (i-1) []))
noncomputable def dP (c:CK):Int:=
 if !([c.m,c.o,c.g,c.y].all aa)|| !(c.sh.all aa)then 3 else if !mi c.name then 1
 else if nO c.m c.o c.g c.y≠0 then nO c.m c.o c.g c.y
 else if !eY (num c.o)then 12
 else if(num c.o:Int)<=c.sh.length\/c.need<1\/c.need>c.sh.length then 6
 else if !(c.sh.all (jb c.m c.o))then 13 else if JJ c then 0 else 22
theorem Db {m o g y:Bytes} (h:nO m o g y=0):gE m o=0/\o≠[]/\aa g=true/\GP m o (num g)/\g≠[1]/\aa y=true/\GP m o (num y)/\y≠[1]:=by
 unfold nO at h
 split at h
 ·cases h
 ·split at h
  ·rename_i h1;exact aM h h1
  ·rename_i h1
   split at h
   ·cases h
   ·rename_i h2;have h0:gE m o=0:=by simpa using h1
    simp only[qX,fJ,not_or,DT,gR,Hr,jb,ba,fk]at h2;obtain⟨⟨ho,⟨-,hg⟩,hg1⟩,⟨-,hy⟩,hy1⟩:=h2;obtain⟨a1,a2⟩:=(ct h0).1 hg;obtain⟨b1,b2⟩:=(ct h0).1 hy;exact⟨h0,ho,a1,a2,hg1,b1,b2,hy1⟩
theorem tV (hf:Nat->Option aF) (f:Nat) (l:List PV):(l.map AV.v).flatMap (aU hf (f+1))=[]:=by
 induction l with
 |nil=>rfl
 |cons x r ih=>simp_all[aU]
theorem og:dL me 1:=⟨fun _=>rfl,fun x y hy=>by cases cR.1 hy;rfl,fun _ _=>rfl,fun h=>aM rfl h⟩
theorem Qt {x:Bytes} (vx:aa x=true) (v:Nat):(aY v==x)=decide (v=num x):=by
 conv=>lhs;rw[<-iu vx]
 exact we v (num x)
theorem mF (c:CK) (ln:c.name.length<=60) (lm:c.m.length<=8) (lo:c.o.length<=8) (ls:c.sh.length<=8):aE 24 [c.pv] (E (dP c)):=by
 unfold dP;obtain⟨name,m,o,g,y,need,sh⟩:=c;simp only[CK.pv]at*;have l1:(sh.map PV.s).length=sh.length:=aC ..;have h1:=mE [m,o,g,y] (by simp)
 simp only[bC,bR]at h1;have h2:=mE sh oO;have h3:=Eo name ln;have h4:=KU lm lo g y;have h5:=BJ o
 cases hb1:[m,o,g,y].all aa with
 |false=>
  rw[hb1]at h1;simp only[cv,pL,ax];refine eW call24 func24 ?_;exact z1 @h1
 |true=>
 rw[hb1]at h1
 cases hb2:sh.all aa with
 |false=>
  rw[hb2]at h2;simp only[cv,xQ,ax];refine eW call24 func24 ?_;exact z2 @h1 @h2
 |true=>
 rw[hb2]at h2;simp only[bV,uc,bu,aq]
 cases hn:mi name with
 |false=>
  rw[hn]at h3;simp only[cv,ax];refine eW call24 func24 ?_;exact z4 @h1 @h2 @h3 oT
 |true=>
 rw[hn]at h3;simp only[bV,bu,aq]
 by_cases hk:nO m o g y=0
 case neg=>
  rw[ah hk];generalize nO m o g y=e at*;refine eW call24 func24 ?_;exact z4 @h1 @h2 @h3 @h4
 rw[hk]at h4;rw[ae (by simpa using hk)]
 obtain⟨hE,ho,vg,gg,-,vy,gy,-⟩:=Db hk;obtain⟨vm,vo,m1,-,-⟩:=jf hE;have hqW:=eR lo;rw[vo,aJ lo,show jD o=0 by have:=tG hqW;rwa[iu vo]at this]at h5
 simp only[cr]at h5
 cases hp:eY (num o)with
 |false=>
  rw[hp]at h5;simp only[cv,ax];refine eW call24 func24 ?_;exact z7 @h1 @h2 @h3 @h4 @h5 oT oT
 |true=>
 rw[hp]at h5;simp only[bV,bu,aq];obtain⟨n,hn0⟩: ∃n,n=sh.length:=⟨_,rfl⟩;have hW:=jo;have lS:sh.length=n:=hn0.symm;rw[lS]at ls⊢;have h6:=lH n oO;have h7:=sY (a:=n) (b:=num o) oO oO;rw[eH vo]at h7;have hw: ∀ _:True,IntKind.u64.wrap (n:Int)=n:=fun _=>IntWalk.u64_in _ oO
 have hcg:=uT n (num o);generalize bc n (num o)=cm at*
 by_cases hb:(num o:Int)<=n\/need<1\/need>n
 ·rw[ah hb]
  by_cases b1:num o<=n
  ·rw[aJ b1]at hcg;refine eW call24 func24 ?_;exact Jl (aN @l1 (aN @lS (aN (hw oT) @hcg))) @h1 @h2 @h3 @h4 @h5 @h6 @h7
  ·rw[aG b1]at hcg
   by_cases b2:need<1
   ·refine eW call24 func24 ?_;exact Jl (aN @l1 (aN @lS (aN (hw oT) @hcg))) @h1 @h2 @h3 @h4 @h5 @h6 @h7
   ·have b3:need>n:=oO;refine eW call24 func24 ?_;exact Jl (aN @l1 (aN @lS (aN (hw oT) @hcg))) @h1 @h2 @h3 @h4 @h5 @h6 @h7
 rw[ae hb];obtain⟨d,rfl⟩: ∃d:Nat,need=d:=⟨need.toNat,oO⟩;obtain⟨A,hA⟩: ∃A:Nat->Nat,A=fun i=>wX (num m) (num o) (List.range d) ((y::sh.take (d-1)).map num) i:=⟨_,rfl⟩
 obtain⟨cB,hcB0⟩: ∃cB,cB=JJ ⟨name,m,o,g,y,(d:Int),sh⟩:=⟨_,rfl⟩;rw[<-hcB0];have hcB:cB=(List.range (n+1)).all fun i=>decide (i<d)||decide (A i=num (sh.getD (i-1) [])):=by
  rw[hcB0,hA,<-lS];rfl
 clear hcB0;rw[aG (show¬(num o<=n) by omega)]at hcg
 have hsv:=bH.1 hb2;refine eW call24 func24 ?_;refine HI (aN @l1 (aN @lS (aN (hw oT) @hcg))) @h1 @h2 @h3 @h4 @h5 @h6 @h7 ?_;refine af (α:=Nat) (fun i=>n-i) (fun i=>⟨[(1, .p 1000 0 0),(7,E' n),(90, .v (.sl (sh.map .s))),(91,E' n),(92,E' i)],[(1000,⟨0,[.v (.s name), .v (.s m), .v (.s o), .v (.s g), .v (.s y), .v (E d), .v (.sl (sh.map .s))],false,none⟩)],_⟩) (fun i=>i<=n/\(sh.drop i).all (jb m o)=sh.all (jb m o)) 0 (fun _=>aA _) ⟨aI _,rfl⟩ ?_ ?_
 ·exact lE
 ·rintro i ⟨hi,hf⟩ R hR
  by_cases hlt:i<n
  ·have e1:=eN (l:=sh) (x:=i) oO;have hgo:=fun h=>hR (i+1) ⟨oO,h⟩ oO
   rw[aW [] (show i<sh.length by omega),List.all_cons]at hf
   generalize sh.getD i []=x at*;have hv:=yR lm lo x;clear hR hcB hA
   cases hbx:jb m o x with
   |true=>
    rw[hbx,cr]at hf;rw[hbx]at hv;refine jm (aN @l1 @e1) @hv ?_;refine hgo hf _ ?_;exact lE
   |false=>
    rw[hbx,dK]at hf;rw[hbx]at hv;rw[<-hf];clear hgo hf;exact m9 (aN @l1 @e1) @hv
  ·obtain rfl:n=i:=oO;rw[<-lS,da]at hf;have hall:sh.all (jb m o)=true:=hf.symm;rw[hall];simp only[bV,bu,aq];clear hf hR;have hgp: ∀x∈sh,GP m o (num x):=fun x hx=>by
    have:=bH.1 hall x hx;unfold jb at this;rw[ba]at this;exact((ct hE).1 this.2).2
   have hge: ∀x∈(y::sh.take (d-1)).map num,GP m o x:=fun x hx=>by
    obtain⟨z,hz,rfl⟩:=bm.1 hx;rcases cb.1 hz with rfl|hz
    ·exact gy
    ·exact hgp z (gS hz)
   have hlv: ∀x∈y::sh.take (d-1),aa x=true:=fun x hx=>by
    rcases cb.1 hx with rfl|hx
    ·exact vy
    ·exact hsv x (gS hx)
   have hll:(y::sh.take (d-1)).length=d:=by simp;omega
   have hat:=Gv m o g y (pts:=List.range d) (by simp;omega) (by simp;omega) (fun a ha=>by have:=dW.1 ha;omega)
   have hcat:=fun k (hk:k<num o)=>Ch lm lo hE ho hp g y (pts:=List.range d) (gN:=(y::sh.take (d-1)).map num) (by simp;omega) (by rw[aC,hll];simp) DZ (fun a ha=>by have:=dW.1 ha;omega) (by simp;omega) hge (x:=k) hk
   rw[<-GJ hlv]at hcat;have hcat: ∀k,k<=n->aE 101 (.sl ((y::sh.take (d-1)).map .s)::E k::AG m o g y (List.range d)) (N (A k)):=fun k hk=>by rw[hA];exact hcat k oO
   have hLs: ∀k,k+1<sh.length->sh.take (k+1)=sh.take k++[sh.getD k []]:=fun k hk=>cF [] oO
   have hLr: ∀k,List.range (k+1)=List.range k++[k]:=fun k=>re
   clear hA hgp hge hlv;refine dI (aN @l1 @lS) ?_
   by_cases hd1:d=1
   ·have hr1:(List.range d).map me=[E 0]:=by rw[hd1];rfl
    have hr2:(y::sh.take (d-1)).map PV.s=[.s y]:=by rw[hd1];rfl
    rw[hr2]at hcat;rw[hr1]at hat;have hlt1: ∀ _:True,decide ((1:Int)<(d:Int))=false:=fun _=>aG oO
    refine ai ?_;refine oZ (aN @l1 (aN @lS (hlt1 oT))) @hat ?_;refine af (α:=Nat) (fun k=>n+1-k) (fun k=>⟨[(1, .p 1000 0 0),(7,E' n),(11, .fs [.s y]),(13, .v (.fc 101 [] (AG m o g y (List.range d)))),(14,E' k)],[(1000,⟨0,[.v (.s name), .v (.s m), .v (.s o), .v (.s g), .v (.s y), .v (E d), .v (.sl (sh.map .s))],false,none⟩)],1102⟩) (fun k=>d<=k/\k<=n+1/\ ∀i,d<=i->i<k->A i=num (sh.getD (i-1) [])) d (fun _=>bQ rfl) ⟨aA _,oO,fun i h1 h2=>oO⟩ ?_ ?_
    ·exact lE
    ·rintro k ⟨hdk,hkn,hall⟩ R hR
     by_cases hlt:k<=n
     ·obtain⟨j,rfl⟩: ∃j,k=j+1:=⟨k-1,oO⟩;have hgo:=fun(h:A (j+1)=num (sh.getD j []))=>hR (j+1+1) ⟨oO,oO,fun i h1 h2=>by
       by_cases e:i=j+1
       ·subst e;exact h
       ·exact hall i h1 oO⟩ oO
      have e1:=eN (l:=sh) (x:=j) oO;have vx:=hsv _ (an [] (show j<sh.length by omega))
      have hc:=hcat (j+1) oO;have hw: ∀ _:True,IntKind.i64.wrap (((j+1:Nat):Int)-1)=(j:Int):=fun _=>by rw[IntWalk.i64_in _ oO];omega
      have hb:=Qt vx (A (j+1));have hle: ∀ _:True,decide (((j+1:Nat):Int)<=(n:Int))=true:=fun _=>aJ oO
      have hbad:A (j+1)≠num (sh.getD j [])->cB=false:=fun h=>by
       rw[hcB];exact ue.2 ⟨j+1,dW.2 oO,by
        rw[iO,aG (show¬(j+1<d) by omega),aG h];decide⟩
      generalize A (j+1)=v at*;generalize sh.getD j []=x at*;clear hR hall hcat hsv hcB
      by_cases hv:v=num x
      ·rw[aJ hv]at hb;have hgo:=hgo hv;clear hbad;exact gV (aN @l1 (aN @e1 (aN (hw oT) (aN @hb (hle oT))))) @hgo @hc
      ·rw[aG hv]at hb;rw[hbad hv];clear hgo hbad;exact m9 (aN @l1 (aN @e1 (aN (hw oT) (aN @hb (hle oT))))) @hc
     ·obtain rfl:k=n+1:=oO;have hgood:cB=true:=by
       rw[hcB];refine bH.2 fun i hi=> ?_
       have:=dW.1 hi
       by_cases h:i<d
       ·rw[aJ h];rfl
       ·rw[aJ (hall i oO oO)];simp
      rw[hgood];have hle: ∀ _:True,decide (((n+1:Nat):Int)<=(n:Int))=false:=fun _=>aG oO
      clear hR hall hcat hsv hcB;exact gi (hle oT)
   ·refine ai ?_;have e1:=eN (l:=sh) (x:=0) oO;have t1:sh.take 1=[sh.getD 0 []]:=by rw[cF [] oO];simp
    have hlt1: ∀ _:True,decide ((1:Int)<(d:Int))=true:=fun _=>aJ oO
    refine dI (aN @l1 (aN @lS (aN @e1 (hlt1 oT)))) ?_;obtain⟨PX,hPX⟩: ∃PX:Nat->List PV,∀k,PX k=(List.range k).map me:=⟨_,fun _=>rfl⟩
    obtain⟨PY,hPY⟩: ∃PY:Nat->List PV,∀k,PY k=(y::sh.take k).map PV.s:=⟨_,fun _=>rfl⟩
    rw[<-hPX]at hat;rw[<-hPY]at hcat;have XL: ∀k,(PX k).length=k:=fun k=>by rw[hPX];simp
    have YL: ∀k,k<=n->(PY k).length=k+1:=fun k hk=>by rw[hPY];simp;omega
    have XO: ∀k,((PX k).map AV.v).all AV.one=true:=fun k=>by rw[hPX];simp[me,AV.one,PV.one]
    have YO: ∀k,((PY k).map AV.v).all AV.one=true:=fun k=>by
     rw[hPY,bH];intro a ha;obtain⟨b,hb,rfl⟩:=bm.1 ha;obtain⟨c,-,rfl⟩:=bm.1 hb;rfl
    have XN: ∀hf f k,((PX k).map AV.v).flatMap (aU hf (f+1))=[]:=fun hf f k=>tV hf f _
    have YN: ∀hf f k,((PY k).map AV.v).flatMap (aU hf (f+1))=[]:=fun hf f k=>tV hf f _
    have XB: ∀k,∀c∈(PX k).map AV.v,c.bd 1112=true:=fun k c hc=>by obtain⟨x,-,rfl⟩:=bm.1 hc;rfl
    have YB: ∀k,∀c∈(PY k).map AV.v,c.bd 1112=true:=fun k c hc=>by obtain⟨x,-,rfl⟩:=bm.1 hc;rfl
    have XS: ∀k,(PX k).map AV.v++[.v (E (k:Nat))]=(PX (k+1)).map AV.v:=fun k=>by rw[hPX,hPX,hLr];simp[me]
    have YS: ∀k,k+1<n->(PY k).map AV.v++[.v (.s (sh.getD k []))]=(PY (k+1)).map AV.v:=fun k hk=>by rw[hPY,hPY,hLs k oO];simp
    have X2:(PX 2).map AV.v=[.v (E 0), .v (E 1)]:=by rw[hPX];rfl
    have Y1:(PY 1).map AV.v=[.v (.s y), .v (.s (sh.getD 0 []))]:=by rw[hPY,t1];rfl
    have X2':PX 2=[E 0,E 1]:=by rw[hPX];rfl
    have Y1':PY 1=[.s y, .s (sh.getD 0 [])]:=by rw[hPY,t1];rfl
    clear hPX hPY hLr hLs;refine af (α:=Nat⊕Unit) (fun j=>match j with| .inl j=>d-j| .inr _=>0) (fun j=>match j with| .inl j=>⟨[(1, .p 1000 0 0),(7,E' n),(10, .rs 1097 j 0 (j+2) 1),(11, .rs 1106 j 0 (j+2) 1),(12,E' (j+2))],[(1000,⟨0,[.v (.s name), .v (.s m), .v (.s o), .v (.s g), .v (.s y), .v (E d), .v (.sl (sh.map .s))],false,none⟩),(1097,⟨j,(PX (j+2)).map AV.v,true,some 3⟩),(1106,⟨j,(PY (j+1)).map AV.v,true,some 22⟩)],1112⟩| .inr _=>⟨[(10, .v (.sl (PX d))),(11, .v (.sl (PY (d-1)))),(1, .p 1000 0 0),(7,E' n),(12,E' d)],[(1000,⟨0,[.v (.s name), .v (.s m), .v (.s o), .v (.s g), .v (.s y), .v (E d), .v (.sl (sh.map .s))],false,none⟩)],1112⟩) (fun j=>match j with| .inl j=>j+2<d| .inr _=>True) (if 2<d then .inl 0 else .inr ()) (fun j=>by cases j<;>exact bQ rfl) ?_ ?_ ?_
    ·by_cases h2:2<d
     ·rw[ah h2];show 0+2<d;omega
     ·rw[ae h2];trivial
    ·by_cases h2:2<d
     ·rw[ah h2];simp only[dF,X2,Y1];exact lE
     ·rw[ae h2];have hd2:d=2:=oO;have z1:PX d=[E 0,E 1]:=by rw[hd2,X2']
      have z2:PY (d-1)=[.s y, .s (sh.getD 0 [])]:=by rw[hd2,Y1']
      simp only[z1,z2];have z3:((d:Nat):Int)=2:=oO;refine AS.Le.NG [(10, .sl [E 0,E 1]),(11, .sl [.s y, .s (sh.getD 0 [])])] [1097,1106] ?_ ?_ (by first|decide|omega) ?_ ?_
      ·intro q hq;simp at hq;rcases hq with rfl|rfl<;>exact⟨by decide,rfl⟩
      ·intro p hp;simp at hp;rcases hp with rfl|rfl<;>simp[aP,ay,view,aU,bz,chunk,AV.one,PV.one]
      ·simp[dC,dA,aP,ay,AV.bd,AV.bd.bdL,z3]
      ·simp[dC,dA,aP,ay,AV.bd,AV.bd.bdL,z3]
    ·rintro(j| _) hj R hR
     ·have hj:j+2<d:=hj;have q1:=XL (j+2);have q2:List.take (j+2) ((PX (j+2)).map AV.v)=(PX (j+2)).map AV.v:=cl (by rw[aC,q1];omega)
      have q3:=YL (j+1) oO;have q4:List.take (j+2) ((PY (j+1)).map AV.v)=(PY (j+1)).map AV.v:=cl (by rw[aC,q3];omega)
      have p1:=XS (j+2);have p2:=YS (j+1) oO;have e2:=eN (l:=sh) (x:=j+1) oO;have hw: ∀ _:True,IntKind.i64.wrap (((j+2:Nat):Int)-1)=((j+1:Nat):Int):=fun _=>by rw[IntWalk.i64_in _ oO];omega
      have hlt2: ∀ _:True,decide (((j+2:Nat):Int)<(d:Int))=true:=fun _=>aJ oO
      clear hcat hsv hcB e1 t1
      by_cases h3:j+3<d
      ·have hgo:=hR (.inl (j+1)) h3 (by show d-(j+1)<d-j;omega)
       simp only[show j+1+2=j+2+1 from rfl]at hgo
       clear hR;generalize sh.getD (j+1) []=x at*;refine dI (aN @l1 (aN @lS (aN @e2 (aN (hw oT) (aN (hlt2 oT) (aN @q1 (aN @q2 (aN @q3 (aN @q4 (aN @p1 @p2)))))))))) ?_;refine hgo _ ?_
       (refine AS.Le.of (by first|decide|omega) ?_ ?_<;>simp[dC,dA,aP,ay,AV.bd,AV.bd.bdL,u8,ar,au,az])
       all_goals exact⟨fun c hc=>XB _ c (by simpa using hc),fun c hc=>YB _ c (by simpa using hc)⟩
      ·have hgo:=hR (.inr ()) trivial (by show 0<d-j;omega)
       clear hR;obtain rfl:d=j+3:=oO;generalize sh.getD (j+1) []=x at*;refine dI (aN @l1 (aN @lS (aN @e2 (aN (hw oT) (aN (hlt2 oT) (aN @q1 (aN @q2 (aN @q3 (aN @q4 (aN @p1 @p2)))))))))) ?_;refine hgo _ ?_;have q5:=XL (j+3);have q6:List.take (j+3) ((PX (j+3)).map AV.v)=(PX (j+3)).map AV.v:=cl (by rw[aC,q5];omega)
       have q7:=XO (j+3);have q8:chunk 1 (j+3) (PX (j+3))=PX (j+3):=by have:=oe (PX (j+3));rwa[q5]at this
       have p5:=YL (j+2) oO;have p6:List.take (j+3) ((PY (j+2)).map AV.v)=(PY (j+2)).map AV.v:=cl (by rw[aC,p5];omega)
       have p7:=YO (j+2);have p8:chunk 1 (j+3) (PY (j+2))=PY (j+2):=by have:=oe (PY (j+2));rwa[p5]at this
       refine AS.Le.NG [(10, .sl (PX (j+3))),(11, .sl (PY (j+2)))] [1097,1106] ?_ ?_ (by first|decide|omega) ?_ ?_
       ·intro q hq;simp at hq;rcases hq with rfl|rfl<;>exact⟨by decide,rfl⟩
       ·intro p hp;simp only[cb,iD,or_false]at hp;rcases hp with rfl|rfl<;>simp only[aP,ay,view,aU,fm,dF,pJ,db,aC,Nat.reduceEqDiff,ax,aq,q5,q6,q7,q8,p5,p6,p7,p8,XN,YN]<;>simp
        all_goals first|exact q8|exact p8
       ·simp[dC,dA,aP,ay,AV.bd,AV.bd.bdL]<;>omega
       ·simp[dC,dA,aP,ay,AV.bd,AV.bd.bdL]
     ·refine oZ (aN @l1 @lS) @hat ?_;refine af (α:=Nat) (fun k=>n+1-k) (fun k=>⟨[(1, .p 1000 0 0),(7,E' n),(11, .v (.sl (PY (d-1)))),(13, .v (.fc 101 [] (AG m o g y (List.range d)))),(14,E' k)],[(1000,⟨0,[.v (.s name), .v (.s m), .v (.s o), .v (.s g), .v (.s y), .v (E d), .v (.sl (sh.map .s))],false,none⟩)],1124⟩) (fun k=>d<=k/\k<=n+1/\ ∀i,d<=i->i<k->A i=num (sh.getD (i-1) [])) d (fun _=>bQ rfl) ⟨aA _,oO,fun i h1 h2=>oO⟩ ?_ ?_
      ·exact lE
      ·rintro k ⟨hdk,hkn,hall⟩ R hR
       by_cases hlt:k<=n
       ·obtain⟨j,rfl⟩: ∃j,k=j+1:=⟨k-1,oO⟩;have hgo:=fun(h:A (j+1)=num (sh.getD j []))=>hR (j+1+1) ⟨oO,oO,fun i h1 h2=>by
         by_cases e:i=j+1
         ·subst e;exact h
         ·exact hall i h1 oO⟩ oO
        have e1:=eN (l:=sh) (x:=j) oO;have vx:=hsv _ (an [] (show j<sh.length by omega))
        have hc:=hcat (j+1) oO;have hw: ∀ _:True,IntKind.i64.wrap (((j+1:Nat):Int)-1)=(j:Int):=fun _=>by rw[IntWalk.i64_in _ oO];omega
        have hb:=Qt vx (A (j+1));have hle: ∀ _:True,decide (((j+1:Nat):Int)<=(n:Int))=true:=fun _=>aJ oO
        have hbad:A (j+1)≠num (sh.getD j [])->cB=false:=fun h=>by
         rw[hcB];exact ue.2 ⟨j+1,dW.2 oO,by
          rw[iO,aG (show¬(j+1<d) by omega),aG h];decide⟩
        generalize A (j+1)=v at*;generalize sh.getD j []=x at*;clear hR hall hcat hsv hcB
        by_cases hv:v=num x
        ·rw[aJ hv]at hb;have hgo:=hgo hv;clear hbad;exact gV (aN @l1 (aN @e1 (aN (hw oT) (aN @hb (hle oT))))) @hgo @hc
        ·rw[aG hv]at hb;rw[hbad hv];clear hgo hbad;exact m9 (aN @l1 (aN @e1 (aN (hw oT) (aN @hb (hle oT))))) @hc
       ·obtain rfl:k=n+1:=oO;have hgood:cB=true:=by
         rw[hcB];refine bH.2 fun i hi=> ?_
         have:=dW.1 hi
         by_cases h:i<d
         ·rw[aJ h];rfl
         ·rw[aJ (hall i oO oO)];simp
        rw[hgood];have hle: ∀ _:True,decide (((n+1:Nat):Int)<=(n:Int))=false:=fun _=>aG oO
        clear hR hall hcat hsv hcB;exact gi (hle oT)
theorem VR {a b m:Nat} (ha:a<(2^64)) (hb:b<(2^64)) (hm:m<(2^64)) (h0:0<m):aE 426 [N a,N b,N m] (.tup [N ((a+b)%m),E 0]):=by
 have w2:=ka;have hW:=jo;have hc:=IT (aY a) (aY b) (aY m);rw[wj ha (vN hb) hm h0]at hc;have d1:=js (a:=a) (m:=m) oO oO h0;have d2:=js (a:=b) (m:=m) oO oO h0;have l1:=aL a h0;have l2:=aL b h0;have hs:=IS (a:=a%m) (b:=b%m) oO;have d3:=js (a:=a%m+b%m) (m:=m) oO oO h0;rw[<-k9]at d3;refine eW call426 func426 ?_;exact z7 @hc @d1 @d2 @hs @d3 oT oT
theorem VS {a b m:Nat} (ha:a<(2^64)) (hb:b<(2^64)) (hm:m<(2^64)) (h0:0<m):aE 427 [N a,N b,N m] (.tup [N (((a:Int)-b)%m).toNat,E 0]):=by
 have w2:=ka;have hW:=jo;have hc:=IT (aY a) (aY b) (aY m);rw[wj ha (vN hb) hm h0]at hc;have d1:=js (a:=a) (m:=m) oO oO h0;have d2:=js (a:=b) (m:=m) oO oO h0;have l1:=aL a h0;have l2:=aL b h0;have hs:=IS (a:=a%m) (b:=m) oO;have hu:=IY (a:=a%m+m) (b:=b%m) oO oO;have d3:=js (a:=a%m+m-b%m) (m:=m) oO oO h0;have e:(a%m+m-b%m)%m=(((a:Int)-b)%m).toNat:=by
  rw[Yd h0];split
  ·rename_i h;rw[h,Nat.sub_zero,Nat.add_mod_right,dY]
  ·rw[Nat.add_sub_assoc oO]
 rw[e]at d3;refine eW call427 func427 ?_;exact z7 @hc @d1 @d2 @hs @hu @d3 oT
theorem G4 {a:Nat} (ha:a<(2^64)) (hb:b<(2^64)) (hq:q<(2^64)) (h0:0<q):aE 343 [N q,N a,N b] (N ((a+b)%q)):=by
 have h:=VR ha hb hq h0;refine eW call343 func343 ?_;exact z1 @h
theorem Ob {a:Nat} (ha:a<(2^64)) (hb:b<(2^64)) (hq:q<(2^64)) (h0:0<q):aE 345 [N q,N a,N b] (N (((a:Int)-b)%q).toNat):=by
 have h:=VS ha hb hq h0;refine eW call345 func345 ?_;exact z1 @h
theorem zS {a:Nat} (ha:a<(2^64)) (hb:b<(2^64)) (hq:q<(2^64)) (h0:0<q):aE 344 [N q,N a,N b] (N (a*b%q)):=by
 have h:=Oj ha hb hq h0;refine eW call344 func344 ?_;exact z1 @h
theorem VQ {a:Nat} (ha:a<(2^64)) (hb:b<(2^64)) (hq:q<(2^64)) (h0:0<q) (hg:Nat.gcd b q=1):aE 346 [N q,N a,N b] (N (a*fR b q%q)):=by
 have h:=wF hb hq h0 hg;have hi:=(gL h0 hg).inv.1;have hm:=zS ha (b:=fR b q) oO hq h0;refine eW call346 func346 ?_;exact z2 @h @hm
theorem Oc {l:List Bytes} (hv: ∀x∈l,aa x=true) (hl:l.length<1000000):aE 340 [.sl (l.map .s)] (.b true):=by
 have l5:(l.map PV.s).length=l.length:=aC ..;refine eW call340 func340 ?_;refine qB ?_;refine af (α:=Nat) (fun i=>l.length-i) (fun i=>⟨[(0, .v (.sl (l.map .s))),(3,E' i)],[],_⟩) (fun i=>i<=l.length) 0 (fun _=>aA _) (aI _) ?_ ?_
 ·exact lE
 ·intro i hi R hR
  by_cases hlt:i<l.length
  ·have e1:=eN hlt;have hgo:=hR (i+1) oO oO;have vx:=aK (l.getD i []);rw[hv _ (an [] hlt)]at vx;generalize l.getD i []=x at*;clear hR;exact gV (aN @l5 @e1) @hgo @vx
  ·obtain rfl:i=l.length:=oO;exact gi @l5
theorem N9 {q:Bytes} (vq:aa q=true) {l:List Bytes} (hv: ∀x∈l,aa x=true/\num x<num q) (hl:l.length<1000000):aE 342 [.s q, .sl (l.map .s)] (.b true):=by
 have l5:(l.map PV.s).length=l.length:=aC ..;refine eW call342 func342 ?_;refine qB ?_;refine af (α:=Nat) (fun i=>l.length-i) (fun i=>⟨[(0, .v (.s q)),(1, .v (.sl (l.map .s))),(5,E' i)],[],_⟩) (fun i=>i<=l.length) 0 (fun _=>aA _) (aI _) ?_ ?_
 ·exact lE
 ·intro i hi R hR
  by_cases hlt:i<l.length
  ·have e1:=eN hlt;have hgo:=hR (i+1) oO oO;obtain⟨vx,lx⟩:=hv _ (an [] hlt);have hc:=po (l.getD i []) q;rw[vx,vq]at hc;simp only[dt,ax]at hc;generalize l.getD i []=x at*;have hg:=SZ (num x) (num q);rw[aJ lx]at hg;generalize bc (num x) (num q)=cm at*;clear hR;exact gV (aN @l5 (aN @e1 @hg)) @hgo @hc
  ·obtain rfl:i=l.length:=oO;exact gi @l5
theorem Oa (hq:q<(2^64)) (hp:eY q=true):aE 341 [N q] (E 0):=by
 have h:=Hb (aY q) (by have:=lN hq;omega)
 rw[vN hq,aJ (lN hq),aQ,hp,ah rfl,ah (lN hq)]at h;simp only[dt]at h;refine eW call341 func341 ?_;exact z1 @h
theorem Od (hq:q<(2^64)) (h0:0<q) {cs:List Nat} (hc: ∀c∈cs,c<(2^64)) (hx:x<(2^64)) (hl:cs.length<1000000):aE 223 [N q, .sl (cs.map cZ),N x] (N (xf q (nI cs) x).toNat):=by
 have l5:(cs.map cZ).length=cs.length:=aC ..;have hw: ∀ _:True,IntKind.i64.wrap ((cs.length:Int)-1)=(cs.length:Int)-1:=fun _=>IntWalk.i64_in _ oO
 refine eW call223 func223 ?_;refine dH (aN @l5 (hw oT)) ?_;refine af (α:=Nat) (fun k=>k) (fun k=>⟨[(0, .v (N q)),(1, .v (.sl (cs.map cZ))),(2, .v (N x)),(7, .v (N (xf q ((nI cs).drop k) x).toNat)),(8, .v (.i .i64 ((k:Int)-1)))],[],_⟩) (fun k=>k<=cs.length) cs.length (fun _=>aA _) (aA _) ?_ ?_
 ·have e:(nI cs).drop cs.length=[]:=il (by rw[sf];exact aA _)
  have e2:N (xf q ((nI cs).drop cs.length) x).toNat= .s []:=by rw[e];exact congrArg PV.s Xg
  rw[e2];exact lE
 ·intro k hk R hR
  cases k with
  |zero=>
   rw[pJ];exact z0
  |succ k=>
   have hgo:=hR k oO oO;rw[MX h0 cs x oO]at hgo;have hb:=yW (q:=q) oO x ((nI cs).drop (k+1));have e1: ∀ _:True,((k+1:Nat):Int)-1=(k:Int):=fun _=>oO
   have hge: ∀ _:True,decide ((k:Int)>=0)=true:=fun _=>by simp
   have hwk: ∀ _:True,IntKind.i64.wrap ((k:Int)-1)=(k:Int)-1:=fun _=>IntWalk.i64_in _ oO
   have e2:=pf cs (i:=k) oO;have hck:=hc _ (an 0 (show k<cs.length by omega))
   obtain⟨y,hy⟩: ∃y,y=(xf q ((nI cs).drop (k+1)) x).toNat:=⟨_,rfl⟩;rw[<-hy]at hgo⊢;have hyq:y<q:=oO;generalize cs.getD k 0=c at*;have m1:=zS (a:=y) (b:=x) (q:=q) oO hx hq h0;have m2:=G4 (a:=y*x%q) (b:=c) (q:=q) (by have:=aL (y*x) h0;omega) hck hq h0
   clear hR hy hb hc;exact vY (aN (e1 oT) (aN (hge oT) (aN (hwk oT) (aN @l5 @e2)))) @hgo @m1 @m2
theorem BP {m:Bytes} (lm:m.length<=8) (lo:o.length<=8) (x:Bytes):aE 174 [G m o, .s x] (.b (!(o==[])&&Hr m o x)):=by
 have h:=oM lm lo x;unfold Hr;generalize jb m o x=b at*
 by_cases ho:o=[]
 ·subst ho;refine eW call174 func174 ?_;repeat' first|simp only[go_sem,seval,nn]|refine cP h ?_|refine oE ?_|apply xX<;>intro hc
  all_goals simp
 ·have ho':(o==([]:Bytes))=false:=by simpa using ho
  cases b
  ·refine eW call174 func174 ?_;repeat' first|simp only[go_sem,seval,ho']|refine cP h ?_|refine oE ?_|apply xX<;>intro hc
   all_goals simp
  ·refine eW call174 func174 ?_;exact aaC @ho' @h
theorem zT (n:Bytes) (hn:n.length<=60):aE 78 [.s n] (.b (mi n)):=by
 refine eW call78 func78 ?_;refine qB ?_;refine af (α:=Nat) (fun i=>n.length-i) (fun i=>⟨[(0, .v (.s n)),(3, .v (.i .i64 (i:Nat)))],[],_⟩) (fun i=>i<=n.length/\ ∀j,j<i->uP j (JH n j)=false) 0 (fun _=>aA _) ⟨aI _,fun j hj=>oO⟩ ?_ ?_
 ·exact lE
 ·rintro i ⟨hi,ha⟩ R hR
  by_cases hlt:i<n.length
  ·have hlt':(i:Int)<n.length:=oO;have hbad:uP i (JH n i)=true->mi n=false:=by
    intro h;unfold mi;have:(List.range n.length).all (fun i=> !uP i (JH n i))=false:=by
     rw[fz];intro g;have:=bH.1 g i (dW.2 hlt);rw[h]at this;cases this
    rw[this];rfl
   have hgo:uP i (JH n i)=false-> ∀s',(AS.mk [(0, .v (.s n)),(3, .v (.i .i64 ((i+1:Nat):Int)))] [] 1002).Le s'->R s':=by
    intro h s' hs;refine hR (i+1) ⟨oO,fun j hj=> ?_⟩ oO s' hs
    by_cases e:j=i
    ·subst e;exact h
    ·exact ha j oO
   clear hR ha;obtain⟨c,hcc⟩: ∃c,JH n i=c:=⟨_,rfl⟩;have hcd:((n.getD i 0).toNat:Int)=c:=hcc;have h0:0<=c/\c<256:=by rw[<-hcd];have:=(n.getD i 0).toNat_lt;omega
   rw[hcc]at hbad hgo;unfold uP at hbad hgo;obtain⟨b1,h1⟩: ∃b,decide (c>=97)=b:=⟨_,rfl⟩;obtain⟨b2,h2⟩: ∃b,decide (c<=122)=b:=⟨_,rfl⟩;obtain⟨b3,h3⟩: ∃b,decide (c>=65)=b:=⟨_,rfl⟩;obtain⟨b4,h4⟩: ∃b,decide (c<=90)=b:=⟨_,rfl⟩;obtain⟨b5,h5⟩: ∃b,((i:Int)==0)=b:=⟨_,rfl⟩;obtain⟨b6,h6⟩: ∃b,(c !=95)=b:=⟨_,rfl⟩;obtain⟨b7,h7⟩: ∃b,decide (c<48)=b:=⟨_,rfl⟩;obtain⟨b8,h8⟩: ∃b,decide (c>57)=b:=⟨_,rfl⟩;rw[h1,h2,h3,h4,h5,h6,h7,h8]at hbad hgo;have e1:decide ((i:Int)<(n.length:Int))=true:=aJ hlt';repeat' first|simp only[go_sem,seval,hcd,h1,h2,h3,h4,h5,h6,h7,h8,e1]|refine oE ?_|apply xX<;>intro hc
   all_goals clear h1 h2 h3 h4 h5 h6 h7 h8 hcd hcc h0
   all_goals try simp only[fJ,Bool.not_eq_false']at*
   all_goals subst_vars
   all_goals first
     |(refine hgo rfl _ ?_;(refine AS.Le.of (by first|decide|omega) ?_ ?_<;>simp[dC,dA,aP,ay,AV.bd,AV.bd.bdL,u8,ar,au,az]);done)
     |(rw[hbad rfl];done)
     |(cases b6<;>first|(simp at hc;done)|(refine hgo rfl _ ?_;(refine AS.Le.of (by first|decide|omega) ?_ ?_<;>simp[dC,dA,aP,ay,AV.bd,AV.bd.bdL,u8,ar,au,az]);done)|(rw[hbad rfl];done)|fail)
     |fail
  ·obtain rfl:i=n.length:=oO;have e:mi n=(!(n==[])&&decide (n.length<=32)):=by
    unfold mi;have:(List.range n.length).all (fun i=> !uP i (JH n i))=true:=by
     rw[bH];intro j hj;rw[ha j (dW.1 hj)];rfl
    rw[this,cr]
   rw[e];have e2:decide ((n.length:Int)<=32)=decide (n.length<=32):=by rw[mD];omega
   clear ha hR e;exact Y6
theorem vG {l:List Nat} (hv: ∀x∈l,x<(2^64)) (hl:l.length<1000000):aE 340 [.sl (l.map cZ)] (.b true):=by
 have:=Oc (l:=l.map aY) (fun x hx=>by obtain⟨y,hy,rfl⟩:=bm.1 hx;exact vN (hv y hy)) (by rw[aC];exact hl)
 rwa[iV]at this
theorem vF (hq:q<(2^64)) {l:List Nat} (hv: ∀x∈l,x<q) (hl:l.length<1000000):aE 342 [N q, .sl (l.map cZ)] (.b true):=by
 have:=N9 (q:=aY q) (vN hq) (l:=l.map aY) (fun x hx=>by obtain⟨y,hy,rfl⟩:=bm.1 hx;exact⟨vN (by have:=hv y hy;omega),by rw[aQ,aQ];exact hv y hy⟩) (by rw[aC];exact hl)
 rwa[iV]at this
theorem C3 (hq:q<(2^64)) (hp:eY q=true) {xs ys:List Nat} (hl:ys.length=xs.length) (h256:xs.length<=256) (hx: ∀a∈xs,a<q) (hy: ∀a∈ys,a<q) (hxq:x<q) (hd:xs.Nodup):aE 222 [N q, .sl (xs.map cZ), .sl (ys.map cZ),N x] (E 0):=by
 have v1:aE 340 [.sl [N q,N x]] (.b true):=vG (l:=[q,x]) (by simp;omega) (by simp)
 have v2:=vG (l:=xs) (fun a h=>by have:=hx a h;omega) oO
 have v3:=vG (l:=ys) (fun a h=>by have:=hy a h;omega) oO
 have f:=Oa hq hp;have b1:aE 342 [N q, .sl [N x]] (.b true):=vF hq (l:=[x]) (by simpa using hxq) (by simp)
 have b2:=vF hq hx oO;have b3:=vF hq hy oO;obtain⟨n,hn⟩: ∃n,n=xs.length:=⟨_,rfl⟩;have lX:(xs.map cZ).length=n:=by rw[aC,hn]
 have lY:(ys.map cZ).length=n:=by rw[aC,hl,hn]
 have hne: ∀i j,i<n->j<i->(aY (xs.getD i 0)==aY (xs.getD j 0))=false:=fun i j hi hj=>by
  rw[we,aG];intro e;have h1:j<xs.length:=oO;have h2:i<xs.length:=oO;have:=(DW.1 hd) j i h1 h2 hj;rw[br,bw h2,br,bw h1]at e;exact this e.symm
 refine eW call222 func222 ?_;refine HI (aN @lX @lY) @v1 @v2 @v3 @f @b1 @b2 @b3 ?_;refine af (α:=Nat) (fun i=>n-i) (fun i=>⟨[(1, .v (.sl (xs.map cZ))),(10,E' i)],[],_⟩) (fun i=>i<=n) 0 (fun _=>aA _) (aI _) ?_ ?_
 ·exact lE
 ·intro i hi R hR
  by_cases hlt:i<n
  ·have hgo:=hR (i+1) oO oO;have e1:=pf xs (i:=i) oO;have hne:=hne i;generalize xs.getD i 0=xi at*;clear hR v1 v2 v3 f b1 b2 b3;refine dH @lX ?_;refine af (α:=Nat) (fun j=>i-j) (fun j=>⟨[(1, .v (.sl (xs.map cZ))),(10,E' i),(11,E' j)],[],_⟩) (fun j=>j<=i) 0 (fun _=>aA _) (aI _) ?_ ?_
   ·exact lE
   ·intro j hj R hR
    by_cases hlt:j<i
    ·have hg2:=hR (j+1) oO oO;have e2:=pf xs (i:=j) oO;have hne:=hne j oO hlt;generalize xs.getD j 0=xj at*;clear hR hgo;exact jN (aN @lX (aN @e1 (aN @e2 @hne))) @hg2
    ·obtain rfl:j=i:=oO;clear hR;exact jN @lX @hgo
  ·obtain rfl:i=n:=oO;exact gi @lX
theorem wD {m:Bytes} (lm:m.length<=8) (lo:o.length<=8) (g y:Bytes):aE 79 [SK m o g y] (E (nO m o g y)):=by
 have v1:=aK m;have v2:=aK o;have v3:=aK g;have v4:=aK y;have h2:=jT lm lo;have h3:=BP lm lo g;have h4:=BP lm lo y;unfold nO;simp only[List.all_cons,List.all_nil,jK];generalize Hr m o g=b3 at*;generalize Hr m o y=b4 at*;generalize aa m=c1 at*;generalize aa o=c2 at*;generalize aa g=c3 at*;generalize aa y=c4 at*;cases c1
 ·refine eW call79 func79 ?_;exact WC @v1
 cases c2
 ·refine eW call79 func79 ?_;exact Ps @v1 @v2
 cases c3
 ·refine eW call79 func79 ?_;exact Zi @v1 @v2 @v3
 cases c4
 ·refine eW call79 func79 ?_;exact Y7 @v1 @v2 @v3 @v4
 simp only[dt,bV,bu,aq]
 by_cases h0:gE m o=0
 ·rw[h0]at h2⊢;generalize (o==([]:Bytes))=b2 at*
  cases b2<;>cases b3<;>cases b4
  all_goals simp only[bV,cv,dt,jK,ur,cr,dK]at h3 h4
  all_goals
   refine eW call79 func79 ?_;repeat' first|simp only[go_sem,seval,fY,eF]|refine cP v1 ?_|refine cP v2 ?_|refine cP v3 ?_|refine cP v4 ?_|(refine ai ?_)|refine cP h2 ?_|refine cP h3 ?_|refine cP h4 ?_|refine oE ?_|apply xX<;>intro hc
   all_goals rfl
 ·rw[ah h0];generalize gE m o=e at*;refine eW call79 func79 ?_;exact zu5 @v1 @v2 @v3 @v4 @h2
noncomputable def UN (name m o base:Bytes) (need count:Int) (vs:List Bytes) (sd:Bytes) (a:Int):Except Int (Nat×List Nat×Nat):=
 if !([m,o,base].all aa)|| !fQ vs a then .error 3 else if !mi name then .error 1
 else match FH m o base vs sd a with
  | .error e=> .error e
  | .ok (y,x,i)=>match AQ (num o) x need count vs sd i with
   | .error e=> .error e
   | .ok (ls,j)=> .ok (y,ls,j)
def RC (m base:Nat) (ls:List Nat):List Nat:=ls.map fun s=>base^s%m
def EB (name m o base:Bytes) (need:Int) (vs:List Bytes) (sd:Bytes):Except Int (Nat×List Nat×Nat)->PV
 | .ok (y,ls,j)=> .tup [.agg [.s name, .s m, .s o, .s base,N y,E need, .sl ((RC (num m) (num base) ls).map cZ)], .sl (ls.map cZ),T vs sd (j:Nat),E 0]
 | .error e=> .tup [CK0, .sl [],T [] [] 0,E e]
theorem OI {m o base:Bytes} (h:FH m o base vs sd a= .error e):e≠0:=by
 unfold FH at h
 split at h
 ·injection h with h;omega
 ·split at h
  ·rename_i h1;injection h with h;rw[<-h];exact h1
  ·split at h
   ·injection h with h;omega
   ·split at h
    ·rename_i e' he;injection h with h;have:=Ev he;omega
    ·split at h
     ·injection h with h;omega
     ·cases h
structure Zx (m o base:Bytes) (vs:List Bytes) (a:Int) (y x i:Nat):Prop where
 vb:aa base=true
 e:gE m o=0
 o0:o≠[]
 gp:GP m o (num base)
 g1:base≠[1]
 hv:vs.all aa=true
 x0:1<=x
 xq:x<num o
 ye:y=num base^x%num m
 y1:y≠1
 ib:i<=2147483647
theorem Si {m o base:Bytes} {y:Nat} (lo:o.length<=8) (hl:vs.length<1000000) (h:FH m o base vs sd a= .ok (y,x,i)):Zx m o base vs a y x i:=by
 unfold FH at h
 split at h
 ·cases h
 ·rename_i h1
  split at h
  ·cases h
  ·rename_i h2
   split at h
   ·cases h
   ·rename_i h3;have h0:gE m o=0:=by simpa using h2
    simp only[qX,fJ,not_or,DT]at h1 h3;have ho:o≠[]:=by simpa using h3.1
    obtain⟨-,-,-,-,hoq⟩:=jf h0;obtain⟨q1,-⟩:=hoq ho;have hqW:=eR lo;have hs:=h3.2;unfold Hr jb at hs;simp only[ba,fJ,fk]at hs;obtain⟨vb,gp⟩:=(ct h0).1 hs.1.2;obtain⟨hv,a0,a1⟩:=yU h1.2
    split at h
    ·cases h
    ·rename_i c hc;obtain⟨-,c2,c3⟩:=je hv (vN oO) hl oO hc;rw[aQ]at c2
     split at h
     ·cases h
     ·rename_i hy;simp only[xK,dR]at h;obtain⟨rfl,rfl,rfl⟩:=h;exact⟨vb,h0,ho,gp,hs.2,hv,oO,oO,rfl,hy,c3⟩
theorem OU (h:AQ q sec need count vs sd i= .error e):e≠0:=by
 unfold AQ at h
 split at h
 ·injection h with h;omega
 ·split at h
  ·injection h with h;omega
  ·split at h
   ·rename_i e' he;injection h with h;have:=vk he;omega
   ·cases h
theorem OV {ls:List Nat} {j:Nat} (h:AQ q sec need count vs sd i= .ok (ls,j)):1<=need/\need<=count/\count<=255/\count<q/\ls.length=count.toNat/\ ∃l,lU vs sd (aY q) (need-1).toNat i []= .ok l/\ls=wS q sec l count.toNat/\eY q=true:=by
 unfold AQ at h
 split at h
 ·cases h
 ·rename_i h1
  split at h
  ·cases h
  ·rename_i h2
   split at h
   ·cases h
   ·rename_i l hl;simp only[xK,dR]at h;obtain⟨rfl,rfl⟩:=h;exact⟨oO,oO,oO,oO,FP _ _ _ _,l,hl,rfl,by simpa using h1⟩
theorem Sl (h0:0<q) (l:List Bytes) (k:Nat): ∀s∈wS q sec l k,s<q:=fun s hs=>by
 obtain⟨j,-,rfl⟩:=bm.1 hs;have:=yW (q:=(q:Int)) oO ((j+1:Nat):Int) (nI (sec::l.map num));omega
theorem MP {name m o:Bytes} (ln:name.length<=60) (lm:m.length<=8) (lo:o.length<=8) (base:Bytes) (need:Int) (hc:count<=8\/count>255) (hl:vs.length<1000000) (hsd:sd.length<1000000):
  aE 19 [.s name,G m o, .s base,E need,E count,T vs sd a] (EB name m o base need vs sd (UN name m o base need count vs sd a)):=by
 have h1:=mE [m,o,base] (by simp)
 simp only[bC,bR]at h1;have h2:=Et vs sd a hl;have h3:=Eo name ln;have h4:=OS lm lo base (vs:=vs) (sd:=sd) (a:=a) hl hsd;have f3:=sW 3;have f1:=sW 1;unfold UN
 cases hb1:[m,o,base].all aa with
 |false=>
  rw[hb1]at h1;simp only[cv,pL,ax,EB];refine eW call19 func19 ?_;exact z2 @h1 @f3
 |true=>
 rw[hb1]at h1
 cases hg:fQ vs a with
 |false=>
  rw[hg]at h2;simp only[cv,xQ,ax,EB];refine eW call19 func19 ?_;exact z4 @h1 @h2 @f3 oT
 |true=>
 rw[hg]at h2;simp only[bV,uc,bu,aq]
 cases hn:mi name with
 |false=>
  rw[hn]at h3;simp only[cv,ax,EB];refine eW call19 func19 ?_;exact z4 @h1 @h2 @h3 @f1
 |true=>
 rw[hn]at h3;simp only[bV,bu,aq]
 cases hs:FH m o base vs sd a with
 |error e=>
  rw[hs]at h4;have he:=OI hs;have fe:=sW e;simp only[EB,Ac]at h4⊢;clear hs;refine eW call19 func19 ?_;exact z7 @h1 @h2 @h3 @h4 @fe oT oT
 |ok R=>
 obtain⟨y,x,i⟩:=R;rw[hs]at h4;obtain⟨vb,hE,ho,gp,-,hv,x0,xq,hy,-,hi⟩:=Si lo hl hs;obtain⟨vm,vo,m1,-,hoq⟩:=jf hE;have hqW:=eR lo;simp only[Ac]at h4⊢
 cases hp:AQ (num o) x need count vs sd i with
 |error e=>
  have h5:=Hw hqW oO xq hc hv hi hl hsd hp;rw[eH vo]at h5;have he:=OU hp;have fe:=sW e;simp only[EB];clear hs hp;refine eW call19 func19 ?_;exact z7 @h1 @h2 @h3 @h4 @h5 @fe oT
 |ok R=>
 obtain⟨ls,j⟩:=R;have h5:=FT hqW oO xq hc hv hi hl hsd hp;rw[eH vo]at h5;obtain⟨n1,n2,n3,n4,n5,l,-,hls,-⟩:=OV hp;have hlq: ∀s∈ls,s<num o:=by rw[hls];exact Sl oO l _
 obtain⟨n,hn0⟩: ∃n,n=ls.length:=⟨_,rfl⟩;have lP:ls.length=n:=hn0.symm;have hpos:0<n:=oO;simp only[EB];obtain⟨S,hS⟩: ∃S,S=RC (num m) (num base) ls:=⟨_,rfl⟩;have hSl:S.length=n:=by rw[hS,RC,aC,lP]
 have hSg: ∀k,k<n->S.getD k 0=num base^(ls.getD k 0)%num m:=fun k hk=>by
  rw[hS,RC,br,dG,bw oO,br,bw oO];rfl
 have hEx:=fun s (hsq:s<num o)=>lh lm lo (ng:=false) (e:=aY s) hE gp (vN oO) rfl
 rw[eH vb]at hEx;rw[<-hS];have k1:=dp hSl;have k2:=eQ S;have k3:=dJ hSl;have k4:(aD S).length=n:=by rw[bA,hSl]
 clear hs hp hls hS;refine eW call19 func19 ?_;refine HI @lP @h1 @h2 @h3 @h4 @h5 oT oT ?_;refine af (α:=Nat) (fun j=>n-j) (fun k=>match k with|0=>⟨[(2, .v (.s base)),(7, .p 1000 0 0),(11, .p 1001 0 0),(12, .p 1002 0 0),(14, .p 1004 0 0),(20, .v (.sl (ls.map cZ))),(21, .p 1059 0 0),(96, .v (.sl (ls.map cZ))),(97,E' n),(98, .v (.i .i64 0))],[(1000,⟨0,[.v (.s m), .v (.s o)],false,none⟩),(1001,⟨0,[.v (.sl (vs.map .s)), .v (.s sd), .v (.i .i64 (j:Nat))],false,none⟩),(1002,⟨0,[.v (.s []), .v (.s []), .v (.s []), .v (.s []), .v (.s []), .v (E 0), .sn],false,some 29⟩),(1004,⟨0,[.sn, .v (.s []), .v (.i .i64 0)],false,some 37⟩),(1059,⟨0,[.v (.s name), .v (.s m), .v (.s o), .v (.s base), .v (N y), .v (E need), .sn],false,some 29⟩)],1064⟩|k+1=>⟨[(2, .v (.s base)),(7, .p 1000 0 0),(11, .p 1001 0 0),(12, .p 1002 0 0),(14, .p 1004 0 0),(20, .v (.sl (ls.map cZ))),(21, .p 1059 0 0),(96, .v (.sl (ls.map cZ))),(97,E' n),(98,E' (k+1))],[(1000,⟨0,[.v (.s m), .v (.s o)],false,none⟩),(1001,⟨0,[.v (.sl (vs.map .s)), .v (.s sd), .v (.i .i64 (j:Nat))],false,none⟩),(1002,⟨0,[.v (.s []), .v (.s []), .v (.s []), .v (.s []), .v (.s []), .v (E 0), .sn],false,some 29⟩),(1004,⟨0,[.sn, .v (.s []), .v (.i .i64 0)],false,some 37⟩),(1059,⟨0,[.v (.s name), .v (.s m), .v (.s o), .v (.s base), .v (N y), .v (E need), .rs 1084 k 0 (k+1) 1],false,some 29⟩),(1084,⟨k,aD (S.take (k+1)),true,some 22⟩)],1089⟩) (fun k=>k<=n) 0 (fun k=>by cases k<;>exact bQ rfl) (aI _) ?_ ?_
 ·show AS.Le _ _;exact lE
 ·intro k hk R hR
  cases k with
  |zero=>
   have hgo:=hR 1 oO oO;simp only[cF 0 (show 0<S.length by omega),List.take_zero,List.nil_append,hSg 0 hpos]at hgo
   have e1:=pf ls (i:=0) oO;have hsq:=hlq _ (an 0 (show 0<ls.length by omega))
   generalize ls.getD 0 0=s0 at*;have hf:=qD (a:=aY s0) (vN oO);have hx:aE 29 [G m o, .s base, .agg [.b false, .s (aY s0)]] (.tup [N (num base^s0%num m),E 0]):=by
    have:=hEx s0 hsq;rw[aQ]at this;exact this
   generalize num base^s0%num m=v at*;simp only[show aD [v]=[AV.v (N v)]from rfl]at hgo
   clear hR hEx hSg hlq h1 h2 h3 h4 h5;exact vY (aN @lP @e1) @hgo @hf @hx
  |succ k=>
   have hlm:(S.take (k+1)).length=k+1:=by rw[bL];omega
   have g1:=dp hlm;have g2:(aD (S.take (k+1))).length=k+1:=by rw[bA,hlm]
   by_cases hlt:k+1<n
   ·have hgo:=hR (k+2) oO oO;simp only[cF 0 (show k+1<S.length by omega),lV,hSg (k+1) hlt]at hgo
    have e1:=pf ls (i:=k+1) oO;have hsq:=hlq _ (an 0 (show k+1<ls.length by omega))
    generalize ls.getD (k+1) 0=s0 at*;have hf:=qD (a:=aY s0) (vN oO);have hx:aE 29 [G m o, .s base, .agg [.b false, .s (aY s0)]] (.tup [N (num base^s0%num m),E 0]):=by
     have:=hEx s0 hsq;rw[aQ]at this;exact this
    generalize num base^s0%num m=v at*;clear hR hEx hSg hlq h1 h2 h3 h4 h5;refine qC (aN @lP (aN @e1 (aN @g1 @g2))) @hf @hx ?_;refine hgo _ ?_;refine lG ?_;all_goals exact fun c hc=>hc.elim (fun h=>dS h) (fun h=>by rw[h];rfl)
   ·obtain rfl:k+1=n:=oO;simp only[cl (show S.length<=k+1 by omega)]at g1 g2⊢
    clear hR hEx hSg hlq h1 h2 h3 h4 h5;exact gi (aN @lP (aN @k1 (aN @k2 (aN @k3 (aN @k4 @dE)))))
