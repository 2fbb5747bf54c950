/-
  Part of the proof, part FA44. Own work.
-/
import Derived.Test.YtfdjchnefpefbaaGreatDoorFA43
import Derived.Test.YtfdjchnefpefbaaGreatDoorFA42
set_option linter.all false
namespace Go.Proofs.YtfdjchnefpefbaaGreatDoor
open Go Go.Dom Go.Num
set_option maxRecDepth 100000
set_option maxHeartbeats 16000000
structure Vp (c:CK):Prop where
 e:gE c.m c.o=0
 o0:c.o≠[]
 p:du (num c.o)=true
 vg:aa c.g=true
 gg:GP c.m c.o (num c.g)
 vy:aa c.y=true
 gy:GP c.m c.o (num c.y)
 hs: ∀x∈c.sh,aa x=true/\GP c.m c.o (num x)
 n1:1<=c.need
 n2:c.need<=c.sh.length
 nq:c.sh.length<num c.o
 Zs:uL c=true
theorem xd {c:CK} (h:k9 c=0):Vp c:=by
 unfold k9 at h
 split at h
 ·cases h
 rename_i h1
 split at h
 ·cases h
 split at h
 ·rename_i h3;exact absurd h h3
 rename_i h3
 split at h
 ·cases h
 rename_i h4
 split at h
 ·cases h
 rename_i h5
 split at h
 ·cases h
 rename_i h6
 split at h
 case isFalse=>cases h
 rename_i h7;obtain⟨hE,ho,vg,gg,-,vy,gy,-⟩:=vG (by simpa using h3)
 refine⟨hE,ho,by simpa using h4,vg,gg,vy,gy,fun x hx=> ?_,by omega,by omega,by omega,h7⟩
 have h8:c.sh.all (lj c.m c.o)=true:=by simpa using h6
 have:=bz.1 h8 x hx;unfold lj at this;rw[aY]at this;exact(cL hE).1 this.2
theorem Tj {m o x:Bytes} (hE:gE m o=0) (vx:aa x=true) (hx:GP m o (num x)):lj m o x=true:=by
 unfold lj;rw[hE,(cL hE).2 ⟨vx,hx⟩];rfl
theorem Ij {c:CK} (k:Vp c) (lo:c.o.length<=8):qU c.o [2]:=by
 obtain⟨-,vo,-,-,hq⟩:=kp k.e;have:=(hq k.o0).1;exact⟨vo,rfl,lo,by decide,by omega,by decide⟩
theorem C2 {c:CK} (k:Vp c) (lm:c.m.length<=8) (lo:c.o.length<=8) {i:Nat} {a d:Bytes} (hi:jc c.m c.o (c.sh.getD (i-1) [])=true) (ha:jc c.m c.o a=true) (hd:jc c.m c.o d=true):Gg c.o [2] (ek c i a d):=by
 have hg:jc c.m c.o c.g=true:=(cL k.e).2 ⟨k.vg,k.gg⟩;have ho:=k.o0;have hor:bT [(c.m,c.o)]=c.o:=by simp[bT,ho]
 refine⟨Ij k lo,⟨⟨?_,?_,?_,?_,?_,?_⟩,?_,?_,?_,?_,?_,?_,?_⟩,?_⟩
 ·intro p hp;simp only[ek,dr]at hp;subst hp;exact⟨lm,lo⟩
 ·intro b hb;simp only[ek,dr]at hb;subst hb;decide
 ·intro q hq;simp only[ek,bL,iy,or_false]at hq;rcases hq with rfl|rfl<;>simp[zm]
 ·simp[ek]
 ·simp[ek]
 ·simp[ek]
 ·intro p hp;simp only[ek,dr]at hp;subst hp;exact⟨k.e,lm,lo⟩
 ·intro b hb;simp only[ek,dr]at hb;subst hb;exact⟨rfl,by decide⟩
 ·intro q hq;simp only[ek,bL,iy,or_false]at hq;rcases hq with rfl|rfl
  ·refine⟨mC _,by simp[ek],hi,by simp,fun t ht=> ?_⟩
   simp only[dr]at ht;subst ht;exact⟨by simp[zm],by simp[zm,ek],hg,rfl⟩
  ·refine⟨mC _,by simp[ek],hd,by simp,fun t ht=> ?_⟩
   simp only[dr]at ht;subst ht;exact⟨by simp[zm],by simp[zm,ek],ha,rfl⟩
 ·simp[ek]
 ·simp[ek]
 ·simp[ek]
 ·simp[E7,ek,hor,L6,Kk,ho]
 ·intro b hb _;show num c.o<=num (bT [(c.m,c.o)]);rw[hor];exact an _
theorem CZ (c:CK) (lm:c.m.length<=8) (lo:c.o.length<=8) {i:Nat} {a d:Bytes} (lg:c.g.length<=128) (li:(c.sh.getD (i-1) []).length<=128) (la:a.length<=128) (ld:d.length<=128):Vn (ek c i a d):=by
 refine⟨⟨c.m,c.o,rfl,by omega,by omega⟩,by simp[ek],by simp[ek],fun b hb=> ?_,by simp[ek],fun q hq=> ?_⟩
 ·simp only[ek,dr]at hb;subst hb;decide
 ·simp only[ek,bL,iy,or_false]at hq;rcases hq with rfl|rfl
  ·refine⟨mC _,by simp,by show(c.sh.getD (i-1) []).length<=1000;omega,by simp,fun t ht=> ?_⟩
   simp only[dr]at ht;subst ht;exact⟨by simp[zm],by simp[zm],by show c.g.length<=1000;omega,by simp[zm]⟩
  ·refine⟨mC _,by simp,by show d.length<=1000;omega,by simp,fun t ht=> ?_⟩
   simp only[dr]at ht;subst ht;exact⟨by simp[zm],by simp[zm],by show a.length<=1000;omega,by simp[zm]⟩
theorem OX (c:CK) {i:Nat} {a d:Bytes} {x:Nat} (hx:x<18446744073709551616):WS (ek c i a d) [(x:Int)]:=by
 have hL:=nP;intro q hq;simp only[ek,bL,iy,or_false]at hq;rcases hq with rfl|rfl
 all_goals
  intro t ht;simp only[dr]at ht;subst ht;refine⟨by simp[zm],by simp[zm],rfl,?_,?_⟩
  ·show((x:Int)).natAbs<dw;omega
  ·show(1:Nat)*((x:Int)).natAbs<dw;omega
abbrev XQ (a b:Bytes):PV:= .agg [.s a, .s b]
def UM (i d:Nat) (vs:List Bytes) (sd:Bytes):Except Int (Bytes×List Int×Nat)->PV
 | .ok (ch,rs,j)=> .tup [.agg [E i,N d, .s ch, .sl (rs.map Zp), .sl [], .sl []],T vs sd (j:Nat),E 0]
 | .error e=> .tup [.agg [E 0, .s [], .s [], .sl [], .sl [], .sl []],T [] [] 0,E e]
theorem zI (c:CK) (ln:c.name.length<=60) (lm:c.m.length<=8) (lo:c.o.length<=8) (ls:c.sh.length<=8) (hc:k9 c=0) {i:Nat} (h1:1<=i) (hi:i<=c.sh.length) {x A B:Bytes} {vs:List Bytes} {sd:Bytes} {a:Int} (hl:vs.length<1000000) (hsd:sd.length<1000000)
  (hv:[x,A,B].all aa=true) (hg:eD vs a=true) (hA:lj c.m c.o A=true) (hB:lj c.m c.o B=true) (hx:num x<num c.o) (hy:num c.g^num x%num c.m=num (c.sh.getD (i-1) [])) {d:Nat} (hd:d=num A^num x%num c.m) {R:Except Int (Bytes×List Int×Nat)} (hp:Bw c.o [2] (pR c i) (ek c i A (aO d)) [(num x:Int)] vs sd a=R) (h0: ∀e,R= .error e->e≠0):
  aA Tryz.prog 16 [c.pv,E i, .s x,XQ A B,T vs sd a] (UM i d vs sd R):=by
 have k:=xd hc;have v1:=zG c ln lm lo ls;rw[hc]at v1;have v2:=mV [x,A,B] (by simp)
 rw[hv]at v2;simp only[aS,bH]at v2;have v3:=C3 vs sd a hl;rw[hg]at v3;have v4:=Gt c lm lo oO i (xs:=[A,B]) (by simp)
 have e4:IC c (i:Nat) [A,B]=0:=by
  unfold IC;rw[if_neg oO];simp[hA,hB]
 rw[e4]at v4;simp only[aS,bH]at v4;simp only[List.all_cons,List.all_nil,pN,aY]at hv;obtain⟨vx,vA,vB⟩:=hv;obtain⟨vm,vo,m1,-,-⟩:=kp k.e;have hqW:=dY lo;have hmW:=dY lm;have hW:=jV;have v5:=pc vx;have hAg:jc c.m c.o A=true:=by unfold lj at hA;rw[aY]at hA;exact hA.2
 obtain⟨-,gA⟩:=(cL k.e).1 hAg;have v6:=jX lm lo (ng:=false) k.e k.gg vx rfl;rw[eV k.vg,show cR (num c.m) (num c.g) false (num x)=num c.g^num x%num c.m from rfl,hy]at v6
 have hj:=az ([]:Bytes) (show i-1<c.sh.length by omega)
 obtain⟨vj,gj⟩:=k.hs _ hj;rw[eV vj]at v6;have v7:=jX lm lo (ng:=false) k.e gA vx rfl;rw[eV vA,show cR (num c.m) (num A) false (num x)=num A^num x%num c.m from rfl,<-hd]at v7
 have hdl:d<num c.m:=by rw[hd];exact aD _ oO
 have vd:aa (aO d)=true:=vN oO;have gd:jc c.m c.o (aO d)=true:=(cL k.e).2 ⟨vd,by rw[aG,hd];exact gA.pow _⟩
 have v8:=CY c;have v9:=Gr c oO (i:=i) oO;have w1:=Gy c h1 hi oO A (aO d);have hS:=C2 k lm lo (i:=i) (a:=A) (d:=aO d) ((cL k.e).2 ⟨vj,gj⟩) hAg gd;have hB2:=CZ c lm lo (i:=i) (a:=A) (d:=aO d) (cE k.vg) (cE vj) (cE vA) (cE vd);have hxl:(pR c i).length<=100000:=by
  have: ∀i,i<100->(Lib.decDigits i).length<=2:=by decide+kernel
  have:=this i oO;simp[pR];omega
 have w2:=JW hS hB2 (by simp[ek]) rfl hxl (w:=[(num x:Int)]) (by simp) (fun z hz=>by simp at hz;subst hz;have:=Dw (o:=x);have:=nP;omega) (fun _=>OX c oO) (vs:=vs) (sd:=sd) (a:=a) hl hsd
 rw[hp]at w2;simp only[aS,bH]at w2;rw[show Zp (num x:Int)= .agg [.b false, .s x] by show eC (lO (num x:Int))= _;rw[Bf vx];rfl]at w2
 obtain⟨r,rfl⟩: ∃r,i=r+1:=⟨i-1,by omega⟩
 rw[j8]at v6 hy vj;have e1:=eX (l:=c.sh) (x:=r) oO;have l1:(c.sh.map PV.s).length=c.sh.length:=aE ..;have hw: ∀ _:True,IntKind.i64.wrap (((r+1:Nat):Int)-1)=(r:Int):=fun _=>by rw[IntWalk.i64_in _ oO];omega
 have c1:=ri vx vo;have hcg:=Po (num x) (num c.o);rw[decide_eq_true hx]at hcg;have hrl:r<c.sh.length:=by omega
 generalize aU (num x) (num c.o)=cm at*;generalize c.sh.getD r []=y at*;generalize pR c (r+1)=cx at*;generalize ek c (r+1) A (aO d)=S at*;clear hp hS hB2 k hy hd hc hj;obtain⟨sg,sv,se⟩:=S;obtain⟨name,m,o,g,yy,need,sh⟩:=c;simp only[CK.pv,dJ.pv]at*;rcases R with e|⟨ch,rs,j⟩
 all_goals
  first|have h0:=h0 _ rfl|skip
  simp only[Wg,UM]at w2⊢;refine eW Tryz.call16 Tryz.func16 ?_;repeat' first|simp only[go_sem,seval,l1,e1,hw trivial,hcg,beq_self_eq_true,bne_self_eq_false]|refine cP v1 ?_|refine cP v2 ?_|refine cP v3 ?_|refine cP v4 ?_|refine cP v5 ?_|refine cP v6 ?_|refine cP v7 ?_|refine cP c1 ?_|refine cP v8 ?_|refine cP v9 ?_|refine cP w1 ?_|refine cP w2 ?_|refine sB ?_|apply xX<;>intro hc|refine⟨oD,?_⟩|exact oD|fail
  all_goals rfl
theorem Gq (c:CK) (ln:c.name.length<=60) (lm:c.m.length<=8) (lo:c.o.length<=8) (ls:c.sh.length<=8) (k:Vp c) {i:Nat} (h1:1<=i) (hi:i<=c.sh.length) {A B d:Bytes} (hv:[A,B,d].all aa=true) (hA:lj c.m c.o A=true) (hB:lj c.m c.o B=true) (hd:lj c.m c.o d=true) {ch:Bytes} {rs:List (Bool×Bytes)} {gs:List Bytes} {ls':List (List (Bool×Bytes))} (n1:rs.length<1000000) (n2:gs.length<=1000) (n3:ls'.length<=1000) (n4: ∀l∈ls',l.length<4611686018427387904):
  aA Tryz.prog 58 [c.pv,XQ A B, .agg [E i, .s d, .s ch, .sl (rs.map eC), .sl (gs.map .s), .sl (ls'.map G4)]] (E (BT c.o [2] (pR c i) (ek c i A d) ch rs gs ls')):=by
 have v2:=mV [A,B,d] (by simp)
 rw[hv]at v2;simp only[aS,bH]at v2;have v4:=Gt c lm lo oO i (xs:=[A,B,d]) (by simp)
 have e4:IC c (i:Nat) [A,B,d]=0:=by
  unfold IC;rw[if_neg oO];simp[hA,hB,hd]
 rw[e4]at v4;simp only[aS,bH]at v4;simp only[List.all_cons,List.all_nil,pN,aY]at hv;obtain⟨vA,vB,vd⟩:=hv;have hAg:jc c.m c.o A=true:=by unfold lj at hA;rw[aY]at hA;exact hA.2
 have hdg:jc c.m c.o d=true:=by unfold lj at hd;rw[aY]at hd;exact hd.2
 have hj:=az ([]:Bytes) (show i-1<c.sh.length by omega)
 obtain⟨vj,gj⟩:=k.hs _ hj;have v8:=CY c;have v9:=Gr c oO (i:=i) oO;have w1:=Gy c h1 hi oO A d;have hS:=C2 k lm lo (i:=i) (a:=A) (d:=d) ((cL k.e).2 ⟨vj,gj⟩) hAg hdg;have hB2:=CZ c lm lo (i:=i) (a:=A) (d:=d) (cE k.vg) (cE vj) (cE vA) (cE vd);have hxl:(pR c i).length<=100000:=by
  have: ∀i,i<100->(Lib.decDigits i).length<=2:=by decide+kernel
  have:=this i oO;simp[pR];omega
 have w2:=La hS hB2 (by simp[ek]) hxl (ch:=ch) (rs:=rs) (gs:=gs) (ls:=ls') n1 n2 n3 n4
 generalize BT c.o [2] (pR c i) (ek c i A d) ch rs gs ls'=E0 at*;generalize pR c i=cx at*;generalize ek c i A d=S at*;clear hS hB2 k hj;obtain⟨sg,sv,se⟩:=S;obtain⟨name,m,o,g,yy,need,sh⟩:=c;simp only[CK.pv,dJ.pv,Js]at*;refine eW Tryz.call58 Tryz.func58 ?_;exact z6 @v2 @v4 @v8 @v9 @w1 @w2
theorem Ab (m x:Nat) (z:Int):cR m x (lO z).1 (num (lO z).2)=dU m x z:=by
 simp only[lO,Bq,zs];rfl
theorem I8 (m x z:Nat):cR m x (!(aO z==[])) (num (aO z))=dU m x (-(z:Int)):=by
 have e:(!(aO z==([]:Bytes)))=decide (-(z:Int)<0):=by
  rw[dE];simp[fW];omega
 rw[e,aG];unfold dU;congr 1;omega
theorem BQ {c sl ctx:Bytes} {s:dJ} {w:List Int} {vs:List Bytes} {sd:Bytes} {ch:Bytes} {rs:List Int} {j:Nat}: ∀{n i:Nat},BP c sl ctx s w vs sd n i= .ok (ch,rs,j)-> ∃i' ms z,mK (bT s.groups) c sl vs sd s.vars i' []= .ok ms/\z=kC (GN ctx s (xy s ms)) c/\ch=aO z/\rs=fM (bT s.groups) s.vars ms w z
 |0,i,h=>by cases h
 |n+1,i,h=>by
  rw[BP]at h
  split at h
  ·cases h
  ·rename_i ms hms
   split at h
   ·simp only[sA,cO]at h;obtain⟨rfl,rfl,-⟩:=h;exact⟨i,ms,_,hms,rfl,rfl,rfl⟩
   ·exact BQ h
theorem DI {c sl ctx:Bytes} {s:dJ} {w:List Int} {vs:List Bytes} {sd:Bytes} {a:Int} {R:Bytes×List Int×Nat} (h:Bw c sl ctx s w vs sd a= .ok R):BP c sl ctx s w vs sd 64 a.toNat= .ok R:=by
 unfold Bw at h
 split at h
 ·cases h
 ·exact h
theorem Rt {m o x y z b t:Nat} (hm:0<m) (hu:dc m b) (ho:b^o%m=1%m) (ht:b^x%m=t):dU m t (-(z:Int))*dU m b (((y:Int)+z*x)%o)%m=dU m b y:=by
 have h1:dU m b (((y:Int)+z*x)%o)=dU m b ((y:Int)+z*x):=ya hu hm ho (by
  refine⟨-(((y:Int)+z*x)/o),?_⟩;have:=Int.mul_ediv_add_emod ((y:Int)+z*x) o
  grind)
 rw[h1,<-ht,show((z:Int)*(x:Int))=((z*x:Nat):Int)from(Int.natCast_mul _ _).symm]
 exact DS hu hm _ _ _
theorem KN {c:CK} (k:Vp c) (lo:c.o.length<=8) {i:Nat} {A d ctx:Bytes} (gA:GP c.m c.o (num A)) {x:Nat} (h1:num c.g^x%num c.m=num (c.sh.getD (i-1) [])) (h2:num A^x%num c.m=num d) {vs:List Bytes} {sd:Bytes} {a:Int} {ch:Bytes} {rs:List Int} {j:Nat} (h:Bw c.o [2] ctx (ek c i A d) [(x:Int)] vs sd a= .ok (ch,rs,j)):BT c.o [2] ctx (ek c i A d) ch (rs.map lO) [] []=0:=by
 obtain⟨i',ms,z,hms,hz,rfl,rfl⟩:=BQ (DI h);have hor:bT (ek c i A d).groups=c.o:=by simp[ek,bT,k.o0]
 have hvr:(ek c i A d).vars=[[]]:=rfl;rw[hor,hvr]at hms;rw[hor,hvr];simp only[mK,mX,if_true,List.nil_append]at hms;obtain⟨vm,vo,m1,-,hq⟩:=kp k.e;have q1:=(hq k.o0).1
 split at hms
 ·cases hms
 rename_i yz hyz
 split at hyz
 ·cases hyz
 rename_i yb hyb;injection hyz with hyz
 injection hms with hms
 subst hyz;subst hms;obtain⟨y,hy⟩: ∃y,y=num yb:=⟨_,rfl⟩;rw[<-hy]at hz⊢;have hzc:z<num c.o:=by rw[hz];exact As _ oO
 have hr0:fM c.o [[]] [(y:Int)] [(x:Int)] z=[((y:Int)+z*x)%num c.o]:=by simp[fM,gT]
 rw[hr0];have hr1:0<=((y:Int)+z*x)%num c.o:=fS _ oO;have hr2:((y:Int)+z*x)%num c.o<num c.o:=gZ _ oO;have go: ∀b,GP c.m c.o b->b^num c.o%num c.m=1%num c.m:=fun b hb=>hb.ord.resolve_left k.o0
 have hfm:uO (ek c i A d) (aO z) ([((y:Int)+z*x)%num c.o].map lO)=xy (ek c i A d) [(y:Int)]:=by
  have e1:=Rt (o:=num c.o) (x:=x) (y:=y) (z:=z) oO k.gg.unit (go _ k.gg) h1;have e2:=Rt (o:=num c.o) (x:=x) (y:=y) (z:=z) oO gA.unit (go _ gA) h2;have p1: ∀b,GP c.m c.o b->cR (num c.m) b false (num [1])=b:=fun b hb=>by
   show b^(num [1])%num c.m=b;rw[show num ([1]:Bytes)=1 from rfl,wA,aV hb.lt]
  have t1: ∀b:Bytes,tz [(y:Int)] (zm b 0)=y:=fun b=>by simp[tz,zm,HP,num]
  simp only[uO,xy,ek,aS,bH,mJ,Tm,List.foldl_cons,List.foldl_nil,uQ,zm,show((0:Int)).toNat=0 from rfl,Int.toNat_natCast,fw,I8,p1 _ k.gg,p1 _ gA,Ab,e1,e2]
  simp only[show∀b,tz [(y:Int)] ⟨b,((0:Nat):Int),false,[1]⟩=y from fun b=>t1 b,Hh,Ab]
 obtain⟨r,hr⟩: ∃r:Nat,((y:Int)+z*x)%num c.o=r:=⟨_,(gV hr1).symm⟩;rw[hr]at hfm hr2⊢;have hqW:=dY lo;have iz:lO (r:Int)=(false,aO r):=by
  have:=Bf (x:=aO r) (vN oO)
  rwa[aG]at this
 have a1:aa (aO z)=true:=vN oO;have a2:aa (aO r)=true:=vN oO;simp only[aS,bH,iz]at hfm⊢;have f1:ju c.o (ek c i A d).vars.length (aO z) [(false,aO r)] [] []=0:=by
  unfold ju;rw[a1,if_neg (by simp[c9,a2]),if_neg (by simp[ek]),if_neg (by rw[aG];omega)]
 have f2:gW (bT (ek c i A d).groups) c.o [2] (ek c i A d).vars (aO z) [(false,aO r)]=0:=by
  rw[hor,hvr];have f3:Fj c.o c.o [2] [[]] [(false,aO r)]=true:=zY fun q hq=>by
   have:q=0:=by simp at hq;omega
   subst this;simp[Az,lR,aG];omega
  unfold gW;rw[a1,f3,if_neg (by simp[c9,a2]),if_neg (by rw[aG];omega),if_neg (by simp),if_neg (by simp)]
 unfold BT;rw[if_neg (by rw[f1];simp),if_neg (by rw[f2];simp),hfm,<-hz,if_pos rfl]
end Go.Proofs.YtfdjchnefpefbaaGreatDoor
namespace Go.Proofs.YtfdjchnefpefbaaGreatDoor
open Go Go.Dom Go.Num
set_option maxRecDepth 100000
noncomputable def Vb (q:Nat) (pts:List Nat) (k:Nat):Int:=(ew (yu q (pts.getD k 0:Nat) ((nI pts).eraseIdx k)).toNat q:Nat)
theorem LG {q:Nat} (hp:du q=true) {pts:List Nat} (hd:pts.Nodup) (hb: ∀a∈pts,a<=8/\a<q) {k:Nat} (hk:k<pts.length):Cg q (Vb q pts k*Bv ((nI pts).eraseIdx k) ((nI pts).getD k 0)) 1:=by
 have h2:=Bh hp;have hg:=HC hp hd hb hk;have hu:=(gF oO hg).inv.2;have h5:=yv (q:=(q:Int)) oO (pts.getD k 0:Nat) ((nI pts).eraseIdx k);have hs:=Nb (q:Int) (pts.getD k 0:Nat) ((nI pts).eraseIdx k);unfold Vb;rw[pw];obtain⟨s,hs0⟩: ∃s:Nat,yu q (pts.getD k 0:Nat) ((nI pts).eraseIdx k)=s:=⟨_,(gV h5.1).symm⟩;rw[hs0]at hs hu⊢;rw[Int.toNat_natCast]at hu⊢;generalize ew s q=i at*;refine((Cg.iI (i:Int)).mul hs.symm).trans ?_;have h1:Cg q (((s*i%q:Nat):Int)) ((s*i:Nat):Int):=by rw[Int.natCast_emod];exact Cg.emod _ _
 have h3:Cg q (((1%q:Nat):Int)) ((1:Nat):Int):=by rw[Int.natCast_emod];exact Cg.emod _ _
 rw[hu]at h1;rw[<-Int.natCast_mul,bc i s];exact h1.symm.trans h3
theorem V9 {q:Int} {l:List Int} (h: ∀x∈l,0<=x/\x<q):nI (tN l)=l:=by
 unfold nI tN;rw[iQ]
 conv=>rhs;rw[<-List.map_id l]
 exact ir fun x hx=>gV (h x hx).1
theorem QK {q:Int} (hq:0<q) (l:List Int) (f:Nat->Int): ∀x∈qJ q l f,0<=x/\x<q:=fun x hx=>by
 obtain⟨j,-,rfl⟩:=bw.1 hx;exact tc hq _ _ _ _
theorem Nz {n i k:Nat} (hk:k<n):(uv n i).getD k 0=if k=i then 1 else 0:=by
 unfold uv;rw[aR,pF]
 by_cases e:i=k
 ·subst e;simp[hk]
 ·rw[if_neg e,if_neg (fun h=>e h.symm),Cw,if_pos hk];rfl
theorem GY {q:Nat} (hp:du q=true) (pts:List Nat) (x:Nat) {i:Nat} (hi:i<pts.length):Cg q (mZ q pts x i:Nat) (Vc (nI pts) (Vb q pts) i (x:Int)):=by
 have h2:=Bh hp;have hl:nI (uX q pts (uv pts.length i))=qJ q (nI pts) (fN q pts (uv pts.length i)):=V9 (QK (q:=(q:Int)) oO _ _);have hb:=tD (q:=(q:Int)) oO (x:Int) (qJ q (nI pts) (fN q pts (uv pts.length i)));unfold mZ IE;rw[hl,gV hb.1];refine Jz (by rw[lr];exact hi) ?_ (fun k hk hn=> ?_) _
 ·unfold fN Vb;rw[Nz hi,if_pos rfl,ia,Int.natCast_emod];exact Cg.emod _ _
 ·rw[lr]at hk;unfold fN;rw[Nz hk,if_neg hn,mA,Nat.zero_mod];exact Cg.iI _
theorem AD (m q:Nat) (pts pS:List Nat) (x:Nat) (hl:pS.length=pts.length):JN m q pts pS x=yS m ((List.range pts.length).map fun k=>(pS.getD k 0,((mZ q pts x k:Nat):Int))):=by
 unfold JN uP;rw[<-P5 _ (fun p=>(p.1,(decide (p.2<0),aO p.2.natAbs))) fun _=>rfl,iQ]
 congr 1;refine sL fun t=> ?_
 by_cases ht:t<pts.length
 ·rw[dt,jS ht,(Cb (z:=(pS[t]'oO,(false,aO (mZ q pts x t))))).2 ⟨bJ oO,by rw[dt,jS ht];rfl⟩]
  simp[aR,bJ (show t<pS.length by omega)]
 ·rw[kd (by simp;omega),kd (by simp;omega)]
theorem Ov {m q g:Nat} (m0:0<m) (hg:dc m g) (ho:g^q%m=1%m) (hp:du q=true) {pts:List Nat} (hd:pts.Nodup) (hb: ∀a∈pts,a<=8/\a<q) {c:List Int} (hc:c.length<=pts.length) {pS:List Nat} (hl:pS.length=pts.length) (he: ∀k,k<pts.length->pS.getD k 0=dU m g (gR c (pts.getD k 0:Nat))) (x:Nat):JN m q pts pS x=dU m g (gR c (x:Int)):=by
 rw[AD m q pts pS x hl];have hn:=lr pts;have:=KJ (m:=m) (q:=q) (l:=nI pts) (w:=Vb q pts) hg m0 ho (AY hp hd hb) (fun i hi=>LG hp hd hb oO) (c:=c) oO (x:=x) (v:=fun k=>((mZ q pts x k:Nat):Int)) (fun i hi=>GY hp pts x oO) (e:=fun k=>gR c (pts.getD k 0:Nat)) (fun i hi=>by rw[pw];exact Cg.iI _)
 rw[hn]at this;rw[<-this];congr 1;exact ir fun k hk=>by rw[he k (cM.1 hk)]
structure Fc (C:CK) (c:List Int):Prop where
 e:gE C.m C.o=0
 o0:C.o≠[]
 p:du (num C.o)=true
 gg:GP C.m C.o (num C.g)
 n1:1<=C.need
 n2:C.need<=C.sh.length
 nq:C.sh.length<num C.o
 n8:C.sh.length<=8
 hc:c.length<=C.need.toNat
 he: ∀k:Nat,k<=C.sh.length->num ((C.y::C.sh).getD k [])=dU (num C.m) (num C.g) (gR c (k:Int))
theorem C7 (C:CK) {d:Nat} (h:1<=d):C.pS d=(C.y::C.sh).take d:=by
 obtain⟨n,rfl⟩: ∃n,d=n+1:=⟨d-1,by omega⟩
 rfl
theorem AT (C:CK) {d k:Nat} (hk:k<d) (hd:d<=C.sh.length+1):((C.pS d).map num).getD k 0=num ((C.y::C.sh).getD k []):=by
 rw[C7 C oO,aR,dt,eA,if_pos hk,aR,bJ (show k<(C.y::C.sh).length by rw[List.length_cons];omega)];rfl
theorem AU (C:CK) {d:Nat} (h:1<=d) (hd:d<=C.sh.length+1):((C.pS d).map num).length=d:=by
 rw[C7 C h,aE,bU,List.length_cons];omega
theorem BD {n q:Nat} (h8:n<=9) (hq:n<=q):(List.range n).Nodup/\ ∀a∈List.range n,a<=8/\a<q:=⟨B1,fun a ha=>by have:=cM.1 ha;omega⟩
theorem FF {n k:Nat} (h:k<n):(List.range n).getD k 0=k:=by rw[aR,jS h];rfl
theorem Fc.law {C:CK} {c:List Int} (h:Fc C c) (i:Nat):C.at i=dU (num C.m) (num C.g) (gR c (i:Int)):=by
 obtain⟨-,-,m1,-,-⟩:=kp h.e;have a1:=h.n1;have a2:=h.n2;have a3:=h.nq;have a4:=h.n8;obtain⟨r1,r2⟩:=BD (n:=C.need.toNat) (q:=num C.o) oO oO;unfold CK.at
 refine Ov oO h.gg.unit (h.gg.ord.resolve_left h.o0) h.p r1 r2 (by rw[iN];exact h.hc) (by rw[iN];exact AU C oO oO) (fun k hk=> ?_) i
 rw[iN]at hk;rw[FF hk,AT C hk oO];exact h.he k oO
theorem Fc.Zs {C:CK} {c:List Int} (h:Fc C c):uL C=true:=by
 unfold uL;refine bz.2 fun i hi=> ?_
 have hi:=cM.1 hi
 by_cases g:i<C.need.toNat
 ·rw[decide_eq_true g];rfl
 ·have a1:=h.n1;obtain⟨j,rfl⟩: ∃j,i=j+1:=⟨i-1,by omega⟩
  have:=h.he (j+1) oO;rw[cA]at this;rw[decide_eq_true (show C.at (j+1)=num (C.sh.getD (j+1-1) [])from(h.law _).trans this.symm),pE]
theorem KG {C:CK} (h:uL C=true) {i:Nat} (hi:i<=C.sh.length) (hn:C.need.toNat<=i) (i0:1<=i):C.at i=num ((C.y::C.sh).getD i []):=by
 unfold uL at h;have:=bz.1 h i (cM.2 oO);rw[decide_eq_false (show¬i<C.need.toNat by omega),ka]at this
 have:=of_decide_eq_true this;obtain⟨j,rfl⟩: ∃j,i=j+1:=⟨i-1,by omega⟩
 exact this
def CK.put (C:CK) (t:Nat) (v:Bytes):CK:=⟨C.name,C.m,C.o,C.g,C.y,C.need,C.sh.set t v⟩
theorem Bx (C:CK) {t k:Nat} (v:Bytes) (ht:t<C.sh.length):((C.put t v).y::(C.put t v).sh).getD k []=if k=t+1 then v else(C.y::C.sh).getD k []:=by
 show(C.y::C.sh.set t v).getD k []= _
 cases k with
 |zero=>rw[if_neg oO];rfl
 |succ k=>
  rw[cA,cA,aR,pF]
  by_cases e:t=k
  ·subst e;rw[if_pos rfl,if_pos rfl,if_pos ht];rfl
  ·rw[if_neg e,if_neg oO,aR]
theorem Fc.change {C:CK} {c:List Int} (h:Fc C c) {t:Nat} (ht:t<C.sh.length) {u:Nat} (hu:GP C.m C.o u) {v:Bytes} (hv:num v=num (C.sh.getD t [])*u%num C.m) (hne:num v≠num (C.sh.getD t [])):uL (C.put t v)=false:=by
 rw[eZ];intro hc;obtain⟨-,-,m1,-,-⟩:=kp h.e;have a1:=h.n1;have a2:=h.n2;have a3:=h.nq;have a4:=h.n8;have m0:0<num C.m:=by omega
 have hlen:(C.put t v).sh.length=C.sh.length:=fU ..;have hneed:(C.put t v).need=C.need:=rfl
 by_cases hb:C.need.toNat<=t+1
 ·have h1:=KG hc (i:=t+1) (by rw[hlen];omega) (by rw[hneed];exact hb) oO
  rw[Bx C v ht,if_pos rfl]at h1;have h2:(C.put t v).at (t+1)=C.at (t+1):=by
   unfold CK.at
   have:(C.put t v).pS C.need.toNat=C.pS C.need.toNat:=by
    unfold CK.pS CK.put;simp only;rw[List.take_set_of_le oO]
   rw[hneed,this];rfl
  have h3:=h.law (t+1);have h4:=h.he (t+1) oO;rw[cA]at h4;exact hne (h1.symm.trans (h2.trans (h3.trans h4.symm)))
 ·obtain⟨n,hn⟩: ∃n,n=C.need.toNat:=⟨_,rfl⟩;have h1:=KG hc (i:=n) (by rw[hlen];omega) (by rw[hneed,hn];exact an _) oO
  rw[Bx C v ht,if_neg oO,h.he n oO]at h1;obtain⟨r1,r2⟩:=BD (n:=n) (q:=num C.o) oO oO;have hU:=h.gg.unit;have hord:=h.gg.ord.resolve_left h.o0;have e1:(C.put t v).at n=yS (num C.m) ((List.range n).map fun k:Nat=>(if k=t+1 then dU (num C.m) (num C.g) (gR c (k:Int))*u%num C.m else dU (num C.m) (num C.g) (gR c (k:Int)),((mZ (num C.o) (List.range n) n k:Nat):Int))):=by
   unfold CK.at
   rw[hneed,<-hn];show JN (num C.m) (num C.o) _ _ _= _;rw[AD _ _ _ _ _ (by rw[iN];exact AU (C.put t v) oO (by rw[hlen];omega)),iN]
   congr 1;refine ir fun k hk=> ?_
   have hk:=cM.1 hk;rw[AT (C.put t v) hk (by rw[hlen];omega),Bx C v ht]
   by_cases e:k=t+1
   ·rw[if_pos e,if_pos e,hv,e,<-h.he (t+1) oO,cA]
   ·rw[if_neg e,if_neg e,h.he k oO]
  have e2:dU (num C.m) (num C.g) (gR c (n:Int))=yS (num C.m) ((List.range n).map fun k:Nat=>(dU (num C.m) (num C.g) (gR c (k:Int)),((mZ (num C.o) (List.range n) n k:Nat):Int))):=by
   rw[<-h.law n];unfold CK.at
   rw[<-hn,AD _ _ _ _ _ (by rw[iN];exact AU C oO oO),iN]
   congr 1;refine ir fun k hk=> ?_
   have hk:=cM.1 hk;rw[AT C hk oO,h.he k oO]
  have hi:Iv (num C.o) ((mZ (num C.o) (List.range n) n (t+1):Nat):Int):=by
   have hw:=fun k (hk:k<(nI (List.range n)).length)=>LG h.p r1 r2 (k:=k) (by rwa[lr]at hk)
   have:=Tt (q:=(num C.o:Int)) (l:=nI (List.range n)) (w:=Vb (num C.o) (List.range n)) hw (i:=t+1) (by rw[lr,iN];omega) (x:=(n:Int)) (fun a ha=>by
    have ha:=List.mem_of_mem_eraseIdx ha;obtain⟨j,hj,rfl⟩:=bw.1 ha;have:=cM.1 hj;exact GK h.p oO oO oO oO oO)
   exact this.cg (GY h.p (List.range n) n (by rw[iN];omega)).symm
  have hu1:dU (num C.m) u 1≠1%num C.m:=fun e=>by
   have e:=(kH (num C.m) u 1).symm.trans e;rw[wA]at e;refine hne ?_;have hb2:=h.he (t+1) oO;rw[cA]at hb2;rw[hv,bM,e,<-bM,dG,hb2];exact oN ..
  have e3:=yd m0 (b:=fun k:Nat=>dU (num C.m) (num C.g) (gR c (k:Int))) (fun k=>Au hU m0 _) hu.unit (hu.ord.resolve_left h.o0) hu1 (v:=fun k:Nat=>((mZ (num C.o) (List.range n) n k:Nat):Int)) (i:=t+1) hi n
  rw[if_pos oO,<-e1,<-e2,h1]at e3;have e4:=TE m0 (Au hU m0 _) (oN ..) e3.symm;rw[oN]at e4;exact hu1 (Ug hu.unit m0 (hu.ord.resolve_left h.o0) hi e4)
end Go.Proofs.YtfdjchnefpefbaaGreatDoor
