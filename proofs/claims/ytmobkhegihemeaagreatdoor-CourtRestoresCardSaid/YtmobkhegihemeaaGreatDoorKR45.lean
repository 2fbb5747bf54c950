/-
  Part of the proof, part KR45. Own work.
-/
import Derived.Test.YtmobkhegihemeaaGreatDoorKR44
set_option linter.all false
namespace Go.Proofs.YtmobkhegihemeaaGreatDoor
open Go Go.Dom Go.Num
set_option maxRecDepth 100000
set_option maxHeartbeats 16000000
theorem nN (m x:Nat) (z:Int):bJ m x (gJ z).1 (num (gJ z).2)=bT m x z:=by
 simp only[gJ,uD,zs];rfl
theorem CQ (m x z:Nat):bJ m x (!(aK z==[])) (num (aK z))=bT m x (-(z:Int)):=by
 have e:(!(aK z==([]:Bytes)))=decide (-(z:Int)<0):=by
  rw[Bool.eq_iff_iff];simp[eV];omega
 rw[e,aG];unfold bT;congr 1;omega
theorem ph {c sl ctx:Bytes} {s:bQ} {w:List Int} {vs:List Bytes} {sd:Bytes} {ch:Bytes} {rs:List Int} {j:Nat}: ∀{n i:Nat},rZ c sl ctx s w vs sd n i= .ok (ch,rs,j)→ ∃i' ms z,gW (aS s.groups) c sl vs sd s.vars i' []= .ok ms∧z=fZ (AG ctx s (oV s ms)) c∧ch=aK z∧rs=du (aS s.groups) s.vars ms w z
 |0,i,h=>by cases h
 |n+1,i,h=>by
  rw[rZ]at h
  split at h
  ·cases h
  ·rename_i ms hms
   split at h
   ·simp only[Except.ok.injEq,Prod.mk.injEq]at h;obtain⟨rfl,rfl,-⟩:=h;exact⟨i,ms,_,hms,rfl,rfl,rfl⟩
   ·exact ph h
theorem qM {c sl ctx:Bytes} {s:bQ} {w:List Int} {vs:List Bytes} {sd:Bytes} {a:Int} {R:Bytes×List Int×Nat} (h:nP c sl ctx s w vs sd a= .ok R):rZ c sl ctx s w vs sd 64 a.toNat= .ok R:=by
 unfold nP at h
 split at h
 ·cases h
 ·exact h
theorem KB {m o x y z b t:Nat} (hm:0<m) (hu:bE m b) (ho:b^o%m=1%m) (ht:b^x%m=t):bT m t (-(z:Int))*bT m b (((y:Int)+z*x)%o)%m=bT m b y:=by
 have h1:bT m b (((y:Int)+z*x)%o)=bT m b ((y:Int)+z*x):=mz hu hm ho (by
  refine⟨-(((y:Int)+z*x)/o),?_⟩;have:=Int.mul_ediv_add_emod ((y:Int)+z*x) o
  grind)
 rw[h1,←ht,show((z:Int)*(x:Int))=((z*x:Nat):Int)from(Int.natCast_mul _ _).symm]
 exact xr hu hm _ _ _
theorem yH {c:CK} (k:Ke c) (lo:c.o.length≤8) {i:Nat} {A d ctx:Bytes} (gA:GP c.m c.o (num A)) {x:Nat} (h1:num c.g^x%num c.m=num (c.sh.getD (i-1) [])) (h2:num A^x%num c.m=num d) {vs:List Bytes} {sd:Bytes} {a:Int} {ch:Bytes} {rs:List Int} {j:Nat} (h:nP c.o [2] ctx (bG c i A d) [(x:Int)] vs sd a= .ok (ch,rs,j)):u7 c.o [2] ctx (bG c i A d) ch (rs.map gJ) [] []=0:=by
 obtain⟨i',ms,z,hms,hz,rfl,rfl⟩:=ph (qM h);have hor:aS (bG c i A d).groups=c.o:=by simp[bG,aS,k.o0]
 have hvr:(bG c i A d).vars=[[]]:=rfl;rw[hor,hvr]at hms;rw[hor,hvr];simp only[gW,ig,if_true,List.nil_append]at hms;obtain⟨vm,vo,m1,-,hq⟩:=fb k.e;have q1:=(hq k.o0).1
 split at hms
 ·cases hms
 rename_i yz hyz
 split at hyz
 ·cases hyz
 rename_i yb hyb;injection hyz with hyz
 injection hms with hms
 subst hyz;subst hms;obtain⟨y,hy⟩: ∃y,y=num yb:=⟨_,rfl⟩;rw[←hy]at hz⊢;have hzc:z<num c.o:=by rw[hz];exact td _ (by omega)
 have hr0:du c.o [[]] [(y:Int)] [(x:Int)] z=[((y:Int)+z*x)%num c.o]:=by simp[du,dS]
 rw[hr0];have hr1:0≤((y:Int)+z*x)%num c.o:=Int.emod_nonneg _ (by omega)
 have hr2:((y:Int)+z*x)%num c.o<num c.o:=Int.emod_lt_of_pos _ (by omega)
 have go: ∀b,GP c.m c.o b→b^num c.o%num c.m=1%num c.m:=fun b hb=>hb.ord.resolve_left k.o0
 have hfm:oC (bG c i A d) (aK z) ([((y:Int)+z*x)%num c.o].map gJ)=oV (bG c i A d) [(y:Int)]:=by
  have e1:=KB (o:=num c.o) (x:=x) (y:=y) (z:=z) (by omega) k.gg.unit (go _ k.gg) h1
  have e2:=KB (o:=num c.o) (x:=x) (y:=y) (z:=z) (by omega) gA.unit (go _ gA) h2
  have p1: ∀b,GP c.m c.o b→bJ (num c.m) b false (num [1])=b:=fun b hb=>by
   show b^(num [1])%num c.m=b;rw[show num ([1]:Bytes)=1 from rfl,Nat.pow_one,Nat.mod_eq_of_lt hb.lt]
  have t1: ∀b:Bytes,tz [(y:Int)] (ru b 0)=y:=fun b=>by simp[tz,ru,zS,num]
  simp only[oC,oV,bG,List.map_cons,List.map_nil,iQ,Ky,List.foldl_cons,List.foldl_nil,oG,ru,show((0:Int)).toNat=0 from rfl,Int.toNat_natCast,List.getD_cons_zero,CQ,p1 _ k.gg,p1 _ gA,nN,e1,e2]
  simp only[show∀b,tz [(y:Int)] ⟨b,((0:Nat):Int),false,[1]⟩=y from fun b=>t1 b,o9,nN]
 obtain⟨r,hr⟩: ∃r:Nat,((y:Int)+z*x)%num c.o=r:=⟨_,(Int.toNat_of_nonneg hr1).symm⟩;rw[hr]at hfm hr2⊢;have hqW:=cE lo;have iz:gJ (r:Int)=(false,aK r):=by
  have:=uh (x:=aK r) (vN (by omega))
  rwa[aG]at this
 have a1:aa (aK z)=true:=vN (by omega)
 have a2:aa (aK r)=true:=vN (by omega)
 simp only[List.map_cons,List.map_nil,iz]at hfm⊢;have f1:ff c.o (bG c i A d).vars.length (aK z) [(false,aK r)] [] []=0:=by
  unfold ff;rw[a1,if_neg (by simp[bH,a2]),if_neg (by simp[bG]),if_neg (by rw[aG];omega)]
 have f2:dW (aS (bG c i A d).groups) c.o [2] (bG c i A d).vars (aK z) [(false,aK r)]=0:=by
  rw[hor,hvr];have f3:y5 c.o c.o [2] [[]] [(false,aK r)]=true:=sP fun q hq=>by
   have:q=0:=by simp at hq;omega
   subst this;simp[tw,lR,aG];omega
  unfold dW;rw[a1,f3,if_neg (by simp[bH,a2]),if_neg (by rw[aG];omega),if_neg (by simp),if_neg (by simp)]
 unfold u7;rw[if_neg (by rw[f1];simp),if_neg (by rw[f2];simp),hfm,←hz,if_pos rfl]




theorem GP.one {m o:Bytes} (m1:1<num m):GP m o 1:=⟨m1,Nat.gcd_one_left _, .inr (by rw[Nat.one_pow])⟩
theorem pR (l:List Bytes) (hl:l.length<1000000):aB Tryz.prog 109 [.sl (l.map .s)] (.b (l.all aa)):=by
 have l5:(l.map PV.s).length=l.length:=List.length_map ..;refine eW Tryz.call109 Tryz.func109 ?_;repeat' first|simp only[go_sem,seval,l5]|refine sB ?_|(first|apply pX|apply bX)<;>intro hc|refine⟨oD,?_⟩|exact oD|fail
 refine aj (α:=Nat) (fun i=>l.length-i) (fun i=>⟨[(5, .v (.sl (l.map .s))),(6,E' l.length),(7,E' i)],[],_⟩) (fun i=>i≤l.length∧(l.drop i).all aa=l.all aa) 0 (fun _=>Nat.le_refl _) ⟨Nat.zero_le _,rfl⟩ ?_ ?_
 ·exact lE
 ·rintro i ⟨hi,hf⟩ R hR;rw[←hf]
  by_cases hlt:i<l.length
  ·have e1:=eg hlt;have hgo:=hR (i+1);rw[←hf]at hgo;rw[aJ [] hlt,List.all_cons]at hgo⊢;generalize l.getD i []=x at*;have hv:=aF x;clear hR hf;generalize aa x=b at*;cases b
   ·repeat' first|simp only[go_sem,seval,l5,e1]|refine cP hv ?_|refine sB ?_|(first|apply pX|apply bX)<;>intro hc|refine⟨oD,?_⟩|exact oD|fail
    all_goals simp
   ·have hgo:=hgo ⟨by omega,by simp⟩ (by omega)
    repeat' first|simp only[go_sem,seval,l5,e1]|refine cP hv ?_|refine sB ?_|(first|apply pX|apply bX)<;>intro hc|refine⟨oD,?_⟩|exact oD|fail
    refine hgo _ ?_;exact lE
  ·obtain rfl:i=l.length:=by omega
   rw[List.drop_length];repeat' first|simp only[go_sem,seval,l5]|refine sB ?_|(first|apply pX|apply bX)<;>intro hc|refine⟨oD,?_⟩|exact oD|fail
   all_goals rfl
theorem Ey (vs:List Bytes) (sd:Bytes) (a:Int) (hl:vs.length<1000000):aB Tryz.prog 60 [T vs sd a] (.b (bm vs a)):=by
 have h:=pR vs hl;unfold bm;rw[tx,Bool.not_not];generalize vs.all aa=b at*;cases b
 ·refine eW Tryz.call60 Tryz.func60 ?_;repeat' first|simp only[go_sem,seval]|refine cP h ?_|refine sB ?_|(first|apply pX|apply bX)<;>intro hc|refine⟨oD,?_⟩|exact oD|fail
  all_goals simp
 ·refine eW Tryz.call60 Tryz.func60 ?_;repeat' first|simp only[go_sem,seval]|refine cP h ?_|refine sB ?_|(first|apply pX|apply bX)<;>intro hc|refine⟨oD,?_⟩|exact oD|fail
  all_goals first|(simp;done)|(simp;omega)|(simp_all;done)|(simp_all;omega)
theorem Ax {m:Bytes} (lm:m.length≤8) {o:Bytes} (lo:o.length≤8) (hE:gE m o=0) (g y:Bytes) {x:Nat} (hx:GP m o x) {e:Nat} (he:e<18446744073709551616):aB Tryz.prog 113 [SK m o g y,N x,N e] (N (x^e%num m)):=by
 have h:=eX lm lo (ng:=false) (e:=aK e) hE hx (vN he) rfl;rw[aG]at h;have hz:bJ (num m) x false e=x^e%num m:=rfl;rw[hz]at h;refine eW Tryz.call113 Tryz.func113 ?_;repeat' first|simp only[go_sem,seval]|refine cP h ?_|refine sB ?_|(first|apply pX|apply bX)<;>intro hc|refine⟨oD,?_⟩|exact oD|fail
theorem Ay {m:Bytes} (lm:m.length≤8) {o:Bytes} (lo:o.length≤8) (hE:gE m o=0) (g y:Bytes) {a b:Nat} (ha:GP m o a) (hb:GP m o b):aB Tryz.prog 112 [SK m o g y,N a,N b] (N (a*b%num m)):=by
 have h:=uc lm lo hE ha hb;refine eW Tryz.call112 Tryz.func112 ?_;repeat' first|simp only[go_sem,seval]|refine cP h ?_|refine sB ?_|(first|apply pX|apply bX)<;>intro hc|refine⟨oD,?_⟩|exact oD|fail
theorem yP {m:Bytes} (lm:m.length≤8) {o:Bytes} (lo:o.length≤8) (hE:gE m o=0) {g y a b:Nat} (hg:GP m o g) (hy:GP m o y) (ha:GP m o a) (hb:GP m o b) {e:Nat} (he:e<18446744073709551616):aB Tryz.prog 62 [SK m o (aK g) (aK y), .agg [N a,N b],N e] (.agg [N (a*(g^e%num m)%num m),N (b*(y^e%num m)%num m)]):=by
 have x1:=Ax lm lo hE (aK g) (aK y) hg he;have x2:=Ax lm lo hE (aK g) (aK y) hy he;have m1:=Ay lm lo hE (aK g) (aK y) ha (hg.pow e);have m2:=Ay lm lo hE (aK g) (aK y) hb (hy.pow e);generalize a*(g^e%num m)%num m=r1 at*;generalize b*(y^e%num m)%num m=r2 at*;generalize g^e%num m=p1 at*;generalize y^e%num m=p2 at*;refine eW Tryz.call62 Tryz.func62 ?_;repeat' first|simp only[go_sem,seval]|refine cP x1 ?_|refine cP x2 ?_|refine cP m1 ?_|refine cP m2 ?_|refine sB ?_|(first|apply pX|apply bX)<;>intro hc|refine⟨oD,?_⟩|exact oD|fail
 all_goals rfl
theorem Ij (vs:List Bytes) (sd:Bytes) (a:Int) (hl:vs.length<1000000):aB Tryz.prog 59 [.pt (T vs sd a) 0] (.b (bm vs a)):=by
 have h:=Ey vs sd a hl;generalize bm vs a=b at*;refine eW Tryz.call59 Tryz.func59 ?_;repeat' first|simp only[go_sem,seval]|refine cP h ?_|refine sB ?_|(first|apply pX|apply bX)<;>intro hc|refine⟨oD,?_⟩|exact oD|fail
 all_goals rfl
def rU (m o g y x:Bytes) (vs:List Bytes) (a:Int):Int:=if fg m o g y≠0 then fg m o g y else if !aa x|| !bm vs a then 3 else if !fX m o x then 13 else 0
theorem Ca {m:Bytes} (lm:m.length≤8) {o:Bytes} (lo:o.length≤8) (g y x:Bytes) (vs:List Bytes) (sd:Bytes) (a:Int) (hl:vs.length<1000000):aB Tryz.prog 58 [SK m o g y, .fc 59 [] [.pt (T vs sd a) 0], .sl [.s x]] (E (rU m o g y x vs a)):=by
 have h1:=sY lm lo g y;have h2:=pR [x] (by simp)
 simp only[List.map_cons,List.map_nil,List.all_cons,List.all_nil,Bool.and_true]at h2;have h3:=Ij vs sd a hl;have h4:=nu lm lo x;unfold rU;generalize aa x=b1 at*;generalize bm vs a=b2 at*;generalize fX m o x=b3 at*
 by_cases hk:fg m o g y=0
 case neg=>
  rw[if_pos hk];generalize fg m o g y=e at*;refine eW Tryz.call58 Tryz.func58 ?_;repeat' first|simp only[go_sem,seval]|refine cP h1 ?_|refine sB ?_|(first|apply pX|apply bX)<;>intro hc|refine⟨oD,?_⟩|exact oD|fail
  all_goals rfl
 rw[if_neg (by simpa using hk)]
 rw[hk]at h1
 cases b1<;>cases b2<;>cases b3
 all_goals
  refine eW Tryz.call58 Tryz.func58 ?_;repeat' first|simp only[go_sem,seval,List.getD_cons_zero]|refine cP h1 ?_|refine cP h2 ?_|refine cP h3 ?_|refine cP h4 ?_|(refine ae ?_)|refine sB ?_|(first|apply pX|apply bX)<;>intro hc|refine⟨oD,?_⟩|exact oD|fail
  all_goals rfl
noncomputable def yQ (m o g y x:Bytes) (vs:List Bytes) (sd:Bytes) (a:Int):Except Int (Nat×Nat×Nat×Nat):=
 if rU m o g y x vs a≠0 then .error (rU m o g y x vs a)
 else match dw vs sd a.toNat o with
  | .error e=> .error e
  | .ok c=> .ok (num g^num c%num m,num x*(num y^num c%num m)%num m,num c,a.toNat+1)
def B6 (vs:List Bytes) (sd:Bytes):Except Int (Nat×Nat×Nat×Nat)→PV
 | .ok (A,B,e,j)=> .tup [.agg [N A,N B],N e,T vs sd (j:Nat),E 0]
 | .error e=> .tup [.agg [.s [], .s []], .s [],T [] [] 0,E e]
theorem yR {m:Bytes} (lm:m.length≤8) {o:Bytes} (lo:o.length≤8) (g y x:Bytes) {vs:List Bytes} {sd:Bytes} {a:Int} (hl:vs.length<1000000) (hsd:sd.length<1000000):aB Tryz.prog 20 [SK m o g y, .s x,T vs sd a] (B6 vs sd (yQ m o g y x vs sd a)):=by
 have hr:=Ca lm lo g y x vs sd a hl;unfold yQ
 by_cases h0:rU m o g y x vs a=0
 case neg=>
  rw[if_pos h0];simp only[B6];generalize rU m o g y x vs a=e at*;refine eW Tryz.call20 Tryz.func20 ?_;repeat' first|simp only[go_sem,seval]|(refine ij hr (by simp[aI,view,ai,AV.one,PV.one,rQ]) rfl ?_)|refine sB ?_|(first|apply pX|apply bX)<;>intro hc|refine⟨oD,?_⟩|exact oD|fail
  all_goals rfl
 rw[h0]at hr;rw[if_neg (by simpa using h0)]
 unfold rU at h0
 split at h0
 ·rename_i h;exact absurd h0 h
 rename_i hk
 split at h0
 ·cases h0
 rename_i hb
 split at h0
 ·cases h0
 rename_i hi;clear h0;obtain⟨hE,ho,vg,gg,-,vy,gy,-⟩:=iL (show fg m o g y=0 by simpa using hk)
 simp only[Bool.or_eq_true,Bool.not_eq_true',not_or,Bool.not_eq_false]at hb hi;obtain⟨vx,hg⟩:=hb;have gx:GP m o (num x):=by
  unfold fX at hi;rw[Bool.and_eq_true]at hi;exact((a7 hE).1 hi.2).2
 obtain⟨vm,vo,m1,-,hoq⟩:=fb hE;have hqW:=cE lo;obtain⟨hv,a0,a1⟩:=jc hg;obtain⟨i,rfl⟩: ∃i:Nat,a=i:=⟨a.toNat,by omega⟩
 rw[Int.toNat_natCast];have dB:=j7 (vs:=vs) (sd:=sd) (i:=i) (n:=o) hv vo ho (by omega) hl hsd
 cases hd:dw vs sd i o with
 |error e=>
  rw[hd]at dB;have he:=l7 hd;simp only[iy,B6]at dB⊢;clear hd;refine eW Tryz.call20 Tryz.func20 ?_;repeat' first|simp only[go_sem,seval]|(refine ij hr (by simp[aI,view,ai,AV.one,PV.one,rQ]) rfl ?_)|refine cP dB ?_|refine sB ?_|(first|apply pX|apply bX)<;>intro hc|refine⟨oD,?_⟩|exact oD|fail
  all_goals rfl
 |ok c=>
  rw[hd]at dB;obtain⟨vc,c2,c3⟩:=dp hv vo hl (by omega) hd
  simp only[iy,B6]at dB⊢;have mk:=yP lm lo hE gg gy (GP.one m1) gx (e:=num c) (by omega)
  rw[Nat.one_mul,Nat.mod_mod,dZ vg,dZ vy,dy vx,dy vc,show N 1= .s [1]from congrArg PV.s (by decide:aK 1=[1])]at mk
  rw[dy vc];generalize num g^num c%num m=A at*;generalize num x*(num y^num c%num m)%num m=B at*;clear hd;refine eW Tryz.call20 Tryz.func20 ?_;repeat' first|simp only[go_sem,seval]|(refine ij hr (by simp[aI,view,ai,AV.one,PV.one,rQ]) rfl ?_)|refine cP dB ?_|refine cP mk ?_|refine sB ?_|(first|apply pX|apply bX)<;>intro hc|refine⟨oD,?_⟩|exact oD|fail
  all_goals rfl
theorem B3 {sd:Bytes} {i:Nat} {n:Bytes} {e:Int} (h:dw [] sd i n= .error e):e=14:=by
 unfold dw at h;rw[if_neg (by simp)]at h
 split at h
 ·injection h with h;exact h.symm
 ·split at h
  ·cases h
  ·injection h with h;exact h.symm
theorem H7 {c:CK} (k:Ke c) {i:Nat} {A d:Bytes} {x:Nat} (hx:x<num c.o) (vi:aa (c.sh.getD (i-1) [])=true) (vd:aa d=true) (h1:num c.g^x%num c.m=num (c.sh.getD (i-1) [])) (h2:num A^x%num c.m=num d) {vs:List Bytes} {a:Int} (hg:bm vs a=true):oN (bG c i A d) [(x:Int)] vs a=0:=by
 have hor:aS (bG c i A d).groups=c.o:=by simp[bG,aS,k.o0]
 have hi:rP c.o [[]] [(x:Int)]=true:=by
  unfold rP;refine List.all_eq_true.2 fun j hj=> ?_
  have:j=0:=by have:=List.mem_range.1 hj;simp at this;omega
  subst this;simp[eS,cR];omega
 have hh:wM (bG c i A d) [(x:Int)]=true:=by
  unfold wM;refine decide_eq_true ?_;have t1: ∀b:Bytes,tz [(x:Int)] ⟨b,((0:Nat):Int),false,[1]⟩=x:=fun b=>by simp[tz,zS,num]
  simp only[oV,bG,List.map_cons,List.map_nil,Ky,ru,show((0:Int)).toNat=0 from rfl,List.getD_cons_zero,t1,o9,nN,dG,h1,h2,dZ vi,dZ vd]
 unfold oN;rw[hg,hor,show(bG c i A d).vars=[[]]from rfl,hi,hh]
 rfl
theorem H3 {c:CK} (k:Ke c) {i:Nat} {A d ctx:Bytes} {x:Nat} (hx:x<num c.o) (vi:aa (c.sh.getD (i-1) [])=true) (vd:aa d=true) (h1:num c.g^x%num c.m=num (c.sh.getD (i-1) [])) (h2:num A^x%num c.m=num d) (sd:Bytes) {a:Nat} (hg:bm [] (a:Int)=true):nP c.o [2] ctx (bG c i A d) [(x:Int)] [] sd (a:Int)= .error 14∨(∃ch rs,nP c.o [2] ctx (bG c i A d) [(x:Int)] [] sd (a:Int)= .ok (ch,rs,a+1))∧a+1≤2147483647:=by
 have hw:=H7 k hx vi vd h1 h2 hg;obtain⟨hv,-,ha⟩:=jc hg;obtain⟨vm,vo,m1,-,hq⟩:=fb k.e;have q1:=(hq k.o0).1;have hor:aS (bG c i A d).groups=c.o:=by simp[bG,aS,k.o0]
 unfold nP;rw[if_neg (by rw[hw];simp),Int.toNat_natCast,show(64:Nat)=63+1 from rfl,rZ,hor,show(bG c i A d).vars=[[]]from rfl]
 cases hd:dw [] sd a c.o with
 |error e=>
  have he:=B3 hd;subst he;simp only[gW,ig,if_true,hd];exact .inl trivial
 |ok yb=>
  obtain⟨-,-,h3⟩:=dp hv vo (by simp) (by omega) hd
  have hr: ∀z:Nat,ug c.o c.o [2] [[]] (du c.o [[]] [(num yb:Int)] [(x:Int)] z)=true:=fun z=>by
   have g1:=Int.emod_nonneg ((num yb:Int)+z*x) (show(num c.o:Int)≠0 by omega)
   have g2:=Int.emod_lt_of_pos ((num yb:Int)+z*x) (show(0:Int)<num c.o by omega)
   unfold ug;refine List.all_eq_true.2 fun j hj=> ?_
   have:j=0:=by have:=List.mem_range.1 hj;simp at this;omega
   subst this;simp only[du,dS,eS,lR,List.length_cons,List.length_nil,List.range_succ,List.range_zero,List.nil_append,List.map_cons,List.map_nil,List.getD_cons_zero,if_true];simp;omega
  simp only[gW,ig,if_true,hd,List.nil_append,hr];exact .inr ⟨⟨_,_,rfl⟩,h3⟩
theorem I1 (l:List Int):(l.map gJ).map cu=l.map Zp:=by rw[List.map_map];rfl
abbrev Sh:=Nat×Nat×Bytes×List Int
def lz (s:Sh):PV:= .agg [E s.1,N s.2.1, .s s.2.2.1, .sl (s.2.2.2.map Zp), .sl [], .sl []]
structure NP (c:CK) (A:Bytes) (s:Sh):Prop where
 i1:1≤s.1
 i2:s.1≤c.sh.length
 g:GP c.m c.o s.2.1
 r:s.2.2.2.length≤1
 v:u7 c.o [2] (jP c s.1) (bG c s.1 A (aK s.2.1)) s.2.2.1 (s.2.2.2.map gJ) [] []=0
theorem Ag (c:CK) (ln:c.name.length≤60) (lm:c.m.length≤8) (lo:c.o.length≤8) (ls:c.sh.length≤8) (k:Ke c) {A B:Bytes} (hA:fX c.m c.o A=true) (hB:fX c.m c.o B=true) (vA:aa A=true) (vB:aa B=true) {s:Sh} (h:NP c A s):aB Tryz.prog 68 [c.pv,G1 A B,lz s] (E 0):=by
 obtain⟨i,d,ch,rs⟩:=s;obtain⟨i1,i2,g,r,v⟩:=h;simp only at i1 i2 g r v;have hM:=cE lm;have:=g.lt;have vd:aa (aK d)=true:=vN (by omega)
 have e:=tF c ln lm lo ls k i1 i2 (A:=A) (B:=B) (d:=aK d) (by simp[vA,vB,vd]) hA hB (jQ k.e vd (by rw[aG];exact g)) (ch:=ch) (rs:=rs.map gJ) (gs:=[]) (ls':=[]) (by rw[List.length_map];omega) (by simp) (by simp) (fun l h=>by cases h)
 rw[v,I1]at e;exact e
theorem LR (c:CK) (ln:c.name.length≤60) (lm:c.m.length≤8) (lo:c.o.length≤8) (ls:c.sh.length≤8) (hc:ec c=0) {A B:Bytes} {s:Sh} (h:aB Tryz.prog 68 [c.pv,G1 A B,lz s] (E 0)):aB Tryz.prog 22 [c.pv,G1 A B,lz s] (E 0):=by
 have v1:=gI c ln lm lo ls;rw[hc]at v1;obtain⟨name,m,o,g,yy,need,sh⟩:=c;obtain⟨i,d,ch,rs⟩:=s;simp only[CK.pv,lz]at*;refine eW Tryz.call22 Tryz.func22 ?_;repeat' first|simp only[go_sem,seval]|refine cP v1 ?_|refine cP h ?_|refine sB ?_|(first|apply pX|apply bX)<;>intro hc|refine⟨oD,?_⟩|exact oD|fail
 all_goals rfl
theorem JG {c sl ctx:Bytes} {s:bQ} {w:List Int} {vs:List Bytes} {sd:Bytes} {a:Int} {ch:Bytes} {rs:List Int} {j:Nat} (h:nP c sl ctx s w vs sd a= .ok (ch,rs,j)):rs.length=s.vars.length:=by
 obtain⟨i',ms,z,-,-,-,rfl⟩:=ph (qM h);exact qO ..
theorem wa (c:CK) (ln:c.name.length≤60) (lm:c.m.length≤8) (lo:c.o.length≤8) (ls:c.sh.length≤8) (hc:ec c=0) {i:Nat} (h1:1≤i) (hi:i≤c.sh.length) {x:Nat} {A B sd:Bytes} {a:Nat} (hsd:sd.length<1000000) (vA:aa A=true) (vB:aa B=true) (hg:bm [] (a:Int)=true) (hA:fX c.m c.o A=true) (hB:fX c.m c.o B=true) (hx:x<num c.o) (hy:num c.g^x%num c.m=num (c.sh.getD (i-1) [])):
  aB Tryz.prog 21 [c.pv,E i,N x,G1 A B,T [] sd (a:Int)] (.tup [.agg [E 0, .s [], .s [], .sl [], .sl [], .sl []],T [] [] 0,E 14])∨ ∃s:Sh,s.1=i∧s.2.1=num A^x%num c.m∧NP c A s∧bm [] ((a+1:Nat):Int)=true∧aB Tryz.prog 21 [c.pv,E i,N x,G1 A B,T [] sd (a:Int)] (.tup [lz s,T [] sd ((a+1:Nat):Int),E 0]):=by
 have k:=gR hc;have hqW:=cE lo;have hM:=cE lm;have vx:aa (aK x)=true:=vN (by omega)
 have gA:GP c.m c.o (num A):=by
  unfold fX at hA;rw[Bool.and_eq_true]at hA;exact((a7 k.e).1 hA.2).2
 obtain⟨d,hd⟩: ∃d,d=num A^x%num c.m:=⟨_,rfl⟩;have gd:GP c.m c.o d:=by rw[hd];exact gA.pow x
 have:=gd.lt;have vd:aa (aK d)=true:=vN (by omega)
 obtain⟨vj,-⟩:=k.hs _ (au ([]:Bytes) (show i-1<c.sh.length by omega))
 have hs:=fun{R} (hp: _=R) h0=>ni c ln lm lo ls hc h1 hi (x:=aK x) (A:=A) (B:=B) (vs:=[]) (sd:=sd) (a:=(a:Int)) (by simp) hsd (by simp[vx,vA,vB]) hg hA hB (by rw[aG];exact hx) (by rw[aG];exact hy) (d:=d) (by rw[aG];exact hd) (R:=R) hp h0
 rw[aG]at hs;rcases H3 k (ctx:=jP c i) (A:=A) (d:=aK d) hx vj vd hy (by rw[aG];exact hd.symm) sd hg with h|⟨⟨ch,rs,h⟩,ha⟩
 ·exact .inl (hs h fun e he=>by injection he with he;omega)
 ·have hr:=JG h;refine .inr ⟨(i,d,ch,rs),rfl,hd,⟨h1,hi,gd,by show rs.length≤1;rw[hr];exact Nat.le_refl _,?_⟩,?_,hs h fun e he=>by cases he⟩
  ·exact yH k lo gA hy (by rw[aG];exact hd.symm) h
  ·unfold bm;simp;omega
theorem Nu {m o g y x:Bytes} {vs:List Bytes} {a:Int} (h:rU m o g y x vs a=0):fg m o g y=0∧aa x=true∧bm vs a=true∧GP m o (num x):=by
 unfold rU at h
 split at h
 ·rename_i h1;exact absurd h h1
 rename_i hk
 split at h
 ·cases h
 rename_i hb
 split at h
 ·cases h
 rename_i hi;have hk:fg m o g y=0:=by simpa using hk
 simp only[Bool.or_eq_true,Bool.not_eq_true',not_or,Bool.not_eq_false]at hb hi;refine⟨hk,hb.1,hb.2,?_⟩;unfold fX at hi;rw[Bool.and_eq_true]at hi;exact((a7 (iL hk).1).1 hi.2).2
theorem Ez {m o g y x:Bytes} {vs:List Bytes} {sd:Bytes} {a e:Int} (h:yQ m o g y x vs sd a= .error e):e≠0:=by
 unfold yQ at h
 split at h
 ·rename_i h0;injection h with h;rw[←h];exact h0
 ·split at h
  ·rename_i hd;injection h with h;have:=l7 hd;omega
  ·cases h
theorem Ik {m o g y x:Bytes} {sd:Bytes} {a A B e j:Nat} (lo:o.length≤8) (h:yQ m o g y x [] sd (a:Int)= .ok (A,B,e,j)):aa x=true∧GP m o (num x)∧A=num g^e%num m∧B=num x*(num y^e%num m)%num m∧bm [] (j:Int)=true:=by
 unfold yQ at h
 split at h
 ·cases h
 rename_i h0;obtain⟨hk,vx,hg,gx⟩:=Nu (show rU m o g y x [] (a:Int)=0 by simpa using h0)
 split at h
 ·cases h
 rename_i c hd;simp only[Except.ok.injEq,Prod.mk.injEq]at h;obtain⟨rfl,rfl,rfl,rfl⟩:=h;obtain⟨hv,a0,a1⟩:=jc hg;obtain⟨vm,vo,m1,-,-⟩:=fb (iL hk).1;obtain⟨-,-,h3⟩:=dp hv vo (by simp) (by omega) hd
 refine⟨vx,gx,rfl,rfl,?_⟩;rw[Int.toNat_natCast]at h3⊢;unfold bm;simp;omega
def idx (f n k:Nat):Nat:=(f+3*n-k)%n
theorem yV {f n k:Nat} (h:0<n):idx f n k<n:=Nat.mod_lt _ h
theorem IH {f n k1 k2:Nat} (h:k1<k2) (h2:k2<n):idx f n k1≠idx f n k2:=fun e=>by
 have:=Nat.sub_mod_eq_zero_of_mod_eq e;rw[show f+3*n-k1-(f+3*n-k2)=k2-k1 by omega,Nat.mod_eq_of_lt (by omega)]at this
 omega
theorem jB:cC lz 6:=⟨fun _=>rfl,fun x y hy=>by simp[lz,PV.cells]at hy;rcases hy with rfl|rfl|rfl|rfl|rfl<;>rfl,fun h=>by omega,fun _ x=>rfl⟩
end Go.Proofs.YtmobkhegihemeaaGreatDoor
