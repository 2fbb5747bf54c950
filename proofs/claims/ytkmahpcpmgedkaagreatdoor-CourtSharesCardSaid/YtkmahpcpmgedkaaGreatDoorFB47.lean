/- Part of the proof. -/
import Derived.Test.YtkmahpcpmgedkaaGreatDoorRows
import Derived.Test.YtkmahpcpmgedkaaGreatDoorCards
import Derived.Test.YtkmahpcpmgedkaaGreatDoorTie
import Derived.ProofKit
import Derived.ChangeSame
import Derived.Lay
import Derived.LaidOnce
import Derived.SevenTiedAt
import Derived.Lib.LaidU8
import Derived.Test.YtkmahpcpmgedkaaGreatDoorFB46
set_option linter.all false
set_option maxHeartbeats 16000000
set_option maxRecDepth 100000
namespace Go.Proofs.YtkmahpcpmgedkaaGreatDoor
open Go Go.Dom Go.ChangeShapes Go.WideShapes Go.ChangeAt Go.RowKit Go.Proofs.Tryz
variable {ps:List PV} {x y:PV}
theorem aaq:ownKnob Tryz.prog.godebug=none:=by kernel_rfl
theorem Nv:laidOutB Tryz.prog=true:=by kernel_rfl
theorem TJ:Tryz.prog.underlying 4=some .bool:=by kernel_rfl
theorem uS:Tryz.prog.underlying 9=some .string:=by kernel_rfl
theorem uN:Tryz.prog.underlying 22=some .string:=by kernel_rfl
theorem uLN:Tryz.prog.underlying 27=some (.slice 22):=by kernel_rfl
theorem cS:Tryz.prog.cellsOf 9=1:=by kernel_rfl
theorem cN:Tryz.prog.cellsOf 22=1:=by kernel_rfl
theorem cLN:Tryz.prog.cellsOf 27=1:=by kernel_rfl
theorem cGr:Tryz.prog.cellsOf 24=2:=by kernel_rfl
theorem isN:oB Tryz.prog 22=false:=by kernel_rfl
theorem bN:Tryz.prog.bytesOf 22=16:=by kernel_rfl
theorem tk (h:List.take 1 ps=[x]):ps=x::List.drop 1 ps:=by cases ps<;>simp_all
theorem tk2 (h:List.take 2 ps=[x,y]):ps=x::y::List.drop 2 ps:=by
 rcases ps with _|⟨a,_|⟨b,r⟩⟩<;>simp_all
theorem tk4 {z u:PV} (h:List.take 4 ps=[x,y,z,u]):ps=x::y::z::u::List.drop 4 ps:=by
 rcases ps with _|⟨a,_|⟨b,_|⟨c,_|⟨d,r⟩⟩⟩⟩<;>simp_all
theorem U7 {α:Type} {f:α->PV}: ∀{l:List PV},(∀x∈l,∃a,x=f a)-> ∃al:List α,l=al.map f:=by
 intro l
 induction l with
 |nil=>intro _;exact⟨[],rfl⟩
 |cons x l ih=>
  intro h;obtain⟨a,rfl⟩:=h x (by simp)
  obtain⟨al,rfl⟩:=ih fun y hy=>h y (by simp[hy])
  exact⟨a::al,rfl⟩
theorem Kt (h:x.cells=[y]) (h1:x.one=true):x=y:=by
 cases x<;>first|(simpa[PV.cells]using h)|(simp[PV.one]at h1)
theorem HQ {k:Nat} (h:p9 Tryz.prog (k+1) 22 ps): ∃b:Bytes,ps=[.s b]:=by
 simp only[p9,uN]at h;obtain⟨x,rfl,-⟩:=h;exact⟨x,rfl⟩
theorem TG {k:Nat} (h:p9 Tryz.prog (k+1) 9 ps): ∃b:Bytes,ps=[.s b]:=by
 simp only[p9,uS]at h;obtain⟨x,rfl,-⟩:=h;exact⟨x,rfl⟩
theorem TF {k:Nat} (h:p9 Tryz.prog (k+2) 27 ps): ∃bs:List Bytes,ps=[.sl (bs.map PV.s)]/\bs.length*16<=reachBytes:=by
 simp only[p9,uLN,uN,isN,bN]at h;obtain⟨l,rfl,hb,hl⟩:=h;obtain⟨bs,rfl⟩:=U7 (f:=PV.s) (l:=l) fun x hx=>by
  obtain⟨⟨s,h1,-⟩,h2⟩:=hl x hx;exact⟨s,Kt h1 (by simpa using h2)⟩
 exact⟨bs,rfl,by simpa using hb⟩
theorem YK {k:Nat} (h:p9 Tryz.prog (k+2) 24 ps): ∃a b:Bytes,ps=[.s a, .s b]:=by
 rw[p9,Tryz.underlying24]at h;simp only[Bd,cN]at h;obtain⟨h1,h2,h3⟩:=h;obtain⟨a,h1⟩:=HQ h1;obtain⟨b,h2⟩:=HQ h2;exact⟨a,b,by rw[tk h1,tk h2,h3]⟩
section
variable {H:Type} {enc:TypeId×Value->H} {P:Program}
theorem KD {f:Func} {s:ChangeSpec} {apart fresh handsOn again:Bool} {W W':World} {args:Array Value} {v:Value} {ds gs:List (DataW H)} {before pa pv:List MemPlace}
  (hW:DataW.Whole enc P f.params.toList s.vars apart W args.toList ds gs before)
  (hres: ∀(b:Nat) (sp:Nat->Bool) (hd:Bool),DataW.TrodAll enc P W' b sp hd f.resultTypes.toList (v.resultList f.resultTypes.size) (s.fn H (ds++gs)).results [])
  (hargs: ∀sp:Nat->Bool,(∀p∈before,sp p.block=true)->DataW.TrodAll enc P W' 0 sp true f.params.toList args.toList (s.fn H (ds++gs)).args pa)
  (hvars: ∀sp:Nat->Bool,(∀p∈before,sp p.block=true)->DataW.TrodVars enc P W' sp s.vars (s.fn H (ds++gs)).vars pv)
  (hps:before=pa++pv) (hb:Below W.heap.size W W')
  (hok: ∀(j:Nat) (t:TypeId) (r:Value),f.resultTypes[j]?=some t->(v.resultList f.resultTypes.size)[j]?=some r->Value.okWide P W' .any 0 t r):
  s.post enc P f apart fresh handsOn again W args v W':=by
 have hlt: ∀p∈before,p.block<W.heap.size:=fun p hp=>hW.lt p hp
 have hold: ∀p∈before,(fun b=>decide (b<W.heap.size)) p.block=true:=fun p hp=>by simpa using hlt p hp
 refine⟨ds,gs,before,[],pa,pv,hW,hres _ _ _,hargs _ hold,hvars _ hold,World.keptBut_mono (fun p hp=>⟨hp,?_⟩) (hb.frame (·∈before)),fun _=> ?_⟩
 ·rw[hps,il]at hp;exact Or.inr hp
 ·obtain⟨_,_,_,_,_,hz,hn⟩:=hW;refine⟨hok,_,_,([]++pa)++pv,⟨[]++pa,pv,trodAll_append (hargs _ (fun _ _=>rfl)) (hres _ _ _),hvars _ (fun _ _=>rfl),rfl,?_,?_⟩,?_⟩
  ·intro b off hp;have hin:MemPlace.cell b off∈before:=by rw[hps];simpa using hp
   rw[hb.frozen (hlt _ hin)];exact hz b off hin
  ·intro ha;have:=hn ha;rw[hps]at this;simpa using this
  ·intro p hp _;rw[hps];simpa using hp
end
def wQ:List (String×DataW Unit):=[("math/bits.deBruijn32tab",Rows.laid_math_bits_deBruijn32tab),("math/bits.deBruijn64tab",Rows.laid_math_bits_deBruijn64tab),("internal/strconv.uint64pow10",Rows.laid_internal_strconv_uint64pow10)]
theorem wE {W:World} {n:String} {g:Nat} {t e:TypeId} {k:IntKind} {m:Nat} {zs:List Int} (h:Lib.VarReads Tryz.prog W n (Lib.tabData k zs)) (hg:Tryz.prog.globalNamed n=some g) (ht:(Tryz.prog.globals[g]?).map (·.type)=some t) (hu:Tryz.prog.underlying t=some (.array m e)) (he:Tryz.prog.underlying e=some (.int k)) (hce:Tryz.prog.cellsOf e=1) (hct:Tryz.prog.cellsOf t=m) (i:Nat):
  W.cell? ⟨g,i,none⟩=(zs[i]?).map fun z=>Value.int k z:=by
 obtain⟨g',t',cs,fuel,p,h1,h2,h3,h4⟩:=h;obtain rfl:=yr (hg.symm.trans h1);obtain rfl:=yr (ht.symm.trans h2);have h5:=Lib.cells_of_tab hu he hce hct h4;rw[World.var?_cell h1 h3 i,<-Array.getElem?_toList,h5,dG]
theorem Ln {W:World} (h:laidMet Tryz.prog wQ W): ∀b o v,TR Tryz.prog b o=some v->W.cell? ⟨b,o,none⟩=some v:=by
 have h1:=fun i=>wE (Lib.laidMet.reads h (n:= "math/bits.deBruijn32tab") (d:=Lib.tabData .u8 nO) (by simp[wQ];rfl)) (g:=5) (t:=479) (e:=5) (m:=32) (by kernel_rfl) (by kernel_rfl) (by kernel_rfl) (by kernel_rfl) (by kernel_rfl) (by kernel_rfl) i
 have h2:=fun i=>wE (Lib.laidMet.reads h (n:= "math/bits.deBruijn64tab") (d:=Lib.tabData .u8 nP) (by simp[wQ];rfl)) (g:=0) (t:=391) (e:=5) (m:=64) (by kernel_rfl) (by kernel_rfl) (by kernel_rfl) (by kernel_rfl) (by kernel_rfl) (by kernel_rfl) i
 have h3:=fun i=>wE (Lib.laidMet.reads h (n:= "internal/strconv.uint64pow10") (d:=Lib.tabData .u64 pN) (by simp[wQ];rfl)) (g:=4) (t:=454) (e:=66) (m:=20) (by kernel_rfl) (by kernel_rfl) (by kernel_rfl) (by kernel_rfl) (by kernel_rfl) (by kernel_rfl) i
 intro b o v hv;have key: ∀(k:IntKind) (zs:List Int),((zs.map fun n=>(k,n))[o]?).map (fun p:IntKind×Int=>Value.int p.1 p.2)=(zs[o]?).map fun z=>Value.int k z:=by
  intro k zs;rw[dG,Option.map_map];rfl
 unfold TR at hv;simp only[cu.tab,List.lookup]at hv
 by_cases e1:b=5
 ·subst e1;rw[h1 o,<-key];simpa using hv
 ·by_cases e2:b=0
  ·subst e2;rw[h2 o,<-key];simpa using hv
  ·by_cases e3:b=4
   ·subst e3;rw[h3 o,<-key];simpa using hv
   ·simp only[show(b==5)=false from beq_eq_false_iff_ne.2 e1,show(b==0)=false from beq_eq_false_iff_ne.2 e2,show(b==4)=false from beq_eq_false_iff_ne.2 e3]at hv
    cases hv
end Go.Proofs.YtkmahpcpmgedkaaGreatDoor
namespace Go.Proofs.YtkmahpcpmgedkaaGreatDoor
open Go Go.Dom Go.ChangeShapes Go.WideShapes Go.ChangeAt Go.RowKit Go.Proofs.Tryz
variable {ps:List PV}
theorem uI0:Tryz.prog.underlying 3=some (.int .i64):=by kernel_rfl
theorem cI0:Tryz.prog.cellsOf 3=1:=by kernel_rfl
theorem aap:To Tryz.prog 9 37=true:=by kernel_rfl
theorem YP (h:p9 Tryz.prog 9 37 ps): ∃(vs:List Bytes) (sd:Bytes) (a:Int), .agg ps=T vs sd a/\vs.length*16<=reachBytes:=by
 rw[p9,Tryz.underlying37]at h;simp only[Bd,cLN,cS,cI0]at h;obtain⟨h1,h2,h3,h4⟩:=h;obtain⟨vs,h1,hb⟩:=TF h1;obtain⟨sd,h2⟩:=TG h2;simp only[p9,uI0]at h3;obtain⟨n,h3,-⟩:=h3;exact⟨vs,sd,n,by rw[tk h1,tk h2,tk h3,h4],hb⟩
theorem aaz:Tryz.prog.underlying 3=some (.int .i64):=by kernel_rfl
theorem ZG:Tryz.prog.cellsOf 3=1:=by kernel_rfl
theorem cSK:Tryz.prog.cellsOf 26=4:=by kernel_rfl
theorem aan:To Tryz.prog 9 29=true:=by kernel_rfl
theorem YM {k:Nat} (h:p9 Tryz.prog (k+3) 26 ps): ∃a b c d:Bytes,ps=[.s a, .s b, .s c, .s d]:=by
 rw[p9,Tryz.underlying26]at h;simp only[Bd,cN,cGr]at h;obtain⟨h1,h2,h3,h4⟩:=h;obtain⟨a,b,h1⟩:=YK h1;obtain⟨c,h2⟩:=HQ h2;obtain⟨d,h3⟩:=HQ h3;exact⟨a,b,c,d,by rw[tk2 h1,tk h2,tk h3,h4]⟩
theorem YH (h:p9 Tryz.prog 9 29 ps): ∃c:CK, .agg ps=c.pv/\c.sh.length*16<=reachBytes:=by
 rw[p9,Tryz.underlying29]at h;simp only[Bd,cN,cS,cSK,cLN,ZG]at h;obtain⟨h1,h2,h3,h4,h5⟩:=h;obtain⟨a,h1⟩:=TG h1;obtain⟨m,o,g,y,h2⟩:=YM h2;simp only[p9,aaz]at h3;obtain⟨n,h3,-⟩:=h3;obtain⟨sh,h4,hb⟩:=TF h4;refine⟨⟨a,m,o,g,y,n,sh⟩,?_,hb⟩;rw[tk h1,tk4 h2,tk h3,tk h4,h5];rfl
theorem cCi:Tryz.prog.cellsOf 31=2:=by kernel_rfl
theorem cTr:Tryz.prog.cellsOf 33=2:=by kernel_rfl
theorem aao:To Tryz.prog 9 35=true:=by kernel_rfl
theorem YI {k:Nat} (h:p9 Tryz.prog (k+2) 31 ps): ∃a b:Bytes,ps=[.s a, .s b]:=by
 rw[p9,Tryz.underlying31]at h;simp only[Bd,cN]at h;obtain⟨h1,h2,h3⟩:=h;obtain⟨a,h1⟩:=HQ h1;obtain⟨b,h2⟩:=HQ h2;exact⟨a,b,by rw[tk h1,tk h2,h3]⟩
theorem YQ {k:Nat} (h:p9 Tryz.prog (k+2) 33 ps): ∃(i:Int) (x:Bytes),ps=[E i, .s x]:=by
 rw[p9,Tryz.underlying33]at h;simp only[Bd,cN,cI0]at h;obtain⟨h1,h2,h3⟩:=h;simp only[p9,uI0]at h1;obtain⟨i,h1,-⟩:=h1;obtain⟨x,h2⟩:=HQ h2;exact⟨i,x,by rw[tk h1,tk h2,h3]⟩
theorem YJ (h:p9 Tryz.prog 9 35 ps): ∃(a b:Bytes) (i:Int) (x:Bytes),PV.agg ps=PV.agg [.s a, .s b,E i, .s x]:=by
 rw[p9,Tryz.underlying35]at h;simp only[Bd,cCi,cTr]at h;obtain⟨h1,h2,h3⟩:=h;obtain⟨a,b,h1⟩:=YI h1;obtain⟨i,x,h2⟩:=YQ h2;exact⟨a,b,i,x,by rw[tk2 h1,tk2 h2,h3]⟩
end Go.Proofs.YtkmahpcpmgedkaaGreatDoor
namespace Go.Proofs.Tryz
open Go Go.Dom Go.Num
variable {a e:Int} {c ctx sd sl:Bytes} {vs:List Bytes}
theorem Ga {s:cG} {w:List Int}: ∀{n i:Nat},sG c sl ctx s w vs sd n i= .error e->e≠0
 |0,i,h=>by injection h with h;omega
 |n+1,i,h=>by
  rw[sG]at h
  split at h
  ·rename_i hm;injection h with h;have:=tF hm;omega
  ·split at h
   ·cases h
   ·exact Ga h
theorem Ai {s:cG} {w:List Int} (h:qn c sl ctx s w vs sd a= .error e):e≠0:=by
 unfold qn at h
 split at h
 ·rename_i h0;injection h with h;rw[<-h];exact h0
 ·exact Ga h
noncomputable def pj (c:CK) (i:Int) (x A B:Bytes) (vs:List Bytes) (a:Int):Int:=
 if fp c≠0 then fp c else if !([x,A,B].all aa)|| !e9 vs a then 3 else if pR c i [A,B]≠0 then pR c i [A,B]
 else if num c.o<=num x\/num c.g^num x%num c.m≠num (c.sh.getD (i.toNat-1) [])then 1 else 0
noncomputable def AA (c:CK) (i:Int) (x A B:Bytes) (vs:List Bytes) (sd:Bytes) (a:Int):PV:=
 if pj c i x A B vs a≠0 then nj 0 0 [] [] (.error (pj c i x A B vs a))
 else nj i.toNat (num A^num x%num c.m) vs sd (qn c.o [2] (mc c i.toNat) (eB c i.toNat A (aX (num A^num x%num c.m))) [(num x:Int)] vs sd a)
theorem Nl {c:CK} {i:Int} {xs:List Bytes} (h:pR c i xs=0):1<=i/\i<=c.sh.length/\xs.all (jn c.m c.o)=true:=by
 unfold pR at h
 split at h
 ·cases h
 ·split at h
  ·cases h
  ·rename_i h1 h2;exact⟨oO,oO,by simpa using h2⟩
theorem GF (c:CK) (ln:c.name.length<=60) (lm:c.m.length<=8) (lo:c.o.length<=8) (ls:c.sh.length<=8) (i:Int) (x A B:Bytes) (hl:vs.length<1000000) (hsd:sd.length<1000000):
  aD 9 [c.pv,E i, .s x,PA A B,T vs sd a] (AA c i x A B vs sd a):=by
 have v1:=qH c ln lm lo ls;have v2:=mH [x,A,B] (by simp)
 simp only[br,bK]at v2;have v3:=zf vs sd a hl;have v4:=CH c lm lo oO i (xs:=[A,B]) (by simp)
 simp only[br,bK]at v4;unfold AA pj
 by_cases k0:fp c=0
 case neg=>
  rw[ah k0,ah k0];generalize fp c=e at*;simp only[nj];obtain⟨name,m,o,g,yy,need,sh⟩:=c;simp only[CK.pv]at*;refine eW call9 func9 ?_;exact z1 @v1
 rw[k0]at v1;rw[ae (show¬fp c≠0 by simpa using k0)]
 cases hv:[x,A,B].all aa with
 |false=>
  rw[hv]at v2;simp only[ca,j7,au,nj];clear k0;obtain⟨name,m,o,g,yy,need,sh⟩:=c;simp only[CK.pv]at*;refine eW call9 func9 ?_;exact z2 @v1 @v2
 |true=>
 rw[hv]at v2
 cases hg:e9 vs a with
 |false=>
  rw[hg]at v3;simp only[ca,uu,au,nj];clear k0;obtain⟨name,m,o,g,yy,need,sh⟩:=c;simp only[CK.pv]at*;refine eW call9 func9 ?_;exact z4 @v1 @v2 @v3 oT
 |true=>
 rw[hg]at v3;simp only[bQ,rf,bm,an]
 by_cases h4:pR c i [A,B]=0
 case neg=>
  rw[ah h4];generalize pR c i [A,B]=e at*;rw[ah h4];simp only[nj];clear k0;obtain⟨name,m,o,g,yy,need,sh⟩:=c;simp only[CK.pv]at*;refine eW call9 func9 ?_;exact z4 @v1 @v2 @v3 @v4
 obtain⟨i1,i2,hAB⟩:=Nl h4;rw[h4]at v4;obtain⟨r,rfl⟩: ∃r:Nat,i=(r+1:Nat):=⟨i.toNat-1,oO⟩;rw[ae (show¬pR c _ [A,B]≠0 by simpa using h4),Int.toNat_natCast,jw]
 simp only[List.all_cons,List.all_nil,jB,aZ]at hAB;have k:=ov k0;have hv':=hv;simp only[List.all_cons,List.all_nil,jB,aZ]at hv';obtain⟨vx,vA,vB⟩:=hv';obtain⟨vm,vo,m1,-,-⟩:=jm k.e;have hrl:r<c.sh.length:=oO;obtain⟨vj,gj⟩:=k.hs _ (aq ([]:Bytes) hrl)
 by_cases hb:num c.o<=num x\/num c.g^num x%num c.m≠num (c.sh.getD r [])
 case pos=>
  rw[ah hb,ah oC];simp only[nj];have v5:=oU vx;have v6:=jT lm lo (ng:=false) k.e k.gg vx rfl;rw[eE k.vg,show dh (num c.m) (num c.g) false (num x)=num c.g^num x%num c.m from rfl]at v6
  have e1:=dM (l:=c.sh) (x:=r) hrl;have l1:(c.sh.map PV.s).length=c.sh.length:=aB ..;have hw: ∀ _:True,IntKind.i64.wrap (((r+1:Nat):Int)-1)=(r:Int):=fun _=>by rw[IntWalk.i64_in _ oO];omega
  have c1:=rG vx vo;have hcg:=Kc (num x) (num c.o);have hbd:=JL vj (num c.g^num x%num c.m);generalize num c.g^num x%num c.m=v at*;generalize ba (num x) (num c.o)=cm at*;generalize c.sh.getD r []=y at*;clear k0 k h4;obtain⟨name,m,o,g,yy,need,sh⟩:=c;simp only[CK.pv]at*
  by_cases hx:num x<num o
  ·have hne:v≠num y:=by rcases hb with h|h;omega;exact h
   rw[aI hx]at hcg;rw[aH hne]at hbd;refine eW call9 func9 ?_;exact AU (aN @l1 (aN @e1 (aN (hw oT) (aN @hcg @hbd)))) @v1 @v2 @v3 @v4 @v5 @v6 @c1
  ·rw[aH hx]at hcg;refine eW call9 func9 ?_;exact AU (aN @l1 (aN @e1 (aN (hw oT) @hcg))) @v1 @v2 @v3 @v4 @v5 @v6 @c1
 case neg=>
  rw[ae hb,ae (by simp)]
  have hx:num x<num c.o:=oO;have hy:num c.g^num x%num c.m=num (c.sh.getD r []):=Classical.byContradiction fun h=>hb (.inr h)
  exact vC c ln lm lo ls k0 (i:=r+1) oO oO hl hsd hv hg hAB.1 hAB.2 hx hy rfl rfl fun e h=>Ai h
structure Za where
 i:Int
 d:Bytes
 ch:Bytes
 rs:List (Bool×Bytes)
 gs:List Bytes
 ls:List (List (Bool×Bytes))
def Za.pv (s:Za):PV:= .agg [E s.i, .s s.d, .s s.ch, .sl (s.rs.map dI), .sl (s.gs.map .s), .sl (s.ls.map GU)]
structure Za.few (s:Za):Prop where
 rs:s.rs.length<1000000
 gs:s.gs.length<=1000
 ls:s.ls.length<=1000
 l1: ∀l∈s.ls,l.length<4611686018427387904
theorem KU (l:List Bytes) (hl:l.length<4611686018427387904):aD 22 [.sl (l.map .s), .sl (l.map .s)] (.b true):=by
 have l1:(l.map PV.s).length=l.length:=aB ..;have e0: ∀n:Int,(n==n)=true:=fun n=>dO n
 refine eW call22 func22 ?_;refine cU (aN @l1 @e0) ?_;refine af (α:=Nat) (fun i=>l.length-i) (fun i=>⟨[(0, .v (.sl (l.map .s))),(1, .v (.sl (l.map .s))),(5,E' i)],[],_⟩) (fun i=>i<=l.length) 0 (fun _=>ay _) (aJ _) ?_ ?_
 ·exact lE
 ·intro i hi R hR
  by_cases hlt:i<l.length
  ·have e1:=dM hlt;have hgo:=hR (i+1) oO oO;generalize l.getD i []=x at*;have e2:(x==x)=true:=dO x;clear hR;exact jC (aN @l1 (aN @e1 @e2)) @hgo
  ·obtain rfl:i=l.length:=oO;exact gn @l1
def IA (vs:List Bytes) (sd:Bytes):Bool:=(vs.take 40).all (fun x=>decide (x.length<=140))&&(decide (vs.length<=40)&&decide (sd.length<=100))
theorem LF (vs:List Bytes) (sd:Bytes) (a:Int) (h:vs.length<4611686018427387904):aD 7 [T vs sd a] (.b (IA vs sd)):=by
 have l1:(vs.map PV.s).length=vs.length:=aB ..;unfold IA T;refine eW call7 func7 ?_;refine pU ?_;refine af (α:=Nat) (fun i=>41-i) (fun i=>⟨[(1, .p 1000 0 0),(3,E' i)],[(1000,⟨0,[.v (.sl (vs.map .s)), .v (.s sd), .v (.i .i64 a)],false,none⟩)],_⟩) (fun i=>i<=vs.length/\i<=40/\((vs.take 40).drop i).all (fun x=>decide (x.length<=140))=(vs.take 40).all fun x=>decide (x.length<=140)) 0 (fun _=>ay _) ⟨aJ _,aJ _,rfl⟩ ?_ ?_
 ·exact lE
 ·rintro i ⟨hi,h20,hf⟩ R hR;rw[<-hf]
  by_cases hlt:i<vs.length/\i<40
  ·obtain⟨hl,hl2⟩:=hlt;have e1:=dM hl;have ht:i<(vs.take 40).length:=by rw[bV];omega
   have hgt:(vs.take 40).getD i []=vs.getD i []:=by simp[bu,fB,hl2]
   have hgo:=hR (i+1);rw[<-hf]at hgo;rw[aT [] ht,List.all_cons,hgt]at hgo⊢;generalize vs.getD i []=x at*;clear hf hR hgt ht
   by_cases ha:x.length<=140
   ·have hgo:=hgo ⟨oO,oO,by simp[ha]⟩ oO
    exact jC (aN @l1 @e1) @hgo
   ·have hd:decide (x.length<=140)=false:=by simpa using ha
    rw[hd,dW,dW];clear hgo;exact gn (aN @l1 @e1)
  ·have hd:(vs.take 40).drop i=[]:=gU (by rw[bV];omega)
   rw[hd,List.all_nil,cj];clear hR hf
   by_cases hl:i<vs.length
   ·have hi2:i=40:=oO;subst hi2;have hx:decide (vs.length<=40)=false:=by simp;omega
    rw[hx,dW];exact gn @l1
   ·have hi2:i=vs.length:=oO;subst hi2;have hx:decide (vs.length<=40)=true:=by simp;omega
    rw[hx,cj];repeat' first|simp only[go_sem,seval,l1]|refine oE ?_|apply xX<;>intro hc
    all_goals (refine congrArg PV.b ?_;rw[lF];omega)
    all_goals simp_all
theorem wc (vs:List Bytes) (sd:Bytes) (a:Int) (hl:vs.length<4611686018427387904):aD 12 [T vs sd a,T vs sd a] (.b true):=by
 have l1:(vs.map PV.s).length=vs.length:=aB ..;have e0: ∀n:Int,(n==n)=true:=fun n=>dO n
 have e3:(sd==sd)=true:=dO sd;unfold T;refine eW call12 func12 ?_;refine cU (aN @l1 (aN @e0 @e3)) ?_;refine af (α:=Nat) (fun i=>vs.length-i) (fun i=>⟨[(2, .p 1000 0 0),(3, .p 1001 0 0),(5,E' i)],[(1000,⟨0,[.v (.sl (vs.map .s)), .v (.s sd), .v (.i .i64 a)],false,none⟩),(1001,⟨0,[.v (.sl (vs.map .s)), .v (.s sd), .v (.i .i64 a)],false,none⟩)],_⟩) (fun i=>i<=vs.length) 0 (fun _=>ay _) (aJ _) ?_ ?_
 ·exact lE
 ·intro i hi R hR
  by_cases hlt:i<vs.length
  ·have e1:=dM hlt;have hgo:=hR (i+1) oO oO;generalize vs.getD i []=x at*;have e2:(x==x)=true:=dO x;clear hR;exact jC (aN @l1 (aN @e1 @e2)) @hgo
  ·obtain rfl:i=vs.length:=oO;exact gn @l1
theorem Hz (c:CK) (ln:c.name.length<=60) (lm:c.m.length<=8) (lo:c.o.length<=8) (ls:c.sh.length<=8) (i:Int) (x A B:Bytes) (hl:vs.length<1000000) (hsd:sd.length<1000000):
  aD 10 [c.pv,E i, .s x,PA A B,T vs sd a] (AA c i x A B vs sd a):=by
 have v1:=Oj c ln lm lo ls;have u1:=aK x;have u2:=aK A;have u3:=aK B;have u4:=qt vs sd a hl;have v4:=KM c lm lo (xs:=[A,B]) (by simp)
 have l1:(c.sh.map PV.s).length=c.sh.length:=aB ..;simp only[br,bK]at v4;unfold AA pj
 by_cases k0:fp c=0
 case neg=>
  rw[ah k0,ah k0];generalize fp c=e at*;simp only[nj];obtain⟨name,m,o,g,yy,need,sh⟩:=c;simp only[CK.pv]at*;refine eW call10 func10 ?_;exact z1 @v1
 rw[k0]at v1;rw[ae (show¬fp c≠0 by simpa using k0)]
 cases hvx:aa x with
 |false=>
  rw[hvx]at u1;simp only[List.all_cons,hvx,dW,ca,j7,au,nj];clear k0;obtain⟨name,m,o,g,yy,need,sh⟩:=c;simp only[CK.pv]at*;refine eW call10 func10 ?_;exact z2 @v1 @u1
 |true=>
 cases hvA:aa A with
 |false=>
  rw[hvx]at u1;rw[hvA]at u2;simp only[List.all_cons,hvx,hvA,dW,cj,ca,j7,au,nj];clear k0;obtain⟨name,m,o,g,yy,need,sh⟩:=c;simp only[CK.pv]at*;refine eW call10 func10 ?_;exact z4 @v1 @u1 @u2 oT
 |true=>
 cases hvB:aa B with
 |false=>
  rw[hvx]at u1;rw[hvA]at u2;rw[hvB]at u3;simp only[List.all_cons,List.all_nil,hvx,hvA,hvB,dW,cj,ca,j7,au,nj];clear k0;obtain⟨name,m,o,g,yy,need,sh⟩:=c;simp only[CK.pv]at*;refine eW call10 func10 ?_;exact z4 @v1 @u1 @u2 @u3
 |true=>
 rw[hvx]at u1;rw[hvA]at u2;rw[hvB]at u3;simp only[List.all_cons,List.all_nil,hvx,hvA,hvB,dE,bQ,j4]
 cases hg:e9 vs a with
 |false=>
  rw[hg]at u4;simp only[ca,au,nj];clear k0;obtain⟨name,m,o,g,yy,need,sh⟩:=c;simp only[CK.pv]at*;refine eW call10 func10 ?_;exact z7 @v1 @u1 @u2 @u3 @u4 oT oT
 |true=>
 rw[hg]at u4;simp only[bQ,bm,an]
 by_cases hi:i<1\/i>(c.sh.length:Int)
 ·have h4:pR c i [A,B]=2:=by unfold pR;rw[ah hi]
  rw[h4];simp only[ne_eq,show¬(2:Int)=0 by decide,lH,au,nj]
  clear k0 h4;obtain⟨name,m,o,g,yy,need,sh⟩:=c;simp only[CK.pv]at*
  by_cases h1:i<1
  ·refine eW call10 func10 ?_;exact AU @l1 @v1 @u1 @u2 @u3 @u4 oT oT
  ·have h2:i>(sh.length:Int):=oO;refine eW call10 func10 ?_;exact AU @l1 @v1 @u1 @u2 @u3 @u4 oT oT
 have h4:pR c i [A,B]=if !([A,B].all (jn c.m c.o))then 13 else 0:=by unfold pR;rw[ae hi]
 rw[h4]
 cases hAB:[A,B].all (jn c.m c.o)with
 |false=>
  rw[hAB]at v4;simp only[ca,au,ne_eq,show¬(13:Int)=0 by decide,lH,nj]
  have i1: ¬i<1:=fun h=>hi (.inl h)
  have i2: ¬i>(c.sh.length:Int):=fun h=>hi (.inr h)
  clear k0 h4 hi;obtain⟨name,m,o,g,yy,need,sh⟩:=c;simp only[CK.pv]at*;refine eW call10 func10 ?_;exact AU @l1 @v1 @u1 @u2 @u3 @u4 @v4 oT
 |true=>
 rw[hAB]at v4;simp only[bQ,bm,an,ne_eq,uU];obtain⟨r,rfl⟩: ∃r:Nat,i=(r+1:Nat):=⟨i.toNat-1,oO⟩;rw[Int.toNat_natCast,jw];simp only[List.all_cons,List.all_nil,jB,aZ]at hAB;have k:=ov k0;obtain⟨vm,vo,m1,-,-⟩:=jm k.e;have hrl:r<c.sh.length:=oO;have hqW:=eP lo;have hmW:=eP lm;have hW:=jQ;obtain⟨vj,gj⟩:=k.hs _ (aq ([]:Bytes) hrl);have v6:=qo c lm lo k.e k.gg hvx;rw[eE k.vg,show dh (num c.m) (num c.g) false (num x)=num c.g^num x%num c.m from rfl]at v6
 have e1:=dM (l:=c.sh) (x:=r) hrl;have hw: ∀ _:True,IntKind.i64.wrap (((r+1:Nat):Int)-1)=(r:Int):=fun _=>by rw[IntWalk.i64_in _ oO];omega
 have c1:=mA x c.o;rw[hvx,vo]at c1;simp only[dE,au]at c1;have hcg:=Kc (num x) (num c.o);have hbd:=JL vj (num c.g^num x%num c.m);have hi1: ∀ _:True,decide (((r+1:Nat):Int)<1)=false:=fun _=>aH oO
 have hi2: ∀ _:True,decide (((r+1:Nat):Int)>(c.sh.length:Int))=false:=fun _=>aH oO
 by_cases hb:num c.o<=num x\/num c.g^num x%num c.m≠num (c.sh.getD r [])
 case pos=>
  rw[ah hb];simp only[show¬(1:Int)=0 by decide,lH,au,nj]
  generalize num c.g^num x%num c.m=v at*;generalize ba (num x) (num c.o)=cm at*;generalize c.sh.getD r []=y at*;clear k0 k h4 hi;obtain⟨name,m,o,g,yy,need,sh⟩:=c;simp only[CK.pv]at*
  by_cases hx:num x<num o
  ·have hne:v≠num y:=by rcases hb with h|h;omega;exact h
   rw[aI hx]at hcg;rw[aH hne]at hbd;refine eW call10 func10 ?_;exact HW (aN @l1 (aN @e1 (aN (hw oT) (aN (hi1 oT) (aN (hi2 oT) (aN @hcg @hbd)))))) @v1 @u1 @u2 @u3 @u4 @v4 @v6 @c1 oT oT oT oT
  ·rw[aH hx]at hcg;refine eW call10 func10 ?_;exact HW (aN @l1 (aN @e1 (aN (hw oT) (aN (hi1 oT) (aN (hi2 oT) @hcg))))) @v1 @u1 @u2 @u3 @u4 @v4 @v6 @c1 oT oT oT oT
 case neg=>
  rw[ae hb];simp only[uU,an];have hx:num x<num c.o:=oO;have hy:num c.g^num x%num c.m=num (c.sh.getD r []):=Classical.byContradiction fun h=>hb (.inr h)
  rw[aI hx]at hcg;rw[aI hy]at hbd;obtain⟨d,hd⟩: ∃d,d=num A^num x%num c.m:=⟨_,rfl⟩;rw[<-hd];have hAg:iV c.m c.o A=true:=by have:=hAB.1;unfold jn at this;rw[aZ]at this;exact this.2
  obtain⟨-,gA⟩:=(cH k.e).1 hAg;have v7:=qo c lm lo k.e gA hvx;rw[eE hvA,show dh (num c.m) (num A) false (num x)=num A^num x%num c.m from rfl,<-hd]at v7
  have hdl:d<num c.m:=by rw[hd];exact aL _ oO
  have vd:aa (aX d)=true:=vN oO;have gd:iV c.m c.o (aX d)=true:=(cH k.e).2 ⟨vd,by rw[aP,hd];exact gA.pow _⟩
  have v5:=V1 hvx;have v8:=Hf c;have v9:=KL c oO (i:=r+1) oO;have w1:=KN c (i:=r+1) oO oO oO A (aX d);have hS:=zd k lm lo (i:=r+1) (a:=A) (d:=aX d) ((cH k.e).2 ⟨vj,gj⟩) hAg gd;have hB2:=zc c lm lo (i:=r+1) (a:=A) (d:=aX d) (cT k.vg) (cT vj) (cT hvA) (cT vd);have hxl:(mc c (r+1)).length<=100000:=by
   have: ∀i,i<100->(Lib.decDigits i).length<=2:=by decide+kernel
   have:=this (r+1) oO;simp[mc];omega
  have w2:=KR hS hB2 (by simp[eB]) (by
   intro q hq;simp only[eB,cr,kx,or_false]at hq;rcases hq with rfl|rfl<;>simp) rfl hxl (w:=[(num x:Int)]) (by simp) (fun z hz=>by simp at hz;subst hz;have:=lr;omega) (fun _=>Im c oO) (vs:=vs) (sd:=sd) (a:=a) hl hsd
  simp only[br,bK]at w2;rw[show Zp (num x:Int)= .agg [.b false, .s x] by show dI (gW (num x:Int))= _;rw[xH hvx];rfl]at w2
  have h0: ∀e,qn c.o [2] (mc c (r+1)) (eB c (r+1) A (aX d)) [(num x:Int)] vs sd a= .error e->e≠0:=fun e h=>Ai h
  generalize qn c.o [2] (mc c (r+1)) (eB c (r+1) A (aX d)) [(num x:Int)] vs sd a=R at*;rw[hy,eE vj]at v6;generalize ba (num x) (num c.o)=cm at*;generalize c.sh.getD r []=y at*;generalize mc c (r+1)=cx at*;generalize eB c (r+1) A (aX d)=S at*;clear hS hB2 k hy hd k0 h4 hi hb hbd;obtain⟨sg,sv,se⟩:=S;obtain⟨name,m,o,g,yy,need,sh⟩:=c;simp only[CK.pv,cG.pv]at*;rcases R with e|⟨ch,rs,j⟩
  all_goals
   first|have h0:=h0 _ rfl|skip
   simp only[RS,nj]at w2⊢;refine eW call10 func10 ?_;repeat' first|simp only[go_sem,seval,l1,e1,hw oT,hi1 oT,hi2 oT,hcg,dO,jl]|refine cP v1 ?_|refine cP u1 ?_|refine cP u2 ?_|refine cP u3 ?_|refine cP u4 ?_|refine cP v4 ?_|refine cP c1 ?_|refine cP v5 ?_|refine cP v6 ?_|refine cP v7 ?_|refine cP v8 ?_|refine cP v9 ?_|refine cP w1 ?_|refine cP w2 ?_|refine oE ?_|apply xX<;>intro hc
   all_goals rfl
theorem UQ (A B:Bytes):aD 6 [PA A B] (.b (decide (A.length<=12/\B.length<=12))):=by
 by_cases h1:A.length<=12
 case neg=>
  rw[aH fun h=>h1 h.1]
  refine eW call6 func6 ?_;exact z0
 by_cases h2:B.length<=12
 ·rw[aI ⟨h1,h2⟩];have d2:decide ((B.length:Int)<=12)=true:=aI oO;refine eW call6 func6 ?_;exact gn @d2
 ·rw[aH fun h=>h2 h.2]
  have d2:decide ((B.length:Int)<=12)=false:=aH oO;refine eW call6 func6 ?_;exact gn @d2
theorem KT (l:List Int) (hl:l.length<4611686018427387904):aD 97 [.sl (l.map Zp), .sl (l.map Zp)] (.b true):=by
 have l1:(l.map Zp).length=l.length:=aB ..;have e0: ∀n:Int,(n==n)=true:=fun n=>dO n
 refine eW call97 func97 ?_;refine cU (aN @l1 @e0) ?_;refine af (α:=Nat) (fun i=>l.length-i) (fun i=>⟨[(0, .v (.sl (l.map Zp))),(1, .v (.sl (l.map Zp))),(5,E' i)],[],_⟩) (fun i=>i<=l.length) 0 (fun _=>ay _) (aJ _) ?_ ?_
 ·exact lE
 ·intro i hi R hR
  by_cases hlt:i<l.length
  ·have e1:=getD_map Zp l 0 hlt;have hgo:=hR (i+1) oO oO;obtain⟨z,hz⟩: ∃z,z=l.getD i 0:=⟨_,rfl⟩;rw[<-hz]at e1;clear hz hR;rw[show Zp z=dI (gW z)from rfl]at e1
   generalize gW z=q at*;obtain⟨n,a⟩:=q;simp only[dI]at e1;have e2: ∀ _:True,(n==n)=true:=fun _=>dO _
   have e3: ∀ _:True,(a==a)=true:=fun _=>dO _
   repeat' first|simp only[go_sem,seval,l1,e1,uX,e2 oT,e3 oT]|refine oE ?_|apply xX<;>intro hc
   refine hgo _ ?_;exact lE
  ·obtain rfl:i=l.length:=oO;exact gn @l1
theorem Sj (ch:Bytes) {l:List Int} (hl:l.length<4611686018427387904):aD 46 [.agg [.s ch, .sl (l.map Zp), .sl [], .sl []], .agg [.s ch, .sl (l.map Zp), .sl [], .sl []]] (.b true):=by
 have h1:=KT l hl;have h2:=KU [] (by simp)
 have e1:=dO ch;simp only[bK]at h2;refine eW call46 func46 ?_;repeat' first|simp only[go_sem,seval,e1,jl]|refine cP h1 ?_|refine cP h2 ?_|(refine ai ?_)|refine oE ?_|apply xX<;>intro hc
 all_goals rfl
theorem sw (i:Int) (d ch:Bytes) {l:List Int} (hl:l.length<4611686018427387904):aD 11 [.agg [E i, .s d, .s ch, .sl (l.map Zp), .sl [], .sl []], .agg [E i, .s d, .s ch, .sl (l.map Zp), .sl [], .sl []]] (.b true):=by
 have h:=Sj ch hl;have e1:=dO d;have e2:=dO i;refine eW call11 func11 ?_;exact mi (aN @e1 @e2) @h
theorem QO (c:CK) (hc:c.sh.length<4611686018427387904) (A B:Bytes) (i:Int) (x:Bytes) (vs:List Bytes) (sd:Bytes) (a:Int) (hvs:vs.length<4611686018427387904):aD 3 [c.pv, .agg [.s A, .s B,E i, .s x],T vs sd a] (.b true):=by
 have hf:=J4 c hc;have hp:=UQ A B;have ht:=LF vs sd a hvs;have ha:=Gw
 cases hfb:CT c with
 |false=>
  rw[hfb]at hf;clear hfb;obtain⟨name,m,o,g,yy,need,sh⟩:=c;simp only[CK.pv]at*;refine eW call3 func3 ?_;exact z2 @hf @ha
 |true=>
 rw[hfb]at hf
 by_cases hpb:A.length<=12/\B.length<=12
 case neg=>
  rw[aH hpb]at hp;clear hfb;obtain⟨name,m,o,g,yy,need,sh⟩:=c;simp only[CK.pv]at*;refine eW call3 func3 ?_;exact z4 @hf @hp @ha oT
 rw[aI hpb]at hp
 by_cases hx:x.length<=12
 case neg=>
  clear hfb;obtain⟨name,m,o,g,yy,need,sh⟩:=c;simp only[CK.pv]at*;refine eW call3 func3 ?_;exact z4 @hf @hp @ha oT
 cases htb:IA vs sd with
 |false=>
  rw[htb]at ht;clear hfb;obtain⟨name,m,o,g,yy,need,sh⟩:=c;simp only[CK.pv]at*;refine eW call3 func3 ?_;exact z4 @hf @hp @ht @ha
 |true=>
 rw[htb]at ht;have hb:vs.length<=40/\sd.length<=100:=by
  unfold IA at htb;simp only[aZ,cq]at htb;exact htb.2
 have hs:c.m.length<=8/\c.o.length<=8/\c.g.length<=12/\c.y.length<=12/\c.sh.length<=8/\c.name.length<=60:=by
  unfold CT at hfb;rw[aZ]at hfb;exact of_decide_eq_true hfb.2
 obtain⟨lm,lo,-,-,ls,ln⟩:=hs;have s1:=GF c ln lm lo ls i x A B (vs:=vs) (sd:=sd) (a:=a) oO oO;have s2:=Hz c ln lm lo ls i x A B (vs:=vs) (sd:=sd) (a:=a) oO oO;unfold AA at s1 s2
 by_cases he:pj c i x A B vs a=0
 case neg=>
  rw[ah he]at s1 s2;have t1:=sw 0 [] [] (l:=[]) (by simp)
  have t2:=wc [] [] 0 (by simp)
  simp only[nj]at s1 s2;simp only[bK]at t1 t2;have e1:=dO (pj c i x A B vs a);have e2:(pj c i x A B vs a !=0)=true:=bne_iff_ne.2 he;generalize pj c i x A B vs a=e at*;clear hfb;obtain⟨name,m,o,g,yy,need,sh⟩:=c;simp only[CK.pv]at*;refine eW call3 func3 ?_;exact HW (aN @e1 @e2) @hf @hp @ht @ha @s1 @s2 @t1 @t2 oT oT oT oT
 rw[ae (by simpa using he)]at s1 s2
 cases hR:qn c.o [2] (mc c i.toNat) (eB c i.toNat A (aX (num A^num x%num c.m))) [(num x:Int)] vs sd a with
 |error e=>
  rw[hR]at s1 s2;have h0:=Ai hR;have t1:=sw 0 [] [] (l:=[]) (by simp)
  have t2:=wc [] [] 0 (by simp)
  simp only[nj]at s1 s2;simp only[bK]at t1 t2;have e1:=dO e;have e2:(e !=0)=true:=bne_iff_ne.2 h0;clear hfb hR he;obtain⟨name,m,o,g,yy,need,sh⟩:=c;simp only[CK.pv]at*;refine eW call3 func3 ?_;exact HW (aN @e1 @e2) @hf @hp @ht @ha @s1 @s2 @t1 @t2 oT oT oT oT
 |ok R=>
 obtain⟨ch,rs,j⟩:=R;rw[hR]at s1 s2;simp only[nj]at s1 s2;have hrl:=Hy hR;have hrl:rs.length=1:=hrl;have hC:aD 13 [c.pv,PA A B, .agg [E i.toNat,N (num A^num x%num c.m), .s ch, .sl (rs.map Zp), .sl [], .sl []]] (E 0):=by
  unfold pj at he
  split at he
  ·rename_i h1;exact aW he h1
  rename_i h1
  split at he
  ·cases he
  rename_i h2
  split at he
  ·rename_i h3;exact aW he h3
  rename_i h3
  split at he
  ·cases he
  rename_i h4;have k:=ov (show fp c=0 by simpa using h1)
  obtain⟨i1,i2,hAB⟩:=Nl (show pR c i [A,B]=0 by simpa using h3)
  simp only[List.all_cons,List.all_nil,jB,aZ]at hAB;have hv:aa x=true/\aa A=true/\aa B=true:=by
   simp only[lB,fJ,not_or,D8,List.all_cons,List.all_nil,jB,aZ]at h2;exact h2.1
  have hm:=eP lm;have gA:GP c.m c.o (num A):=by
   have:=hAB.1;unfold jn at this;rw[aZ]at this;exact((cH k.e).1 this.2).2
  have gd:GP c.m c.o (num A^num x%num c.m):=gA.pow _;have:=gd.lt;have hy:num c.g^num x%num c.m=num (c.sh.getD (i.toNat-1) []):=Classical.byContradiction fun h=>h4 (.inr h)
  have hz:=GD k lo gA hy (by rw[aP]) hR
  have hG:ShG c A (i.toNat,num A^num x%num c.m,ch,rs):=⟨by simp only;omega,by simp only;omega,gd,by simp only;omega,hz⟩
  exact UK c ln lm lo ls (by simpa using h1) (QI c ln lm lo ls k hAB.1 hAB.2 hv.2.1 hv.2.2 hG)
 have t1:=sw i.toNat (aX (num A^num x%num c.m)) ch (l:=rs) oO;have t2:=wc vs sd (j:Nat) hvs;generalize num A^num x%num c.m=d at*;generalize (i.toNat:Int)=i' at*;clear hfb hR he;obtain⟨name,m,o,g,yy,need,sh⟩:=c;simp only[CK.pv]at*;refine eW call3 func3 ?_;repeat' first|simp only[go_sem,seval,dO,jl]|refine cP hf ?_|refine cP hp ?_|refine cP ht ?_|refine cP ha ?_|refine cP s1 ?_|refine cP s2 ?_|refine cP t1 ?_|refine cP t2 ?_|refine cP hC ?_|refine oE ?_|apply xX<;>intro hc
 all_goals rfl
end Go.Proofs.Tryz
namespace Go.Proofs.YtkmahpcpmgedkaaGreatDoor
open Go Go.Dom Go.ChangeShapes Go.WideShapes Go.ChangeAt Go.RowKit Go.Proofs.Tryz
theorem Bt (os:Os) (started:os.Started) (H:Type) (enc:TypeId×Value->H):
  ReturnsInHanded {} Tryz.checked os 3 .any (fun w args=>(Rows.courtSharesSpec.pre enc Tryz.prog Tryz.f3 [] false w args/\laidMetH Tryz.prog wQ w)/\sizedMet enc Tryz.prog Tryz.f3 (OpenSpec.ofChange Rows.courtSharesSpec) false w args)
   (Rows.courtSharesSpec.post enc Tryz.prog Tryz.f3 false true false false):=by
 refine returnsInHanded_of_change_and (C:=Tryz.checked) (X:=fun w _=>laidMetH Tryz.prog wQ w) (fun _ _ _ hh h=>h.of_heap hh) aaq started (by kernel_rfl) Tryz.func3
  (ChangeSpec.witness_shaped (enc:=enc) (C:=Tryz.checked) (os:=os) (X:=fun w _=>laidMetH Tryz.prog wQ w) false (World.laidAll Tryz.prog os wQ) #[.agg #[.string ⟨#[]⟩, .string ⟨#[]⟩, .string ⟨#[]⟩, .string ⟨#[]⟩, .string ⟨#[]⟩, .int .i64 0, .slice none 0 0], .agg #[.string ⟨#[]⟩, .string ⟨#[]⟩, .int .i64 0, .string ⟨#[]⟩], .agg #[.slice none 0 0, .string ⟨#[]⟩, .int .i64 0]] 8 (World.laidAll_os _ _ _)
   (World.shaped_of_ZipB (by kernel_rfl) (by kernel_rfl)) (by kernel_rfl) (by kernel_rfl) (by kernel_rfl)
   (by rw[MakeChecks.laidMetH_plain _ _ _ (by kernel_rfl)];exact laidMet_laidAll _ (by kernel_rfl) (by kernel_rfl))) ?_
 intro W base args ds gs before hval0 hW hcnd hwt hL _;rw[MakeChecks.laidMetH_plain _ _ _ (by kernel_rfl)]at hL
 have hval: ∀(j:Nat) t v,Tryz.f3.params[j]?=some t->args[j]?=some v->Value.okWide Tryz.prog W .any base t v:=hval0;have hW':=hW;obtain⟨p,q,hA0,hV,rfl,hfz,hnd⟩:=hW;have hA:DataW.TrodAll enc Tryz.prog W 0 (fun _=>true) true Tryz.f3.params.toList args.toList ds p:=hA0
 have hlt: ∀x∈p++q,x.block<W.heap.size:=fun x hx=>hW'.lt x hx
 rw[Tryz.params3]at hA hval;obtain⟨v0,v1,v2,d0,d1,d2,p0,p1,p2,rfl,rfl,rfl,h0,h1,h2⟩:=trodAll_three hA;obtain⟨rfl,rfl⟩:=trodVars_none hV;have hall:=bM.1 hwt;have rb:=reachBytes_lt;have hv0:=hval 0 29 v0 rfl rfl;unfold Value.okWide at hv0;rw[Tryz.underlying29]at hv0;simp only at hv0;obtain⟨c0,rfl,s0,-⟩:=hv0;have w0: ∀m∈d0.weights Tryz.prog 29,m<=reachBytes:=fun m hm=>of_decide_eq_true (hall m (DataW.weights_mem_each (j:=0) rfl rfl m hm))
 obtain⟨n0,t0⟩:=id h0;obtain⟨Tt,r0,o0,y0⟩:=DD 9 n0 _ c0.toList d0 p0 aan t0 w0;obtain⟨ck,ea0,hck⟩:=YH y0;have q0:PR (Gk W) ck.pv (.agg c0):=by
  rw[<-ea0];have:=PR.agg (rd:=Gk W) Tt c0.toList o0 r0.1 r0.2;simpa using this
 have hv1:=hval 1 35 v1 rfl rfl;unfold Value.okWide at hv1;rw[Tryz.underlying35]at hv1;simp only at hv1;obtain⟨c1,rfl,s1,-⟩:=hv1;have w1: ∀m∈d1.weights Tryz.prog 35,m<=reachBytes:=fun m hm=>of_decide_eq_true (hall m (DataW.weights_mem_each (j:=1) rfl rfl m hm))
 obtain⟨n1,t1⟩:=id h1;obtain⟨B8,r1,o1,y1⟩:=DD 9 n1 _ c1.toList d1 p1 aao t1 w1;obtain⟨cA,cB,cI,cX,ea1⟩:=YJ y1;have q1:PR (Gk W) (.agg [.s cA, .s cB,E cI, .s cX]) (.agg c1):=by
  rw[<-ea1];have:=PR.agg (rd:=Gk W) B8 c1.toList o1 r1.1 r1.2;simpa using this
 have hv2:=hval 2 37 v2 rfl rfl;unfold Value.okWide at hv2;rw[Tryz.underlying37]at hv2;simp only at hv2;obtain⟨c2,rfl,s2,-⟩:=hv2;have w2: ∀m∈d2.weights Tryz.prog 37,m<=reachBytes:=fun m hm=>of_decide_eq_true (hall m (DataW.weights_mem_each (j:=2) rfl rfl m hm))
 obtain⟨n2,t2⟩:=id h2;obtain⟨pv2,r2,o2,y2⟩:=DD 9 n2 _ c2.toList d2 p2 aap t2 w2;obtain⟨vs,sd,at2,ea2,hvs⟩:=YP y2;have q2:PR (Gk W) (T vs sd at2) (.agg c2):=by
  rw[<-ea2];have:=PR.agg (rd:=Gk W) pv2 c2.toList o2 r2.1 r2.2;simpa using this
 obtain⟨g,hg,hc⟩:=QO ck (by omega) cA cB cI cX vs sd at2 (by omega)
 have hg3:g=3:=by
  have a1:=hg #[] W;have a2:=Tryz.call3 #[] W;rw[a1]at a2;injection a2 with a2 _
  injection a2
 subst hg3;refine(hc W (Gk W) [.agg c0, .agg c1, .agg c2] (Ln hL) (fun _ _ _ h=>h) (.cons q0 (.cons q1 (.cons q2 .nil)))).mono ?_
 rintro e W' ⟨v,rfl,hb,hpr⟩;cases hpr;refine⟨_,rfl,KD (pa:=p0++(p1++p2)) (pv:=[]) hW' (fun _ _ _=>trodAll_mk1 (shut_bool TJ true)) (fun sp hsp=>trodAll_mk3 (WideElems.Trod_stays Nv (by kernel_rfl) (of_decide_eq_true (by kernel_rfl)) h0 (fun x hx=>hb.same (hlt x (by simp[hx]))) (fun x hx=>hsp x (by simp[hx]))) (WideElems.Trod_stays Nv (by kernel_rfl) (of_decide_eq_true (by kernel_rfl)) h1 (fun x hx=>hb.same (hlt x (by simp[hx]))) (fun x hx=>hsp x (by simp[hx]))) (WideElems.Trod_stays Nv (by kernel_rfl) (of_decide_eq_true (by kernel_rfl)) h2 (fun x hx=>hb.same (hlt x (by simp[hx]))) (fun x hx=>hsp x (by simp[hx])))) (fun _ _=>rfl) (by simp) hb (ok_one (by kernel_rfl) rfl (okWide_bool_mk TJ true))⟩
