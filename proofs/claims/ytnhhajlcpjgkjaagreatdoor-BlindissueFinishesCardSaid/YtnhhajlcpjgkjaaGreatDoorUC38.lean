/- Part of the proof. -/
import Derived.Test.YtnhhajlcpjgkjaaGreatDoorRows
import Derived.Test.YtnhhajlcpjgkjaaGreatDoorCards
import Derived.Test.YtnhhajlcpjgkjaaGreatDoorTie
import Derived.ProofKit
import Derived.ChangeSame
import Derived.Lay
import Derived.LaidOnce
import Derived.SevenTiedAt
import Derived.Lib.LaidU8
import Derived.Test.YtnhhajlcpjgkjaaGreatDoorUC37
set_option linter.all false
set_option maxHeartbeats 16000000
set_option maxRecDepth 100000
namespace Go.Proofs.YtnhhajlcpjgkjaaGreatDoor
open Go Go.Dom Go.ChangeShapes Go.WideShapes Go.ChangeAt Go.RowKit Go.Proofs.Tryz
variable {ps:List PV} {x y:PV}
theorem Xq:ownKnob Tryz.prog.godebug=none:=by kernel_rfl
theorem Ef:laidOutB Tryz.prog=true:=by kernel_rfl
theorem IA:Tryz.prog.underlying 4=some .bool:=by kernel_rfl
theorem uS:Tryz.prog.underlying 9=some .string:=by kernel_rfl
theorem uN:Tryz.prog.underlying 22=some .string:=by kernel_rfl
theorem uLN:Tryz.prog.underlying 31=some (.slice 22):=by kernel_rfl
theorem cS:Tryz.prog.cellsOf 9=1:=by kernel_rfl
theorem cN:Tryz.prog.cellsOf 22=1:=by kernel_rfl
theorem Zc:Tryz.prog.cellsOf 31=1:=by kernel_rfl
theorem Z5:Tryz.prog.cellsOf 26=2:=by kernel_rfl
theorem isN:kM Tryz.prog 22=false:=by kernel_rfl
theorem bN:Tryz.prog.bytesOf 22=16:=by kernel_rfl
theorem tk (h:List.take 1 ps=[x]):ps=x::List.drop 1 ps:=by cases ps<;>simp_all
theorem ZT (h:List.take 2 ps=[x,y]):ps=x::y::List.drop 2 ps:=by
 rcases ps with _|⟨a,_|⟨b,r⟩⟩<;>simp_all
theorem ZU {z u:PV} (h:List.take 4 ps=[x,y,z,u]):ps=x::y::z::u::List.drop 4 ps:=by
 rcases ps with _|⟨a,_|⟨b,_|⟨c,_|⟨d,r⟩⟩⟩⟩<;>simp_all
theorem F2 {α:Type} {f:α->PV}: ∀{l:List PV},(∀x∈l,∃a,x=f a)-> ∃al:List α,l=al.map f:=by
 intro l
 induction l with
 |nil=>intro _;exact⟨[],rfl⟩
 |cons x l ih=>
  intro h;obtain⟨a,rfl⟩:=h x (by simp)
  obtain⟨al,rfl⟩:=ih fun y hy=>h y (by simp[hy])
  exact⟨a::al,rfl⟩
theorem AG (h:x.cells=[y]) (h1:x.one=true):x=y:=by
 cases x<;>first|(simpa[PV.cells]using h)|(simp[PV.one]at h1)
theorem jG {k:Nat} (h:kW Tryz.prog (k+1) 22 ps): ∃b:Bytes,ps=[.s b]:=by
 simp only[kW,uN]at h;obtain⟨x,rfl,-⟩:=h;exact⟨x,rfl⟩
theorem Sh {k:Nat} (h:kW Tryz.prog (k+1) 9 ps): ∃b:Bytes,ps=[.s b]:=by
 simp only[kW,uS]at h;obtain⟨x,rfl,-⟩:=h;exact⟨x,rfl⟩
theorem N0 {k:Nat} (h:kW Tryz.prog (k+2) 31 ps): ∃bs:List Bytes,ps=[.sl (bs.map PV.s)]/\bs.length*16<=reachBytes:=by
 simp only[kW,uLN,uN,isN,bN]at h;obtain⟨l,rfl,hb,hl⟩:=h;obtain⟨bs,rfl⟩:=F2 (f:=PV.s) (l:=l) fun x hx=>by
  obtain⟨⟨s,h1,-⟩,h2⟩:=hl x hx;exact⟨s,AG h1 (by simpa using h2)⟩
 exact⟨bs,rfl,by simpa using hb⟩
theorem Se {k:Nat} (h:kW Tryz.prog (k+2) 26 ps): ∃a b:Bytes,ps=[.s a, .s b]:=by
 rw[kW,Tryz.underlying26]at h;simp only[qK,cN]at h;obtain⟨h1,h2,h3⟩:=h;obtain⟨a,h1⟩:=jG h1;obtain⟨b,h2⟩:=jG h2;exact⟨a,b,by rw[tk h1,tk h2,h3]⟩
section
variable {H:Type} {enc:TypeId×Value->H} {P:Program}
theorem AH {f:Func} {s:ChangeSpec} {apart fresh handsOn again:Bool} {W W':World} {args:Array Value} {v:Value} {ds gs:List (DataW H)} {before pa pv:List MemPlace}
  (hW:DataW.Whole enc P f.params.toList s.vars apart W args.toList ds gs before)
  (hres: ∀(b:Nat) (sp:Nat->Bool) (hd:Bool),DataW.TrodAll enc P W' b sp hd f.resultTypes.toList (v.resultList f.resultTypes.size) (s.fn H (ds++gs)).results [])
  (hargs: ∀sp:Nat->Bool,(∀p∈before,sp p.block=true)->DataW.TrodAll enc P W' 0 sp true f.params.toList args.toList (s.fn H (ds++gs)).args pa)
  (hvars: ∀sp:Nat->Bool,(∀p∈before,sp p.block=true)->DataW.TrodVars enc P W' sp s.vars (s.fn H (ds++gs)).vars pv)
  (hps:before=pa++pv) (hb:Below W.heap.size W W')
  (hok: ∀(j:Nat) (t:TypeId) (r:Value),f.resultTypes[j]?=some t->(v.resultList f.resultTypes.size)[j]?=some r->Value.okWide P W' .any 0 t r):
  s.post enc P f apart fresh handsOn again W args v W':=by
 have hlt: ∀p∈before,p.block<W.heap.size:=fun p hp=>hW.lt p hp
 have hold: ∀p∈before,(fun b=>decide (b<W.heap.size)) p.block=true:=fun p hp=>by simpa using hlt p hp
 refine⟨ds,gs,before,[],pa,pv,hW,hres _ _ _,hargs _ hold,hvars _ hold,World.keptBut_mono (fun p hp=>⟨hp,?_⟩) (hb.frame (·∈before)),fun _=> ?_⟩
 ·rw[hps,iw]at hp;exact Or.inr hp
 ·obtain⟨_,_,_,_,_,hz,hn⟩:=hW;refine⟨hok,_,_,([]++pa)++pv,⟨[]++pa,pv,trodAll_append (hargs _ (fun _ _=>rfl)) (hres _ _ _),hvars _ (fun _ _=>rfl),rfl,?_,?_⟩,?_⟩
  ·intro b off hp;have hin:MemPlace.cell b off∈before:=by rw[hps];simpa using hp
   rw[hb.frozen (hlt _ hin)];exact hz b off hin
  ·intro ha;have:=hn ha;rw[hps]at this;simpa using this
  ·intro p hp _;rw[hps];simpa using hp
end
def pf:List (String×DataW Unit):=[("math/bits.deBruijn32tab",Rows.laid_math_bits_deBruijn32tab),("math/bits.deBruijn64tab",Rows.laid_math_bits_deBruijn64tab),("internal/strconv.uint64pow10",Rows.laid_internal_strconv_uint64pow10)]
theorem uQ {W:World} {n:String} {g:Nat} {t e:TypeId} {k:IntKind} {m:Nat} {zs:List Int} (h:Lib.VarReads Tryz.prog W n (Lib.tabData k zs)) (hg:Tryz.prog.globalNamed n=some g) (ht:(Tryz.prog.globals[g]?).map (·.type)=some t) (hu:Tryz.prog.underlying t=some (.array m e)) (he:Tryz.prog.underlying e=some (.int k)) (hce:Tryz.prog.cellsOf e=1) (hct:Tryz.prog.cellsOf t=m) (i:Nat):
  W.cell? ⟨g,i,none⟩=(zs[i]?).map fun z=>Value.int k z:=by
 obtain⟨g',t',cs,fuel,p,h1,h2,h3,h4⟩:=h;obtain rfl:=qB (hg.symm.trans h1);obtain rfl:=qB (ht.symm.trans h2);have h5:=Lib.cells_of_tab hu he hce hct h4;rw[World.var?_cell h1 h3 i,<-Array.getElem?_toList,h5,gL]
theorem Bf {W:World} (h:laidMet Tryz.prog pf W): ∀b o v,TR Tryz.prog b o=some v->W.cell? ⟨b,o,none⟩=some v:=by
 have h1:=fun i=>uQ (Lib.laidMet.reads h (n:= "math/bits.deBruijn32tab") (d:=Lib.tabData .u8 mX) (by simp[pf];rfl)) (g:=5) (t:=517) (e:=5) (m:=32) (by kernel_rfl) (by kernel_rfl) (by kernel_rfl) (by kernel_rfl) (by kernel_rfl) (by kernel_rfl) i
 have h2:=fun i=>uQ (Lib.laidMet.reads h (n:= "math/bits.deBruijn64tab") (d:=Lib.tabData .u8 mY) (by simp[pf];rfl)) (g:=1) (t:=465) (e:=5) (m:=64) (by kernel_rfl) (by kernel_rfl) (by kernel_rfl) (by kernel_rfl) (by kernel_rfl) (by kernel_rfl) i
 have h3:=fun i=>uQ (Lib.laidMet.reads h (n:= "internal/strconv.uint64pow10") (d:=Lib.tabData .u64 pg) (by simp[pf];rfl)) (g:=4) (t:=514) (e:=80) (m:=20) (by kernel_rfl) (by kernel_rfl) (by kernel_rfl) (by kernel_rfl) (by kernel_rfl) (by kernel_rfl) i
 intro b o v hv;have key: ∀(k:IntKind) (zs:List Int),((zs.map fun n=>(k,n))[o]?).map (fun p:IntKind×Int=>Value.int p.1 p.2)=(zs[o]?).map fun z=>Value.int k z:=by
  intro k zs;rw[gL,Option.map_map];rfl
 unfold TR at hv;simp only[cE.tab,List.lookup]at hv
 by_cases e1:b=5
 ·subst e1;rw[h1 o,<-key];simpa using hv
 ·by_cases e2:b=1
  ·subst e2;rw[h2 o,<-key];simpa using hv
  ·by_cases e3:b=4
   ·subst e3;rw[h3 o,<-key];simpa using hv
   ·simp only[show(b==5)=false from beq_eq_false_iff_ne.2 e1,show(b==1)=false from beq_eq_false_iff_ne.2 e2,show(b==4)=false from beq_eq_false_iff_ne.2 e3]at hv
    cases hv
end Go.Proofs.YtnhhajlcpjgkjaaGreatDoor
namespace Go.Proofs.YtnhhajlcpjgkjaaGreatDoor
open Go Go.Dom Go.ChangeShapes Go.WideShapes Go.ChangeAt Go.RowKit Go.Proofs.Tryz
variable {ps:List PV}
theorem cRu:Tryz.prog.cellsOf 24=2:=by kernel_rfl
theorem cPe:Tryz.prog.cellsOf 28=4:=by kernel_rfl
theorem Yu {k:Nat} (h:kW Tryz.prog (k+2) 24 ps): ∃a b:Bytes,ps=[.s a, .s b]:=by
 rw[kW,Tryz.underlying24]at h;simp only[qK,cN]at h;obtain⟨h1,h2,h3⟩:=h;obtain⟨a,h1⟩:=jG h1;obtain⟨b,h2⟩:=jG h2;exact⟨a,b,by rw[tk h1,tk h2,h3]⟩
theorem Sg {k:Nat} (h:kW Tryz.prog (k+3) 28 ps): ∃a b c d:Bytes,ps=[.s a, .s b, .s c, .s d]:=by
 rw[kW,Tryz.underlying28]at h;simp only[qK,cN,Z5]at h;obtain⟨h1,h2,h3,h4⟩:=h;obtain⟨a,b,h1⟩:=Se h1;obtain⟨c,h2⟩:=jG h2;obtain⟨d,h3⟩:=jG h3;exact⟨a,b,c,d,by rw[ZT h1,tk h2,tk h3,h4]⟩
theorem Ys (h:kW Tryz.prog 9 30 ps): ∃p:cq, .agg ps=p.pv:=by
 rw[kW,Tryz.underlying30]at h;simp only[qK,cN,cRu,cPe]at h;obtain⟨h1,h2,h3,h4,h5,h6,h7,h8,h9,h10,h11⟩:=h;obtain⟨a1,a2,h1⟩:=Yu h1;obtain⟨b1,b2,b3,b4,h2⟩:=Sg h2;obtain⟨c1,c2,c3,c4,h3⟩:=Sg h3;obtain⟨d4,h4⟩:=jG h4;obtain⟨d5,h5⟩:=jG h5;obtain⟨d6,h6⟩:=jG h6;obtain⟨d7,h7⟩:=jG h7;obtain⟨d8,h8⟩:=jG h8;obtain⟨d9,h9⟩:=jG h9;obtain⟨d10,h10⟩:=jG h10;refine⟨⟨a1,a2,b1,b2,b3,b4,c1,c2,c3,c4,d4,d5,d6,d7,d8,d9,d10⟩,?_⟩;rw[ZT h1,ZU h2,ZU h3,tk h4,tk h5,tk h6,tk h7,tk h8,tk h9,tk h10,h11];rfl
theorem Yr (h:kW Tryz.prog 9 33 ps): ∃k:Key, .agg ps=k.pv/\k.r.length*16<=reachBytes:=by
 rw[kW,Tryz.underlying33]at h;simp only[qK,cN,cS,Z5,Zc]at h;obtain⟨h1,h2,h3,h4,h5,h6,h7,h8⟩:=h;obtain⟨a,h1⟩:=Sh h1;obtain⟨m,o,h2⟩:=Se h2;obtain⟨z,h3⟩:=jG h3;obtain⟨s,h4⟩:=jG h4;obtain⟨r,h5,hb⟩:=N0 h5;obtain⟨u,h6⟩:=jG h6;obtain⟨v,h7⟩:=jG h7;refine⟨⟨a,m,o,z,s,r,u,v⟩,?_,hb⟩;rw[tk h1,ZT h2,tk h3,tk h4,tk h5,tk h6,tk h7,h8];rfl
theorem uI0:Tryz.prog.underlying 3=some (.int .i64):=by kernel_rfl
theorem cI0:Tryz.prog.cellsOf 3=1:=by kernel_rfl
end Go.Proofs.YtnhhajlcpjgkjaaGreatDoor
namespace Go.Proofs.Tryz
open Go Go.Dom
end Go.Proofs.Tryz
namespace Go.Proofs.Tryz
open Go Go.Dom Go.Num
def Key.rb (k:Key):List Bytes:=k.z::k.u::k.h::k.r
theorem Hp (a b c:Bytes) (r:List Bytes):(AV.v (.s a)::AV.v (.s b)::AV.v (.s c)::List.map AV.v (List.flatMap PV.cells (List.map PV.s r)))=List.map AV.v (List.map PV.s (a::b::c::r)):=by rw[ry];rfl
theorem J6 (k:Key) (hr:k.r.length<1000000):aE 107 [k.pv] (.sl (k.rb.map .s)):=by
 obtain⟨name,m,o,z,s,r,u,h⟩:=k;unfold Key.pv Key.rb;simp only at*;have e:=Hp z u h r
 by_cases h0:r=[]
 ·subst h0;refine eW call107 func107 ?_;exact z0
 have hr0:(r.length=0)=False:=by rw[eq_iff_iff,iff_false];intro g;exact h0 (fg.1 g)
 obtain⟨ys,hys⟩: ∃ys,ys=z::u::h::r:=⟨_,rfl⟩;have hyl:3+r.length=ys.length:=by rw[hys];simp;omega
 rw[<-hys]at e⊢;obtain⟨r1,r2,r3,r4⟩:=Nv ys;have r5:(List.map AV.v (List.map PV.s ys)).length=ys.length:=by simp
 have r7:(List.flatMap PV.cells (List.map PV.s r)).length+1+1+1=ys.length:=by rw[ry,hys];simp
 refine eW call107 func107 ?_;refine eC @hr0 ?_;refine⟨⟨fun x hx=>kq hx,fun y hy=>ow hy,oO,oO⟩,?_⟩
 exact gU (aN @e (aN @hyl (aN @r2 (aN @r3 (aN @r4 (aN @r5 (aN @r7 @ie)))))))
def Key.l (k:Key):List Bytes:=k.m::k.o::k.s::k.rb
theorem IY (k:Key):k.iT.all (fun y=>aa (Fo y))=(k.s::k.rb).all aa:=by
 simp[Key.iT,Key.rb,rV,Fo,List.all_map,Function.comp_def]
theorem IZ (k:Key):k.iT.any (rB k.m)=(k.s==[1]||(k.s::k.rb).any (fun x=> !dx k.m [] x)):=by
 have e: ∀b,rB k.m (rV 0 b)= !dx k.m [] b:=fun b=>by simp[rB,rV,Fo,Xj]
 have e1: ∀b,rB k.m (rV 1 b)= !dx k.m [] b:=fun b=>by simp[rB,rV,Fo,Xj]
 have e2: ∀b,rB k.m (rV 2 b)=(!dx k.m [] b||b==[1]):=fun b=>by simp[rB,rV,Fo,Xj]
 simp only[Key.iT,Key.rb,List.any_cons,List.any_map,Function.comp_def,e,e1,e2]
 cases dx k.m [] k.s<;>cases(k.s==[1])<;>simp
theorem FU (m:Bytes):gE m []=AL m:=by
 unfold gE AL;have hv0:aa []=true:=rfl
 cases aa m<;>simp[hv0]
theorem D4 {l:List Bytes} {i:Nat} (h:i<l.length):(List.map AV.v (List.map PV.s l)).getD i .u= .v (.s (l.getD i [])):=by
 simp[ca,h]
theorem pO (p:cq) (k:Key) (pe:Int) (hp:aE 106 [p.pv] (E pe)) (lm:k.m.length<=8) (ln:k.name.length<=60) (lr:k.r.length<=20):aE 43 [p.pv,k.pv] (E (fa pe k)):=by
 have hb:=J6 k oO;have hnm:=Na k.name ln;have hg:=mV lm (o:=[]) oC;have hhas:=nQ lm (o:=[]) oC;rw[FU]at hg;have hE: ∀e,fa pe k=e->aE 43 [p.pv,k.pv] (E e)->aE 43 [p.pv,k.pv] (E (fa pe k)):=fun e h g=>by rw[h];exact g
 by_cases h0:pe=0
 case neg=>
  refine hE pe (by simp[fa,h0]) ?_
  unfold cq.pv Key.pv at*;refine eW call43 func43 ?_;exact z1 @hp
 subst h0;clear hE;obtain⟨ys,hys⟩: ∃ys,ys=k.l:=⟨_,rfl⟩;have hyl:ys.length=6+k.r.length:=by rw[hys];simp[Key.l,Key.rb];omega
 have hrl:(k.rb.map PV.s).length=k.rb.length:=aL ..;have hrb:k.rb.length=3+k.r.length:=by simp[Key.rb];omega
 have hcl:(AV.v (.s k.m)::AV.v (.s k.o)::AV.v (.s k.s)::List.map AV.v (List.flatMap PV.cells (List.map PV.s k.rb)))=List.map AV.v (List.map PV.s ys):=by rw[hys];exact Hp _ _ _ _
 have hke:fa 0 k=if !(ys.all aa)then 3 else if !mi k.name then 1 else if !(k.o==[])||decide (AL k.m≠0)then 13 else if k.r.length<2\/k.r.length>18 then 6 else if k.s==[1]||(ys.drop 2).any (fun x=> !dx k.m [] x)then 13 else 0:=by
  unfold fa;rw[IY,IZ,hys];simp only[Key.l,List.all_cons,CG,List.drop_zero]
  cases aa k.m<;>cases aa k.o<;>simp
 rw[hke];clear hke;have hr0:(3+k.r.length=0)=False:=by rw[eq_iff_iff,iff_false];omega
 have hin: ∀x,AL k.m=0->vE k.m [] x=dx k.m [] x:=fun x h=>by
  simp[vE,FU,h,jF]
 generalize k.rb=rb at*;obtain⟨name,m,o,z,s,r,u,h⟩:=k;unfold cq.pv Key.pv at*;simp only at*;refine eW call43 func43 ?_;refine tO (aN @hrl (aN @hrb @hr0)) @hp @hb ?_;refine⟨⟨fun x hx=>kq hx,fun y hy=>ow hy,oO,oO⟩,?_⟩
 refine eC @hcl ?_;have hl2:(List.map AV.v (List.map PV.s ys)).length=ys.length:=by simp
 refine ak (α:=Nat) (fun i=>ys.length-i) (fun i=>⟨[(3, .p 1001 0 0),(6, .rs 1019 0 0 ys.length 1),(7,E' i)],[(1001,⟨0,[.v (.s name), .v (.s m), .v (.s o), .v (.s z), .v (.s s), .v (.sl (r.map .s)), .v (.s u), .v (.s h)],false,none⟩),(1019,⟨0,List.map AV.v (List.map PV.s ys),true,some 22⟩)],_⟩) (fun i=>i<=ys.length/\(ys.drop i).all aa=ys.all aa) 0 (fun _=>aD _) ⟨aR _,rfl⟩ ?_ ?_
 ·(refine AS.Le.of (by first|decide|omega) ?_ ?_<;>simp[dA,dz,aS,aB,AV.bd,AV.bd.bdL,u8,aq,au,aA])
  all_goals omega
 ·rintro i ⟨hi,hf⟩ R hR
  by_cases hlt:i<ys.length
  ·have e1:=D4 hlt;rw[drop_cons hlt,List.all_cons]at hf;have hgo:=hR (i+1);have hv:=aI (ys.getD i []);clear hR;generalize ys.getD i []=y at*
   cases hvy:aa y
   ·rw[hvy]at hv hf;rw[<-hf,db];exact lF (aN @e1 @hl2) @hv
   ·rw[hvy]at hv hf;rw[cj]at hf;have hgo:=hgo ⟨oO,hf⟩ oO;exact kp (aN @e1 @hl2) @hgo @hv
  ·obtain rfl:i=ys.length:=oO;have hall:ys.all aa=true:=by rw[<-hf,dn];rfl
   rw[hall]
   cases hn:mi name
   ·rw[hn]at hnm;exact lF @hl2 @hnm
   rw[hn]at hnm
   by_cases ho:o=[]
   case neg=>
    have hob:(o==([]:Bytes))=false:=by simpa using ho
    rw[hob];exact lF (aN @hl2 @hob) @hnm
   subst ho
   by_cases hpw:AL m=0
   case neg=>
    rw[aV hpw];generalize AL m=pw at*;repeat' first|simp only[go_sem,seval,hl2,aL,nn]|refine cP hnm ?_|refine cP hg ?_|refine oE ?_|apply xX<;>intro hc
    all_goals first|(exact aM (by assumption) hpw)|skip
   rw[hpw]at hg;have hd0:decide (AL m≠0)=false:=by simp[hpw]
   rw[hd0];have hin':=fun x=>hin x hpw
   by_cases hr3:r.length<2\/r.length>18
   ·rw[ah hr3];exact zA (aN @hl2 @nn) @hnm @hg
   rw[af hr3]
   by_cases hs1:s=[1]
   ·subst hs1;repeat' first|simp only[go_sem,seval,hl2,aL,nn,fW]|refine cP hnm ?_|refine cP hg ?_|refine oE ?_|apply xX<;>intro hc
    all_goals rfl
   have hsb:(s==([1]:Bytes))=false:=by simpa using hs1
   rw[hsb,jx];refine G4 (aN @hl2 (aN @nn @hsb)) @hnm @hg ?_;refine ak (α:=Nat) (fun i=>ys.length-i) (fun i=>⟨[(3, .p 1001 0 0),(6, .rs 1019 0 0 ys.length 1),(8,E' i)],[(1001,⟨0,[.v (.s name), .v (.s m), .v (.s []), .v (.s z), .v (.s s), .v (.sl (r.map .s)), .v (.s u), .v (.s h)],false,none⟩),(1019,⟨0,List.map AV.v (List.map PV.s ys),true,some 22⟩)],_⟩) (fun i=>i<=ys.length/\(ys.drop i).any (fun x=> !dx m [] x)=(ys.drop 2).any (fun x=> !dx m [] x)) 2 (fun _=>aD _) ⟨oO,rfl⟩ ?_ ?_
   ·exact lE
   ·rintro i ⟨hi,hf⟩ R hR
    by_cases hlt:i<ys.length
    ·have e1:=D4 hlt;rw[drop_cons hlt,List.any_cons]at hf;have hgo:=hR (i+1);have hv:=hhas (ys.getD i []);rw[hin']at hv;clear hR;generalize ys.getD i []=y at*
     cases hvy:dx m [] y
     ·rw[hvy]at hv hf;rw[<-hf];exact lF (aN @e1 @hl2) @hv
     ·rw[hvy]at hv hf;have hgo:=hgo ⟨oO,hf⟩ oO;exact kp (aN @e1 @hl2) @hgo @hv
    ·obtain rfl:i=ys.length:=oO;rw[<-hf,dn];exact gU @hl2
end Go.Proofs.Tryz
namespace Go.Proofs.Tryz
open Go Go.Dom
def BU (k:Key):List Bytes:=k.z::k.u::k.h::k.r
theorem lK (p:cq) (hs:p.short):aE 81 [p.pv] (E (eQ p)):=by
 by_cases h:p.eP.all aa=true
 ·exact Qo p h hs
 ·have h:p.eP.all aa=false:=by simpa using h
  have e:eQ p=3:=by unfold eQ;rw[h];rfl
  rw[e];exact U0 p h
theorem QZ {p:cq} (hs:p.short) (h:eQ p=0):si p.c p.sl:=by
 unfold eQ at h
 split at h
 ·rename_i hv
  split at h
  ·exact aM h oC
  ·split at h
   ·exact aM h oC
   ·rename_i ht;have hn: ∀x∈p.eP,aa x=true:=bH.1 hv;have ht': ∀x∈p.zX,¬num x<2:=fun x hx g=>ht (qI.2 ⟨x,hx,by simpa using g⟩)
    have c1:p.c∈p.eP:=by simp[cq.eP]
    have c2:p.sl∈p.eP:=by simp[cq.eP]
    have d1:=ht' p.c (by simp[cq.zX])
    have d2:=ht' p.sl (by simp[cq.zX])
    exact⟨hn _ c1,hn _ c2,hs _ c1,hs _ c2,oO,oO⟩
 ·exact aM h oC
structure py (k:Key):Prop where
 o:k.o=[]
 gd:eA k.m []=true
 s:dx k.m [] k.s=true
 t: ∀x∈BU k,dx k.m [] x=true
 r:k.r.length<=18
theorem ot {pe:Int} {k:Key} (h:fa pe k=0):pe=0/\py k:=by
 unfold fa at h
 split at h
 ·rename_i g;exact aM h g
 ·rename_i g0
  split at h
  ·exact aM h oC
  ·split at h
   ·exact aM h oC
   ·split at h
    ·exact aM h oC
    ·split at h
     ·exact aM h oC
     ·rename_i g1
      split at h
      ·exact aM h oC
      ·rename_i g2
       split at h
       ·exact aM h oC
       ·rename_i g3;simp only[qH,dW,ey,ne_eq,bM,not_or,Decidable.not_not]at g1;have hb: ∀y∈k.iT,rB k.m y=false:=fun y hy=>by
         have:=g3;simp only[C6]at this;exact oP.1 this y hy|>fun h=>by simpa using h
        have hh: ∀n b,rV n b∈k.iT->dx k.m [] b=true:=fun n b hm=>by
         have:=hb _ hm;simp only[rB,C4,wS]at this;exact this.1
        refine⟨Decidable.not_not.1 g0,g1.1,Vi.1 g1.2,hh 2 _ (by simp[Key.iT]),fun x hx=> ?_,oO⟩
        simp only[BU,cd]at hx;rcases hx with rfl|rfl|rfl|hx
        ·exact hh 0 _ (by simp[Key.iT])
        ·exact hh 1 _ (by simp[Key.iT])
        ·exact hh 1 _ (by simp[Key.iT])
        ·exact hh 0 x (by unfold Key.iT;simp only[cd,cv];exact .inr (.inr (.inr (.inr ⟨x,hx,rfl⟩))))
theorem yQ {m x:Bytes} (lm:m.length<=8) (h:dx m [] x=true):x.length<=8:=by
 simp only[dx,ba,bM]at h;have hx:=h.1.1.1.2;have hlt:=h.1.2;have hm:=dO lm;have:x=bR (num x):=by have:=dZ hx;injection this with e;exact e.symm
 rw[this];exact n8.2 oO
end Go.Proofs.Tryz
namespace Go.Proofs.Tryz
open Go Go.Dom Go.Num
def Fq (n:Nat) (l:List Bytes):Bool:=l.all fun x=>decide (x.length<=n)
theorem jV (n:Nat) (l:List Bytes) (hl:l.length<4611686018427387904):aE 67 [E n, .sl (l.map .s)] (.b (Fq n l)):=by
 have l1:(l.map PV.s).length=l.length:=aL ..;unfold Fq;refine eW call67 func67 ?_;refine dY @l1 ?_;refine ak (α:=Nat) (fun i=>l.length-i) (fun i=>⟨[(0, .v (E n)),(1, .v (.sl (l.map .s))),(5,E' i)],[],_⟩) (fun i=>i<=l.length/\((l.drop i).all fun x=>decide (x.length<=n))=l.all fun x=>decide (x.length<=n)) 0 (fun _=>aD _) ⟨aR _,rfl⟩ ?_ ?_
 ·exact lE
 ·rintro i ⟨hi,hf⟩ R hR;rw[<-hf]
  by_cases hlt:i<l.length
  ·have e1:=jm hlt;have hgo:=hR (i+1);rw[<-hf]at hgo;rw[bc [] hlt,List.all_cons]at hgo⊢;generalize l.getD i []=x at*;clear hR hf
   by_cases hx:x.length<=n
   ·have hgo:=hgo ⟨oO,by simp[hx]⟩ oO
    exact ko (aN @l1 @e1) @hgo
   ·rw[bL hx];exact gU (aN @l1 @e1)
  ·obtain rfl:i=l.length:=oO;rw[dn];exact gU @l1
def ui (p:cq):Bool:=Fq 8 [p.mm,p.mo,p.mg,p.mh]&&(Fq 8 [p.wm,p.wo,p.wg,p.wh]&&Fq 8 [p.c,p.sl,p.se,p.at',p.ha,p.el,p.es,p.bl,p.ma])
theorem IQ (p:cq):aE 20 [p.pv] (.b (ui p)):=by
 have h1:=jV 8 [p.mm,p.mo,p.mg,p.mh] (by simp)
 have h2:=jV 8 [p.wm,p.wo,p.wg,p.wh] (by simp)
 have h3:=jV 8 [p.c,p.sl,p.se,p.at',p.ha,p.el,p.es,p.bl,p.ma] (by simp)
 simp only[bV,bj,show(((8:Nat):Int))=8 from rfl]at h1 h2 h3
 unfold ui cq.pv;generalize Fq 8 [p.mm,p.mo,p.mg,p.mh]=b1 at*;generalize Fq 8 [p.wm,p.wo,p.wg,p.wh]=b2 at*;generalize Fq 8 [p.c,p.sl,p.se,p.at',p.ha,p.el,p.es,p.bl,p.ma]=b3 at*
 cases b1<;>cases b2
 all_goals
  refine eW call20 func20 ?_;exact Z1 @h1 @h2 @h3
theorem sD {p:cq} (h:ui p=true):p.short:=by
 unfold ui Fq at h;simp only[List.all_cons,List.all_nil,gj,ba,bM]at h;obtain⟨⟨h1,h2,h3,h4⟩,⟨h5,h6,h7,h8⟩,h9,h10,h11,h12,h13,h14,h15,h16,h17⟩:=h;intro x hx;simp only[cq.eP,cd,il,or_false]at hx;rcases hx with rfl|rfl|rfl|rfl|rfl|rfl|rfl|rfl|rfl|rfl|rfl|rfl|rfl|rfl|rfl|rfl|rfl<;>assumption
def uh (k:Key):Bool:=Fq 8 [k.m,k.o]&&(Fq 9 [k.z,k.s,k.u,k.h]&&(decide (k.r.length<=6)&&(Fq 9 k.r&&decide (k.name.length<=60))))
theorem IP (k:Key) (hl:k.r.length<4611686018427387904):aE 21 [k.pv] (.b (uh k)):=by
 have h1:=jV 8 [k.m,k.o] (by simp)
 have h2:=jV 9 [k.z,k.s,k.u,k.h] (by simp)
 have h3:=jV 9 k.r hl;have l1:(k.r.map PV.s).length=k.r.length:=aL ..;simp only[bV,bj,show(((8:Nat):Int))=8 from rfl,show(((9:Nat):Int))=9 from rfl]at h1 h2 h3
 unfold uh Key.pv;generalize Fq 8 [k.m,k.o]=b1 at*;generalize Fq 9 [k.z,k.s,k.u,k.h]=b2 at*;generalize Fq 9 k.r=b3 at*
 by_cases h4:k.r.length<=6<;>by_cases h5:k.name.length<=60
 all_goals
  simp only[h4,h5,decide_true,decide_false,cj,db,gj,oY];have d5:decide ((k.name.length:Int)<=60)=decide (k.name.length<=60):=by rw[fz];omega
  simp only[h5,decide_true,decide_false]at d5
  cases b1<;>cases b2<;>cases b3
  all_goals
   refine eW call21 func21 ?_;exact zB (aN @l1 @d5) @h1 @h2 @h3 oT
theorem DT {k:Key} (h:uh k=true):k.m.length<=8/\k.o.length<=8/\k.r.length<=6/\k.name.length<=60/\(∀x∈k.r,x.length<=9)/\k.z.length<=9/\k.s.length<=9:=by
 unfold uh Fq at h;simp only[List.all_cons,List.all_nil,gj,ba,bM]at h;obtain⟨⟨h1,h2⟩,⟨h3,h4,h5,h6⟩,h7,h8,h9⟩:=h;exact⟨h1,h2,h7,h9,fun x hx=>of_decide_eq_true (bH.1 h8 x hx),h3,h4⟩
def qo (p:cq) (k:Key) (tp tq:Bytes):Bool:=ui p&&(uh k&&(decide (tp.length<=8)&&decide (tq.length<=8)))
def jg (p:cq) (k:Key) (tp tq:Bytes):PV:= .agg [.s p.c, .s p.sl, .s p.mm, .s p.mo, .s p.mg, .s p.mh, .s p.wm, .s p.wo, .s p.wg, .s p.wh, .s p.se, .s p.at', .s p.ha, .s p.el, .s p.es, .s p.bl, .s p.ma, .s k.name, .s k.m, .s k.o, .s k.z, .s k.s, .sl (k.r.map .s), .s k.u, .s k.h, .s tp, .s tq]
theorem y8 (p:cq) (k:Key) (tp tq:Bytes) (hl:k.r.length<4611686018427387904):aE 6 [jg p k tp tq] (.b (qo p k tp tq)):=by
 have h1:=IQ p;have h2:=IP k hl;unfold qo jg;generalize ui p=b1 at*;generalize uh k=b2 at*;unfold cq.pv Key.pv at*;have d5:decide ((tq.length:Int)<=8)=decide (tq.length<=8):=by rw[fz];omega
 by_cases h4:tp.length<=8<;>by_cases h5:tq.length<=8
 all_goals
  simp only[h4,h5,decide_true,decide_false,cj,db,gj,oY]at d5⊢
  cases b1<;>cases b2
  all_goals
   refine eW call6 func6 ?_;exact zA @d5 @h1 @h2
theorem Rg (x:Bool×Bytes):aE 187 [cU x] (.b (!cr x)):=by
 obtain⟨n,a⟩:=x;have hv:=gO n a;have e:cr (n,a)=(aa a&& !(n&&a==[])):=rfl;rw[e];generalize (aa a&& !(n&&a==[]))=b at*;simp only[cU];refine eW call187 func187 ?_;exact z1 @hv
theorem Rh (b:Bytes):aE 191 [cO b] (.s b):=by
 unfold cO;refine eW call191 func191 ?_;exact z0
theorem Ri (m:Bytes):aE 192 [.sl [G m []], .fn (.func 193)] (E (-1)):=by
 have h:aE 193 [G m []] (.b false):=by
  refine eW call193 func193 ?_;exact z0
 refine eW call192 func192 ?_;refine qY ?_;refine aj ?_;refine Z0 @h ?_;refine aj ?_;exact z0
theorem Rv {vs:List Bytes} (sd:Bytes) {a:Int} (hl:vs.length<1000000):aE 88 [T vs sd a, .s [1],E 0] (if fK vs a then .tup [.sl [],T vs sd a,E 0]else .tup [.sl [],T [] [] 0,E 3]):=by
 have h1:=yS vs sd a [1] oO;have e:uI vs a [1]=if fK vs a then 0 else 3:=by unfold uI;cases fK vs a<;>rfl
 rw[e]at h1;generalize fK vs a=b at*;cases b
 ·refine eW call88 func88 ?_;exact z1 @h1
 ·refine eW call88 func88 ?_;exact YO @h1
end Go.Proofs.Tryz
namespace Go.Proofs.YtnhhajlcpjgkjaaGreatDoor
open Go Go.Dom Go.ChangeShapes Go.WideShapes Go.ChangeAt Go.RowKit Go.Proofs.Tryz
theorem cPa:Tryz.prog.cellsOf 30=17:=by kernel_rfl
theorem cKe:Tryz.prog.cellsOf 33=8:=by kernel_rfl
theorem cTd:Tryz.prog.cellsOf 35=2:=by kernel_rfl
theorem Xm:Qh Tryz.prog 10 37=true:=by kernel_rfl
theorem ZV (n:Nat) {ps l:List PV} (h:List.take n ps=l):ps=l++List.drop n ps:=by rw[<-h,tj]
theorem Yx {k:Nat} {ps:List PV} (h:kW Tryz.prog (k+2) 35 ps): ∃a b:Bytes,ps=[.s a, .s b]:=by
 rw[kW,Tryz.underlying35]at h;simp only[qK,cN]at h;obtain⟨h1,h2,h3⟩:=h;obtain⟨a,h1⟩:=jG h1;obtain⟨b,h2⟩:=jG h2;exact⟨a,b,by rw[tk h1,tk h2,h3]⟩
theorem Iz {ps:List PV} (h:kW Tryz.prog 10 37 ps): ∃(p:cq) (k:Key) (tp tq:Bytes), .agg ps=jg p k tp tq/\k.r.length*16<=reachBytes:=by
 rw[kW,Tryz.underlying37]at h;simp only[qK,cPa,cKe,cTd]at h;obtain⟨h1,h2,h3,h4⟩:=h;obtain⟨p,h1⟩:=Ys h1;obtain⟨k,h2,b1⟩:=Yr h2;obtain⟨tp,tq,h3⟩:=Yx h3;have h1:List.take 17 ps=p.pv.cells:=by rw[<-h1];rfl
 have h2:List.take 8 (List.drop 17 ps)=k.pv.cells:=by rw[<-h2];rfl
 refine⟨p,k,tp,tq,?_,b1⟩;unfold jg;rw[ZV 17 h1,ZV 8 h2,ZV 2 h3,h4];simp only[fD,iu,List.cons_append,List.nil_append,cq.pv,Key.pv,PV.cells]
end Go.Proofs.YtnhhajlcpjgkjaaGreatDoor
namespace Go.Proofs.Tryz
open Go Go.Dom Go.Num
variable {Q:AX->AS->Prop} {bf:Option (List Nat)} {d:Option Nat} {el:Option TypeId} {k nm nx:Nat} {ops:List jE} {tr:List (Nat×List Nat×List Nat)}
theorem MV (l:List PV):my (l.map .v)=some l:=by
 induction l with
 |nil=>rfl
 |cons x r _=>exact lf x r
theorem Sp {P:Program} [cE P] {nn:Nat} {s:AS} {K:List Fr} {f:FuncId} {α:Type} {g:α->PV} {z n ver m:Nat} {l:List α} {gr:Bool} {r:PV}
  (he:p9 P f [.sl (l.map g)] r) (hrow:cT g z) (hr:r.flat=true) (hg:aB s.h n=some ⟨ver,aX g l,gr,el⟩) (hm:m=l.length) (hK:RW P Q nx bf nn ops (k+1) (s.rP d (.v r) []) (wA bf k ([AV.rs n ver 0 m z].flatMap (bC (aB s.h) 9)) [] tr) K):
  CR P Q nx bf nn nm (.v (.fn (.func f))) [.rs n ver 0 m z] d ops k s tr K:=
 e7 he (by simp[aW,lU hrow hm hg]) hr hK
theorem Bl {P:Program} [cE P] {nn:Nat} {s:AS} {K:List Fr} {f:FuncId} {α:Type} {g:α->PV} {z n ver m:Nat} {l:List α} {gr:Bool} {ax ay aw:AV} {x y w r:PV}
  (he:p9 P f [x,y, .sl (l.map g),w] r) (hrow:cT g z) (hr:r.flat=true) (hg:aB s.h n=some ⟨ver,aX g l,gr,el⟩) (hm:m=l.length) (hx:view (aB s.h) 9 ax=some x) (hy:view (aB s.h) 9 ay=some y) (hw:view (aB s.h) 9 aw=some w) (hK:RW P Q nx bf nn ops (k+1) (s.rP d (.v r) []) (wA bf k ([ax,ay,AV.rs n ver 0 m z,aw].flatMap (bC (aB s.h) 9)) [] tr) K):
  CR P Q nx bf nn nm (.v (.fn (.func f))) [ax,ay, .rs n ver 0 m z,aw] d ops k s tr K:=
 e7 he (by simp[aW,lU hrow hm hg,hx,hy,hw]) hr hK
def Jd (c:FuncId×List PV):PV:= .fc c.1 [] c.2
def D0:List (FuncId×List PV)->Int->Prop
 |[],e=>e=0
 |c::r,e=> ∃e1,aE c.1 c.2 (E e1)/\(e1≠0->e=e1)/\(e1=0->D0 r e)
theorem L4 {c:FuncId×List PV} {r:List (FuncId×List PV)} {e:Int} (h:aE c.1 c.2 (E e)) (h0:e≠0):D0 (c::r) e:=⟨e,h,fun _=>rfl,fun g=>aM g h0⟩
theorem BI {c:FuncId×List PV} {r:List (FuncId×List PV)} {e:Int} (h:aE c.1 c.2 (E 0)) (g:D0 r e):D0 (c::r) e:=⟨0,h,fun k=>aM rfl k,fun _=>g⟩
theorem qd (l:List (FuncId×List PV)) {e:Int} (hl:l.length<1000000) (h:D0 l e):aE 27 [.sl (l.map Jd)] (E e):=by
 have l1:(l.map Jd).length=l.length:=aL ..;refine eW call27 func27 ?_;refine dY @l1 ?_;refine ak (α:=Nat) (fun i=>l.length-i) (fun i=>⟨[(6, .v (.sl (l.map Jd))),(7,E' l.length),(8,E' i)],[],_⟩) (fun i=>i<=l.length/\D0 (l.drop i) e) 0 (fun _=>aD _) ⟨aR _,h⟩ ?_ ?_
 ·exact lE
 ·rintro i ⟨hi,hx⟩ R hR
  by_cases hlt:i<l.length
  ·have e1:=getD_map Jd l (0,[]) hlt;have hgo:=hR (i+1);rw[bc (0,[]) hlt]at hx;obtain⟨e0,hc,hb,hn⟩:=hx;clear hR h;generalize l.getD i (0,[])=c at*;obtain⟨f,cs⟩:=c;simp only[Jd]at e1 hc
   by_cases h0:e0=0
   ·have hgo:=hgo ⟨oO,hn h0⟩ oO;subst h0;clear hb hn;repeat' first|simp only[go_sem,seval,l1,e1]|(refine gp hc (MV _) ?_)|refine oE ?_|apply xX<;>intro hc
    refine hgo _ ?_;exact lE
   ·obtain rfl:=hb h0;clear hn hgo;have hb1:(e==0)=false:=by simpa using h0
    have hb2:(e !=0)=true:=by simpa using h0
    repeat' first|simp only[go_sem,seval,l1,e1,hb1,hb2]|(refine gp hc (MV _) ?_)|refine oE ?_|apply xX<;>intro hc
    all_goals rfl
  ·obtain rfl:i=l.length:=oO;rw[dn]at hx;obtain rfl:e=0:=hx;exact gU @l1
theorem zr {g:FuncId} {c:List PV} {b:Bool} {e:Int} (h:aE g c (.b b)):aE 87 [.pt (.agg [.fc g [] c]) 0, .pt (.agg [E e]) 0] (E (if b then e else 0)):=by
 refine eW call87 func87 ?_;repeat' first|simp only[go_sem,seval]|(refine gp h (MV _) ?_)|refine oE ?_|apply xX<;>intro hc
 all_goals simp_all
abbrev oV (cs:List PV) (el:Option TypeId):aH:=⟨0,cs.map AV.v,false,el⟩
theorem mn (g:Nat->Option Nat) (cs:List PV) (el:Option TypeId):aH.aU g (oV cs el)=some (oV cs el):=by
 have h: ∀l:List PV,AV.aU.renL g (l.map .v)=some (l.map .v):=by
  intro l
  induction l with
  |nil=>rfl
  |cons x r ih=>simp[AV.aU.renL,AV.aU,ih]
 simp[aH.aU,h]
theorem Gg (k:Nat) (j:Option Nat) (s:AS) (l:List PV):aW (ft k j s) (l.map .v)=some (l.map .v):=by
 induction l with
 |nil=>rfl
 |cons x r ih=>simp[aW,ih,ft,eN,view]
theorem G0 (n nm:Nat) (f:FuncId) (cs:List PV) (el:Option TypeId) (e:Int):jD prog 30 nm [(n,oV cs el)] [.fn (.func f) [] [.p n 0 0], .v (E e)] (.fn (.func 87) [] [.p nm 0 0, .v (.pt (.agg [E e]) 0)]) [(nm,some ⟨0,[.fn (.func f) [] [.p n 0 0]],false,none⟩)]:=by
 refine jD.w mixed call30 func30 rfl (jJ.1 _ _ _ (by cbv)) (jJ.2 _ _ (by cbv)) (obs:=[oV cs el]) (args:=[.fn (.func f) [] [.p 0 0 0], .v (E e)]) (fs:=[none]) (j:=some 1000) (nw:=some ⟨0,[.fn (.func f) [] [.p 0 0 0]],false,none⟩) (v:= .fn (.func 87) [] [.p 1 0 0, .v (.pt (.agg [E e]) 0)]) (ns:=[n]) (obsA:=[oV cs el]) rfl ?_ (by simp) (by simp) rfl (by simp[aW,mn]) (by simp[aW,AV.aU,AV.aU.renL,dp]) (by simp[AV.aU,AV.aU.renL,gv]) (by simp[fC,outs,aH.aU,AV.aU,AV.aU.renL,gv])
 repeat' first|simp only[go_sem,seval,true_or,or_true,false_or,or_false,an,iB,eS,gY,ft,fT,eN,pc,pq,gF,ib,dI,aO,AV.aU,AV.aU.renL,aK,Gg]|refine oE ?_|apply xX<;>intro hc
 all_goals skip
theorem zt (n k nm:Nat) (hne:n≠k) (f:FuncId) (cs ds:List PV) (el dl:Option TypeId) (e:Int):jD prog 30 nm [(n,oV cs el),(k,oV ds dl)] [.fn (.func f) [] [.p n 0 0, .p k 0 0], .v (E e)] (.fn (.func 87) [] [.p nm 0 0, .v (.pt (.agg [E e]) 0)]) [(nm,some ⟨0,[.fn (.func f) [] [.p n 0 0, .p k 0 0]],false,none⟩)]:=by
 refine jD.w mixed call30 func30 rfl (jJ.1 _ _ _ (by cbv)) (jJ.2 _ _ (by cbv)) (obs:=[oV cs el,oV ds dl]) (args:=[.fn (.func f) [] [.p 0 0 0, .p 1 0 0], .v (E e)]) (fs:=[none,none]) (j:=some 1000) (nw:=some ⟨0,[.fn (.func f) [] [.p 0 0 0, .p 1 0 0]],false,none⟩) (v:= .fn (.func 87) [] [.p 2 0 0, .v (.pt (.agg [E e]) 0)]) (ns:=[n,k]) (obsA:=[oV cs el,oV ds dl]) rfl ?_ (by simp) (by simp[hne]) rfl (by simp[aW,mn]) (by simp[aW,AV.aU,AV.aU.renL,dp,hne,j7 hne]) (by simp[AV.aU,AV.aU.renL,gv]) (by simp[fC,outs,aH.aU,AV.aU,AV.aU.renL,gv])
 repeat' first|simp only[go_sem,seval,true_or,or_true,false_or,or_false,an,iB,eS,gY,ft,fT,eN,pc,pq,gF,ib,dI,aO,AV.aU,AV.aU.renL,aK,Gg]|refine oE ?_|apply xX<;>intro hc
 all_goals skip
theorem VT (n k m nm:Nat) (h1:n≠k) (h2:n≠m) (h3:k≠m) (f:FuncId) (cs ds es:List PV) (el dl ml:Option TypeId) (e:Int):jD prog 30 nm [(n,oV cs el),(k,oV ds dl),(m,oV es ml)] [.fn (.func f) [] [.p n 0 0, .p k 0 0, .p m 0 0], .v (E e)] (.fn (.func 87) [] [.p nm 0 0, .v (.pt (.agg [E e]) 0)]) [(nm,some ⟨0,[.fn (.func f) [] [.p n 0 0, .p k 0 0, .p m 0 0]],false,none⟩)]:=by
 refine jD.w mixed call30 func30 rfl (jJ.1 _ _ _ (by cbv)) (jJ.2 _ _ (by cbv)) (obs:=[oV cs el,oV ds dl,oV es ml]) (args:=[.fn (.func f) [] [.p 0 0 0, .p 1 0 0, .p 2 0 0], .v (E e)]) (fs:=[none,none,none]) (j:=some 1000) (nw:=some ⟨0,[.fn (.func f) [] [.p 0 0 0, .p 1 0 0, .p 2 0 0]],false,none⟩) (v:= .fn (.func 87) [] [.p 3 0 0, .v (.pt (.agg [E e]) 0)]) (ns:=[n,k,m]) (obsA:=[oV cs el,oV ds dl,oV es ml]) rfl ?_ (by simp) (by simp[h1,h2,h3]) rfl (by simp[aW,mn]) (by simp[aW,AV.aU,AV.aU.renL,dp,h1,h2,h3,j7 h1,j7 h2,j7 h3]) (by simp[AV.aU,AV.aU.renL,gv]) (by simp[fC,outs,aH.aU,AV.aU,AV.aU.renL,gv])
 repeat' first|simp only[go_sem,seval,true_or,or_true,false_or,or_false,an,iB,eS,gY,ft,fT,eN,pc,pq,gF,ib,dI,aO,AV.aU,AV.aU.renL,aK,Gg]|refine oE ?_|apply xX<;>intro hc
 all_goals skip
theorem DD (vs:List Bytes) (sd:Bytes) (a:Int) (hl:vs.length<1000000):aE 33 [T vs sd a] (.b (fK vs a)):=by
 have h:=Rv sd (a:=a) hl;generalize fK vs a=b at*;cases b
 ·simp only[bO,ar]at h;refine eW call33 func33 ?_;exact z2 @xo @h
 ·simp only[az]at h;refine eW call33 func33 ?_;exact z2 @xo @h

def Xt (vs:List Bytes) (sd:Bytes):Except Int (Bytes×List Int×Nat)->PV
 | .ok (ch,rs,j)=> .tup [.agg [.s ch, .sl (rs.map Zp), .sl [], .sl []],T vs sd j,E 0]
 | .error e=> .tup [.agg [.s [], .sl [], .sl [], .sl []],T [] [] 0,E e]







def lz (b:Bytes):PV:=cU (false,b)
theorem RR:cT lz 2:=⟨fun _=>rfl,fun x y hy=>by simp[lz,cU,PV.cells]at hy;rcases hy with rfl|rfl<;>rfl,fun h=>oO,fun _ x=>rfl⟩
theorem HV (l:List Bytes) (x:Bytes):aX lz (l++[x])=aX lz l++[.v (.b false), .v (.s x)]:=by rw[cu];rfl
theorem uG (l:List Bytes) (hl:l.length<4611686018427387904):aE 16 [.sl (l.map .s), .sl (l.map .s)] (.b true):=by
 have l1:(l.map PV.s).length=l.length:=aL ..;have e0: ∀n:Int,(n==n)=true:=fun n=>fW n
 refine eW call16 func16 ?_;refine dY (aN @l1 @e0) ?_;refine ak (α:=Nat) (fun i=>l.length-i) (fun i=>⟨[(0, .v (.sl (l.map .s))),(1, .v (.sl (l.map .s))),(5,E' i)],[],_⟩) (fun i=>i<=l.length) 0 (fun _=>aD _) (aR _) ?_ ?_
 ·exact lE
 ·intro i hi R hR
  by_cases hlt:i<l.length
  ·have e1:=jm hlt;have hgo:=hR (i+1) oO oO;generalize l.getD i []=x at*;have e2:(x==x)=true:=fW x;clear hR;exact ko (aN @l1 (aN @e1 @e2)) @hgo
  ·obtain rfl:i=l.length:=oO;exact gU @l1
theorem uD {M:Nat}: ∀(l:List (Nat×(Bool×Bytes))) (x:Nat),x<M->nP M x l=x*yE M l%M
 |[],x,h=>by rw[wj,jw,dK,bw h];rfl
 |(a,e)::r,x,h=>by
  rw[nP,uD r _ (aP _ oO),pL,jy,jw,cA]
theorem Kx {P:Program} [cE P] {nn:Nat} {s:AS} {K:List Fr} {f:FuncId} {α β:Type} {g:α->PV} {g':β->PV} {z n ver m z' n' ver' m':Nat} {l:List α} {l':List β} {gr gr':Bool} {el':Option TypeId} {x r:PV}
  (he:p9 P f [x, .sl (l.map g), .sl (l'.map g')] r) (hrow:cT g z) (hrow':cT g' z') (hr:r.flat=true) (hg:aB s.h n=some ⟨ver,aX g l,gr,el⟩) (hg':aB s.h n'=some ⟨ver',aX g' l',gr',el'⟩) (hm:m=l.length) (hm':m'=l'.length) (hK:RW P Q nx bf nn ops (k+1) (s.rP d (.v r) []) (wA bf k [n,n'] [] tr) K):
  CR P Q nx bf nn nm (.v (.fn (.func f))) [.v x, .rs n ver 0 m z, .rs n' ver' 0 m' z'] d ops k s tr K:=by
 refine e7 he ?_ hr ?_
 ·simp[aW,lU hrow hm hg,lU hrow' hm' hg'];rfl
 ·have:[AV.v x,AV.rs n ver 0 m z,AV.rs n' ver' 0 m' z'].flatMap (bC (aB s.h) 9)=[n,n']:=by simp[oL hrow hm hg,oL hrow' hm' hg'];rfl
  rw[this];exact hK
