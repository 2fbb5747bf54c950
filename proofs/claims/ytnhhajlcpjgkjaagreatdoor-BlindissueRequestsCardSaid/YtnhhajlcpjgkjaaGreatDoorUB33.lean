/- Part of the proof. -/
import Derived.Test.YtnhhajlcpjgkjaaGreatDoorRows
import Derived.Test.YtnhhajlcpjgkjaaGreatDoorCards
import Derived.Test.YtnhhajlcpjgkjaaGreatDoorTie
import Derived.ProofKit
import Derived.ChangeSame
import Derived.Lay
import Derived.LaidOnce
import Derived.SevenTiedAt
import Derived.Lib.LaidU8
import Derived.Test.YtnhhajlcpjgkjaaGreatDoorUB32
set_option linter.all false
set_option maxHeartbeats 16000000
set_option maxRecDepth 100000
namespace Go.Proofs.YtnhhajlcpjgkjaaGreatDoor
open Go Go.Dom Go.ChangeShapes Go.WideShapes Go.ChangeAt Go.RowKit Go.Proofs.Tryz
variable {ps:List PV} {x y:PV}
theorem Wl:ownKnob Tryz.prog.godebug=none:=by kernel_rfl
theorem wZ:laidOutB Tryz.prog=true:=by kernel_rfl
theorem Ct:Tryz.prog.underlying 4=some .bool:=by kernel_rfl
theorem uS:Tryz.prog.underlying 9=some .string:=by kernel_rfl
theorem uN:Tryz.prog.underlying 22=some .string:=by kernel_rfl
theorem uLN:Tryz.prog.underlying 31=some (.slice 22):=by kernel_rfl
theorem cS:Tryz.prog.cellsOf 9=1:=by kernel_rfl
theorem cN:Tryz.prog.cellsOf 22=1:=by kernel_rfl
theorem cLN:Tryz.prog.cellsOf 31=1:=by kernel_rfl
theorem cGr:Tryz.prog.cellsOf 26=2:=by kernel_rfl
theorem isN:lD Tryz.prog 22=false:=by kernel_rfl
theorem bN:Tryz.prog.bytesOf 22=16:=by kernel_rfl
theorem tk (h:List.take 1 ps=[x]):ps=x::List.drop 1 ps:=by cases ps<;>simp_all
theorem tk2 (h:List.take 2 ps=[x,y]):ps=x::y::List.drop 2 ps:=by
 rcases ps with _|⟨a,_|⟨b,r⟩⟩<;>simp_all
theorem tk4 {z u:PV} (h:List.take 4 ps=[x,y,z,u]):ps=x::y::z::u::List.drop 4 ps:=by
 rcases ps with _|⟨a,_|⟨b,_|⟨c,_|⟨d,r⟩⟩⟩⟩<;>simp_all
theorem Hn {α:Type} {f:α->PV}: ∀{l:List PV},(∀x∈l,∃a,x=f a)-> ∃al:List α,l=al.map f:=by
 intro l
 induction l with
 |nil=>intro _;exact⟨[],rfl⟩
 |cons x l ih=>
  intro h;obtain⟨a,rfl⟩:=h x (by simp)
  obtain⟨al,rfl⟩:=ih fun y hy=>h y (by simp[hy])
  exact⟨a::al,rfl⟩
theorem BZ (h:x.cells=[y]) (h1:x.one=true):x=y:=by
 cases x<;>first|(simpa[PV.cells]using h)|(simp[PV.one]at h1)
theorem jP {k:Nat} (h:kf Tryz.prog (k+1) 22 ps): ∃b:Bytes,ps=[.s b]:=by
 simp only[kf,uN]at h;obtain⟨x,rfl,-⟩:=h;exact⟨x,rfl⟩
theorem JP {k:Nat} (h:kf Tryz.prog (k+1) 9 ps): ∃b:Bytes,ps=[.s b]:=by
 simp only[kf,uS]at h;obtain⟨x,rfl,-⟩:=h;exact⟨x,rfl⟩
theorem JO {k:Nat} (h:kf Tryz.prog (k+2) 31 ps): ∃bs:List Bytes,ps=[.sl (bs.map PV.s)]/\bs.length*16<=reachBytes:=by
 simp only[kf,uLN,uN,isN,bN]at h;obtain⟨l,rfl,hb,hl⟩:=h;obtain⟨bs,rfl⟩:=Hn (f:=PV.s) (l:=l) fun x hx=>by
  obtain⟨⟨s,h1,-⟩,h2⟩:=hl x hx;exact⟨s,BZ h1 (by simpa using h2)⟩
 exact⟨bs,rfl,by simpa using hb⟩
theorem T7 {k:Nat} (h:kf Tryz.prog (k+2) 26 ps): ∃a b:Bytes,ps=[.s a, .s b]:=by
 rw[kf,Tryz.underlying26]at h;simp only[p9,cN]at h;obtain⟨h1,h2,h3⟩:=h;obtain⟨a,h1⟩:=jP h1;obtain⟨b,h2⟩:=jP h2;exact⟨a,b,by rw[tk h1,tk h2,h3]⟩
section
variable {H:Type} {enc:TypeId×Value->H} {P:Program}
theorem wb {f:Func} {s:ChangeSpec} {apart fresh handsOn again:Bool} {W W':World} {args:Array Value} {v:Value} {ds gs:List (DataW H)} {before pa pv:List MemPlace}
  (hW:DataW.Whole enc P f.params.toList s.vars apart W args.toList ds gs before)
  (hres: ∀(b:Nat) (sp:Nat->Bool) (hd:Bool),DataW.TrodAll enc P W' b sp hd f.resultTypes.toList (v.resultList f.resultTypes.size) (s.fn H (ds++gs)).results [])
  (hargs: ∀sp:Nat->Bool,(∀p∈before,sp p.block=true)->DataW.TrodAll enc P W' 0 sp true f.params.toList args.toList (s.fn H (ds++gs)).args pa)
  (hvars: ∀sp:Nat->Bool,(∀p∈before,sp p.block=true)->DataW.TrodVars enc P W' sp s.vars (s.fn H (ds++gs)).vars pv)
  (hps:before=pa++pv) (hb:Below W.heap.size W W')
  (hok: ∀(j:Nat) (t:TypeId) (r:Value),f.resultTypes[j]?=some t->(v.resultList f.resultTypes.size)[j]?=some r->Value.okWide P W' .any 0 t r):
  s.post enc P f apart fresh handsOn again W args v W':=by
 have hlt: ∀p∈before,p.block<W.heap.size:=fun p hp=>hW.lt p hp
 have hold: ∀p∈before,(fun b=>decide (b<W.heap.size)) p.block=true:=fun p hp=>by simpa using hlt p hp
 refine⟨ds,gs,before,[],pa,pv,hW,hres _ _ _,hargs _ hold,hvars _ hold,World.keptBut_mono (fun p hp=>⟨hp,?_⟩) (hb.frame (·∈before)),fun _=> ?_⟩
 ·rw[hps,iF]at hp;exact Or.inr hp
 ·obtain⟨_,_,_,_,_,hz,hn⟩:=hW;refine⟨hok,_,_,([]++pa)++pv,⟨[]++pa,pv,trodAll_append (hargs _ (fun _ _=>rfl)) (hres _ _ _),hvars _ (fun _ _=>rfl),rfl,?_,?_⟩,?_⟩
  ·intro b off hp;have hin:MemPlace.cell b off∈before:=by rw[hps];simpa using hp
   rw[hb.frozen (hlt _ hin)];exact hz b off hin
  ·intro ha;have:=hn ha;rw[hps]at this;simpa using this
  ·intro p hp _;rw[hps];simpa using hp
end
def lY:List (String×DataW Unit):=[("math/bits.deBruijn32tab",Rows.laid_math_bits_deBruijn32tab),("math/bits.deBruijn64tab",Rows.laid_math_bits_deBruijn64tab),("internal/strconv.uint64pow10",Rows.laid_internal_strconv_uint64pow10)]
theorem wI {W:World} {n:String} {g:Nat} {t e:TypeId} {k:IntKind} {m:Nat} {zs:List Int} (h:Lib.VarReads Tryz.prog W n (Lib.tabData k zs)) (hg:Tryz.prog.globalNamed n=some g) (ht:(Tryz.prog.globals[g]?).map (·.type)=some t) (hu:Tryz.prog.underlying t=some (.array m e)) (he:Tryz.prog.underlying e=some (.int k)) (hce:Tryz.prog.cellsOf e=1) (hct:Tryz.prog.cellsOf t=m) (i:Nat):
  W.cell? ⟨g,i,none⟩=(zs[i]?).map fun z=>Value.int k z:=by
 obtain⟨g',t',cs,fuel,p,h1,h2,h3,h4⟩:=h;obtain rfl:=nQ (hg.symm.trans h1);obtain rfl:=nQ (ht.symm.trans h2);have h5:=Lib.cells_of_tab hu he hce hct h4;rw[World.var?_cell h1 h3 i,<-Array.getElem?_toList,h5,ib]
theorem wJ {W:World} (h:laidMet Tryz.prog lY W): ∀b o v,TR Tryz.prog b o=some v->W.cell? ⟨b,o,none⟩=some v:=by
 have h1:=fun i=>wI (Lib.laidMet.reads h (n:= "math/bits.deBruijn32tab") (d:=Lib.tabData .u8 nK) (by simp[lY];rfl)) (g:=5) (t:=517) (e:=5) (m:=32) (by kernel_rfl) (by kernel_rfl) (by kernel_rfl) (by kernel_rfl) (by kernel_rfl) (by kernel_rfl) i
 have h2:=fun i=>wI (Lib.laidMet.reads h (n:= "math/bits.deBruijn64tab") (d:=Lib.tabData .u8 nL) (by simp[lY];rfl)) (g:=1) (t:=465) (e:=5) (m:=64) (by kernel_rfl) (by kernel_rfl) (by kernel_rfl) (by kernel_rfl) (by kernel_rfl) (by kernel_rfl) i
 have h3:=fun i=>wI (Lib.laidMet.reads h (n:= "internal/strconv.uint64pow10") (d:=Lib.tabData .u64 pW) (by simp[lY];rfl)) (g:=4) (t:=514) (e:=80) (m:=20) (by kernel_rfl) (by kernel_rfl) (by kernel_rfl) (by kernel_rfl) (by kernel_rfl) (by kernel_rfl) i
 intro b o v hv;have key: ∀(k:IntKind) (zs:List Int),((zs.map fun n=>(k,n))[o]?).map (fun p:IntKind×Int=>Value.int p.1 p.2)=(zs[o]?).map fun z=>Value.int k z:=by
  intro k zs;rw[ib,Option.map_map];rfl
 unfold TR at hv;simp only[cM.tab,List.lookup]at hv
 by_cases e1:b=5
 ·subst e1;rw[h1 o,<-key];simpa using hv
 ·by_cases e2:b=1
  ·subst e2;rw[h2 o,<-key];simpa using hv
  ·by_cases e3:b=4
   ·subst e3;rw[h3 o,<-key];simpa using hv
   ·simp only[show(b==5)=false from beq_eq_false_iff_ne.2 e1,show(b==1)=false from beq_eq_false_iff_ne.2 e2,show(b==4)=false from beq_eq_false_iff_ne.2 e3]at hv
    cases hv
end Go.Proofs.YtnhhajlcpjgkjaaGreatDoor
namespace Go.Proofs.YtnhhajlcpjgkjaaGreatDoor
open Go Go.Dom Go.ChangeShapes Go.WideShapes Go.ChangeAt Go.RowKit Go.Proofs.Tryz
variable {ps:List PV}
theorem cRu:Tryz.prog.cellsOf 24=2:=by kernel_rfl
theorem cPe:Tryz.prog.cellsOf 28=4:=by kernel_rfl
theorem ZT {k:Nat} (h:kf Tryz.prog (k+2) 24 ps): ∃a b:Bytes,ps=[.s a, .s b]:=by
 rw[kf,Tryz.underlying24]at h;simp only[p9,cN]at h;obtain⟨h1,h2,h3⟩:=h;obtain⟨a,h1⟩:=jP h1;obtain⟨b,h2⟩:=jP h2;exact⟨a,b,by rw[tk h1,tk h2,h3]⟩
theorem T9 {k:Nat} (h:kf Tryz.prog (k+3) 28 ps): ∃a b c d:Bytes,ps=[.s a, .s b, .s c, .s d]:=by
 rw[kf,Tryz.underlying28]at h;simp only[p9,cN,cGr]at h;obtain⟨h1,h2,h3,h4⟩:=h;obtain⟨a,b,h1⟩:=T7 h1;obtain⟨c,h2⟩:=jP h2;obtain⟨d,h3⟩:=jP h3;exact⟨a,b,c,d,by rw[tk2 h1,tk h2,tk h3,h4]⟩
theorem ZR (h:kf Tryz.prog 9 30 ps): ∃p:cA, .agg ps=p.pv:=by
 rw[kf,Tryz.underlying30]at h;simp only[p9,cN,cRu,cPe]at h;obtain⟨h1,h2,h3,h4,h5,h6,h7,h8,h9,h10,h11⟩:=h;obtain⟨a1,a2,h1⟩:=ZT h1;obtain⟨b1,b2,b3,b4,h2⟩:=T9 h2;obtain⟨c1,c2,c3,c4,h3⟩:=T9 h3;obtain⟨d4,h4⟩:=jP h4;obtain⟨d5,h5⟩:=jP h5;obtain⟨d6,h6⟩:=jP h6;obtain⟨d7,h7⟩:=jP h7;obtain⟨d8,h8⟩:=jP h8;obtain⟨d9,h9⟩:=jP h9;obtain⟨d10,h10⟩:=jP h10;refine⟨⟨a1,a2,b1,b2,b3,b4,c1,c2,c3,c4,d4,d5,d6,d7,d8,d9,d10⟩,?_⟩;rw[tk2 h1,tk4 h2,tk4 h3,tk h4,tk h5,tk h6,tk h7,tk h8,tk h9,tk h10,h11];rfl
theorem ZQ (h:kf Tryz.prog 9 33 ps): ∃k:Key, .agg ps=k.pv/\k.r.length*16<=reachBytes:=by
 rw[kf,Tryz.underlying33]at h;simp only[p9,cN,cS,cGr,cLN]at h;obtain⟨h1,h2,h3,h4,h5,h6,h7,h8⟩:=h;obtain⟨a,h1⟩:=JP h1;obtain⟨m,o,h2⟩:=T7 h2;obtain⟨z,h3⟩:=jP h3;obtain⟨s,h4⟩:=jP h4;obtain⟨r,h5,hb⟩:=JO h5;obtain⟨u,h6⟩:=jP h6;obtain⟨v,h7⟩:=jP h7;refine⟨⟨a,m,o,z,s,r,u,v⟩,?_,hb⟩;rw[tk h1,tk2 h2,tk h3,tk h4,tk h5,tk h6,tk h7,h8];rfl
theorem uI0:Tryz.prog.underlying 3=some (.int .i64):=by kernel_rfl
theorem cI0:Tryz.prog.cellsOf 3=1:=by kernel_rfl
end Go.Proofs.YtnhhajlcpjgkjaaGreatDoor
namespace Go.Proofs.Tryz
open Go Go.Dom
theorem ji (l:List (Bool×Bytes)) (hl:l.length<4611686018427387904):aE 119 [.sl (l.map cI)] (.b (l.all cg)):=by
 have l5:(l.map cI).length=l.length:=aG ..;refine eW call119 func119 ?_;refine qi ?_;refine ak (α:=Nat) (fun i=>l.length-i) (fun i=>⟨[(0, .v (.sl (l.map cI))),(3,E' i)],[],_⟩) (fun i=>i<=l.length/\(l.drop i).all cg=l.all cg) 0 (fun _=>aD _) ⟨aO _,rfl⟩ ?_ ?_
 ·exact lE
 ·rintro i ⟨hi,hf⟩ R hR;rw[<-hf]
  by_cases hlt:i<l.length
  ·have e1:=getD_map cI l fm hlt;have hgo:=hR (i+1);rw[<-hf]at hgo;rw[aY fm hlt,List.all_cons]at hgo⊢;obtain⟨x,hx⟩: ∃x,x=l.getD i fm:=⟨_,rfl⟩;rw[<-hx]at e1 hgo⊢;clear hx hf hR;obtain⟨n,a⟩:=x;have hv:=iE n a;have e:cg (n,a)=(aa a&& !(n&&a==[])):=rfl;rw[e]at hgo⊢;clear e;simp only[cI]at e1;generalize (aa a&& !(n&&a==[]))=b at*;cases b
   ·repeat' first|simp only[go_sem,seval,l5,e1]|refine cP hv ?_|refine oE ?_|apply xX<;>intro hc
    all_goals simp
   ·have hgo:=hgo ⟨oO,by simp⟩ oO
    exact js (aN @l5 @e1) @hgo @hv
  ·obtain rfl:i=l.length:=oO;rw[dj];exact fP @l5
theorem pC (l:List Bytes) (hl:l.length<4611686018427387904):aE 249 [.sl (l.map .s)] (.b (l.all aa)):=by
 have l5:(l.map PV.s).length=l.length:=aG ..;refine eW call249 func249 ?_;refine qi ?_;refine ak (α:=Nat) (fun i=>l.length-i) (fun i=>⟨[(0, .v (.sl (l.map .s))),(3,E' i)],[],_⟩) (fun i=>i<=l.length/\(l.drop i).all aa=l.all aa) 0 (fun _=>aD _) ⟨aO _,rfl⟩ ?_ ?_
 ·exact lE
 ·rintro i ⟨hi,hf⟩ R hR;rw[<-hf]
  by_cases hlt:i<l.length
  ·have e1:=getD_map PV.s l ([]:Bytes) hlt;have hgo:=hR (i+1);rw[<-hf]at hgo;rw[aY ([]:Bytes) hlt,List.all_cons]at hgo⊢;generalize l.getD i []=a at*;clear hf hR;have hv:=aH a;generalize aa a=b at*;cases b
   ·repeat' first|simp only[go_sem,seval,l5,e1]|refine cP hv ?_|refine oE ?_|apply xX<;>intro hc
    all_goals simp
   ·have hgo:=hgo ⟨oO,by simp⟩ oO
    exact js (aN @l5 @e1) @hgo @hv
  ·obtain rfl:i=l.length:=oO;rw[dj];exact fP @l5
end Go.Proofs.Tryz
namespace Go.Proofs.Tryz
open Go Go.Dom Go.Num
def Key.rb (k:Key):List Bytes:=k.z::k.u::k.h::k.r
theorem IG (a b c:Bytes) (r:List Bytes):(AV.v (.s a)::AV.v (.s b)::AV.v (.s c)::List.map AV.v (List.flatMap PV.cells (List.map PV.s r)))=List.map AV.v (List.map PV.s (a::b::c::r)):=by rw[oe];rfl
theorem Lw (k:Key) (hr:k.r.length<1000000):aE 107 [k.pv] (.sl (k.rb.map .s)):=by
 obtain⟨name,m,o,z,s,r,u,h⟩:=k;unfold Key.pv Key.rb;simp only at*;have e:=IG z u h r
 by_cases h0:r=[]
 ·subst h0;refine eW call107 func107 ?_;exact z0
 have hr0:(r.length=0)=False:=by rw[eq_iff_iff,iff_false];intro g;exact h0 (eH.1 g)
 obtain⟨ys,hys⟩: ∃ys,ys=z::u::h::r:=⟨_,rfl⟩;have hyl:3+r.length=ys.length:=by rw[hys];simp;omega
 rw[<-hys]at e⊢;obtain⟨r1,r2,r3,r4⟩:=LL ys;have r5:(List.map AV.v (List.map PV.s ys)).length=ys.length:=by simp
 have r7:(List.flatMap PV.cells (List.map PV.s r)).length+1+1+1=ys.length:=by rw[oe,hys];simp
 refine eW call107 func107 ?_;refine eJ @hr0 ?_;refine⟨⟨fun x hx=>gA hx,fun y hy=>kA hy,oO,oO⟩,?_⟩
 exact fP (aN @e (aN @hyl (aN @r2 (aN @r3 (aN @r4 (aN @r5 (aN @r7 @fX)))))))
def Key.l (k:Key):List Bytes:=k.m::k.o::k.s::k.rb
theorem Kc (k:Key):k.jt.all (fun y=>aa (GL y))=(k.s::k.rb).all aa:=by
 simp[Key.jt,Key.rb,tw,GL,List.all_map,Function.comp_def]
theorem Kd (k:Key):k.jt.any (sM k.m)=(k.s==[1]||(k.s::k.rb).any (fun x=> !dK k.m [] x)):=by
 have e: ∀b,sM k.m (tw 0 b)= !dK k.m [] b:=fun b=>by simp[sM,tw,GL,YM]
 have e1: ∀b,sM k.m (tw 1 b)= !dK k.m [] b:=fun b=>by simp[sM,tw,GL,YM]
 have e2: ∀b,sM k.m (tw 2 b)=(!dK k.m [] b||b==[1]):=fun b=>by simp[sM,tw,GL,YM]
 simp only[Key.jt,Key.rb,List.any_cons,List.any_map,Function.comp_def,e,e1,e2]
 cases dK k.m [] k.s<;>cases(k.s==[1])<;>simp
theorem Hh (m:Bytes):gE m []=B7 m:=by
 unfold gE B7;have hv0:aa []=true:=rfl
 cases aa m<;>simp[hv0]
theorem Fo {l:List Bytes} {i:Nat} (h:i<l.length):(List.map AV.v (List.map PV.s l)).getD i .u= .v (.s (l.getD i [])):=by
 simp[b9,h]
theorem nI (p:cA) (k:Key) (pe:Int) (hp:aE 106 [p.pv] (E pe)) (lm:k.m.length<=8) (ln:k.name.length<=60) (lr:k.r.length<=20):aE 43 [p.pv,k.pv] (E (fb pe k)):=by
 have hb:=Lw k oO;have hnm:=OV k.name ln;have hg:=nG lm (o:=[]) oC;have hhas:=oQ lm (o:=[]) oC;rw[Hh]at hg;have hE: ∀e,fb pe k=e->aE 43 [p.pv,k.pv] (E e)->aE 43 [p.pv,k.pv] (E (fb pe k)):=fun e h g=>by rw[h];exact g
 by_cases h0:pe=0
 case neg=>
  refine hE pe (by simp[fb,h0]) ?_
  unfold cA.pv Key.pv at*;refine eW call43 func43 ?_;exact z1 @hp
 subst h0;clear hE;obtain⟨ys,hys⟩: ∃ys,ys=k.l:=⟨_,rfl⟩;have hyl:ys.length=6+k.r.length:=by rw[hys];simp[Key.l,Key.rb];omega
 have hrl:(k.rb.map PV.s).length=k.rb.length:=aG ..;have hrb:k.rb.length=3+k.r.length:=by simp[Key.rb];omega
 have hcl:(AV.v (.s k.m)::AV.v (.s k.o)::AV.v (.s k.s)::List.map AV.v (List.flatMap PV.cells (List.map PV.s k.rb)))=List.map AV.v (List.map PV.s ys):=by rw[hys];exact IG _ _ _ _
 have hke:fb 0 k=if !(ys.all aa)then 3 else if !mP k.name then 1 else if !(k.o==[])||decide (B7 k.m≠0)then 13 else if k.r.length<2\/k.r.length>18 then 6 else if k.s==[1]||(ys.drop 2).any (fun x=> !dK k.m [] x)then 13 else 0:=by
  unfold fb;rw[Kc,Kd,hys];simp only[Key.l,List.all_cons,Ea,List.drop_zero]
  cases aa k.m<;>cases aa k.o<;>simp
 rw[hke];clear hke;have hr0:(3+k.r.length=0)=False:=by rw[eq_iff_iff,iff_false];omega
 have hin: ∀x,B7 k.m=0->xq k.m [] x=dK k.m [] x:=fun x h=>by
  simp[xq,Hh,h,jJ]
 generalize k.rb=rb at*;obtain⟨name,m,o,z,s,r,u,h⟩:=k;unfold cA.pv Key.pv at*;simp only at*;refine eW call43 func43 ?_;refine tu (aN @hrl (aN @hrb @hr0)) @hp @hb ?_;refine⟨⟨fun x hx=>gA hx,fun y hy=>kA hy,oO,oO⟩,?_⟩
 refine eJ @hcl ?_;have hl2:(List.map AV.v (List.map PV.s ys)).length=ys.length:=by simp
 refine ak (α:=Nat) (fun i=>ys.length-i) (fun i=>⟨[(3, .p 1001 0 0),(6, .rs 1019 0 0 ys.length 1),(7,E' i)],[(1001,⟨0,[.v (.s name), .v (.s m), .v (.s o), .v (.s z), .v (.s s), .v (.sl (r.map .s)), .v (.s u), .v (.s h)],false,none⟩),(1019,⟨0,List.map AV.v (List.map PV.s ys),true,some 22⟩)],_⟩) (fun i=>i<=ys.length/\(ys.drop i).all aa=ys.all aa) 0 (fun _=>aD _) ⟨aO _,rfl⟩ ?_ ?_
 ·(refine AS.Le.of (by first|decide|omega) ?_ ?_<;>simp[dw,du,aS,aC,AV.bd,AV.bd.bdL,u8,an,ar,aA])
  all_goals omega
 ·rintro i ⟨hi,hf⟩ R hR
  by_cases hlt:i<ys.length
  ·have e1:=Fo hlt;rw[drop_cons hlt,List.all_cons]at hf;have hgo:=hR (i+1);have hv:=aH (ys.getD i []);clear hR;generalize ys.getD i []=y at*
   cases hvy:aa y
   ·rw[hvy]at hv hf;rw[<-hf,cY];exact jE (aN @e1 @hl2) @hv
   ·rw[hvy]at hv hf;rw[cq]at hf;have hgo:=hgo ⟨oO,hf⟩ oO;exact js (aN @e1 @hl2) @hgo @hv
  ·obtain rfl:i=ys.length:=oO;have hall:ys.all aa=true:=by rw[<-hf,dj];rfl
   rw[hall]
   cases hn:mP name
   ·rw[hn]at hnm;exact jE @hl2 @hnm
   rw[hn]at hnm
   by_cases ho:o=[]
   case neg=>
    have hob:(o==([]:Bytes))=false:=by simpa using ho
    rw[hob];exact jE (aN @hl2 @hob) @hnm
   subst ho
   by_cases hpw:B7 m=0
   case neg=>
    rw[aU hpw];generalize B7 m=pw at*;repeat' first|simp only[go_sem,seval,hl2,aG,nn]|refine cP hnm ?_|refine cP hg ?_|refine oE ?_|apply xX<;>intro hc
    all_goals first|(exact aP (by assumption) hpw)|skip
   rw[hpw]at hg;have hd0:decide (B7 m≠0)=false:=by simp[hpw]
   rw[hd0];have hin':=fun x=>hin x hpw
   by_cases hr3:r.length<2\/r.length>18
   ·rw[ah hr3];exact xi (aN @hl2 @nn) @hnm @hg
   rw[af hr3]
   by_cases hs1:s=[1]
   ·subst hs1;repeat' first|simp only[go_sem,seval,hl2,aG,nn,dt]|refine cP hnm ?_|refine cP hg ?_|refine oE ?_|apply xX<;>intro hc
    all_goals rfl
   have hsb:(s==([1]:Bytes))=false:=by simpa using hs1
   rw[hsb,jX];refine GJ (aN @hl2 (aN @nn @hsb)) @hnm @hg ?_;refine ak (α:=Nat) (fun i=>ys.length-i) (fun i=>⟨[(3, .p 1001 0 0),(6, .rs 1019 0 0 ys.length 1),(8,E' i)],[(1001,⟨0,[.v (.s name), .v (.s m), .v (.s []), .v (.s z), .v (.s s), .v (.sl (r.map .s)), .v (.s u), .v (.s h)],false,none⟩),(1019,⟨0,List.map AV.v (List.map PV.s ys),true,some 22⟩)],_⟩) (fun i=>i<=ys.length/\(ys.drop i).any (fun x=> !dK m [] x)=(ys.drop 2).any (fun x=> !dK m [] x)) 2 (fun _=>aD _) ⟨oO,rfl⟩ ?_ ?_
   ·exact lE
   ·rintro i ⟨hi,hf⟩ R hR
    by_cases hlt:i<ys.length
    ·have e1:=Fo hlt;rw[drop_cons hlt,List.any_cons]at hf;have hgo:=hR (i+1);have hv:=hhas (ys.getD i []);rw[hin']at hv;clear hR;generalize ys.getD i []=y at*
     cases hvy:dK m [] y
     ·rw[hvy]at hv hf;rw[<-hf];exact jE (aN @e1 @hl2) @hv
     ·rw[hvy]at hv hf;have hgo:=hgo ⟨oO,hf⟩ oO;exact js (aN @e1 @hl2) @hgo @hv
    ·obtain rfl:i=ys.length:=oO;rw[<-hf,dj];exact fP @hl2
end Go.Proofs.Tryz
namespace Go.Proofs.Tryz
open Go Go.Dom
def C3 (k:Key):List Bytes:=k.z::k.u::k.h::k.r
theorem mB (p:cA) (hs:p.short):aE 81 [p.pv] (E (eN p)):=by
 by_cases h:p.eL.all aa=true
 ·exact Sg p h hs
 ·have h:p.eL.all aa=false:=by simpa using h
  have e:eN p=3:=by unfold eN;rw[h];rfl
  rw[e];exact Wm p h
theorem SZ {p:cA} (hs:p.short) (h:eN p=0):tF p.c p.sl:=by
 unfold eN at h
 split at h
 ·rename_i hv
  split at h
  ·exact aP h oC
  ·split at h
   ·exact aP h oC
   ·rename_i ht;have hn: ∀x∈p.eL,aa x=true:=bH.1 hv;have ht': ∀x∈p.AG,¬num x<2:=fun x hx g=>ht (rC.2 ⟨x,hx,by simpa using g⟩)
    have c1:p.c∈p.eL:=by simp[cA.eL]
    have c2:p.sl∈p.eL:=by simp[cA.eL]
    have d1:=ht' p.c (by simp[cA.AG])
    have d2:=ht' p.sl (by simp[cA.AG])
    exact⟨hn _ c1,hn _ c2,hs _ c1,hs _ c2,oO,oO⟩
 ·exact aP h oC
structure pY (k:Key):Prop where
 o:k.o=[]
 gd:eS k.m []=true
 s:dK k.m [] k.s=true
 t: ∀x∈C3 k,dK k.m [] x=true
 r:k.r.length<=18
theorem nu {pe:Int} {k:Key} (h:fb pe k=0):pe=0/\pY k:=by
 unfold fb at h
 split at h
 ·rename_i g;exact aP h g
 ·rename_i g0
  split at h
  ·exact aP h oC
  ·split at h
   ·exact aP h oC
   ·split at h
    ·exact aP h oC
    ·split at h
     ·exact aP h oC
     ·rename_i g1
      split at h
      ·exact aP h oC
      ·rename_i g2
       split at h
       ·exact aP h oC
       ·rename_i g3;simp only[mf,ey,dL,ne_eq,bw,not_or,Decidable.not_not]at g1;have hb: ∀y∈k.jt,sM k.m y=false:=fun y hy=>by
         have:=g3;simp only[DV]at this;exact nR.1 this y hy|>fun h=>by simpa using h
        have hh: ∀n b,tw n b∈k.jt->dK k.m [] b=true:=fun n b hm=>by
         have:=hb _ hm;simp only[sM,Ep,yD]at this;exact this.1
        refine⟨Decidable.not_not.1 g0,g1.1,WE.1 g1.2,hh 2 _ (by simp[Key.jt]),fun x hx=> ?_,oO⟩
        simp only[C3,cu]at hx;rcases hx with rfl|rfl|rfl|hx
        ·exact hh 0 _ (by simp[Key.jt])
        ·exact hh 1 _ (by simp[Key.jt])
        ·exact hh 1 _ (by simp[Key.jt])
        ·exact hh 0 x (by unfold Key.jt;simp only[cu,cE];exact .inr (.inr (.inr (.inr ⟨x,hx,rfl⟩))))
theorem Am {m x:Bytes} (lm:m.length<=8) (h:dK m [] x=true):x.length<=8:=by
 simp only[dK,aZ,bw]at h;have hx:=h.1.1.1.2;have hlt:=h.1.2;have hm:=dS lm;have:x=bQ (num x):=by have:=dN hx;injection this with e;exact e.symm
 rw[this];exact o9.2 oO
end Go.Proofs.Tryz
namespace Go.Proofs.Tryz
open Go Go.Dom Go.Num
def GN (n:Nat) (l:List Bytes):Bool:=l.all fun x=>decide (x.length<=n)
theorem kF (n:Nat) (l:List Bytes) (hl:l.length<4611686018427387904):aE 67 [E n, .sl (l.map .s)] (.b (GN n l)):=by
 have l1:(l.map PV.s).length=l.length:=aG ..;unfold GN;refine eW call67 func67 ?_;refine dH @l1 ?_;refine ak (α:=Nat) (fun i=>l.length-i) (fun i=>⟨[(0, .v (E n)),(1, .v (.sl (l.map .s))),(5,E' i)],[],_⟩) (fun i=>i<=l.length/\((l.drop i).all fun x=>decide (x.length<=n))=l.all fun x=>decide (x.length<=n)) 0 (fun _=>aD _) ⟨aO _,rfl⟩ ?_ ?_
 ·exact lE
 ·rintro i ⟨hi,hf⟩ R hR;rw[<-hf]
  by_cases hlt:i<l.length
  ·have e1:=gU hlt;have hgo:=hR (i+1);rw[<-hf]at hgo;rw[aY [] hlt,List.all_cons]at hgo⊢;generalize l.getD i []=x at*;clear hR hf
   by_cases hx:x.length<=n
   ·have hgo:=hgo ⟨oO,by simp[hx]⟩ oO
    exact jr (aN @l1 @e1) @hgo
   ·rw[bu hx];exact fP (aN @l1 @e1)
  ·obtain rfl:i=l.length:=oO;rw[dj];exact fP @l1
def vK (p:cA):Bool:=GN 8 [p.mm,p.mo,p.mg,p.mh]&&(GN 8 [p.wm,p.wo,p.wg,p.wh]&&GN 8 [p.c,p.sl,p.se,p.at',p.ha,p.el,p.es,p.bl,p.ma])
theorem J5 (p:cA):aE 20 [p.pv] (.b (vK p)):=by
 have h1:=kF 8 [p.mm,p.mo,p.mg,p.mh] (by simp)
 have h2:=kF 8 [p.wm,p.wo,p.wg,p.wh] (by simp)
 have h3:=kF 8 [p.c,p.sl,p.se,p.at',p.ha,p.el,p.es,p.bl,p.ma] (by simp)
 simp only[bV,ca,show(((8:Nat):Int))=8 from rfl]at h1 h2 h3
 unfold vK cA.pv;generalize GN 8 [p.mm,p.mo,p.mg,p.mh]=b1 at*;generalize GN 8 [p.wm,p.wo,p.wg,p.wh]=b2 at*;generalize GN 8 [p.c,p.sl,p.se,p.at',p.ha,p.el,p.es,p.bl,p.ma]=b3 at*
 cases b1<;>cases b2
 all_goals
  refine eW call20 func20 ?_;exact zu3 @h1 @h2 @h3
theorem pf {p:cA} (h:vK p=true):p.short:=by
 unfold vK GN at h;simp only[List.all_cons,List.all_nil,gi,aZ,bw]at h;obtain⟨⟨h1,h2,h3,h4⟩,⟨h5,h6,h7,h8⟩,h9,h10,h11,h12,h13,h14,h15,h16,h17⟩:=h;intro x hx;simp only[cA.eL,cu,ir,or_false]at hx;rcases hx with rfl|rfl|rfl|rfl|rfl|rfl|rfl|rfl|rfl|rfl|rfl|rfl|rfl|rfl|rfl|rfl|rfl<;>assumption
def vJ (k:Key):Bool:=GN 8 [k.m,k.o]&&(GN 9 [k.z,k.s,k.u,k.h]&&(decide (k.r.length<=6)&&(GN 9 k.r&&decide (k.name.length<=60))))
theorem J4 (k:Key) (hl:k.r.length<4611686018427387904):aE 21 [k.pv] (.b (vJ k)):=by
 have h1:=kF 8 [k.m,k.o] (by simp)
 have h2:=kF 9 [k.z,k.s,k.u,k.h] (by simp)
 have h3:=kF 9 k.r hl;have l1:(k.r.map PV.s).length=k.r.length:=aG ..;simp only[bV,ca,show(((8:Nat):Int))=8 from rfl,show(((9:Nat):Int))=9 from rfl]at h1 h2 h3
 unfold vJ Key.pv;generalize GN 8 [k.m,k.o]=b1 at*;generalize GN 9 [k.z,k.s,k.u,k.h]=b2 at*;generalize GN 9 k.r=b3 at*
 by_cases h4:k.r.length<=6<;>by_cases h5:k.name.length<=60
 all_goals
  simp only[h4,h5,decide_true,decide_false,cq,cY,gi,nS];have d5:decide ((k.name.length:Int)<=60)=decide (k.name.length<=60):=by rw[fh];omega
  simp only[h5,decide_true,decide_false]at d5
  cases b1<;>cases b2<;>cases b3
  all_goals
   refine eW call21 func21 ?_;exact wO (aN @l1 @d5) @h1 @h2 @h3 oT
theorem zf {k:Key} (h:vJ k=true):k.m.length<=8/\k.o.length<=8/\k.r.length<=6/\k.name.length<=60/\(∀x∈k.r,x.length<=9)/\k.z.length<=9/\k.s.length<=9:=by
 unfold vJ GN at h;simp only[List.all_cons,List.all_nil,gi,aZ,bw]at h;obtain⟨⟨h1,h2⟩,⟨h3,h4,h5,h6⟩,h7,h8,h9⟩:=h;exact⟨h1,h2,h7,h9,fun x hx=>of_decide_eq_true (bH.1 h8 x hx),h3,h4⟩
def nJ (p:cA) (k:Key) (tp tq:Bytes):Bool:=vK p&&(vJ k&&(decide (tp.length<=8)&&decide (tq.length<=8)))
def gH (p:cA) (k:Key) (tp tq:Bytes):PV:= .agg [.s p.c, .s p.sl, .s p.mm, .s p.mo, .s p.mg, .s p.mh, .s p.wm, .s p.wo, .s p.wg, .s p.wh, .s p.se, .s p.at', .s p.ha, .s p.el, .s p.es, .s p.bl, .s p.ma, .s k.name, .s k.m, .s k.o, .s k.z, .s k.s, .sl (k.r.map .s), .s k.u, .s k.h, .s tp, .s tq]
theorem sX (p:cA) (k:Key) (tp tq:Bytes) (hl:k.r.length<4611686018427387904):aE 6 [gH p k tp tq] (.b (nJ p k tp tq)):=by
 have h1:=J5 p;have h2:=J4 k hl;unfold nJ gH;generalize vK p=b1 at*;generalize vJ k=b2 at*;unfold cA.pv Key.pv at*;have d5:decide ((tq.length:Int)<=8)=decide (tq.length<=8):=by rw[fh];omega
 by_cases h4:tp.length<=8<;>by_cases h5:tq.length<=8
 all_goals
  simp only[h4,h5,decide_true,decide_false,cq,cY,gi,nS]at d5⊢
  cases b1<;>cases b2
  all_goals
   refine eW call6 func6 ?_;exact xi @d5 @h1 @h2
theorem Tf (x:Bool×Bytes):aE 187 [cI x] (.b (!cg x)):=by
 obtain⟨n,a⟩:=x;have hv:=il n a;have e:cg (n,a)=(aa a&& !(n&&a==[])):=rfl;rw[e];generalize (aa a&& !(n&&a==[]))=b at*;simp only[cI];refine eW call187 func187 ?_;exact z1 @hv
theorem Tg (b:Bytes):aE 191 [cz b] (.s b):=by
 unfold cz;refine eW call191 func191 ?_;exact z0
theorem Th (m:Bytes):aE 192 [.sl [G m []], .fn (.func 193)] (E (-1)):=by
 have h:aE 193 [G m []] (.b false):=by
  refine eW call193 func193 ?_;exact z0
 refine eW call192 func192 ?_;refine qi ?_;refine aj ?_;refine zl1 @h ?_;refine aj ?_;exact z0
theorem Tr {vs:List Bytes} (sd:Bytes) {a:Int} (hl:vs.length<1000000):aE 88 [T vs sd a, .s [1],E 0] (if eT vs a then .tup [.sl [],T vs sd a,E 0]else .tup [.sl [],T [] [] 0,E 3]):=by
 have h1:=Aq vs sd a [1] oO;have e:wA vs a [1]=if eT vs a then 0 else 3:=by unfold wA;cases eT vs a<;>rfl
 rw[e]at h1;generalize eT vs a=b at*;cases b
 ·refine eW call88 func88 ?_;exact z1 @h1
 ·refine eW call88 func88 ?_;exact Xn @h1
end Go.Proofs.Tryz
namespace Go.Proofs.YtnhhajlcpjgkjaaGreatDoor
open Go Go.Dom Go.ChangeShapes Go.WideShapes Go.ChangeAt Go.RowKit Go.Proofs.Tryz
theorem cPa:Tryz.prog.cellsOf 30=17:=by kernel_rfl
theorem cKe:Tryz.prog.cellsOf 33=8:=by kernel_rfl
theorem cTd:Tryz.prog.cellsOf 35=2:=by kernel_rfl
theorem VV:On Tryz.prog 10 37=true:=by kernel_rfl
theorem tkm (n:Nat) {ps l:List PV} (h:List.take n ps=l):ps=l++List.drop n ps:=by rw[<-h,uU]
theorem ZW {k:Nat} {ps:List PV} (h:kf Tryz.prog (k+2) 35 ps): ∃a b:Bytes,ps=[.s a, .s b]:=by
 rw[kf,Tryz.underlying35]at h;simp only[p9,cN]at h;obtain⟨h1,h2,h3⟩:=h;obtain⟨a,h1⟩:=jP h1;obtain⟨b,h2⟩:=jP h2;exact⟨a,b,by rw[tk h1,tk h2,h3]⟩
theorem DI {ps:List PV} (h:kf Tryz.prog 10 37 ps): ∃(p:cA) (k:Key) (tp tq:Bytes), .agg ps=gH p k tp tq/\k.r.length*16<=reachBytes:=by
 rw[kf,Tryz.underlying37]at h;simp only[p9,cPa,cKe,cTd]at h;obtain⟨h1,h2,h3,h4⟩:=h;obtain⟨p,h1⟩:=ZR h1;obtain⟨k,h2,b1⟩:=ZQ h2;obtain⟨tp,tq,h3⟩:=ZW h3;have h1:List.take 17 ps=p.pv.cells:=by rw[<-h1];rfl
 have h2:List.take 8 (List.drop 17 ps)=k.pv.cells:=by rw[<-h2];rfl
 refine⟨p,k,tp,tq,?_,b1⟩;unfold gH;rw[tkm 17 h1,tkm 8 h2,tkm 2 h3,h4];simp only[ft,iM,List.cons_append,List.nil_append,cA.pv,Key.pv,PV.cells]
end Go.Proofs.YtnhhajlcpjgkjaaGreatDoor
namespace Go.Proofs.Tryz
open Go Go.Dom Go.Num
variable {k nm nx:Nat} {r:List (FuncId×List PV)} {tr:List (Nat×List Nat×List Nat)}
theorem OL (l:List PV):mU (l.map .v)=some l:=by
 induction l with
 |nil=>rfl
 |cons x r _=>exact l9 x r
theorem Uf {P:Program} [cM P] {Q:AX->AS->Prop} {bf:Option (List Nat)} {nn:Nat} {d:Option Nat} {ops:List jD} {s:AS} {K:List Fr} {f:FuncId} {α:Type} {g:α->PV} {z n ver m:Nat} {l:List α} {gr:Bool} {el:Option TypeId} {r:PV}
  (he:qX P f [.sl (l.map g)] r) (hrow:cU g z) (hr:r.flat=true) (hg:aC s.h n=some ⟨ver,aT g l,gr,el⟩) (hm:m=l.length) (hK:RW P Q nx bf nn ops (k+1) (s.tc d (.v r) []) (x6 bf k ([AV.rs n ver 0 m z].flatMap (bJ (aC s.h) 9)) [] tr) K):
  CR P Q nx bf nn nm (.v (.fn (.func f))) [.rs n ver 0 m z] d ops k s tr K:=
 fw he (by simp[bc,kJ hrow hm hg]) hr hK
theorem Cz {P:Program} [cM P] {Q:AX->AS->Prop} {bf:Option (List Nat)} {nn:Nat} {d:Option Nat} {ops:List jD} {s:AS} {K:List Fr} {f:FuncId} {α:Type} {g:α->PV} {z n ver m:Nat} {l:List α} {gr:Bool} {el:Option TypeId} {ax ay aw:AV} {x y w r:PV}
  (he:qX P f [x,y, .sl (l.map g),w] r) (hrow:cU g z) (hr:r.flat=true) (hg:aC s.h n=some ⟨ver,aT g l,gr,el⟩) (hm:m=l.length) (hx:view (aC s.h) 9 ax=some x) (hy:view (aC s.h) 9 ay=some y) (hw:view (aC s.h) 9 aw=some w) (hK:RW P Q nx bf nn ops (k+1) (s.tc d (.v r) []) (x6 bf k ([ax,ay,AV.rs n ver 0 m z,aw].flatMap (bJ (aC s.h) 9)) [] tr) K):
  CR P Q nx bf nn nm (.v (.fn (.func f))) [ax,ay, .rs n ver 0 m z,aw] d ops k s tr K:=
 fw he (by simp[bc,kJ hrow hm hg,hx,hy,hw]) hr hK
def Kr (c:FuncId×List PV):PV:= .fc c.1 [] c.2
def Fk:List (FuncId×List PV)->Int->Prop
 |[],e=>e=0
 |c::r,e=> ∃e1,aE c.1 c.2 (E e1)/\(e1≠0->e=e1)/\(e1=0->Fk r e)
theorem Nv {c:FuncId×List PV} {e:Int} (h:aE c.1 c.2 (E e)) (h0:e≠0):Fk (c::r) e:=⟨e,h,fun _=>rfl,fun g=>aP g h0⟩
theorem CU {c:FuncId×List PV} {e:Int} (h:aE c.1 c.2 (E 0)) (g:Fk r e):Fk (c::r) e:=⟨0,h,fun k=>aP rfl k,fun _=>g⟩
theorem qZ (l:List (FuncId×List PV)) {e:Int} (hl:l.length<1000000) (h:Fk l e):aE 27 [.sl (l.map Kr)] (E e):=by
 have l1:(l.map Kr).length=l.length:=aG ..;refine eW call27 func27 ?_;refine dH @l1 ?_;refine ak (α:=Nat) (fun i=>l.length-i) (fun i=>⟨[(6, .v (.sl (l.map Kr))),(7,E' l.length),(8,E' i)],[],_⟩) (fun i=>i<=l.length/\Fk (l.drop i) e) 0 (fun _=>aD _) ⟨aO _,h⟩ ?_ ?_
 ·exact lE
 ·rintro i ⟨hi,hx⟩ R hR
  by_cases hlt:i<l.length
  ·have e1:=getD_map Kr l (0,[]) hlt;have hgo:=hR (i+1);rw[aY (0,[]) hlt]at hx;obtain⟨e0,hc,hb,hn⟩:=hx;clear hR h;generalize l.getD i (0,[])=c at*;obtain⟨f,cs⟩:=c;simp only[Kr]at e1 hc
   by_cases h0:e0=0
   ·have hgo:=hgo ⟨oO,hn h0⟩ oO;subst h0;clear hb hn;repeat' first|simp only[go_sem,seval,l1,e1]|(refine gQ hc (OL _) ?_)|refine oE ?_|apply xX<;>intro hc
    refine hgo _ ?_;exact lE
   ·obtain rfl:=hb h0;clear hn hgo;have hb1:(e==0)=false:=by simpa using h0
    have hb2:(e !=0)=true:=by simpa using h0
    repeat' first|simp only[go_sem,seval,l1,e1,hb1,hb2]|(refine gQ hc (OL _) ?_)|refine oE ?_|apply xX<;>intro hc
    all_goals rfl
  ·obtain rfl:i=l.length:=oO;rw[dj]at hx;obtain rfl:e=0:=hx;exact fP @l1
theorem AP {g:FuncId} {c:List PV} {b:Bool} {e:Int} (h:aE g c (.b b)):aE 87 [.pt (.agg [.fc g [] c]) 0, .pt (.agg [E e]) 0] (E (if b then e else 0)):=by
 refine eW call87 func87 ?_;repeat' first|simp only[go_sem,seval]|(refine gQ h (OL _) ?_)|refine oE ?_|apply xX<;>intro hc
 all_goals simp_all
abbrev oV (cs:List PV) (el:Option TypeId):aJ:=⟨0,cs.map AV.v,false,el⟩
theorem mR (g:Nat->Option Nat) (cs:List PV) (el:Option TypeId):aJ.aX g (oV cs el)=some (oV cs el):=by
 have h: ∀l:List PV,AV.aX.renL g (l.map .v)=some (l.map .v):=by
  intro l
  induction l with
  |nil=>rfl
  |cons x r ih=>simp[AV.aX.renL,AV.aX,ih]
 simp[aJ.aX,h]
theorem Hy (k:Nat) (j:Option Nat) (s:AS) (l:List PV):bc (fF k j s) (l.map .v)=some (l.map .v):=by
 induction l with
 |nil=>rfl
 |cons x r ih=>simp[bc,ih,fF,e7,view]
theorem Ih (n nm:Nat) (f:FuncId) (cs:List PV) (el:Option TypeId) (e:Int):j4 prog 30 nm [(n,oV cs el)] [.fn (.func f) [] [.p n 0 0], .v (E e)] (.fn (.func 87) [] [.p nm 0 0, .v (.pt (.agg [E e]) 0)]) [(nm,some ⟨0,[.fn (.func f) [] [.p n 0 0]],false,none⟩)]:=by
 refine j4.w mixed call30 func30 rfl (ka.1 _ _ _ (by cbv)) (ka.2 _ _ (by cbv)) (obs:=[oV cs el]) (args:=[.fn (.func f) [] [.p 0 0 0], .v (E e)]) (fs:=[none]) (j:=some 1000) (nw:=some ⟨0,[.fn (.func f) [] [.p 0 0 0]],false,none⟩) (v:= .fn (.func 87) [] [.p 1 0 0, .v (.pt (.agg [E e]) 0)]) (ns:=[n]) (obsA:=[oV cs el]) rfl ?_ (by simp) (by simp) rfl (by simp[bc,mR]) (by simp[bc,AV.aX,AV.aX.renL,dz]) (by simp[AV.aX,AV.aX.renL,gR]) (by simp[fL,outs,aJ.aX,AV.aX,AV.aX.renL,gR])
 repeat' first|simp only[go_sem,seval,true_or,or_true,false_or,or_false,aq,iQ,ff,ix,fF,gp,e7,pU,qj,gT,iC,dW,aR,AV.aX,AV.aX.renL,aM,Hy]|refine oE ?_|apply xX<;>intro hc
 all_goals skip
theorem AQ (n k nm:Nat) (hne:n≠k) (f:FuncId) (cs ds:List PV) (el dl:Option TypeId) (e:Int):j4 prog 30 nm [(n,oV cs el),(k,oV ds dl)] [.fn (.func f) [] [.p n 0 0, .p k 0 0], .v (E e)] (.fn (.func 87) [] [.p nm 0 0, .v (.pt (.agg [E e]) 0)]) [(nm,some ⟨0,[.fn (.func f) [] [.p n 0 0, .p k 0 0]],false,none⟩)]:=by
 refine j4.w mixed call30 func30 rfl (ka.1 _ _ _ (by cbv)) (ka.2 _ _ (by cbv)) (obs:=[oV cs el,oV ds dl]) (args:=[.fn (.func f) [] [.p 0 0 0, .p 1 0 0], .v (E e)]) (fs:=[none,none]) (j:=some 1000) (nw:=some ⟨0,[.fn (.func f) [] [.p 0 0 0, .p 1 0 0]],false,none⟩) (v:= .fn (.func 87) [] [.p 2 0 0, .v (.pt (.agg [E e]) 0)]) (ns:=[n,k]) (obsA:=[oV cs el,oV ds dl]) rfl ?_ (by simp) (by simp[hne]) rfl (by simp[bc,mR]) (by simp[bc,AV.aX,AV.aX.renL,dz,hne,kQ hne]) (by simp[AV.aX,AV.aX.renL,gR]) (by simp[fL,outs,aJ.aX,AV.aX,AV.aX.renL,gR])
 repeat' first|simp only[go_sem,seval,true_or,or_true,false_or,or_false,aq,iQ,ff,ix,fF,gp,e7,pU,qj,gT,iC,dW,aR,AV.aX,AV.aX.renL,aM,Hy]|refine oE ?_|apply xX<;>intro hc
 all_goals skip
theorem Xi (n k m nm:Nat) (h1:n≠k) (h2:n≠m) (h3:k≠m) (f:FuncId) (cs ds es:List PV) (el dl ml:Option TypeId) (e:Int):j4 prog 30 nm [(n,oV cs el),(k,oV ds dl),(m,oV es ml)] [.fn (.func f) [] [.p n 0 0, .p k 0 0, .p m 0 0], .v (E e)] (.fn (.func 87) [] [.p nm 0 0, .v (.pt (.agg [E e]) 0)]) [(nm,some ⟨0,[.fn (.func f) [] [.p n 0 0, .p k 0 0, .p m 0 0]],false,none⟩)]:=by
 refine j4.w mixed call30 func30 rfl (ka.1 _ _ _ (by cbv)) (ka.2 _ _ (by cbv)) (obs:=[oV cs el,oV ds dl,oV es ml]) (args:=[.fn (.func f) [] [.p 0 0 0, .p 1 0 0, .p 2 0 0], .v (E e)]) (fs:=[none,none,none]) (j:=some 1000) (nw:=some ⟨0,[.fn (.func f) [] [.p 0 0 0, .p 1 0 0, .p 2 0 0]],false,none⟩) (v:= .fn (.func 87) [] [.p 3 0 0, .v (.pt (.agg [E e]) 0)]) (ns:=[n,k,m]) (obsA:=[oV cs el,oV ds dl,oV es ml]) rfl ?_ (by simp) (by simp[h1,h2,h3]) rfl (by simp[bc,mR]) (by simp[bc,AV.aX,AV.aX.renL,dz,h1,h2,h3,kQ h1,kQ h2,kQ h3]) (by simp[AV.aX,AV.aX.renL,gR]) (by simp[fL,outs,aJ.aX,AV.aX,AV.aX.renL,gR])
 repeat' first|simp only[go_sem,seval,true_or,or_true,false_or,or_false,aq,iQ,ff,ix,fF,gp,e7,pU,qj,gT,iC,dW,aR,AV.aX,AV.aX.renL,aM,Hy]|refine oE ?_|apply xX<;>intro hc
 all_goals skip
theorem ES (vs:List Bytes) (sd:Bytes) (a:Int) (hl:vs.length<1000000):aE 33 [T vs sd a] (.b (eT vs a)):=by
 have h:=Tr sd (a:=a) hl;generalize eT vs a=b at*;cases b
 ·simp only[bM,az]at h;refine eW call33 func33 ?_;exact z2 @yN @h
 ·simp only[aB]at h;refine eW call33 func33 ?_;exact z2 @yN @h
end Go.Proofs.Tryz
namespace Go.Proofs.Tryz
open Go Go.Dom
theorem Cr (l:List (Bool×Bytes)) (hl:l.length<1000000):aE 210 [.sl (l.map cI)] (.b (l.all cg)):=by
 have l5:(l.map cI).length=l.length:=aG ..;refine eW call210 func210 ?_;repeat' first|simp only[go_sem,seval,l5]|refine oE ?_|apply xX<;>intro hc
 refine ak (α:=Nat) (fun i=>l.length-i) (fun i=>⟨[(5, .v (.sl (l.map cI))),(6,E' l.length),(7,E' i)],[],_⟩) (fun i=>i<=l.length/\(l.drop i).all cg=l.all cg) 0 (fun _=>aD _) ⟨aO _,rfl⟩ ?_ ?_
 ·exact lE
 ·rintro i ⟨hi,hf⟩ R hR;rw[<-hf]
  by_cases hlt:i<l.length
  ·have e1:=getD_map cI l fm hlt;have hgo:=hR (i+1);rw[<-hf]at hgo;rw[aY fm hlt,List.all_cons]at hgo⊢;obtain⟨x,hx⟩: ∃x,x=l.getD i fm:=⟨_,rfl⟩;rw[<-hx]at e1 hgo⊢;clear hx hf hR;obtain⟨n,a⟩:=x;have hv:=il n a;have e:cg (n,a)=(aa a&& !(n&&a==[])):=rfl;rw[e]at hgo⊢;clear e;simp only[cI]at e1;generalize (aa a&& !(n&&a==[]))=b at*;cases b
   ·repeat' first|simp only[go_sem,seval,l5,e1]|refine cP hv ?_|refine oE ?_|apply xX<;>intro hc
    all_goals simp
   ·have hgo:=hgo ⟨oO,by simp⟩ oO
    repeat' first|simp only[go_sem,seval,l5,e1]|refine cP hv ?_|refine oE ?_|apply xX<;>intro hc
    refine hgo _ ?_;exact lE
  ·obtain rfl:i=l.length:=oO;rw[dj];repeat' first|simp only[go_sem,seval,l5]|refine oE ?_|apply xX<;>intro hc
   all_goals rfl
theorem uq (l:List (Bool×Bytes)) (hl:l.length<1000000):aE 256 [.sl (l.map cI)] (.b (l.all cg)):=by
 have l5:(l.map cI).length=l.length:=aG ..;refine eW call256 func256 ?_;refine qi ?_;refine ak (α:=Nat) (fun i=>l.length-i) (fun i=>⟨[(0, .v (.sl (l.map cI))),(3,E' i)],[],_⟩) (fun i=>i<=l.length/\(l.drop i).all cg=l.all cg) 0 (fun _=>aD _) ⟨aO _,rfl⟩ ?_ ?_
 ·exact lE
 ·rintro i ⟨hi,hf⟩ R hR;rw[<-hf]
  by_cases hlt:i<l.length
  ·have e1:=getD_map cI l fm hlt;have hgo:=hR (i+1);rw[<-hf]at hgo;rw[aY fm hlt,List.all_cons]at hgo⊢;obtain⟨x,hx⟩: ∃x,x=l.getD i fm:=⟨_,rfl⟩;rw[<-hx]at e1 hgo⊢;clear hx hf hR;obtain⟨n,a⟩:=x;have hv:=iE n a;have e:cg (n,a)=(aa a&& !(n&&a==[])):=rfl;rw[e]at hgo⊢;clear e;simp only[cI]at e1;generalize (aa a&& !(n&&a==[]))=b at*;cases b
   ·repeat' first|simp only[go_sem,seval,l5,e1]|refine cP hv ?_|refine oE ?_|apply xX<;>intro hc
    all_goals simp
   ·have hgo:=hgo ⟨oO,by simp⟩ oO
    exact js (aN @l5 @e1) @hgo @hv
  ·obtain rfl:i=l.length:=oO;rw[dj];exact fP @l5
end Go.Proofs.Tryz
namespace Go.Proofs.Tryz
open Go Go.Dom Go.Num
theorem rX:cU Zp 2:=⟨fun _=>rfl,fun x y hy=>by simp[Zp,cI,fQ,PV.cells]at hy;rcases hy with rfl|rfl<;>rfl,fun h=>oO,fun _ x=>rfl⟩
def Og (vs:List Bytes) (sd:Bytes) (j:Nat):Except Int (List Int)->PV
 | .ok ms=> .tup [.sl (ms.map Zp),T vs sd j,E 0]
 | .error e=> .tup [.sl [],T [] [] 0,E e]
theorem ue {c sl b:Bytes} (hr:tF c sl) (vb:aa b=true) (hb:b≠[]) (lb:b.length<=16):1<=qA c sl b/\3*qA c sl b<da:=by
 have h1:=hr.c2;have h2:=hr.s2;have h3:=zU vb hb;unfold qA;refine⟨pO (pO oO oO) oO,?_⟩;have g1:num sl<256^8:=br (cF sl) (cQ oC hr.ls);have g2:num c<256^8:=br (cF c) (cQ oC hr.lc);have g3:num b<256^16:=br (cF b) (cQ oC lb);have g4:num sl*num c*num b<=256^8*256^8*256^16:=jZ (jZ (jV g1) (jV g2)) (jV g3);exact eR (jd 3 g4) (by unfold da;decide+kernel)
theorem u6 (ms:List Int) (z:Int):aT Zp (ms++[z])=aT Zp ms++[.v (.b (zs z)), .v (.s (zb z))]:=by rw[bT];rfl

def Sp (vs:List Bytes) (sd:Bytes):Except Int (Bytes×List Int×Nat)->PV
 | .ok (ch,rs,j)=> .tup [.agg [.s ch, .sl (rs.map Zp), .sl [], .sl []],T vs sd j,E 0]
 | .error e=> .tup [.agg [.s [], .sl [], .sl [], .sl []],T [] [] 0,E e]
end Go.Proofs.Tryz
namespace Go.Proofs.Tryz
open Go Go.Dom
theorem F7 {s:cG} (h1:aE 372 [s.pv] (.b true)) (hr:aE 373 [s.pv] (E 0)) {w:List (Bool×Bytes)} (hw:w.length<1000000):aE 241 [s.pv, .sl (w.map cI)] (E (if !(w.all cg)then 3 else if w.length≠s.vars.length then 6 else 0)):=by
 have l1:(w.map cI).length=w.length:=aG ..;obtain⟨gs,vs,es⟩:=s;have l2:(vs.map cz).length=vs.length:=aG ..;simp only[cG.pv]at h1 hr⊢;refine eW call241 func241 ?_;refine m9 @l1 @h1 ?_;refine ak (α:=Nat) (fun i=>w.length-i) (fun i=>⟨[(1, .v (.sl (w.map cI))),(2, .p 1000 0 0),(5,E' i)],[(1000,⟨0,[.v (.sl (gs.map dO)), .v (.sl (vs.map cz)), .v (.sl (es.map c9.pv))],false,none⟩)],_⟩) (fun i=>i<=w.length/\(w.drop i).all cg=w.all cg) 0 (fun _=>aD _) ⟨aO _,rfl⟩ ?_ ?_
 ·exact lE
 ·rintro i ⟨hi,hf⟩ R hR;rw[<-hf]
  by_cases hlt:i<w.length
  ·have e1:=getD_map cI w fm hlt;have hgo:=hR (i+1);rw[<-hf]at hgo;rw[aY fm hlt,List.all_cons]at hgo⊢;obtain⟨x,hx⟩: ∃x,x=w.getD i fm:=⟨_,rfl⟩;rw[<-hx]at e1 hgo⊢;clear hx hf hR;obtain⟨n,a⟩:=x;have hv:=iE n a;have e:cg (n,a)=(aa a&& !(n&&a==[])):=rfl;rw[e]at hgo⊢;simp only[cI]at e1;generalize (aa a&& !(n&&a==[]))=b at*;cases b
   ·clear hgo;exact jE (aN @l1 @e1) @hv
   ·have hgo:=hgo ⟨oO,by simp⟩ oO
    exact js (aN @l1 @e1) @hgo @hv
  ·obtain rfl:i=w.length:=oO;clear hR hf;rw[dj]
   by_cases hl:w.length=vs.length
   ·repeat' first|simp only[go_sem,seval,l1,l2]|refine cP hr ?_|refine oE ?_|apply xX<;>intro hc
    all_goals simp[hl]
   ·repeat' first|simp only[go_sem,seval,l1,l2]|refine cP hr ?_|refine oE ?_|apply xX<;>intro hc
    all_goals simp[hl]
end Go.Proofs.Tryz
namespace Go.Proofs.Tryz
open Go Go.Dom Go.Num


theorem Sj {b:Int} {c:Nat} (h:(c:Int)*b≠0):zs ((c:Int)*b)=zs b:=by
 have hc:(c:Int)≠0:=fun e=>h (by rw[e,Int.zero_mul])
 unfold zs;rw[fh];constructor
 ·intro g
  by_cases hb:b<0
  ·exact hb
  ·have:=Int.mul_nonneg (Int.natCast_nonneg c) (show 0<=b by omega);omega
 ·intro g;exact Int.mul_neg_of_pos_of_neg oO g
theorem Pg {a b:Int} {c:Nat} (h:a.natAbs+((c:Int)*b).natAbs<da) (hc:c<da) (hb:b.natAbs<da):aE 386 [Z a,N c,Z b] (Z (a+c*b)):=by
 have hl: ∀n,n<da->(bQ n).length<1048576:=fun n hn=>by have:=jc.2 hn;omega
 have hX:((c:Int)*b).natAbs=c*b.natAbs:=by rw[jg,Int.natAbs_natCast]
 have ht:=Dp (x:=c) (y:=b.natAbs) (hl _ hc) (hl _ hb);rw[<-hX]at ht;have hyz:=Sj (b:=b) (c:=c);obtain⟨y,hy⟩: ∃y:Int,y=c*b:=⟨_,rfl⟩;rw[<-hy]at h ht hyz⊢;clear hX hy;have hl2: ∀n,n<da->(bQ n).length<1099511627776:=fun n hn=>by have:=hl n hn;omega
 by_cases h1:(zs a==zs b||bQ y.natAbs==[])=true
 ·have hp:=HQ (x:=a.natAbs) (y:=y.natAbs) (hl2 _ oO) (hl2 _ oO);have hk:=jN (zs a) (a.natAbs+y.natAbs) (z:=a+y) (by
   by_cases h0:y=0
   ·subst h0;unfold zs;split<;>simp_all<;>omega
   ·refine P2 ?_;rw[hyz h0];simp only[mf,eD,fS]at h1;rcases h1 with h1|h1
    ·exact h1
    ·omega)
  clear hyz hl hl2 h hc hb;simp only[mf,eD]at h1
  by_cases hz:zs a=zs b
  ·have hz1:(zs a==zs b)=true:=by simpa using hz
   refine eW call386 func386 ?_;repeat' first|simp only[go_sem,seval,Z,hz1]|refine cP ht ?_|refine cP hp ?_|refine cP hk ?_|refine oE ?_|apply xX<;>intro hc
   all_goals rfl
  ·have hz1:(zs a==zs b)=false:=by simpa using hz
   have hz2:(bQ y.natAbs==[])=true:=by simpa using(h1.resolve_left hz)
   refine eW call386 func386 ?_;repeat' first|simp only[go_sem,seval,Z,hz1,hz2]|refine cP ht ?_|refine cP hp ?_|refine cP hk ?_|refine oE ?_|apply xX<;>intro hc
   all_goals rfl
 ·simp only[mf,eD,not_or]at h1;obtain⟨h1,h2⟩:=h1;have h0:y≠0:=fun e=>h2 (by rw[e];rfl)
  have hyb:=hyz h0;have hz1:(zs a==zs b)=false:=by simpa using h1
  have hz2:(bQ y.natAbs==[])=false:=by simpa using h2
  have ho:=xT (x:=a.natAbs) (y:=y.natAbs) (hl2 _ oO) (hl2 _ oO);have hd:=Fm a.natAbs y.natAbs;have hzz:zs a≠zs y:=by rw[hyb];exact h1
  by_cases hle:y.natAbs<=a.natAbs
  ·have hm:=xS (x:=a.natAbs) (y:=y.natAbs) (hl2 _ oO) (hl2 _ oO) hle;have hk:=jN (zs a) (a.natAbs-y.natAbs) (JZ hzz hle);rw[bu (show¬a.natAbs<y.natAbs by omega)]at hd
   generalize aW a.natAbs y.natAbs=cm at*;clear hyz hl hl2 h hc hb;refine eW call386 func386 ?_;repeat' first|simp only[go_sem,seval,Z,hz1,hz2,hd,cC]|refine cP ht ?_|refine cP ho ?_|refine cP hm ?_|refine cP hk ?_|refine oE ?_|apply xX<;>intro hc
   all_goals rfl
  ·have hm:=xS (x:=y.natAbs) (y:=a.natAbs) (hl2 _ oO) (hl2 _ oO) oO;have hk:=jN (zs y) (y.natAbs-a.natAbs) (P3 hzz oO);rw[hyb]at hk;rw[aU (show a.natAbs<y.natAbs by omega)]at hd
   generalize aW a.natAbs y.natAbs=cm at*;clear hyz hl hl2 h hc hb;refine eW call386 func386 ?_;repeat' first|simp only[go_sem,seval,Z,hz1,hz2,hd,cr]|refine cP ht ?_|refine cP ho ?_|refine cP hm ?_|refine cP hk ?_|refine oE ?_|apply xX<;>intro hc
   all_goals rfl
theorem SM:aE 243 [F0, .sl []] (.tup [.sl [],E 0]):=by
 refine eW call243 func243 ?_;exact Xn @Ga
theorem SG:aE 123 [F0, .sl []] (.b true):=by
 refine eW call123 func123 ?_;exact z1 @SM
theorem SW:aE 246 [.sl []] (.b true):=by
 refine eW call246 func246 ?_;exact Qc
theorem Pc:aE 247 [C0, .sl []] (.tup [.sl [],E 0]):=by
 refine eW call247 func247 ?_;exact z0
theorem Za (vs:List Bytes) (sd:Bytes) (a:Int):aE 248 [C0, .sl [], .s [],T vs sd a] (.tup [BS0,T vs sd a,E 0]):=by
 refine eW call248 func248 ?_;exact Xn @pD
theorem FP {vs:List Bytes} {a:Int} (sd:Bytes) (hg:eT vs a=true) (hl:vs.length<1000000):aE 125 [C0, .sl [],T vs sd a] (.tup [BS0,T vs sd a,E 0]):=by
 have h:=qI vs sd a hl;rw[hg]at h;have hr:=Za vs sd a;refine eW call125 func125 ?_;exact z7 @F3 @SW @h @Pc @hr oT oT

def lz (b:Bytes):PV:=cI (false,b)
theorem TP:cU lz 2:=⟨fun _=>rfl,fun x y hy=>by simp[lz,cI,PV.cells]at hy;rcases hy with rfl|rfl<;>rfl,fun h=>oO,fun _ x=>rfl⟩
theorem Jf (l:List Bytes) (x:Bytes):aT lz (l++[x])=aT lz l++[.v (.b false), .v (.s x)]:=by rw[bT];rfl
theorem rp (l:List Bytes) (hl:l.length<4611686018427387904):aE 16 [.sl (l.map .s), .sl (l.map .s)] (.b true):=by
 have l1:(l.map PV.s).length=l.length:=aG ..;have e0: ∀n:Int,(n==n)=true:=fun n=>dt n
 refine eW call16 func16 ?_;refine dH (aN @l1 @e0) ?_;refine ak (α:=Nat) (fun i=>l.length-i) (fun i=>⟨[(0, .v (.sl (l.map .s))),(1, .v (.sl (l.map .s))),(5,E' i)],[],_⟩) (fun i=>i<=l.length) 0 (fun _=>aD _) (aO _) ?_ ?_
 ·exact lE
 ·intro i hi R hR
  by_cases hlt:i<l.length
  ·have e1:=gU hlt;have hgo:=hR (i+1) oO oO;generalize l.getD i []=x at*;have e2:(x==x)=true:=dt x;clear hR;exact jr (aN @l1 (aN @e1 @e2)) @hgo
  ·obtain rfl:i=l.length:=oO;exact fP @l1
def IW (vs:List Bytes) (sd:Bytes):Bool:=(vs.take 40).all (fun x=>decide (x.length<=140))&&(decide (vs.length<=40)&&decide (sd.length<=100))
theorem L5 (vs:List Bytes) (sd:Bytes) (a:Int) (h:vs.length<4611686018427387904):aE 7 [T vs sd a] (.b (IW vs sd)):=by
 have l1:(vs.map PV.s).length=vs.length:=aG ..;unfold IW T;refine eW call7 func7 ?_;refine qi ?_;refine ak (α:=Nat) (fun i=>41-i) (fun i=>⟨[(1, .p 1000 0 0),(3,E' i)],[(1000,⟨0,[.v (.sl (vs.map .s)), .v (.s sd), .v (.i .i64 a)],false,none⟩)],_⟩) (fun i=>i<=vs.length/\i<=40/\((vs.take 40).drop i).all (fun x=>decide (x.length<=140))=(vs.take 40).all fun x=>decide (x.length<=140)) 0 (fun _=>aD _) ⟨aO _,aO _,rfl⟩ ?_ ?_
 ·exact lE
 ·rintro i ⟨hi,h20,hf⟩ R hR;rw[<-hf]
  by_cases hlt:i<vs.length/\i<40
  ·obtain⟨hl,hl2⟩:=hlt;have e1:=gU hl;have ht:i<(vs.take 40).length:=by rw[cd];omega
   have hgt:(vs.take 40).getD i []=vs.getD i []:=by simp[b9,fq,hl2]
   have hgo:=hR (i+1);rw[<-hf]at hgo;rw[aY [] ht,List.all_cons,hgt]at hgo⊢;generalize vs.getD i []=x at*;clear hf hR hgt ht
   by_cases ha:x.length<=140
   ·have hgo:=hgo ⟨oO,oO,by simp[ha]⟩ oO
    exact jr (aN @l1 @e1) @hgo
   ·have hd:decide (x.length<=140)=false:=by simpa using ha
    rw[hd,cY,cY];clear hgo;exact fP (aN @l1 @e1)
  ·have hd:(vs.take 40).drop i=[]:=iu (by rw[cd];omega)
   rw[hd,List.all_nil,cq];clear hR hf
   by_cases hl:i<vs.length
   ·have hi2:i=40:=oO;subst hi2;have hx:decide (vs.length<=40)=false:=by simp;omega
    rw[hx,cY];exact fP @l1
   ·have hi2:i=vs.length:=oO;subst hi2;have hx:decide (vs.length<=40)=true:=by simp;omega
    rw[hx,cq];repeat' first|simp only[go_sem,seval,l1]|refine oE ?_|apply xX<;>intro hc
    all_goals (refine congrArg PV.b ?_;rw[fh];omega)
    all_goals simp_all
theorem Ci (vs:List Bytes) (sd:Bytes) (a:Int) (hl:vs.length<4611686018427387904):aE 12 [T vs sd a,T vs sd a] (.b true):=by
 have l1:(vs.map PV.s).length=vs.length:=aG ..;have e0: ∀n:Int,(n==n)=true:=fun n=>dt n
 have e3:(sd==sd)=true:=dt sd;unfold T;refine eW call12 func12 ?_;refine dH (aN @l1 (aN @e0 @e3)) ?_;refine ak (α:=Nat) (fun i=>vs.length-i) (fun i=>⟨[(2, .p 1000 0 0),(3, .p 1001 0 0),(5,E' i)],[(1000,⟨0,[.v (.sl (vs.map .s)), .v (.s sd), .v (.i .i64 a)],false,none⟩),(1001,⟨0,[.v (.sl (vs.map .s)), .v (.s sd), .v (.i .i64 a)],false,none⟩)],_⟩) (fun i=>i<=vs.length) 0 (fun _=>aD _) (aO _) ?_ ?_
 ·exact lE
 ·intro i hi R hR
  by_cases hlt:i<vs.length
  ·have e1:=gU hlt;have hgo:=hR (i+1) oO oO;generalize vs.getD i []=x at*;have e2:(x==x)=true:=dt x;clear hR;exact jr (aN @l1 (aN @e1 @e2)) @hgo
  ·obtain rfl:i=vs.length:=oO;exact fP @l1
theorem LF (l:List Int) (hl:l.length<4611686018427387904):aE 130 [.sl (l.map Zp), .sl (l.map Zp)] (.b true):=by
 have l1:(l.map Zp).length=l.length:=aG ..;have e0: ∀n:Int,(n==n)=true:=fun n=>dt n
 refine eW call130 func130 ?_;refine dH (aN @l1 @e0) ?_;refine ak (α:=Nat) (fun i=>l.length-i) (fun i=>⟨[(0, .v (.sl (l.map Zp))),(1, .v (.sl (l.map Zp))),(5,E' i)],[],_⟩) (fun i=>i<=l.length) 0 (fun _=>aD _) (aO _) ?_ ?_
 ·exact lE
 ·intro i hi R hR
  by_cases hlt:i<l.length
  ·have e1:=getD_map Zp l 0 hlt;have hgo:=hR (i+1) oO oO;obtain⟨z,hz⟩: ∃z,z=l.getD i 0:=⟨_,rfl⟩;rw[<-hz]at e1;clear hz hR;rw[show Zp z=cI (fQ z)from rfl]at e1
   generalize fQ z=q at*;obtain⟨n,a⟩:=q;simp only[cI]at e1;have e2: ∀ _:True,(n==n)=true:=fun _=>dt _
   have e3: ∀ _:True,(a==a)=true:=fun _=>dt _
   repeat' first|simp only[go_sem,seval,l1,e1,rQ,e2 oT,e3 oT]|refine oE ?_|apply xX<;>intro hc
   refine hgo _ ?_;exact lE
  ·obtain rfl:i=l.length:=oO;exact fP @l1
theorem SL (ch:Bytes) {l:List Int} (hl:l.length<4611686018427387904):aE 53 [.agg [.s ch, .sl (l.map Zp), .sl [], .sl []], .agg [.s ch, .sl (l.map Zp), .sl [], .sl []]] (.b true):=by
 have h1:=LF l hl;have h2:=rp [] (by simp)
 have e1:=dt ch;simp only[ca]at h2;refine eW call53 func53 ?_;repeat' first|simp only[go_sem,seval,e1,mq]|refine cP h1 ?_|refine cP h2 ?_|(refine aj ?_)|refine oE ?_|apply xX<;>intro hc
 all_goals rfl
