/-
  Part of the proof, part KR26. Own work.
-/
import Derived.Test.YtmobkhegihemeaaGreatDoorKR25
import Derived.Test.YtmobkhegihemeaaGreatDoorRows
import Derived.Test.YtmobkhegihemeaaGreatDoorCards
import Derived.Test.YtmobkhegihemeaaGreatDoorTie
import Derived.ProofKit
import Derived.ChangeSame
import Derived.Lay
import Derived.LaidOnce
import Derived.SevenTiedAt
import Derived.Lib.LaidU8
set_option linter.all false
namespace Go.Proofs.YtmobkhegihemeaaGreatDoor
open Go Go.Dom Go.Num
set_option maxRecDepth 100000
set_option maxHeartbeats 4000000
def Nr (m:Bytes):Int:=if !aa m then 3 else if gi m []then 0 else 13
theorem zf (m:Bytes):aB Tryz.prog 73 [G m []] (E (Nr m)):=by
 have hv:=aF m;have hv0:=aF [];rw[show aa []=true from rfl]at hv0
 by_cases h:aa m=true
 ·have hb:=pj h 0 (by decide)
  have hcm:=gO m [8];rw[h]at hv;rw[h,show aa [8]=true from rfl,show num [8]=8 from rfl]at hcm
  have he:aT (num m) 8≤0↔ ¬8<num m:=by unfold aT;split<;>(try split)<;>omega
  have e:Nr m=if(num m).testBit 0&&decide (8<num m)then 0 else 13:=by simp[Nr,gi,h]
  rw[e];clear e;generalize (num m).testBit 0=tb at*;refine eW Tryz.call73 Tryz.func73 ?_;repeat' first|simp only[go_sem,seval,nn]|refine cP hv ?_|refine cP hv0 ?_|refine cP hb ?_|refine cP Rv ?_|refine cP hcm ?_|refine sB ?_|(first|apply pX|apply bX)<;>intro hc|refine⟨oD,?_⟩|exact oD|fail
  all_goals simp_all
 ·have h:aa m=false:=by simpa using h
  rw[h]at hv;have e:Nr m=3:=by simp[Nr,h]
  rw[e];refine eW Tryz.call73 Tryz.func73 ?_;repeat' first|simp only[go_sem,seval]|refine cP hv ?_|refine sB ?_|(first|apply pX|apply bX)<;>intro hc|refine⟨oD,?_⟩|exact oD|fail
theorem Gd {m:Bytes} (lm:m.length≤8) (x:Bytes):aB Tryz.prog 79 [G m [], .s x] (.b (rT m [] x)):=by
 have h:=JA lm [] x;refine eW Tryz.call79 Tryz.func79 ?_;repeat' first|simp only[go_sem,seval,nn]|refine cP h ?_|refine sB ?_|(first|apply pX|apply bX)<;>intro hc|refine⟨oD,?_⟩|exact oD|fail
end Go.Proofs.YtmobkhegihemeaaGreatDoor
namespace Go.Proofs.YtmobkhegihemeaaGreatDoor
open Go Go.Dom Go.Num
set_option maxRecDepth 100000
set_option maxHeartbeats 8000000
structure NN where
 (c sl mm mo mg mh wm wo wg wh se at' ha el es bl ma:Bytes)
def NN.pv (p:NN):PV:= .agg [.s p.c, .s p.sl, .s p.mm, .s p.mo, .s p.mg, .s p.mh, .s p.wm, .s p.wo, .s p.wg, .s p.wh, .s p.se, .s p.at', .s p.ha, .s p.el, .s p.es, .s p.bl, .s p.ma]
def NN.My (p:NN):List Bytes:=[p.c,p.sl,p.se,p.at',p.ha,p.el,p.es,p.bl,p.ma,p.mm,p.mo,p.mg,p.mh,p.wm,p.wo,p.wg,p.wh]
theorem Ei {x:Bytes} (h:aa x=true):aB Tryz.prog 30 [.s x, .s [2]] (E (aT (num x) 2)):=by
 have:=gO x [2]
 rwa[h,show aa [2]=true from rfl,show num [2]=2 from rfl]at this
theorem lW {x y:Bytes} (h:aa x=true) (g:aa y=true):aB Tryz.prog 30 [.s x, .s y] (E (aT (num x) (num y))):=by
 have:=gO x y
 rwa[h,g]at this
end Go.Proofs.YtmobkhegihemeaaGreatDoor
namespace Go.Proofs.YtmobkhegihemeaaGreatDoor
open Go Go.Dom Go.RowKit Go.Shelf
set_option maxRecDepth 100000
set_option maxHeartbeats 4000000
structure Key where
 (name m o z s:Bytes)
 r:List Bytes
 (u h:Bytes)
def Key.pv (k:Key):PV:= .agg [.s k.name, .s k.m, .s k.o, .s k.z, .s k.s, .sl (k.r.map .s), .s k.u, .s k.h]
end Go.Proofs.YtmobkhegihemeaaGreatDoor
namespace Go.Proofs.YtmobkhegihemeaaGreatDoor
open Go Go.Dom Go.Num
set_option maxRecDepth 100000
set_option maxHeartbeats 8000000
def yw (i:Nat) (c:Int):Bool:= !((decide (c≥97)&&decide (c≤122))||(decide (c≥65)&&decide (c≤90)))&&(((i:Int)==0)||((c !=95)&&(decide (c<48)||decide (c>57))))
def LW (n:Bytes) (i:Nat):Int:=((n.getD i 0).toNat:Int)
def jH (n:Bytes):Bool:=(List.range n.length).all (fun i=> !yw i (LW n i))&& !(n==[])&&decide (n.length≤32)

theorem eg {l:List Bytes} {x:Nat} (h:x<l.length):(l.map PV.s).getD x .fn0= .s (l.getD x []):=by
 simp[List.getD_eq_getElem?_getD,h]
theorem tG {l:List Bytes} {y:PV} (h:y∈l.map PV.s):y.cells.length=1:=by
 obtain⟨c,_,rfl⟩:=List.mem_map.1 h;rfl
def bU {α:Type} (p:α→Bool):Nat→List α→Int
 | _,[]=> -1
 |k,x::r=>if p x then(k:Int)else bU p (k+1) r
theorem ek {α:Type} {p:α→Bool}: ∀{l:List α} {k:Nat},0≤bU p k l↔l.any p=true
 |[],k=>by simp[bU]
 |x::r,k=>by
  simp only[bU,List.any_cons];split
  ·rename_i h;simp[h]
  ·rename_i h;simp only[Bool.not_eq_true]at h;rw[ek,h,Bool.false_or]
theorem drop_cons {l:List Bytes} {i:Nat} (h:i<l.length):l.drop i=l.getD i []::l.drop (i+1):=by
 rw[List.drop_eq_getElem_cons h,List.getD_eq_getElem?_getD,List.getElem?_eq_getElem h];rfl
theorem rB (l:List Bytes) (f:FuncId) (p:Bytes→Bool) (hl:l.length<4611686018427387904) (h: ∀x,aB Tryz.prog f [.s x] (.b (p x))):aB Tryz.prog 312 [.sl (l.map .s), .fn (.func f)] (E (bU p 0 l)):=by
 refine eW Tryz.call312 Tryz.func312 ?_;repeat' first|simp only[go_sem,seval]|refine sB ?_|(first|apply pX|apply bX)<;>intro hc|refine⟨oD,?_⟩|exact oD|fail
 refine aj (α:=Nat) (fun i=>l.length-i) (fun i=>⟨[(0, .v (.sl (l.map .s))),(1, .v (.fn (.func f))),(7, .v (.i .i64 l.length)),(8, .v (.i .i64 (i:Nat)))],[],_⟩) (fun i=>i≤l.length∧bU p i (l.drop i)=bU p 0 l) 0 (fun _=>Nat.le_refl _) ⟨Nat.zero_le _,rfl⟩ ?_ ?_
 ·exact lE
 ·rintro i ⟨hi,hx⟩ R hR;rw[←hx]
  by_cases hlt:i<l.length
  ·have e1:=eg hlt;have hf:=h (l.getD i []);have hgo:=hR (i+1);rw[←hx,drop_cons hlt]at hgo;rw[drop_cons hlt];simp only[bU]at hgo⊢;clear hx hR h;generalize p (l.getD i [])=b at*;repeat' first|simp only[go_sem,seval,e1]|refine cP hf ?_|refine sB ?_|(first|apply pX|apply bX)<;>intro hc|refine⟨oD,?_⟩|exact oD|fail
   all_goals first
    |(refine hgo ⟨by omega,by simp_all⟩ (by omega) _ ?_;(refine AS.Le.of (by first|decide|omega) ?_ ?_<;>simp[bL,bK,aD,ai,AV.bd,AV.bd.bdL,u8,af,ah,ak]);done)
    |(simp_all;done)
    |skip
  ·obtain rfl:i=l.length:=by omega
   rw[List.drop_length];repeat' first|simp only[go_sem,seval]|refine sB ?_|(first|apply pX|apply bX)<;>intro hc|refine⟨oD,?_⟩|exact oD|fail
   all_goals simp[bU]
theorem mR (l:List Bytes) (f:FuncId) (p:Bytes→Bool) (hl:l.length<4611686018427387904) (h: ∀x,aB Tryz.prog f [.s x] (.b (p x))):aB Tryz.prog 245 [.sl (l.map .s), .fn (.func f)] (.b (l.any p)):=by
 have hi:=rB l f p hl h;have e:decide (bU p 0 l≥0)=l.any p:=by
  rw[Bool.eq_iff_iff,decide_eq_true_iff];exact ek
 refine eW Tryz.call245 Tryz.func245 ?_;repeat' first|simp only[go_sem,seval,e]|refine cP hi ?_|refine sB ?_|(first|apply pX|apply bX)<;>intro hc|refine⟨oD,?_⟩|exact oD|fail
abbrev T (vs:List Bytes) (sd:Bytes) (at':Int):PV:= .agg [.sl (vs.map .s), .s sd, .i .i64 at']
theorem ER (x:Bytes):aB Tryz.prog 246 [.s x] (.b (!aa x)):=by
 have hv:=aF x;refine eW Tryz.call246 Tryz.func246 ?_;repeat' first|simp only[go_sem,seval]|refine cP hv ?_|refine sB ?_|(first|apply pX|apply bX)<;>intro hc|refine⟨oD,?_⟩|exact oD|fail
def bm (vs:List Bytes) (at':Int):Bool:=decide (at'≥0)&&decide (at'≤2147483647)&& !(vs.any fun x=> !aa x)
theorem tO (vs:List Bytes) (sd:Bytes) (at':Int) (hl:vs.length<4611686018427387904):aB Tryz.prog 165 [T vs sd at'] (.b (bm vs at')):=by
 have hcf:=mR vs _ (fun x=> !aa x) hl ER
 unfold bm;generalize (vs.any fun x=> !aa x)=b at*
 refine eW Tryz.call165 Tryz.func165 ?_;repeat' first|simp only[go_sem,seval]|refine cP hcf ?_|refine sB ?_|(first|apply pX|apply bX)<;>intro hc|refine⟨oD,?_⟩|exact oD|fail
 all_goals simp_all
 all_goals (intros;omega)
def nQ (vs:List Bytes) (at':Int) (n:Bytes):Int:=if !(bm vs at'&&aa n)then 3 else if n=[]then 11 else 0
theorem mD (vs:List Bytes) (sd:Bytes) (at':Int) (n:Bytes) (hl:vs.length<4611686018427387904):aB Tryz.prog 110 [T vs sd at', .s n] (E (nQ vs at' n)):=by
 have hg:=tO vs sd at' hl;have hv:=aF n;unfold nQ;generalize bm vs at'=b at*;generalize aa n=b2 at*;refine eW Tryz.call110 Tryz.func110 ?_;repeat' first|simp only[go_sem,seval]|refine cP hg ?_|refine cP hv ?_|refine sB ?_|(first|apply pX|apply bX)<;>intro hc|refine⟨oD,?_⟩|exact oD|fail
 all_goals simp_all
def Eu (vs:List Bytes) (sd:Bytes) (i:Nat) (n:Bytes):PV:=
 if num n≤num (vs.getD i [])then .tup [.s [],T [] [] 0,E 2]else .tup [.s (vs.getD i []),T vs sd (i+1:Nat),E 0]
theorem pS (l:List Bytes):(l.map PV.s).flatMap PV.cells=l.map PV.s:=by
 induction l with
 |nil=>rfl
 |cons x r ih=>simp_all[PV.cells]
theorem FW {l:List Bytes} {y:AV} (h:y∈List.map AV.v (List.flatMap PV.cells (l.map PV.s))):y.one=true:=by
 rw[pS,List.map_map]at h;obtain⟨c,_,rfl⟩:=List.mem_map.1 h;rfl
theorem gU (n:Nat) (x:AV):(List.replicate n [x]).flatten.length=n:=by
 induction n with
 |zero=>rfl
 |succ n ih=>rw[List.replicate_succ,List.flatten_cons,List.length_append,ih,List.length_singleton];omega
theorem JF (vs:List Bytes):List.drop vs.length (List.replicate vs.length [AV.v (PV.s [])]).flatten=[]∧(List.map AV.v (List.map PV.s vs)).all AV.one=true∧List.take vs.length (List.map AV.v (List.map PV.s vs))=List.map AV.v (List.map PV.s vs)∧chunk 1 vs.length (List.map PV.s vs)=List.map PV.s vs:=by
 refine⟨?_,?_,?_,?_⟩
 ·rw[List.drop_of_length_le (by rw[gU];exact Nat.le_refl _)]
 ·simp[List.all_eq_true,AV.one,PV.one]
 ·rw[List.take_of_length_le (by simp)]
 ·have:=nh (List.map PV.s vs);rwa[List.length_map]at this
theorem wJ {vs:List Bytes} {i:Nat} (hi:i<vs.length):vs.getD i []∈vs:=by
 rw[List.getD_eq_getElem?_getD,List.getElem?_eq_getElem hi];exact List.getElem_mem hi
theorem Ig {vs:List Bytes} (sd:Bytes) {i:Nat} {n:Bytes} (hv:vs.all aa=true) (hn:aa n=true) (hi:i<vs.length) (hl:vs.length<1000000):aB Tryz.prog 111 [T vs sd i, .s n] (Eu vs sd i n):=by
 have hx:aa (vs.getD i [])=true:=List.all_eq_true.1 hv _ (wJ hi);have hcm:=gO (vs.getD i []) n;rw[hx,hn]at hcm;simp only[Bool.and_self,if_true]at hcm;have e1:=eg hi;have e2:(aT (num (vs.getD i [])) (num n)≥0)=(num n≤num (vs.getD i [])):=pI _ _;unfold Eu;generalize aT (num (vs.getD i [])) (num n)=cm at*
 by_cases hle:num n≤num (vs.getD i [])
 ·rw[if_pos hle];have e3:cm≥0:=by rw[e2];exact hle
  refine eW Tryz.call111 Tryz.func111 ?_;repeat' first|simp only[go_sem,seval,e1]|refine cP hcm ?_|refine sB ?_|(first|apply pX|apply bX)<;>intro hc|refine⟨oD,?_⟩|exact oD|fail
  rfl
 ·rw[if_neg hle];have e3: ¬cm≥0:=by rw[e2];exact hle
  refine eW Tryz.call111 Tryz.func111 ?_;repeat' first|simp only[go_sem,seval,e1]|refine cP hcm ?_|refine sB ?_|(first|apply pX|apply bX)<;>intro hc|refine⟨oD,?_⟩|exact oD|fail
  refine⟨⟨fun x hx=>tG hx,fun y hy=>FW hy,by rw[gU];exact Nat.le_refl _⟩,?_⟩
  obtain⟨r1,r2,r3,r4⟩:=JF vs;repeat' first|simp only[go_sem,seval,e1,gU,pS,r1,r2,r3,r4,dx]|refine sB ?_|(first|apply pX|apply bX)<;>intro hc|refine⟨oD,?_⟩|exact oD|fail
  simp

def NN.KC (p:NN):List Bytes:=[p.c,p.sl,p.mm,p.mo,p.mg,p.mh,p.wm,p.wo,p.wg,p.wh,p.se,p.at',p.ha,p.el,p.es,p.bl,p.ma]
end Go.Proofs.YtmobkhegihemeaaGreatDoor
namespace Go.Proofs.YtmobkhegihemeaaGreatDoor
open Go Go.Dom Go.ChangeShapes Go.WideShapes Go.ChangeAt Go.RowKit
set_option maxRecDepth 100000
theorem Rb:ownKnob Tryz.prog.godebug=none:=by kernel_rfl
theorem Fh:laidOutB Tryz.prog=true:=by kernel_rfl
theorem KO:Tryz.prog.underlying 4=some .bool:=by kernel_rfl
theorem uS:Tryz.prog.underlying 9=some .string:=by kernel_rfl
theorem uN:Tryz.prog.underlying 22=some .string:=by kernel_rfl
theorem cS:Tryz.prog.cellsOf 9=1:=by kernel_rfl
theorem cN:Tryz.prog.cellsOf 22=1:=by kernel_rfl
theorem R9:Tryz.prog.cellsOf 24=2:=by kernel_rfl
theorem tk {ps:List PV} {x:PV} (h:List.take 1 ps=[x]):ps=x::List.drop 1 ps:=by cases ps<;>simp_all
theorem SI {ps:List PV} {x y:PV} (h:List.take 2 ps=[x,y]):ps=x::y::List.drop 2 ps:=by
 rcases ps with _|⟨a,_|⟨b,r⟩⟩<;>simp_all
theorem J3 {k:Nat} {ps:List PV} (h:rG Tryz.prog (k+1) 22 ps): ∃b:Bytes,ps=[.s b]:=by
 simp only[rG,uN]at h;obtain⟨x,rfl,-⟩:=h;exact⟨x,rfl⟩
theorem PN {k:Nat} {ps:List PV} (h:rG Tryz.prog (k+1) 9 ps): ∃b:Bytes,ps=[.s b]:=by
 simp only[rG,uS]at h;obtain⟨x,rfl,-⟩:=h;exact⟨x,rfl⟩
theorem PM {k:Nat} {ps:List PV} (h:rG Tryz.prog (k+2) 24 ps): ∃a b:Bytes,ps=[.s a, .s b]:=by
 rw[rG,Tryz.underlying24]at h;simp only[DA,cN]at h;obtain⟨h1,h2,h3⟩:=h;obtain⟨a,h1⟩:=J3 h1;obtain⟨b,h2⟩:=J3 h2;exact⟨a,b,by rw[tk h1,tk h2,h3]⟩
section
variable {H:Type} {enc:TypeId×Value→H} {P:Program}
theorem CP {f:Func} {s:ChangeSpec} {apart fresh handsOn again:Bool} {W W':World} {args:Array Value} {v:Value} {ds gs:List (DataW H)} {before pa pv:List MemPlace}
  (hW:DataW.Whole enc P f.params.toList s.vars apart W args.toList ds gs before)
  (hres: ∀(b:Nat) (sp:Nat→Bool) (hd:Bool),DataW.TrodAll enc P W' b sp hd f.resultTypes.toList (v.resultList f.resultTypes.size) (s.fn H (ds++gs)).results [])
  (hargs: ∀sp:Nat→Bool,(∀p∈before,sp p.block=true)→DataW.TrodAll enc P W' 0 sp true f.params.toList args.toList (s.fn H (ds++gs)).args pa)
  (hvars: ∀sp:Nat→Bool,(∀p∈before,sp p.block=true)→DataW.TrodVars enc P W' sp s.vars (s.fn H (ds++gs)).vars pv)
  (hps:before=pa++pv) (hb:Below W.heap.size W W')
  (hok: ∀(j:Nat) (t:TypeId) (r:Value),f.resultTypes[j]?=some t→(v.resultList f.resultTypes.size)[j]?=some r→Value.okWide P W' .any 0 t r):
  s.post enc P f apart fresh handsOn again W args v W':=by
 have hlt: ∀p∈before,p.block<W.heap.size:=fun p hp=>hW.lt p hp
 have hold: ∀p∈before,(fun b=>decide (b<W.heap.size)) p.block=true:=fun p hp=>by simpa using hlt p hp
 refine⟨ds,gs,before,[],pa,pv,hW,hres _ _ _,hargs _ hold,hvars _ hold,World.keptBut_mono (fun p hp=>⟨hp,?_⟩) (hb.frame (·∈before)),fun _=> ?_⟩
 ·rw[hps,List.mem_append]at hp;exact Or.inr hp
 ·obtain⟨_,_,_,_,_,hz,hn⟩:=hW;refine⟨hok,_,_,([]++pa)++pv,⟨[]++pa,pv,trodAll_append (hargs _ (fun _ _=>rfl)) (hres _ _ _),hvars _ (fun _ _=>rfl),rfl,?_,?_⟩,?_⟩
  ·intro b off hp;have hin:MemPlace.cell b off∈before:=by rw[hps];simpa using hp
   rw[hb.frozen (hlt _ hin)];exact hz b off hin
  ·intro ha;have:=hn ha;rw[hps]at this;simpa using this
  ·intro p hp _;rw[hps];simpa using hp
end
def oh:List (String×DataW Unit):=[("math/bits.deBruijn32tab",Rows.laid_math_bits_deBruijn32tab),("math/bits.deBruijn64tab",Rows.laid_math_bits_deBruijn64tab),("internal/strconv.uint64pow10",Rows.laid_internal_strconv_uint64pow10)]
theorem nV {W:World} {n:String} {g:Nat} {t e:TypeId} {k:IntKind} {m:Nat} {zs:List Int} (h:Lib.VarReads Tryz.prog W n (Lib.tabData k zs)) (hg:Tryz.prog.globalNamed n=some g) (ht:(Tryz.prog.globals[g]?).map (·.type)=some t) (hu:Tryz.prog.underlying t=some (.array m e)) (he:Tryz.prog.underlying e=some (.int k)) (hce:Tryz.prog.cellsOf e=1) (hct:Tryz.prog.cellsOf t=m) (i:Nat):
  W.cell? ⟨g,i,none⟩=(zs[i]?).map fun z=>Value.int k z:=by
 obtain⟨g',t',cs,fuel,p,h1,h2,h3,h4⟩:=h;obtain rfl:=Option.some.inj (hg.symm.trans h1);obtain rfl:=Option.some.inj (ht.symm.trans h2);have h5:=Lib.cells_of_tab hu he hce hct h4;rw[World.var?_cell h1 h3 i,←Array.getElem?_toList,h5,List.getElem?_map]
theorem C8 {W:World} (h:laidMet Tryz.prog oh W): ∀b o v,TR Tryz.prog b o=some v→W.cell? ⟨b,o,none⟩=some v:=by
 have h1:=fun i=>nV (Lib.laidMet.reads h (n:= "math/bits.deBruijn32tab") (d:=Lib.tabData .u8 iN) (by simp[oh];rfl)) (g:=5) (t:=410) (e:=5) (m:=32) (by kernel_rfl) (by kernel_rfl) (by kernel_rfl) (by kernel_rfl) (by kernel_rfl) (by kernel_rfl) i
 have h2:=fun i=>nV (Lib.laidMet.reads h (n:= "math/bits.deBruijn64tab") (d:=Lib.tabData .u8 iO) (by simp[oh];rfl)) (g:=0) (t:=267) (e:=5) (m:=64) (by kernel_rfl) (by kernel_rfl) (by kernel_rfl) (by kernel_rfl) (by kernel_rfl) (by kernel_rfl) i
 have h3:=fun i=>nV (Lib.laidMet.reads h (n:= "internal/strconv.uint64pow10") (d:=Lib.tabData .u64 jJ) (by simp[oh];rfl)) (g:=4) (t:=398) (e:=47) (m:=20) (by kernel_rfl) (by kernel_rfl) (by kernel_rfl) (by kernel_rfl) (by kernel_rfl) (by kernel_rfl) i
 intro b o v hv;have key: ∀(k:IntKind) (zs:List Int),((zs.map fun n=>(k,n))[o]?).map (fun p:IntKind×Int=>Value.int p.1 p.2)=(zs[o]?).map fun z=>Value.int k z:=by
  intro k zs;rw[List.getElem?_map,Option.map_map];rfl
 unfold TR at hv;simp only[aV.tab,List.lookup]at hv
 by_cases e1:b=5
 ·subst e1;rw[h1 o,←key];simpa using hv
 ·by_cases e2:b=0
  ·subst e2;rw[h2 o,←key];simpa using hv
  ·by_cases e3:b=4
   ·subst e3;rw[h3 o,←key];simpa using hv
   ·simp only[show(b==5)=false from beq_eq_false_iff_ne.2 e1,show(b==0)=false from beq_eq_false_iff_ne.2 e2,show(b==4)=false from beq_eq_false_iff_ne.2 e3]at hv
    cases hv
end Go.Proofs.YtmobkhegihemeaaGreatDoor
namespace Go.Proofs.YtmobkhegihemeaaGreatDoor
open Go Go.Dom Go.Num
set_option maxRecDepth 100000
set_option maxHeartbeats 8000000
theorem gM (n1 n2 nm:Nat) (hne:n1≠n2) {a b m:Nat} (o:Bytes) (el el2:Option TypeId) (ha:a<18446744073709551616) (hb:b<18446744073709551616) (hm:m<18446744073709551616) (h0:0<m):ew Tryz.prog 127 nm [(n1,⟨0,[.v (N a)],false,el⟩),(n2,⟨0,[.v (N m), .v (.s o)],false,el2⟩)] [.v (N b), .p n1 0 0, .p n2 0 0] (.tup []) [(n1,some ⟨0,[.v (N (a*b%m))],false,el⟩)]:=by
 have hx:=jU ha hb hm h0;refine ew.w mixed Tryz.call127 Tryz.func127 rfl (eT.1 _ _ _ (by cbv)) (eT.2 _ _ (by cbv)) (obs:=[⟨0,[.v (N a)],false,el⟩,⟨0,[.v (N m), .v (.s o)],false,el2⟩]) (args:=[.v (N b), .p 0 0 0, .p 1 0 0]) (fs:=[some (some ⟨0,[.v (N (a*b%m))],false,el⟩),none]) (j:=none) (nw:=none) (v:= .tup []) (ns:=[n1,n2]) (obsA:=[⟨0,[.v (N a)],false,el⟩,⟨0,[.v (N m), .v (.s o)],false,el2⟩]) rfl ?_ (by simp) (by simp[hne]) rfl (by simp[aI,aq.aC,AV.aC,AV.aC.renL]) (by simp[aI,AV.aC,aY,hne,Ne.symm hne]) (by simp[AV.aC,AV.aC.renL]) (by simp[cI,outs,aq.aC,AV.aC,AV.aC.renL])
 simp only[go_sem,seval];repeat' first|simp only[go_sem,seval,true_or,or_true,false_or,or_false,Option.some.injEq,dN,b9,dH,c9,da,ca,jm,jG,dq,dK,br,az,AV.aC,AV.aC.renL,ar]|refine cP hx ?_|refine sB ?_|(first|apply pX|apply bX)<;>intro hc|refine⟨oD,?_⟩|exact oD|fail
 all_goals skip
theorem Cw {x:AV}:(List.replicate 1 [x]).flatten=[x]:=rfl
theorem sC {x:AV}:List.drop 1 [x]=[]:=rfl
theorem j6 {x:AV}:List.take 1 [x]=[x]:=rfl
theorem CZ {x y:AV}:List.set [x] 0 y=[y]:=rfl
theorem Kk {n:Nat}:n/2^dh n=0:=by
 refine Nat.div_eq_of_lt ?_;unfold dh;split
 ·rename_i h;rw[h];decide
 ·rename_i h;exact Nat.lt_log2_self
theorem iK (x:PV) (l:List PV):iS (.v x::l.map .v)=some (x::l):=by
 have h: ∀l:List PV,iS (l.map .v)=some l:=by
  intro l
  induction l with
  |nil=>rfl
  |cons y l ih=>
   unfold iS at ih⊢;rw[List.map_cons,aI,ih];rfl
 have:=h (x::l);exact this
end Go.Proofs.YtmobkhegihemeaaGreatDoor
namespace Go.Proofs.YtmobkhegihemeaaGreatDoor
open Go Go.Dom Go.Num
set_option maxRecDepth 100000
set_option maxHeartbeats 16000000
theorem pJ (vs:List Bytes) (sd:Bytes) (at':Int) (a:Nat):aB Tryz.prog 247 [T vs sd at', .i .i64 a] (.fc 313 [] [.pt (T vs sd at') 0, .pt (.agg [.i .i64 a]) 0]):=by
 refine eW Tryz.call247 Tryz.func247 ?_;repeat' first|simp only[go_sem,seval]|refine sB ?_|(first|apply pX|apply bX)<;>intro hc|refine⟨oD,?_⟩|exact oD|fail
theorem D4 (sd:Bytes) (at' a:Nat): ∀(k b:Nat),∀y∈BH sd at' a b k,y.length=1:=by
 intro k
 induction k with
 |zero=>intro b y hy;cases hy
 |succ k ih=>
  intro b y hy
  cases hy with
  |head=>rfl
  |tail _ h=>exact ih _ _ h
def jz (size:Nat):Nat:=max 1 ((size+31)/32)
def lT (sd:Bytes) (at' a:Nat):Nat→Bytes
 |0=>[]
 |k+1=>lT sd at' a k++tD sd at' a k
def A4:Bytes→Nat→Bytes
 |[],_=>[]
 |x::r,d=>UInt8.ofNat (x.toNat%2^(8-d))::r
theorem I2: ∀(d:Fin 8) (x:Fin 256),gV .u8 (x.val:Int) (Int.fdiv 255 (2^d.val))=((UInt8.ofNat (x.val%2^(8-d.val))).toNat:Int):=by decide+kernel
theorem iu (c:UInt8) (r:Bytes):ay (c::r)= .v (.i .u8 (c.toNat:Int))::ay r:=rfl
def eF:Bytes→Bytes
 |[]=>[]
 |x::r=>if x=0 then eF r else x::r
def yp (sd:Bytes) (at' a len:Nat):Bytes:=eF (A4 ((lT sd at' a (jz ((len+7)/8))).take ((len+7)/8)) (8*((len+7)/8)-len))
theorem sL {S:Nat} (h:1≤S) (x:UInt8) (r:Bytes) (d:Nat):A4 (List.take S (x::r)) d=List.take S (UInt8.ofNat (x.toNat%2^(8-d))::r):=by
 obtain⟨S,rfl⟩: ∃m,S=m+1:=⟨S-1,by omega⟩
 rfl
theorem Ew {q:Bytes} {S i:Nat} (h:i<S) (hS:S≤q.length):(q.take S).drop i=q.getD i 0::(q.take S).drop (i+1):=by
 rw[List.drop_eq_getElem_cons (by rw[List.length_take];omega),List.getElem_take,List.getD_eq_getElem?_getD,List.getElem?_eq_getElem (by omega)];rfl
theorem Aw (q:Bytes) (S i:Nat):List.take (S-i) (List.drop i (ay q))=ay ((q.take S).drop i):=by
 rw[ay,ay,List.map_drop,List.map_take,List.drop_take]
theorem pB (l:Bytes): ∀y∈ay l,y.isByte:=by
 intro y hy;obtain⟨c,_,rfl⟩:=List.mem_map.1 hy;exact trivial
theorem yq {vs:List Bytes} {sd:Bytes} {at' a len:Nat} (hv:vs.length<1000000) (hsd:sd.length<1000000) (ha:at'<4294967296) (ha2:a<4294967296) (hl0:0<len) (hl:len<100000):aB Tryz.prog 166 [T vs sd at', .i .i64 a, .i .i64 len] (.s (yp sd at' a len)):=by
 have hb:=pJ vs sd at' a;have hit:=BJ (vs:= .sl (vs.map .s)) (sd:=sd) (at':=at') (a:=a) (k:=jz ((len+7)/8)) hsd (by unfold jz;omega) ha ha2
 have hsz: ∀ _:True,IntKind.i64.wrap (((len:Int)+7).tdiv 8)=(((len+7)/8:Nat):Int):=by
  intro _;rw[Int.tdiv_eq_ediv_of_nonneg (by omega),IntWalk.i64_in _ (by omega)];omega
 have hs1:1≤(len+7)/8∧(len+7)/8≤13000:=by omega
 have hlen: ∀b,(tD sd at' a b).length=32:=fun b=>by unfold tD Fo;rw[ep]
 have hcat: ∀k,(lT sd at' a k).length=32*k:=by
  intro k
  induction k with
  |zero=>rfl
  |succ k ih=>rw[lT,List.length_append,ih,hlen];omega
 have hR: ∀k,k<jz ((len+7)/8)→ ¬(len+7)/8≤32*k∨k=0:=by intro k h;unfold jz at h;omega
 refine eW Tryz.call166 Tryz.func166 ?_;repeat' first|simp only[go_sem,seval,hsz trivial]|refine cP hb ?_|refine sB ?_|(first|apply pX|apply bX)<;>intro hc|refine⟨oD,?_⟩|exact oD|fail
 unfold yp;generalize hS:(len+7)/8=S at*;refine Dq hit rfl ?_ ?_
 ·intro y hy;exact D4 _ _ _ _ _ y hy
 refine JD (α:=Nat) (fun k=>match k with|0=>⟨[(7, .p 1005 0 0),(8, .p 1007 0 0),(2, .v (.i .i64 len))],[(1005,⟨0,[.v (.i .i64 S)],false,some 3⟩),(1007,⟨0,[.sn],false,some 140⟩)],1011⟩|k+1=>⟨[(7, .p 1005 0 0),(8, .p 1007 0 0),(2, .v (.i .i64 len))],[(1005,⟨0,[.v (.i .i64 S)],false,some 3⟩),(1007,⟨0,[.rs 1014 k 0 (32*(k+1)) 1],false,some 140⟩),(1014,⟨k,ay (lT sd at' a (k+1)),true,some 5⟩)],1020⟩) (fun xs k=>k<jz S∧xs=BH sd at' a k (jz S-k)) 0 ?_ ⟨by unfold jz;omega,rfl⟩ ?_ ?_ ?_
 ·intro k;cases k
  ·exact Nat.le_refl _
  ·show 1011≤1020;decide
 ·refine AS.Le.of (by decide) ?_ ?_<;>simp[bL,bK,aD,ai,AV.bd,AV.bd.bdL]
 ·rintro k ⟨h1,h2⟩;obtain⟨m,hm⟩: ∃m,jz S-k=m+1:=⟨jz S-k-1,by omega⟩
  rw[hm]at h2;cases h2
 ·rintro y ys k ⟨h1,h2⟩ R hRR;obtain⟨m,hm⟩: ∃m,jz S-k=m+1:=⟨jz S-k-1,by omega⟩
  rw[hm]at h2;injection h2 with e1 e2
  subst e1 e2;have hkb:k<1000:=by unfold jz at h1;omega
  have hx:=hlen k;have hc:=hcat k;have ho:=hcat (k+1);have hc1:lT sd at' a k++tD sd at' a k=lT sd at' a (k+1):=rfl;have hgo:k+1<jz S→ _:=fun h=>hRR (k+1) ⟨h,by rw[show jz S-(k+1)=m from by omega]⟩
  clear hRR hit hb hcat hlen
  by_cases hf:S≤32*(k+1)
  ·have hk:jz S=k+1:=by unfold jz at h1⊢;omega
   rw[hk];clear hgo hR;have hd1: ∀ _:True,(8*(S:Int)-len).toNat=8*S-len:=fun _=>by omega
   have hd2:8*S-len<8:=by omega
   have hd3:(if 8*S-len≤8 then 8*S-len else 8)=8*S-len:=by rw[if_pos];omega
   have hmask:=fun x:UInt8=>I2 ⟨8*S-len,hd2⟩ ⟨x.toNat,x.toNat_lt⟩
   simp only at hmask;generalize hd:8*S-len=d at*;generalize hcc:lT sd at' a (k+1)=o at*;obtain⟨x0,r,rfl⟩: ∃x0 r,o=x0::r:=by
    cases o with
    |nil=>simp at ho
    |cons x0 r=>exact⟨_,_,rfl⟩
   cases k with
   |zero=>
    generalize tD sd at' a 0=x at*;generalize lT sd at' a 0=c at*;obtain rfl:c=[]:=List.eq_nil_of_length_eq_zero hc;obtain rfl:x=x0::r:=hc1;repeat' first|simp only[go_sem,seval,hx,iu,hd1 trivial,hd3,hmask]|refine sB ?_|(first|apply pX|apply bX)<;>intro hc|refine⟨oD,?_⟩|exact oD|fail
    rw[sL hs1.1];simp only[←iu];generalize hq:UInt8.ofNat (x0.toNat%2^(8-d))::r=q at*;have hql:q.length=32*(0+1):=by rw[←hq];simpa using ho
    refine aj (α:=Nat) (fun i=>S-i) (fun i=>⟨[(8, .p 1007 0 0)],[(1007,⟨0,[.rs 1014 0 i (S-i) 1],false,some 140⟩),(1014,⟨0,ay q,true,some 5⟩)],1037⟩) (fun i=>i≤S∧eF ((q.take S).drop i)=eF (q.take S)) 0 (fun _=>Nat.le_refl _) ⟨Nat.zero_le _,rfl⟩ ?_ ?_
    ·refine AS.Le.of (by decide) ?_ ?_<;>simp[bL,bK,aD,ai,AV.bd,AV.bd.bdL,ah]
    ·rintro i ⟨hi,hst⟩ R2 hR2;rw[←hst]
     by_cases hlt:i<S
     ·have e1:=Ew (q:=q) hlt (by omega)
      have e2:=eJ (l:=q) (i:=i) (by omega)
      have e3: ∀ _:True,((S-i:Nat):Int)=(S:Int)-i:=fun _=>by omega
      have e4:=Aw q S i
      by_cases hz:q.getD i 0=0
      ·have hgo2:=hR2 (i+1) ⟨hlt,by rw[←hst,e1,eF,if_pos hz]⟩ (by omega)
       clear hR2;repeat' first|simp only[go_sem,seval,e2,hz]|refine sB ?_|(first|apply pX|apply bX)<;>intro hc|refine⟨oD,?_⟩|exact oD|fail
       refine hgo2 _ ?_;refine AS.Le.of (by omega) ?_ ?_<;>simp[bL,bK,aD,ai,AV.bd,AV.bd.bdL,ah,Nat.sub_sub]
      ·rw[e1,eF,if_neg hz,←e1];have hz2: ∀ _:True,(((q.getD i 0).toNat:Int)==0)=false:=fun _=>by
        rw[beq_eq_false_iff_ne];intro h;exact hz (UInt8.toNat_inj.1 (by exact_mod_cast h))
       repeat' first|simp only[go_sem,seval,e2,hz2 trivial]|refine sB ?_|(first|apply pX|apply bX)<;>intro hc|refine⟨oD,?_⟩|exact oD|fail
       rw[e4];exact⟨⟨by omega,pB _⟩,by rw[fK]⟩
     ·obtain rfl:i=S:=by omega
      repeat' first|simp only[go_sem,seval]|refine sB ?_|(first|apply pX|apply bX)<;>intro hc|refine⟨oD,?_⟩|exact oD|fail
      rw[Nat.sub_self,List.take_zero,List.drop_of_length_le (by rw[List.length_take];omega)]
      exact⟨⟨by omega,fun y hy=>by cases hy⟩,rfl⟩
   |succ k=>
    dsimp only;generalize tD sd at' a (k+1)=x at*;generalize lT sd at' a (k+1)=c at*;have htk:List.take (32*(k+1)) (ay c)=ay c:=by rw[←hc];exact eK _
    repeat' first|simp only[go_sem,seval,hx,hc1,htk,iu,hd1 trivial,hd3,hmask]|refine sB ?_|(first|apply pX|apply bX)<;>intro hc|refine⟨oD,?_⟩|exact oD|fail
    rw[sL hs1.1];simp only[←iu];generalize hq:UInt8.ofNat (x0.toNat%2^(8-d))::r=q at*;have hql:q.length=32*(k+1+1):=by rw[←hq];simpa using ho
    refine aj (α:=Nat) (fun i=>S-i) (fun i=>⟨[(8, .p 1007 0 0)],[(1007,⟨0,[.rs 1014 (k+1) i (S-i) 1],false,some 140⟩),(1014,⟨(k+1),ay q,true,some 5⟩)],1046⟩) (fun i=>i≤S∧eF ((q.take S).drop i)=eF (q.take S)) 0 (fun _=>Nat.le_refl _) ⟨Nat.zero_le _,rfl⟩ ?_ ?_
    ·refine AS.Le.of (by decide) ?_ ?_<;>simp[bL,bK,aD,ai,AV.bd,AV.bd.bdL,ah]
    ·rintro i ⟨hi,hst⟩ R2 hR2;rw[←hst]
     by_cases hlt:i<S
     ·have e1:=Ew (q:=q) hlt (by omega)
      have e2:=eJ (l:=q) (i:=i) (by omega)
      have e3: ∀ _:True,((S-i:Nat):Int)=(S:Int)-i:=fun _=>by omega
      have e4:=Aw q S i
      by_cases hz:q.getD i 0=0
      ·have hgo2:=hR2 (i+1) ⟨hlt,by rw[←hst,e1,eF,if_pos hz]⟩ (by omega)
       clear hR2;repeat' first|simp only[go_sem,seval,e2,hz]|refine sB ?_|(first|apply pX|apply bX)<;>intro hc|refine⟨oD,?_⟩|exact oD|fail
       refine hgo2 _ ?_;refine AS.Le.of (by omega) ?_ ?_<;>simp[bL,bK,aD,ai,AV.bd,AV.bd.bdL,ah,Nat.sub_sub]
      ·rw[e1,eF,if_neg hz,←e1];have hz2: ∀ _:True,(((q.getD i 0).toNat:Int)==0)=false:=fun _=>by
        rw[beq_eq_false_iff_ne];intro h;exact hz (UInt8.toNat_inj.1 (by exact_mod_cast h))
       repeat' first|simp only[go_sem,seval,e2,hz2 trivial]|refine sB ?_|(first|apply pX|apply bX)<;>intro hc|refine⟨oD,?_⟩|exact oD|fail
       rw[e4];exact⟨⟨by omega,pB _⟩,by rw[fK]⟩
     ·obtain rfl:i=S:=by omega
      repeat' first|simp only[go_sem,seval]|refine sB ?_|(first|apply pX|apply bX)<;>intro hc|refine⟨oD,?_⟩|exact oD|fail
      rw[Nat.sub_self,List.take_zero,List.drop_of_length_le (by rw[List.length_take];omega)]
      exact⟨⟨by omega,fun y hy=>by cases hy⟩,rfl⟩
  ·have hgo:=hgo (by unfold jz;omega)
   cases k with
   |zero=>
    generalize tD sd at' a 0=x at*;repeat' first|simp only[go_sem,seval,hx]|refine sB ?_|(first|apply pX|apply bX)<;>intro hc|refine⟨oD,?_⟩|exact oD|fail
    refine hgo _ ?_;have hx1:lT sd at' a 1=x:=hc1.symm;refine AS.Le.of (by decide) ?_ ?_<;>simp[bL,bK,aD,ai,AV.bd,AV.bd.bdL,hx1,ah]
   |succ k=>
    have htk:List.take (32*(k+1)) (ay (lT sd at' a (k+1)))=ay (lT sd at' a (k+1)):=by rw[←hc];exact eK _
    generalize tD sd at' a (k+1)=x at*;repeat' first|simp only[go_sem,seval,hx,hc1]|refine sB ?_|(first|apply pX|apply bX)<;>intro hc|refine⟨oD,?_⟩|exact oD|fail
    all_goals first
     |omega
     |skip
    refine hgo _ ?_;refine AS.Le.of (by decide) ?_ ?_<;>simp[bL,bK,aD,ai,AV.bd,AV.bd.bdL,htk,fj,hc1,ah]
    omega
end Go.Proofs.YtmobkhegihemeaaGreatDoor
