/-
  Part of the proof, part Y47. Own work.
-/
import Derived.Test.YtmledjfbgjnknaaGreatDoorRows
import Derived.Test.YtmledjfbgjnknaaGreatDoorCards
import Derived.Test.YtmledjfbgjnknaaGreatDoorTie
import Derived.ProofKit
import Derived.ChangeSame
import Derived.Lay
import Derived.LaidOnce
import Derived.SevenTiedAt
import Derived.Lib.LaidU8
import Derived.Test.YtmledjfbgjnknaaGreatDoorY46
set_option linter.all false
namespace Go.Proofs.YtmledjfbgjnknaaGreatDoor
open Go Go.Dom Go.ChangeShapes Go.WideShapes Go.ChangeAt Go.RowKit
set_option maxRecDepth 100000
theorem ownK:ownKnob Tryz.prog.godebug=none:=by kernel_rfl
theorem laidK:laidOutB Tryz.prog=true:=by kernel_rfl
theorem uBool:Tryz.prog.underlying 4=some .bool:=by kernel_rfl
theorem uS:Tryz.prog.underlying 9=some .string:=by kernel_rfl
theorem uN:Tryz.prog.underlying 22=some .string:=by kernel_rfl
theorem uLN:Tryz.prog.underlying 31=some (.slice 22):=by kernel_rfl
theorem cS:Tryz.prog.cellsOf 9=1:=by kernel_rfl
theorem cN:Tryz.prog.cellsOf 22=1:=by kernel_rfl
theorem cLN:Tryz.prog.cellsOf 31=1:=by kernel_rfl
theorem cRu:Tryz.prog.cellsOf 24=2:=by kernel_rfl
theorem cGr:Tryz.prog.cellsOf 26=2:=by kernel_rfl
theorem cPe:Tryz.prog.cellsOf 28=4:=by kernel_rfl
theorem isN:isStruct Tryz.prog 22=false:=by kernel_rfl
theorem bN:Tryz.prog.bytesOf 22=16:=by kernel_rfl
theorem tk {ps:List PV} {x:PV} (h:List.take 1 ps=[x]):ps=x::List.drop 1 ps:=by cases ps<;>simp_all
theorem tk2 {ps:List PV} {x y:PV} (h:List.take 2 ps=[x,y]):ps=x::y::List.drop 2 ps:=by
 rcases ps with _|⟨a,_|⟨b,r⟩⟩<;>simp_all
theorem tk4 {ps:List PV} {x y z u:PV} (h:List.take 4 ps=[x,y,z,u]):ps=x::y::z::u::List.drop 4 ps:=by
 rcases ps with _|⟨a,_|⟨b,_|⟨c,_|⟨d,r⟩⟩⟩⟩<;>simp_all
theorem listOf {α:Type} {f:α→PV}: ∀{l:List PV},(∀x∈l,∃a,x=f a)→ ∃al:List α,l=al.map f:=by
 intro l
 induction l with
 |nil=>intro _;exact⟨[],rfl⟩
 |cons x l ih=>
  intro h;obtain⟨a,rfl⟩:=h x (by simp)
  obtain⟨al,rfl⟩:=ih fun y hy=>h y (by simp[hy])
  exact⟨a::al,rfl⟩
theorem one_cells {x y:PV} (h:x.cells=[y]) (h1:x.one=true):x=y:=by
 cases x<;>first|(simpa[PV.cells]using h)|(simp[PV.one]at h1)
theorem typN {k:Nat} {ps:List PV} (h:Typ Tryz.prog (k+1) 22 ps): ∃b:Bytes,ps=[.s b]:=by
 simp only[Typ,uN]at h;obtain⟨x,rfl,-⟩:=h;exact⟨x,rfl⟩
theorem typSt {k:Nat} {ps:List PV} (h:Typ Tryz.prog (k+1) 9 ps): ∃b:Bytes,ps=[.s b]:=by
 simp only[Typ,uS]at h;obtain⟨x,rfl,-⟩:=h;exact⟨x,rfl⟩
theorem typLN {k:Nat} {ps:List PV} (h:Typ Tryz.prog (k+2) 31 ps): ∃bs:List Bytes,ps=[.sl (bs.map PV.s)]∧bs.length*16≤reachBytes:=by
 simp only[Typ,uLN,uN,isN,bN]at h;obtain⟨l,rfl,hb,hl⟩:=h;obtain⟨bs,rfl⟩:=listOf (f:=PV.s) (l:=l) fun x hx=>by
  obtain⟨⟨s,h1,-⟩,h2⟩:=hl x hx;exact⟨s,one_cells h1 (by simpa using h2)⟩
 exact⟨bs,rfl,by simpa using hb⟩
theorem typGr {k:Nat} {ps:List PV} (h:Typ Tryz.prog (k+2) 26 ps): ∃a b:Bytes,ps=[.s a, .s b]:=by
 rw[Typ,Tryz.underlying26]at h;simp only[TypS,cN]at h;obtain⟨h1,h2,h3⟩:=h;obtain⟨a,h1⟩:=typN h1;obtain⟨b,h2⟩:=typN h2;exact⟨a,b,by rw[tk h1,tk h2,h3]⟩
theorem typRu {k:Nat} {ps:List PV} (h:Typ Tryz.prog (k+2) 24 ps): ∃a b:Bytes,ps=[.s a, .s b]:=by
 rw[Typ,Tryz.underlying24]at h;simp only[TypS,cN]at h;obtain⟨h1,h2,h3⟩:=h;obtain⟨a,h1⟩:=typN h1;obtain⟨b,h2⟩:=typN h2;exact⟨a,b,by rw[tk h1,tk h2,h3]⟩
theorem typPe {k:Nat} {ps:List PV} (h:Typ Tryz.prog (k+3) 28 ps): ∃a b c d:Bytes,ps=[.s a, .s b, .s c, .s d]:=by
 rw[Typ,Tryz.underlying28]at h;simp only[TypS,cN,cGr]at h;obtain⟨h1,h2,h3,h4⟩:=h;obtain⟨a,b,h1⟩:=typGr h1;obtain⟨c,h2⟩:=typN h2;obtain⟨d,h3⟩:=typN h3;exact⟨a,b,c,d,by rw[tk2 h1,tk h2,tk h3,h4]⟩
theorem typPa {ps:List PV} (h:Typ Tryz.prog 9 30 ps): ∃p:Par, .agg ps=p.pv:=by
 rw[Typ,Tryz.underlying30]at h;simp only[TypS,cN,cRu,cPe]at h;obtain⟨h1,h2,h3,h4,h5,h6,h7,h8,h9,h10,h11⟩:=h;obtain⟨a1,a2,h1⟩:=typRu h1;obtain⟨b1,b2,b3,b4,h2⟩:=typPe h2;obtain⟨c1,c2,c3,c4,h3⟩:=typPe h3;obtain⟨d4,h4⟩:=typN h4;obtain⟨d5,h5⟩:=typN h5;obtain⟨d6,h6⟩:=typN h6;obtain⟨d7,h7⟩:=typN h7;obtain⟨d8,h8⟩:=typN h8;obtain⟨d9,h9⟩:=typN h9;obtain⟨d10,h10⟩:=typN h10;refine⟨⟨a1,a2,b1,b2,b3,b4,c1,c2,c3,c4,d4,d5,d6,d7,d8,d9,d10⟩,?_⟩;rw[tk2 h1,tk4 h2,tk4 h3,tk h4,tk h5,tk h6,tk h7,tk h8,tk h9,tk h10,h11];rfl
theorem typKe {ps:List PV} (h:Typ Tryz.prog 9 33 ps): ∃k:Key, .agg ps=k.pv∧k.r.length*16≤reachBytes:=by
 rw[Typ,Tryz.underlying33]at h;simp only[TypS,cN,cS,cGr,cLN]at h;obtain⟨h1,h2,h3,h4,h5,h6,h7,h8⟩:=h;obtain⟨a,h1⟩:=typSt h1;obtain⟨m,o,h2⟩:=typGr h2;obtain⟨z,h3⟩:=typN h3;obtain⟨s,h4⟩:=typN h4;obtain⟨r,h5,hb⟩:=typLN h5;obtain⟨u,h6⟩:=typN h6;obtain⟨v,h7⟩:=typN h7;refine⟨⟨a,m,o,z,s,r,u,v⟩,?_,hb⟩;rw[tk h1,tk2 h2,tk h3,tk h4,tk h5,tk h6,tk h7,h8];rfl
section
variable {H:Type} {enc:TypeId×Value→H} {P:Program}
theorem postBelow {f:Func} {s:ChangeSpec} {apart fresh handsOn again:Bool} {W W':World} {args:Array Value} {v:Value} {ds gs:List (DataW H)} {before pa pv:List MemPlace}
  (hW:DataW.Whole enc P f.params.toList s.vars apart W args.toList ds gs before)
  (hres: ∀(b:Nat) (sp:Nat→Bool) (hd:Bool),DataW.TrodAll enc P W' b sp hd f.resultTypes.toList (v.resultList f.resultTypes.size) (s.fn H (ds++gs)).results [])
  (hargs: ∀sp:Nat→Bool,(∀p∈before,sp p.block=true)→DataW.TrodAll enc P W' 0 sp true f.params.toList args.toList (s.fn H (ds++gs)).args pa)
  (hvars: ∀sp:Nat→Bool,(∀p∈before,sp p.block=true)→DataW.TrodVars enc P W' sp s.vars (s.fn H (ds++gs)).vars pv)
  (hps:before=pa++pv) (hb:Below W.heap.size W W')
  (hok: ∀(j:Nat) (t:TypeId) (r:Value),f.resultTypes[j]?=some t→(v.resultList f.resultTypes.size)[j]?=some r→Value.okWide P W' .any 0 t r):
  s.post enc P f apart fresh handsOn again W args v W':=by
 have hlt: ∀p∈before,p.block<W.heap.size:=fun p hp=>hW.lt p hp
 have hold: ∀p∈before,(fun b=>decide (b<W.heap.size)) p.block=true:=fun p hp=>by simpa using hlt p hp
 refine⟨ds,gs,before,[],pa,pv,hW,hres _ _ _,hargs _ hold,hvars _ hold,World.keptBut_mono (fun p hp=>⟨hp,?_⟩) (hb.frame (·∈before)),fun _=> ?_⟩
 ·rw[hps,List.mem_append]at hp;exact Or.inr hp
 ·obtain⟨_,_,_,_,_,hz,hn⟩:=hW;refine⟨hok,_,_,([]++pa)++pv,⟨[]++pa,pv,trodAll_append (hargs _ (fun _ _=>rfl)) (hres _ _ _),hvars _ (fun _ _=>rfl),rfl,?_,?_⟩,?_⟩
  ·intro b off hp;have hin:MemPlace.cell b off∈before:=by rw[hps];simpa using hp
   rw[hb.frozen (hlt _ hin)];exact hz b off hin
  ·intro ha;have:=hn ha;rw[hps]at this;simpa using this
  ·intro p hp _;rw[hps];simpa using hp
end
def laidL:List (String×DataW Unit):=[("math/bits.deBruijn32tab",Rows.laid_math_bits_deBruijn32tab),("math/bits.deBruijn64tab",Rows.laid_math_bits_deBruijn64tab),("internal/strconv.uint64pow10",Rows.laid_internal_strconv_uint64pow10)]
theorem tab_cells {W:World} {n:String} {g:Nat} {t e:TypeId} {k:IntKind} {m:Nat} {zs:List Int} (h:Lib.VarReads Tryz.prog W n (Lib.tabData k zs)) (hg:Tryz.prog.globalNamed n=some g) (ht:(Tryz.prog.globals[g]?).map (·.type)=some t) (hu:Tryz.prog.underlying t=some (.array m e)) (he:Tryz.prog.underlying e=some (.int k)) (hce:Tryz.prog.cellsOf e=1) (hct:Tryz.prog.cellsOf t=m) (i:Nat):
  W.cell? ⟨g,i,none⟩=(zs[i]?).map fun z=>Value.int k z:=by
 obtain⟨g',t',cs,fuel,p,h1,h2,h3,h4⟩:=h;obtain rfl:=Option.some.inj (hg.symm.trans h1);obtain rfl:=Option.some.inj (ht.symm.trans h2);have h5:=Lib.cells_of_tab hu he hce hct h4;rw[World.var?_cell h1 h3 i,←Array.getElem?_toList,h5,List.getElem?_map]
theorem tabs_read {W:World} (h:laidMet Tryz.prog laidL W): ∀b o v,TR Tryz.prog b o=some v→W.cell? ⟨b,o,none⟩=some v:=by
 have h1:=fun i=>tab_cells (Lib.laidMet.reads h (n:= "math/bits.deBruijn32tab") (d:=Lib.tabData .u8 tab_deBruijn32tab) (by simp[laidL];rfl)) (g:=5) (t:=467) (e:=5) (m:=32) (by kernel_rfl) (by kernel_rfl) (by kernel_rfl) (by kernel_rfl) (by kernel_rfl) (by kernel_rfl) i
 have h2:=fun i=>tab_cells (Lib.laidMet.reads h (n:= "math/bits.deBruijn64tab") (d:=Lib.tabData .u8 tab_deBruijn64tab) (by simp[laidL];rfl)) (g:=0) (t:=439) (e:=5) (m:=64) (by kernel_rfl) (by kernel_rfl) (by kernel_rfl) (by kernel_rfl) (by kernel_rfl) (by kernel_rfl) i
 have h3:=fun i=>tab_cells (Lib.laidMet.reads h (n:= "internal/strconv.uint64pow10") (d:=Lib.tabData .u64 tab_uint64pow10) (by simp[laidL];rfl)) (g:=4) (t:=457) (e:=104) (m:=20) (by kernel_rfl) (by kernel_rfl) (by kernel_rfl) (by kernel_rfl) (by kernel_rfl) (by kernel_rfl) i
 intro b o v hv;have key: ∀(k:IntKind) (zs:List Int),((zs.map fun n=>(k,n))[o]?).map (fun p:IntKind×Int=>Value.int p.1 p.2)=(zs[o]?).map fun z=>Value.int k z:=by
  intro k zs;rw[List.getElem?_map,Option.map_map];rfl
 unfold TR at hv;simp only[Tabs.tab,List.lookup]at hv
 by_cases e1:b=5
 ·subst e1;rw[h1 o,←key];simpa using hv
 ·by_cases e2:b=0
  ·subst e2;rw[h2 o,←key];simpa using hv
  ·by_cases e3:b=4
   ·subst e3;rw[h3 o,←key];simpa using hv
   ·simp only[show(b==5)=false from beq_eq_false_iff_ne.2 e1,show(b==0)=false from beq_eq_false_iff_ne.2 e2,show(b==4)=false from beq_eq_false_iff_ne.2 e3]at hv
    cases hv
end Go.Proofs.YtmledjfbgjnknaaGreatDoor
namespace Go.Proofs.YtmledjfbgjnknaaGreatDoor
open Go Go.Dom Go.Num
set_option maxRecDepth 100000
set_option maxHeartbeats 16000000
def fewT (vs:List Bytes) (sd:Bytes) (a:Int):Bool:=(vs.take 80).all (fun x=>decide (x.length≤16))&&(decide (vs.length≤80)&&(decide (sd.length≤40)&&decide (a<1000)))
theorem FewT_ok (vs:List Bytes) (sd:Bytes) (a:Int) (h:vs.length<4611686018427387904):EvP Tryz.prog 7 [T vs sd a] (.b (fewT vs sd a)):=by
 have l1:(vs.map PV.s).length=vs.length:=List.length_map ..;unfold fewT T;refine eW Tryz.call7 Tryz.func7 ?_;repeat' first|simp only[go_sem,seval]|refine sB ?_|(first|apply pX|apply bX)<;>intro hc|refine⟨oD,?_⟩|exact oD|fail
 refine loop_run (α:=Nat) (fun i=>81-i) (fun i=>⟨[(1, .p 1000 0 0),(3,E' i)],[(1000,⟨0,[.v (.sl (vs.map .s)), .v (.s sd), .v (.i .i64 a)],false,none⟩)],_⟩) (fun i=>i≤vs.length∧i≤80∧((vs.take 80).drop i).all (fun x=>decide (x.length≤16))=(vs.take 80).all fun x=>decide (x.length≤16)) 0 (fun _=>Nat.le_refl _) ⟨Nat.zero_le _,Nat.zero_le _,rfl⟩ ?_ ?_
 ·exact lE
 ·rintro i ⟨hi,h20,hf⟩ R hR;rw[←hf]
  by_cases hlt:i<vs.length∧i<80
  ·obtain⟨hl,hl2⟩:=hlt;have e1:=getD_S hl;have ht:i<(vs.take 80).length:=by rw[List.length_take];omega
   have hgt:(vs.take 80).getD i []=vs.getD i []:=by simp[List.getD_eq_getElem?_getD,List.getElem?_take,hl2]
   have hgo:=hR (i+1);rw[←hf]at hgo;rw[drop_getD [] ht,List.all_cons,hgt]at hgo⊢;generalize vs.getD i []=x at*;clear hf hR hgt ht
   by_cases ha:x.length≤16
   ·have hgo:=hgo ⟨by omega,by omega,by simp[ha]⟩ (by omega)
    repeat' first|simp only[go_sem,seval,l1,e1]|refine sB ?_|(first|apply pX|apply bX)<;>intro hc|refine⟨oD,?_⟩|exact oD|fail
    refine hgo _ ?_;exact lE
   ·have hd:decide (x.length≤16)=false:=by simpa using ha
    rw[hd,Bool.false_and,Bool.false_and];clear hgo;repeat' first|simp only[go_sem,seval,l1,e1]|refine sB ?_|(first|apply pX|apply bX)<;>intro hc|refine⟨oD,?_⟩|exact oD|fail
  ·have hd:(vs.take 80).drop i=[]:=List.drop_of_length_le (by rw[List.length_take];omega)
   rw[hd,List.all_nil,Bool.true_and];clear hR hf
   by_cases hl:i<vs.length
   ·have hi2:i=80:=by omega
    subst hi2;have hx:decide (vs.length≤80)=false:=by simp;omega
    rw[hx,Bool.false_and];repeat' first|simp only[go_sem,seval,l1]|refine sB ?_|(first|apply pX|apply bX)<;>intro hc|refine⟨oD,?_⟩|exact oD|fail
   ·have hi2:i=vs.length:=by omega
    subst hi2;have hx:decide (vs.length≤80)=true:=by simp;omega
    rw[hx,Bool.true_and]
    by_cases g1:sd.length≤40
    ·rw[decide_eq_true g1,Bool.true_and];repeat' first|simp only[go_sem,seval,l1]|refine sB ?_|(first|apply pX|apply bX)<;>intro hc|refine⟨oD,?_⟩|exact oD|fail
    ·rw[decide_eq_false g1,Bool.false_and];repeat' first|simp only[go_sem,seval,l1]|refine sB ?_|(first|apply pX|apply bX)<;>intro hc|refine⟨oD,?_⟩|exact oD|fail
def pvd (p:Par) (k:Key) (logs vs:List Bytes) (sd:Bytes) (a:Int):PV:= .agg (p.pv.cells++k.pv.cells++[.sl (logs.map .s), .sl (vs.map .s), .s sd, .i .i64 a])
def shB (l:List Bytes):Bool:=l.all fun x=>decide (x.length≤16)
theorem few_facts {p:Par} {k:Key} (g1:fewB p k=true):p.short∧k.m.length≤8∧k.name.length≤60∧k.r.length≤20:=by
 simp only[fewB,Bool.and_eq_true,decide_eq_true_eq]at g1;exact⟨short_of g1.1.1.1.1.1.1,by omega,by omega,by omega⟩
theorem fewT_facts {vs:List Bytes} {sd:Bytes} {a:Int} (g:fewT vs sd a=true):vs.length≤80∧sd.length≤40:=by
 simp only[fewT,Bool.and_eq_true,decide_eq_true_eq]at g;exact⟨g.2.1,g.2.2.1⟩
theorem prvK_ok {p:Par} {k:Key} {logs vs:List Bytes} {sd:Bytes} {a:Int} {ch:Bytes} {rs:List Int} {j:Nat} (h:prvK p k logs vs sd a= .ok (ch,rs,j)):keyE (parE p) k=0∧logs.all validN=true∧witE (keyS k) ((logZ logs).map ipz) vs a=0∧tryG p.c p.sl (kctx k) (keyS k) (logZ logs) vs sd 64 a.toNat= .ok (ch,rs,j):=by
 unfold prvK at h
 split at h
 ·cases h
 ·rename_i h0
  split at h
  ·cases h
  ·rename_i h1;unfold prvG at h
   split at h
   ·cases h
   ·rename_i h2;exact⟨by simpa using h0,by simpa using h1,by simpa using h2,h⟩
theorem prvK_len {p:Par} {k:Key} {logs vs:List Bytes} {sd:Bytes} {a:Int} {ch:Bytes} {rs:List Int} {j:Nat} (h:prvK p k logs vs sd a= .ok (ch,rs,j)):rs.length≤k.r.length+3:=by
 obtain⟨_,_,_,h4⟩:=prvK_ok h;obtain⟨ms,hl,_,rfl,_⟩:=tryG_ok h4;have:(keyS k).vars.length=k.r.length+3:=by simp[keyS,keyT]
 simp only[respZ,List.length_zipWith];omega
end Go.Proofs.YtmledjfbgjnknaaGreatDoor
namespace Go.Proofs.YtmledjfbgjnknaaGreatDoor
open Go Go.Dom Go.ChangeShapes Go.WideShapes Go.ChangeAt Go.RowKit
set_option maxRecDepth 100000
theorem uI0:Tryz.prog.underlying 3=some (.int .i64):=by kernel_rfl
theorem cI0:Tryz.prog.cellsOf 3=1:=by kernel_rfl
theorem cPa:Tryz.prog.cellsOf 30=17:=by kernel_rfl
theorem cKe:Tryz.prog.cellsOf 33=8:=by kernel_rfl
theorem cTa:Tryz.prog.cellsOf 35=3:=by kernel_rfl
theorem okPd:okT Tryz.prog 10 37=true:=by kernel_rfl
theorem tkn (n:Nat) {ps l:List PV} (h:List.take n ps=l):ps=l++List.drop n ps:=by rw[←h,List.take_append_drop]
theorem typTa {ps:List PV} (h:Typ Tryz.prog 9 35 ps): ∃(vs:List Bytes) (sd:Bytes) (a:Int),ps=[.sl (vs.map .s), .s sd, .i .i64 a]∧vs.length*16≤reachBytes:=by
 rw[Typ,Tryz.underlying35]at h;simp only[TypS,cS,cLN,cI0]at h;obtain⟨h1,h2,h3,h4⟩:=h;obtain⟨vs,h1,b⟩:=typLN h1;obtain⟨sd,h2⟩:=typSt h2;simp only[Typ,uI0]at h3;obtain⟨a,h3,-⟩:=h3;exact⟨vs,sd,a,by rw[tk h1,tk h2,tk h3,h4],b⟩
theorem typPd {ps:List PV} (h:Typ Tryz.prog 10 37 ps): ∃(p:Par) (k:Key) (lg vs:List Bytes) (sd:Bytes) (a:Int), .agg ps=pvd p k lg vs sd a∧k.r.length*16≤reachBytes∧lg.length*16≤reachBytes∧vs.length*16≤reachBytes:=by
 rw[Typ,Tryz.underlying37]at h;simp only[TypS,cPa,cKe,cLN,cTa]at h;obtain⟨h1,h2,h3,h4,h5⟩:=h;obtain⟨p,h1⟩:=typPa h1;obtain⟨k,h2,b1⟩:=typKe h2;obtain⟨lg,h3,b2⟩:=typLN h3;obtain⟨vs,sd,a,h4,b3⟩:=typTa h4;have h1:List.take 17 ps=p.pv.cells:=by rw[←h1];rfl
 have h2:List.take 8 (List.drop 17 ps)=k.pv.cells:=by rw[←h2];rfl
 refine⟨p,k,lg,vs,sd,a,?_,b1,b2,b3⟩;unfold pvd;rw[tkn 17 h1,tkn 8 h2,tkn 1 h3,tkn 3 h4,h5];simp only[List.append_assoc,List.append_nil,List.cons_append,List.nil_append]
end Go.Proofs.YtmledjfbgjnknaaGreatDoor
namespace Go.Proofs.YtmledjfbgjnknaaGreatDoor
open Go Go.Dom Go.Num
set_option maxRecDepth 100000
set_option maxHeartbeats 16000000
theorem getD_lt' {α:Type} {l:List α} {i:Nat} {d:α} (h:i<l.length):l.getD i d=l[i]:=by simp[List.getD_eq_getElem?_getD,h]
theorem hold_key {k:Key} (hk:KeyF k) {logs:List Bytes} (hl:logs.length=(keyT k).length) (h:holdB (keyS k) ((logZ logs).map ipz)=true): ∀i,i<(keyT k).length→num k.s^(logs.map num).getD i 0%num k.m=num ((keyT k).getD i []):=by
 intro i hi;have h:=of_decide_eq_true h;have hz:i<(logZ logs).length:=by simp[logZ];omega
 have he:i<(keyS k).eqs.length:=by simpa[keyS]using hi
 have hg:=congrArg (fun l=>l.getD i []) h
 have h1:(keyS k).eqs[i]'he=keyQ k i ((keyT k)[i]):=by simp[keyS]
 simp only[imgL]at hg;rw[getD_lt' (by simpa using he),getD_lt' (by simpa using he),List.getElem_mapIdx,List.getElem_map,h1]at hg
 have hg:=congrArg num hg;rw[num_bts]at hg;simp only[imgQ,keyQ,List.headD_cons]at hg;rw[show((keyS k).groups.getD (Int.toNat 0) d0G).1=k.m from rfl,getD_ipz _ _ hz,powZ_ipz]at hg
 have hL:(logZ logs).getD i 0=(((logs.map num).getD i 0:Nat):Int):=by
  have:i<logs.length:=by omega
  simp[logZ,List.getD_eq_getElem?_getD,this]
 rw[hL,powI_nn]at hg;rw[hg];simp[List.getD_eq_getElem?_getD,hi]
theorem conv_ok {p:Par} (hp:p.short) {k:Key} (lm:k.m.length≤8) {logs vs:List Bytes} {sd:Bytes} {a:Int} {ch:Bytes} {rs:List Int} {j:Nat} (h:prvK p k logs vs sd a= .ok (ch,rs,j)):verE p k ch (rs.map ipz) [] []=0:=by
 obtain⟨h1,h2,h3,h4⟩:=prvK_ok h;obtain⟨hpe,hkf⟩:=keyF_of h1;have hh:holdB (keyS k) ((logZ logs).map ipz)=true:=by
  unfold witE at h3;repeat' split at h3
  all_goals first|(cases h3;done)|skip
  rename_i g;simpa using g
 obtain⟨_,_,hl,_⟩:=witE_ok h3;have hl:logs.length=(keyT k).length:=by simpa[logZ,keyS]using hl
 unfold verE;rw[if_neg (by simpa using h1)]
 exact conv_law (ruOK_of hp hpe) hkf lm (wn:=logs.map num) (by simpa using hl) (hold_key hkf hl hh) (by rw[List.map_map];exact h4)
theorem tryG_err {c sl ctx:Bytes} {s:Stm} {w:List Int} {vs:List Bytes} {sd:Bytes} {e:Int}: ∀{k i:Nat},tryG c sl ctx s w vs sd k i= .error e→e≠0:=by
 intro k
 induction k with
 |zero=>intro i h;rw[tryG]at h;injection h with h;omega
 |succ k ih=>
  intro i h;rw[tryG]at h
  split at h
  ·rename_i e' hm;injection h with h
   rcases maskG_err hm with g|g<;>omega
  ·simp only at h
   split at h
   ·cases h
   ·exact ih h
theorem prvK_err {p:Par} {k:Key} {logs vs:List Bytes} {sd:Bytes} {a:Int} {e:Int} (h:prvK p k logs vs sd a= .error e):e≠0:=by
 unfold prvK at h
 split at h
 ·rename_i g;injection h with h;rw[←h];exact g
 ·split at h
  ·injection h with h;omega
  ·unfold prvG at h
   split at h
   ·rename_i g;injection h with h;rw[←h];exact g
   ·exact tryG_err h
theorem convinces_ok (p:Par) (k:Key) (logs vs:List Bytes) (sd:Bytes) (a:Int) (hr:k.r.length<4611686018427387904) (h1:logs.length<4611686018427387904) (h2:vs.length<4611686018427387904):EvP Tryz.prog 4 [pvd p k logs vs sd a] (.b true):=by
 have hf:=Few_ok p k hr;have haw:=awake_ok;have hs:=short_ok logs h1;have ht:=FewT_ok vs sd a h2;rw[←shB]at hs;have l1:(logs.map PV.s).length=logs.length:=List.length_map ..
 by_cases hg:fewB p k=true∧logs.length≤24∧shB logs=true∧fewT vs sd a=true
 case neg=>
  clear hr h1 h2;generalize fewB p k=b1 at*;generalize hb2:shB logs=b2 at*;generalize fewT vs sd a=b3 at*;have hs:=hs;unfold pvd Par.pv Key.pv T at*;simp only[PV.cells,List.cons_append,List.nil_append];cases b1
  ·refine eW Tryz.call4 Tryz.func4 ?_;repeat' first|simp only[go_sem,seval]|refine cP hf ?_|refine cP haw ?_|refine sB ?_|(first|apply pX|apply bX)<;>intro hc|refine⟨oD,?_⟩|exact oD|fail
  ·by_cases g1:logs.length≤24
   ·cases b2
    ·refine eW Tryz.call4 Tryz.func4 ?_;repeat' first|simp only[go_sem,seval,l1]|refine cP hf ?_|refine cP haw ?_|refine cP hs ?_|refine cP ht ?_|refine sB ?_|(first|apply pX|apply bX)<;>intro hc|refine⟨oD,?_⟩|exact oD|fail
    ·have g3:b3=false:=by simpa[g1]using hg
     subst g3;refine eW Tryz.call4 Tryz.func4 ?_;repeat' first|simp only[go_sem,seval,l1]|refine cP hf ?_|refine cP haw ?_|refine cP hs ?_|refine cP ht ?_|refine sB ?_|(first|apply pX|apply bX)<;>intro hc|refine⟨oD,?_⟩|exact oD|fail
   ·refine eW Tryz.call4 Tryz.func4 ?_;repeat' first|simp only[go_sem,seval,l1]|refine cP hf ?_|refine cP haw ?_|refine cP hs ?_|refine cP ht ?_|refine sB ?_|(first|apply pX|apply bX)<;>intro hc|refine⟨oD,?_⟩|exact oD|fail
 obtain⟨g1,g2,g3,g4⟩:=hg;obtain⟨hp,lm,ln,lr⟩:=few_facts g1;obtain⟨tv,tsd⟩:=fewT_facts g4;have hk:=kProve_ok hp lm ln lr (logs:=logs) (vs:=vs) (sd:=sd) (a:=a) (by omega) (by omega) (by omega)
 rw[g1]at hf;rw[g3]at hs;rw[g4]at ht;have hv: ∀ch rs j,prvK p k logs vs sd a= .ok (ch,rs,j)→EvP Tryz.prog 13 [p.pv,k.pv,spv ch (rs.map ipz) [] []] (E 0):=by
  intro ch rs j h;have hl:=prvK_len h;have:=Verify_ok (p:=p) (k:=k) hp lm ln lr (ch:=ch) (rs:=rs.map ipz) (gs:=[]) (ls:=[]) (by simp;omega) (by simp) (by simp) (by simp)
  rwa[conv_ok hp lm h]at this
 have her: ∀e,prvK p k logs vs sd a= .error e→e≠0:=fun e h=>prvK_err h
 clear hr h1 g1 g3 g4 hp lm ln tv tsd h2 lr;generalize prvK p k logs vs sd a=RR at*
 cases RR with
 |ok q=>
  obtain⟨ch,zs,j⟩:=q;have hv:=hv _ _ _ rfl;clear her;have em:(zs.map ipz).map ipv=zs.map Zp:=by rw[List.map_map];rfl
  unfold spv at hv;rw[em]at hv;unfold pvd prvP Par.pv Key.pv T at*;simp only[PV.cells,List.cons_append,List.nil_append,List.map_nil]at*;refine eW Tryz.call4 Tryz.func4 ?_;repeat' first|simp only[go_sem,seval,l1]|refine cP hf ?_|refine cP hs ?_|refine cP ht ?_|refine cP hk ?_|refine cP hv ?_|refine cP haw ?_|refine sB ?_|(first|apply pX|apply bX)<;>intro hc|refine⟨oD,?_⟩|exact oD|fail
 |error e=>
  have he:=her _ rfl;clear hv her;unfold pvd prvP Par.pv Key.pv T at*;simp only[PV.cells,List.cons_append,List.nil_append,List.map_nil]at*;refine eW Tryz.call4 Tryz.func4 ?_;repeat' first|simp only[go_sem,seval,l1]|refine cP hf ?_|refine cP hs ?_|refine cP ht ?_|refine cP hk ?_|refine cP haw ?_|refine sB ?_|(first|apply pX|apply bX)<;>intro hc|refine⟨oD,?_⟩|exact oD|fail
end Go.Proofs.YtmledjfbgjnknaaGreatDoor
namespace Go.Proofs.YtmledjfbgjnknaaGreatDoor
open Go Go.Dom Go.ChangeShapes Go.WideShapes Go.ChangeAt Go.RowKit
set_option maxRecDepth 100000
theorem convinces_lifted (os:Os) (started:os.Started) (H:Type) (enc:TypeId×Value→H):
  ReturnsInHanded {} Tryz.checked os 4 .any (fun w args=>(Rows.issuerkeyConvincesSpec.pre enc Tryz.prog Tryz.f4 [] false w args∧laidMetH Tryz.prog laidL w)∧sizedMet enc Tryz.prog Tryz.f4 (OpenSpec.ofChange Rows.issuerkeyConvincesSpec) false w args)
   (Rows.issuerkeyConvincesSpec.post enc Tryz.prog Tryz.f4 false true false false):=by
 refine returnsInHanded_of_change_and (C:=Tryz.checked) (X:=fun w _=>laidMetH Tryz.prog laidL w) (fun _ _ _ hh h=>h.of_heap hh) ownK started (by kernel_rfl) Tryz.func4
  (ChangeSpec.witness_shaped (enc:=enc) (C:=Tryz.checked) (os:=os) (X:=fun w _=>laidMetH Tryz.prog laidL w) false (World.laidAll Tryz.prog os laidL) #[.agg #[.string ⟨#[]⟩, .string ⟨#[]⟩, .string ⟨#[]⟩, .string ⟨#[]⟩, .string ⟨#[]⟩, .string ⟨#[]⟩, .string ⟨#[]⟩, .string ⟨#[]⟩, .string ⟨#[]⟩, .string ⟨#[]⟩, .string ⟨#[]⟩, .string ⟨#[]⟩, .string ⟨#[]⟩, .string ⟨#[]⟩, .string ⟨#[]⟩, .string ⟨#[]⟩, .string ⟨#[]⟩, .string ⟨#[]⟩, .string ⟨#[]⟩, .string ⟨#[]⟩, .string ⟨#[]⟩, .string ⟨#[]⟩, .slice none 0 0, .string ⟨#[]⟩, .string ⟨#[]⟩, .slice none 0 0, .slice none 0 0, .string ⟨#[]⟩, .int .i64 0]] 8 (World.laidAll_os _ _ _)
   (World.shaped_of_ZipB (by kernel_rfl) (by kernel_rfl)) (by kernel_rfl) (by kernel_rfl) (by kernel_rfl)
   (by rw[MakeChecks.laidMetH_plain _ _ _ (by kernel_rfl)];exact laidMet_laidAll _ (by kernel_rfl) (by kernel_rfl))) ?_
 intro W base args ds gs before hval0 hW hcnd hwt hL _;rw[MakeChecks.laidMetH_plain _ _ _ (by kernel_rfl)]at hL
 have hval: ∀(j:Nat) t v,Tryz.f4.params[j]?=some t→args[j]?=some v→Value.okWide Tryz.prog W .any base t v:=hval0;have hW':=hW;obtain⟨p,q,hA0,hV,rfl,hfz,hnd⟩:=hW;have hA:DataW.TrodAll enc Tryz.prog W 0 (fun _=>true) true Tryz.f4.params.toList args.toList ds p:=hA0
 have hlt: ∀x∈p++q,x.block<W.heap.size:=fun x hx=>hW'.lt x hx
 rw[Tryz.params4]at hA hval;obtain⟨v0,d0,rfl,rfl,h0⟩:=trodAll_one hA;obtain⟨rfl,rfl⟩:=trodVars_none hV;have hv0:=hval 0 37 v0 rfl rfl;unfold Value.okWide at hv0;rw[Tryz.underlying37]at hv0;simp only at hv0;obtain⟨c0,rfl,s0,-⟩:=hv0;have hall:=List.all_eq_true.1 hwt;have w0: ∀m∈d0.weights Tryz.prog 37,m≤reachBytes:=fun m hm=>of_decide_eq_true (hall m (DataW.weights_mem_each (j:=0) rfl rfl m hm))
 obtain⟨n0,t0⟩:=id h0;obtain⟨pv0,r0,o0,y0⟩:=trod_pv 10 n0 _ c0.toList d0 p okPd t0 w0;obtain⟨pa,ke,lg,vs,sd,at0,ea,b1,b2,b3⟩:=typPd y0;have rb:=reachBytes_lt;obtain⟨g,hg,hc⟩:=convinces_ok pa ke lg vs sd at0 (by omega) (by omega) (by omega)
 have hg3:g=4:=by
  have a1:=hg #[] W;have a2:=Tryz.call4 #[] W;rw[a1]at a2;injection a2 with a2 _
  injection a2
 subst hg3;have q0:PR (rdW W) (pvd pa ke lg vs sd at0) (.agg c0):=by
  rw[←ea];have:=PR.agg (rd:=rdW W) pv0 c0.toList o0 r0.1 r0.2;simpa using this
 refine(hc W (rdW W) [.agg c0] (tabs_read hL) (fun _ _ _ h=>h) (.cons q0 .nil)).mono ?_
 rintro e W' ⟨v,rfl,hb,hpr⟩;cases hpr;refine⟨_,rfl,postBelow (pa:=p) (pv:=[]) hW' (fun _ _ _=>trodAll_mk1 (shut_bool uBool true)) (fun sp hsp=>trodAll_mk1 (WideElems.Trod_stays laidK (by kernel_rfl) (of_decide_eq_true (by kernel_rfl)) h0 (fun x hx=>hb.same (hlt x (by simp[hx]))) (fun x hx=>hsp x (by simp[hx])))) (fun _ _=>rfl) (by simp) hb (ok_one (by kernel_rfl) rfl (okWide_bool_mk uBool true))⟩
end Go.Proofs.YtmledjfbgjnknaaGreatDoor
