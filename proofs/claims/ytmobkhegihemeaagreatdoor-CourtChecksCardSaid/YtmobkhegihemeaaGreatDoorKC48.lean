/-
  Part of the proof, part KC48. Own work.
-/
import Derived.Test.YtmobkhegihemeaaGreatDoorRows
import Derived.Test.YtmobkhegihemeaaGreatDoorCards
import Derived.Test.YtmobkhegihemeaaGreatDoorTie
import Derived.ProofKit
import Derived.ChangeSame
import Derived.Lay
import Derived.LaidOnce
import Derived.SevenTiedAt
import Derived.Lib.LaidU8
import Derived.Test.YtmobkhegihemeaaGreatDoorKC47
import Derived.Test.YtmobkhegihemeaaGreatDoorKC46
set_option linter.all false
namespace Go.Proofs.YtmobkhegihemeaaGreatDoor
open Go Go.Dom Go.ChangeShapes Go.WideShapes Go.ChangeAt Go.RowKit
set_option maxRecDepth 100000
theorem V0:ownKnob Tryz.prog.godebug=none:=by kernel_rfl
theorem TH:laidOutB Tryz.prog=true:=by kernel_rfl
theorem PJ:Tryz.prog.underlying 4=some .bool:=by kernel_rfl
theorem uS:Tryz.prog.underlying 9=some .string:=by kernel_rfl
theorem uN:Tryz.prog.underlying 22=some .string:=by kernel_rfl
theorem Xw:Tryz.prog.underlying 27=some (.slice 22):=by kernel_rfl
theorem cS:Tryz.prog.cellsOf 9=1:=by kernel_rfl
theorem cN:Tryz.prog.cellsOf 22=1:=by kernel_rfl
theorem WO:Tryz.prog.cellsOf 27=1:=by kernel_rfl
theorem WN:Tryz.prog.cellsOf 24=2:=by kernel_rfl
theorem Xc:mJ Tryz.prog 22=false:=by kernel_rfl
theorem bN:Tryz.prog.bytesOf 22=16:=by kernel_rfl
theorem tk {ps:List PV} {x:PV} (h:List.take 1 ps=[x]):ps=x::List.drop 1 ps:=by cases ps<;>simp_all
theorem Xt {ps:List PV} {x y:PV} (h:List.take 2 ps=[x,y]):ps=x::y::List.drop 2 ps:=by
 rcases ps with _|⟨a,_|⟨b,r⟩⟩<;>simp_all
theorem Xu {ps:List PV} {x y z u:PV} (h:List.take 4 ps=[x,y,z,u]):ps=x::y::z::u::List.drop 4 ps:=by
 rcases ps with _|⟨a,_|⟨b,_|⟨c,_|⟨d,r⟩⟩⟩⟩<;>simp_all
theorem Rf {α:Type} {f:α→PV}: ∀{l:List PV},(∀x∈l,∃a,x=f a)→ ∃al:List α,l=al.map f:=by
 intro l
 induction l with
 |nil=>intro _;exact⟨[],rfl⟩
 |cons x l ih=>
  intro h;obtain⟨a,rfl⟩:=h x (by simp)
  obtain⟨al,rfl⟩:=ih fun y hy=>h y (by simp[hy])
  exact⟨a::al,rfl⟩
theorem Hp {x y:PV} (h:x.cells=[y]) (h1:x.one=true):x=y:=by
 cases x<;>first|(simpa[PV.cells]using h)|(simp[PV.one]at h1)
theorem OO {k:Nat} {ps:List PV} (h:tu Tryz.prog (k+1) 22 ps): ∃b:Bytes,ps=[.s b]:=by
 simp only[tu,uN]at h;obtain⟨x,rfl,-⟩:=h;exact⟨x,rfl⟩
theorem UJ {k:Nat} {ps:List PV} (h:tu Tryz.prog (k+1) 9 ps): ∃b:Bytes,ps=[.s b]:=by
 simp only[tu,uS]at h;obtain⟨x,rfl,-⟩:=h;exact⟨x,rfl⟩
theorem UH {k:Nat} {ps:List PV} (h:tu Tryz.prog (k+2) 27 ps): ∃bs:List Bytes,ps=[.sl (bs.map PV.s)]∧bs.length*16≤reachBytes:=by
 simp only[tu,Xw,uN,Xc,bN]at h;obtain⟨l,rfl,hb,hl⟩:=h;obtain⟨bs,rfl⟩:=Rf (f:=PV.s) (l:=l) fun x hx=>by
  obtain⟨⟨s,h1,-⟩,h2⟩:=hl x hx;exact⟨s,Hp h1 (by simpa using h2)⟩
 exact⟨bs,rfl,by simpa using hb⟩
theorem UG {k:Nat} {ps:List PV} (h:tu Tryz.prog (k+2) 24 ps): ∃a b:Bytes,ps=[.s a, .s b]:=by
 rw[tu,Tryz.underlying24]at h;simp only[Gr,cN]at h;obtain⟨h1,h2,h3⟩:=h;obtain⟨a,h1⟩:=OO h1;obtain⟨b,h2⟩:=OO h2;exact⟨a,b,by rw[tk h1,tk h2,h3]⟩
section
variable {H:Type} {enc:TypeId×Value→H} {P:Program}
theorem Hz {f:Func} {s:ChangeSpec} {apart fresh handsOn again:Bool} {W W':World} {args:Array Value} {v:Value} {ds gs:List (DataW H)} {before pa pv:List MemPlace}
  (hW:DataW.Whole enc P f.params.toList s.vars apart W args.toList ds gs before)
  (hres: ∀(b:Nat) (sp:Nat→Bool) (hd:Bool),DataW.TrodAll enc P W' b sp hd f.resultTypes.toList (v.resultList f.resultTypes.size) (s.fn H (ds++gs)).results [])
  (hargs: ∀sp:Nat→Bool,(∀p∈before,sp p.block=true)→DataW.TrodAll enc P W' 0 sp true f.params.toList args.toList (s.fn H (ds++gs)).args pa)
  (hvars: ∀sp:Nat→Bool,(∀p∈before,sp p.block=true)→DataW.TrodVars enc P W' sp s.vars (s.fn H (ds++gs)).vars pv)
  (hps:before=pa++pv) (hb:Below W.heap.size W W')
  (hok: ∀(j:Nat) (t:TypeId) (r:Value),f.resultTypes[j]?=some t→(v.resultList f.resultTypes.size)[j]?=some r→Value.okWide P W' .any 0 t r):
  s.post enc P f apart fresh handsOn again W args v W':=by
 have hlt: ∀p∈before,p.block<W.heap.size:=fun p hp=>hW.lt p hp
 have hold: ∀p∈before,(fun b=>decide (b<W.heap.size)) p.block=true:=fun p hp=>by simpa using hlt p hp
 refine⟨ds,gs,before,[],pa,pv,hW,hres _ _ _,hargs _ hold,hvars _ hold,World.keptBut_mono (fun p hp=>⟨hp,?_⟩) (hb.frame (·∈before)),fun _=> ?_⟩
 ·rw[hps,fM]at hp;exact Or.inr hp
 ·obtain⟨_,_,_,_,_,hz,hn⟩:=hW;refine⟨hok,_,_,([]++pa)++pv,⟨[]++pa,pv,trodAll_append (hargs _ (fun _ _=>rfl)) (hres _ _ _),hvars _ (fun _ _=>rfl),rfl,?_,?_⟩,?_⟩
  ·intro b off hp;have hin:MemPlace.cell b off∈before:=by rw[hps];simpa using hp
   rw[hb.frozen (hlt _ hin)];exact hz b off hin
  ·intro ha;have:=hn ha;rw[hps]at this;simpa using this
  ·intro p hp _;rw[hps];simpa using hp
end
def sX:List (String×DataW Unit):=[("math/bits.deBruijn32tab",Rows.laid_math_bits_deBruijn32tab),("math/bits.deBruijn64tab",Rows.laid_math_bits_deBruijn64tab),("internal/strconv.uint64pow10",Rows.laid_internal_strconv_uint64pow10)]
theorem sL {W:World} {n:String} {g:Nat} {t e:TypeId} {k:IntKind} {m:Nat} {zs:List Int} (h:Lib.VarReads Tryz.prog W n (Lib.tabData k zs)) (hg:Tryz.prog.globalNamed n=some g) (ht:(Tryz.prog.globals[g]?).map (·.type)=some t) (hu:Tryz.prog.underlying t=some (.array m e)) (he:Tryz.prog.underlying e=some (.int k)) (hce:Tryz.prog.cellsOf e=1) (hct:Tryz.prog.cellsOf t=m) (i:Nat):
  W.cell? ⟨g,i,none⟩=(zs[i]?).map fun z=>Value.int k z:=by
 obtain⟨g',t',cs,fuel,p,h1,h2,h3,h4⟩:=h;obtain rfl:=uB (hg.symm.trans h1);obtain rfl:=uB (ht.symm.trans h2);have h5:=Lib.cells_of_tab hu he hce hct h4;rw[World.var?_cell h1 h3 i,←Array.getElem?_toList,h5,cH]
theorem HX {W:World} (h:laidMet Tryz.prog sX W): ∀b o v,TR Tryz.prog b o=some v→W.cell? ⟨b,o,none⟩=some v:=by
 have h1:=fun i=>sL (Lib.laidMet.reads h (n:= "math/bits.deBruijn32tab") (d:=Lib.tabData .u8 lW) (by simp[sX];rfl)) (g:=5) (t:=410) (e:=5) (m:=32) (by kernel_rfl) (by kernel_rfl) (by kernel_rfl) (by kernel_rfl) (by kernel_rfl) (by kernel_rfl) i
 have h2:=fun i=>sL (Lib.laidMet.reads h (n:= "math/bits.deBruijn64tab") (d:=Lib.tabData .u8 lZ) (by simp[sX];rfl)) (g:=0) (t:=267) (e:=5) (m:=64) (by kernel_rfl) (by kernel_rfl) (by kernel_rfl) (by kernel_rfl) (by kernel_rfl) (by kernel_rfl) i
 have h3:=fun i=>sL (Lib.laidMet.reads h (n:= "internal/strconv.uint64pow10") (d:=Lib.tabData .u64 nO) (by simp[sX];rfl)) (g:=4) (t:=398) (e:=47) (m:=20) (by kernel_rfl) (by kernel_rfl) (by kernel_rfl) (by kernel_rfl) (by kernel_rfl) (by kernel_rfl) i
 intro b o v hv;have key: ∀(k:IntKind) (zs:List Int),((zs.map fun n=>(k,n))[o]?).map (fun p:IntKind×Int=>Value.int p.1 p.2)=(zs[o]?).map fun z=>Value.int k z:=by
  intro k zs;rw[cH,Option.map_map];rfl
 unfold TR at hv;simp only[bT.tab,List.lookup]at hv
 by_cases e1:b=5
 ·subst e1;rw[h1 o,←key];simpa using hv
 ·by_cases e2:b=0
  ·subst e2;rw[h2 o,←key];simpa using hv
  ·by_cases e3:b=4
   ·subst e3;rw[h3 o,←key];simpa using hv
   ·simp only[show(b==5)=false from beq_eq_false_iff_ne.2 e1,show(b==0)=false from beq_eq_false_iff_ne.2 e2,show(b==4)=false from beq_eq_false_iff_ne.2 e3]at hv
    cases hv
end Go.Proofs.YtmobkhegihemeaaGreatDoor
namespace Go.Proofs.YtmobkhegihemeaaGreatDoor
open Go Go.Dom Go.Num
set_option maxRecDepth 100000
set_option maxHeartbeats 16000000
theorem Vc:aD Tryz.prog 70 [E (-1)] (.agg [.b true, .s [1]]):=by
 have hm:=tQ true [1];refine eW Tryz.call70 Tryz.func70 ?_;repeat' first|simp only[go_sem,seval]|refine cP pV ?_|refine cP hm ?_|refine sB ?_|(first|apply pX|apply bX)<;>intro hc|refine⟨oD,?_⟩|exact oD|fail
 all_goals rfl
abbrev Wh (i:Nat) (d ch:Bytes) (rs:List Int):PV:= .agg [E i, .s d, .s ch, .sl (rs.map Zp), .sl [], .sl []]
theorem Rl (l:List Int):(l.map lf).map eg=l.map Zp:=by rw[jE];rfl
theorem VY (a b:Int):iE false (.i .i64 a) (.i .i64 b)=some (decide (a=b)):=TG a b
theorem JT:gE [23] [11]=0:=by decide+kernel
theorem JH (n:Nat) (h1:n<23) (h2:Nat.gcd n 23=1) (h3:n^11%23=1):GP [23] [11] n:=⟨h1,h2, .inr h3⟩
theorem Jg {ch1 ch3:Bytes} {rs1 rs3:List Int} (l1:rs1.length<1000) (l3:rs3.length<1000) (v1:CY [11] [2] (po xE 1) (dV xE 1 [16] [18]) ch1 (rs1.map lf) [] []=0) (v3:CY [11] [2] (po xE 3) (dV xE 3 [16] [1]) ch3 (rs3.map lf) [] []=0):
  aD Tryz.prog 23 [xE.pv,U5 [16] [9], .sl [Wh 1 [18] ch1 rs1,Wh 3 [1] ch3 rs3]] (.tup [.s [13],E 0]):=by
 have k:=vC wa;have c0:=rU xE (by decide) (by decide) (by decide) (by decide)
 rw[wa]at c0;have c1:=ET xE (by decide) (by decide) (by decide) (by decide) k (i:=1) (by decide) (by decide) (A:=[16]) (B:=[9]) (d:=[18]) (by decide) (by decide+kernel) (by decide+kernel) (by decide+kernel) (ch:=ch1) (rs:=rs1.map lf) (gs:=[]) (ls':=[]) (by simp;omega) (by simp) (by simp) (fun l h=>by cases h)
 have c3:=ET xE (by decide) (by decide) (by decide) (by decide) k (i:=3) (by decide) (by decide) (A:=[16]) (B:=[9]) (d:=[1]) (by decide) (by decide+kernel) (by decide+kernel) (by decide+kernel) (ch:=ch3) (rs:=rs3.map lf) (gs:=[]) (ls':=[]) (by simp;omega) (by simp) (by simp) (fun l h=>by cases h)
 rw[show xE.o=[11]from rfl]at c1 c3
 rw[v1]at c1;rw[v3]at c3;simp only[Rl,bG]at c1 c3;have a1:=I6 [23] [11] [4] [12] (pts:=[1,3]) (by simp) (by simp) (by decide)
 have a2:=ES (m:=[23]) (o:=[11]) (by decide) (by decide) JT (by decide) (by decide+kernel) [4] [12] (pts:=[1,3]) (k9:=[18,1]) (by simp) rfl (by decide) (by decide) (by simp) (fun x hx=>by
  simp only[bL,ij,or_false]at hx;rcases hx with rfl|rfl
  ·exact JH 18 (by decide) (by decide) (by decide)
  ·exact JH 1 (by decide) (by decide) (by decide)) (x:=0) (by decide)
 rw[show Ia (num [23]) (num [11]) [1,3] [18,1] 0=6 from Vk]at a2
 have p1:=zx (m:=[23]) (o:=[11]) (by decide) (by decide) JT (xs:=[9,6]) (es:=[(false,[1]),(true,[1])]) (fun x hx=>by
  simp only[bL,ij,or_false]at hx;rcases hx with rfl|rfl
  ·exact JH 9 (by decide) (by decide) (by decide)
  ·exact JH 6 (by decide) (by decide) (by decide)) (fun e he=>by
  simp only[bL,ij,or_false]at he;rcases he with rfl|rfl<;>rfl) rfl (by simp)
 have hz:C9 (num [23]) ([9,6].zip [(false,[1]),(true,[1])])=13:=by
  show C9 23 [(9,(false,[1])),(6,(true,[1]))]=13;rw[wP,FM];show cL 23 9 false 1*cL 23 6 true 1%23=13;have:eV 6 23=4:=hG (by decide) (by decide)
  simp only[cL,this];decide
 rw[hz]at p1;have z1:([9,6]:List Nat).map cA=[.s [9], .s [6]]:=by kernel_rfl
 have z2:([18,1]:List Nat).map cA=[.s [18], .s [1]]:=by kernel_rfl
 have z3:([1,3]:List Nat).map cA=[.s [1], .s [3]]:=by kernel_rfl
 have z4:([1,3]:List Nat).map uP=[E 1,E 3]:=rfl;have z5:([(false,[1]),(true,[1])]:List (Bool×Bytes)).map eg=[.agg [.b false, .s [1]], .agg [.b true, .s [1]]]:=rfl;have z6:N 6= .s [6]:=by kernel_rfl
 have z7:N 13= .s [13]:=by kernel_rfl
 have o1:aD Tryz.prog 70 [E 1] (.agg [.b false, .s [1]]):=Qc;simp only[Du,z3,z4]at a1 a2;rw[z2,z6]at a2;rw[z1,z5,z7]at p1;have hK:xE.pv= .agg [.s [99], .s [23], .s [11], .s [4], .s [12],E 2, .sl [.s [8], .s [13], .s [1]]]:=rfl;rw[hK]at c0 c1 c3⊢;clear k v1 v3 hz;refine eW Tryz.call23 Tryz.func23 ?_;repeat' first|simp only[go_sem,seval,cb,bI,J6,nY,si,VY,af,aW,Option.isSome_some]|refine cP c0 ?_|refine cP c1 ?_|refine cP c3 ?_|(refine mS [1081] a1 rfl (by simp[aN,ar]) (by simp[aQ,view,ar,AV.one,PV.one,chunk]) ?_)|(refine mS [1086] a2 rfl (by simp[aN,ar]) (by simp[aQ,view,ar,AV.one,PV.one,chunk]) ?_)|refine cP o1 ?_|refine cP Vc ?_|refine cP p1 ?_|(refine ae ?_)|refine sB ?_|(first|apply pX|apply bX)<;>intro hc|refine⟨oD,?_⟩|exact oD|fail
theorem oB (n:Nat) (h:n<18446744073709551616):aD Tryz.prog 15 [.i .u64 n] (N n):=by
 have h1:=gP n h;refine eW Tryz.call15 Tryz.func15 ?_;repeat' first|simp only[go_sem,seval]|refine cP h1 ?_|refine sB ?_|(first|apply pX|apply bX)<;>intro hc|refine⟨oD,?_⟩|exact oD|fail
theorem Ps:aD Tryz.prog 24 [.sl [.i .u64 4, .i .u64 2]] (.sl [.s [4], .s [2]]):=by
 have a:aD Tryz.prog 15 [.i .u64 4] (.s [4]):=oB 4 (by decide)
 have b:aD Tryz.prog 15 [.i .u64 2] (.s [2]):=oB 2 (by decide)
 refine eW Tryz.call24 Tryz.func24 ?_;repeat' first|simp only[go_sem,seval,cb,bI]|refine cP a ?_|refine cP b ?_|(refine ae ?_)|refine sB ?_|(first|apply pX|apply bX)<;>intro hc|refine⟨oD,?_⟩|exact oD|fail
 all_goals rfl
theorem Pt {a b c:Nat} (ha:a<18446744073709551616) (hb:b<18446744073709551616) (hc:c<18446744073709551616):aD Tryz.prog 24 [.sl [.i .u64 a, .i .u64 b, .i .u64 c]] (.sl [N a,N b,N c]):=by
 have a:=oB a ha;have b:=oB b hb;have c:=oB c hc;refine eW Tryz.call24 Tryz.func24 ?_;repeat' first|simp only[go_sem,seval,cb,bI]|refine cP a ?_|refine cP b ?_|refine cP c ?_|(refine ae ?_)|refine sB ?_|(first|apply pX|apply bX)<;>intro hc|refine⟨oD,?_⟩|exact oD|fail
 all_goals rfl
theorem QV (a b:Bytes):aD Tryz.prog 57 [.sl [.s a, .s b]] (.sl [.s a, .s b]):=by
 refine eW Tryz.call57 Tryz.func57 ?_;repeat' first|simp only[go_sem,seval]|refine sB ?_|(first|apply pX|apply bX)<;>intro hc|refine⟨oD,?_⟩|exact oD|fail
 all_goals rfl
theorem UM (a b:Bytes):aD Tryz.prog 19 [.sl [.s a, .s b]] (T [a,b] [] 0):=by
 have h:=QV a b;refine eW Tryz.call19 Tryz.func19 ?_;repeat' first|simp only[go_sem,seval]|refine cP h ?_|refine sB ?_|(first|apply pX|apply bX)<;>intro hc|refine⟨oD,?_⟩|exact oD|fail
 all_goals rfl
theorem F8 (s:Bytes):aD Tryz.prog 13 [.s s] (T [] s 0):=by
 refine eW Tryz.call13 Tryz.func13 ?_;repeat' first|simp only[go_sem,seval]|refine sB ?_|(first|apply pX|apply bX)<;>intro hc|refine⟨oD,?_⟩|exact oD|fail
 all_goals rfl
theorem PC (a b c:Bytes):aD Tryz.prog 25 [.sl [.s a, .s b, .s c], .sl [.s a, .s b, .s c]] (.b true):=by
 refine eW Tryz.call25 Tryz.func25 ?_;repeat' first|simp only[go_sem,seval,cb,bI,beq_self_eq_true,bu]|(refine ae ?_)|refine sB ?_|(first|apply pX|apply bX)<;>intro hc|refine⟨oD,?_⟩|exact oD|fail
 all_goals rfl
theorem KZ {c sl ctx:Bytes} {s:dy} {w:List Int} {vs:List Bytes} {sd:Bytes} {a:Int} {ch:Bytes} {rs:List Int} {j:Nat} (h:zW c sl ctx s w vs sd a= .ok (ch,rs,j)):rs.length=s.vars.length:=by
 obtain⟨i',ms,z,-,-,-,rfl⟩:=Ak (Ci h);exact Cs ..
theorem Dm:aD Tryz.prog 8 [] (.b true):=by
 obtain⟨⟨ch1,rs1,j1⟩,p1⟩:=Pu V1;obtain⟨⟨ch3,rs3,j3⟩,p3⟩:=Pu V2;have k:=vC wa;have g16:GP xE.m xE.o (num [16]):=JH 16 (by decide) (by decide) (by decide)
 have s1:=ym xE (by decide) (by decide) (by decide) (by decide) wa (i:=1) (by decide) (by decide) (x:=[7]) (A:=[16]) (B:=[9]) (vs:=[]) (sd:=[97]) (a:=0) (by simp) (by simp) (by decide) (by decide) (by decide+kernel) (by decide+kernel) (by decide) (by decide+kernel) (d:=18) (by decide+kernel) p1 (fun e h=>by cases h)
 have s3:=ym xE (by decide) (by decide) (by decide) (by decide) wa (i:=3) (by decide) (by decide) (x:=[]) (A:=[16]) (B:=[9]) (vs:=[]) (sd:=[98]) (a:=0) (by simp) (by simp) (by decide) (by decide) (by decide+kernel) (by decide+kernel) (by decide) (by decide+kernel) (d:=1) (by decide+kernel) p3 (fun e h=>by cases h)
 have v1:=Jf k (by decide) g16 (by decide+kernel) (by decide+kernel) p1
 have v3:=Jf k (by decide) g16 (by decide+kernel) (by decide+kernel) p3
 have l1:rs1.length<1000:=by rw[KZ p1];decide
 have l3:rs3.length<1000:=by rw[KZ p3];decide
 have op:=Jg l1 l3 v1 v3;have fo:=JC (name:=[99]) (m:=[23]) (o:=[11]) (by decide) (by decide) (by decide) [4] 2 (count:=3) (by decide) (vs:=[[4],[2]]) (sd:=[]) (a:=0) (by simp) (by simp)
 rw[Ty]at fo;rw[show BD [99] [23] [11] [4] 2 [[4],[2]] [] (.ok (12,[7,9,0],2))= .tup [.agg [.s [99], .s [23], .s [11], .s [4], .s [12],E 2, .sl [.s [8], .s [13], .s [1]]], .sl [.s [7], .s [9], .s []],T [[4],[2]] [] 2,E 0] by kernel_rfl]at fo
 simp only[Sw]at s1 s3;have hK:xE.pv= .agg [.s [99], .s [23], .s [11], .s [4], .s [12],E 2, .sl [.s [8], .s [13], .s [1]]]:=rfl;rw[hK]at s1 s3 op;rw[show N 18= .s [18]from rfl]at s1
 rw[show N 1= .s [1]from rfl]at s3
 have n: ∀(x:Nat) (b:Bytes),x<18446744073709551616→aP x=b→aD Tryz.prog 15 [.i .u64 x] (.s b):=fun x b hx hb=>by rw[←hb];exact oB x hx
 have n23:=n 23 [23] (by decide) rfl
 have n11:=n 11 [11] (by decide) rfl
 have n4:=n 4 [4] (by decide) rfl
 have n12:=n 12 [12] (by decide) rfl
 have n16:=n 16 [16] (by decide) rfl
 have n9:=n 9 [9] (by decide) rfl
 have n7:=n 7 [7] (by decide) rfl
 have n0:=n 0 [] (by decide) rfl
 have n18:=n 18 [18] (by decide) rfl
 have n1:=n 1 [1] (by decide) rfl
 have n13:=n 13 [13] (by decide) rfl
 have m1:aD Tryz.prog 24 [.sl [.i .u64 7, .i .u64 9, .i .u64 0]] (.sl [.s [7], .s [9], .s []]):=Pt (a:=7) (b:=9) (c:=0) (by decide) (by decide) (by decide)
 have m2:aD Tryz.prog 24 [.sl [.i .u64 8, .i .u64 13, .i .u64 1]] (.sl [.s [8], .s [13], .s [1]]):=Pt (a:=8) (b:=13) (c:=1) (by decide) (by decide) (by decide)
 have vv:=UM [4] [2];have sa:=F8 [97];have sb:=F8 [98];have q1:=PC [7] [9] [];have q2:=PC [8] [13] [1];simp only[show((1:Nat):Int)=1 from rfl,show((3:Nat):Int)=3 from rfl,show((23:Nat):Int)=23 from rfl,show((11:Nat):Int)=11 from rfl,show((4:Nat):Int)=4 from rfl,show((12:Nat):Int)=12 from rfl,show((16:Nat):Int)=16 from rfl,show((9:Nat):Int)=9 from rfl,show((7:Nat):Int)=7 from rfl,show((0:Nat):Int)=0 from rfl,show((18:Nat):Int)=18 from rfl,show((13:Nat):Int)=13 from rfl]at s1 s3 op n23 n11 n4 n12 n16 n9 n7 n0 n18 n1 n13
 clear p1 p3 k v1 v3 hK n;refine eW Tryz.call8 Tryz.func8 ?_;repeat' first|simp only[go_sem,seval,beq_self_eq_true,bne_self_eq_false,bu]|refine cP n23 ?_|refine cP n11 ?_|refine cP n4 ?_|refine cP Ps ?_|refine cP vv ?_|refine cP fo ?_|refine cP n12 ?_|refine cP m1 ?_|refine cP q1 ?_|refine cP m2 ?_|refine cP q2 ?_|refine cP n16 ?_|refine cP n9 ?_|refine cP n7 ?_|refine cP sa ?_|refine cP s1 ?_|refine cP n0 ?_|refine cP sb ?_|refine cP s3 ?_|refine cP op ?_|refine cP n18 ?_|refine cP n1 ?_|refine cP n13 ?_|refine sB ?_|(first|apply pX|apply bX)<;>intro hc|refine⟨oD,?_⟩|exact oD|fail
 all_goals rfl
theorem HH (name m o g y:Bytes) (need:Int) (ln:name.length≤60) (lm:m.length≤8) (lo:o.length≤8):aD Tryz.prog 10 [.agg [.s name, .s m, .s o, .s g, .s y,E need, .sl []]] (E (gN ⟨name,m,o,g,y,need,[]⟩)):=by
 have v1:=aO m;have v2:=aO o;have v3:=aO g;have v4:=aO y;have h3:=wW name ln;have h4:=s9 lm lo g y;have h5:=D6 o (by omega)
 unfold gN;simp only[List.all_cons,List.all_nil,kA,bu,Bool.or_false,List.length_nil]
 by_cases hv:(aa m&&(aa o&&(aa g&&aa y)))=true
 case neg=>
  have hv:(aa m&&(aa o&&(aa g&&aa y)))=false:=by simpa using hv
  rw[hv];simp only[bR,if_true];generalize aa m=c1 at*;generalize aa g=c3 at*;generalize aa y=c4 at*;cases c1
  ·clear h4 h5;refine eW Tryz.call10 Tryz.func10 ?_;repeat' first|simp only[go_sem,seval,cb,bI,bG,uz]|refine cP v1 ?_|(refine ae ?_)|refine sB ?_|(first|apply pX|apply bX)<;>intro hc|refine⟨oD,?_⟩|exact oD|fail
   all_goals rfl
  cases hc2:aa o
  ·rw[hc2]at v2;clear h4 h5;refine eW Tryz.call10 Tryz.func10 ?_;repeat' first|simp only[go_sem,seval,cb,bI]|refine cP v1 ?_|refine cP v2 ?_|(refine ae ?_)|refine sB ?_|(first|apply pX|apply bX)<;>intro hc|refine⟨oD,?_⟩|exact oD|fail
   all_goals rfl
  rw[hc2]at v2 hv;cases c3
  ·clear h4 h5;refine eW Tryz.call10 Tryz.func10 ?_;repeat' first|simp only[go_sem,seval,cb,bI]|refine cP v1 ?_|refine cP v2 ?_|refine cP v3 ?_|(refine ae ?_)|refine sB ?_|(first|apply pX|apply bX)<;>intro hc|refine⟨oD,?_⟩|exact oD|fail
   all_goals rfl
  cases c4
  ·clear h4 h5;refine eW Tryz.call10 Tryz.func10 ?_;repeat' first|simp only[go_sem,seval,cb,bI]|refine cP v1 ?_|refine cP v2 ?_|refine cP v3 ?_|refine cP v4 ?_|(refine ae ?_)|refine sB ?_|(first|apply pX|apply bX)<;>intro hc|refine⟨oD,?_⟩|exact oD|fail
   all_goals rfl
  ·cases hv
 rw[hv];simp only[aZ]at hv;obtain⟨vm,vo,vg,vy⟩:=hv;rw[vm]at v1;rw[vo]at v2;rw[vg]at v3;rw[vy]at v4;simp only[bu,aW,if_false]
 cases hn:kq name with
 |false=>
  rw[hn]at h3;simp only[bR,if_true];refine eW Tryz.call10 Tryz.func10 ?_;repeat' first|simp only[go_sem,seval,cb,bI]|refine cP v1 ?_|refine cP v2 ?_|refine cP v3 ?_|refine cP v4 ?_|(refine ae ?_)|refine cP h3 ?_|refine sB ?_|(first|apply pX|apply bX)<;>intro hc|refine⟨oD,?_⟩|exact oD|fail
  all_goals rfl
 |true=>
 rw[hn]at h3;simp only[bu,aW,if_false]
 by_cases hk:lV m o g y=0
 case neg=>
  rw[if_pos hk];generalize lV m o g y=e at*;refine eW Tryz.call10 Tryz.func10 ?_;repeat' first|simp only[go_sem,seval,cb,bI]|refine cP v1 ?_|refine cP v2 ?_|refine cP v3 ?_|refine cP v4 ?_|(refine ae ?_)|refine cP h3 ?_|refine cP h4 ?_|refine sB ?_|(first|apply pX|apply bX)<;>intro hc|refine⟨oD,?_⟩|exact oD|fail
  all_goals rfl
 rw[hk]at h4;rw[if_neg (by simpa using hk)]
 rw[vo,decide_eq_true lo,if_pos rfl,if_pos lo]at h5;simp only[bZ]at h5
 cases hp:dS (num o)with
 |false=>
  rw[hp]at h5;simp only[bR,if_true];refine eW Tryz.call10 Tryz.func10 ?_;repeat' first|simp only[go_sem,seval,cb,bI]|refine cP v1 ?_|refine cP v2 ?_|refine cP v3 ?_|refine cP v4 ?_|(refine ae ?_)|refine cP h3 ?_|refine cP h4 ?_|refine cP h5 ?_|refine sB ?_|(first|apply pX|apply bX)<;>intro hc|refine⟨oD,?_⟩|exact oD|fail
  all_goals rfl
 |true=>
 rw[hp]at h5;simp only[bu,aW,if_false];have hq2:=vY hp;rw[if_pos (by omega)]
 have h6:aD Tryz.prog 39 [.i .u64 0] (N 0):=gP 0 (by decide)
 have h7:=tU (aP 0) o;rw[vN (show 0<18446744073709551616 by decide),vo,aK]at h7
 simp only[dh,if_true]at h7;have hcg:=rV 0 (num o);rw[decide_eq_false (show¬(num o≤0) by omega)]at hcg
 generalize a6 0 (num o)=cm at*
 by_cases b2:need<1
 ·refine eW Tryz.call10 Tryz.func10 ?_;repeat' first|simp only[go_sem,seval,cb,bI,hcg]|refine cP v1 ?_|refine cP v2 ?_|refine cP v3 ?_|refine cP v4 ?_|(refine ae ?_)|refine cP h3 ?_|refine cP h4 ?_|refine cP h5 ?_|refine cP h6 ?_|refine cP h7 ?_|refine sB ?_|(first|apply pX|apply bX)<;>intro hc|refine⟨oD,?_⟩|exact oD|fail
  all_goals rfl
 ·have b3:need>0:=by omega
  refine eW Tryz.call10 Tryz.func10 ?_;repeat' first|simp only[go_sem,seval,cb,bI,hcg]|refine cP v1 ?_|refine cP v2 ?_|refine cP v3 ?_|refine cP v4 ?_|(refine ae ?_)|refine cP h3 ?_|refine cP h4 ?_|refine cP h5 ?_|refine cP h6 ?_|refine cP h7 ?_|refine sB ?_|(first|apply pX|apply bX)<;>intro hc|refine⟨oD,?_⟩|exact oD|fail
  all_goals rfl
theorem KN (c:CK) (ln:c.name.length≤60) (lm:c.m.length≤8) (lo:c.o.length≤8) (ls:c.sh.length≤8):aD Tryz.prog 10 [c.pv] (E (gN c)):=by
 by_cases h:c.sh=[]
 ·obtain⟨name,m,o,g,y,need,sh⟩:=c;simp only at h ln lm lo;subst h;exact HH name m o g y need ln lm lo
 ·exact Cj c ln lm lo ls h
def yS (x:Bytes):Bool:=decide (x.length≤12)
def Ek (c:CK):Bool:=decide (c.m.length≤8∧c.o.length≤8∧c.g.length≤12∧c.y.length≤12∧c.sh.length≤8∧c.name.length≤60)
def zu (c:CK):Bool:=(c.sh.take 20).all yS&&Ek c
theorem GY (c:CK) (hl:c.sh.length<4611686018427387904):aD Tryz.prog 7 [c.pv] (.b (zu c)):=by
 unfold zu;obtain⟨S,hS⟩: ∃S,S=Ek c:=⟨_,rfl⟩;rw[←hS];obtain⟨name,m,o,g,y,need,sh⟩:=c;simp only[CK.pv,Ek]at*;obtain⟨n,hn⟩: ∃n,n=sh.length:=⟨_,rfl⟩;have l1:(sh.map PV.s).length=n:=by rw[aH,hn]
 refine eW Tryz.call7 Tryz.func7 ?_;repeat' first|simp only[go_sem,seval]|refine sB ?_|(first|apply pX|apply bX)<;>intro hc|refine⟨oD,?_⟩|exact oD|fail
 refine aj (α:=Nat) (fun i=>n-i) (fun i=>⟨[(1, .p 1000 0 0),(3,E' i)],[(1000,⟨0,[.v (.s name), .v (.s m), .v (.s o), .v (.s g), .v (.s y), .v (E need), .v (.sl (sh.map .s))],false,none⟩)],_⟩) (fun i=>i≤n∧i≤20∧((sh.drop i).take (20-i)).all yS=(sh.take 20).all yS) 0 (fun _=>au _) ⟨aL _,aL _,rfl⟩ ?_ ?_
 ·exact lE
 ·rintro i ⟨hi,h20,hf⟩ R hR
  by_cases hlt:i<n∧i<20
  ·obtain⟨h1,h2⟩:=hlt;have e1:=eA (l:=sh) (x:=i) (by omega)
   have hgo:=fun h=>hR (i+1) ⟨by omega,by omega,h⟩ (by omega)
   obtain⟨j,hj⟩: ∃j,20-i=j+1:=⟨19-i,by omega⟩
   rw[hj,aR [] (show i<sh.length by omega),List.take_succ_cons,List.all_cons]at hf
   rw[show 20-(i+1)=j by omega]at hgo
   have d1:decide ((i:Int)<(n:Int))=true:=decide_eq_true (by omega)
   have d2:decide ((i:Int)<20)=true:=decide_eq_true (by omega)
   generalize sh.getD i []=x at*;clear hR
   by_cases hx:x.length≤12
   ·rw[show yS x=true from decide_eq_true hx,bZ]at hf
    have hgo:=hgo hf;have d3:decide ((x.length:Int)>12)=false:=decide_eq_false (by omega)
    clear hf hS;repeat' first|simp only[go_sem,seval,l1,e1,d1,d2,d3]|refine sB ?_|(first|apply pX|apply bX)<;>intro hc|refine⟨oD,?_⟩|exact oD|fail
    refine hgo _ ?_;exact lE
   ·rw[show yS x=false from decide_eq_false hx,ec]at hf
    rw[←hf,ec];have d3:decide ((x.length:Int)>12)=true:=decide_eq_true (by omega)
    clear hf hgo hS;repeat' first|simp only[go_sem,seval,l1,e1,d1,d2,d3]|refine sB ?_|(first|apply pX|apply bX)<;>intro hc|refine⟨oD,?_⟩|exact oD|fail
    all_goals rfl
  ·have hall:(sh.take 20).all yS=true:=by
    rw[←hf]
    by_cases g:i<20
    ·rw[gS (by omega)];simp
    ·rw[show 20-i=0 by omega];rfl
   rw[hall,bZ];clear hf hR
   by_cases hin:i<n
   ·have h8: ¬n≤8:=by omega
    have hSf:S=false:=by rw[hS,←hn];exact decide_eq_false fun h=>h8 h.2.2.2.2.1
    rw[hSf];have d1:decide ((i:Int)<(n:Int))=true:=decide_eq_true (by omega)
    have d2:decide ((i:Int)<20)=false:=decide_eq_false (by omega)
    have d4:decide ((n:Int)≤8)=false:=decide_eq_false (by omega)
    clear hS hall
    by_cases h1:m.length≤8
    case neg=>
     repeat' first|simp only[go_sem,seval,l1,d1,d2,d4]|refine sB ?_|(first|apply pX|apply bX)<;>intro hc|refine⟨oD,?_⟩|exact oD|fail
     all_goals simp
    by_cases h2:o.length≤8
    case neg=>
     repeat' first|simp only[go_sem,seval,l1,d1,d2,d4]|refine sB ?_|(first|apply pX|apply bX)<;>intro hc|refine⟨oD,?_⟩|exact oD|fail
     all_goals simp
    by_cases h3:g.length≤12
    case neg=>
     repeat' first|simp only[go_sem,seval,l1,d1,d2,d4]|refine sB ?_|(first|apply pX|apply bX)<;>intro hc|refine⟨oD,?_⟩|exact oD|fail
     all_goals simp
    by_cases h4:y.length≤12
    case neg=>
     repeat' first|simp only[go_sem,seval,l1,d1,d2,d4]|refine sB ?_|(first|apply pX|apply bX)<;>intro hc|refine⟨oD,?_⟩|exact oD|fail
     all_goals simp
    repeat' first|simp only[go_sem,seval,l1,d1,d2,d4]|refine sB ?_|(first|apply pX|apply bX)<;>intro hc|refine⟨oD,?_⟩|exact oD|fail
    all_goals simp
   ·have d1:decide ((i:Int)<(n:Int))=false:=decide_eq_false (by omega)
    clear hall;rw[←hn]at hS
    by_cases h1:m.length≤8
    case neg=>
     rw[show S=false by rw[hS];exact decide_eq_false fun h=>h1 h.1]
     repeat' first|simp only[go_sem,seval,l1,d1]|refine sB ?_|(first|apply pX|apply bX)<;>intro hc|refine⟨oD,?_⟩|exact oD|fail
     all_goals simp
    by_cases h2:o.length≤8
    case neg=>
     rw[show S=false by rw[hS];exact decide_eq_false fun h=>h2 h.2.1]
     repeat' first|simp only[go_sem,seval,l1,d1]|refine sB ?_|(first|apply pX|apply bX)<;>intro hc|refine⟨oD,?_⟩|exact oD|fail
     all_goals simp
    by_cases h3:g.length≤12
    case neg=>
     rw[show S=false by rw[hS];exact decide_eq_false fun h=>h3 h.2.2.1]
     repeat' first|simp only[go_sem,seval,l1,d1]|refine sB ?_|(first|apply pX|apply bX)<;>intro hc|refine⟨oD,?_⟩|exact oD|fail
     all_goals simp
    by_cases h4:y.length≤12
    case neg=>
     rw[show S=false by rw[hS];exact decide_eq_false fun h=>h4 h.2.2.2.1]
     repeat' first|simp only[go_sem,seval,l1,d1]|refine sB ?_|(first|apply pX|apply bX)<;>intro hc|refine⟨oD,?_⟩|exact oD|fail
     all_goals simp
    by_cases h5:n≤8
    case neg=>
     rw[show S=false by rw[hS];exact decide_eq_false fun h=>h5 h.2.2.2.2.1]
     repeat' first|simp only[go_sem,seval,l1,d1]|refine sB ?_|(first|apply pX|apply bX)<;>intro hc|refine⟨oD,?_⟩|exact oD|fail
     all_goals simp
    by_cases h6:name.length≤60
    case neg=>
     rw[show S=false by rw[hS];exact decide_eq_false fun h=>h6 h.2.2.2.2.2]
     have d6:decide ((name.length:Int)≤60)=false:=decide_eq_false (by omega)
     repeat' first|simp only[go_sem,seval,l1,d1,d6]|refine sB ?_|(first|apply pX|apply bX)<;>intro hc|refine⟨oD,?_⟩|exact oD|fail
     all_goals simp
    rw[show S=true by rw[hS];exact decide_eq_true ⟨h1,h2,h3,h4,h5,h6⟩]
    have d6:decide ((name.length:Int)≤60)=true:=decide_eq_true (by omega)
    repeat' first|simp only[go_sem,seval,l1,d1,d6]|refine sB ?_|(first|apply pX|apply bX)<;>intro hc|refine⟨oD,?_⟩|exact oD|fail
    all_goals simp
theorem MH (c:CK) (hl:c.sh.length<4611686018427387904):aD Tryz.prog 3 [c.pv] (.b true):=by
 have hf:=GY c hl;have ha:=Dm
 cases hb:zu c with
 |false=>
  rw[hb]at hf;obtain⟨name,m,o,g,y,need,sh⟩:=c;simp only[CK.pv]at*;refine eW Tryz.call3 Tryz.func3 ?_;repeat' first|simp only[go_sem,seval]|refine cP hf ?_|refine cP ha ?_|refine sB ?_|(first|apply pX|apply bX)<;>intro hc|refine⟨oD,?_⟩|exact oD|fail
  all_goals rfl
 |true=>
 rw[hb]at hf;unfold zu at hb;obtain⟨h1,h2,-,-,h5,h6⟩:=of_decide_eq_true (Bool.and_eq_true_iff.1 hb).2;have c1:=rU c h6 h1 h2 h5;have c2:=KN c h6 h1 h2 h5;generalize gN c=e at*;obtain⟨name,m,o,g,y,need,sh⟩:=c;simp only[CK.pv]at*;refine eW Tryz.call3 Tryz.func3 ?_;repeat' first|simp only[go_sem,seval,beq_self_eq_true]|refine cP hf ?_|refine cP ha ?_|refine cP c1 ?_|refine cP c2 ?_|refine sB ?_|(first|apply pX|apply bX)<;>intro hc|refine⟨oD,?_⟩|exact oD|fail
 all_goals rfl
end Go.Proofs.YtmobkhegihemeaaGreatDoor
namespace Go.Proofs.YtmobkhegihemeaaGreatDoor
open Go Go.Dom Go.ChangeShapes Go.WideShapes Go.ChangeAt Go.RowKit
set_option maxRecDepth 100000
theorem V9:Tryz.prog.underlying 3=some (.int .i64):=by kernel_rfl
theorem Vl:Tryz.prog.cellsOf 3=1:=by kernel_rfl
theorem WQ:Tryz.prog.cellsOf 26=4:=by kernel_rfl
theorem VZ:SQ Tryz.prog 9 29=true:=by kernel_rfl
theorem UI {k:Nat} {ps:List PV} (h:tu Tryz.prog (k+3) 26 ps): ∃a b c d:Bytes,ps=[.s a, .s b, .s c, .s d]:=by
 rw[tu,Tryz.underlying26]at h;simp only[Gr,cN,WN]at h;obtain⟨h1,h2,h3,h4⟩:=h;obtain⟨a,b,h1⟩:=UG h1;obtain⟨c,h2⟩:=OO h2;obtain⟨d,h3⟩:=OO h3;exact⟨a,b,c,d,by rw[Xt h1,tk h2,tk h3,h4]⟩
theorem UF {ps:List PV} (h:tu Tryz.prog 9 29 ps): ∃c:CK, .agg ps=c.pv∧c.sh.length*16≤reachBytes:=by
 rw[tu,Tryz.underlying29]at h;simp only[Gr,cN,cS,WQ,WO,Vl]at h;obtain⟨h1,h2,h3,h4,h5⟩:=h;obtain⟨a,h1⟩:=UJ h1;obtain⟨m,o,g,y,h2⟩:=UI h2;simp only[tu,V9]at h3;obtain⟨n,h3,-⟩:=h3;obtain⟨sh,h4,hb⟩:=UH h4;refine⟨⟨a,m,o,g,y,n,sh⟩,?_,hb⟩;rw[tk h1,Xu h2,tk h3,tk h4,h5];rfl
theorem xP (os:Os) (started:os.Started) (H:Type) (enc:TypeId×Value→H):
  ReturnsInHanded {} Tryz.checked os 3 .any (fun w args=>(Rows.courtChecksSpec.pre enc Tryz.prog Tryz.f3 [] false w args∧laidMetH Tryz.prog sX w)∧sizedMet enc Tryz.prog Tryz.f3 (OpenSpec.ofChange Rows.courtChecksSpec) false w args)
   (Rows.courtChecksSpec.post enc Tryz.prog Tryz.f3 false true false false):=by
 refine returnsInHanded_of_change_and (C:=Tryz.checked) (X:=fun w _=>laidMetH Tryz.prog sX w) (fun _ _ _ hh h=>h.of_heap hh) V0 started (by kernel_rfl) Tryz.func3
  (ChangeSpec.witness_shaped (enc:=enc) (C:=Tryz.checked) (os:=os) (X:=fun w _=>laidMetH Tryz.prog sX w) false (World.laidAll Tryz.prog os sX) #[.agg #[.string ⟨#[]⟩, .string ⟨#[]⟩, .string ⟨#[]⟩, .string ⟨#[]⟩, .string ⟨#[]⟩, .int .i64 0, .slice none 0 0]] 8 (World.laidAll_os _ _ _)
   (World.shaped_of_ZipB (by kernel_rfl) (by kernel_rfl)) (by kernel_rfl) (by kernel_rfl) (by kernel_rfl)
   (by rw[MakeChecks.laidMetH_plain _ _ _ (by kernel_rfl)];exact laidMet_laidAll _ (by kernel_rfl) (by kernel_rfl))) ?_
 intro W base args ds gs before hval0 hW hcnd hwt hL _;rw[MakeChecks.laidMetH_plain _ _ _ (by kernel_rfl)]at hL
 have hval: ∀(j:Nat) t v,Tryz.f3.params[j]?=some t→args[j]?=some v→Value.okWide Tryz.prog W .any base t v:=hval0;have hW':=hW;obtain⟨p,q,hA0,hV,rfl,hfz,hnd⟩:=hW;have hA:DataW.TrodAll enc Tryz.prog W 0 (fun _=>true) true Tryz.f3.params.toList args.toList ds p:=hA0
 have hlt: ∀x∈p++q,x.block<W.heap.size:=fun x hx=>hW'.lt x hx
 rw[Tryz.params3]at hA hval;obtain⟨v0,d0,rfl,rfl,h0⟩:=trodAll_one hA;obtain⟨rfl,rfl⟩:=trodVars_none hV;have hall:=bc.1 hwt;have rb:=reachBytes_lt;have hv0:=hval 0 29 v0 rfl rfl;unfold Value.okWide at hv0;rw[Tryz.underlying29]at hv0;simp only at hv0;obtain⟨c0,rfl,s0,-⟩:=hv0;have w0: ∀m∈d0.weights Tryz.prog 29,m≤reachBytes:=fun m hm=>of_decide_eq_true (hall m (DataW.weights_mem_each (j:=0) rfl rfl m hm))
 obtain⟨n0,t0⟩:=id h0;obtain⟨Py,r0,o0,y0⟩:=OM 9 n0 _ c0.toList d0 p VZ t0 w0;obtain⟨ck,ea,hck⟩:=UF y0;have q0:PR (Ib W) ck.pv (.agg c0):=by
  rw[←ea];have:=PR.agg (rd:=Ib W) Py c0.toList o0 r0.1 r0.2;simpa using this
 obtain⟨g,hg,hc⟩:=MH ck (by omega)
 have hg3:g=3:=by
  have a1:=hg #[] W;have a2:=Tryz.call3 #[] W;rw[a1]at a2;injection a2 with a2 _
  injection a2
 subst hg3;refine(hc W (Ib W) [.agg c0] (HX hL) (fun _ _ _ h=>h) (.cons q0 .nil)).mono ?_
 rintro e W' ⟨v,rfl,hb,hpr⟩;cases hpr;refine⟨_,rfl,Hz (pa:=p) (pv:=[]) hW' (fun _ _ _=>trodAll_mk1 (shut_bool PJ true)) (fun sp hsp=>trodAll_mk1 (WideElems.Trod_stays TH (by kernel_rfl) (of_decide_eq_true (by kernel_rfl)) h0 (fun x hx=>hb.same (hlt x (by simp[hx]))) (fun x hx=>hsp x (by simp[hx])))) (fun _ _=>rfl) (by simp) hb (ok_one (by kernel_rfl) rfl (okWide_bool_mk PJ true))⟩
end Go.Proofs.YtmobkhegihemeaaGreatDoor
