/-
  Part of the proof, part Z48. Own work.
-/
import Derived.Test.YtmobkhegihemeaaGreatDoorRows
import Derived.Test.YtmobkhegihemeaaGreatDoorCards
import Derived.Test.YtmobkhegihemeaaGreatDoorTie
import Derived.ProofKit
import Derived.ChangeSame
import Derived.Lay
import Derived.LaidOnce
import Derived.SevenTiedAt
import Derived.Lib.LaidU8
import Derived.Test.YtmobkhegihemeaaGreatDoorZ47
set_option linter.all false
namespace Go.Proofs.YtmobkhegihemeaaGreatDoor
open Go Go.Dom Go.ChangeShapes Go.WideShapes Go.ChangeAt Go.RowKit
set_option maxRecDepth 100000
theorem Rs:ownKnob Tryz.prog.godebug=none:=by kernel_rfl
theorem Gx:laidOutB Tryz.prog=true:=by kernel_rfl
theorem Lg:Tryz.prog.underlying 4=some .bool:=by kernel_rfl
theorem uS:Tryz.prog.underlying 9=some .string:=by kernel_rfl
theorem uN:Tryz.prog.underlying 22=some .string:=by kernel_rfl
theorem cS:Tryz.prog.cellsOf 9=1:=by kernel_rfl
theorem cN:Tryz.prog.cellsOf 22=1:=by kernel_rfl
theorem Tk:Tryz.prog.cellsOf 24=2:=by kernel_rfl
theorem tk {ps:List PV} {x:PV} (h:List.take 1 ps=[x]):ps=x::List.drop 1 ps:=by cases ps<;>simp_all
theorem S6 {ps:List PV} {x y:PV} (h:List.take 2 ps=[x,y]):ps=x::y::List.drop 2 ps:=by
 rcases ps with _|⟨a,_|⟨b,r⟩⟩<;>simp_all
theorem NZ {k:Nat} {ps:List PV} (h:sG Tryz.prog (k+1) 22 ps): ∃b:Bytes,ps=[.s b]:=by
 simp only[sG,uN]at h;obtain⟨x,rfl,-⟩:=h;exact⟨x,rfl⟩
theorem OE {k:Nat} {ps:List PV} (h:sG Tryz.prog (k+1) 9 ps): ∃b:Bytes,ps=[.s b]:=by
 simp only[sG,uS]at h;obtain⟨x,rfl,-⟩:=h;exact⟨x,rfl⟩
theorem O3 {k:Nat} {ps:List PV} (h:sG Tryz.prog (k+2) 24 ps): ∃a b:Bytes,ps=[.s a, .s b]:=by
 rw[sG,Tryz.underlying24]at h;simp only[GJ,cN]at h;obtain⟨h1,h2,h3⟩:=h;obtain⟨a,h1⟩:=NZ h1;obtain⟨b,h2⟩:=NZ h2;exact⟨a,b,by rw[tk h1,tk h2,h3]⟩
section
variable {H:Type} {enc:TypeId×Value→H} {P:Program}
theorem Cr {f:Func} {s:ChangeSpec} {apart fresh handsOn again:Bool} {W W':World} {args:Array Value} {v:Value} {ds gs:List (DataW H)} {before pa pv:List MemPlace}
  (hW:DataW.Whole enc P f.params.toList s.vars apart W args.toList ds gs before)
  (hres: ∀(b:Nat) (sp:Nat→Bool) (hd:Bool),DataW.TrodAll enc P W' b sp hd f.resultTypes.toList (v.resultList f.resultTypes.size) (s.fn H (ds++gs)).results [])
  (hargs: ∀sp:Nat→Bool,(∀p∈before,sp p.block=true)→DataW.TrodAll enc P W' 0 sp true f.params.toList args.toList (s.fn H (ds++gs)).args pa)
  (hvars: ∀sp:Nat→Bool,(∀p∈before,sp p.block=true)→DataW.TrodVars enc P W' sp s.vars (s.fn H (ds++gs)).vars pv)
  (hps:before=pa++pv) (hb:Below W.heap.size W W')
  (hok: ∀(j:Nat) (t:TypeId) (r:Value),f.resultTypes[j]?=some t→(v.resultList f.resultTypes.size)[j]?=some r→Value.okWide P W' .any 0 t r):
  s.post enc P f apart fresh handsOn again W args v W':=by
 have hlt: ∀p∈before,p.block<W.heap.size:=fun p hp=>hW.lt p hp
 have hold: ∀p∈before,(fun b=>decide (b<W.heap.size)) p.block=true:=fun p hp=>by simpa using hlt p hp
 refine⟨ds,gs,before,[],pa,pv,hW,hres _ _ _,hargs _ hold,hvars _ hold,World.keptBut_mono (fun p hp=>⟨hp,?_⟩) (hb.frame (·∈before)),fun _=> ?_⟩
 ·rw[hps,List.mem_append]at hp;exact Or.inr hp
 ·obtain⟨_,_,_,_,_,hz,hn⟩:=hW;refine⟨hok,_,_,([]++pa)++pv,⟨[]++pa,pv,trodAll_append (hargs _ (fun _ _=>rfl)) (hres _ _ _),hvars _ (fun _ _=>rfl),rfl,?_,?_⟩,?_⟩
  ·intro b off hp;have hin:MemPlace.cell b off∈before:=by rw[hps];simpa using hp
   rw[hb.frozen (hlt _ hin)];exact hz b off hin
  ·intro ha;have:=hn ha;rw[hps]at this;simpa using this
  ·intro p hp _;rw[hps];simpa using hp
end
def oB:List (String×DataW Unit):=[("math/bits.deBruijn32tab",Rows.laid_math_bits_deBruijn32tab),("math/bits.deBruijn64tab",Rows.laid_math_bits_deBruijn64tab),("internal/strconv.uint64pow10",Rows.laid_internal_strconv_uint64pow10)]
theorem nk {W:World} {n:String} {g:Nat} {t e:TypeId} {k:IntKind} {m:Nat} {zs:List Int} (h:Lib.VarReads Tryz.prog W n (Lib.tabData k zs)) (hg:Tryz.prog.globalNamed n=some g) (ht:(Tryz.prog.globals[g]?).map (·.type)=some t) (hu:Tryz.prog.underlying t=some (.array m e)) (he:Tryz.prog.underlying e=some (.int k)) (hce:Tryz.prog.cellsOf e=1) (hct:Tryz.prog.cellsOf t=m) (i:Nat):
  W.cell? ⟨g,i,none⟩=(zs[i]?).map fun z=>Value.int k z:=by
 obtain⟨g',t',cs,fuel,p,h1,h2,h3,h4⟩:=h;obtain rfl:=Option.some.inj (hg.symm.trans h1);obtain rfl:=Option.some.inj (ht.symm.trans h2);have h5:=Lib.cells_of_tab hu he hce hct h4;rw[World.var?_cell h1 h3 i,←Array.getElem?_toList,h5,List.getElem?_map]
theorem Cp {W:World} (h:laidMet Tryz.prog oB W): ∀b o v,TR Tryz.prog b o=some v→W.cell? ⟨b,o,none⟩=some v:=by
 have h1:=fun i=>nk (Lib.laidMet.reads h (n:= "math/bits.deBruijn32tab") (d:=Lib.tabData .u8 iw) (by simp[oB];rfl)) (g:=5) (t:=410) (e:=5) (m:=32) (by kernel_rfl) (by kernel_rfl) (by kernel_rfl) (by kernel_rfl) (by kernel_rfl) (by kernel_rfl) i
 have h2:=fun i=>nk (Lib.laidMet.reads h (n:= "math/bits.deBruijn64tab") (d:=Lib.tabData .u8 il) (by simp[oB];rfl)) (g:=0) (t:=267) (e:=5) (m:=64) (by kernel_rfl) (by kernel_rfl) (by kernel_rfl) (by kernel_rfl) (by kernel_rfl) (by kernel_rfl) i
 have h3:=fun i=>nk (Lib.laidMet.reads h (n:= "internal/strconv.uint64pow10") (d:=Lib.tabData .u64 jL) (by simp[oB];rfl)) (g:=4) (t:=398) (e:=47) (m:=20) (by kernel_rfl) (by kernel_rfl) (by kernel_rfl) (by kernel_rfl) (by kernel_rfl) (by kernel_rfl) i
 intro b o v hv;have key: ∀(k:IntKind) (zs:List Int),((zs.map fun n=>(k,n))[o]?).map (fun p:IntKind×Int=>Value.int p.1 p.2)=(zs[o]?).map fun z=>Value.int k z:=by
  intro k zs;rw[List.getElem?_map,Option.map_map];rfl
 unfold TR at hv;simp only[aX.tab,List.lookup]at hv
 by_cases e1:b=5
 ·subst e1;rw[h1 o,←key];simpa using hv
 ·by_cases e2:b=0
  ·subst e2;rw[h2 o,←key];simpa using hv
  ·by_cases e3:b=4
   ·subst e3;rw[h3 o,←key];simpa using hv
   ·simp only[show(b==5)=false from beq_eq_false_iff_ne.2 e1,show(b==0)=false from beq_eq_false_iff_ne.2 e2,show(b==4)=false from beq_eq_false_iff_ne.2 e3]at hv
    cases hv
end Go.Proofs.YtmobkhegihemeaaGreatDoor
namespace Go.Proofs.YtmobkhegihemeaaGreatDoor
open Go Go.Dom Go.Num
set_option maxRecDepth 100000
set_option maxHeartbeats 16000000
theorem R6:aA Tryz.prog 70 [E (-1)] (.agg [.b true, .s [1]]):=by
 have hm:=pj true [1];refine eW Tryz.call70 Tryz.func70 ?_;repeat' first|simp only[go_sem,seval]|refine cP l8 ?_|refine cP hm ?_|refine sB ?_|(first|apply pX|apply bX)<;>intro hc|refine⟨oD,?_⟩|exact oD|fail
 all_goals rfl
abbrev Sx (i:Nat) (d ch:Bytes) (rs:List Int):PV:= .agg [E i, .s d, .s ch, .sl (rs.map Zp), .sl [], .sl []]
theorem MM (l:List Int):(l.map ik).map cH=l.map Zp:=by rw[List.map_map];rfl
theorem QT (a b:Int):fa false (.i .i64 a) (.i .i64 b)=some (decide (a=b)):=Qc a b
theorem Ed:gE [23] [11]=0:=by decide+kernel
theorem Fw (n:Nat) (h1:n<23) (h2:Nat.gcd n 23=1) (h3:n^11%23=1):GP [23] [11] n:=⟨h1,h2, .inr h3⟩
theorem Ho {ch1 ch3:Bytes} {rs1 rs3:List Int} (l1:rs1.length<1000) (l3:rs3.length<1000) (v1:wF [11] [2] (lz rW 1) (cC rW 1 [16] [18]) ch1 (rs1.map ik) [] []=0) (v3:wF [11] [2] (lz rW 3) (cC rW 3 [16] [1]) ch3 (rs3.map ik) [] []=0):
  aA Tryz.prog 23 [rW.pv,RD [16] [9], .sl [Sx 1 [18] ch1 rs1,Sx 3 [1] ch3 rs3]] (.tup [.s [13],E 0]):=by
 have k:=rP rm;have c0:=kB rW (by decide) (by decide) (by decide) (by decide)
 rw[rm]at c0;have c1:=Ao rW (by decide) (by decide) (by decide) (by decide) k (i:=1) (by decide) (by decide) (A:=[16]) (B:=[9]) (d:=[18]) (by decide) (by decide+kernel) (by decide+kernel) (by decide+kernel) (ch:=ch1) (rs:=rs1.map ik) (gs:=[]) (ls':=[]) (by simp;omega) (by simp) (by simp) (fun l h=>by cases h)
 have c3:=Ao rW (by decide) (by decide) (by decide) (by decide) k (i:=3) (by decide) (by decide) (A:=[16]) (B:=[9]) (d:=[1]) (by decide) (by decide+kernel) (by decide+kernel) (by decide+kernel) (ch:=ch3) (rs:=rs3.map ik) (gs:=[]) (ls':=[]) (by simp;omega) (by simp) (by simp) (fun l h=>by cases h)
 rw[show rW.o=[11]from rfl]at c1 c3
 rw[v1]at c1;rw[v3]at c3;simp only[MM,List.map_nil]at c1 c3;have a1:=Fu [23] [11] [4] [12] (pts:=[1,3]) (by simp) (by simp) (by decide)
 have a2:=Bq (m:=[23]) (o:=[11]) (by decide) (by decide) Ed (by decide) (by decide+kernel) [4] [12] (pts:=[1,3]) (kG:=[18,1]) (by simp) rfl (by decide) (by decide) (by simp) (fun x hx=>by
  simp only[List.mem_cons,List.not_mem_nil,or_false]at hx;rcases hx with rfl|rfl
  ·exact Fw 18 (by decide) (by decide) (by decide)
  ·exact Fw 1 (by decide) (by decide) (by decide)) (x:=0) (by decide)
 rw[show DL (num [23]) (num [11]) [1,3] [18,1] 0=6 from RO]at a2
 have p1:=vR (m:=[23]) (o:=[11]) (by decide) (by decide) Ed (xs:=[9,6]) (es:=[(false,[1]),(true,[1])]) (fun x hx=>by
  simp only[List.mem_cons,List.not_mem_nil,or_false]at hx;rcases hx with rfl|rfl
  ·exact Fw 9 (by decide) (by decide) (by decide)
  ·exact Fw 6 (by decide) (by decide) (by decide)) (fun e he=>by
  simp only[List.mem_cons,List.not_mem_nil,or_false]at he;rcases he with rfl|rfl<;>rfl) rfl (by simp)
 have hz:yE (num [23]) ([9,6].zip [(false,[1]),(true,[1])])=13:=by
  show yE 23 [(9,(false,[1])),(6,(true,[1]))]=13;rw[qY,BG];show br 23 9 false 1*br 23 6 true 1%23=13;have:cA 6 23=4:=ed (by decide) (by decide)
  simp only[br,this];decide
 rw[hz]at p1;have z1:([9,6]:List Nat).map cd=[.s [9], .s [6]]:=by kernel_rfl
 have z2:([18,1]:List Nat).map cd=[.s [18], .s [1]]:=by kernel_rfl
 have z3:([1,3]:List Nat).map cd=[.s [1], .s [3]]:=by kernel_rfl
 have z4:([1,3]:List Nat).map Hx=[E 1,E 3]:=rfl;have z5:([(false,[1]),(true,[1])]:List (Bool×Bytes)).map cH=[.agg [.b false, .s [1]], .agg [.b true, .s [1]]]:=rfl;have z6:N 6= .s [6]:=by kernel_rfl
 have z7:N 13= .s [13]:=by kernel_rfl
 have o1:aA Tryz.prog 70 [E 1] (.agg [.b false, .s [1]]):=N9;simp only[zY,z3,z4]at a1 a2;rw[z2,z6]at a2;rw[z1,z5,z7]at p1;have hK:rW.pv= .agg [.s [99], .s [23], .s [11], .s [4], .s [12],E 2, .sl [.s [8], .s [13], .s [1]]]:=rfl;rw[hK]at c0 c1 c3⊢;clear k v1 v3 hz;refine eW Tryz.call23 Tryz.func23 ?_;repeat' first|simp only[go_sem,seval,List.getD_cons_zero,List.getD_cons_succ,Ec,j8,nN,QT,Option.some.injEq,Bool.false_eq_true,Option.isSome_some]|refine cP c0 ?_|refine cP c1 ?_|refine cP c3 ?_|(refine jx [1081] a1 rfl (by simp[aH,ak]) (by simp[aJ,view,ak,AV.one,PV.one,chunk]) ?_)|(refine jx [1086] a2 rfl (by simp[aH,ak]) (by simp[aJ,view,ak,AV.one,PV.one,chunk]) ?_)|refine cP o1 ?_|refine cP R6 ?_|refine cP p1 ?_|(refine ae ?_)|refine sB ?_|(first|apply pX|apply bX)<;>intro hc|refine⟨oD,?_⟩|exact oD|fail
theorem iC (n:Nat) (h:n<18446744073709551616):aA Tryz.prog 15 [.i .u64 n] (N n):=by
 have h1:=iR n h;refine eW Tryz.call15 Tryz.func15 ?_;repeat' first|simp only[go_sem,seval]|refine cP h1 ?_|refine sB ?_|(first|apply pX|apply bX)<;>intro hc|refine⟨oD,?_⟩|exact oD|fail
theorem KX:aA Tryz.prog 24 [.sl [.i .u64 4, .i .u64 2]] (.sl [.s [4], .s [2]]):=by
 have a:aA Tryz.prog 15 [.i .u64 4] (.s [4]):=iC 4 (by decide)
 have b:aA Tryz.prog 15 [.i .u64 2] (.s [2]):=iC 2 (by decide)
 refine eW Tryz.call24 Tryz.func24 ?_;repeat' first|simp only[go_sem,seval,List.getD_cons_zero,List.getD_cons_succ]|refine cP a ?_|refine cP b ?_|(refine ae ?_)|refine sB ?_|(first|apply pX|apply bX)<;>intro hc|refine⟨oD,?_⟩|exact oD|fail
 all_goals rfl
theorem K7 {a b c:Nat} (ha:a<18446744073709551616) (hb:b<18446744073709551616) (hc:c<18446744073709551616):aA Tryz.prog 24 [.sl [.i .u64 a, .i .u64 b, .i .u64 c]] (.sl [N a,N b,N c]):=by
 have a:=iC a ha;have b:=iC b hb;have c:=iC c hc;refine eW Tryz.call24 Tryz.func24 ?_;repeat' first|simp only[go_sem,seval,List.getD_cons_zero,List.getD_cons_succ]|refine cP a ?_|refine cP b ?_|refine cP c ?_|(refine ae ?_)|refine sB ?_|(first|apply pX|apply bX)<;>intro hc|refine⟨oD,?_⟩|exact oD|fail
 all_goals rfl
theorem Nr (a b:Bytes):aA Tryz.prog 57 [.sl [.s a, .s b]] (.sl [.s a, .s b]):=by
 refine eW Tryz.call57 Tryz.func57 ?_;repeat' first|simp only[go_sem,seval]|refine sB ?_|(first|apply pX|apply bX)<;>intro hc|refine⟨oD,?_⟩|exact oD|fail
 all_goals rfl
theorem O2 (a b:Bytes):aA Tryz.prog 19 [.sl [.s a, .s b]] (T [a,b] [] 0):=by
 have h:=Nr a b;refine eW Tryz.call19 Tryz.func19 ?_;repeat' first|simp only[go_sem,seval]|refine cP h ?_|refine sB ?_|(first|apply pX|apply bX)<;>intro hc|refine⟨oD,?_⟩|exact oD|fail
 all_goals rfl
theorem uQ (s:Bytes):aA Tryz.prog 13 [.s s] (T [] s 0):=by
 refine eW Tryz.call13 Tryz.func13 ?_;repeat' first|simp only[go_sem,seval]|refine sB ?_|(first|apply pX|apply bX)<;>intro hc|refine⟨oD,?_⟩|exact oD|fail
 all_goals rfl
theorem KK (a b c:Bytes):aA Tryz.prog 25 [.sl [.s a, .s b, .s c], .sl [.s a, .s b, .s c]] (.b true):=by
 refine eW Tryz.call25 Tryz.func25 ?_;repeat' first|simp only[go_sem,seval,List.getD_cons_zero,List.getD_cons_succ,beq_self_eq_true,Bool.not_true]|(refine ae ?_)|refine sB ?_|(first|apply pX|apply bX)<;>intro hc|refine⟨oD,?_⟩|exact oD|fail
 all_goals rfl
theorem EF {c sl ctx:Bytes} {s:bT} {w:List Int} {vs:List Bytes} {sd:Bytes} {a:Int} {ch:Bytes} {rs:List Int} {j:Nat} (h:vJ c sl ctx s w vs sd a= .ok (ch,rs,j)):rs.length=s.vars.length:=by
 obtain⟨i',ms,z,-,-,-,rfl⟩:=vw (x7 h);exact xj ..
theorem zP:aA Tryz.prog 8 [] (.b true):=by
 obtain⟨⟨ch1,rs1,j1⟩,p1⟩:=KG Q6;obtain⟨⟨ch3,rs3,j3⟩,p3⟩:=KG RI;have k:=rP rm;have g16:GP rW.m rW.o (num [16]):=Fw 16 (by decide) (by decide) (by decide)
 have s1:=sQ rW (by decide) (by decide) (by decide) (by decide) rm (i:=1) (by decide) (by decide) (x:=[7]) (A:=[16]) (B:=[9]) (vs:=[]) (sd:=[97]) (a:=0) (by simp) (by simp) (by decide) (by decide) (by decide+kernel) (by decide+kernel) (by decide) (by decide+kernel) (d:=18) (by decide+kernel) p1
 have s3:=sQ rW (by decide) (by decide) (by decide) (by decide) rm (i:=3) (by decide) (by decide) (x:=[]) (A:=[16]) (B:=[9]) (vs:=[]) (sd:=[98]) (a:=0) (by simp) (by simp) (by decide) (by decide) (by decide+kernel) (by decide+kernel) (by decide) (by decide+kernel) (d:=1) (by decide+kernel) p3
 have v1:=FO k (by decide) g16 (by decide+kernel) (by decide+kernel) p1
 have v3:=FO k (by decide) g16 (by decide+kernel) (by decide+kernel) p3
 have l1:rs1.length<1000:=by rw[EF p1];decide
 have l3:rs3.length<1000:=by rw[EF p3];decide
 have op:=Ho l1 l3 v1 v3;have fo:=w9 (name:=[99]) (m:=[23]) (o:=[11]) (by decide) (by decide) (by decide) [4] 2 (count:=3) (by decide) (vs:=[[4],[2]]) (sd:=[]) (a:=0) (by simp) (by simp)
 rw[Pg]at fo;rw[show rZ [99] [23] [11] [4] 2 [[4],[2]] [] (.ok (12,[7,9,0],2))= .tup [.agg [.s [99], .s [23], .s [11], .s [4], .s [12],E 2, .sl [.s [8], .s [13], .s [1]]], .sl [.s [7], .s [9], .s []],T [[4],[2]] [] 2,E 0] by kernel_rfl]at fo
 have hK:rW.pv= .agg [.s [99], .s [23], .s [11], .s [4], .s [12],E 2, .sl [.s [8], .s [13], .s [1]]]:=rfl;rw[hK]at s1 s3 op;rw[show N 18= .s [18]from rfl]at s1
 rw[show N 1= .s [1]from rfl]at s3
 have n: ∀(x:Nat) (b:Bytes),x<18446744073709551616→aI x=b→aA Tryz.prog 15 [.i .u64 x] (.s b):=fun x b hx hb=>by rw[←hb];exact iC x hx
 have n23:=n 23 [23] (by decide) rfl
 have n11:=n 11 [11] (by decide) rfl
 have n4:=n 4 [4] (by decide) rfl
 have n12:=n 12 [12] (by decide) rfl
 have n16:=n 16 [16] (by decide) rfl
 have n9:=n 9 [9] (by decide) rfl
 have n7:=n 7 [7] (by decide) rfl
 have n0:=n 0 [] (by decide) rfl
 have n18:=n 18 [18] (by decide) rfl
 have n1:=n 1 [1] (by decide) rfl
 have n13:=n 13 [13] (by decide) rfl
 have m1:aA Tryz.prog 24 [.sl [.i .u64 7, .i .u64 9, .i .u64 0]] (.sl [.s [7], .s [9], .s []]):=K7 (a:=7) (b:=9) (c:=0) (by decide) (by decide) (by decide)
 have m2:aA Tryz.prog 24 [.sl [.i .u64 8, .i .u64 13, .i .u64 1]] (.sl [.s [8], .s [13], .s [1]]):=K7 (a:=8) (b:=13) (c:=1) (by decide) (by decide) (by decide)
 have vv:=O2 [4] [2];have sa:=uQ [97];have sb:=uQ [98];have q1:=KK [7] [9] [];have q2:=KK [8] [13] [1];simp only[show((1:Nat):Int)=1 from rfl,show((3:Nat):Int)=3 from rfl,show((23:Nat):Int)=23 from rfl,show((11:Nat):Int)=11 from rfl,show((4:Nat):Int)=4 from rfl,show((12:Nat):Int)=12 from rfl,show((16:Nat):Int)=16 from rfl,show((9:Nat):Int)=9 from rfl,show((7:Nat):Int)=7 from rfl,show((0:Nat):Int)=0 from rfl,show((18:Nat):Int)=18 from rfl,show((13:Nat):Int)=13 from rfl]at s1 s3 op n23 n11 n4 n12 n16 n9 n7 n0 n18 n1 n13
 clear p1 p3 k v1 v3 hK n;refine eW Tryz.call8 Tryz.func8 ?_;repeat' first|simp only[go_sem,seval,beq_self_eq_true,bne_self_eq_false,Bool.not_true]|refine cP n23 ?_|refine cP n11 ?_|refine cP n4 ?_|refine cP KX ?_|refine cP vv ?_|refine cP fo ?_|refine cP n12 ?_|refine cP m1 ?_|refine cP q1 ?_|refine cP m2 ?_|refine cP q2 ?_|refine cP n16 ?_|refine cP n9 ?_|refine cP n7 ?_|refine cP sa ?_|refine cP s1 ?_|refine cP n0 ?_|refine cP sb ?_|refine cP s3 ?_|refine cP op ?_|refine cP n18 ?_|refine cP n1 ?_|refine cP n13 ?_|refine sB ?_|(first|apply pX|apply bX)<;>intro hc|refine⟨oD,?_⟩|exact oD|fail
 all_goals rfl
end Go.Proofs.YtmobkhegihemeaaGreatDoor
namespace Go.Dom
open Go.Num

end Go.Dom
namespace Go.Proofs.YtmobkhegihemeaaGreatDoor
open Go Go.Dom Go.Num
set_option maxRecDepth 100000
set_option maxHeartbeats 16000000
def jt (name m o base:Bytes) (count:Int):Bool:=decide (name.length≤60∧m.length≤8∧o.length≤8∧base.length≤12∧(count≤8∨count>255))
abbrev QK (name m o base:Bytes) (need count:Int):PV:= .agg [.s name, .s m, .s o, .s base,E need,E count]
theorem FG (name m o base:Bytes) (need count:Int):aA Tryz.prog 11 [QK name m o base need count] (.b (jt name m o base count)):=by
 by_cases h1:name.length≤60
 case neg=>
  rw[show jt name m o base count=false from decide_eq_false fun h=>h1 h.1]
  refine eW Tryz.call11 Tryz.func11 ?_;repeat' first|simp only[go_sem,seval]|refine sB ?_|(first|apply pX|apply bX)<;>intro hc|refine⟨oD,?_⟩|exact oD|fail
 by_cases h2:m.length≤8
 case neg=>
  rw[show jt name m o base count=false from decide_eq_false fun h=>h2 h.2.1]
  refine eW Tryz.call11 Tryz.func11 ?_;repeat' first|simp only[go_sem,seval]|refine sB ?_|(first|apply pX|apply bX)<;>intro hc|refine⟨oD,?_⟩|exact oD|fail
 by_cases h3:o.length≤8
 case neg=>
  rw[show jt name m o base count=false from decide_eq_false fun h=>h3 h.2.2.1]
  refine eW Tryz.call11 Tryz.func11 ?_;repeat' first|simp only[go_sem,seval]|refine sB ?_|(first|apply pX|apply bX)<;>intro hc|refine⟨oD,?_⟩|exact oD|fail
 by_cases h4:base.length≤12
 case neg=>
  rw[show jt name m o base count=false from decide_eq_false fun h=>h4 h.2.2.2.1]
  refine eW Tryz.call11 Tryz.func11 ?_;repeat' first|simp only[go_sem,seval]|refine sB ?_|(first|apply pX|apply bX)<;>intro hc|refine⟨oD,?_⟩|exact oD|fail
 by_cases h5:count≤8
 ·rw[show jt name m o base count=true from decide_eq_true ⟨h1,h2,h3,h4, .inl h5⟩]
  refine eW Tryz.call11 Tryz.func11 ?_;repeat' first|simp only[go_sem,seval]|refine sB ?_|(first|apply pX|apply bX)<;>intro hc|refine⟨oD,?_⟩|exact oD|fail
 by_cases h6:count>255
 ·rw[show jt name m o base count=true from decide_eq_true ⟨h1,h2,h3,h4, .inr h6⟩]
  refine eW Tryz.call11 Tryz.func11 ?_;repeat' first|simp only[go_sem,seval]|refine sB ?_|(first|apply pX|apply bX)<;>intro hc|refine⟨oD,?_⟩|exact oD|fail
  all_goals rw[decide_eq_true h6]
 ·rw[show jt name m o base count=false from decide_eq_false fun h=>h.2.2.2.2.elim h5 h6]
  refine eW Tryz.call11 Tryz.func11 ?_;repeat' first|simp only[go_sem,seval]|refine sB ?_|(first|apply pX|apply bX)<;>intro hc|refine⟨oD,?_⟩|exact oD|fail
  all_goals rw[decide_eq_false h6]
structure Ss (m o base:Bytes):Prop where
 lm:m.length≤8
 lo:o.length≤8
 vo:aa o=true
 q4:4≤num o
 q60:num o≤60
 pe:Sg m o=0
 pg:gU m o base=true
 b1:base≠[1]
theorem Ss.all {m o base:Bytes} (r:Ss m o base):gE m o=0∧o≠[]∧GP m o (num base)∧cX (num o)=true∧aa m=true∧aa base=true:=by
 obtain⟨lm,lo,vo,q4,q60,pe,pg,b1⟩:=r;unfold Sg at pe;have ho:o≠[]:=fun e=>by subst e;simp[num]at q4
 split at pe
 ·cases pe
 ·rename_i h1
  split at pe
  ·cases pe
  ·split at pe
   ·cases pe
   ·rename_i h3
    split at pe
    ·cases pe
    ·split at pe
     ·cases pe
     ·rename_i h5
      split at pe
      ·rename_i h6;have hv:aa m=true∧aa o=true:=by simpa using h1
       have h3:cX (num m)=true:=by simpa using h3
       have h5:cX (num o)=true:=by simpa using h5
       have hm:=(jD h3).1;have hob:(o==([]:Bytes))=false:=by simpa using ho
       have hE:gE m o=0:=by
        unfold gE;rw[hv.1,hv.2,hob];simp only[Bool.and_self,Bool.not_true,Bool.false_eq_true,if_false];rw[if_neg (by omega)]
       have hh:fq m o base=true:=by unfold fq;rw[hob];exact pg
       obtain⟨vb,gp⟩:=(bG hE).1 hh;exact⟨hE,ho,gp,h5,hv.1,vb⟩
      ·cases pe
def ay (l:List Bool):List AV:=l.map fun x=> .v (.b x)
theorem fD (l:List Bool):(ay l).length=l.length:=by simp[ay]
end Go.Proofs.YtmobkhegihemeaaGreatDoor
namespace Go.Proofs.YtmobkhegihemeaaGreatDoor
open Go Go.Dom Go.ChangeShapes Go.WideShapes Go.ChangeAt Go.RowKit
set_option maxRecDepth 100000
theorem Tg:Tryz.prog.underlying 3=some (.int .i64):=by kernel_rfl
theorem SJ:Tryz.prog.underlying 5=some (.int .u8):=by kernel_rfl
theorem SL:Tryz.prog.cellsOf 3=1:=by kernel_rfl
theorem QW:Oy Tryz.prog 9 36=true:=by kernel_rfl
theorem Ph {ps:List PV} (h:sG Tryz.prog 9 36 ps): ∃(name m o base:Bytes) (need count:Int), .agg ps=QK name m o base need count:=by
 rw[sG,Tryz.underlying36]at h;simp only[GJ,cN,cS,Tk,SL]at h;obtain⟨h1,h2,h3,h4,h5,h6⟩:=h;obtain⟨a,h1⟩:=OE h1;obtain⟨m,o,h2⟩:=O3 h2;obtain⟨b,h3⟩:=NZ h3;simp only[sG,Tg]at h4 h5;obtain⟨n,h4,-⟩:=h4;obtain⟨c,h5,-⟩:=h5;refine⟨a,m,o,b,n,c,?_⟩;rw[tk h1,S6 h2,tk h3,tk h4,tk h5,h6]
theorem sH {H:Type} {enc:TypeId×Value→H} {P:Program} {w:World} {sp:Nat→Bool} {t:TypeId} {q:IntKind} {n:Int} {d:DataW H} {ps:List MemPlace} (hu:P.underlying t=some (.int q)) (h:DataW.Trod enc P w 0 sp true t (.int q n) d ps):(Lit.int q n).wf=true:=by
 obtain⟨f,h⟩:=h
 cases f with
 |zero=>simp[DataW.trod]at h
 |succ f=>
  obtain⟨m,e,hm⟩:=trod_int h hu;have e:[Value.int q n]=[Value.int q m]:=e;injection e with e _
  injection e with _ e
  rw[e];exact hm
theorem wf_u8 {z:Int} (h:(Lit.int .u8 z).wf=true): ∃x:Nat,z=x∧x<256:=by
 have h1:(decide ((0:Int)≤z)&&decide (z≤255))=true:=h;simp only[Bool.and_eq_true,decide_eq_true_eq]at h1;exact⟨z.toNat,by omega,by omega⟩
end Go.Proofs.YtmobkhegihemeaaGreatDoor
namespace Go.Proofs.YtmobkhegihemeaaGreatDoor
open Go Go.Dom Go.Num
set_option maxRecDepth 100000
def FC (name m o base:Bytes) (need:Int) (y:Nat) (S:List Nat):CK:=⟨name,m,o,base,aI y,need,S.map aI⟩
theorem KR (name m o base:Bytes) (need:Int) (y:Nat) (S:List Nat):(FC name m o base need y S).pv= .agg [.s name, .s m, .s o, .s base,N y,E need, .sl (S.map cd)]:=by
 unfold FC CK.pv;simp only[List.map_map];rfl
theorem y6 (C:CK) (h1:([C.m,C.o,C.g,C.y].all aa)=true) (h2:C.sh.all aa=true) (h3:jN C.name=true) (h4:jS C.m C.o C.g C.y=0) (h5:cX (num C.o)=true) (h6:(C.sh.length:Int)<num C.o) (h7:1≤C.need) (h8:C.need≤C.sh.length) (h9:C.sh.all (jz C.m C.o)=true):fE C=if oP C then 0 else 22:=by
 unfold fE;rw[h1,h2,h3,h4,h5,h9,if_neg (by simp),if_neg (by simp),if_neg (by simp),if_neg (by simp),if_neg (by omega),if_neg (by simp)]
structure J5 (name m o base:Bytes) (need count:Int) (y:Nat) (ls:List Nat):Prop where
 nm:jN name=true
 vb:aa base=true
 vm:aa m=true
 vo:aa o=true
 key:jS m o base (aI y)=0
 fc: ∃c,Fc (FC name m o base need y (ew (num m) (num base) ls)) c
 cn:(ls.length:Int)=count
 lq: ∀s∈ls,s<num o
theorem jT (m b:Nat) (ls:List Nat):(ew m b ls).length=ls.length:=List.length_map ..
theorem Fk {m b:Nat} {ls:List Nat} {j:Nat} (h:j<ls.length):(ew m b ls).getD j 0=b^ls.getD j 0%m:=by
 rw[ew,List.getD_eq_getElem?_getD,List.getElem?_map,List.getD_eq_getElem?_getD,List.getElem?_eq_getElem h];rfl
theorem He {q sec:Nat} {l:List Bytes} {k j:Nat} (h:j<k):(mU q sec l k).getD j 0=(oT q (nI (sec::l.map num)) ((j+1:Nat):Int)).toNat:=by
 rw[mU,List.getD_eq_getElem?_getD,List.getElem?_map,List.getElem?_range h];rfl
theorem we (S:List Nat) {j:Nat} (h:j<S.length):num ((S.map aI).getD j [])=S.getD j 0:=by
 rw[List.getD_eq_getElem?_getD,List.getElem?_map,List.getD_eq_getElem?_getD,List.getElem?_eq_getElem h];exact aE _
theorem Ln {name m o base:Bytes} {need count:Int} {vs:List Bytes} {sd:Bytes} {a:Int} {y:Nat} {ls:List Nat} {j:Nat} (lm:m.length≤8) (lo:o.length≤8) (hl:vs.length<1000000) (h8:count≤8) (h:zS name m o base need count vs sd a= .ok (y,ls,j)):J5 name m o base need count y ls:=by
 unfold zS at h
 split at h
 ·cases h
 split at h
 ·cases h
 rename_i hnm;have hnm:jN name=true:=by simpa using hnm
 split at h
 ·cases h
 rename_i y' x i hs
 split at h
 ·cases h
 rename_i ls' j' hp;simp only[Except.ok.injEq,Prod.mk.injEq]at h;obtain⟨rfl,rfl,rfl⟩:=h;obtain⟨vb,hE,o0,gp,g1,hv,x0,xq,ye,y1,ib⟩:=AP lo hl hs;obtain⟨n1,n2,n3,n4,n5,l,hm,hls,mr⟩:=xC hp;obtain⟨vm,vo,m1,-,-⟩:=fY hE;have hW:=cv lo;have hM:=cv lm;obtain⟨hml,-,-⟩:=pF hv (vN hW) hl ib (fun x hx=>by cases hx) hm
 have hml:l.length=(need-1).toNat:=by simpa using hml
 have gy:GP m o y':=by rw[ye];exact gp.pow x
 have hy:=gy.lt;have hPl:=jT (num m) (num base) ls';refine⟨hnm,vb,vm,vo,?_,⟨nI (x::l.map num),hE,o0,mr,gp,n1,?_,?_,?_,?_,fun k hk=> ?_⟩,by omega,fun s hs=> ?_⟩
 ·have hyn:aI y'≠[1]:=fun e=>y1 (by have:=congrArg num e;rw[aE]at this;exact this)
  have i1:yQ m o base=true:=by unfold yQ;rw[zo hE vb gp];simpa using g1
  have i2:yQ m o (aI y')=true:=by unfold yQ;rw[zo hE (vN (by omega)) (by rw[aE];exact gy)];simpa using hyn
  unfold jS;rw[i1,i2,hE];simp[vm,vo,vb,vN (show y'<18446744073709551616 by omega),o0]
 ·show need≤(((ew (num m) (num base) ls').map aI).length:Int);rw[List.length_map,hPl];omega
 ·show((ew (num m) (num base) ls').map aI).length<num o;rw[List.length_map,hPl];omega
 ·show((ew (num m) (num base) ls').map aI).length≤8;rw[List.length_map,hPl];omega
 ·rw[gX,List.length_cons,List.length_map,hml];show(need-1).toNat+1≤need.toNat;omega
 ·have hk:k≤ls'.length:=by
   have:((ew (num m) (num base) ls').map aI).length=ls'.length:=by rw[List.length_map,hPl]
   rw[←this];exact hk
  show num ((aI y'::(ew (num m) (num base) ls').map aI).getD k [])=cb (num m) (num base) (dP (nI (x::l.map num)) (k:Int));have hord:num base^num o%num m=1%num m:=gp.ord.resolve_left o0
  cases k with
  |zero=>
   rw[List.getD_cons_zero,aE,ye];have:dP (nI (x::l.map num)) ((0:Nat):Int)=(x:Nat):=by
    show((x:Nat):Int)+((0:Nat):Int)* _= _;simp
   rw[this,fp]
  |succ k=>
   rw[List.getD_cons_succ,we _ (by rw[hPl];omega),Fk (by omega),hls,He (by omega)]
   have hb:=nY (q:=(num o:Int)) (by omega) ((k+1:Nat):Int) (nI (x::l.map num))
   have hc:=Aa (num o:Int) ((k+1:Nat):Int) (nI (x::l.map num));rw[←fp,Int.toNat_of_nonneg hb.1];exact mC gp.unit (by omega) hord hc.dvd
 ·rw[hls]at hs;exact AD (by omega) _ _ s hs
theorem J5.valid {name m o base:Bytes} {need count:Int} {y:Nat} {ls:List Nat} (lm:m.length≤8) (h:J5 name m o base need count y ls) (hy:y<18446744073709551616) {sh:List Bytes} (hl:sh.length=ls.length) (hs: ∀x∈sh,aa x=true∧GP m o (num x)):fE ⟨name,m,o,base,aI y,need,sh⟩=if oP ⟨name,m,o,base,aI y,need,sh⟩then 0 else 22:=by
 obtain⟨nm,vb,vm,vo,key,⟨c,fc⟩,cn,lq⟩:=h;have hP:(FC name m o base need y (ew (num m) (num base) ls)).sh.length=ls.length:=by
  show((ew (num m) (num base) ls).map aI).length= _;rw[List.length_map,jT]
 have n1:1≤need:=fc.n1;have n2:need≤ _:=fc.n2;have nq: _<num o:=fc.nq;rw[hP]at n2 nq;refine y6 _ ?_ (List.all_eq_true.2 fun x hx=>(hs x hx).1) nm key fc.p ?_ n1 ?_ (List.all_eq_true.2 fun x hx=>zo fc.e (hs x hx).1 (hs x hx).2)
 ·simp[vm,vo,vb,vN hy]
 ·show(sh.length:Int)<num o;rw[hl];omega
 ·show need≤(sh.length:Int);rw[hl];exact n2
theorem vK {m o base:Bytes} (gp:GP m o (num base)) (hM:num m<18446744073709551616) (ls:List Nat): ∀x∈(ew (num m) (num base) ls).map aI,aa x=true∧GP m o (num x):=fun x hx=>by
 obtain⟨v,hv,rfl⟩:=List.mem_map.1 hx;obtain⟨s,-,rfl⟩:=List.mem_map.1 hv;have g:=gp.pow s;have:=g.lt;exact⟨vN (by omega),by rw[aE];exact g⟩
theorem J5.Mr {name m o base:Bytes} {need count:Int} {y:Nat} {ls:List Nat} (lm:m.length≤8) (h:J5 name m o base need count y ls):y<18446744073709551616:=by
 obtain⟨-,-,-,-,-,-,hy,-⟩:=o7 h.key;have:=hy;have hM:=cv lm;have:=(o7 h.key).2.2.2.2.2.2.1.lt;rw[aE]at this;omega
theorem J5.ok {name m o base:Bytes} {need count:Int} {y:Nat} {ls:List Nat} (lm:m.length≤8) (h:J5 name m o base need count y ls):fE (FC name m o base need y (ew (num m) (num base) ls))=0:=by
 obtain⟨c,fc⟩:=h.fc;have:=h.valid lm (h.Mr lm) (sh:=(ew (num m) (num base) ls).map aI) (by rw[List.length_map,jT]) (vK fc.gg (cv lm) ls)
 unfold FC;rw[this];have:=fc.SA;unfold FC at this;rw[this];rfl
theorem J5.bad {name m o base:Bytes} {need count:Int} {y:Nat} {ls:List Nat} (lm:m.length≤8) (h:J5 name m o base need count y ls) {t p:Nat} (ht:t<ls.length) (hne:(ew (num m) (num base) ls).getD t 0*(num base^p%num m)%num m≠(ew (num m) (num base) ls).getD t 0):fE ⟨name,m,o,base,aI y,need,((ew (num m) (num base) ls).map aI).set t (aI ((ew (num m) (num base) ls).getD t 0*(num base^p%num m)%num m))⟩=22:=by
 obtain⟨c,fc⟩:=h.fc;have hg:GP m o (num base):=fc.gg;have hM:=cv lm;have hP:=jT (num m) (num base) ls;have gs:=vK hg hM ls;have ge:num (((ew (num m) (num base) ls).map aI).getD t [])=(ew (num m) (num base) ls).getD t 0:=we _ (by omega)
 have gt:GP m o ((ew (num m) (num base) ls).getD t 0):=by
  rw[←ge];exact(gs _ (ax [] (by rw[List.length_map];omega))).2
 have gv:=gt.mul (hg.pow p);have hv:=gv.lt;have h1:=h.valid lm (h.Mr lm) (sh:=((ew (num m) (num base) ls).map aI).set t (aI ((ew (num m) (num base) ls).getD t 0*(num base^p%num m)%num m))) (by rw[List.length_set,List.length_map,hP]) (fun x hx=>by
  rcases List.mem_or_eq_of_mem_set hx with hx|rfl
  ·exact gs x hx
  ·exact⟨vN (by omega),by rw[aE];exact gv⟩)
 have h2:=fc.change (t:=t) (u:=num base^p%num m) (v:=aI ((ew (num m) (num base) ls).getD t 0*(num base^p%num m)%num m)) (by show t<((ew (num m) (num base) ls).map aI).length;rw[List.length_map,hP];exact ht) (hg.pow p) (by rw[aE];show _=num (((ew (num m) (num base) ls).map aI).getD t [])* _%num m;rw[ge]) (by rw[aE];show _≠num (((ew (num m) (num base) ls).map aI).getD t []);rw[ge];exact hne)
 unfold FC CK.put at h2;rw[h1,h2];rfl
end Go.Proofs.YtmobkhegihemeaaGreatDoor
namespace Go.Proofs.YtmobkhegihemeaaGreatDoor
open Go Go.Dom Go.Num
set_option maxRecDepth 100000
set_option maxHeartbeats 16000000
theorem Mw {m:Bytes} (lm:m.length≤8) {o:Bytes} (lo:o.length≤8) (hE:gE m o=0) {a b p:Nat} (ha:GP m o a) (hb:GP m o b) (hp:p<18446744073709551616):aA Tryz.prog 14 [G m o, .sl [N a,N b], .sl [.agg [.b false,N 1], .agg [.b false,N p]]] (.tup [N (a*(b^p%num m)%num m),E 0]):=by
 have h:=sA lm lo hE [(a,false,aI 1),(b,false,aI p)] (by simp) (fun q hq=>by
  rcases List.mem_cons.1 hq with rfl|hq
  ·exact⟨ha,vN (show 1<18446744073709551616 by decide),rfl⟩
  ·rw[List.mem_singleton.1 hq];exact⟨hb,vN hp,rfl⟩)
 have e:qP (num m) 1 [(a,false,aI 1),(b,false,aI p)]=a*(b^p%num m)%num m:=by
  have h1:br (num m) a false (num (aI 1))=a:=by
   rw[aE];show a^1%num m=a;rw[Nat.pow_one,Nat.mod_eq_of_lt ha.lt]
  have h2:br (num m) b false (num (aI p))=b^p%num m:=by rw[aE];rfl
  simp only[qP,h1,h2,Nat.one_mul,Nat.mod_eq_of_lt ha.lt]
 rw[e]at h;exact h
theorem Md (name m o base:Bytes) (need count:Int) {idx pw:Nat} (hidx:idx<256) (hpw:pw<65536):aA Tryz.prog 4 [QK name m o base need count, .i .u8 idx, .i .u16 pw] (.b true):=by
 have hf:=FG name m o base need count;have ha:=zP;have hW:=iA
 cases hfb:jt name m o base count with
 |false=>
  rw[hfb]at hf;refine eW Tryz.call4 Tryz.func4 ?_;repeat' first|simp only[go_sem,seval]|refine cP hf ?_|refine cP ha ?_|refine sB ?_|(first|apply pX|apply bX)<;>intro hc|refine⟨oD,?_⟩|exact oD|fail
  all_goals rfl
 |true=>
 rw[hfb]at hf;obtain⟨ln,lm,lo,-,lc⟩:=of_decide_eq_true hfb
 by_cases h6:count>6
 ·refine eW Tryz.call4 Tryz.func4 ?_;repeat' first|simp only[go_sem,seval]|refine cP hf ?_|refine cP ha ?_|refine sB ?_|(first|apply pX|apply bX)<;>intro hc|refine⟨oD,?_⟩|exact oD|fail
  all_goals rfl
 have hsd:=uQ ([98,105,110,100]++name);have fo:=w9 (name:=name) (m:=m) (o:=o) ln lm lo base need (count:=count) (by omega) (vs:=[]) (sd:=[98,105,110,100]++name) (a:=0) (by simp) (by simp;omega)
 cases hr:zS name m o base need count [] ([98,105,110,100]++name) 0 with
 |error e=>
  have he:e≠0:=by
   unfold zS at hr
   split at hr
   ·injection hr with hr;omega
   split at hr
   ·injection hr with hr;omega
   split at hr
   ·rename_i e' hs;injection hr with hr;rw[←hr];exact xp hs
   split at hr
   ·rename_i e' hs;injection hr with hr;rw[←hr];exact wH hs
   ·cases hr
  rw[hr]at fo;simp only[rZ]at fo;clear hr;refine eW Tryz.call4 Tryz.func4 ?_;repeat' first|simp only[go_sem,seval]|refine cP hf ?_|refine cP ha ?_|refine cP hsd ?_|refine cP fo ?_|refine sB ?_|(first|apply pX|apply bX)<;>intro hc|refine⟨oD,?_⟩|exact oD|fail
  all_goals rfl
 |ok R=>
 obtain⟨y,ls,j⟩:=R;have F:=Ln lm lo (by simp) (by omega) hr
 rw[hr]at fo;simp only[rZ]at fo;have hyW:=F.Mr lm;have hOK:=F.ok lm;have hBAD:=F.bad lm (t:=idx%ls.length) (p:=pw);obtain⟨c,fc⟩:=F.fc;have gb:GP m o (num base):=fc.gg;have hE:gE m o=0:=fc.e;have hP:=jT (num m) (num base) ls;have gs:=vK gb (cv lm) ls;have n1:1≤need:=fc.n1;have n2:need≤(((ew (num m) (num base) ls).map aI).length:Int):=fc.n2;rw[List.length_map,hP]at n2;have hcn:=F.cn;obtain⟨S,hS⟩: ∃S,S=ew (num m) (num base) ls:=⟨_,rfl⟩;rw[←hS]at fo hP gs hOK hBAD;obtain⟨n,hn⟩: ∃n,n=ls.length:=⟨_,rfl⟩;rw[←hn]at hP hBAD n2;obtain⟨t,ht⟩: ∃t,t=idx%n:=⟨_,rfl⟩;have htn:t<n:=by rw[ht];exact Nat.mod_lt _ (by omega)
 rw[←ht]at hBAD;have htm:((idx:Nat):Int).tmod (n:Int)=(t:Int):=by rw[Int.tmod_eq_emod_of_nonneg (by omega),ht];rfl
 have e1:=oe S (i:=t) (by omega)
 have gt:GP m o (S.getD t 0):=by
  have:=gs _ (List.mem_map.2 ⟨S.getD t 0,ax 0 (by omega),rfl⟩)
  rw[aE]at this;exact this.2
 have pr:=Mw lm lo hE gt gb (p:=pw) (by omega)
 rw[dt F.vb]at pr;obtain⟨v,hv⟩: ∃v,v=S.getD t 0*(num base^pw%num m)%num m:=⟨_,rfl⟩;rw[←hv]at pr hBAD;have c1:=kB (FC name m o base need y S) ln lm lo (by show(S.map aI).length≤8;rw[List.length_map];omega)
 rw[hOK,KR]at c1;have c2:=kB (FC name m o base need y (S.set t v)) ln lm lo (by show((S.set t v).map aI).length≤8;rw[List.length_map,List.length_set];omega)
 have hB:v≠S.getD t 0→fE (FC name m o base need y (S.set t v))=22:=fun h=>by
  unfold FC;rw[List.map_set];exact hBAD htn h
 rw[KR]at c2;have m1:aA Tryz.prog 15 [.i .u64 1] (N 1):=iC 1 (by decide)
 have m2:=iC pw (by omega)
 have lS:(S.map cd).length=n:=by rw[List.length_map,hP]
 have q0:(n=0)=False:=eq_false (by omega)
 have q1:(∀(x:PV),x∈List.map cd S→x.cells.length=1)=True:=eq_true fun x hx=>by
  obtain⟨z,-,rfl⟩:=List.mem_map.1 hx;rfl
 have q2:(∀(y:AV),y∈aB S→y.one=true)=True:=eq_true fun x hx=>by
  obtain⟨z,-,rfl⟩:=List.mem_map.1 hx;rfl
 have g0:(aB S).length=n:=by rw[aT,hP]
 have g2:List.take t (aB S)++[AV.v (.s (aI v))]++List.drop (t+1) (aB S)=aB (S.set t v):=dk (by omega)
 have l2:(S.set t v).length=n:=by rw[List.length_set,hP]
 have x1:=bY l2;have x2:=dD (S.set t v);have x3:=cK l2;have x4:(aB (S.set t v)).length=n:=by rw[aT,l2]
 have hbe:=oM v (S.getD t 0);clear hr hBAD gs;generalize S.getD t 0=s0 at*;generalize S.set t v=S2 at*;clear hv
 by_cases hvs:v=s0
 ·rw[decide_eq_true hvs]at hbe;clear c1 c2 hB;refine eW Tryz.call4 Tryz.func4 ?_;repeat' first|simp only[go_sem,seval,lS,htm,e1,q0,uh,q1,q2,hbe]|refine cP hf ?_|refine cP ha ?_|refine cP hsd ?_|refine cP fo ?_|refine cP m1 ?_|refine cP m2 ?_|refine cP pr ?_|refine sB ?_|(first|apply pX|apply bX)<;>intro hc|refine⟨oD,?_⟩|exact oD|fail
  all_goals rfl
 ·rw[decide_eq_false hvs]at hbe;rw[hB hvs]at c2;clear hB;refine eW Tryz.call4 Tryz.func4 ?_;repeat' first|simp only[go_sem,seval,lS,htm,e1,q0,uh,q1,q2,hbe,g0,g2]|refine cP hf ?_|refine cP ha ?_|refine cP hsd ?_|refine cP fo ?_|refine cP m1 ?_|refine cP m2 ?_|refine cP pr ?_|refine cP c1 ?_|(refine jx [1055] c2 rfl (by simp[aH,ak,x1,x2,x3,x4,gN]) (by simp[aJ,view,ak,x1,x2,x3,x4,cu,AV.one,PV.one]) ?_)|refine sB ?_|(first|apply pX|apply bX)<;>intro hc|refine⟨oD,?_⟩|exact oD|fail
  all_goals rfl
end Go.Proofs.YtmobkhegihemeaaGreatDoor
namespace Go.Proofs.YtmobkhegihemeaaGreatDoor
open Go Go.Dom Go.ChangeShapes Go.WideShapes Go.ChangeAt Go.RowKit
set_option maxRecDepth 100000
theorem PS:Tryz.prog.underlying 37=some (.int .u16):=by kernel_rfl
theorem wf_u16 {z:Int} (h:(Lit.int .u16 z).wf=true): ∃x:Nat,z=x∧x<65536:=by
 have h1:(decide ((0:Int)≤z)&&decide (z≤65535))=true:=h;simp only[Bool.and_eq_true,decide_eq_true_eq]at h1;exact⟨z.toNat,by omega,by omega⟩
theorem vE (os:Os) (started:os.Started) (H:Type) (enc:TypeId×Value→H):
  ReturnsInHanded {} Tryz.checked os 4 .any (fun w args=>(Rows.courtBindsSpec.pre enc Tryz.prog Tryz.f4 [] false w args∧laidMetH Tryz.prog oB w)∧sizedMet enc Tryz.prog Tryz.f4 (OpenSpec.ofChange Rows.courtBindsSpec) false w args)
   (Rows.courtBindsSpec.post enc Tryz.prog Tryz.f4 false true false false):=by
 refine returnsInHanded_of_change_and (C:=Tryz.checked) (X:=fun w _=>laidMetH Tryz.prog oB w) (fun _ _ _ hh h=>h.of_heap hh) Rs started (by kernel_rfl) Tryz.func4
  (ChangeSpec.witness_shaped (enc:=enc) (C:=Tryz.checked) (os:=os) (X:=fun w _=>laidMetH Tryz.prog oB w) false (World.laidAll Tryz.prog os oB) #[.agg #[.string ⟨#[]⟩, .string ⟨#[]⟩, .string ⟨#[]⟩, .string ⟨#[]⟩, .int .i64 0, .int .i64 0], .int .u8 0, .int .u16 0] 8 (World.laidAll_os _ _ _)
   (World.shaped_of_ZipB (by kernel_rfl) (by kernel_rfl)) (by kernel_rfl) (by kernel_rfl) (by kernel_rfl)
   (by rw[MakeChecks.laidMetH_plain _ _ _ (by kernel_rfl)];exact laidMet_laidAll _ (by kernel_rfl) (by kernel_rfl))) ?_
 intro W base args ds gs before hval0 hW hcnd hwt hL _;rw[MakeChecks.laidMetH_plain _ _ _ (by kernel_rfl)]at hL
 have hval: ∀(j:Nat) t v,Tryz.f4.params[j]?=some t→args[j]?=some v→Value.okWide Tryz.prog W .any base t v:=hval0;have hW':=hW;obtain⟨p,q,hA0,hV,rfl,hfz,hnd⟩:=hW;have hA:DataW.TrodAll enc Tryz.prog W 0 (fun _=>true) true Tryz.f4.params.toList args.toList ds p:=hA0
 have hlt: ∀x∈p++q,x.block<W.heap.size:=fun x hx=>hW'.lt x hx
 rw[Tryz.params4]at hA hval;obtain⟨v0,v1,v2,d0,d1,d2,p0,p1,p2,rfl,rfl,rfl,h0,h1,h2⟩:=trodAll_three hA;obtain⟨rfl,rfl⟩:=trodVars_none hV;have hall:=List.all_eq_true.1 hwt;have rb:=reachBytes_lt;have hv0:=hval 0 36 v0 rfl rfl;unfold Value.okWide at hv0;rw[Tryz.underlying36]at hv0;simp only at hv0;obtain⟨c0,rfl,s0,-⟩:=hv0;have w0: ∀m∈d0.weights Tryz.prog 36,m≤reachBytes:=fun m hm=>of_decide_eq_true (hall m (DataW.weights_mem_each (j:=0) rfl rfl m hm))
 obtain⟨n0,t0⟩:=id h0;obtain⟨KI,r0,o0,y0⟩:=Ip 9 n0 _ c0.toList d0 p0 QW t0 w0;obtain⟨name,m,o,ba,need,count,ea⟩:=Ph y0;have q0:PR (DK W) (QK name m o ba need count) (.agg c0):=by
  rw[←ea];have:=PR.agg (rd:=DK W) KI c0.toList o0 r0.1 r0.2;simpa using this
 have hv1:=hval 1 5 v1 rfl rfl;obtain⟨z1,rfl⟩:=okWide_int SJ hv1;have k1:=sH SJ h1;obtain⟨x1,rfl,hx1⟩:=wf_u8 k1;have hv2:=hval 2 37 v2 rfl rfl;obtain⟨z2,rfl⟩:=okWide_int PS hv2;have k2:=sH PS h2;obtain⟨x2,rfl,hx2⟩:=wf_u16 k2;obtain⟨g,hg,hc⟩:=Md name m o ba need count hx1 hx2;have hg3:g=4:=by
  have a1:=hg #[] W;have a2:=Tryz.call4 #[] W;rw[a1]at a2;injection a2 with a2 _
  injection a2
 subst hg3;refine(hc W (DK W) [.agg c0, .int .u8 x1, .int .u16 x2] (Cp hL) (fun _ _ _ h=>h) (.cons q0 (.cons (.i .u8 x1) (.cons (.i .u16 x2) .nil)))).mono ?_
 rintro e W' ⟨v,rfl,hb,hpr⟩;cases hpr;refine⟨_,rfl,Cr (pa:=p0++(p1++p2)) (pv:=[]) hW' (fun _ _ _=>trodAll_mk1 (shut_bool Lg true)) (fun sp hsp=>trodAll_mk3 (WideElems.Trod_stays Gx (by kernel_rfl) (of_decide_eq_true (by kernel_rfl)) h0 (fun x hx=>hb.same (hlt x (by simp[hx]))) (fun x hx=>hsp x (by simp[hx]))) (WideElems.Trod_stays Gx (by kernel_rfl) (of_decide_eq_true (by kernel_rfl)) h1 (fun x hx=>hb.same (hlt x (by simp[hx]))) (fun x hx=>hsp x (by simp[hx]))) (WideElems.Trod_stays Gx (by kernel_rfl) (of_decide_eq_true (by kernel_rfl)) h2 (fun x hx=>hb.same (hlt x (by simp[hx]))) (fun x hx=>hsp x (by simp[hx])))) (fun _ _=>rfl) (by simp) hb (ok_one (by kernel_rfl) rfl (okWide_bool_mk Lg true))⟩
end Go.Proofs.YtmobkhegihemeaaGreatDoor
