/-
  Part of the proof, part FA46. Own work.
-/
import Derived.Test.YtfdjchnefpefbaaGreatDoorRows
import Derived.Test.YtfdjchnefpefbaaGreatDoorCards
import Derived.Test.YtfdjchnefpefbaaGreatDoorTie
import Derived.ProofKit
import Derived.ChangeSame
import Derived.Lay
import Derived.LaidOnce
import Derived.SevenTiedAt
import Derived.Lib.LaidU8
import Derived.Test.YtfdjchnefpefbaaGreatDoorFA45
set_option linter.all false
namespace Go.Proofs.YtfdjchnefpefbaaGreatDoor
open Go Go.Dom Go.ChangeShapes Go.WideShapes Go.ChangeAt Go.RowKit
set_option maxRecDepth 100000
theorem YZ:ownKnob Tryz.prog.godebug=none:=by kernel_rfl
theorem Rs:laidOutB Tryz.prog=true:=by kernel_rfl
theorem RQ:Tryz.prog.underlying 4=some .bool:=by kernel_rfl
theorem uS:Tryz.prog.underlying 9=some .string:=by kernel_rfl
theorem uN:Tryz.prog.underlying 22=some .string:=by kernel_rfl
theorem uLN:Tryz.prog.underlying 27=some (.slice 22):=by kernel_rfl
theorem cS:Tryz.prog.cellsOf 9=1:=by kernel_rfl
theorem cN:Tryz.prog.cellsOf 22=1:=by kernel_rfl
theorem ZZ:Tryz.prog.cellsOf 27=1:=by kernel_rfl
theorem ZY:Tryz.prog.cellsOf 24=2:=by kernel_rfl
theorem isN:mY Tryz.prog 22=false:=by kernel_rfl
theorem bN:Tryz.prog.bytesOf 22=16:=by kernel_rfl
theorem tk {ps:List PV} {x:PV} (h:List.take 1 ps=[x]):ps=x::List.drop 1 ps:=by cases ps<;>simp_all
theorem tk2 {ps:List PV} {x y:PV} (h:List.take 2 ps=[x,y]):ps=x::y::List.drop 2 ps:=by
 rcases ps with _|⟨a,_|⟨b,r⟩⟩<;>simp_all
theorem Tw {α:Type} {f:α->PV}: ∀{l:List PV},(∀x∈l,∃a,x=f a)-> ∃al:List α,l=al.map f:=by
 intro l
 induction l with
 |nil=>intro _;exact⟨[],rfl⟩
 |cons x l ih=>
  intro h;obtain⟨a,rfl⟩:=h x (by simp)
  obtain⟨al,rfl⟩:=ih fun y hy=>h y (by simp[hy])
  exact⟨a::al,rfl⟩
theorem IX {x y:PV} (h:x.cells=[y]) (h1:x.one=true):x=y:=by
 cases x<;>first|(simpa[PV.cells]using h)|(simp[PV.one]at h1)
theorem UT {k:Nat} {ps:List PV} (h:uu Tryz.prog (k+1) 22 ps): ∃b:Bytes,ps=[.s b]:=by
 simp only[uu,uN]at h;obtain⟨x,rfl,-⟩:=h;exact⟨x,rfl⟩
theorem RO {k:Nat} {ps:List PV} (h:uu Tryz.prog (k+1) 9 ps): ∃b:Bytes,ps=[.s b]:=by
 simp only[uu,uS]at h;obtain⟨x,rfl,-⟩:=h;exact⟨x,rfl⟩
theorem Xa {k:Nat} {ps:List PV} (h:uu Tryz.prog (k+2) 27 ps): ∃bs:List Bytes,ps=[.sl (bs.map PV.s)]/\bs.length*16<=reachBytes:=by
 simp only[uu,uLN,uN,isN,bN]at h;obtain⟨l,rfl,hb,hl⟩:=h;obtain⟨bs,rfl⟩:=Tw (f:=PV.s) (l:=l) fun x hx=>by
  obtain⟨⟨s,h1,-⟩,h2⟩:=hl x hx;exact⟨s,IX h1 (by simpa using h2)⟩
 exact⟨bs,rfl,by simpa using hb⟩
theorem W9 {k:Nat} {ps:List PV} (h:uu Tryz.prog (k+2) 24 ps): ∃a b:Bytes,ps=[.s a, .s b]:=by
 rw[uu,Tryz.underlying24]at h;simp only[HY,cN]at h;obtain⟨h1,h2,h3⟩:=h;obtain⟨a,h1⟩:=UT h1;obtain⟨b,h2⟩:=UT h2;exact⟨a,b,by rw[tk h1,tk h2,h3]⟩
section
variable {H:Type} {enc:TypeId×Value->H} {P:Program}
theorem I7 {f:Func} {s:ChangeSpec} {apart fresh handsOn again:Bool} {W W':World} {args:Array Value} {v:Value} {ds gs:List (DataW H)} {before pa pv:List MemPlace}
  (hW:DataW.Whole enc P f.params.toList s.vars apart W args.toList ds gs before)
  (hres: ∀(b:Nat) (sp:Nat->Bool) (hd:Bool),DataW.TrodAll enc P W' b sp hd f.resultTypes.toList (v.resultList f.resultTypes.size) (s.fn H (ds++gs)).results [])
  (hargs: ∀sp:Nat->Bool,(∀p∈before,sp p.block=true)->DataW.TrodAll enc P W' 0 sp true f.params.toList args.toList (s.fn H (ds++gs)).args pa)
  (hvars: ∀sp:Nat->Bool,(∀p∈before,sp p.block=true)->DataW.TrodVars enc P W' sp s.vars (s.fn H (ds++gs)).vars pv)
  (hps:before=pa++pv) (hb:Below W.heap.size W W')
  (hok: ∀(j:Nat) (t:TypeId) (r:Value),f.resultTypes[j]?=some t->(v.resultList f.resultTypes.size)[j]?=some r->Value.okWide P W' .any 0 t r):
  s.post enc P f apart fresh handsOn again W args v W':=by
 have hlt: ∀p∈before,p.block<W.heap.size:=fun p hp=>hW.lt p hp
 have hold: ∀p∈before,(fun b=>decide (b<W.heap.size)) p.block=true:=fun p hp=>by simpa using hlt p hp
 refine⟨ds,gs,before,[],pa,pv,hW,hres _ _ _,hargs _ hold,hvars _ hold,World.keptBut_mono (fun p hp=>⟨hp,?_⟩) (hb.frame (·∈before)),fun _=> ?_⟩
 ·rw[hps,fJ]at hp;exact Or.inr hp
 ·obtain⟨_,_,_,_,_,hz,hn⟩:=hW;refine⟨hok,_,_,([]++pa)++pv,⟨[]++pa,pv,trodAll_append (hargs _ (fun _ _=>rfl)) (hres _ _ _),hvars _ (fun _ _=>rfl),rfl,?_,?_⟩,?_⟩
  ·intro b off hp;have hin:MemPlace.cell b off∈before:=by rw[hps];simpa using hp
   rw[hb.frozen (hlt _ hin)];exact hz b off hin
  ·intro ha;have:=hn ha;rw[hps]at this;simpa using this
  ·intro p hp _;rw[hps];simpa using hp
end
def uC:List (String×DataW Unit):=[("math/bits.deBruijn32tab",Rows.laid_math_bits_deBruijn32tab),("math/bits.deBruijn64tab",Rows.laid_math_bits_deBruijn64tab),("internal/strconv.uint64pow10",Rows.laid_internal_strconv_uint64pow10)]
theorem uk {W:World} {n:String} {g:Nat} {t e:TypeId} {k:IntKind} {m:Nat} {zs:List Int} (h:Lib.VarReads Tryz.prog W n (Lib.tabData k zs)) (hg:Tryz.prog.globalNamed n=some g) (ht:(Tryz.prog.globals[g]?).map (·.type)=some t) (hu:Tryz.prog.underlying t=some (.array m e)) (he:Tryz.prog.underlying e=some (.int k)) (hce:Tryz.prog.cellsOf e=1) (hct:Tryz.prog.cellsOf t=m) (i:Nat):
  W.cell? ⟨g,i,none⟩=(zs[i]?).map fun z=>Value.int k z:=by
 obtain⟨g',t',cs,fuel,p,h1,h2,h3,h4⟩:=h;obtain rfl:=vY (hg.symm.trans h1);obtain rfl:=vY (ht.symm.trans h2);have h5:=Lib.cells_of_tab hu he hce hct h4;rw[World.var?_cell h1 h3 i,<-Array.getElem?_toList,h5,dt]
theorem Jv {W:World} (h:laidMet Tryz.prog uC W): ∀b o v,TR Tryz.prog b o=some v->W.cell? ⟨b,o,none⟩=some v:=by
 have h1:=fun i=>uk (Lib.laidMet.reads h (n:= "math/bits.deBruijn32tab") (d:=Lib.tabData .u8 mw) (by simp[uC];rfl)) (g:=5) (t:=491) (e:=5) (m:=32) (by kernel_rfl) (by kernel_rfl) (by kernel_rfl) (by kernel_rfl) (by kernel_rfl) (by kernel_rfl) i
 have h2:=fun i=>uk (Lib.laidMet.reads h (n:= "math/bits.deBruijn64tab") (d:=Lib.tabData .u8 my) (by simp[uC];rfl)) (g:=0) (t:=409) (e:=5) (m:=64) (by kernel_rfl) (by kernel_rfl) (by kernel_rfl) (by kernel_rfl) (by kernel_rfl) (by kernel_rfl) i
 have h3:=fun i=>uk (Lib.laidMet.reads h (n:= "internal/strconv.uint64pow10") (d:=Lib.tabData .u64 oi) (by simp[uC];rfl)) (g:=4) (t:=468) (e:=76) (m:=20) (by kernel_rfl) (by kernel_rfl) (by kernel_rfl) (by kernel_rfl) (by kernel_rfl) (by kernel_rfl) i
 intro b o v hv;have key: ∀(k:IntKind) (zs:List Int),((zs.map fun n=>(k,n))[o]?).map (fun p:IntKind×Int=>Value.int p.1 p.2)=(zs[o]?).map fun z=>Value.int k z:=by
  intro k zs;rw[dt,Option.map_map];rfl
 unfold TR at hv;simp only[bY.tab,List.lookup]at hv
 by_cases e1:b=5
 ·subst e1;rw[h1 o,<-key];simpa using hv
 ·by_cases e2:b=0
  ·subst e2;rw[h2 o,<-key];simpa using hv
  ·by_cases e3:b=4
   ·subst e3;rw[h3 o,<-key];simpa using hv
   ·simp only[show(b==5)=false from beq_eq_false_iff_ne.2 e1,show(b==0)=false from beq_eq_false_iff_ne.2 e2,show(b==4)=false from beq_eq_false_iff_ne.2 e3]at hv
    cases hv
end Go.Proofs.YtfdjchnefpefbaaGreatDoor
namespace Go.Proofs.YtfdjchnefpefbaaGreatDoor
open Go Go.Dom Go.Num
set_option maxRecDepth 100000
set_option maxHeartbeats 16000000
theorem X1:aA Tryz.prog 62 [E (-1)] (.agg [.b true, .s [1]]):=by
 have hm:=vk true [1];refine eW Tryz.call62 Tryz.func62 ?_;exact z2 @qT @hm
abbrev Zo (i:Nat) (d ch:Bytes) (rs:List Int):PV:= .agg [E i, .s d, .s ch, .sl (rs.map Zp), .sl [], .sl []]
theorem TC (l:List Int):(l.map lO).map eC=l.map Zp:=by rw[iQ];rfl
theorem YV (a b:Int):iW false (.i .i64 a) (.i .i64 b)=some (decide (a=b)):=V4 a b
theorem LH:gE [23] [11]=0:=by decide+kernel
theorem Lq (n:Nat) (h1:n<23) (h2:Nat.gcd n 23=1) (h3:n^11%23=1):GP [23] [11] n:=⟨h1,h2, .inr h3⟩
theorem KO {ch1 ch3:Bytes} {rs1 rs3:List Int} (l1:rs1.length<1000) (l3:rs3.length<1000) (v1:BT [11] [2] (pR yR 1) (ek yR 1 [16] [18]) ch1 (rs1.map lO) [] []=0) (v3:BT [11] [2] (pR yR 3) (ek yR 3 [16] [1]) ch3 (rs3.map lO) [] []=0):
  aA Tryz.prog 22 [yR.pv,XQ [16] [9], .sl [Zo 1 [18] ch1 rs1,Zo 3 [1] ch3 rs3]] (.tup [.s [13],E 0]):=by
 have k:=xd xF;have c0:=zG yR oC oC oC oC;rw[xF]at c0;have c1:=Gq yR oC oC oC oC k (i:=1) oC oC (A:=[16]) (B:=[9]) (d:=[18]) oC (by decide+kernel) (by decide+kernel) (by decide+kernel) (ch:=ch1) (rs:=rs1.map lO) (gs:=[]) (ls':=[]) (by simp;omega) (by simp) (by simp) (fun l h=>by cases h)
 have c3:=Gq yR oC oC oC oC k (i:=3) oC oC (A:=[16]) (B:=[9]) (d:=[1]) oC (by decide+kernel) (by decide+kernel) (by decide+kernel) (ch:=ch3) (rs:=rs3.map lO) (gs:=[]) (ls':=[]) (by simp;omega) (by simp) (by simp) (fun l h=>by cases h)
 rw[show yR.o=[11]from rfl]at c1 c3
 rw[v1]at c1;rw[v3]at c3;simp only[TC,bH]at c1 c3;have a1:=KB [23] [11] [4] [12] (pts:=[1,3]) (by simp) (by simp) oC
 have a2:=Gp (m:=[23]) (o:=[11]) oC oC LH oC (by decide+kernel) [4] [12] (pts:=[1,3]) (pS:=[18,1]) (by simp) rfl oC oC (by simp) (fun x hx=>by
  simp only[bL,iy,or_false]at hx;rcases hx with rfl|rfl
  ·exact Lq 18 oC oC oC
  ·exact Lq 1 oC oC oC) (x:=0) oC
 rw[show JN (num [23]) (num [11]) [1,3] [18,1] 0=6 from Ya]at a2
 have p1:=Ba (m:=[23]) (o:=[11]) oC oC LH (xs:=[9,6]) (es:=[(false,[1]),(true,[1])]) (fun x hx=>by
  simp only[bL,iy,or_false]at hx;rcases hx with rfl|rfl
  ·exact Lq 9 oC oC oC
  ·exact Lq 6 oC oC oC) (fun e he=>by
  simp only[bL,iy,or_false]at he;rcases he with rfl|rfl<;>rfl) rfl (by simp)
 have hz:Ey (num [23]) ([9,6].zip [(false,[1]),(true,[1])])=13:=by
  show Ey 23 [(9,(false,[1])),(6,(true,[1]))]=13;rw[yf,Hh];show cR 23 9 false 1*cR 23 6 true 1%23=13;have:ew 6 23=4:=gS oC oC;simp only[cR,this];decide
 rw[hz]at p1;have z1:([9,6]:List Nat).map cY=[.s [9], .s [6]]:=by kernel_rfl
 have z2:([18,1]:List Nat).map cY=[.s [18], .s [1]]:=by kernel_rfl
 have z3:([1,3]:List Nat).map cY=[.s [1], .s [3]]:=by kernel_rfl
 have z4:([1,3]:List Nat).map NS=[E 1,E 3]:=rfl;have z5:([(false,[1]),(true,[1])]:List (Bool×Bytes)).map eC=[.agg [.b false, .s [1]], .agg [.b true, .s [1]]]:=rfl;have z6:N 6= .s [6]:=by kernel_rfl
 have z7:N 13= .s [13]:=by kernel_rfl
 have o1:aA Tryz.prog 62 [E 1] (.agg [.b false, .s [1]]):=Sl;simp only[EP,z3,z4]at a1 a2;rw[z2,z6]at a2;rw[z1,z5,z7]at p1;have hK:yR.pv= .agg [.s [99], .s [23], .s [11], .s [4], .s [12],E 2, .sl [.s [8], .s [13], .s [1]]]:=rfl;rw[hK]at c0 c1 c3⊢;clear k v1 v3 hz;refine eW Tryz.call22 Tryz.func22 ?_;repeat' first|simp only[go_sem,seval,fw,cA,LW,oL,tM,YV,ae,aX,Option.isSome_some]|refine cP c0 ?_|refine cP c1 ?_|refine cP c3 ?_|(refine ny [1081] a1 rfl (by simp[aL,aj]) (by simp[aQ,view,aj,AV.one,PV.one,chunk]) ?_)|(refine ny [1086] a2 rfl (by simp[aL,aj]) (by simp[aQ,view,aj,AV.one,PV.one,chunk]) ?_)|refine cP o1 ?_|refine cP X1 ?_|refine cP p1 ?_|(refine ah ?_)|refine sB ?_|apply xX<;>intro hc|refine⟨oD,?_⟩|exact oD|fail
theorem po (n:Nat) (h:n<18446744073709551616):aA Tryz.prog 24 [.i .u64 n] (N n):=by
 have h1:=jE n h;refine eW Tryz.call24 Tryz.func24 ?_;exact z1 @h1
theorem Ru:aA Tryz.prog 26 [.sl [.i .u64 4, .i .u64 2]] (.sl [.s [4], .s [2]]):=by
 have a:aA Tryz.prog 24 [.i .u64 4] (.s [4]):=po 4 oC;have b:aA Tryz.prog 24 [.i .u64 2] (.s [2]):=po 2 oC;refine eW Tryz.call26 Tryz.func26 ?_;exact U3 @a @b
theorem Rv {a b c:Nat} (ha:a<18446744073709551616) (hb:b<18446744073709551616) (hc:c<18446744073709551616):aA Tryz.prog 26 [.sl [.i .u64 a, .i .u64 b, .i .u64 c]] (.sl [N a,N b,N c]):=by
 have a:=po a ha;have b:=po b hb;have c:=po c hc;refine eW Tryz.call26 Tryz.func26 ?_;exact ZR @a @b @c
theorem S9 (a b:Bytes):aA Tryz.prog 67 [.sl [.s a, .s b]] (.sl [.s a, .s b]):=by
 refine eW Tryz.call67 Tryz.func67 ?_;exact z0
theorem Xf (a b:Bytes):aA Tryz.prog 25 [.sl [.s a, .s b]] (T [a,b] [] 0):=by
 have h:=S9 a b;refine eW Tryz.call25 Tryz.func25 ?_;exact z1 @h
theorem HD (s:Bytes):aA Tryz.prog 27 [.s s] (T [] s 0):=by
 refine eW Tryz.call27 Tryz.func27 ?_;exact z0
theorem RF (a b c:Bytes):aA Tryz.prog 12 [.sl [.s a, .s b, .s c], .sl [.s a, .s b, .s c]] (.b true):=by
 refine eW Tryz.call12 Tryz.func12 ?_;repeat' first|simp only[go_sem,seval,fw,cA,beq_self_eq_true,bR]|(refine ah ?_)|refine sB ?_|apply xX<;>intro hc|refine⟨oD,?_⟩|exact oD|fail
 all_goals rfl
theorem MV {c sl ctx:Bytes} {s:dJ} {w:List Int} {vs:List Bytes} {sd:Bytes} {a:Int} {ch:Bytes} {rs:List Int} {j:Nat} (h:Bw c sl ctx s w vs sd a= .ok (ch,rs,j)):rs.length=s.vars.length:=by
 obtain⟨i',ms,z,-,-,-,rfl⟩:=BQ (DI h);exact DW ..
theorem EJ:aA Tryz.prog 8 [] (.b true):=by
 obtain⟨⟨ch1,rs1,j1⟩,p1⟩:=Rw Y2;obtain⟨⟨ch3,rs3,j3⟩,p3⟩:=Rw Y3;have k:=xd xF;have g16:GP yR.m yR.o (num [16]):=Lq 16 oC oC oC;have s1:=zI yR oC oC oC oC xF (i:=1) oC oC (x:=[7]) (A:=[16]) (B:=[9]) (vs:=[]) (sd:=[97]) (a:=0) (by simp) (by simp) oC oC (by decide+kernel) (by decide+kernel) oC (by decide+kernel) (d:=18) (by decide+kernel) p1 (fun e h=>by cases h)
 have s3:=zI yR oC oC oC oC xF (i:=3) oC oC (x:=[]) (A:=[16]) (B:=[9]) (vs:=[]) (sd:=[98]) (a:=0) (by simp) (by simp) oC oC (by decide+kernel) (by decide+kernel) oC (by decide+kernel) (d:=1) (by decide+kernel) p3 (fun e h=>by cases h)
 have v1:=KN k oC g16 (by decide+kernel) (by decide+kernel) p1
 have v3:=KN k oC g16 (by decide+kernel) (by decide+kernel) p3
 have l1:rs1.length<1000:=by rw[MV p1];decide
 have l3:rs3.length<1000:=by rw[MV p3];decide
 have op:=KO l1 l3 v1 v3;have fo:=De (name:=[99]) (m:=[23]) (o:=[11]) oC oC oC [4] 2 (count:=3) oC (vs:=[[4],[2]]) (sd:=[]) (a:=0) (by simp) (by simp)
 rw[VV]at fo;rw[show nF [99] [23] [11] [4] 2 [[4],[2]] [] (.ok (12,[7,9,0],2))= .tup [.agg [.s [99], .s [23], .s [11], .s [4], .s [12],E 2, .sl [.s [8], .s [13], .s [1]]], .sl [.s [7], .s [9], .s []],T [[4],[2]] [] 2,E 0] by kernel_rfl]at fo
 simp only[UM]at s1 s3;have hK:yR.pv= .agg [.s [99], .s [23], .s [11], .s [4], .s [12],E 2, .sl [.s [8], .s [13], .s [1]]]:=rfl;rw[hK]at s1 s3 op;rw[show N 18= .s [18]from rfl]at s1
 rw[show N 1= .s [1]from rfl]at s3
 have n: ∀(x:Nat) (b:Bytes),x<18446744073709551616->aO x=b->aA Tryz.prog 24 [.i .u64 x] (.s b):=fun x b hx hb=>by rw[<-hb];exact po x hx
 have n23:=n 23 [23] oC rfl;have n11:=n 11 [11] oC rfl;have n4:=n 4 [4] oC rfl;have n12:=n 12 [12] oC rfl;have n16:=n 16 [16] oC rfl;have n9:=n 9 [9] oC rfl;have n7:=n 7 [7] oC rfl;have n0:=n 0 [] oC rfl;have n18:=n 18 [18] oC rfl;have n1:=n 1 [1] oC rfl;have n13:=n 13 [13] oC rfl;have m1:aA Tryz.prog 26 [.sl [.i .u64 7, .i .u64 9, .i .u64 0]] (.sl [.s [7], .s [9], .s []]):=Rv (a:=7) (b:=9) (c:=0) oC oC oC;have m2:aA Tryz.prog 26 [.sl [.i .u64 8, .i .u64 13, .i .u64 1]] (.sl [.s [8], .s [13], .s [1]]):=Rv (a:=8) (b:=13) (c:=1) oC oC oC;have vv:=Xf [4] [2];have sa:=HD [97];have sb:=HD [98];have q1:=RF [7] [9] [];have q2:=RF [8] [13] [1];simp only[show((1:Nat):Int)=1 from rfl,show((3:Nat):Int)=3 from rfl,show((23:Nat):Int)=23 from rfl,show((11:Nat):Int)=11 from rfl,show((4:Nat):Int)=4 from rfl,show((12:Nat):Int)=12 from rfl,show((16:Nat):Int)=16 from rfl,show((9:Nat):Int)=9 from rfl,show((7:Nat):Int)=7 from rfl,show((0:Nat):Int)=0 from rfl,show((18:Nat):Int)=18 from rfl,show((13:Nat):Int)=13 from rfl]at s1 s3 op n23 n11 n4 n12 n16 n9 n7 n0 n18 n1 n13
 clear p1 p3 k v1 v3 hK n;refine eW Tryz.call8 Tryz.func8 ?_;repeat' first|simp only[go_sem,seval,beq_self_eq_true,bne_self_eq_false,bR]|refine cP n23 ?_|refine cP n11 ?_|refine cP n4 ?_|refine cP Ru ?_|refine cP vv ?_|refine cP fo ?_|refine cP n12 ?_|refine cP m1 ?_|refine cP q1 ?_|refine cP m2 ?_|refine cP q2 ?_|refine cP n16 ?_|refine cP n9 ?_|refine cP n7 ?_|refine cP sa ?_|refine cP s1 ?_|refine cP n0 ?_|refine cP sb ?_|refine cP s3 ?_|refine cP op ?_|refine cP n18 ?_|refine cP n1 ?_|refine cP n13 ?_|refine sB ?_|apply xX<;>intro hc|refine⟨oD,?_⟩|exact oD|fail
 all_goals rfl
end Go.Proofs.YtfdjchnefpefbaaGreatDoor
namespace Go.Dom
open Go.Num

end Go.Dom
namespace Go.Proofs.YtfdjchnefpefbaaGreatDoor
open Go Go.Dom Go.Num
set_option maxRecDepth 100000
set_option maxHeartbeats 16000000
def nD (name m o base:Bytes) (count:Int):Bool:=decide (name.length<=60/\m.length<=8/\o.length<=8/\base.length<=12/\(count<=8\/count>255))
abbrev Xu (name m o base:Bytes) (need count:Int):PV:= .agg [.s name, .s m, .s o, .s base,E need,E count]
theorem Lb (name m o base:Bytes) (need count:Int):aA Tryz.prog 6 [Xu name m o base need count] (.b (nD name m o base count)):=by
 by_cases h1:name.length<=60
 case neg=>
  rw[show nD name m o base count=false from decide_eq_false fun h=>h1 h.1]
  refine eW Tryz.call6 Tryz.func6 ?_;exact z0
 by_cases h2:m.length<=8
 case neg=>
  rw[show nD name m o base count=false from decide_eq_false fun h=>h2 h.2.1]
  refine eW Tryz.call6 Tryz.func6 ?_;exact z0
 by_cases h3:o.length<=8
 case neg=>
  rw[show nD name m o base count=false from decide_eq_false fun h=>h3 h.2.2.1]
  refine eW Tryz.call6 Tryz.func6 ?_;exact z0
 by_cases h4:base.length<=12
 case neg=>
  rw[show nD name m o base count=false from decide_eq_false fun h=>h4 h.2.2.2.1]
  refine eW Tryz.call6 Tryz.func6 ?_;exact z0
 by_cases h5:count<=8
 ·rw[show nD name m o base count=true from decide_eq_true ⟨h1,h2,h3,h4, .inl h5⟩]
  refine eW Tryz.call6 Tryz.func6 ?_;exact z0
 by_cases h6:count>255
 ·rw[show nD name m o base count=true from decide_eq_true ⟨h1,h2,h3,h4, .inr h6⟩]
  refine eW Tryz.call6 Tryz.func6 ?_;repeat' first|simp only[go_sem,seval]|refine sB ?_|apply xX<;>intro hc|refine⟨oD,?_⟩|exact oD|fail
  all_goals rw[decide_eq_true h6]
 ·rw[show nD name m o base count=false from decide_eq_false fun h=>h.2.2.2.2.elim h5 h6]
  refine eW Tryz.call6 Tryz.func6 ?_;repeat' first|simp only[go_sem,seval]|refine sB ?_|apply xX<;>intro hc|refine⟨oD,?_⟩|exact oD|fail
  all_goals rw[decide_eq_false h6]
structure Zn (m o base:Bytes):Prop where
 lm:m.length<=8
 lo:o.length<=8
 vo:aa o=true
 q4:4<=num o
 q60:num o<=60
 pe:Zx m o=0
 pg:lu m o base=true
 b1:base≠[1]
theorem Zn.all {m o base:Bytes} (r:Zn m o base):gE m o=0/\o≠[]/\GP m o (num base)/\du (num o)=true/\aa m=true/\aa base=true:=by
 obtain⟨lm,lo,vo,q4,q60,pe,pg,b1⟩:=r;unfold Zx at pe;have ho:o≠[]:=fun e=>by subst e;simp[num]at q4
 split at pe
 ·cases pe
 ·rename_i h1
  split at pe
  ·cases pe
  ·split at pe
   ·cases pe
   ·rename_i h3
    split at pe
    ·cases pe
    ·split at pe
     ·cases pe
     ·rename_i h5
      split at pe
      ·rename_i h6;have hv:aa m=true/\aa o=true:=by simpa using h1
       have h3:du (num m)=true:=by simpa using h3
       have h5:du (num o)=true:=by simpa using h5
       have hm:=(nJ h3).1;have hob:(o==([]:Bytes))=false:=by simpa using ho
       have hE:gE m o=0:=by
        unfold gE;rw[hv.1,hv.2,hob];simp only[db,bR,aX,if_false];rw[if_neg oO]
       have hh:jc m o base=true:=by unfold jc;rw[hob];exact pg
       obtain⟨vb,gp⟩:=(cL hE).1 hh;exact⟨hE,ho,gp,h5,hv.1,vb⟩
      ·cases pe
def ay (l:List Bool):List AV:=l.map fun x=> .v (.b x)
theorem iC (l:List Bool):(ay l).length=l.length:=by simp[ay]
end Go.Proofs.YtfdjchnefpefbaaGreatDoor
namespace Go.Proofs.YtfdjchnefpefbaaGreatDoor
open Go Go.Dom Go.ChangeShapes Go.WideShapes Go.ChangeAt Go.RowKit
set_option maxRecDepth 100000
theorem ZK:Tryz.prog.underlying 3=some (.int .i64):=by kernel_rfl
theorem Zq:Tryz.prog.cellsOf 3=1:=by kernel_rfl
theorem YX:TP Tryz.prog 9 26=true:=by kernel_rfl
theorem W8 {ps:List PV} (h:uu Tryz.prog 9 26 ps): ∃(name m o base:Bytes) (need count:Int), .agg ps=Xu name m o base need count:=by
 rw[uu,Tryz.underlying26]at h;simp only[HY,cN,cS,ZY,Zq]at h;obtain⟨h1,h2,h3,h4,h5,h6⟩:=h;obtain⟨a,h1⟩:=RO h1;obtain⟨m,o,h2⟩:=W9 h2;obtain⟨b,h3⟩:=UT h3;simp only[uu,ZK]at h4 h5;obtain⟨n,h4,-⟩:=h4;obtain⟨c,h5,-⟩:=h5;refine⟨a,m,o,b,n,c,?_⟩;rw[tk h1,tk2 h2,tk h3,tk h4,tk h5,h6]
theorem YY:TP Tryz.prog 9 29=true:=by kernel_rfl
theorem Xb {ps:List PV} (h:uu Tryz.prog 9 29 ps): ∃(vs:List Bytes) (sd:Bytes) (a:Int), .agg ps=T vs sd a/\vs.length*16<=reachBytes:=by
 rw[uu,Tryz.underlying29]at h;simp only[HY,ZZ,cS,Zq]at h;obtain⟨h1,h2,h3,h4⟩:=h;obtain⟨vs,h1,hb⟩:=Xa h1;obtain⟨sd,h2⟩:=RO h2;simp only[uu,ZK]at h3;obtain⟨n,h3,-⟩:=h3;exact⟨vs,sd,n,by rw[tk h1,tk h2,tk h3,h4],hb⟩
end Go.Proofs.YtfdjchnefpefbaaGreatDoor
namespace Go.Proofs.YtfdjchnefpefbaaGreatDoor
open Go Go.Dom Go.Num
set_option maxRecDepth 100000
def FC (name m o base:Bytes) (need:Int) (y:Nat) (S:List Nat):CK:=⟨name,m,o,base,aO y,need,S.map aO⟩
theorem Q0 (name m o base:Bytes) (need:Int) (y:Nat) (S:List Nat):(FC name m o base need y S).pv= .agg [.s name, .s m, .s o, .s base,N y,E need, .sl (S.map cY)]:=by
 unfold FC CK.pv;simp only[iQ];rfl
theorem ER (C:CK) (h1:([C.m,C.o,C.g,C.y].all aa)=true) (h2:C.sh.all aa=true) (h3:ku C.name=true) (h4:qf C.m C.o C.g C.y=0) (h5:du (num C.o)=true) (h6:(C.sh.length:Int)<num C.o) (h7:1<=C.need) (h8:C.need<=C.sh.length) (h9:C.sh.all (lj C.m C.o)=true):k9 C=if uL C then 0 else 22:=by
 unfold k9;rw[h1,h2,h3,h4,h5,h9,if_neg (by simp),if_neg (by simp),if_neg (by simp),if_neg (by simp),if_neg oO,if_neg (by simp)]
structure U6 (name m o base:Bytes) (need count:Int) (y:Nat) (ls:List Nat):Prop where
 nm:ku name=true
 vb:aa base=true
 vm:aa m=true
 vo:aa o=true
 key:qf m o base (aO y)=0
 fc: ∃c,Fc (FC name m o base need y (oP (num m) (num base) ls)) c
 cn:(ls.length:Int)=count
 lq: ∀s∈ls,s<num o
theorem yc (m b:Nat) (ls:List Nat):(oP m b ls).length=ls.length:=aE ..
theorem U6.valid {name m o base:Bytes} {need count:Int} {y:Nat} {ls:List Nat} (lm:m.length<=8) (h:U6 name m o base need count y ls) (hy:y<18446744073709551616) {sh:List Bytes} (hl:sh.length=ls.length) (hs: ∀x∈sh,aa x=true/\GP m o (num x)):k9 ⟨name,m,o,base,aO y,need,sh⟩=if uL ⟨name,m,o,base,aO y,need,sh⟩then 0 else 22:=by
 obtain⟨nm,vb,vm,vo,key,⟨c,fc⟩,cn,lq⟩:=h;have hP:(FC name m o base need y (oP (num m) (num base) ls)).sh.length=ls.length:=by
  show((oP (num m) (num base) ls).map aO).length= _;rw[aE,yc]
 have n1:1<=need:=fc.n1;have n2:need<= _:=fc.n2;have nq: _<num o:=fc.nq;rw[hP]at n2 nq;refine ER _ ?_ (bz.2 fun x hx=>(hs x hx).1) nm key fc.p ?_ n1 ?_ (bz.2 fun x hx=>Tj fc.e (hs x hx).1 (hs x hx).2)
 ·simp[vm,vo,vb,vN hy]
 ·show(sh.length:Int)<num o;rw[hl];omega
 ·show need<=(sh.length:Int);rw[hl];exact n2
theorem P1 {m o base:Bytes} (gp:GP m o (num base)) (hM:num m<18446744073709551616) (ls:List Nat): ∀x∈(oP (num m) (num base) ls).map aO,aa x=true/\GP m o (num x):=fun x hx=>by
 obtain⟨v,hv,rfl⟩:=bw.1 hx;obtain⟨s,-,rfl⟩:=bw.1 hv;have g:=gp.pow s;have:=g.lt;exact⟨vN oO,by rw[aG];exact g⟩
theorem U6.Zc {name m o base:Bytes} {need count:Int} {y:Nat} {ls:List Nat} (lm:m.length<=8) (h:U6 name m o base need count y ls):y<18446744073709551616:=by
 obtain⟨-,-,-,-,-,-,hy,-⟩:=vG h.key;have:=hy;have hM:=dY lm;have:=(vG h.key).2.2.2.2.2.2.1.lt;rw[aG]at this;omega
theorem U6.ok {name m o base:Bytes} {need count:Int} {y:Nat} {ls:List Nat} (lm:m.length<=8) (h:U6 name m o base need count y ls):k9 (FC name m o base need y (oP (num m) (num base) ls))=0:=by
 obtain⟨c,fc⟩:=h.fc;have:=h.valid lm (h.Zc lm) (sh:=(oP (num m) (num base) ls).map aO) (by rw[aE,yc]) (P1 fc.gg (dY lm) ls)
 unfold FC;rw[this];have:=fc.Zs;unfold FC at this;rw[this];rfl

end Go.Proofs.YtfdjchnefpefbaaGreatDoor
namespace Go.Proofs.YtfdjchnefpefbaaGreatDoor
open Go Go.Dom Go.Num
set_option maxRecDepth 100000
set_option maxHeartbeats 16000000


theorem Jb {m:Bytes} (lm:m.length<=8) {o:Bytes} (lo:o.length<=8) (hE:gE m o=0) {a:Nat} (ha:GP m o a) {e:Bytes} (he:aa e=true):aA Tryz.prog 92 [G m o,N a, .agg [.b false, .s e]] (.tup [N (cR (num m) a false (num e)),E 0]):=by
 have hM:=dY lm;have la:=ha.lt;have va:=aM (aO a);rw[vN (show a<18446744073709551616 by omega)]at va
 have vi:=qD false e;rw[he]at vi;have hc:=oS lm lo;rw[hE]at hc;have i1:=Ae lm o hE (vN (show a<18446744073709551616 by omega))
 rw[ha.has hE lm]at i1;have rw':=Jd lm (o:=o) (x:=a) (ng:=false) (e:=e) hE ha he rfl;refine eW Tryz.call92 Tryz.func92 ?_;exact z5 @va @vi @hc @i1 @rw'
theorem DM (c:CK) (lm:c.m.length<=8) (lo:c.o.length<=8) (hE:gE c.m c.o=0) {a:Nat} (ha:GP c.m c.o a) {e:Bytes} (he:aa e=true):aA Tryz.prog 41 [c.pv,N a, .s e] (N (cR (num c.m) a false (num e))):=by
 obtain⟨name,m,o,g,y,need,sh⟩:=c;simp only[CK.pv]at*;have hf:aA Tryz.prog 56 [.s e] (.agg [.b false, .s e]):=by
  have hm:=DO false e;have hv:=aM e;rw[he]at hv;refine eW Tryz.call56 Tryz.func56 ?_;exact z2 @hv @hm
 have hx:=Jb lm lo hE ha he;refine eW Tryz.call41 Tryz.func41 ?_;exact z2 @hf @hx
theorem GP.one {m o:Bytes} (m1:1<num m):GP m o 1:=⟨m1,Nat.gcd_one_left _, .inr (by rw[sD])⟩




abbrev Sh:=Nat×Nat×Bytes×List Int
structure ZV (c:CK) (A:Bytes) (s:Sh):Prop where
 i1:1<=s.1
 i2:s.1<=c.sh.length
 g:GP c.m c.o s.2.1
 r:s.2.2.2.length<=1
 v:BT c.o [2] (pR c s.1) (ek c s.1 A (aO s.2.1)) s.2.2.1 (s.2.2.2.map lO) [] []=0
def idx (f n k:Nat):Nat:=(f+3*n-k)%n

theorem Lj {name m o base:Bytes} {need count:Int} {vs:List Bytes} {sd:Bytes} {a e:Int} (hr:y8 name m o base need count vs sd a= .error e):e≠0:=by
 unfold y8 at hr
 split at hr
 ·injection hr with hr;omega
 split at hr
 ·injection hr with hr;omega
 split at hr
 ·rename_i e' hs;injection hr with hr;rw[<-hr];exact yx hs
 split at hr
 ·rename_i e' hs;injection hr with hr;rw[<-hr];exact yC hs
 ·cases hr
structure Drn (C:CK) (A:Nat) (ls:List Nat) (fr k:Nat) (s:Sh):Prop where
 i:s.1=idx fr ls.length k+1
 d:s.2.1=A^ls.getD (idx fr ls.length k) 0%num C.m
 g:ZV C (aO A) s
end Go.Proofs.YtfdjchnefpefbaaGreatDoor
