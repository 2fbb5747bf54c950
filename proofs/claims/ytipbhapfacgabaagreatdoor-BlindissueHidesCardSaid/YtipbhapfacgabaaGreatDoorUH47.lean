/- Part of the proof. -/
import Derived.Test.YtipbhapfacgabaaGreatDoorRows
import Derived.Test.YtipbhapfacgabaaGreatDoorCards
import Derived.Test.YtipbhapfacgabaaGreatDoorTie
import Derived.ProofKit
import Derived.ChangeSame
import Derived.Lay
import Derived.LaidOnce
import Derived.SevenTiedAt
import Derived.Lib.LaidU8
import Derived.Test.YtipbhapfacgabaaGreatDoorUH46
set_option linter.all false
set_option maxRecDepth 100000
namespace Go.Proofs.YtipbhapfacgabaaGreatDoor
open Go Go.Dom Go.ChangeShapes Go.WideShapes Go.ChangeAt Go.RowKit Go.Proofs.Tryz
variable {ps:List PV} {x y:PV}
theorem Z1:ownKnob Tryz.prog.godebug=none:=by kernel_rfl
theorem SU:laidOutB Tryz.prog=true:=by kernel_rfl
theorem Te:Tryz.prog.underlying 4=some .bool:=by kernel_rfl
theorem uS:Tryz.prog.underlying 9=some .string:=by kernel_rfl
theorem uN:Tryz.prog.underlying 22=some .string:=by kernel_rfl
theorem uLN:Tryz.prog.underlying 31=some (.slice 22):=by kernel_rfl
theorem cS:Tryz.prog.cellsOf 9=1:=by kernel_rfl
theorem cN:Tryz.prog.cellsOf 22=1:=by kernel_rfl
theorem cLN:Tryz.prog.cellsOf 31=1:=by kernel_rfl
theorem cGr:Tryz.prog.cellsOf 26=2:=by kernel_rfl
theorem isN:nT Tryz.prog 22=false:=by kernel_rfl
theorem bN:Tryz.prog.bytesOf 22=16:=by kernel_rfl
theorem tk (h:List.take 1 ps=[x]):ps=x::List.drop 1 ps:=by cases ps<;>simp_all
theorem Z6 (h:List.take 2 ps=[x,y]):ps=x::y::List.drop 2 ps:=by
 rcases ps with _|⟨a,_|⟨b,r⟩⟩<;>simp_all
theorem tk4 {z u:PV} (h:List.take 4 ps=[x,y,z,u]):ps=x::y::z::u::List.drop 4 ps:=by
 rcases ps with _|⟨a,_|⟨b,_|⟨c,_|⟨d,r⟩⟩⟩⟩<;>simp_all
theorem UX {α:Type} {f:α->PV}: ∀{l:List PV},(∀x∈l,∃a,x=f a)-> ∃al:List α,l=al.map f:=by
 intro l
 induction l with
 |nil=>intro _;exact⟨[],rfl⟩
 |cons x l ih=>
  intro h;obtain⟨a,rfl⟩:=h x (by simp)
  obtain⟨al,rfl⟩:=ih fun y hy=>h y (by simp[hy])
  exact⟨a::al,rfl⟩
theorem Kt (h:x.cells=[y]) (h1:x.one=true):x=y:=by
 cases x<;>first|(simpa[PV.cells]using h)|(simp[PV.one]at h1)
theorem oX {k:Nat} (h:qP Tryz.prog (k+1) 22 ps): ∃b:Bytes,ps=[.s b]:=by
 simp only[qP,uN]at h;obtain⟨x,rfl,-⟩:=h;exact⟨x,rfl⟩
theorem YK {k:Nat} (h:qP Tryz.prog (k+1) 9 ps): ∃b:Bytes,ps=[.s b]:=by
 simp only[qP,uS]at h;obtain⟨x,rfl,-⟩:=h;exact⟨x,rfl⟩
theorem YH {k:Nat} (h:qP Tryz.prog (k+2) 31 ps): ∃bs:List Bytes,ps=[.sl (bs.map PV.s)]/\bs.length*16<=reachBytes:=by
 simp only[qP,uLN,uN,isN,bN]at h;obtain⟨l,rfl,hb,hl⟩:=h;obtain⟨bs,rfl⟩:=UX (f:=PV.s) (l:=l) fun x hx=>by
  obtain⟨⟨s,h1,-⟩,h2⟩:=hl x hx;exact⟨s,Kt h1 (by simpa using h2)⟩
 exact⟨bs,rfl,by simpa using hb⟩
theorem Tb {k:Nat} (h:qP Tryz.prog (k+2) 26 ps): ∃a b:Bytes,ps=[.s a, .s b]:=by
 rw[qP,Tryz.underlying26]at h;simp only[Ac,cN]at h;obtain⟨h1,h2,h3⟩:=h;obtain⟨a,h1⟩:=oX h1;obtain⟨b,h2⟩:=oX h2;exact⟨a,b,by rw[tk h1,tk h2,h3]⟩
section
variable {H:Type} {enc:TypeId×Value->H} {P:Program}
theorem KD {f:Func} {s:ChangeSpec} {apart fresh handsOn again:Bool} {W W':World} {args:Array Value} {v:Value} {ds gs:List (DataW H)} {before pa pv:List MemPlace}
  (hW:DataW.Whole enc P f.params.toList s.vars apart W args.toList ds gs before)
  (hres: ∀(b:Nat) (sp:Nat->Bool) (hd:Bool),DataW.TrodAll enc P W' b sp hd f.resultTypes.toList (v.resultList f.resultTypes.size) (s.fn H (ds++gs)).results [])
  (hargs: ∀sp:Nat->Bool,(∀p∈before,sp p.block=true)->DataW.TrodAll enc P W' 0 sp true f.params.toList args.toList (s.fn H (ds++gs)).args pa)
  (hvars: ∀sp:Nat->Bool,(∀p∈before,sp p.block=true)->DataW.TrodVars enc P W' sp s.vars (s.fn H (ds++gs)).vars pv)
  (hps:before=pa++pv) (hb:Below W.heap.size W W')
  (hok: ∀(j:Nat) (t:TypeId) (r:Value),f.resultTypes[j]?=some t->(v.resultList f.resultTypes.size)[j]?=some r->Value.okWide P W' .any 0 t r):
  s.post enc P f apart fresh handsOn again W args v W':=by
 have hlt: ∀p∈before,p.block<W.heap.size:=fun p hp=>hW.lt p hp
 have hold: ∀p∈before,(fun b=>decide (b<W.heap.size)) p.block=true:=fun p hp=>by simpa using hlt p hp
 refine⟨ds,gs,before,[],pa,pv,hW,hres _ _ _,hargs _ hold,hvars _ hold,World.keptBut_mono (fun p hp=>⟨hp,?_⟩) (hb.frame (·∈before)),fun _=> ?_⟩
 ·rw[hps,iM]at hp;exact Or.inr hp
 ·obtain⟨_,_,_,_,_,hz,hn⟩:=hW;refine⟨hok,_,_,([]++pa)++pv,⟨[]++pa,pv,trodAll_append (hargs _ (fun _ _=>rfl)) (hres _ _ _),hvars _ (fun _ _=>rfl),rfl,?_,?_⟩,?_⟩
  ·intro b off hp;have hin:MemPlace.cell b off∈before:=by rw[hps];simpa using hp
   rw[hb.frozen (hlt _ hin)];exact hz b off hin
  ·intro ha;have:=hn ha;rw[hps]at this;simpa using this
  ·intro p hp _;rw[hps];simpa using hp
end
def vC:List (String×DataW Unit):=[("math/bits.deBruijn32tab",Rows.laid_math_bits_deBruijn32tab),("math/bits.deBruijn64tab",Rows.laid_math_bits_deBruijn64tab),("internal/strconv.uint64pow10",Rows.laid_internal_strconv_uint64pow10)]
theorem uX {W:World} {n:String} {g:Nat} {t e:TypeId} {k:IntKind} {m:Nat} {zs:List Int} (h:Lib.VarReads Tryz.prog W n (Lib.tabData k zs)) (hg:Tryz.prog.globalNamed n=some g) (ht:(Tryz.prog.globals[g]?).map (·.type)=some t) (hu:Tryz.prog.underlying t=some (.array m e)) (he:Tryz.prog.underlying e=some (.int k)) (hce:Tryz.prog.cellsOf e=1) (hct:Tryz.prog.cellsOf t=m) (i:Nat):
  W.cell? ⟨g,i,none⟩=(zs[i]?).map fun z=>Value.int k z:=by
 obtain⟨g',t',cs,fuel,p,h1,h2,h3,h4⟩:=h;obtain rfl:=wS (hg.symm.trans h1);obtain rfl:=wS (ht.symm.trans h2);have h5:=Lib.cells_of_tab hu he hce hct h4;rw[World.var?_cell h1 h3 i,<-Array.getElem?_toList,h5,gY]
theorem Lf {W:World} (h:laidMet Tryz.prog vC W): ∀b o v,TR Tryz.prog b o=some v->W.cell? ⟨b,o,none⟩=some v:=by
 have h1:=fun i=>uX (Lib.laidMet.reads h (n:= "math/bits.deBruijn32tab") (d:=Lib.tabData .u8 nc) (by simp[vC];rfl)) (g:=5) (t:=421) (e:=5) (m:=32) (by kernel_rfl) (by kernel_rfl) (by kernel_rfl) (by kernel_rfl) (by kernel_rfl) (by kernel_rfl) i
 have h2:=fun i=>uX (Lib.laidMet.reads h (n:= "math/bits.deBruijn64tab") (d:=Lib.tabData .u8 nf) (by simp[vC];rfl)) (g:=1) (t:=384) (e:=5) (m:=64) (by kernel_rfl) (by kernel_rfl) (by kernel_rfl) (by kernel_rfl) (by kernel_rfl) (by kernel_rfl) i
 have h3:=fun i=>uX (Lib.laidMet.reads h (n:= "internal/strconv.uint64pow10") (d:=Lib.tabData .u64 pF) (by simp[vC];rfl)) (g:=4) (t:=418) (e:=43) (m:=20) (by kernel_rfl) (by kernel_rfl) (by kernel_rfl) (by kernel_rfl) (by kernel_rfl) (by kernel_rfl) i
 intro b o v hv;have key: ∀(k:IntKind) (zs:List Int),((zs.map fun n=>(k,n))[o]?).map (fun p:IntKind×Int=>Value.int p.1 p.2)=(zs[o]?).map fun z=>Value.int k z:=by
  intro k zs;rw[gY,Option.map_map];rfl
 unfold TR at hv;simp only[ct.tab,List.lookup]at hv
 by_cases e1:b=5
 ·subst e1;rw[h1 o,<-key];simpa using hv
 ·by_cases e2:b=1
  ·subst e2;rw[h2 o,<-key];simpa using hv
  ·by_cases e3:b=4
   ·subst e3;rw[h3 o,<-key];simpa using hv
   ·simp only[show(b==5)=false from beq_eq_false_iff_ne.2 e1,show(b==1)=false from beq_eq_false_iff_ne.2 e2,show(b==4)=false from beq_eq_false_iff_ne.2 e3]at hv
    cases hv
end Go.Proofs.YtipbhapfacgabaaGreatDoor
namespace Go.Proofs.YtipbhapfacgabaaGreatDoor
open Go Go.Dom Go.ChangeShapes Go.WideShapes Go.ChangeAt Go.RowKit Go.Proofs.Tryz
variable {ps:List PV}
theorem cRu:Tryz.prog.cellsOf 24=2:=by kernel_rfl
theorem cPe:Tryz.prog.cellsOf 28=4:=by kernel_rfl
theorem YJ {k:Nat} (h:qP Tryz.prog (k+2) 24 ps): ∃a b:Bytes,ps=[.s a, .s b]:=by
 rw[qP,Tryz.underlying24]at h;simp only[Ac,cN]at h;obtain⟨h1,h2,h3⟩:=h;obtain⟨a,h1⟩:=oX h1;obtain⟨b,h2⟩:=oX h2;exact⟨a,b,by rw[tk h1,tk h2,h3]⟩
theorem Tc {k:Nat} (h:qP Tryz.prog (k+3) 28 ps): ∃a b c d:Bytes,ps=[.s a, .s b, .s c, .s d]:=by
 rw[qP,Tryz.underlying28]at h;simp only[Ac,cN,cGr]at h;obtain⟨h1,h2,h3,h4⟩:=h;obtain⟨a,b,h1⟩:=Tb h1;obtain⟨c,h2⟩:=oX h2;obtain⟨d,h3⟩:=oX h3;exact⟨a,b,c,d,by rw[Z6 h1,tk h2,tk h3,h4]⟩
theorem YI (h:qP Tryz.prog 9 30 ps): ∃p:cz, .agg ps=p.pv:=by
 rw[qP,Tryz.underlying30]at h;simp only[Ac,cN,cRu,cPe]at h;obtain⟨h1,h2,h3,h4,h5,h6,h7,h8,h9,h10,h11⟩:=h;obtain⟨a1,a2,h1⟩:=YJ h1;obtain⟨b1,b2,b3,b4,h2⟩:=Tc h2;obtain⟨c1,c2,c3,c4,h3⟩:=Tc h3;obtain⟨d4,h4⟩:=oX h4;obtain⟨d5,h5⟩:=oX h5;obtain⟨d6,h6⟩:=oX h6;obtain⟨d7,h7⟩:=oX h7;obtain⟨d8,h8⟩:=oX h8;obtain⟨d9,h9⟩:=oX h9;obtain⟨d10,h10⟩:=oX h10;refine⟨⟨a1,a2,b1,b2,b3,b4,c1,c2,c3,c4,d4,d5,d6,d7,d8,d9,d10⟩,?_⟩;rw[Z6 h1,tk4 h2,tk4 h3,tk h4,tk h5,tk h6,tk h7,tk h8,tk h9,tk h10,h11];rfl
theorem YG (h:qP Tryz.prog 9 33 ps): ∃k:Key, .agg ps=k.pv/\k.r.length*16<=reachBytes:=by
 rw[qP,Tryz.underlying33]at h;simp only[Ac,cN,cS,cGr,cLN]at h;obtain⟨h1,h2,h3,h4,h5,h6,h7,h8⟩:=h;obtain⟨a,h1⟩:=YK h1;obtain⟨m,o,h2⟩:=Tb h2;obtain⟨z,h3⟩:=oX h3;obtain⟨s,h4⟩:=oX h4;obtain⟨r,h5,hb⟩:=YH h5;obtain⟨u,h6⟩:=oX h6;obtain⟨v,h7⟩:=oX h7;refine⟨⟨a,m,o,z,s,r,u,v⟩,?_,hb⟩;rw[tk h1,Z6 h2,tk h3,tk h4,tk h5,tk h6,tk h7,h8];rfl
theorem uU8:Tryz.prog.underlying 5=some (.int .u8):=by kernel_rfl
theorem Li {H:Type} {enc:TypeId×Value->H} {P:Program} {w:World} {sp:Nat->Bool} {t:TypeId} {q:IntKind} {n:Int} {d:DataW H} {ps:List MemPlace} (hu:P.underlying t=some (.int q)) (h:DataW.Trod enc P w 0 sp true t (.int q n) d ps):(Lit.int q n).wf=true:=by
 obtain⟨f,h⟩:=h
 cases f with
 |zero=>simp[DataW.trod]at h
 |succ f=>
  obtain⟨m,e,hm⟩:=trod_int h hu;have e:[Value.int q n]=[Value.int q m]:=e;injection e with e _
  injection e with _ e
  rw[e];exact hm
theorem wf_u8 {z:Int} (h:(Lit.int .u8 z).wf=true): ∃x:Nat,z=x/\x<256:=by
 have h1:(decide ((0:Int)<=z)&&decide (z<=255))=true:=h;simp only[aV,bc]at h1;exact⟨z.toNat,by omega,by omega⟩
theorem cPa:Tryz.prog.cellsOf 30=17:=by kernel_rfl
theorem cKe:Tryz.prog.cellsOf 33=8:=by kernel_rfl
theorem cTd:Tryz.prog.cellsOf 35=2:=by kernel_rfl
theorem Z0:Wx Tryz.prog 10 37=true:=by kernel_rfl
theorem Z7 (n:Nat) {ps l:List PV} (h:List.take n ps=l):ps=l++List.drop n ps:=by rw[<-h,tN]
theorem YL {k:Nat} (h:qP Tryz.prog (k+2) 35 ps): ∃a b:Bytes,ps=[.s a, .s b]:=by
 rw[qP,Tryz.underlying35]at h;simp only[Ac,cN]at h;obtain⟨h1,h2,h3⟩:=h;obtain⟨a,h1⟩:=oX h1;obtain⟨b,h2⟩:=oX h2;exact⟨a,b,by rw[tk h1,tk h2,h3]⟩
theorem Sb (h:qP Tryz.prog 10 37 ps): ∃(p:cz) (k:Key) (tp tq:Bytes), .agg ps=nK p k tp tq/\k.r.length*16<=reachBytes:=by
 rw[qP,Tryz.underlying37]at h;simp only[Ac,cPa,cKe,cTd]at h;obtain⟨h1,h2,h3,h4⟩:=h;obtain⟨p,h1⟩:=YI h1;obtain⟨k,h2,b1⟩:=YG h2;obtain⟨tp,tq,h3⟩:=YL h3;have h1:List.take 17 ps=p.pv.cells:=by rw[<-h1];rfl
 have h2:List.take 8 (List.drop 17 ps)=k.pv.cells:=by rw[<-h2];rfl
 refine⟨p,k,tp,tq,?_,b1⟩;unfold nK;rw[Z7 17 h1,Z7 8 h2,Z7 2 h3,h4];simp only[gZ,jr,List.cons_append,List.nil_append,cz.pv,Key.pv,PV.cells]
theorem Cf (os:Os) (started:os.Started) (H:Type) (enc:TypeId×Value->H):
  ReturnsInHanded {} Tryz.checked os 3 .any (fun w args=>(Rows.blindissueHidesSpec.pre enc Tryz.prog Tryz.f3 [] false w args/\laidMetH Tryz.prog vC w)/\sizedMet enc Tryz.prog Tryz.f3 (OpenSpec.ofChange Rows.blindissueHidesSpec) false w args)
   (Rows.blindissueHidesSpec.post enc Tryz.prog Tryz.f3 false true false false):=by
 refine returnsInHanded_of_change_and (C:=Tryz.checked) (X:=fun w _=>laidMetH Tryz.prog vC w) (fun _ _ _ hh h=>h.of_heap hh) Z1 started (by kernel_rfl) Tryz.func3
  (ChangeSpec.witness_shaped (enc:=enc) (C:=Tryz.checked) (os:=os) (X:=fun w _=>laidMetH Tryz.prog vC w) false (World.laidAll Tryz.prog os vC) #[.agg #[.string ⟨#[]⟩, .string ⟨#[]⟩, .string ⟨#[]⟩, .string ⟨#[]⟩, .string ⟨#[]⟩, .string ⟨#[]⟩, .string ⟨#[]⟩, .string ⟨#[]⟩, .string ⟨#[]⟩, .string ⟨#[]⟩, .string ⟨#[]⟩, .string ⟨#[]⟩, .string ⟨#[]⟩, .string ⟨#[]⟩, .string ⟨#[]⟩, .string ⟨#[]⟩, .string ⟨#[]⟩, .string ⟨#[]⟩, .string ⟨#[]⟩, .string ⟨#[]⟩, .string ⟨#[]⟩, .string ⟨#[]⟩, .slice none 0 0, .string ⟨#[]⟩, .string ⟨#[]⟩, .string ⟨#[]⟩, .string ⟨#[]⟩], .int .u8 0] 8 (World.laidAll_os _ _ _)
   (World.shaped_of_ZipB (by kernel_rfl) (by kernel_rfl)) (by kernel_rfl) (by kernel_rfl) (by kernel_rfl)
   (by rw[MakeChecks.laidMetH_plain _ _ _ (by kernel_rfl)];exact laidMet_laidAll _ (by kernel_rfl) (by kernel_rfl))) ?_
 intro W base args ds gs before hval0 hW hcnd hwt hL _;rw[MakeChecks.laidMetH_plain _ _ _ (by kernel_rfl)]at hL
 have hval: ∀(j:Nat) t v,Tryz.f3.params[j]?=some t->args[j]?=some v->Value.okWide Tryz.prog W .any base t v:=hval0;have hW':=hW;obtain⟨p,q,hA0,hV,rfl,hfz,hnd⟩:=hW;have hA:DataW.TrodAll enc Tryz.prog W 0 (fun _=>true) true Tryz.f3.params.toList args.toList ds p:=hA0
 have hlt: ∀x∈p++q,x.block<W.heap.size:=fun x hx=>hW'.lt x hx
 rw[Tryz.params3]at hA hval;obtain⟨v0,v1,d0,d1,p0,p1,rfl,rfl,rfl,h0,h1⟩:=trodAll_two hA;obtain⟨rfl,rfl⟩:=trodVars_none hV;have hall:=bJ.1 hwt;have rb:=reachBytes_lt;have hv0:=hval 0 37 v0 rfl rfl;unfold Value.okWide at hv0;rw[Tryz.underlying37]at hv0;simp only at hv0;obtain⟨c0,rfl,s0,-⟩:=hv0;have w0: ∀m∈d0.weights Tryz.prog 37,m<=reachBytes:=fun m hm=>of_decide_eq_true (hall m (DataW.weights_mem_each (j:=0) rfl rfl m hm))
 obtain⟨n0,t0⟩:=id h0;obtain⟨S1,r0,o0,y0⟩:=R8 10 n0 _ c0.toList d0 p0 Z0 t0 w0;obtain⟨pa,ke,tp,tq,ea0,hb0⟩:=Sb y0;have q0:PR (Lv W) (nK pa ke tp tq) (.agg c0):=by
  rw[<-ea0];have:=PR.agg (rd:=Lv W) S1 c0.toList o0 r0.1 r0.2;simpa using this
 have hv1:=hval 1 5 v1 rfl rfl;obtain⟨z1,rfl⟩:=okWide_int uU8 hv1;have k1:=Li uU8 h1;obtain⟨x1,rfl,hx1⟩:=wf_u8 k1;obtain⟨g,hg,hc⟩:=Uk pa ke tp tq x1 (by omega) hx1
 have hg3:g=3:=by
  have a1:=hg #[] W;have a2:=Tryz.call3 #[] W;rw[a1]at a2;injection a2 with a2 _
  injection a2
 subst hg3;refine(hc W (Lv W) [.agg c0, .int .u8 x1] (Lf hL) (fun _ _ _ h=>h) (.cons q0 (.cons (.i .u8 x1) .nil))).mono ?_
 rintro e W' ⟨v,rfl,hb,hpr⟩;cases hpr;refine⟨_,rfl,KD (pa:=p0++p1) (pv:=[]) hW' (fun _ _ _=>trodAll_mk1 (shut_bool Te true)) (fun sp hsp=>trodAll_mk2 (WideElems.Trod_stays SU (by kernel_rfl) (of_decide_eq_true (by kernel_rfl)) h0 (fun x hx=>hb.same (hlt x (by simp[hx]))) (fun x hx=>hsp x (by simp[hx]))) (WideElems.Trod_stays SU (by kernel_rfl) (of_decide_eq_true (by kernel_rfl)) h1 (fun x hx=>hb.same (hlt x (by simp[hx]))) (fun x hx=>hsp x (by simp[hx])))) (fun _ _=>rfl) (by simp) hb (ok_one (by kernel_rfl) rfl (okWide_bool_mk Te true))⟩
