/- Part of the proof. -/
import Derived.Test.YthlapgdhjcddkaaGreatDoorRows
import Derived.Test.YthlapgdhjcddkaaGreatDoorCards
import Derived.Test.YthlapgdhjcddkaaGreatDoorTie
import Derived.ProofKit
import Derived.ChangeSame
import Derived.Lay
import Derived.LaidOnce
import Derived.SevenTiedAt
import Derived.Lib.LaidU8
import Derived.Test.YthlapgdhjcddkaaGreatDoorUF39
set_option linter.all false
set_option maxRecDepth 100000
namespace Go.Proofs.YthlapgdhjcddkaaGreatDoor
open Go Go.Dom Go.ChangeShapes Go.WideShapes Go.ChangeAt Go.RowKit Go.Proofs.Tryz
variable {ps:List PV} {x y:PV}
theorem XM:ownKnob Tryz.prog.godebug=none:=by kernel_rfl
theorem xz:laidOutB Tryz.prog=true:=by kernel_rfl
theorem C3:Tryz.prog.underlying 4=some .bool:=by kernel_rfl
theorem uS:Tryz.prog.underlying 9=some .string:=by kernel_rfl
theorem uN:Tryz.prog.underlying 22=some .string:=by kernel_rfl
theorem uLN:Tryz.prog.underlying 40=some (.slice 22):=by kernel_rfl
theorem cS:Tryz.prog.cellsOf 9=1:=by kernel_rfl
theorem cN:Tryz.prog.cellsOf 22=1:=by kernel_rfl
theorem isN:fG Tryz.prog 22=false:=by kernel_rfl
theorem bN:Tryz.prog.bytesOf 22=16:=by kernel_rfl
theorem tk (h:List.take 1 ps=[x]):ps=x::List.drop 1 ps:=by cases ps<;>simp_all
theorem tk2 (h:List.take 2 ps=[x,y]):ps=x::y::List.drop 2 ps:=by
 rcases ps with _|⟨a,_|⟨b,r⟩⟩<;>simp_all
theorem wJ {α:Type} {f:α->PV}: ∀{l:List PV},(∀x∈l,∃a,x=f a)-> ∃al:List α,l=al.map f:=by
 intro l
 induction l with
 |nil=>intro _;exact⟨[],rfl⟩
 |cons x l ih=>
  intro h;obtain⟨a,rfl⟩:=h x (by simp)
  obtain⟨al,rfl⟩:=ih fun y hy=>h y (by simp[hy])
  exact⟨a::al,rfl⟩
theorem rV (h:x.cells=[y]) (h1:x.one=true):x=y:=by
 cases x<;>first|(simpa[PV.cells]using h)|(simp[PV.one]at h1)
theorem Ei {k:Nat} (h:kT Tryz.prog (k+1) 22 ps): ∃b:Bytes,ps=[.s b]:=by
 simp only[kT,uN]at h;obtain⟨x,rfl,-⟩:=h;exact⟨x,rfl⟩
theorem Vl {k:Nat} (h:kT Tryz.prog (k+1) 9 ps): ∃b:Bytes,ps=[.s b]:=by
 simp only[kT,uS]at h;obtain⟨x,rfl,-⟩:=h;exact⟨x,rfl⟩
theorem Qy {k:Nat} (h:kT Tryz.prog (k+2) 40 ps): ∃bs:List Bytes,ps=[.sl (bs.map PV.s)]/\bs.length*16<=reachBytes:=by
 simp only[kT,uLN,uN,isN,bN]at h;obtain⟨l,rfl,hb,hl⟩:=h;obtain⟨bs,rfl⟩:=wJ (f:=PV.s) (l:=l) fun x hx=>by
  obtain⟨⟨s,h1,-⟩,h2⟩:=hl x hx;exact⟨s,rV h1 (by simpa using h2)⟩
 exact⟨bs,rfl,by simpa using hb⟩
theorem aba {k:Nat} (h:kT Tryz.prog (k+2) 114 ps): ∃a b:Bytes,ps=[.s a, .s b]:=by
 rw[kT,Tryz.underlying114]at h;simp only[s9,cN]at h;obtain⟨h1,h2,h3⟩:=h;obtain⟨a,h1⟩:=Ei h1;obtain⟨b,h2⟩:=Ei h2;exact⟨a,b,by rw[tk h1,tk h2,h3]⟩
section
variable {H:Type} {enc:TypeId×Value->H} {P:Program}
theorem wR {f:Func} {s:ChangeSpec} {apart fresh handsOn again:Bool} {W W':World} {args:Array Value} {v:Value} {ds gs:List (DataW H)} {before pa pv:List MemPlace}
  (hW:DataW.Whole enc P f.params.toList s.vars apart W args.toList ds gs before)
  (hres: ∀(b:Nat) (sp:Nat->Bool) (hd:Bool),DataW.TrodAll enc P W' b sp hd f.resultTypes.toList (v.resultList f.resultTypes.size) (s.fn H (ds++gs)).results [])
  (hargs: ∀sp:Nat->Bool,(∀p∈before,sp p.block=true)->DataW.TrodAll enc P W' 0 sp true f.params.toList args.toList (s.fn H (ds++gs)).args pa)
  (hvars: ∀sp:Nat->Bool,(∀p∈before,sp p.block=true)->DataW.TrodVars enc P W' sp s.vars (s.fn H (ds++gs)).vars pv)
  (hps:before=pa++pv) (hb:Below W.heap.size W W')
  (hok: ∀(j:Nat) (t:TypeId) (r:Value),f.resultTypes[j]?=some t->(v.resultList f.resultTypes.size)[j]?=some r->Value.okWide P W' .any 0 t r):
  s.post enc P f apart fresh handsOn again W args v W':=by
 have hlt: ∀p∈before,p.block<W.heap.size:=fun p hp=>hW.lt p hp
 have hold: ∀p∈before,(fun b=>decide (b<W.heap.size)) p.block=true:=fun p hp=>by simpa using hlt p hp
 refine⟨ds,gs,before,[],pa,pv,hW,hres _ _ _,hargs _ hold,hvars _ hold,World.keptBut_mono (fun p hp=>⟨hp,?_⟩) (hb.frame (·∈before)),fun _=> ?_⟩
 ·rw[hps,iA]at hp;exact Or.inr hp
 ·obtain⟨_,_,_,_,_,hz,hn⟩:=hW;refine⟨hok,_,_,([]++pa)++pv,⟨[]++pa,pv,trodAll_append (hargs _ (fun _ _=>rfl)) (hres _ _ _),hvars _ (fun _ _=>rfl),rfl,?_,?_⟩,?_⟩
  ·intro b off hp;have hin:MemPlace.cell b off∈before:=by rw[hps];simpa using hp
   rw[hb.frozen (hlt _ hin)];exact hz b off hin
  ·intro ha;have:=hn ha;rw[hps]at this;simpa using this
  ·intro p hp _;rw[hps];simpa using hp
end
def mM:List (String×DataW Unit):=[("math/bits.deBruijn32tab",Rows.laid_math_bits_deBruijn32tab),("math/bits.deBruijn64tab",Rows.laid_math_bits_deBruijn64tab),("internal/strconv.uint64pow10",Rows.laid_internal_strconv_uint64pow10)]
theorem xg {W:World} {n:String} {g:Nat} {t e:TypeId} {k:IntKind} {m:Nat} {zs:List Int} (h:Lib.VarReads Tryz.prog W n (Lib.tabData k zs)) (hg:Tryz.prog.globalNamed n=some g) (ht:(Tryz.prog.globals[g]?).map (·.type)=some t) (hu:Tryz.prog.underlying t=some (.array m e)) (he:Tryz.prog.underlying e=some (.int k)) (hce:Tryz.prog.cellsOf e=1) (hct:Tryz.prog.cellsOf t=m) (i:Nat):
  W.cell? ⟨g,i,none⟩=(zs[i]?).map fun z=>Value.int k z:=by
 obtain⟨g',t',cs,fuel,p,h1,h2,h3,h4⟩:=h;obtain rfl:=oW (hg.symm.trans h1);obtain rfl:=oW (ht.symm.trans h2);have h5:=Lib.cells_of_tab hu he hce hct h4;rw[World.var?_cell h1 h3 i,<-Array.getElem?_toList,h5,fy]
theorem xh {W:World} (h:laidMet Tryz.prog mM W): ∀b o v,TR Tryz.prog b o=some v->W.cell? ⟨b,o,none⟩=some v:=by
 have h1:=fun i=>xg (Lib.laidMet.reads h (n:= "math/bits.deBruijn32tab") (d:=Lib.tabData .u8 oL) (by simp[mM];rfl)) (g:=5) (t:=413) (e:=5) (m:=32) (by kernel_rfl) (by kernel_rfl) (by kernel_rfl) (by kernel_rfl) (by kernel_rfl) (by kernel_rfl) i
 have h2:=fun i=>xg (Lib.laidMet.reads h (n:= "math/bits.deBruijn64tab") (d:=Lib.tabData .u8 oM) (by simp[mM];rfl)) (g:=0) (t:=375) (e:=5) (m:=64) (by kernel_rfl) (by kernel_rfl) (by kernel_rfl) (by kernel_rfl) (by kernel_rfl) (by kernel_rfl) i
 have h3:=fun i=>xg (Lib.laidMet.reads h (n:= "internal/strconv.uint64pow10") (d:=Lib.tabData .u64 qC) (by simp[mM];rfl)) (g:=4) (t:=393) (e:=75) (m:=20) (by kernel_rfl) (by kernel_rfl) (by kernel_rfl) (by kernel_rfl) (by kernel_rfl) (by kernel_rfl) i
 intro b o v hv;have key: ∀(k:IntKind) (zs:List Int),((zs.map fun n=>(k,n))[o]?).map (fun p:IntKind×Int=>Value.int p.1 p.2)=(zs[o]?).map fun z=>Value.int k z:=by
  intro k zs;rw[fy,Option.map_map];rfl
 unfold TR at hv;simp only[cW.tab,List.lookup]at hv
 by_cases e1:b=5
 ·subst e1;rw[h1 o,<-key];simpa using hv
 ·by_cases e2:b=0
  ·subst e2;rw[h2 o,<-key];simpa using hv
  ·by_cases e3:b=4
   ·subst e3;rw[h3 o,<-key];simpa using hv
   ·simp only[show(b==5)=false from beq_eq_false_iff_ne.2 e1,show(b==0)=false from beq_eq_false_iff_ne.2 e2,show(b==4)=false from beq_eq_false_iff_ne.2 e3]at hv
    cases hv
end Go.Proofs.YthlapgdhjcddkaaGreatDoor
namespace Go.Proofs.YthlapgdhjcddkaaGreatDoor
open Go Go.Dom Go.ChangeShapes Go.WideShapes Go.ChangeAt Go.RowKit Go.Proofs.Tryz
variable {k:Nat} {ps:List PV}
theorem uI0:Tryz.prog.underlying 3=some (.int .i64):=by kernel_rfl
theorem cI0:Tryz.prog.cellsOf 3=1:=by kernel_rfl
theorem uB:Tryz.prog.underlying 4=some .bool:=by kernel_rfl
theorem cB:Tryz.prog.cellsOf 4=1:=by kernel_rfl
theorem cI:Tryz.prog.cellsOf 77=2:=by kernel_rfl
theorem F6 {α:Type} {f:α->PV} {Q:α->Prop}: ∀{l:List PV},(∀x∈l,∃a,x=f a/\Q a)-> ∃al:List α,l=al.map f/\ ∀a∈al,Q a:=by
 intro l
 induction l with
 |nil=>intro _;exact⟨[],rfl,fun a h=>by cases h⟩
 |cons x l ih=>
  intro h;obtain⟨a,rfl,ha⟩:=h x (by simp)
  obtain⟨al,rfl,hb⟩:=ih fun y hy=>h y (by simp[hy])
  exact⟨a::al,rfl,fun b hb'=>by rcases cM.1 hb' with rfl|hb';exact ha;exact hb _ hb'⟩
theorem uLI:Tryz.prog.underlying 36=some (.slice 77):=by kernel_rfl
theorem cLI:Tryz.prog.cellsOf 36=1:=by kernel_rfl
theorem acq:fG Tryz.prog 77=true:=by kernel_rfl
theorem bLI:Tryz.prog.bytesOf 77=24:=by kernel_rfl
theorem uLG:Tryz.prog.underlying 25=some (.slice 114):=by kernel_rfl
theorem cLG:Tryz.prog.cellsOf 25=1:=by kernel_rfl
theorem acp:fG Tryz.prog 114=true:=by kernel_rfl
theorem bLG:Tryz.prog.bytesOf 114=32:=by kernel_rfl
theorem uLV:Tryz.prog.underlying 26=some (.slice 116):=by kernel_rfl
theorem cLV:Tryz.prog.cellsOf 26=1:=by kernel_rfl
theorem acr:fG Tryz.prog 116=true:=by kernel_rfl
theorem bLV:Tryz.prog.bytesOf 116=16:=by kernel_rfl
theorem uLT:Tryz.prog.underlying 117=some (.slice 121):=by kernel_rfl
theorem cLT:Tryz.prog.cellsOf 117=1:=by kernel_rfl
theorem isLT:fG Tryz.prog 121=true:=by kernel_rfl
theorem bLT:Tryz.prog.bytesOf 121=48:=by kernel_rfl
theorem uLE:Tryz.prog.underlying 27=some (.slice 119):=by kernel_rfl
theorem cLE:Tryz.prog.cellsOf 27=1:=by kernel_rfl
theorem isLE:fG Tryz.prog 119=true:=by kernel_rfl
theorem bLE:Tryz.prog.bytesOf 119=48:=by kernel_rfl
theorem acW:Tryz.prog.underlying 30=some (.slice 29):=by kernel_rfl
theorem acd:Tryz.prog.cellsOf 30=1:=by kernel_rfl
theorem Z1:fG Tryz.prog 29=true:=by kernel_rfl
theorem ab5:Tryz.prog.bytesOf 29=72:=by kernel_rfl
theorem acU:Tryz.prog.underlying 31=some (.slice 174):=by kernel_rfl
theorem acb:Tryz.prog.cellsOf 31=1:=by kernel_rfl
theorem ZY:fG Tryz.prog 174=true:=by kernel_rfl
theorem ab1:Tryz.prog.bytesOf 174=40:=by kernel_rfl
theorem uLi:Tryz.prog.underlying 172=some (.slice 3):=by kernel_rfl
theorem cLi:Tryz.prog.cellsOf 172=1:=by kernel_rfl
theorem acs:fG Tryz.prog 3=false:=by kernel_rfl
theorem bLi:Tryz.prog.bytesOf 3=8:=by kernel_rfl
theorem acV:Tryz.prog.underlying 37=some (.slice 36):=by kernel_rfl
theorem Zz:Tryz.prog.cellsOf 37=1:=by kernel_rfl
theorem ZZ:fG Tryz.prog 36=false:=by kernel_rfl
theorem ab3:Tryz.prog.bytesOf 36=24:=by kernel_rfl
theorem Qu (h:kT Tryz.prog (k+2) 77 ps): ∃(n:Bool) (a:Bytes),ps=[.b n, .s a]:=by
 rw[kT,Tryz.underlying77]at h;simp only[s9,cB,cN]at h;obtain⟨h1,h2,h3⟩:=h;simp only[kT,uB]at h1;obtain⟨n,h1⟩:=h1;obtain⟨a,h2⟩:=Ei h2;exact⟨n,a,by rw[tk h1,tk h2,h3]⟩
theorem Qv (h:kT Tryz.prog (k+3) 36 ps): ∃l:List (Bool×Bytes),ps=[.sl (l.map ca)]/\l.length*24<=reachBytes:=by
 rw[kT,uLI]at h;simp only[acq,bLI,aC]at h;obtain⟨l,rfl,hb,hl⟩:=h;obtain⟨is,rfl⟩:=wJ (f:=ca) (l:=l) fun x hx=>by
  obtain⟨h1,m,rfl⟩:=hl x hx;obtain⟨n,a,h1⟩:=Qu h1;have h1:m=[.b n, .s a]:=h1;exact⟨(n,a),by rw[h1];rfl⟩
 exact⟨is,rfl,by simpa using hb⟩
theorem Qw (h:kT Tryz.prog (k+4) 37 ps): ∃l:List (List (Bool×Bytes)),ps=[.sl (l.map fj)]/\l.length*24<=reachBytes/\ ∀x∈l,x.length*24<=reachBytes:=by
 rw[kT,acV]at h;simp only[ZZ,ab3,cE,aB]at h;obtain⟨l,rfl,hb,hl⟩:=h;obtain⟨is,rfl,hq⟩:=F6 (f:=fj) (Q:=fun y=>y.length*24<=reachBytes) (l:=l) fun x hx=>by
  obtain⟨h1,h2⟩:=hl x hx;obtain⟨y,h1,hy⟩:=Qv h1;exact⟨y,rV h1 h2,hy⟩
 exact⟨is,rfl,by simpa using hb,hq⟩
theorem vf (h:kT Tryz.prog (k+1) 3 ps): ∃n:Int,ps=[E n]:=by
 simp only[kT,uI0]at h;obtain⟨n,h,-⟩:=h;exact⟨n,h⟩
theorem YA (h:kT Tryz.prog (k+2) 116 ps): ∃b:Bytes,ps=[.s b]:=by
 rw[kT,Tryz.underlying116]at h;simp only[s9,cN]at h;obtain⟨h1,h2⟩:=h;obtain⟨a,h1⟩:=Ei h1;exact⟨a,by rw[tk h1,h2]⟩
theorem Yz (h:kT Tryz.prog (k+3) 121 ps): ∃t:dx, .agg ps=t.pv:=by
 rw[kT,Tryz.underlying121]at h;simp only[s9,cN,cI0,cI]at h;obtain⟨h1,h2,h3,h4⟩:=h;obtain⟨b,h1⟩:=Ei h1;obtain⟨v,h2⟩:=vf h2;obtain⟨n,a,h3⟩:=Qu h3;exact⟨⟨b,v,n,a⟩,by rw[tk h1,tk h2,tk2 h3,h4];rfl⟩
theorem Yx (h:kT Tryz.prog (k+5) 119 ps): ∃q:bZ, .agg ps=q.pv/\q.terms.length*48<=reachBytes:=by
 rw[kT,Tryz.underlying119]at h;simp only[s9,cN,cI0,cLT]at h;obtain⟨h1,h2,h3,h4⟩:=h;obtain⟨g,h1⟩:=vf h1;obtain⟨t,h2⟩:=Ei h2;rw[kT,uLT]at h3;simp only[isLT,bLT,aC]at h3;obtain⟨l,h3,hb,hl⟩:=h3;obtain⟨ts,rfl⟩:=wJ (f:=dx.pv) (l:=l) fun x hx=>by
  obtain⟨h1,m,rfl⟩:=hl x hx;exact Yz h1
 exact⟨⟨g,t,ts⟩,by rw[tk h1,tk h2,tk h3,h4];rfl,by simpa using hb⟩
theorem Qz (h:kT Tryz.prog (k+7) 29 ps): ∃s:aT,ps=[.sl (s.groups.map cz), .sl (s.vars.map bO), .sl (s.eqs.map bZ.pv)]/\Rw s:=by
 have rb:=reachBytes_lt;rw[kT,Tryz.underlying29]at h;simp only[s9,cLG,cLV,cLE]at h;obtain⟨h1,h2,h3,h4⟩:=h;rw[kT,uLG]at h1;simp only[acp,bLG,aC]at h1;obtain⟨l,h1,hb1,hl⟩:=h1;obtain⟨gs,rfl⟩:=wJ (f:=cz) (l:=l) fun x hx=>by
  obtain⟨h1,m,rfl⟩:=hl x hx;obtain⟨a,b,h1⟩:=aba h1;have h1:m=[.s a, .s b]:=h1;exact⟨(a,b),by rw[h1];rfl⟩
 rw[kT,uLV]at h2;simp only[acr,bLV,aC]at h2;obtain⟨l,h2,hb2,hl⟩:=h2;obtain⟨vs,rfl⟩:=wJ (f:=bO) (l:=l) fun x hx=>by
  obtain⟨h1,m,rfl⟩:=hl x hx;obtain⟨b,h1⟩:=YA h1;have h1:m=[.s b]:=h1;exact⟨b,by rw[h1];rfl⟩
 rw[kT,uLE]at h3;simp only[isLE,bLE,aC]at h3;obtain⟨l,h3,hb3,hl⟩:=h3;obtain⟨es,rfl,hq⟩:=F6 (f:=bZ.pv) (Q:=fun q=>q.terms.length*48<=reachBytes) (l:=l) fun x hx=>by
  obtain⟨h1,m,rfl⟩:=hl x hx;exact Yx h1
 rw[au]at hb1 hb2 hb3;exact⟨⟨gs,vs,es⟩,by rw[tk h1,tk h2,tk h3,h4],by simp only;omega,by simp only;omega,by simp only;omega,fun q h=>by have:=hq q h;omega⟩
theorem abb (h:kT Tryz.prog (k+3) 174 ps): ∃g:Gt, .agg ps=Gt.pv g/\g.kids.length*8<=reachBytes:=by
 rw[kT,Tryz.underlying174]at h;simp only[s9,cI0,cLi]at h;obtain⟨h1,h2,h3,h4⟩:=h;obtain⟨n,h1⟩:=vf h1;obtain⟨f,h3⟩:=vf h3;rw[kT,uLi]at h2;simp only[acs,bLi,cE,aB]at h2;obtain⟨l,h2,hb,hl⟩:=h2;obtain⟨ks,rfl⟩:=wJ (f:=rB) (l:=l) fun x hx=>by
  obtain⟨h1,h2⟩:=hl x hx;obtain⟨n,h1⟩:=vf h1;exact⟨n,rV h1 h2⟩
 exact⟨⟨n,ks,f⟩,by rw[tk h1,tk h2,tk h3,h4];rfl,by simpa using hb⟩
theorem cRu:Tryz.prog.cellsOf 24=2:=by kernel_rfl
theorem cSm:Tryz.prog.cellsOf 29=3:=by kernel_rfl
theorem cCl:Tryz.prog.cellsOf 35=2:=by kernel_rfl
theorem cFo:Tryz.prog.cellsOf 33=1:=by kernel_rfl
theorem aa9 (h:kT Tryz.prog (k+9) 35 ps): ∃c:ik,ps=[.sl (c.leaves.map aT.pv), .sl (c.gates.map Gt.pv)]/\Vz c:=by
 have rb:=reachBytes_lt;rw[kT,Tryz.underlying35]at h;simp only[s9,acd,cFo]at h;obtain⟨h1,h2,h3⟩:=h;rw[kT,acW]at h1;simp only[Z1,ab5,aC]at h1;obtain⟨l,h1,hb1,hl⟩:=h1;obtain⟨lv,rfl,hq1⟩:=F6 (f:=aT.pv) (Q:=Rw) (l:=l) fun x hx=>by
  obtain⟨h1,m,rfl⟩:=hl x hx;obtain⟨s,h1,hs⟩:=Qz h1;have h1:m=[.sl (s.groups.map cz), .sl (s.vars.map bO), .sl (s.eqs.map bZ.pv)]:=h1;exact⟨s,by rw[h1];rfl,hs⟩
 rw[kT,Tryz.underlying33]at h2;simp only[s9,acb]at h2;obtain⟨h2,h4⟩:=h2;rw[kT,acU]at h2;simp only[ZY,ab1,aC]at h2;obtain⟨l,h2,hb2,hl⟩:=h2;obtain⟨G,rfl,hq2⟩:=F6 (f:=Gt.pv) (Q:=fun g=>g.kids.length*8<=reachBytes) (l:=l) fun x hx=>by
  obtain⟨h1,m,rfl⟩:=hl x hx;exact abb h1
 rw[au]at hb1 hb2;rw[List.take_take]at h2;exact⟨⟨lv,G⟩,by rw[tk h1,tk h2,h3],by simp only;omega,by simp only;omega,hq1,fun g h=>by have:=hq2 g h;omega⟩
theorem tk3 {x y z:PV} (h:List.take 3 ps=[x,y,z]):ps=x::y::z::List.drop 3 ps:=by
 rcases ps with _|⟨a,_|⟨b,_|⟨c,r⟩⟩⟩<;>simp_all
theorem O2:Q0 Tryz.prog 12 39=true:=by kernel_rfl
theorem abc (h:kT Tryz.prog (k+2) 24 ps): ∃a b:Bytes,ps=[.s a, .s b]:=by
 rw[kT,Tryz.underlying24]at h;simp only[s9,cN]at h;obtain⟨h1,h2,h3⟩:=h;obtain⟨a,h1⟩:=Ei h1;obtain⟨b,h2⟩:=Ei h2;exact⟨a,b,by rw[tk h1,tk h2,h3]⟩
theorem IC (h:kT Tryz.prog 12 39 ps): ∃x:BW, .agg ps=x.pv/\Mc x:=by
 have rb:=reachBytes_lt;rw[kT,Tryz.underlying39]at h;simp only[s9,cRu,cS,cSm,cCl,cLI,Zz]at h;obtain⟨h1,h2,h3,h4,h5,h6,h7⟩:=h;obtain⟨c,sl,h1⟩:=abc h1;obtain⟨ctx,h2⟩:=Vl h2;obtain⟨s,h3,hs⟩:=Qz h3;obtain⟨cl,h4,hc⟩:=aa9 h4;obtain⟨w,h5,hb5⟩:=Qv h5;obtain⟨ws,h6,hb6,hb7⟩:=Qw h6;refine⟨⟨c,sl,ctx,s,cl,w,ws⟩,?_,hs,hc,by simp only;omega,by simp only;omega,fun l hl=>by have:=hb7 l hl;omega⟩
 rw[tk2 h1,tk h2,tk3 h3,tk2 h4,tk h5,tk h6,h7];rfl
