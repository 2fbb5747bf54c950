/- Part of the proof. -/
import Derived.Test.YtkmahpcpmgedkaaGreatDoorRows
import Derived.Test.YtkmahpcpmgedkaaGreatDoorCards
import Derived.Test.YtkmahpcpmgedkaaGreatDoorTie
import Derived.ProofKit
import Derived.ChangeSame
import Derived.Lay
import Derived.LaidOnce
import Derived.SevenTiedAt
import Derived.Lib.LaidU8
import Derived.Test.YtkmahpcpmgedkaaGreatDoorFC46
set_option linter.all false
set_option maxHeartbeats 16000000
set_option maxRecDepth 100000
namespace Go.Proofs.YtkmahpcpmgedkaaGreatDoor
open Go Go.Dom Go.ChangeShapes Go.WideShapes Go.ChangeAt Go.RowKit Go.Proofs.Tryz
variable {ps:List PV} {x y:PV}
theorem aap:ownKnob Tryz.prog.godebug=none:=by kernel_rfl
theorem Nl:laidOutB Tryz.prog=true:=by kernel_rfl
theorem Tu:Tryz.prog.underlying 4=some .bool:=by kernel_rfl
theorem uS:Tryz.prog.underlying 9=some .string:=by kernel_rfl
theorem uN:Tryz.prog.underlying 22=some .string:=by kernel_rfl
theorem uLN:Tryz.prog.underlying 27=some (.slice 22):=by kernel_rfl
theorem cS:Tryz.prog.cellsOf 9=1:=by kernel_rfl
theorem cN:Tryz.prog.cellsOf 22=1:=by kernel_rfl
theorem cLN:Tryz.prog.cellsOf 27=1:=by kernel_rfl
theorem cGr:Tryz.prog.cellsOf 24=2:=by kernel_rfl
theorem isN:j4 Tryz.prog 22=false:=by kernel_rfl
theorem bN:Tryz.prog.bytesOf 22=16:=by kernel_rfl
theorem tk (h:List.take 1 ps=[x]):ps=x::List.drop 1 ps:=by cases ps<;>simp_all
theorem tk2 (h:List.take 2 ps=[x,y]):ps=x::y::List.drop 2 ps:=by
 rcases ps with _|⟨a,_|⟨b,r⟩⟩<;>simp_all
theorem tk4 {z u:PV} (h:List.take 4 ps=[x,y,z,u]):ps=x::y::z::u::List.drop 4 ps:=by
 rcases ps with _|⟨a,_|⟨b,_|⟨c,_|⟨d,r⟩⟩⟩⟩<;>simp_all
theorem CI {α:Type} {f:α->PV}: ∀{l:List PV},(∀x∈l,∃a,x=f a)-> ∃al:List α,l=al.map f:=by
 intro l
 induction l with
 |nil=>intro _;exact⟨[],rfl⟩
 |cons x l ih=>
  intro h;obtain⟨a,rfl⟩:=h x (by simp)
  obtain⟨al,rfl⟩:=ih fun y hy=>h y (by simp[hy])
  exact⟨a::al,rfl⟩
theorem BF (h:x.cells=[y]) (h1:x.one=true):x=y:=by
 cases x<;>first|(simpa[PV.cells]using h)|(simp[PV.one]at h1)
theorem Dp {k:Nat} (h:ow Tryz.prog (k+1) 22 ps): ∃b:Bytes,ps=[.s b]:=by
 simp only[ow,uN]at h;obtain⟨x,rfl,-⟩:=h;exact⟨x,rfl⟩
theorem YP {k:Nat} (h:ow Tryz.prog (k+1) 9 ps): ∃b:Bytes,ps=[.s b]:=by
 simp only[ow,uS]at h;obtain⟨x,rfl,-⟩:=h;exact⟨x,rfl⟩
theorem Ts {k:Nat} (h:ow Tryz.prog (k+2) 27 ps): ∃bs:List Bytes,ps=[.sl (bs.map PV.s)]/\bs.length*16<=reachBytes:=by
 simp only[ow,uLN,uN,isN,bN]at h;obtain⟨l,rfl,hb,hl⟩:=h;obtain⟨bs,rfl⟩:=CI (f:=PV.s) (l:=l) fun x hx=>by
  obtain⟨⟨s,h1,-⟩,h2⟩:=hl x hx;exact⟨s,BF h1 (by simpa using h2)⟩
 exact⟨bs,rfl,by simpa using hb⟩
theorem YI {k:Nat} (h:ow Tryz.prog (k+2) 24 ps): ∃a b:Bytes,ps=[.s a, .s b]:=by
 rw[ow,Tryz.underlying24]at h;simp only[AA,cN]at h;obtain⟨h1,h2,h3⟩:=h;obtain⟨a,h1⟩:=Dp h1;obtain⟨b,h2⟩:=Dp h2;exact⟨a,b,by rw[tk h1,tk h2,h3]⟩
section
variable {H:Type} {enc:TypeId×Value->H} {P:Program}
theorem Kx {f:Func} {s:ChangeSpec} {apart fresh handsOn again:Bool} {W W':World} {args:Array Value} {v:Value} {ds gs:List (DataW H)} {before pa pv:List MemPlace}
  (hW:DataW.Whole enc P f.params.toList s.vars apart W args.toList ds gs before)
  (hres: ∀(b:Nat) (sp:Nat->Bool) (hd:Bool),DataW.TrodAll enc P W' b sp hd f.resultTypes.toList (v.resultList f.resultTypes.size) (s.fn H (ds++gs)).results [])
  (hargs: ∀sp:Nat->Bool,(∀p∈before,sp p.block=true)->DataW.TrodAll enc P W' 0 sp true f.params.toList args.toList (s.fn H (ds++gs)).args pa)
  (hvars: ∀sp:Nat->Bool,(∀p∈before,sp p.block=true)->DataW.TrodVars enc P W' sp s.vars (s.fn H (ds++gs)).vars pv)
  (hps:before=pa++pv) (hb:Below W.heap.size W W')
  (hok: ∀(j:Nat) (t:TypeId) (r:Value),f.resultTypes[j]?=some t->(v.resultList f.resultTypes.size)[j]?=some r->Value.okWide P W' .any 0 t r):
  s.post enc P f apart fresh handsOn again W args v W':=by
 have hlt: ∀p∈before,p.block<W.heap.size:=fun p hp=>hW.lt p hp
 have hold: ∀p∈before,(fun b=>decide (b<W.heap.size)) p.block=true:=fun p hp=>by simpa using hlt p hp
 refine⟨ds,gs,before,[],pa,pv,hW,hres _ _ _,hargs _ hold,hvars _ hold,World.keptBut_mono (fun p hp=>⟨hp,?_⟩) (hb.frame (·∈before)),fun _=> ?_⟩
 ·rw[hps,gT]at hp;exact Or.inr hp
 ·obtain⟨_,_,_,_,_,hz,hn⟩:=hW;refine⟨hok,_,_,([]++pa)++pv,⟨[]++pa,pv,trodAll_append (hargs _ (fun _ _=>rfl)) (hres _ _ _),hvars _ (fun _ _=>rfl),rfl,?_,?_⟩,?_⟩
  ·intro b off hp;have hin:MemPlace.cell b off∈before:=by rw[hps];simpa using hp
   rw[hb.frozen (hlt _ hin)];exact hz b off hin
  ·intro ha;have:=hn ha;rw[hps]at this;simpa using this
  ·intro p hp _;rw[hps];simpa using hp
end
def wz:List (String×DataW Unit):=[("math/bits.deBruijn32tab",Rows.laid_math_bits_deBruijn32tab),("math/bits.deBruijn64tab",Rows.laid_math_bits_deBruijn64tab),("internal/strconv.uint64pow10",Rows.laid_internal_strconv_uint64pow10)]
theorem vU {W:World} {n:String} {g:Nat} {t e:TypeId} {k:IntKind} {m:Nat} {zs:List Int} (h:Lib.VarReads Tryz.prog W n (Lib.tabData k zs)) (hg:Tryz.prog.globalNamed n=some g) (ht:(Tryz.prog.globals[g]?).map (·.type)=some t) (hu:Tryz.prog.underlying t=some (.array m e)) (he:Tryz.prog.underlying e=some (.int k)) (hce:Tryz.prog.cellsOf e=1) (hct:Tryz.prog.cellsOf t=m) (i:Nat):
  W.cell? ⟨g,i,none⟩=(zs[i]?).map fun z=>Value.int k z:=by
 obtain⟨g',t',cs,fuel,p,h1,h2,h3,h4⟩:=h;obtain rfl:=xD (hg.symm.trans h1);obtain rfl:=xD (ht.symm.trans h2);have h5:=Lib.cells_of_tab hu he hce hct h4;rw[World.var?_cell h1 h3 i,<-Array.getElem?_toList,h5,dG]
theorem Lg {W:World} (h:laidMet Tryz.prog wz W): ∀b o v,TR Tryz.prog b o=some v->W.cell? ⟨b,o,none⟩=some v:=by
 have h1:=fun i=>vU (Lib.laidMet.reads h (n:= "math/bits.deBruijn32tab") (d:=Lib.tabData .u8 nP) (by simp[wz];rfl)) (g:=5) (t:=479) (e:=5) (m:=32) (by kernel_rfl) (by kernel_rfl) (by kernel_rfl) (by kernel_rfl) (by kernel_rfl) (by kernel_rfl) i
 have h2:=fun i=>vU (Lib.laidMet.reads h (n:= "math/bits.deBruijn64tab") (d:=Lib.tabData .u8 nQ) (by simp[wz];rfl)) (g:=0) (t:=391) (e:=5) (m:=64) (by kernel_rfl) (by kernel_rfl) (by kernel_rfl) (by kernel_rfl) (by kernel_rfl) (by kernel_rfl) i
 have h3:=fun i=>vU (Lib.laidMet.reads h (n:= "internal/strconv.uint64pow10") (d:=Lib.tabData .u64 pU) (by simp[wz];rfl)) (g:=4) (t:=454) (e:=66) (m:=20) (by kernel_rfl) (by kernel_rfl) (by kernel_rfl) (by kernel_rfl) (by kernel_rfl) (by kernel_rfl) i
 intro b o v hv;have key: ∀(k:IntKind) (zs:List Int),((zs.map fun n=>(k,n))[o]?).map (fun p:IntKind×Int=>Value.int p.1 p.2)=(zs[o]?).map fun z=>Value.int k z:=by
  intro k zs;rw[dG,Option.map_map];rfl
 unfold TR at hv;simp only[cG.tab,List.lookup]at hv
 by_cases e1:b=5
 ·subst e1;rw[h1 o,<-key];simpa using hv
 ·by_cases e2:b=0
  ·subst e2;rw[h2 o,<-key];simpa using hv
  ·by_cases e3:b=4
   ·subst e3;rw[h3 o,<-key];simpa using hv
   ·simp only[show(b==5)=false from beq_eq_false_iff_ne.2 e1,show(b==0)=false from beq_eq_false_iff_ne.2 e2,show(b==4)=false from beq_eq_false_iff_ne.2 e3]at hv
    cases hv
end Go.Proofs.YtkmahpcpmgedkaaGreatDoor
namespace Go.Proofs.YtkmahpcpmgedkaaGreatDoor
open Go Go.Dom Go.ChangeShapes Go.WideShapes Go.ChangeAt Go.RowKit Go.Proofs.Tryz
theorem uI0:Tryz.prog.underlying 3=some (.int .i64):=by kernel_rfl
theorem cI0:Tryz.prog.cellsOf 3=1:=by kernel_rfl
theorem aax:Tryz.prog.underlying 3=some (.int .i64):=by kernel_rfl
theorem ZD:Tryz.prog.cellsOf 3=1:=by kernel_rfl
theorem cSK:Tryz.prog.cellsOf 26=4:=by kernel_rfl
theorem aan:Ta Tryz.prog 9 29=true:=by kernel_rfl
theorem YJ {k:Nat} {ps:List PV} (h:ow Tryz.prog (k+3) 26 ps): ∃a b c d:Bytes,ps=[.s a, .s b, .s c, .s d]:=by
 rw[ow,Tryz.underlying26]at h;simp only[AA,cN,cGr]at h;obtain⟨h1,h2,h3,h4⟩:=h;obtain⟨a,b,h1⟩:=YI h1;obtain⟨c,h2⟩:=Dp h2;obtain⟨d,h3⟩:=Dp h3;exact⟨a,b,c,d,by rw[tk2 h1,tk h2,tk h3,h4]⟩
theorem YG {ps:List PV} (h:ow Tryz.prog 9 29 ps): ∃c:CK, .agg ps=c.pv/\c.sh.length*16<=reachBytes:=by
 rw[ow,Tryz.underlying29]at h;simp only[AA,cN,cS,cSK,cLN,ZD]at h;obtain⟨h1,h2,h3,h4,h5⟩:=h;obtain⟨a,h1⟩:=YP h1;obtain⟨m,o,g,y,h2⟩:=YJ h2;simp only[ow,aax]at h3;obtain⟨n,h3,-⟩:=h3;obtain⟨sh,h4,hb⟩:=Ts h4;refine⟨⟨a,m,o,g,y,n,sh⟩,?_,hb⟩;rw[tk h1,tk4 h2,tk h3,tk h4,h5];rfl
end Go.Proofs.YtkmahpcpmgedkaaGreatDoor
namespace Go.Proofs.Tryz
open Go Go.Dom Go.Num
theorem KQ (c:CK) (ln:c.name.length<=60) (lm:c.m.length<=8) (lo:c.o.length<=8) (ls:c.sh.length<=8) (A B:Bytes) {L:List iI} (hL8:L.length<=256) (hF: ∀s∈L,s.UM) (h24: ∀s∈L,∀x∈s.rs,x.2.length<=24):aE 17 [c.pv,HM A B, .sl (L.map iI.pv)] (nH c A B L):=by
 have v1:=Fj c ln lm lo ls
 by_cases k0:dP c=0
 case neg=>
  unfold nH rG;rw[ah k0,ah k0];generalize dP c=e at*;obtain⟨name,m,o,g,yy,need,sh⟩:=c;simp only[CK.pv]at*;refine eW call17 func17 ?_;exact z1 @v1
 rw[k0]at v1;obtain⟨n,hn⟩: ∃n,n=L.length:=⟨_,rfl⟩;have l1:(L.map iI.pv).length=n:=by rw[aC,hn]
 by_cases hln:(L.length:Int)<c.need
 case pos=>
  have hE:rG c A B L=6:=by
   unfold rG;rw[ae (show¬dP c≠0 by simpa using k0),ah hln]
  unfold nH;rw[hE,ah oC];rw[<-hn]at hln;clear k0 hE;obtain⟨name,m,o,g,yy,need,sh⟩:=c;simp only[CK.pv]at*;refine eW call17 func17 ?_;exact m9 @l1 @v1
 have k:=lO k0;obtain⟨vm,vo,m1,-,-⟩:=jf k.e;have n1:=k.n1;have n2:=k.n2;have nq:=k.nq;have hqW:=eR lo;have hW:=jo;have hcs:=fun i (hi:i<L.length)=>Fs c ln lm lo ls k A B (hF _ (an jc hi)) (h24 _ (an jc hi))
 obtain⟨d,hd⟩: ∃d:Nat,c.need=d:=⟨c.need.toNat,oO⟩;rw[hd]at n1 n2 hln;rw[<-hn]at hln hcs hL8;have hS:=fun i (hi:i<n)=>getD_map iI.pv L jc (i:=i) oO
 have lp:(opts L).length=n:=by rw[opts,aC,hn]
 have lel:(kG L).length=n:=by rw[kG,aC,hn]
 have hp: ∀i,i<n->(opts L).getD i 0=(L.getD i jc).i.toNat/\(kG L).getD i 0=num (L.getD i jc).d:=fun i hi=>by simp[opts,kG,br,show i<L.length by omega]
 have hgo2: ∀r,(gF c A B L≠0->r= .tup [.s [],E (gF c A B L)])->(gF c A B L=0-> ¬(opts L).Nodup->r= .tup [.s [],E 8])->(gF c A B L=0->(opts L).Nodup->r= .tup [N (wO (num c.m) [(num B,(false,[1])),(wX (num c.m) (num c.o) ((opts L).take d) ((kG L).take d) 0,(true,[1]))]),E 0])->nH c A B L=r:=fun r h1 h2 h3=>by
  unfold nH rG;rw[ae (show¬dP c≠0 by simpa using k0),ae (show¬(L.length:Int)<c.need by omega),hd,Int.toNat_natCast]
  by_cases hf:gF c A B L=0
  ·rw[ae (show¬gF c A B L≠0 by simpa using hf)]
   by_cases hN:(opts L).Nodup
   ·rw[aJ hN,h3 hf hN];rfl
   ·rw[aG hN,h2 hf hN];rfl
  ·rw[ah hf,ah hf,h1 hf]
 have hfst: ∀j,j<n->gF c A B (L.drop j)=if jQ c A B (L.getD j jc)≠0 then jQ c A B (L.getD j jc)else gF c A B (L.drop (j+1)):=fun j hj=>by
  rw[aW jc (show j<L.length by omega)];rfl
 obtain⟨R0,hR0⟩: ∃R0,R0=nH c A B L:=⟨_,rfl⟩;rw[<-hR0];have hres: ∀r,(gF c A B L≠0->r= .tup [.s [],E (gF c A B L)])->(gF c A B L=0-> ¬(opts L).Nodup->r= .tup [.s [],E 8])->(gF c A B L=0->(opts L).Nodup->r= .tup [N (wO (num c.m) [(num B,(false,[1])),(wX (num c.m) (num c.o) ((opts L).take d) ((kG L).take d) 0,(true,[1]))]),E 0])->R0=r:=fun r h1 h2 h3=>hR0.trans (hgo2 r h1 h2 h3)
 clear hgo2 hR0;have hend:gF c A B L=0->(opts L).Nodup-> ∃v r:Nat,R0= .tup [N r,E 0]/\aE 52 [c.pv, .sl (((opts L).take d).map me), .sl (((kG L).take d).map cZ),E 0] (N v)/\aE 53 [G c.m c.o, .sl [.s B,N v], .sl [.agg [.b false, .s [1]], .agg [.b true, .s [1]]]] (.tup [N r,E 0]):=fun hf hN=>by
  have hall:=fun s hs=>qG (rY hf s hs)
  have hb: ∀a∈(opts L).take d,1<=a/\a<=c.sh.length:=fun a ha=>by
   obtain⟨s,hs,rfl⟩:=bm.1 (gS ha);have:=hall s hs;omega
  have he: ∀x∈(kG L).take d,GP c.m c.o x:=fun x hx=>by
   obtain⟨s,hs,rfl⟩:=bm.1 (gS hx);have:=(hall s hs).2.2.2.2.2.2.2;unfold jb at this;rw[ba]at this;exact((ct k.e).1 this.2).2
  have h0':=hall _ (an jc (show 0<L.length by omega))
  have gB:GP c.m c.o (num B):=by
   have:=h0'.2.2.2.2.2.2.1;unfold jb at this;rw[ba]at this;exact((ct k.e).1 this.2).2
  have tp:((opts L).take d).length=d:=by rw[bL];omega
  have te:((kG L).take d).length=d:=by rw[bL];omega
  have h0:(opts L).take d≠[]:=iX.1 oO;have a2:=rH c lm lo k.e k.p (pts:=(opts L).take d) (gN:=(kG L).take d) h0 oO (hN.sublist (List.take_sublist ..)) (fun a ha=>by have:=hb a ha;omega) oO he (x:=0) oO
  have gv:GP c.m c.o (wX (num c.m) (num c.o) ((opts L).take d) ((kG L).take d) 0):=LP m1 he 0;have p1:=oj lm lo k.e [(num B,(false,[1])),(wX (num c.m) (num c.o) ((opts L).take d) ((kG L).take d) 0,(true,[1]))] (by simp) (fun p hp=>by
   simp only[cb,iD,or_false]at hp;rcases hp with rfl|rfl
   ·exact⟨gB,rfl,rfl⟩
   ·exact⟨gv,rfl,rfl⟩)
  rw[BL _ _ m1,jL]at p1;refine⟨_,_,hres _ (fun h=>aM hf h) (fun _ h=>aM h (not_not_intro hN)) (fun _ _=>rfl),a2,?_⟩
  rw[show wO (num c.m) [(num B,(false,[1])),(wX (num c.m) (num c.o) ((opts L).take d) ((kG L).take d) 0,(true,[1]))]%num c.m=wO (num c.m) [(num B,(false,[1])),(wX (num c.m) (num c.o) ((opts L).take d) ((kG L).take d) 0,(true,[1]))]from dY _ _]at p1
  simp only[bC,bR,uF,eH h0'.2.2.1]at p1;exact p1
 have hE8:=fun h1 h2=>hres _ (fun h=>aM h1 h) (fun _ _=>rfl) (fun _ h=>aM h h2)
 have hE1:=fun h1=>hres _ (fun _=>rfl) (fun h=>aM h h1) (fun h=>aM h h1)
 have o1:=Th;obtain⟨pts,hpts⟩: ∃p,p=opts L:=⟨_,rfl⟩;obtain⟨gN,hels⟩: ∃p,p=kG L:=⟨_,rfl⟩;rw[<-hpts]at hp lp hend hE8;rw[<-hels]at hp lel hend;have hij: ∀i,i<n->gF c A B L=0->(L.getD i jc).i=((L.getD i jc).i.toNat:Nat):=fun i hi hf=>by
  have:=qG (rY hf _ (an jc (show i<L.length by omega)));omega
 have hdv: ∀i,i<n->gF c A B L=0->PV.s (L.getD i jc).d=N (num (L.getD i jc).d):=fun i hi hf=>by
  have:=qG (rY hf _ (an jc (show i<L.length by omega)));rw[eH this.1]
 clear hres hF h24 hpts hels k k0;obtain⟨name,m,o,g,yy,need,sh⟩:=c;simp only[CK.pv]at*;subst hd;have hb256: ∀ _:True,decide ((n:Int)>256)=false:=fun _=>aG oO
 refine eW call17 func17 ?_;refine oZ (aN @l1 (hb256 oT)) @v1 ?_;refine af (α:=Nat) (fun j=>n-j) (fun j=>⟨[(2, .v (.sl (L.map iI.pv))),(3, .p 1000 0 0),(4, .p 1001 0 0),(9,E' j)],[(1000,⟨0,[.v (.s name), .v (.s m), .v (.s o), .v (.s g), .v (.s yy), .v (E d), .v (.sl (sh.map .s))],false,none⟩),(1001,⟨0,[.v (.s A), .v (.s B)],false,none⟩)],1020⟩) (fun j=>j<=n/\gF ⟨name,m,o,g,yy,d,sh⟩ A B L=gF ⟨name,m,o,g,yy,d,sh⟩ A B (L.drop j)) 0 (fun _=>bQ rfl) ⟨aI _,rfl⟩ ?_ ?_
 ·exact lE
 ·rintro j ⟨hj,hfj⟩ R hR
  by_cases hlt:j<n
  ·have e1:=hS j hlt;have c1:=hcs j hlt;have hf1:=hfst j hlt;have hgo:=fun h=>hR (j+1) ⟨hlt,h⟩ oO
   by_cases hz:jQ ⟨name,m,o,g,yy,d,sh⟩ A B (L.getD j jc)=0
   ·rw[ae (by simpa using hz)]at hf1
    have hgo:=hgo (hfj.trans hf1);rw[hz]at c1;clear hR hcs hS hp hfst hend hE8 hE1 hij hdv hz hf1 hfj;generalize L.getD j jc=s at*;obtain⟨i,dd,ch,rs,gs,ls'⟩:=s;simp only[iI.pv]at e1 c1;exact gV (aN @l1 @e1) @hgo @c1
   ·rw[ah hz]at hf1;have hE1:=hE1 (by rw[hfj,hf1];exact hz)
    rw[hfj,hf1]at hE1;clear hR hcs hS hp hfst hend hE8 hij hdv hgo hf1 hfj;generalize jQ ⟨name,m,o,g,yy,d,sh⟩ A B (L.getD j jc)=e at*;generalize L.getD j jc=s at*;obtain⟨i,dd,ch,rs,gs,ls'⟩:=s;simp only[iI.pv]at e1 c1;repeat' first|simp only[go_sem,seval,l1,e1]|refine cP c1 ?_|refine oE ?_|apply xX<;>intro hc
    all_goals exact hE1.symm
  ·obtain rfl:j=n:=oO;have hf0:gF ⟨name,m,o,g,yy,d,sh⟩ A B L=0:=by rw[hfj,il oO];rfl
   have hend:=hend hf0;have hE8:=hE8 hf0;have hij:=fun i hi=>hij i hi hf0
   have hdv:=fun i hi=>hdv i hi hf0
   clear hR hcs hfst hE1 hfj hf0;refine dH @l1 ?_;refine af (α:=Nat) (fun i=>j-i) (fun i=>⟨[(2, .v (.sl (L.map iI.pv))),(3, .p 1000 0 0),(4, .p 1001 0 0),(11,E' i)],[(1000,⟨0,[.v (.s name), .v (.s m), .v (.s o), .v (.s g), .v (.s yy), .v (E d), .v (.sl (sh.map .s))],false,none⟩),(1001,⟨0,[.v (.s A), .v (.s B)],false,none⟩)],1025⟩) (fun i=>i<=j/\(pts.take i).Nodup) 0 (fun _=>bQ rfl) ⟨aI _,by simp⟩ ?_ ?_
   ·exact lE
   ·rintro i ⟨hi,hnd⟩ R hR
    by_cases hlt:i<j
    ·have e1:=hS i hlt;have hi0:=hij i hlt;have p1':=(hp i hlt).1;have hgo:=fun h=>hR (i+1) ⟨hlt,h⟩ oO
     have hnew:=fun h=>sj hnd (show i<pts.length by omega) h
     have hnw: ∀k,k<i->pts.getD k 0=pts.getD i 0->R0= .tup [.s [],E 8]:=fun k hk h=>hE8 fun hN=>BD hN (show i<pts.length by omega) (by
      rw[<-h,br,bw oO];exact uk.2 ⟨k,oO,rfl⟩)
     have hin: ∀(x k:Nat),k<i->x∉pts.take k->x≠pts.getD k 0->x∉pts.take (k+1):=fun x k hk h1 h2 h=>by
      rw[cF 0 (show k<pts.length by omega)]at h
      rcases gT.1 h with h|h
      ·exact h1 h
      ·exact h2 (cR.1 h)
     clear hR hend hE8 hdv;generalize L.getD i jc=s at*;obtain⟨x,dd,ch,rs,gs,ls'⟩:=s;simp only at hi0 p1';obtain⟨x,rfl⟩: ∃t:Nat,x=t:=⟨_,hi0⟩;rw[Int.toNat_natCast]at p1';rw[p1']at hnew hnw;simp only[iI.pv]at e1;refine dH @l1 ?_;refine af (α:=Nat) (fun k=>i-k) (fun k=>⟨[(2, .v (.sl (L.map iI.pv))),(3, .p 1000 0 0),(4, .p 1001 0 0),(11,E' i),(12,E' k)],[(1000,⟨0,[.v (.s name), .v (.s m), .v (.s o), .v (.s g), .v (.s yy), .v (E d), .v (.sl (sh.map .s))],false,none⟩),(1001,⟨0,[.v (.s A), .v (.s B)],false,none⟩)],1030⟩) (fun k=>k<=i/\x∉pts.take k) 0 (fun _=>bQ rfl) ⟨aI _,by simp⟩ ?_ ?_
     ·exact lE
     ·rintro k ⟨hk,hxk⟩ R' hR'
      by_cases hkl:k<i
      ·have e2:=hS k oO;have hk0:=hij k oO;have p2':=(hp k oO).1;have hgo:=fun h=>hR' (k+1) ⟨hkl,h⟩ oO
       have hin:=hin x k hkl hxk;have hnw:=hnw k hkl;rw[p2']at hin hnw;clear hR' hS hij hp hnew;generalize L.getD k jc=s at*;obtain⟨x2,dd2,ch2,rs2,gs2,ls2⟩:=s;simp only at hk0 hin hnw;obtain⟨x2,rfl⟩: ∃t:Nat,x2=t:=⟨_,hk0⟩;rw[Int.toNat_natCast]at hin hnw;simp only[iI.pv]at e2
       by_cases hxe:x=x2
       ·subst hxe;have hnw:=hnw rfl;clear hgo hin;repeat' first|simp only[go_sem,seval,l1,e1,e2,iq]|refine oE ?_|apply xX<;>intro hc
        all_goals exact hnw.symm
       ·have hgo:=hgo (hin hxe);have hne:((x:Int)==(x2:Int))=false:=by simpa using fun h:(x:Int)=x2=>hxe oO
        clear hin hnw;exact jN (aN @l1 (aN @e1 (aN @e2 @hne))) @hgo
      ·obtain rfl:k=i:=oO;have hgo:=hgo (hnew hxk);clear hR' hS hij hp hnew hnw hin;exact zg0 @hgo
    ·obtain rfl:i=j:=oO;rw[cl oO]at hnd;obtain⟨v,w,hR0,a2,p1⟩:=hend hnd;rw[hR0];clear hR hE8 hend hnd;refine dH @l1 ?_;refine af (α:=Nat) (fun r=>d-r) (fun r=>match r with|0=>⟨[(2, .v (.sl (L.map iI.pv))),(3, .p 1000 0 0),(4, .p 1001 0 0),(13, .sn),(14, .sn),(15, .v (.i .i64 0))],[(1000,⟨0,[.v (.s name), .v (.s m), .v (.s o), .v (.s g), .v (.s yy), .v (E d), .v (.sl (sh.map .s))],false,none⟩),(1001,⟨0,[.v (.s A), .v (.s B)],false,none⟩)],1032⟩|r+1=>⟨[(2, .v (.sl (L.map iI.pv))),(3, .p 1000 0 0),(4, .p 1001 0 0),(13, .rs 1043 r 0 (r+1) 1),(14, .rs 1052 r 0 (r+1) 1),(15,E' (r+1))],[(1000,⟨0,[.v (.s name), .v (.s m), .v (.s o), .v (.s g), .v (.s yy), .v (E d), .v (.sl (sh.map .s))],false,none⟩),(1001,⟨0,[.v (.s A), .v (.s B)],false,none⟩),(1043,⟨r,aX me (pts.take (r+1)),true,some 3⟩),(1052,⟨r,aX cZ (gN.take (r+1)),true,some 22⟩)],1057⟩) (fun r=>r<=d) 0 (fun r=>by cases r<;>exact bQ rfl) (aI _) ?_ ?_
     ·show AS.Le _ _;exact lE
     ·intro r hr R hR
      cases r with
      |zero=>
       have hgo:=hR 1 oO oO;have e1:=hS 0 oO;obtain⟨p1',p2'⟩:=hp 0 oO;have hi0:=hij 0 oO;have hd0:=hdv 0 oO;have u1:pts.take 1=[(L.getD 0 jc).i.toNat]:=(cF 0 (show 0<pts.length by omega)).trans (by rw[p1',List.take_zero];rfl)
       have u2:gN.take 1=[num (L.getD 0 jc).d]:=(cF 0 (show 0<gN.length by omega)).trans (by rw[p2',List.take_zero];rfl)
       clear hR hS hp hij hdv;generalize L.getD 0 jc=s at*;obtain⟨x,dd,ch,rs,gs,ls'⟩:=s;simp only at hi0 hd0 u1 u2;obtain⟨x,rfl⟩: ∃t:Nat,x=t:=⟨_,hi0⟩;rw[Int.toNat_natCast]at u1;have u3:aX me [x]=[.v (E x)]:=rfl;have u4:aX cZ [num dd]=[.v (.s dd)]:=by rw[hd0];rfl
       simp only[iI.pv]at e1;simp only[u1,u2,u3,u4]at hgo;exact jN (aN @l1 @e1) @hgo
      |succ r=>
       have q1:=cj og (pts.take (r+1));have q2:=cj AL (gN.take (r+1));rw[bL,kj oO,db]at q1 q2;have q3:=cq og (pts.take (r+1));have q4:=cq AL (gN.take (r+1));rw[bL,kj oO,db]at q3 q4
       by_cases hrd:r+1<d
       ·have hgo:=hR (r+2) oO oO;have e1:=hS (r+1) oO;obtain⟨p1',p2'⟩:=hp (r+1) oO;have hi0:=hij (r+1) oO;have hd0:=hdv (r+1) oO;have u1:pts.take (r+1+1)=pts.take (r+1)++[(L.getD (r+1) jc).i.toNat]:=by rw[cF 0 (show r+1<pts.length by omega),p1']
        have u2:gN.take (r+1+1)=gN.take (r+1)++[num (L.getD (r+1) jc).d]:=by rw[cF 0 (show r+1<gN.length by omega),p2']
        clear hR hS hp hij hdv;generalize L.getD (r+1) jc=s at*;obtain⟨x,dd,ch,rs,gs,ls'⟩:=s;simp only at hi0 hd0 u1 u2;obtain⟨x,rfl⟩: ∃t:Nat,x=t:=⟨_,hi0⟩;rw[Int.toNat_natCast]at u1;have u3:aX me (pts.take (r+1)++[x])=aX me (pts.take (r+1))++[.v (E x)]:=bU ..;have u4:aX cZ (gN.take (r+1)++[num dd])=aX cZ (gN.take (r+1))++[.v (.s dd)]:=by rw[bU,hd0];rfl
        simp only[iI.pv]at e1;simp only[u1,u2,u3,u4]at hgo;refine dI (aN @l1 (aN @e1 (aN @q1 (aN @q2 (aN @q3 @q4))))) ?_;refine hgo _ ?_;refine lG ?_;all_goals exact⟨fun c hc=>hc.elim (fun h=>cL h) fun h=>by rw[h];rfl,fun c hc=>hc.elim (fun h=>cL h) fun h=>by rw[h];rfl⟩
       ·obtain rfl:d=r+1:=oO;have tp:(pts.take (r+1)).length=r+1:=by rw[bL];omega
        have te:(gN.take (r+1)).length=r+1:=by rw[bL];omega
        have q5:=cJ og (pts.take (r+1));have q6:=cJ AL (gN.take (r+1));have q7:=dQ og (pts.take (r+1));have q8:=dQ AL (gN.take (r+1));rw[tp]at q5;rw[te]at q6;clear hR hS hp hij hdv;repeat' first|simp only[go_sem,seval,l1,q1,q2,q3,q4]|(refine o5 a2 (by simp[bz,view,ay,q1,q2,q3,q4,q5,q6,q7,q8,ec]) rfl ?_)|refine cP o1 ?_|refine cP VZ ?_|refine cP p1 ?_|refine oE ?_|apply xX<;>intro hc
        all_goals rfl
theorem UE (A B:Bytes):aE 6 [HM A B] (.b (decide (A.length<=12/\B.length<=12))):=by
 by_cases h1:A.length<=12
 case neg=>
  rw[aG fun h=>h1 h.1]
  refine eW call6 func6 ?_;exact z0
 by_cases h2:B.length<=12
 ·rw[aJ ⟨h1,h2⟩];have d2:decide ((B.length:Int)<=12)=true:=aJ oO;refine eW call6 func6 ?_;exact gi @d2
 ·rw[aG fun h=>h2 h.2]
  have d2:decide ((B.length:Int)<=12)=false:=aG oO;refine eW call6 func6 ?_;exact gi @d2
theorem Ak {α:Type} {p:α->Bool} {l:List α} {n i:Nat} (d:α) (hi:i<l.length) (hn:i<n) (h:p (l.getD i d)=false):(l.take n).all p=false:=by
 rw[ue];refine⟨l.getD i d,?_,by rw[h];simp⟩
 rw[br,bw hi];exact uk.2 ⟨i,oO,rfl⟩
theorem Aj {α:Type} {p:α->Bool} {l:List α} {n:Nat} (d:α) (h: ∀i,i<n->i<l.length->p (l.getD i d)=true):(l.take n).all p=true:=by
 rw[bH];intro x hx;obtain⟨i,hi,rfl⟩:=uk.1 hx;have:=h i oO oO
 rwa[br,bw oO]at this
def By (x:Bool×Bytes):Bool:=decide (x.2.length<=24)
def Ad (s:iI):Bool:=(s.rs.take 10).all By&&((s.gs.take 10).all (fun x=>decide (x.length<=24))&&((s.ls.take 10).all (fun l=>decide (l.length<=4))&&decide (s.d.length<=12/\s.ch.length<=24/\s.rs.length<=6/\s.gs.length<=6/\s.ls.length<=6)))
structure Js (s:iI):Prop where
 a:s.rs.length<4611686018427387904
 b:s.gs.length<4611686018427387904
 c:s.ls.length<4611686018427387904
 l: ∀l∈s.ls,l.length<4611686018427387904
theorem Kf (s:iI) (h:Js s):aE 14 [s.pv] (.b (Ad s)):=by
 obtain⟨b1,b2,b3,b4⟩:=h;unfold Ad;obtain⟨S,hS⟩: ∃S,S=decide (s.d.length<=12/\s.ch.length<=24/\s.rs.length<=6/\s.gs.length<=6/\s.ls.length<=6):=⟨_,rfl⟩;rw[<-hS];obtain⟨ix,d,ch,rs,gs,ls⟩:=s;simp only[iI.pv]at*;have l1:(rs.map cT).length=rs.length:=aC ..;have l2:(gs.map PV.s).length=gs.length:=aC ..;have l3:(ls.map pY).length=ls.length:=aC ..;obtain⟨p1,hp1⟩: ∃b,b=(rs.take 10).all By:=⟨_,rfl⟩;obtain⟨p2,hp2⟩: ∃b,b=(gs.take 10).all (fun x=>decide (x.length<=24)):=⟨_,rfl⟩
 obtain⟨p3,hp3⟩: ∃b,b=(ls.take 10).all (fun l=>decide (l.length<=4)):=⟨_,rfl⟩
 rw[<-hp1,<-hp2,<-hp3];refine eW call14 func14 ?_;refine qB ?_;refine af (α:=Nat) (fun i=>rs.length-i) (fun i=>⟨[(1, .p 1000 0 0),(3, .p 1004 0 0),(4,E' i)],[(1000,⟨0,[.v (E ix), .v (.s d), .v (.s ch), .v (.sl (rs.map cT)), .v (.sl (gs.map .s)), .v (.sl (ls.map pY))],false,none⟩),(1004,⟨0,[.v (.s ch), .v (.sl (rs.map cT)), .v (.sl (gs.map .s)), .v (.sl (ls.map pY))],false,some 45⟩)],_⟩) (fun i=>i<=rs.length/\i<=10/\ ∀j,j<i->By (rs.getD j (false,[]))=true) 0 (fun _=>aA _) ⟨aI _,aI _,fun j hj=>oO⟩ ?_ ?_
 ·exact lE
 ·rintro i ⟨hi,h10,hal⟩ R hR
  by_cases hlt:i<rs.length/\i<10
  ·obtain⟨h1,h2⟩:=hlt;have e1:=getD_map cT rs (false,[]) h1;have hgo:=fun h=>hR (i+1) ⟨oO,oO,h⟩ oO
   have hbad:=fun h=>hp1.trans (Ak (p:=By) (n:=10) (false,[]) h1 h2 h)
   have hnx:By (rs.getD i (false,[]))=true-> ∀j,j<i+1->By (rs.getD j (false,[]))=true:=fun h j hj=>by
    by_cases e:j=i
    ·subst e;exact h
    ·exact hal j oO
   clear hR hal hp1 hp2 hp3;generalize rs.getD i (false,[])=x at*;obtain⟨ng,xb⟩:=x;simp only[cT]at e1
   by_cases hx:xb.length<=24
   ·have hgo:=hgo (hnx (aJ hx));clear hnx hbad;exact jN (aN @l1 @e1) @hgo
   ·have hbad:=hbad (aG hx);subst hbad;rw[dK];clear hgo hnx;exact gi (aN @l1 @e1)
  ·have hg1:10<=i->S=false:=fun h=>by rw[hS];exact aG oO
   have hp1':p1=true:=hp1.trans (Aj (false,[]) fun j h1 h2=>hal j oO)
   subst hp1';rw[cr];clear hR hal hp1;have hend:i<rs.length->10<=i:=fun h=>oO
   repeat' first|simp only[go_sem,seval,l1]|refine oE ?_|apply xX<;>intro hc
   all_goals
    refine af (α:=Nat) (fun i=>gs.length-i) (fun i=>⟨[(1, .p 1000 0 0),(3, .p 1004 0 0),(5,E' i)],[(1000,⟨0,[.v (E ix), .v (.s d), .v (.s ch), .v (.sl (rs.map cT)), .v (.sl (gs.map .s)), .v (.sl (ls.map pY))],false,none⟩),(1004,⟨0,[.v (.s ch), .v (.sl (rs.map cT)), .v (.sl (gs.map .s)), .v (.sl (ls.map pY))],false,some 45⟩)],_⟩) (fun i=>i<=gs.length/\i<=10/\ ∀j,j<i->decide ((gs.getD j []).length<=24)=true) 0 (fun _=>aA _) ⟨aI _,aI _,fun j hj=>oO⟩ ?_ ?_
    ·exact lE
    ·rintro i ⟨hi,h10,hal⟩ R hR
     by_cases hlt:i<gs.length/\i<10
     ·obtain⟨h1,h2⟩:=hlt;have e1:=eN h1;have hgo:=fun h=>hR (i+1) ⟨oO,oO,h⟩ oO
      have hbad:=fun h=>hp2.trans (Ak (p:=fun x:Bytes=>decide (x.length<=24)) (n:=10) [] h1 h2 h)
      have hnx:decide ((gs.getD i []).length<=24)=true-> ∀j,j<i+1->decide ((gs.getD j []).length<=24)=true:=fun h j hj=>by
       by_cases e:j=i
       ·subst e;exact h
       ·exact hal j oO
      clear hR hal hp2 hp3;generalize gs.getD i []=xb at*
      by_cases hx:xb.length<=24
      ·have hgo:=hgo (hnx (aJ hx));clear hnx hbad;exact jN (aN @l2 @e1) @hgo
      ·have hbad:=hbad (aG hx);subst hbad;rw[dK];clear hgo hnx;exact gi (aN @l2 @e1)
     ·have hg2:10<=i->S=false:=fun h=>by rw[hS];exact aG oO
      have hp2':p2=true:=hp2.trans (Aj [] fun j h1 h2=>hal j oO)
      subst hp2';rw[cr];clear hR hal hp2;repeat' first|simp only[go_sem,seval,l2]|refine oE ?_|apply xX<;>intro hc
      all_goals
       refine af (α:=Nat) (fun i=>ls.length-i) (fun i=>⟨[(1, .p 1000 0 0),(3, .p 1004 0 0),(6,E' i)],[(1000,⟨0,[.v (E ix), .v (.s d), .v (.s ch), .v (.sl (rs.map cT)), .v (.sl (gs.map .s)), .v (.sl (ls.map pY))],false,none⟩),(1004,⟨0,[.v (.s ch), .v (.sl (rs.map cT)), .v (.sl (gs.map .s)), .v (.sl (ls.map pY))],false,some 45⟩)],_⟩) (fun i=>i<=ls.length/\i<=10/\ ∀j,j<i->decide ((ls.getD j []).length<=4)=true) 0 (fun _=>aA _) ⟨aI _,aI _,fun j hj=>oO⟩ ?_ ?_
       ·exact lE
       ·rintro i ⟨hi,h10,hal⟩ R hR
        by_cases hlt:i<ls.length/\i<10
        ·obtain⟨h1,h2⟩:=hlt;have e1:=getD_map pY ls [] h1;have e2: ∀l:List (Bool×Bytes),(l.map cT).length=l.length:=fun l=>aC ..
         have hb4:=b4 _ (an [] h1);have hgo:=fun h=>hR (i+1) ⟨oO,oO,h⟩ oO
         have hbad:=fun h=>hp3.trans (Ak (p:=fun x:List (Bool×Bytes)=>decide (x.length<=4)) (n:=10) [] h1 h2 h)
         have hnx:decide ((ls.getD i []).length<=4)=true-> ∀j,j<i+1->decide ((ls.getD j []).length<=4)=true:=fun h j hj=>by
          by_cases e:j=i
          ·subst e;exact h
          ·exact hal j oO
         clear hR hal hp3;generalize ls.getD i []=xb at*;simp only[pY]at e1
         by_cases hx:xb.length<=4
         ·have hgo:=hgo (hnx (aJ hx));clear hnx hbad;exact jN (aN @l3 (aN @e1 @e2)) @hgo
         ·have hbad:=hbad (aG hx);subst hbad;rw[dK];clear hgo hnx;exact gi (aN @l3 (aN @e1 @e2))
        ·have hg3:10<=i->S=false:=fun h=>by rw[hS];exact aG oO
         have hp3':p3=true:=hp3.trans (Aj [] fun j h1 h2=>hal j oO)
         subst hp3';rw[cr];clear hR hal hp3;repeat' first|simp only[go_sem,seval,l3]|refine oE ?_|apply xX<;>intro hc
         all_goals
          clear hg1 hg2 hg3 hend b4;rw[hS];clear hS;repeat' first|simp only[go_sem,seval,l1,l2,l3]|refine oE ?_|apply xX<;>intro hc
          all_goals refine congrArg PV.b ?_
          all_goals first
           |(apply Eq.symm;apply aG;omega)
           |(apply Eq.symm;apply aJ;omega)
           |(rw[mD];omega)
           |fail
theorem oX {s:iI} (h:Ad s=true) (hl:Js s):s.UM/\ ∀x∈s.rs,x.2.length<=24:=by
 unfold Ad at h;simp only[ba,cK]at h;obtain⟨h1,-,-,-,-,h2,h3,h4⟩:=h;refine⟨⟨oO,oO,oO,hl.l⟩,fun x hx=> ?_⟩
 rw[cl oO,bH]at h1;exact of_decide_eq_true (h1 x hx)
theorem UD (c:CK) (hc:c.sh.length<4611686018427387904) (A B:Bytes) (L:List iI) (hL:L.length<4611686018427387904) (hX: ∀s∈L,Js s):aE 4 [c.pv,HM A B, .sl (L.map iI.pv)] (.b true):=by
 have hf:=JY c hc;have hp:=UE A B;have ha:=Gp;obtain⟨n,hn⟩: ∃n,n=L.length:=⟨_,rfl⟩;have l1:(L.map iI.pv).length=n:=by rw[aC,hn]
 cases hfb:Cw c with
 |false=>
  rw[hfb]at hf;clear hfb;obtain⟨name,m,o,g,yy,need,sh⟩:=c;simp only[CK.pv]at*;refine eW call4 func4 ?_;exact z2 @hf @ha
 |true=>
 rw[hfb]at hf
 by_cases hpb:A.length<=12/\B.length<=12
 case neg=>
  rw[aG hpb]at hp;clear hfb;obtain⟨name,m,o,g,yy,need,sh⟩:=c;simp only[CK.pv]at*;refine eW call4 func4 ?_;exact z4 @hf @hp @ha oT
 rw[aJ hpb]at hp
 by_cases hx:n<=6
 case neg=>
  clear hfb;obtain⟨name,m,o,g,yy,need,sh⟩:=c;simp only[CK.pv]at*;refine eW call4 func4 ?_;exact wJ @l1 @hf @hp @ha oT
 have hs:c.m.length<=8/\c.o.length<=8/\c.g.length<=12/\c.y.length<=12/\c.sh.length<=8/\c.name.length<=60:=by
  unfold Cw at hfb;rw[ba]at hfb;exact of_decide_eq_true hfb.2
 obtain⟨lm,lo,-,-,ls,ln⟩:=hs;have hS:=fun i (hi:i<n)=>getD_map iI.pv L jc (i:=i) oO
 have hsh:=fun i (hi:i<n)=>Kf _ (hX _ (an jc (show i<L.length by omega)))
 have hcs:=fun i (hi:i<n) (h:Ad (L.getD i jc)=true)=>And.intro (Qv c ln lm lo ls A B (oX h (hX _ (an jc (show i<L.length by omega)))).1) (RZ c ln lm lo ls A B (oX h (hX _ (an jc (show i<L.length by omega)))).1 (oX h (hX _ (an jc (show i<L.length by omega)))).2)
 have hop:=fun h:(∀i,i<n->Ad (L.getD i jc)=true)=>(fun g: ∀s∈L,Ad s=true=>And.intro (JO c ln lm lo ls A B (L:=L) oO fun s hs=>(oX (g s hs) (hX s hs)).1) (KQ c ln lm lo ls A B (L:=L) oO (fun s hs=>(oX (g s hs) (hX s hs)).1) fun s hs=>(oX (g s hs) (hX s hs)).2)) (fun s hs=>by
  obtain⟨i,hi,rfl⟩:=List.mem_iff_getElem.1 hs;have:=h i oO
  rwa[br,bw hi]at this)
 have hopv: ∃(v:Bytes) (e:Int),nH c A B L= .tup [.s v,E e]:=by
  unfold nH;split
  ·exact⟨_,_,rfl⟩
  ·exact⟨_,_,rfl⟩
 obtain⟨vo,eo,hv⟩:=hopv;rw[hv]at hop;clear hfb hv;obtain⟨cE,hcE⟩: ∃f,f=Xl c A B:=⟨_,rfl⟩;rw[<-hcE]at hcs;clear hcE;obtain⟨name,m,o,g,yy,need,sh⟩:=c;simp only[CK.pv]at*;have e6: ∀ _:True,decide ((n:Int)>6)=false:=fun _=>aG oO
 refine eW call4 func4 ?_;refine HH (aN @l1 (e6 oT)) @hf @hp ?_;refine af (α:=Nat) (fun j=>n-j) (fun j=>⟨[(2, .v (.sl (L.map iI.pv))),(3, .p 1000 0 0),(4, .p 1001 0 0),(7,E' j)],[(1000,⟨0,[.v (.s name), .v (.s m), .v (.s o), .v (.s g), .v (.s yy), .v (E need), .v (.sl (sh.map .s))],false,none⟩),(1001,⟨0,[.v (.s A), .v (.s B)],false,none⟩)],_⟩) (fun j=>j<=n/\ ∀i,i<j->Ad (L.getD i jc)=true) 0 (fun _=>aA _) ⟨aI _,fun i hi=>oO⟩ ?_ ?_
 ·exact lE
 ·rintro j ⟨hj,hal⟩ R hR
  by_cases hlt:j<n
  ·have e1:=hS j hlt;have h1:=hsh j hlt;have h2:=hcs j hlt;have hgo:=fun h=>hR (j+1) ⟨hlt,h⟩ oO
   have hnx:Ad (L.getD j jc)=true-> ∀i,i<j+1->Ad (L.getD i jc)=true:=fun h i hi=>by
    by_cases e:i=j
    ·subst e;exact h
    ·exact hal i oO
   clear hR hS hsh hcs hop hal
   cases hb:Ad (L.getD j jc)with
   |false=>
    rw[hb]at h1;clear h2 hgo hnx hb;generalize L.getD j jc=s at*;obtain⟨ix,d,ch,rs,gs,ls'⟩:=s;simp only[iI.pv]at e1 h1;exact B8 (aN @l1 @e1) @h1 @ha
   |true=>
    rw[hb]at h1;obtain⟨h2,h3⟩:=h2 hb;have hgo:=hgo (hnx hb);clear hnx hb;generalize L.getD j jc=s at*;have e2:=lF (cE s);generalize cE s=e at*;obtain⟨ix,d,ch,rs,gs,ls'⟩:=s;simp only[iI.pv]at e1 h1 h2 h3;exact aaB (aN @l1 (aN @e1 @e2)) @hgo @h1 @h2 @h3 oT
  ·obtain rfl:j=n:=oO;obtain⟨o1,o2⟩:=hop hal;have e1:=iq vo;have e2:=iq eo;clear hR hS hsh hcs hop hal;exact wJ (aN @l1 (aN @e1 @e2)) @o1 @o2 @ha oT
end Go.Proofs.Tryz
namespace Go.Proofs.YtkmahpcpmgedkaaGreatDoor
open Go Go.Dom Go.ChangeShapes Go.WideShapes Go.ChangeAt Go.RowKit Go.Proofs.Tryz
variable {k:Nat} {ps:List PV}
theorem aao:Ta Tryz.prog 9 31=true:=by kernel_rfl
theorem YH (h:ow Tryz.prog 9 31 ps): ∃a b:Bytes, .agg ps=HM a b:=by
 rw[ow,Tryz.underlying31]at h;simp only[AA,cN]at h;obtain⟨h1,h2,h3⟩:=h;obtain⟨a,h1⟩:=Dp h1;obtain⟨b,h2⟩:=Dp h2;exact⟨a,b,by rw[tk h1,tk h2,h3]⟩
theorem uB:Tryz.prog.underlying 4=some .bool:=by kernel_rfl
theorem uLI:Tryz.prog.underlying 42=some (.slice 77):=by kernel_rfl
theorem aay:Tryz.prog.underlying 43=some (.slice 42):=by kernel_rfl
theorem cB:Tryz.prog.cellsOf 4=1:=by kernel_rfl
theorem cLI:Tryz.prog.cellsOf 42=1:=by kernel_rfl
theorem ZE:Tryz.prog.cellsOf 43=1:=by kernel_rfl
theorem isI:j4 Tryz.prog 77=true:=by kernel_rfl
theorem ZM:j4 Tryz.prog 42=false:=by kernel_rfl
theorem bI:Tryz.prog.bytesOf 77=24:=by kernel_rfl
theorem bLI:Tryz.prog.bytesOf 42=24:=by kernel_rfl
theorem cSi:Tryz.prog.cellsOf 45=4:=by kernel_rfl
theorem YT:Tryz.prog.underlying 57=some (.slice 47):=by kernel_rfl
theorem ZN:j4 Tryz.prog 47=true:=by kernel_rfl
theorem bSh:Tryz.prog.bytesOf 47=112:=by kernel_rfl
theorem XF:Ta Tryz.prog 9 57=true:=by kernel_rfl
theorem Wg (h:ow Tryz.prog (k+2) 77 ps): ∃(n:Bool) (a:Bytes),ps=[.b n, .s a]:=by
 rw[ow,Tryz.underlying77]at h;simp only[AA,cB,cN]at h;obtain⟨h1,h2,h3⟩:=h;simp only[ow,uB]at h1;obtain⟨n,h1⟩:=h1;obtain⟨a,h2⟩:=Dp h2;exact⟨n,a,by rw[tk h1,tk h2,h3]⟩
theorem Tr (h:ow Tryz.prog (k+3) 42 ps): ∃l:List (Bool×Bytes),ps=[.sl (l.map cT)]/\l.length*24<=reachBytes:=by
 rw[ow,uLI]at h;simp only[isI,bI,ax]at h;obtain⟨l,rfl,hb,hl⟩:=h;obtain⟨is,rfl⟩:=CI (f:=cT) (l:=l) fun x hx=>by
  obtain⟨h1,m,rfl⟩:=hl x hx;obtain⟨n,a,h1⟩:=Wg h1;have h1:m=[.b n, .s a]:=h1;exact⟨(n,a),by rw[h1];rfl⟩
 exact⟨is,rfl,by simpa using hb⟩
theorem Wh (h:ow Tryz.prog (k+4) 43 ps): ∃l:List (List (Bool×Bytes)),ps=[.sl (l.map pY)]/\l.length*24<=reachBytes/\ ∀x∈l,x.length*24<=reachBytes:=by
 rw[ow,aay]at h;simp only[ZM,bLI,bu,aq]at h;obtain⟨l,rfl,hb,hl⟩:=h;obtain⟨is,hi⟩:=CI (f:=fun y:{y:List (Bool×Bytes)//y.length*24<=reachBytes}=>pY y.1) (l:=l) fun x hx=>by
  obtain⟨h1,h2⟩:=hl x hx;obtain⟨y,h1,hy⟩:=Tr h1;exact⟨⟨y,hy⟩,BF h1 h2⟩
 subst hi;refine⟨is.map (·.1),by rw[iV];rfl,by simpa using hb,fun x hx=> ?_⟩
 obtain⟨y,-,rfl⟩:=bm.1 hx;exact y.2
theorem YM (h:ow Tryz.prog (k+5) 45 ps): ∃(ch:Bytes) (rs:List (Bool×Bytes)) (gs:List Bytes) (ls:List (List (Bool×Bytes))),ps=[.s ch, .sl (rs.map cT), .sl (gs.map .s), .sl (ls.map pY)]/\rs.length*24<=reachBytes/\gs.length*16<=reachBytes/\ls.length*24<=reachBytes/\ ∀x∈ls,x.length*24<=reachBytes:=by
 rw[ow,Tryz.underlying45]at h;simp only[AA,cN,cLI,cLN,ZE]at h;obtain⟨h1,h2,h3,h4,h5⟩:=h;obtain⟨ch,h1⟩:=Dp h1;obtain⟨rs,h2,b2⟩:=Tr h2;obtain⟨gs,h3,b3⟩:=Ts h3;obtain⟨ls,h4,b4,b5⟩:=Wh h4;exact⟨ch,rs,gs,ls,by rw[tk h1,tk h2,tk h3,tk h4,h5],b2,b3,b4,b5⟩
theorem YK (h:ow Tryz.prog (k+6) 47 ps): ∃s:iI, .agg ps=s.pv/\Js s:=by
 have rb:=reachBytes_lt;rw[ow,Tryz.underlying47]at h;simp only[AA,cN,cI0,cSi]at h;obtain⟨h1,h2,h3,h4⟩:=h;simp only[ow,uI0]at h1;obtain⟨i,h1,-⟩:=h1;obtain⟨d,h2⟩:=Dp h2;obtain⟨ch,rs,gs,ls,h3,b1,b2,b3,b4⟩:=YM h3;refine⟨⟨i,d,ch,rs,gs,ls⟩,by rw[tk h1,tk h2,tk4 h3,h4];rfl,⟨by simp only;omega,by simp only;omega,by simp only;omega,fun l hl=>by have:=b4 l hl;omega⟩⟩
theorem Wi (h:ow Tryz.prog 9 57 ps): ∃L:List iI,ps=[.sl (L.map iI.pv)]/\L.length*112<=reachBytes/\ ∀s∈L,Js s:=by
 rw[ow,YT]at h;simp only[ZN,bSh,ax]at h;obtain⟨l,rfl,hb,hl⟩:=h;obtain⟨is,hi⟩:=CI (f:=fun y:{y:iI//Js y}=>y.1.pv) (l:=l) fun x hx=>by
  obtain⟨h1,m,rfl⟩:=hl x hx;obtain⟨y,h1,hy⟩:=YK h1;exact⟨⟨y,hy⟩,h1⟩
 subst hi;refine⟨is.map (·.1),by rw[iV];rfl,by simpa using hb,fun x hx=> ?_⟩
 obtain⟨y,-,rfl⟩:=bm.1 hx;exact y.2
theorem CT (os:Os) (started:os.Started) (H:Type) (enc:TypeId×Value->H):
  ReturnsInHanded {} Tryz.checked os 4 .any (fun w args=>(Rows.courtOpensSpec.pre enc Tryz.prog Tryz.f4 [] false w args/\laidMetH Tryz.prog wz w)/\sizedMet enc Tryz.prog Tryz.f4 (OpenSpec.ofChange Rows.courtOpensSpec) false w args)
   (Rows.courtOpensSpec.post enc Tryz.prog Tryz.f4 false true false false):=by
 refine returnsInHanded_of_change_and (C:=Tryz.checked) (X:=fun w _=>laidMetH Tryz.prog wz w) (fun _ _ _ hh h=>h.of_heap hh) aap started (by kernel_rfl) Tryz.func4
  (ChangeSpec.witness_shaped (enc:=enc) (C:=Tryz.checked) (os:=os) (X:=fun w _=>laidMetH Tryz.prog wz w) false (World.laidAll Tryz.prog os wz) #[.agg #[.string ⟨#[]⟩, .string ⟨#[]⟩, .string ⟨#[]⟩, .string ⟨#[]⟩, .string ⟨#[]⟩, .int .i64 0, .slice none 0 0], .agg #[.string ⟨#[]⟩, .string ⟨#[]⟩], .slice none 0 0] 8 (World.laidAll_os _ _ _)
   (World.shaped_of_ZipB (by kernel_rfl) (by kernel_rfl)) (by kernel_rfl) (by kernel_rfl) (by kernel_rfl)
   (by rw[MakeChecks.laidMetH_plain _ _ _ (by kernel_rfl)];exact laidMet_laidAll _ (by kernel_rfl) (by kernel_rfl))) ?_
 intro W base args ds gs before hval0 hW hcnd hwt hL _;rw[MakeChecks.laidMetH_plain _ _ _ (by kernel_rfl)]at hL
 have hval: ∀(j:Nat) t v,Tryz.f4.params[j]?=some t->args[j]?=some v->Value.okWide Tryz.prog W .any base t v:=hval0;have hW':=hW;obtain⟨p,q,hA0,hV,rfl,hfz,hnd⟩:=hW;have hA:DataW.TrodAll enc Tryz.prog W 0 (fun _=>true) true Tryz.f4.params.toList args.toList ds p:=hA0
 have hlt: ∀x∈p++q,x.block<W.heap.size:=fun x hx=>hW'.lt x hx
 rw[Tryz.params4]at hA hval;obtain⟨v0,v1,v2,d0,d1,d2,p0,p1,p2,rfl,rfl,rfl,h0,h1,h2⟩:=trodAll_three hA;obtain⟨rfl,rfl⟩:=trodVars_none hV;have hall:=bH.1 hwt;have rb:=reachBytes_lt;have hv0:=hval 0 29 v0 rfl rfl;unfold Value.okWide at hv0;rw[Tryz.underlying29]at hv0;simp only at hv0;obtain⟨c0,rfl,s0,-⟩:=hv0;have w0: ∀m∈d0.weights Tryz.prog 29,m<=reachBytes:=fun m hm=>of_decide_eq_true (hall m (DataW.weights_mem_each (j:=0) rfl rfl m hm))
 obtain⟨n0,t0⟩:=id h0;obtain⟨Tf,r0,o0,y0⟩:=Dl 9 n0 _ c0.toList d0 p0 aan t0 w0;obtain⟨ck,ea0,hck⟩:=YG y0;have q0:PR (Hg W) ck.pv (.agg c0):=by
  rw[<-ea0];have:=PR.agg (rd:=Hg W) Tf c0.toList o0 r0.1 r0.2;simpa using this
 have hv1:=hval 1 31 v1 rfl rfl;unfold Value.okWide at hv1;rw[Tryz.underlying31]at hv1;simp only at hv1;obtain⟨c1,rfl,s1,-⟩:=hv1;have w1: ∀m∈d1.weights Tryz.prog 31,m<=reachBytes:=fun m hm=>of_decide_eq_true (hall m (DataW.weights_mem_each (j:=1) rfl rfl m hm))
 obtain⟨n1,t1⟩:=id h1;obtain⟨BM,r1,o1,y1⟩:=Dl 9 n1 _ c1.toList d1 p1 aao t1 w1;obtain⟨cA,cB,ea1⟩:=YH y1;have q1:PR (Hg W) (HM cA cB) (.agg c1):=by
  rw[<-ea1];have:=PR.agg (rd:=Hg W) BM c1.toList o1 r1.1 r1.2;simpa using this
 have hv2:=hval 2 57 v2 rfl rfl;obtain⟨a2,b2,g2,rfl⟩:=okWide_slice YT hv2;have w2: ∀m∈d2.weights Tryz.prog 57,m<=reachBytes:=fun m hm=>of_decide_eq_true (hall m (DataW.weights_mem_each (j:=2) rfl rfl m hm))
 obtain⟨n2,t2⟩:=id h2;obtain⟨pv2,r2,o2,y2⟩:=Dl 9 n2 _ [.slice a2 b2 g2] d2 p2 XF t2 w2;obtain⟨L,rfl,hL1,hL2⟩:=Wi y2;have q2:PR (Hg W) (.sl (L.map iI.pv)) (.slice a2 b2 g2):=r2.2 0 _ _ rfl rfl;obtain⟨g,hg,hc⟩:=UD ck (by omega) cA cB L (by omega) hL2
 have hg3:g=4:=by
  have a1:=hg #[] W;have a2:=Tryz.call4 #[] W;rw[a1]at a2;injection a2 with a2 _
  injection a2
 subst hg3;refine(hc W (Hg W) [.agg c0, .agg c1, .slice a2 b2 g2] (Lg hL) (fun _ _ _ h=>h) (.cons q0 (.cons q1 (.cons q2 .nil)))).mono ?_
 rintro e W' ⟨v,rfl,hb,hpr⟩;cases hpr;refine⟨_,rfl,Kx (pa:=p0++(p1++p2)) (pv:=[]) hW' (fun _ _ _=>trodAll_mk1 (shut_bool Tu true)) (fun sp hsp=>trodAll_mk3 (WideElems.Trod_stays Nl (by kernel_rfl) (of_decide_eq_true (by kernel_rfl)) h0 (fun x hx=>hb.same (hlt x (by simp[hx]))) (fun x hx=>hsp x (by simp[hx]))) (WideElems.Trod_stays Nl (by kernel_rfl) (of_decide_eq_true (by kernel_rfl)) h1 (fun x hx=>hb.same (hlt x (by simp[hx]))) (fun x hx=>hsp x (by simp[hx]))) (WideElems.Trod_stays Nl (by kernel_rfl) (of_decide_eq_true (by kernel_rfl)) h2 (fun x hx=>hb.same (hlt x (by simp[hx]))) (fun x hx=>hsp x (by simp[hx])))) (fun _ _=>rfl) (by simp) hb (ok_one (by kernel_rfl) rfl (okWide_bool_mk Tu true))⟩
