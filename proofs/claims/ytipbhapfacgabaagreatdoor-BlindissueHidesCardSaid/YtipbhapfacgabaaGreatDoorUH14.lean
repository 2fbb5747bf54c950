/- Part of the proof. -/
import Derived.Test.YtipbhapfacgabaaGreatDoorUH13
set_option linter.all false
namespace Go.Dom
open Go.RowKit
section
variable {C D:Cx} {hf hs hf2:Nat->Option aC} {wr:Nat->Prop} {w w':World} {ns:List Nat} {nm:Nat} {j:Option Nat}
def Src (ns:List Nat) (nm:Nat) (j:Option Nat) (n i:Nat):Prop:=cT ns n=some i\/(cT ns n=none/\n=nm/\j=some i)
structure TC (D L:Cx) (p o:aC):Prop where
 ver:o.ver=p.ver
 gr:o.gr=p.gr
 el:o.el=p.el
 len:o.cells.length=p.cells.length
 cells: ∀(k:Nat) (x y:AV),p.cells[k]?=some x->o.cells[k]?=some y-> ∀v,AR D x v->AR L y v
 pur:(∀x∈p.cells,∃y,x= .v y)->o.cells=p.cells
structure HB (D L:Cx) (hf hs hf2:Nat->Option aC) (ns:List Nat) (nm:Nat) (j:Option Nat):Prop where
 src: ∀n i,Src ns nm j n i->(hs i=none->hf2 n=none)/\ ∀p,hs i=some p-> ∃o,hf2 n=some o/\TC D L p o
 nw:j=none->hf2 nm=none
 fr: ∀n,cT ns n=none->n≠nm->hf2 n=hf n
theorem Left.cases (L:Left C D hf hs wr w w' ns nm j) (H:HB D (C.leave D ns nm j hs w w') hf hs hf2 ns nm j) {n:Nat} {o:aC} (hn:hf2 n=some o):
  (∃i p,Src ns nm j n i/\hs i=some p/\TC D (C.leave D ns nm j hs w w') p o/\(C.leave D ns nm j hs w w').mu n=D.mu i/\(C.leave D ns nm j hs w w').cur n=D.cur i/\(C.leave D ns nm j hs w w').sz n=D.sz i/\(C.leave D ns nm j hs w w').mpn n=D.mpn i)\/
  (cT ns n=none/\n≠nm/\hf n=some o/\(C.leave D ns nm j hs w w').mu n=C.mu n/\(C.leave D ns nm j hs w w').cur n=C.cur n/\(C.leave D ns nm j hs w w').sz n=C.sz n/\(C.leave D ns nm j hs w w').mpn n=C.mpn n):=by
 cases hi:cT ns n with
 |some i=>
  left
  have hsrc:Src ns nm j n i:= .inl hi;obtain⟨h1,h2⟩:=H.src n i hsrc
  cases hp:hs i with
  |none=>rw[h1 hp]at hn;cases hn
  |some p=>
   obtain⟨o',e1,e2⟩:=h2 p hp;rw[hn]at e1;injection e1 with e1;subst e1
   exact⟨i,p,hsrc,hp,e2,by simp only[Cx.leave,hi],by simp only[Cx.leave,hi],by simp only[Cx.leave,hi],by simp only[Cx.leave,hi]⟩
 |none=>
  by_cases e:n=nm
  ·subst e
   cases hj:j with
   |none=>rw[H.nw hj]at hn;cases hn
   |some i=>
    left
    have hsrc:Src ns n j n i:= .inr ⟨hi,rfl,hj⟩;obtain⟨h1,h2⟩:=H.src n i hsrc
    cases hp:hs i with
    |none=>rw[h1 hp]at hn;cases hn
    |some p=>
     obtain⟨o',e1,e2⟩:=h2 p hp;rw[hn]at e1;injection e1 with e1;subst e1
     subst hj;exact⟨i,p,hsrc,hp,e2,by simp[Cx.leave,hi],by simp[Cx.leave,hi],by simp[Cx.leave,hi],by simp[Cx.leave,hi]⟩
  ·right
   rw[H.fr n hi e]at hn;exact⟨rfl,e,hn,by simp[Cx.leave,hi,e],by simp[Cx.leave,hi,e],by simp[Cx.leave,hi,e],by simp[Cx.leave,hi,e]⟩
theorem Src.uniq (L:Left C D hf hs wr w w' ns nm j) {n n' i:Nat} (h:Src ns nm j n i) (h':Src ns nm j n' i):n=n':=by
 rcases h with h|⟨-,h,e⟩<;>rcases h' with h'|⟨-,h',e'⟩
 ·have e1:=dn h;have e2:=dn h';rw[e1]at e2;injection e2
 ·have:=(cv.1 (dn h)).1;have:=L.jk i e';omega
 ·have:=(cv.1 (dn h')).1;have:=L.jk i e;omega
 ·rw[h,h']
theorem Src.kept (L:Left C D hf hs wr w w' ns nm j) {n i:Nat} (h:Src ns nm j n i):i<ns.length\/j=some i:=by
 rcases h with h|⟨-,-,e⟩
 ·exact .inl (cv.1 (dn h)).1
 ·exact .inr e
theorem Left.YU (L:Left C D hf hs wr w w' ns nm j) (hwr: ∀b,w.heap.size<=b->wr b) {b:Nat} (h:C2 C ns w b):wr b:=by
 rcases h with h|⟨n,hn,rfl⟩
 ·exact hwr b h
 ·obtain⟨ob,hob⟩:=L.live n hn;exact L.hC.wr n ob hob
theorem Left.ye (L:Left C D hf hs wr w w' ns nm j) {n:Nat} {o:aC} (hn:hf n=some o) (hi:cT ns n=none): ¬C2 C ns w (C.mu n):=by
 rintro(h|⟨m,hm,e⟩)
 ·have:=L.hC.fX hn;omega
 ·obtain⟨ob,hob⟩:=L.live m hm;have:=L.hC.inj n m o ob hn hob e;subst this;exact yu L.nd hi hm
theorem Left.heap (L:Left C D hf hs wr w w' ns nm j) (hwr: ∀b,w.heap.size<=b->wr b) (H:HB D (C.leave D ns nm j hs w w') hf hs hf2 ns nm j):HR (C.leave D ns nm j hs w w') hf2 wr w':=by
 have hle:=L.leC;refine⟨?_,?_,?_,?_,?_,?_,?_,?_,?_⟩
 ·intro b o v hv;simp only[Cx.leave]at hv
  by_cases hb:b<w.heap.size
  ·rw[ah hb]at hv;have h1:=L.hC.rdw b o v hv;have hnw: ¬C2 C ns w b:=by
    rintro(h|⟨n,hn,rfl⟩)
    ·omega
    ·obtain⟨ob,hob⟩:=L.live n hn;rw[L.hC.sep n ob hob o]at hv;cases hv
   rw[<-h1];exact kF (L.wf.blk b hb hnw)
  ·rw[af hb]at hv
   split at hv
   ·cases hv
   ·exact hv
 ·intro n o hn;rcases L.cases H hn with⟨i,p,hs1,hp,hr,-,hc,-⟩|⟨hi,hne,h1,-,hc,-⟩
  ·refine⟨?_,?_⟩
   ·rcases hs1 with h|⟨-,h,-⟩
    ·obtain⟨ob,hob⟩:=L.live n (jb (dn h));exact .inl (L.hC.live n ob hob).1
    ·exact .inr h
   ·rw[hc,(L.hD.live i p hp).2,hr.ver]
  ·exact⟨.inl (L.hC.live n o h1).1,by rw[hc];exact(L.hC.live n o h1).2⟩
 ·intro n hn
  cases hi:cT ns n with
  |some i=>
   obtain⟨-,h2⟩:=H.src n i (.inl hi)
   cases hp:hs i with
   |none=>simp only[Cx.leave,hi];exact L.hD.dead i hp
   |some p=>obtain⟨o,e1,-⟩:=h2 p hp;rw[hn]at e1;cases e1
  |none=>
   by_cases e:n=nm
   ·subst e
    cases hj:j with
    |none=>simp[Cx.leave,hi]
    |some i=>
     obtain⟨-,h2⟩:=H.src n i (.inr ⟨hi,rfl,hj⟩)
     cases hp:hs i with
     |none=>simp[Cx.leave,hi];exact L.hD.dead i hp
     |some p=>obtain⟨o,e1,-⟩:=h2 p hp;rw[hn]at e1;cases e1
   ·rw[H.fr n hi e]at hn;simp[Cx.leave,hi,e];exact L.hC.dead n hn
 ·intro n o hn k;rcases L.cases H hn with⟨i,p,hs1,hp,hr,hm,-,-⟩|⟨hi,hne,h1,hm,-,-⟩
  ·rw[hm];simp only[Cx.leave]
   by_cases hb:D.mu i<w.heap.size
   ·rw[ah hb,<-L.rd _ hb];exact L.hD.sep i p hp k
   ·rw[af hb,ah ⟨i,p,Src.kept L hs1,hp,rfl⟩]
  ·rw[hm];have:=L.hC.fX h1;simp only[Cx.leave,this,aA];exact L.hC.sep n o h1 k
 ·intro n n' o o' hn hn' hmu;rcases L.cases H hn with⟨i,p,hs1,hp,hr,hm,-,-⟩|⟨hi,hne,h1,hm,-,-⟩<;>rcases L.cases H hn' with⟨i',p',hs1',hp',hr',hm',-,-⟩|⟨hi',hne',h1',hm',-,-⟩
  ·rw[hm,hm']at hmu;have:=L.hD.inj i i' p p' hp hp' hmu;subst this;exact Src.uniq L hs1 hs1'
  ·exfalso
   rw[hm,hm']at hmu;exact L.ye h1' hi' (hmu▸L.hD.wr i p hp)
  ·exfalso
   rw[hm,hm']at hmu;exact L.ye h1 hi (hmu▸L.hD.wr i' p' hp')
  ·rw[hm,hm']at hmu;exact L.hC.inj n n' o o' h1 h1' hmu
 ·intro n o hn;rcases L.cases H hn with⟨i,p,hs1,hp,hr,hm,-,-⟩|⟨hi,hne,h1,hm,-,-⟩
  ·rw[hm];exact L.YU hwr (L.hD.wr i p hp)
  ·rw[hm];exact L.hC.wr n o h1
 ·intro n o hn hk;rcases L.cases H hn with⟨i,p,hs1,hp,hr,hm,-,hz,hq⟩|⟨hi,hne,h1,hm,-,hz,hq⟩
  ·obtain⟨cs,el,g1,g2,g3,g4,g5⟩:=L.hD.obj i p hp (hq▸hk);rw[hm,hz];refine⟨cs,el,g1,g2,by rw[hr.len];exact g3,fun hg=>by rw[hr.len];exact g4 (hr.gr▸hg),fun k x v hx hv=> ?_⟩
   have hk:k<p.cells.length:=by have:=(cv.1 hx).1;rw[hr.len]at this;exact this
   have e:p.cells[k]?=some p.cells[k]:=by simp[hk]
   exact hr.cells k _ x e hx v (g5 k _ v e hv)
  ·obtain⟨cs,el,g1,g2,g3,g4,g5⟩:=L.hC.obj n o h1 (hq▸hk);rw[hm,hz];exact⟨cs,el,(L.wf.blk _ (L.hC.fX h1) (L.ye h1 hi)).trans g1,g2,g3,g4,fun k x v hx hv=>(g5 k x v hx hv).mono hle⟩
 ·intro n o hn hk t ht;rcases L.cases H hn with⟨i,p,hs1,hp,hr,hm,-,-,hq⟩|⟨hi,hne,h1,hm,-,-,hq⟩
  ·rw[hm];exact L.hD.typ i p hp (hq▸hk) t (by rw[<-hr.el];exact ht)
  ·rw[hm];obtain⟨cs,g1⟩:=L.hC.typ n o h1 (hq▸hk) t ht;exact⟨cs,(L.wf.blk _ (L.hC.fX h1) (L.ye h1 hi)).trans g1⟩
 ·intro n o hn hk;rcases L.cases H hn with⟨i,p,hs1,hp,hr,hm,-,-,hq⟩|⟨hi,hne,h1,hm,-,-,hq⟩
  ·obtain⟨es,clk,g1,g2⟩:=L.hD.mp i p hp (hq▸hk);rw[hm];refine⟨es,clk,g1,?_⟩;rw[hr.pur g2.pure];exact g2.mono L.VU
  ·obtain⟨es,clk,g1,g2⟩:=L.hC.mp n o h1 (hq▸hk);rw[hm];exact⟨es,clk,(L.wf.blk _ (L.hC.fX h1) (L.ye h1 hi)).trans g1,g2.mono hle.rd⟩
theorem Left.stay (L:Left C D hf hs wr w w' ns nm j) {base:Nat} (hb:base<=w.heap.size) (H:HB D (C.leave D ns nm j hs w w') hf hs hf2 ns nm j):BI base C (C.leave D ns nm j hs w w') hf hf2:=by
 intro n o hn;rcases L.cases H hn with⟨i,p,hs1,hp,hr,hm,-,-⟩|⟨hi,hne,h1,hm,-,-⟩
 ·rcases L.st i p hp with⟨h1,h2⟩|h
  ·rcases hs1 with h|⟨-,-,e⟩
   ·have e1:=dn h;obtain⟨ob,hob⟩:=L.live n (jb e1);refine .inl ⟨ob,hob,?_⟩;rw[hm,h2];simp[Cx.enter,bR,e1]
   ·have:=L.jk i e;omega
  ·exact .inr (by rw[hm];omega)
 ·exact .inl ⟨o,h1,hm⟩
end
end Go.Dom
namespace Go.Dom
open Go.RowKit
section
variable {C D:Cx} {hf:Nat->Option aC} {wr:Nat->Prop} {w w':World} {ns:List Nat} {nm:Nat} {j:Option Nat} {s:AS}
variable {x y z:AV}
theorem Left.OX (L:Left C D hf (hget s.h) wr w w' ns nm j) {v:Value} {y:PV} (hx:AR D x v) (hy:view (pz ns.length j s) 9 x=some y):PR (C.leave D ns nm j (hget s.h) w w').rd y v:=by
 let D':Cx:={D with cur:=fun n=>if n<ns.length\/j=some n then none else D.cur n}
 have hle:D.Le D':=by
  refine⟨fun _ _ _ h=>h,fun _ h=>h,fun n _ d hd=> ?_,fun _ _=>⟨rfl,fun _=>rfl⟩⟩
  simp only[D']at hd
  split at hd
  ·cases hd
  ·exact⟨d,hd,aB _,fun _=>⟨rfl,rfl⟩⟩
 have hsub: ∀n ob,pz ns.length j s n=some ob-> ¬(n<ns.length\/j=some n)/\hget s.h n=some ob:=by
  intro n ob hn;unfold pz at hn
  split at hn
  ·cases hn
  ·exact⟨by assumption,hn⟩
 have hH:HR D' (pz ns.length j s) (C2 C ns w) w':=by
  refine⟨L.hD.rdw,?_,?_,?_,?_,?_,?_,?_,fun n ob hn=>L.hD.mp n ob (hsub n ob hn).2⟩
  ·intro n ob hn;obtain⟨h1,h2⟩:=hsub n ob hn;exact⟨(L.hD.live n ob h2).1,by simp only[D',h1,ak];exact(L.hD.live n ob h2).2⟩
  ·intro n hn;unfold pz at hn;simp only[D']
   split at hn
   ·rename_i h;rw[ah h]
   ·rename_i h;rw[af h];exact L.hD.dead n hn
  ·exact fun n ob hn=>L.hD.sep n ob (hsub n ob hn).2
  ·exact fun n m ob oc hn hm=>L.hD.inj n m ob oc (hsub n ob hn).2 (hsub m oc hm).2
  ·exact fun n ob hn=>L.hD.wr n ob (hsub n ob hn).2
  ·intro n ob hn hk;obtain⟨cs,el,h1,h2,h3,h4,h5⟩:=L.hD.obj n ob (hsub n ob hn).2 hk;exact⟨cs,el,h1,h2,h3,h4,fun k x v hx hv=>(h5 k x v hx hv).mono hle⟩
  ·exact fun n ob hn=>L.hD.typ n ob (hsub n ob hn).2
 have: ∀b,Decidable (∃n ob,pz ns.length j s n=some ob/\D'.mu n=b):=fun b=>Classical.propDecidable _
 refine(qo hH 9 x y v (hx.mono hle) hy).mono ?_;intro b o v hv;unfold cj at hv
 split at hv
 ·rename_i hex;obtain⟨n,ob,hn,rfl⟩:=hex;obtain⟨h1,h2⟩:=hsub n ob hn;have hge:w.heap.size<=D.mu n:=by
   rcases L.st n ob h2 with⟨h,-⟩|h
   ·exact aJ (.inl h) h1
   ·exact h
  have hnl: ¬D'.mu n<w.heap.size:=by simp only[D'];omega
  simp only[Cx.leave];rw[af hnl,af]
  ·exact hv
  ·rintro⟨m,oc,h3,h4,h5⟩;have:=L.hD.inj m n oc ob h4 h2 h5;subst this;exact h1 h3
 ·exact L.VU b o v hv
theorem Left.fN (L:Left C D hf (hget s.h) wr w w' ns nm j) {v:Value} (hx:AR D x v) (hy:Dom.fN ns.length j s x=some y) (hz:y.ren (gO ns nm)=some z):AR (C.leave D ns nm j (hget s.h) w w') z v:=by
 unfold Dom.fN at hy
 split at hy
 ·rename_i p hp;simp only[ai]at hy;subst hy;simp only[AV.ren,ai]at hz;subst hz;exact .v (L.OX hx (Hq hp))
 ·exact L.back (L.Ta hx hy) hz
theorem Left.Vy (L:Left C D hf (hget s.h) wr w w' ns nm j) {l l' l'':List AV} {vs:List Value} (hl:l.length=vs.length) (hxs: ∀(k:Nat) (x:AV) (v:Value),l[k]?=some x->vs[k]?=some v->AR D x v) (hl':aU (Dom.fN ns.length j s) l=some l') (hl'':AV.ren.renL (gO ns nm) l'=some l''):l''.length=vs.length/\ ∀(k:Nat) (x:AV) (v:Value),l''[k]?=some x->vs[k]?=some v->AR (C.leave D ns nm j (hget s.h) w w') x v:=by
 obtain⟨m1,m2⟩:=cC hl';obtain⟨r1,r2⟩:=n8 hl'';refine⟨by omega,fun k a u ha hu=> ?_⟩
 have hk:=(cv.1 ha).1;have e2:l'[k]?=some (l'[k]'(by omega)):=bG _
 have e1:l[k]?=some (l[k]'(by omega)):=bG _
 exact L.fN (hxs k _ u e1 hu) (m2 k _ _ e1 e2) (r2 k _ a e2 ha)
theorem Left.iA (L:Left C D hf (hget s.h) wr w w' ns nm j) {v:Value} (hx:AR D x v) (hy:Dom.iA ns.length j s x=some y) (hz:y.ren (gO ns nm)=some z):AR (C.leave D ns nm j (hget s.h) w w') z v:=by
 unfold Dom.iA at hy
 split at hy
 ·rename_i p hp;simp only[ai]at hy;subst hy;simp only[AV.ren,ai]at hz;subst hz;exact .v (L.OX hx hp)
 ·split at hy
  ·rename_i l
   split at hy
   ·rename_i l' hl';simp only[ai]at hy;subst hy;simp only[AV.ren]at hz
    split at hz
    ·rename_i l'' hl'';simp only[ai]at hz;subst hz
     cases hx with
     |agg l0 vs hl hxs=>
      obtain⟨g1,g2⟩:=L.Vy hl hxs hl' hl'';exact .agg l'' vs g1 g2
    ·cases hz
   ·cases hy
  ·rename_i g a c
   split at hy
   ·rename_i a' c' ha' hc';simp only[ai]at hy;subst hy;simp only[AV.ren]at hz
    split at hz
    ·rename_i a'' c'' ha'' hc'';simp only[ai]at hz;subst hz
     cases hx with
     |fn _ _ _ va vc hla hlc ha hc=>
      obtain⟨g1,g2⟩:=L.Vy hla ha ha' ha'';obtain⟨g3,g4⟩:=L.Vy hlc hc hc' hc'';exact .fn _ a'' c'' va vc g1 g3 g2 g4
    ·cases hz
   ·cases hy
  ·exact L.back (L.Ta hx hy) hz
theorem Left.Xs (L:Left C D hf (hget s.h) wr w w' ns nm j) {obsA obs:List aC} (hln:ns.length=obsA.length) (hlive: ∀(i n:Nat) (o:aC),ns[i]?=some n->obsA[i]?=some o->hf n=some o) (hob:aU (aC.ren (cT ns)) obsA=some obs)
  {fs:List (Option (Option aC))} {nw:Option aC} (hfin:gU ns.length j s 0 obs fs) (hnw:iF ns.length j s nw) {up:List (Nat×Option aC)} (hup:fT ns nm fs nw=some up):
  HB D (C.leave D ns nm j (hget s.h) w w') hf (hget s.h) (fY hf up) ns nm j:=by
 obtain⟨m1,m2⟩:=cC hob;obtain⟨q1,q2⟩:=MM hfin;have hnn:=L.U8;have hnmem:nm∉ns:=yu L.nd hnn;have hinv: ∀n m,cT ns n=some m->gO ns nm m=some n:=by
  intro n m h;unfold gO;rw[dn h]
 have orel: ∀(p o o':aC),gn ns.length j s p=some o->o.ren (gO ns nm)=some o'->TC D (C.leave D ns nm j (hget s.h) w w') p o':=by
  intro p o o' h1 h2;obtain⟨a1,a2,a3,a4⟩:=Ky h1;obtain⟨b1,b2,b3,b4⟩:=aC.oe h2;obtain⟨c1,c2⟩:=cC a4;obtain⟨d1,d2⟩:=n8 b4;refine⟨b1.trans a1,b2.trans a2,b3.trans a3,by omega,fun k x y hx hy v hv=> ?_,fun hpu=> ?_⟩
  rotate_left
  ·have e:o.cells=p.cells:=by
    refine DD fun k=> ?_
    by_cases hk:k<p.cells.length
    ·have e1:p.cells[k]?=some p.cells[k]:=bG hk;have e2:o.cells[k]?=some (o.cells[k]'(by omega)):=bG _
     obtain⟨y,hy⟩:=hpu _ (jb e1);have:=c2 k _ _ e1 e2;rw[hy]at this;simp only[Dom.fN,eN,view,ai]at this;rw[e1,e2,hy,this]
    ·rw[tX (by omega),tX (by omega)]
   rw[Bt (by rw[e];exact hpu) b4,e]
  have hk:=(cv.1 hx).1;have e:o.cells[k]?=some (o.cells[k]'(by omega)):=bG _
  exact L.fN hv (c2 k x _ hx e) (d2 k _ y e hy)
 obtain⟨l,hl,hul⟩: ∃l,outs (gO ns nm) ns fs=some l/\((nw=none/\up=l)\/ ∃o o',nw=some o/\o.ren (gO ns nm)=some o'/\up=(nm,some o')::l):=by
  unfold fT at hup
  split at hup
  ·rename_i l hl;injection hup with hup;exact⟨l,hl, .inl ⟨rfl,hup.symm⟩⟩
  ·rename_i l o hl
   split at hup
   ·rename_i o' ho';injection hup with hup;exact⟨l,hl, .inr ⟨o,o',rfl,ho',hup.symm⟩⟩
   ·cases hup
  ·cases hup
 obtain⟨k1,k2,k3⟩:=Kz L.nd hl;have look: ∀n,n≠nm->fL up n=fL l n:=by
  intro n hne;rcases hul with⟨-,rfl⟩|⟨o,o',-,-,rfl⟩
  ·rfl
  ·simp only[fL,hne,ak]
   cases fL l n<;>rfl
 refine⟨?_,?_,?_⟩
 ·intro n i hsrc;rcases hsrc with hi|⟨hi,rfl,hj⟩
  ·have e1:=dn hi;have hlt:=(cv.1 e1).1;have e2:obs[i]?=some (obs[i]'(by omega)):=bG _
   have e3:fs[i]?=some (fs[i]'(by omega)):=bG _
   have e4:obsA[i]?=some (obsA[i]'(by omega)):=bG _
   have hne:n≠nm:=fun e=>by rw[e,hnn]at hi;cases hi
   have f1:=q2 i _ _ e2 e3;have f2:=k3 i n _ e1 e3;have f3:=m2 i _ _ e4 e2;have f4:=hlive i n _ e1 e4;rw[fG]at f1;rw[iT,look n hne];generalize fs[i]'(by omega)=f at f1 f2
   match f,f1,f2 with
   |none,f1,f2=>
    obtain⟨p,g1,g2⟩:=f1;simp only at f2;rw[f2];refine⟨fun h=>by rw[g1]at h;(cases h),fun p' hp'=> ?_⟩
    rw[g1]at hp';injection hp' with hp';subst hp'
    exact⟨_,f4,orel p _ _ g2 (aC.CI hinv f3)⟩
   |some none,f1,f2=>
    simp only at f1 f2;rw[f2];exact⟨fun _=>rfl,fun p hp=>by rw[f1]at hp;cases hp⟩
   |some (some o),f1,f2=>
    obtain⟨p,g1,g2⟩:=f1;obtain⟨o',g3,g4⟩:=f2;rw[g4];refine⟨fun h=>by rw[g1]at h;(cases h),fun p' hp'=> ?_⟩
    rw[g1]at hp';injection hp' with hp';subst hp'
    exact⟨o',rfl,orel p _ _ g2 g3⟩
  ·subst hj;rcases hul with⟨rfl,-⟩|⟨o,o',rfl,h2,rfl⟩
   ·simp[iF]at hnw
   ·obtain⟨-,hnw⟩:=hnw
    split at hnw
    ·rename_i p hp;rw[iT];simp only[fL,k2 n hnmem,aA,Option.getD_some];refine⟨fun h=>by rw[hp]at h;(cases h),fun p' hp'=> ?_⟩
     rw[hp]at hp';injection hp' with hp';subst hp'
     exact⟨o',rfl,orel p _ _ hnw h2⟩
    ·exact hnw.elim
 ·intro hj;subst hj;rcases hul with⟨rfl,rfl⟩|⟨o,o',rfl,-,-⟩
  ·rw[iT,k2 nm hnmem]
   cases hn:hf nm with
   |none=>rfl
   |some ob=>exact aJ (L.hC.live nm ob hn).1 L.nm
  ·simp[iF]at hnw
 ·intro n hi hne;rw[iT,look n hne,k2 n (yu L.nd hi)];rfl
end
end Go.Dom
namespace Go.Dom
open Go.RowKit
section
variable {P:Program} [ct P]
theorem jU.NH {f:FuncId} {fn:Func} {code:Code} {sc:SC} {rs:List pM} (hm:P.follows .mixedOrders=true) (hent:Enters P f f) (hfn:P.funcs[f]?=some fn) (hbody:fn.body=some code) (hcomp:comp P fn.ntmps code=some sc) (hres:gT P fn.results.toList=some rs)
  {obs:List aC} {args:List AV} {fs:List (Option (Option aC))} {j:Option Nat} {nw:Option aC} {v:AV} (hlen:args.length<=fn.ntmps) (h:aw P sc (iU rs obs fs j nw v) ⟨args.mapIdx (fun i x=>(i,x)),obs.mapIdx (fun i x=>(i,x)),1000⟩)
  {ns:List Nat} {nm:Nat} {obsA:List aC} {avs:List AV} {v':AV} {up:List (Nat×Option aC)} (hns:ns.length<=1000) (hnd:ns.Nodup) (hln:ns.length=obsA.length) (hob:aU (aC.ren (cT ns)) obsA=some obs) (hav:aU (AV.ren (cT ns)) avs=some args)
  (hv:v.ren (gO ns nm)=some v') (hup:fT ns nm fs nw=some up):jU P f nm (ns.zip obsA) avs v' up:=by
 refine⟨f,hent,fun C hf wr w base vs htr hC hwr hbase hhs hnm hargs=> ?_⟩
 have hlive: ∀(i n:Nat) (o:aC),ns[i]?=some n->obsA[i]?=some o->hf n=some o:=by
  intro i n o h1 h2;exact hhs (n,o) (jb (i:=i) (by rw[List.getElem?_zip_eq_some];exact⟨h1,h2⟩))
 have hol:obs.length=ns.length:=by have:=(cC hob).1;omega
 let E:Env P:=⟨w,C.rd,C2 C ns w,fn.ntmps,C.enter ns,[],fun n hn=>ba hn hns,htr,w.heap.size,[],none,C.enter ns,aB _,by simp,[],by simp⟩
 refine callsIn_wide.1 (callsIn_of_wp_marks (F:=Fence.wide) (n:=0) hfn hbody trivial ?_);obtain⟨m1,m2⟩:=cC hav;have hvl:vs.length=args.length:=by rw[<-m1];exact hargs.1.symm
 have har: ∀{x y:AV} {v:Value},AR C x v->x.ren (cT ns)=some y->AR (C.enter ns) y v:=by
  intro x y v hx hy;refine AR.ren (C:=C) (D:=C.enter ns) (fun n m hnm _=> ?_) (fun n m hnm d hd=> ?_) (fun n m hnm _=>by simp only[Cx.enter,bR,dn hnm,Option.getD_some]) (fun _ _ _ h=>h) hx y hy
  ·exact(cv.1 (dn hnm)).1
  ·have hi:=dn hnm;have gd:ns.getD m 0=n:=by simp[bR,hi]
   simp only[Cx.enter,hi,Option.bind_some]at hd;exact⟨hd,by simp only[Cx.enter,gd],by simp only[Cx.enter,gd]⟩
 have hle1:(C.enter ns).Le {C.enter ns with al:=fun n=>n<1000}:=⟨fun _ _ _ h=>h,fun n hn=>ba hn hns,fun n _ d hd=>⟨d,hd,aB _,fun _=>⟨rfl,rfl⟩⟩,fun _ _=>⟨rfl,fun _=>rfl⟩⟩
 have hE:=hC.enter hnd hln hlive hob;have hH1:HR {C.enter ns with al:=fun n=>n<1000} (Dom.hget (obs.mapIdx fun i x=>(i,x))) (C2 C ns w) w:=
  ⟨hE.rdw,fun n ob hn=>⟨hle1.al n (hE.live n ob hn).1,(hE.live n ob hn).2⟩,hE.dead,hE.sep,hE.inj,hE.wr,fun n ob hn hk=>by
   obtain⟨cs,el,h1,h2,h3,h4,h5⟩:=hE.obj n ob hn hk;exact⟨cs,el,h1,h2,h3,h4,fun k x v hx hv=>(h5 k x v hx hv).mono hle1⟩,hE.typ,hE.mp⟩
 have hs0:mK E ⟨args.mapIdx (fun i x=>(i,x)),obs.mapIdx (fun i x=>(i,x)),1000⟩ {tmps:=vs.toArray++Array.replicate (fn.ntmps-vs.toArray.size) undef,defers:=[]} w:=by
  refine⟨⟨{C.enter ns with al:=fun n=>n<1000},fun _=>iN,hH1,fun _ _=>rfl,⟨⟨Wf.refl _ _,aB _,by simp[E]⟩,⟨hle1,hle1⟩,?_⟩,rfl,?_,?_⟩,?_⟩
  ·intro n ob hn;rw[pS]at hn;exact .inl ⟨by have:=(cv.1 hn).1;simp only[E,Cx.enter];omega,rfl⟩
  ·show(vs.toArray++Array.replicate (fn.ntmps-vs.toArray.size) undef).size=fn.ntmps;simp;omega
  ·intro k;refine AR.mono hle1 ?_;show AR (C.enter ns) (aO (args.mapIdx fun i x=>(i,x)) k) _
   rw[FC]
   by_cases hk:k<args.length
   ·have e1:args[k]?=some args[k]:=by simp[hk]
    have e2:avs[k]?=some (avs[k]'(by omega)):=bG _
    obtain⟨u,hu,hxu⟩:=hargs.get e2;rw[bR,e1,Option.getD_some];have e:(vs.toArray++Array.replicate (fn.ntmps-vs.toArray.size) undef).getD k undef=u:=by
     rw[ja,tH (by simpa using(cv.1 hu).1)]
     simp[hu]
    show AR (C.enter ns) args[k] ((vs.toArray++Array.replicate (fn.ntmps-vs.toArray.size) undef).getD k undef);rw[e];exact har hxu (m2 k _ _ e2 e1)
   ·rw[bR,tX (by omega)];exact .u _
  ·intro n hn;simp only[E,Cx.enter]at hn;show n<1000;omega
 refine wpIn_mono (HI hm code sc E hcomp (fun b hb=> .inl hb) (by simp[E]) (.inl rfl) _ _ _ _ h hs0) ?_
 rintro e a' w1 ⟨E',x,s,hE,-,hxr,⟨hx,hq,hfin,hnw⟩,hsr⟩;obtain⟨⟨D,hal,hD,hrd',⟨hwf,hle,hst⟩,hdf,hsz,htm⟩,-⟩:=hsr;obtain⟨Ds,hD1,hD2,hD3⟩:=hE.df;obtain⟨w',hD,hwf,hlv⟩:=shut (P:=P) Ds w1 hD hwf.wf (fun D hD=>⟨hwf.pn _ (hD3 D hD).1,by rw[hE.w0];exact(hD3 D hD).2⟩) hD2
 rw[hE.w0]at hwf hrd' hst;rw[hE.rd0]at hrd';rw[hE.C0]at hst;have hle:E.C0.Le D:=hE.C0▸hle.c0;have hD:HR D (Dom.hget s.h) E.wr w':=⟨hD.rdw,hD.live,hD.dead,hD.sep,hD.inj,fun n ob hn=>hE.wr _ (hD.wr n ob hn),hD.obj,hD.typ,hD.mp⟩
 have hwf:Wf E.wr w w':=⟨hwf.os,hwf.tape,hwf.output,hwf.size,fun b hb hn=>hwf.blk b hb fun h=>hn (hE.wr b h)⟩
 have hdf:a'.defers=Ds.map mark:=by rw[hdf,hD1];exact jr _
 split at hq
 ·rename_i l p hl;obtain⟨hp,hq⟩:=hq
  split at hq
  ·rename_i l' hl';have L:Left C D hf (Dom.hget s.h) wr w w' ns nm j:=by
    refine⟨hC,hD,hnd,?_,hnm,fun b hb=>hrd' b (.inl hb),hwf,hle,hst,?_⟩
    ·intro n hn;obtain⟨i,hi,rfl⟩:=iv hn;exact⟨_,hlive i _ _ (bG hi) (bG (by omega))⟩
    ·intro n hj;subst hj
     cases nw with
     |none=>simp[iF]at hnw
     |some o=>rw[<-hol];exact hnw.1
   rw[hol]at hfin hnw hl';have H:=L.Xs hln hlive hob hfin hnw hup;obtain⟨us,hus,hrel⟩:=RJ (P:=P) hD htm fn.results.toList rs hres l p hl hp;have hrun:(results fn a'.tmps).run P w'= .ok (if h:us.length=1 then us[0]else .tuple us.toArray) w':=by
    have key:results fn a'.tmps=(Functor.map List.toArray (fn.results.toList.mapM (fun
      | .tmp t=>pure (a'.tmps.getD t undef)
      | .cell q ty=>do loadVar ty (<-asAddr (a'.tmps.getD q undef)):ResultVar->Sem Value)))>>=fun vs=>pure (if h:vs.size=1 then vs[0]else .tuple vs):=by
     unfold results;rw[wY];rfl
    have hus2:(fn.results.toList.mapM (fun
      | .tmp t=>pure (a'.tmps.getD t undef)
      | .cell q ty=>do loadVar ty (<-asAddr (a'.tmps.getD q undef)):ResultVar->Sem Value)).run P w'= .ok us w':=hus
    rw[key];simp only[bT,wV,hus2,Result.andThen,Sem.run_pure]
    by_cases h1:us.length=1
    ·simp[h1]
    ·simp[h1]
   obtain⟨n1,n2⟩:=cC hl';have hval:AR (C.leave D ns nm j (Dom.hget s.h) w w') v' (if h:us.length=1 then us[0]else .tuple us.toArray):=by
    rw[<-hq]at hv;unfold dr at hv
    split at hv
    ·rename_i y;have hl1:l.length=1:=by simpa using n1
     obtain⟨x0,rfl⟩:=pj.1 hl1;obtain⟨u,us',rfl,hu,hnil⟩:=hrel.fO;have:=hnil.dx;subst this;exact L.iA hu (n2 0 x0 y rfl rfl) hv
    ·rename_i hne;have hl1:us.length≠1:=by
      intro h1;have:=hrel.1;have h2:l'.length=1:=by omega
      obtain⟨y,rfl⟩:=pj.1 h2;exact hne y rfl
     rw[dif_neg hl1];simp only[AV.ren]at hv
     split at hv
     ·rename_i l'' hl'';simp only[ai]at hv;subst hv;obtain⟨r1,r2⟩:=n8 hl'';refine .tup l'' us (by have:=hrel.1;omega) fun k a u ha hu=> ?_
      have hk:=(cv.1 ha).1;have e1:l[k]?=some (l[k]'(by omega)):=bG _
      have e2:l'[k]?=some (l'[k]'(by omega)):=bG _
      exact L.iA (hrel.2 k _ u e1 hu) (n2 k _ _ e1 e2) (r2 k _ a e2 ha)
     ·cases hv
   have fin: ∃val C',Ending.returned (if h:us.length=1 then us[0]else .tuple us.toArray)= .returned val/\AR C' v' val/\HR C' (fY hf up) wr w'/\C.Le C'/\(∀n,C'.al n↔C.al n\/n=nm)/\Wf wr w w'/\(∀b,b<base->C'.rd b=C.rd b)/\BI base C C' hf (fY hf up):=by
    refine⟨_,C.leave D ns nm j (Dom.hget s.h) w w',rfl,hval,L.heap (fun b hb=>hwr b (fV hbase hb)) H,L.leC,fun _=>iN,⟨hwf.os,hwf.tape,hwf.output,hwf.size,fun b hb hnw=>hwf.blk b hb fun hin=>hnw (L.YU (fun b hb=>hwr b (fV hbase hb)) hin)⟩,?_,L.stay hbase H⟩
    intro b hb
    funext o
    have:b<w.heap.size:=ba hb hbase;simp[Cx.leave,this]
   cases hxr with
   |normal=>simp only[bodyPostM,hdf];exact hlv _ _ _ ⟨_,hrun,fin⟩
   |ret=>simp only[bodyPostM,hdf];exact hlv _ _ _ ⟨_,hrun,fin⟩
   |exit id=>exact hx.elim
  ·exact hq.elim
 ·exact hq.elim
end
