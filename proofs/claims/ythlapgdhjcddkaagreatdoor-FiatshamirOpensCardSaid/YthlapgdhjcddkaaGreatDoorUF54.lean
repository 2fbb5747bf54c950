/- Part of the proof. -/
import Derived.Test.YthlapgdhjcddkaaGreatDoorUF53
set_option linter.all false
set_option maxHeartbeats 16000000
set_option maxRecDepth 100000
namespace Go.Proofs.Tryz
open Go Go.Dom Go.Num
variable {c ch sl:Bytes} {cl:ik} {gs:List Bytes} {ls:List (List (Bool×Bytes))} {rs:List (Bool×Bytes)}
theorem P3 {s:aT} {i:Nat} (hi:i<s.vars.length) {x:Bool×Bytes} (va:ae x.2=true) {L:Nat} (hL:L<ek):aH 100 [s.pv,E i,ca x,N L] (.b (qM (s.vars.getD i []) x L)):=by
 obtain⟨n,a⟩:=x;simp only at va;have hla:=eU va;have hc:=fD (a:=a) (b:=b7 L) (bJ va) (iF L) oO (by have:=ov.2 hL;omega)
 rw[bG]at hc;have hd: ∀ _:True,decide (a7 (num a) L<0)=decide (num a<L):=fun _=>by rw[cu];simp only[a8];exact fZ
 have e1:=getD_map bO s.vars [] hi;have l2:(s.vars.map bO).length=s.vars.length:=au ..;unfold qM;simp only[ca];generalize a7 (num a) L=cm at*;generalize s.vars.getD i []=b at*;generalize decide (num a<L)=p at*;generalize hb:(b==([]:Bytes))=q at*;simp only[bO]at e1;unfold aT.pv
 cases p<;>cases q<;>cases n<;>
 ·refine eW call100 func100 ?_;repeat' first|simp only[go_sem,seval,hb,bne,hd oT,l2,e1]|refine cP hc ?_|refine oE ?_|apply xX<;>intro hc
  all_goals rfl
theorem CJ {s:aT} (hp:xQ c sl s) (h1:ShN s) {l:List (Bool×Bytes)} (hll:l.length<1000000) (h24: ∀x∈l,x.2.length<=24):aH 49 [.agg [.s c, .s sl],s.pv, .s ch, .sl (l.map ca)] (.tup [.sl (jB c sl s ch l),E (cG (ba s.groups) c sl s.vars ch l)]):=by
 have hr:=hp.r;have hs:=hp.g;have hb:=A7 hp;have lo:=(dZ hs.g).2;clear hp;have vh:=aU ch;have hi:=LC l hll;have l5:(l.map ca).length=l.length:=au ..;have l2:(s.vars.map bO).length=s.vars.length:=au ..;have l6:(s.vars.map fun b=>N (lR (ba s.groups) c sl b)).length=s.vars.length:=au ..
 have nv:=hs.nv
 by_cases g1:ae ch=true/\l.all cr=true
 case neg=>
  have e:(ae ch&&l.all cr)=false:=by rw[dR];intro g;simp at g;exact g1 ⟨g.1,by simpa[bz]using g.2⟩
  have e2:cG (ba s.groups) c sl s.vars ch l=3:=by simp only[cG,e];rfl
  rw[jB,aa (by rw[e2];decide),e2]
  clear e2 hs;unfold aT.pv at*;generalize ae ch=b1 at*;generalize l.all cr=b2 at*;refine eW call49 func49 ?_;repeat' first|simp only[go_sem,seval]|refine cP hb ?_|refine cP vh ?_|refine cP hi ?_|refine oE ?_|apply xX<;>intro hc
  all_goals (exfalso;simp_all)
 obtain⟨vc,hok⟩:=g1;rw[vc]at vh;rw[hok]at hi;have hlc:=eU vc;have hrl:=hr.lc;have hcm:=fD (bJ vc) (bJ hr.vc) oO oO
 by_cases g2:num c<=num ch
 ·have e2:cG (ba s.groups) c sl s.vars ch l=2:=by simp only[cG,vc,hok];rw[aa (by simp),af g2]
  have hd: ∀ _:True,decide (a7 (num ch) (num c)>=0)=true:=fun _=>aQ (dY.2 g2)
  rw[jB,aa (by rw[e2];decide),e2]
  generalize a7 (num ch) (num c)=cm at*;clear e2 hs;unfold aT.pv at*;refine eW call49 func49 ?_;exact ry (hd oT) @hb @vh @hi @hcm
 have hd: ∀ _:True,decide (a7 (num ch) (num c)>=0)=false:=fun _=>aS (fun g=>g2 (dY.1 g))
 by_cases g3:l.length=s.vars.length
 case neg=>
  have e2:cG (ba s.groups) c sl s.vars ch l=6:=by simp only[cG,vc,hok];rw[aa (by simp),aa g2,af g3]
  rw[jB,aa (by rw[e2];decide),e2]
  generalize a7 (num ch) (num c)=cm at*;clear e2 hs;unfold aT.pv at*;refine eW call49 func49 ?_;repeat' first|simp only[go_sem,seval,hd oT,l5,l2]|refine cP hb ?_|refine cP vh ?_|refine cP hi ?_|refine cP hcm ?_|refine oE ?_|apply xX<;>intro hc
  all_goals (exfalso;omega)
 have hms:=Lu hs.m h1 vc g3 h24;have hv:=hs.v;have hval: ∀x∈l,ae x.2=true:=fun x hx=>by
  have:=bz.1 hok x hx;simp only[cr,bc]at this;exact this.1
 have e0:cG (ba s.groups) c sl s.vars ch l=if !DP (ba s.groups) c sl s.vars l then 2 else 0:=by
  simp only[cG,vc,hok];rw[aa (by simp),aa g2,aa oO]
 have hwi: ∀{i:Nat},i<s.vars.length->aH 100 [s.pv,E i,ca (l.getD i eT),N (lR (ba s.groups) c sl (s.vars.getD i []))] (.b (qM (s.vars.getD i []) (l.getD i eT) (lR (ba s.groups) c sl (s.vars.getD i [])))):=fun{i} hlt=>by
  obtain⟨k1,k3⟩:=hv _ (ai [] hlt);exact P3 hlt (hval _ (ai eT oO)) (Cs hr lo k3)
 unfold jB;rw[e0];clear e0 hs hok h1;obtain⟨gs,vs,es⟩:=s;simp only at*;generalize ba gs=o at*;unfold aT.pv at*;simp only at*;generalize a7 (num ch) (num c)=cm at*;refine eW call49 func49 ?_;refine mK (aN (hd oT) (aN @l5 @l2)) @hb @vh @hi @hcm ?_;refine ah (α:=Nat) (fun i=>vs.length-i) (fun i=>⟨[(2, .v (.s ch)),(3, .v (.sl (l.map ca))),(5, .p 1001 0 0),(11, .v (.sl (vs.map fun b=>N (lR o c sl b)))),(13,E' i)],[(1001,⟨0,[.v (.sl (gs.map cz)), .v (.sl (vs.map bO)), .v (.sl (es.map bZ.pv))],false,none⟩)],_⟩) (fun i=>i<=vs.length/\ ∀j,j<i->qM (vs.getD j []) (l.getD j eT) (lR o c sl (vs.getD j []))=true) 0 (fun _=>aA _) ⟨aD _,fun j hj=>oO⟩ ?_ ?_
 ·exact lE
 ·rintro i ⟨hi',hf⟩ R hR
  by_cases hlt:i<vs.length
  ·have e2:=getD_map (fun b=>N (lR o c sl b)) vs [] hlt
   have hlt2:i<l.length:=oO;have e3:=getD_map ca l eT hlt2;have ad:=hwi hlt;have hgo:=hR (i+1)
   by_cases hc2:qM (vs.getD i []) (l.getD i eT) (lR o c sl (vs.getD i []))=true
   ·have hgo:=hgo ⟨oO,fun j hj=>by
     by_cases e:j=i
     ·rw[e];exact hc2
     ·exact hf j oO⟩ oO
    rw[hc2]at ad;clear hR hf hc2 hwi;generalize lR o c sl (vs.getD i [])=L at*;obtain⟨x,hx⟩: ∃x,x=l.getD i eT:=⟨_,rfl⟩;rw[<-hx]at ad e3;clear hx;obtain⟨xn,xa⟩:=x;simp only[ca]at*;exact gi (aN @l2 (aN @l5 (aN @l6 (aN @e2 @e3)))) @hgo @ad
   ·rw[Gh hlt hc2];rw[dR.2 hc2]at ad;clear hR hf hgo hc2 hwi;generalize lR o c sl (vs.getD i [])=L at*;obtain⟨x,hx⟩: ∃x,x=l.getD i eT:=⟨_,rfl⟩;rw[<-hx]at ad e3;clear hx;obtain⟨xn,xa⟩:=x;simp only[ca]at*;exact iE (aN @l2 (aN @l5 (aN @l6 (aN @e2 @e3)))) @ad
  ·obtain rfl:i=vs.length:=oO;rw[wQ hf];exact iE (aN @l2 @l5) @hms
theorem TP {s:aT} (hst:aH 35 [.agg [.s c, .s sl],s.pv,cl.pv] (E 0)) (h1:rs.length<1000000) (h2:gs.length<=1000) (h3:ls.length<=1000) (h4: ∀l∈ls,l.length<4611686018427387904) (hok:(ae ch&&rs.all cr&&ls.all (fun l=>l.all cr)&&gs.all ae)=false):
  aH 15 [.agg [.s c, .s sl],s.pv,cl.pv,kC ch rs gs ls] (.tup [Ke,B0,E 3]):=by
 have v1:=aU ch;have v2:=ec rs oO;have v4:=gU gs oO;obtain⟨b0,hb0⟩: ∃b,b=(ae ch&&rs.all cr&&gs.all ae):=⟨_,rfl⟩;have hB:(b0&&ls.all fun l=>l.all cr)=false:=by
  rw[hb0]
  revert hok
  generalize ae ch=x1;generalize rs.all cr=x2;generalize gs.all ae=x3;generalize (ls.all fun l=>l.all cr)=x4
  revert x1 x2 x3 x4
  decide
 have hvi:=fun l hl=>ec l (h4 l hl)
 have l4:(ls.map fj).length=ls.length:=au ..;clear hok h4;obtain⟨gq,vs,es⟩:=s;obtain⟨lv,G⟩:=cl;simp only[kC,aT.pv,ik.pv]at hst⊢;generalize ae ch=bb1 at*;generalize rs.all cr=bb2 at*;generalize gs.all ae=bb3 at*;refine eW call15 func15 ?_;repeat' first|simp only[go_sem,seval]|refine cP hst ?_|refine cP v1 ?_|refine cP v2 ?_|refine cP v4 ?_|refine oE ?_|apply xX<;>intro hc
 all_goals (
  refine ah (α:=Nat) (fun i=>ls.length-i) (fun i=>⟨[(4, .p 1000 0 0),(5, .p 1001 0 0),(6, .p 1002 0 0),(7, .p 1003 0 0),(8, .p 1004 0 0),(9, .p 1005 0 0),(11, .p 1009 0 0),(12, .p 1010 0 0),(14, .v (.b (b0&&(ls.take i).all fun l=>l.all cr))),(15,E' i)],[(1000,⟨0,[.v (.s c), .v (.s sl)],false,none⟩),(1001,⟨0,[.v (.sl (gq.map cz)), .v (.sl (vs.map bO)), .v (.sl (es.map bZ.pv))],false,none⟩),(1002,⟨0,[.v (.sl (lv.map aT.pv)), .v (.sl (G.map Gt.pv))],false,none⟩),(1003,⟨0,[.v (.s ch), .v (.sl (rs.map ca)), .v (.sl (gs.map .s)), .v (.sl (ls.map fj))],false,none⟩),(1004,⟨0,[.sn, .v (.s []), .sn],false,some 56⟩),(1005,⟨0,[.sn, .sn],false,some 59⟩),(1009,⟨0,[.sn, .v (.s []), .sn],false,some 56⟩),(1010,⟨0,[.sn, .sn],false,some 59⟩)],1035⟩) (fun i=>i<=ls.length) 0 (fun _=>cd rfl) (aD _) ?_ ?_
  ·(refine AS.Le.of (by first|decide|omega) ?_ ?_<;>simp[cU,cT,aO,az,AV.bd,AV.bd.bdL,u8,aj,ak,an])
   all_goals (rw[hb0];simp_all)
  intro i hi R hR;clear hb0 v1 v2 v4 hst
  by_cases hit:i<ls.length
  case neg=>
   have h:i=ls.length:=oO;rw[h,bm,hB];clear hR hit hi;exact fz @l4
  have e2:=getD_map fj ls ([]:List (Bool×Bytes)) hit;have hgo:=hR (i+1) oO oO;rw[aL ([]:List (Bool×Bytes)) hit,List.all_append]at hgo;have hv:=hvi _ (ai [] hit);simp only[List.all_cons,List.all_nil,me]at hgo;clear hB hvi hR;generalize ls.getD i []=y at e2 hgo hv;have e2:(ls.map fj).getD i .fn0= .sl (y.map ca):=e2;rw[<-Bool.and_assoc]at hgo;generalize (b0&&(ls.take i).all fun l=>l.all cr)=x at hgo⊢
  generalize y.all cr=z at hgo hv;cases x
  ·simp only[br]at hgo;refine gR (aN @l4 @e2) @hv ?_;refine hgo _ ?_
   (refine AS.Le.of (by first|decide|omega) ?_ ?_<;>simp[cU,cT,aO,az,AV.bd,AV.bd.bdL,u8,aj,ak,an])
   all_goals first|omega|skip
  ·simp only[bE]at hgo;refine gR (aN @l4 @e2) @hv ?_;refine hgo _ ?_
   (refine AS.Le.of (by first|decide|omega) ?_ ?_<;>simp[cU,cT,aO,az,AV.bd,AV.bd.bdL,u8,aj,ak,an])
   all_goals first|omega|skip)
theorem TQ {s:aT} (hst:aH 35 [.agg [.s c, .s sl],s.pv,cl.pv] (E 0)) (h1:rs.length<1000000) (h2:gs.length<=1000) (h3:ls.length<=1000) (h4: ∀l∈ls,l.length<1000000) (o1:ae ch=true) (o2:rs.all cr=true) (o3:(ls.all fun l=>l.all cr)=true) (o4:gs.all ae=true) (hm:rs.length≠s.vars.length\/gs.length≠cl.gates.length\/ls.length≠cl.leaves.length):
  aH 15 [.agg [.s c, .s sl],s.pv,cl.pv,kC ch rs gs ls] (.tup [Ke,B0,E 6]):=by
 have v1:=aU ch;rw[o1]at v1;have v2:=ec rs oO;rw[o2]at v2;have v4:=gU gs oO;rw[o4]at v4;have hvi: ∀l∈ls,aH 46 [.sl (l.map ca)] (.b true):=fun l hl=>by
  have:=ec l (by have:=h4 l hl;omega)
  rwa[bz.1 o3 l hl]at this
 clear o2 o3 o4 h4;have l1:(rs.map ca).length=rs.length:=au ..;have l3:(gs.map PV.s).length=gs.length:=au ..;have l4:(ls.map fj).length=ls.length:=au ..;obtain⟨gq,vs,es⟩:=s;obtain⟨lv,G⟩:=cl;have l2:(vs.map bO).length=vs.length:=au ..;have l5:(lv.map aT.pv).length=lv.length:=au ..;have l6:(G.map Gt.pv).length=G.length:=au ..;simp only[kC,aT.pv,ik.pv]at*;have hm':rs.length≠vs.length\/(rs.length=vs.length/\gs.length≠G.length)\/(rs.length=vs.length/\gs.length=G.length/\ls.length≠lv.length):=oO;clear hm;refine eW call15 func15 ?_;refine YH @hst @v1 @v2 @v4 ?_;refine ah (α:=Nat) (fun i=>ls.length-i) (fun i=>⟨[(4, .p 1000 0 0),(5, .p 1001 0 0),(6, .p 1002 0 0),(7, .p 1003 0 0),(8, .p 1004 0 0),(9, .p 1005 0 0),(11, .p 1009 0 0),(12, .p 1010 0 0),(14, .v (.b true)),(15,E' i)],[(1000,⟨0,[.v (.s c), .v (.s sl)],false,none⟩),(1001,⟨0,[.v (.sl (gq.map cz)), .v (.sl (vs.map bO)), .v (.sl (es.map bZ.pv))],false,none⟩),(1002,⟨0,[.v (.sl (lv.map aT.pv)), .v (.sl (G.map Gt.pv))],false,none⟩),(1003,⟨0,[.v (.s ch), .v (.sl (rs.map ca)), .v (.sl (gs.map .s)), .v (.sl (ls.map fj))],false,none⟩),(1004,⟨0,[.sn, .v (.s []), .sn],false,some 56⟩),(1005,⟨0,[.sn, .sn],false,some 59⟩),(1009,⟨0,[.sn, .v (.s []), .sn],false,some 56⟩),(1010,⟨0,[.sn, .sn],false,some 59⟩)],1035⟩) (fun i=>i<=ls.length) 0 (fun _=>cd rfl) (aD _) ?_ ?_
 ·exact lE
 intro i hi R hR
 by_cases hit:i<ls.length
 case pos=>
  have e2:=getD_map fj ls ([]:List (Bool×Bytes)) hit;have hgo:=hR (i+1) oO oO;have hv:=hvi _ (ai [] hit);clear hvi hR;generalize ls.getD i []=y at e2 hgo hv;have e2:(ls.map fj).getD i .fn0= .sl (y.map ca):=e2;exact gi (aN @l4 @e2) @hgo @hv
 obtain rfl:i=ls.length:=oO;clear hR hit hi hvi;rcases hm' with h|⟨h,h'⟩|⟨h,h',h''⟩
 ·exact fz (aN @l1 (aN @l2 (aN @l3 (aN @l4 (aN @l5 @l6)))))
 ·exact fz (aN @l1 (aN @l2 (aN @l3 (aN @l4 (aN @l5 @l6)))))
 ·exact fz (aN @l1 (aN @l2 (aN @l3 (aN @l4 (aN @l5 @l6)))))
theorem PF {s:aT} (hst:aH 35 [.agg [.s c, .s sl],s.pv,cl.pv] (E 0)) (h1:rs.length<1000000) (h2:gs.length<=1000) (h3:ls.length<=1000) (h4: ∀l∈ls,l.length<1000000) (o1:ae ch=true) (o2:rs.all cr=true) (o3:(ls.all fun l=>l.all cr)=true) (o4:gs.all ae=true) (hm:rs.length=s.vars.length/\gs.length=cl.gates.length/\ls.length=cl.leaves.length) (hle: ∃i,i<ls.length/\(ls.getD i []).length≠(cl.leaves.getD i cC).vars.length):
  aH 15 [.agg [.s c, .s sl],s.pv,cl.pv,kC ch rs gs ls] (.tup [Ke,B0,E 6]):=by
 have v1:=aU ch;rw[o1]at v1;have v2:=ec rs oO;rw[o2]at v2;have v4:=gU gs oO;rw[o4]at v4;have hvi: ∀l∈ls,aH 46 [.sl (l.map ca)] (.b true):=fun l hl=>by
  have:=ec l (by have:=h4 l hl;omega)
  rwa[bz.1 o3 l hl]at this
 clear o2 o3 o4 h4;have l1:(rs.map ca).length=rs.length:=au ..;have l3:(gs.map PV.s).length=gs.length:=au ..;have l4:(ls.map fj).length=ls.length:=au ..;obtain⟨gq,vs,es⟩:=s;obtain⟨lv,G⟩:=cl;have l2:(vs.map bO).length=vs.length:=au ..;have l5:(lv.map aT.pv).length=lv.length:=au ..;have l6:(G.map Gt.pv).length=G.length:=au ..;simp only[kC,aT.pv,ik.pv]at*;obtain⟨m1,m2,m3⟩:=hm;refine eW call15 func15 ?_;refine YH @hst @v1 @v2 @v4 ?_;refine ah (α:=Nat) (fun i=>ls.length-i) (fun i=>⟨[(4, .p 1000 0 0),(5, .p 1001 0 0),(6, .p 1002 0 0),(7, .p 1003 0 0),(8, .p 1004 0 0),(9, .p 1005 0 0),(11, .p 1009 0 0),(12, .p 1010 0 0),(14, .v (.b true)),(15,E' i)],[(1000,⟨0,[.v (.s c), .v (.s sl)],false,none⟩),(1001,⟨0,[.v (.sl (gq.map cz)), .v (.sl (vs.map bO)), .v (.sl (es.map bZ.pv))],false,none⟩),(1002,⟨0,[.v (.sl (lv.map aT.pv)), .v (.sl (G.map Gt.pv))],false,none⟩),(1003,⟨0,[.v (.s ch), .v (.sl (rs.map ca)), .v (.sl (gs.map .s)), .v (.sl (ls.map fj))],false,none⟩),(1004,⟨0,[.sn, .v (.s []), .sn],false,some 56⟩),(1005,⟨0,[.sn, .sn],false,some 59⟩),(1009,⟨0,[.sn, .v (.s []), .sn],false,some 56⟩),(1010,⟨0,[.sn, .sn],false,some 59⟩)],1035⟩) (fun i=>i<=ls.length) 0 (fun _=>cd rfl) (aD _) ?_ ?_
 ·exact lE
 intro i hi R hR
 by_cases hit:i<ls.length
 case pos=>
  have e2:=getD_map fj ls ([]:List (Bool×Bytes)) hit;have hgo:=hR (i+1) oO oO;have hv:=hvi _ (ai [] hit);clear hvi hR;generalize ls.getD i []=y at e2 hgo hv;have e2:(ls.map fj).getD i .fn0= .sl (y.map ca):=e2;exact gi (aN @l4 @e2) @hgo @hv
 obtain rfl:i=ls.length:=oO;clear hR hit hi hvi;refine dh (aN @l1 (aN @l2 (aN @l3 (aN @l4 (aN @l5 (aN @l6 (aN @m1 (aN @m2 @m3)))))))) ?_;refine ah (α:=Nat) (fun i=>ls.length-i) (fun i=>⟨[(4, .p 1000 0 0),(5, .p 1001 0 0),(6, .p 1002 0 0),(7, .p 1003 0 0),(8, .p 1004 0 0),(9, .p 1005 0 0),(11, .p 1009 0 0),(12, .p 1010 0 0),(16,E' i)],[(1000,⟨0,[.v (.s c), .v (.s sl)],false,none⟩),(1001,⟨0,[.v (.sl (gq.map cz)), .v (.sl (vs.map bO)), .v (.sl (es.map bZ.pv))],false,none⟩),(1002,⟨0,[.v (.sl (lv.map aT.pv)), .v (.sl (G.map Gt.pv))],false,none⟩),(1003,⟨0,[.v (.s ch), .v (.sl (rs.map ca)), .v (.sl (gs.map .s)), .v (.sl (ls.map fj))],false,none⟩),(1004,⟨0,[.sn, .v (.s []), .sn],false,some 56⟩),(1005,⟨0,[.sn, .sn],false,some 59⟩),(1009,⟨0,[.sn, .v (.s []), .sn],false,some 56⟩),(1010,⟨0,[.sn, .sn],false,some 59⟩)],1069⟩) (fun i=> ∃j,i<=j/\j<ls.length/\(ls.getD j []).length≠(lv.getD j cC).vars.length) 0 (fun _=>cd rfl) (by obtain⟨j,hj⟩:=hle;exact⟨j,aD _,hj⟩) ?_ ?_
 ·exact lE
 rintro i ⟨j,hij,hj,hjb⟩ R hR;clear hle;have hit:i<ls.length:=oO;have e2:=getD_map fj ls ([]:List (Bool×Bytes)) hit;have e3:=getD_map aT.pv lv cC (show i<lv.length by omega)
 by_cases hz:(ls.getD i []).length=(lv.getD i cC).vars.length
 case pos=>
  have hgo:=hR (i+1) ⟨j,by
   by_cases e:i=j
   ·subst e;exact aJ hz hjb
   ·omega,hj,hjb⟩ oO
  clear hR hjb;generalize ls.getD i []=y at*;generalize lv.getD i cC=z at*;obtain⟨zg,zv,ze⟩:=z;simp only[fj,aT.pv]at e2 e3 hz;have k1:(y.map ca).length=y.length:=au ..;have k2:(zv.map bO).length=zv.length:=au ..;exact gH (aN @l4 (aN @l5 (aN @e2 (aN @e3 (aN @k1 (aN @k2 @hz)))))) @hgo
 clear hR hjb;generalize ls.getD i []=y at*;generalize lv.getD i cC=z at*;obtain⟨zg,zv,ze⟩:=z;simp only[fj,aT.pv]at e2 e3 hz;have k1:(y.map ca).length=y.length:=au ..;have k2:(zv.map bO).length=zv.length:=au ..;exact fz (aN @l4 (aN @l5 (aN @e2 (aN @e3 (aN @k1 (aN @k2 @hz))))))
theorem TO {s:aT} (hst:aH 35 [.agg [.s c, .s sl],s.pv,cl.pv] (E 0)) (h1:rs.length<1000000) (h2:gs.length<=1000) (h3:ls.length<=1000) (h4: ∀l∈ls,l.length<1000000) (o1:ae ch=true) (o2:rs.all cr=true) (o3:(ls.all fun l=>l.all cr)=true) (o4:gs.all ae=true) (vc:ae c=true) (hnl:cl.leaves.length<1000000) (hsz: ∀s∈cl.leaves,qH s) (vq:ae (bY cl.leaves)=true) (hm:rs.length=s.vars.length/\gs.length=cl.gates.length/\ls.length=cl.leaves.length) (hle: ∀i,i<ls.length->(ls.getD i []).length=(cl.leaves.getD i cC).vars.length) (hge:num c<=num ch):
  aH 15 [.agg [.s c, .s sl],s.pv,cl.pv,kC ch rs gs ls] (.tup [Ke,B0,E 2]):=by
 have hor:=iY (ls:=cl.leaves) (G:=cl.gates) hnl hsz;have hcm:=jL ch c;rw[o1,vc]at hcm;simp only[dF,aC]at hcm;have hcg: ∀g∈gs,aH 48 [.s g, .s (bY cl.leaves)] (E (a7 (num g) (num (bY cl.leaves)))):=fun g hg=>by
  have:=jL g (bY cl.leaves);rw[bz.1 o4 g hg,vq]at this;simpa only[dF,aC]using this
 clear hsz vc vq;obtain⟨m1,m2,m3⟩:=hm;have h7: ∀ _:True,(0:Int)<=a7 (num ch) (num c):=fun _=>dY.2 hge
 have h5: ∀ _:True,decide (a7 (num ch) (num c)>=0)=true:=fun _=>aQ (h7 oT)
 generalize a7 (num ch) (num c)=z at*;clear hcg;have v1:=aU ch;rw[o1]at v1;have v2:=ec rs oO;rw[o2]at v2;have v4:=gU gs oO;rw[o4]at v4;have hvi: ∀l∈ls,aH 46 [.sl (l.map ca)] (.b true):=fun l hl=>by
  have:=ec l (by have:=h4 l hl;omega)
  rwa[bz.1 o3 l hl]at this
 clear o2 o3 o4 h4;have l1:(rs.map ca).length=rs.length:=au ..;have l3:(gs.map PV.s).length=gs.length:=au ..;have l4:(ls.map fj).length=ls.length:=au ..;obtain⟨gq,vs,es⟩:=s;obtain⟨lv,G⟩:=cl;have l2:(vs.map bO).length=vs.length:=au ..;have l5:(lv.map aT.pv).length=lv.length:=au ..;have l6:(G.map Gt.pv).length=G.length:=au ..;simp only[kC,aT.pv,ik.pv]at*;generalize bY lv=q at*;clear hge;refine eW call15 func15 ?_;refine YH @hst @v1 @v2 @v4 ?_;refine ah (α:=Nat) (fun i=>ls.length-i) (fun i=>⟨[(4, .p 1000 0 0),(5, .p 1001 0 0),(6, .p 1002 0 0),(7, .p 1003 0 0),(8, .p 1004 0 0),(9, .p 1005 0 0),(11, .p 1009 0 0),(12, .p 1010 0 0),(14, .v (.b true)),(15,E' i)],[(1000,⟨0,[.v (.s c), .v (.s sl)],false,none⟩),(1001,⟨0,[.v (.sl (gq.map cz)), .v (.sl (vs.map bO)), .v (.sl (es.map bZ.pv))],false,none⟩),(1002,⟨0,[.v (.sl (lv.map aT.pv)), .v (.sl (G.map Gt.pv))],false,none⟩),(1003,⟨0,[.v (.s ch), .v (.sl (rs.map ca)), .v (.sl (gs.map .s)), .v (.sl (ls.map fj))],false,none⟩),(1004,⟨0,[.sn, .v (.s []), .sn],false,some 56⟩),(1005,⟨0,[.sn, .sn],false,some 59⟩),(1009,⟨0,[.sn, .v (.s []), .sn],false,some 56⟩),(1010,⟨0,[.sn, .sn],false,some 59⟩)],1035⟩) (fun i=>i<=ls.length) 0 (fun _=>cd rfl) (aD _) ?_ ?_
 ·exact lE
 intro i hi R hR
 by_cases hit:i<ls.length
 case pos=>
  have e2:=getD_map fj ls ([]:List (Bool×Bytes)) hit;have hgo:=hR (i+1) oO oO;have hv:=hvi _ (ai [] hit);clear hvi hR;generalize ls.getD i []=y at e2 hgo hv;have e2:(ls.map fj).getD i .fn0= .sl (y.map ca):=e2;exact gi (aN @l4 @e2) @hgo @hv
 obtain rfl:i=ls.length:=oO;clear hR hit hi hvi;refine dh (aN @l1 (aN @l2 (aN @l3 (aN @l4 (aN @l5 (aN @l6 (aN @m1 (aN @m2 @m3)))))))) ?_;refine ah (α:=Nat) (fun i=>ls.length-i) (fun i=>⟨[(4, .p 1000 0 0),(5, .p 1001 0 0),(6, .p 1002 0 0),(7, .p 1003 0 0),(8, .p 1004 0 0),(9, .p 1005 0 0),(11, .p 1009 0 0),(12, .p 1010 0 0),(16,E' i)],[(1000,⟨0,[.v (.s c), .v (.s sl)],false,none⟩),(1001,⟨0,[.v (.sl (gq.map cz)), .v (.sl (vs.map bO)), .v (.sl (es.map bZ.pv))],false,none⟩),(1002,⟨0,[.v (.sl (lv.map aT.pv)), .v (.sl (G.map Gt.pv))],false,none⟩),(1003,⟨0,[.v (.s ch), .v (.sl (rs.map ca)), .v (.sl (gs.map .s)), .v (.sl (ls.map fj))],false,none⟩),(1004,⟨0,[.sn, .v (.s []), .sn],false,some 56⟩),(1005,⟨0,[.sn, .sn],false,some 59⟩),(1009,⟨0,[.sn, .v (.s []), .sn],false,some 56⟩),(1010,⟨0,[.sn, .sn],false,some 59⟩)],1069⟩) (fun i=>i<=ls.length) 0 (fun _=>cd rfl) (aD _) ?_ ?_
 ·exact lE
 intro i hi R hR
 by_cases hit:i<ls.length
 case pos=>
  have e2:=getD_map fj ls ([]:List (Bool×Bytes)) hit;have e3:=getD_map aT.pv lv cC (show i<lv.length by omega)
  have hgo:=hR (i+1) oO oO;have hz:=hle i hit;clear hR hle;generalize ls.getD i []=y at*;generalize lv.getD i cC=z at*;obtain⟨zg,zv,ze⟩:=z;simp only[fj,aT.pv]at e2 e3 hz;have k1:(y.map ca).length=y.length:=au ..;have k2:(zv.map bO).length=zv.length:=au ..;exact gH (aN @l4 (aN @l5 (aN @e2 (aN @e3 (aN @k1 (aN @k2 @hz)))))) @hgo
 obtain rfl:i=ls.length:=oO;clear hR hit hi hle;exact vV (aN @l4 (h5 oT)) @hor @hcm
theorem PE {s:aT} (hst:aH 35 [.agg [.s c, .s sl],s.pv,cl.pv] (E 0)) (h1:rs.length<1000000) (h2:gs.length<=1000) (h3:ls.length<=1000) (h4: ∀l∈ls,l.length<1000000) (o1:ae ch=true) (o2:rs.all cr=true) (o3:(ls.all fun l=>l.all cr)=true) (o4:gs.all ae=true) (vc:ae c=true) (hnl:cl.leaves.length<1000000) (hsz: ∀s∈cl.leaves,qH s) (vq:ae (bY cl.leaves)=true) (hm:rs.length=s.vars.length/\gs.length=cl.gates.length/\ls.length=cl.leaves.length) (hle: ∀i,i<ls.length->(ls.getD i []).length=(cl.leaves.getD i cC).vars.length) (hge:num ch<num c) (hgl: ∃g∈gs,num (bY cl.leaves)<=num g):
  aH 15 [.agg [.s c, .s sl],s.pv,cl.pv,kC ch rs gs ls] (.tup [Ke,B0,E 2]):=by
 have hor:=iY (ls:=cl.leaves) (G:=cl.gates) hnl hsz;have hcm:=jL ch c;rw[o1,vc]at hcm;simp only[dF,aC]at hcm;have hcg: ∀g∈gs,aH 48 [.s g, .s (bY cl.leaves)] (E (a7 (num g) (num (bY cl.leaves)))):=fun g hg=>by
  have:=jL g (bY cl.leaves);rw[bz.1 o4 g hg,vq]at this;simpa only[dF,aC]using this
 clear hsz vc vq;obtain⟨m1,m2,m3⟩:=hm;have h7: ∀ _:True,¬(0:Int)<=a7 (num ch) (num c):=fun _ h=>by have:=dY.1 h;omega
 have h5: ∀ _:True,decide (a7 (num ch) (num c)>=0)=false:=fun _=>aS (h7 oT)
 generalize a7 (num ch) (num c)=z at*;obtain⟨gb,hgb,hgx⟩:=hgl;obtain⟨jb,hjb,rfl⟩:=fU hgb;have hgx:num (bY cl.leaves)<=num (gs.getD jb []):=by rwa[bu,bC hjb]
 clear hgb;have v1:=aU ch;rw[o1]at v1;have v2:=ec rs oO;rw[o2]at v2;have v4:=gU gs oO;rw[o4]at v4;have hvi: ∀l∈ls,aH 46 [.sl (l.map ca)] (.b true):=fun l hl=>by
  have:=ec l (by have:=h4 l hl;omega)
  rwa[bz.1 o3 l hl]at this
 clear o2 o3 o4 h4;have l1:(rs.map ca).length=rs.length:=au ..;have l3:(gs.map PV.s).length=gs.length:=au ..;have l4:(ls.map fj).length=ls.length:=au ..;obtain⟨gq,vs,es⟩:=s;obtain⟨lv,G⟩:=cl;have l2:(vs.map bO).length=vs.length:=au ..;have l5:(lv.map aT.pv).length=lv.length:=au ..;have l6:(G.map Gt.pv).length=G.length:=au ..;simp only[kC,aT.pv,ik.pv]at*;generalize bY lv=q at*;clear hge;refine eW call15 func15 ?_;refine YH @hst @v1 @v2 @v4 ?_;refine ah (α:=Nat) (fun i=>ls.length-i) (fun i=>⟨[(4, .p 1000 0 0),(5, .p 1001 0 0),(6, .p 1002 0 0),(7, .p 1003 0 0),(8, .p 1004 0 0),(9, .p 1005 0 0),(11, .p 1009 0 0),(12, .p 1010 0 0),(14, .v (.b true)),(15,E' i)],[(1000,⟨0,[.v (.s c), .v (.s sl)],false,none⟩),(1001,⟨0,[.v (.sl (gq.map cz)), .v (.sl (vs.map bO)), .v (.sl (es.map bZ.pv))],false,none⟩),(1002,⟨0,[.v (.sl (lv.map aT.pv)), .v (.sl (G.map Gt.pv))],false,none⟩),(1003,⟨0,[.v (.s ch), .v (.sl (rs.map ca)), .v (.sl (gs.map .s)), .v (.sl (ls.map fj))],false,none⟩),(1004,⟨0,[.sn, .v (.s []), .sn],false,some 56⟩),(1005,⟨0,[.sn, .sn],false,some 59⟩),(1009,⟨0,[.sn, .v (.s []), .sn],false,some 56⟩),(1010,⟨0,[.sn, .sn],false,some 59⟩)],1035⟩) (fun i=>i<=ls.length) 0 (fun _=>cd rfl) (aD _) ?_ ?_
 ·exact lE
 intro i hi R hR
 by_cases hit:i<ls.length
 case pos=>
  have e2:=getD_map fj ls ([]:List (Bool×Bytes)) hit;have hgo:=hR (i+1) oO oO;have hv:=hvi _ (ai [] hit);clear hvi hR;generalize ls.getD i []=y at e2 hgo hv;have e2:(ls.map fj).getD i .fn0= .sl (y.map ca):=e2;exact gi (aN @l4 @e2) @hgo @hv
 obtain rfl:i=ls.length:=oO;clear hR hit hi hvi;refine dh (aN @l1 (aN @l2 (aN @l3 (aN @l4 (aN @l5 (aN @l6 (aN @m1 (aN @m2 @m3)))))))) ?_;refine ah (α:=Nat) (fun i=>ls.length-i) (fun i=>⟨[(4, .p 1000 0 0),(5, .p 1001 0 0),(6, .p 1002 0 0),(7, .p 1003 0 0),(8, .p 1004 0 0),(9, .p 1005 0 0),(11, .p 1009 0 0),(12, .p 1010 0 0),(16,E' i)],[(1000,⟨0,[.v (.s c), .v (.s sl)],false,none⟩),(1001,⟨0,[.v (.sl (gq.map cz)), .v (.sl (vs.map bO)), .v (.sl (es.map bZ.pv))],false,none⟩),(1002,⟨0,[.v (.sl (lv.map aT.pv)), .v (.sl (G.map Gt.pv))],false,none⟩),(1003,⟨0,[.v (.s ch), .v (.sl (rs.map ca)), .v (.sl (gs.map .s)), .v (.sl (ls.map fj))],false,none⟩),(1004,⟨0,[.sn, .v (.s []), .sn],false,some 56⟩),(1005,⟨0,[.sn, .sn],false,some 59⟩),(1009,⟨0,[.sn, .v (.s []), .sn],false,some 56⟩),(1010,⟨0,[.sn, .sn],false,some 59⟩)],1069⟩) (fun i=>i<=ls.length) 0 (fun _=>cd rfl) (aD _) ?_ ?_
 ·exact lE
 intro i hi R hR
 by_cases hit:i<ls.length
 case pos=>
  have e2:=getD_map fj ls ([]:List (Bool×Bytes)) hit;have e3:=getD_map aT.pv lv cC (show i<lv.length by omega)
  have hgo:=hR (i+1) oO oO;have hz:=hle i hit;clear hR hle;generalize ls.getD i []=y at*;generalize lv.getD i cC=z at*;obtain⟨zg,zv,ze⟩:=z;simp only[fj,aT.pv]at e2 e3 hz;have k1:(y.map ca).length=y.length:=au ..;have k2:(zv.map bO).length=zv.length:=au ..;exact gH (aN @l4 (aN @l5 (aN @e2 (aN @e3 (aN @k1 (aN @k2 @hz)))))) @hgo
 obtain rfl:i=ls.length:=oO;clear hR hit hi hle;refine Bw (aN @l4 (h5 oT)) @hor @hcm ?_;refine ah (α:=Nat) (fun i=>gs.length-i) (fun i=>⟨[(4, .p 1000 0 0),(5, .p 1001 0 0),(6, .p 1002 0 0),(7, .p 1003 0 0),(8, .p 1004 0 0),(9, .p 1005 0 0),(11, .p 1009 0 0),(12, .p 1010 0 0),(17, .v (.s q)),(18,E' i)],[(1000,⟨0,[.v (.s c), .v (.s sl)],false,none⟩),(1001,⟨0,[.v (.sl (gq.map cz)), .v (.sl (vs.map bO)), .v (.sl (es.map bZ.pv))],false,none⟩),(1002,⟨0,[.v (.sl (lv.map aT.pv)), .v (.sl (G.map Gt.pv))],false,none⟩),(1003,⟨0,[.v (.s ch), .v (.sl (rs.map ca)), .v (.sl (gs.map .s)), .v (.sl (ls.map fj))],false,none⟩),(1004,⟨0,[.sn, .v (.s []), .sn],false,some 56⟩),(1005,⟨0,[.sn, .sn],false,some 59⟩),(1009,⟨0,[.sn, .v (.s []), .sn],false,some 56⟩),(1010,⟨0,[.sn, .sn],false,some 59⟩)],1084⟩) (fun i=>i<=jb) 0 (fun _=>cd rfl) (aD _) ?_ ?_
 ·exact lE
 intro i hi R hR;have hit:i<gs.length:=oO;have e4:=fJ hit;have hmg:=ai ([]:Bytes) hit;have hc:=hcg _ hmg;clear hcg
 by_cases hz:num q<=num (gs.getD i [])
 case pos=>
  have h7: ∀ _:True,(0:Int)<=a7 (num (gs.getD i [])) (num q):=fun _=>dY.2 hz
  have h5: ∀ _:True,decide (a7 (num (gs.getD i [])) (num q)>=0)=true:=fun _=>aQ (h7 oT)
  clear hR hz hgx hmg;generalize a7 (num (gs.getD i [])) (num q)=z at*;generalize gs.getD i []=y at*;exact iE (aN @l3 (aN @e4 (h5 oT))) @hc
 have hgo:=hR (i+1) (by
  by_cases e:i=jb
  ·subst e;exact aJ hgx hz
  ·omega) oO
 have h6: ∀ _:True,¬(0:Int)<=a7 (num (gs.getD i [])) (num q):=fun _ h=>hz (dY.1 h)
 have h5: ∀ _:True,decide (a7 (num (gs.getD i [])) (num q)>=0)=false:=fun _=>aS (h6 oT)
 clear hR hz hgx hmg;generalize a7 (num (gs.getD i [])) (num q)=z at*;generalize gs.getD i []=y at*;exact gi (aN @l3 (aN @e4 (h5 oT))) @hgo @hc
theorem TS {s:aT} (hst:aH 35 [.agg [.s c, .s sl],s.pv,cl.pv] (E 0)) (h1:rs.length<1000000) (h2:gs.length<=1000) (h3:ls.length<=1000) (h4: ∀l∈ls,l.length<1000000) (o1:ae ch=true) (o2:rs.all cr=true) (o3:(ls.all fun l=>l.all cr)=true) (o4:gs.all ae=true) (vc:ae c=true) (hnl:cl.leaves.length<1000000) (hsz: ∀s∈cl.leaves,qH s) (vq:ae (bY cl.leaves)=true) (hm:rs.length=s.vars.length/\gs.length=cl.gates.length/\ls.length=cl.leaves.length) (hle: ∀i,i<ls.length->(ls.getD i []).length=(cl.leaves.getD i cC).vars.length) (hge:num ch<num c) (hgl: ∀g∈gs,num g<num (bY cl.leaves)) {e:Int} (he:e≠0) (hfi:aH 49 [.agg [.s c, .s sl],s.pv, .s ch, .sl (rs.map ca)] (.tup [.sl [],E e])):
  aH 15 [.agg [.s c, .s sl],s.pv,cl.pv,kC ch rs gs ls] (.tup [Ke,B0,E e]):=by
 have hor:=iY (ls:=cl.leaves) (G:=cl.gates) hnl hsz;have hcm:=jL ch c;rw[o1,vc]at hcm;simp only[dF,aC]at hcm;have hcg: ∀g∈gs,aH 48 [.s g, .s (bY cl.leaves)] (E (a7 (num g) (num (bY cl.leaves)))):=fun g hg=>by
  have:=jL g (bY cl.leaves);rw[bz.1 o4 g hg,vq]at this;simpa only[dF,aC]using this
 clear hsz vc vq;obtain⟨m1,m2,m3⟩:=hm;have h7: ∀ _:True,¬(0:Int)<=a7 (num ch) (num c):=fun _ h=>by have:=dY.1 h;omega
 have h5: ∀ _:True,decide (a7 (num ch) (num c)>=0)=false:=fun _=>aS (h7 oT)
 generalize a7 (num ch) (num c)=z at*;have hb:(e==0)=false:=by simpa using he
 have hb2:(e !=0)=true:=by simpa using he
 have v1:=aU ch;rw[o1]at v1;have v2:=ec rs oO;rw[o2]at v2;have v4:=gU gs oO;rw[o4]at v4;have hvi: ∀l∈ls,aH 46 [.sl (l.map ca)] (.b true):=fun l hl=>by
  have:=ec l (by have:=h4 l hl;omega)
  rwa[bz.1 o3 l hl]at this
 clear o2 o3 o4 h4;have l1:(rs.map ca).length=rs.length:=au ..;have l3:(gs.map PV.s).length=gs.length:=au ..;have l4:(ls.map fj).length=ls.length:=au ..;obtain⟨gq,vs,es⟩:=s;obtain⟨lv,G⟩:=cl;have l2:(vs.map bO).length=vs.length:=au ..;have l5:(lv.map aT.pv).length=lv.length:=au ..;have l6:(G.map Gt.pv).length=G.length:=au ..;simp only[kC,aT.pv,ik.pv]at*;generalize bY lv=q at*;clear hge;refine eW call15 func15 ?_;refine YH @hst @v1 @v2 @v4 ?_;refine ah (α:=Nat) (fun i=>ls.length-i) (fun i=>⟨[(4, .p 1000 0 0),(5, .p 1001 0 0),(6, .p 1002 0 0),(7, .p 1003 0 0),(8, .p 1004 0 0),(9, .p 1005 0 0),(11, .p 1009 0 0),(12, .p 1010 0 0),(14, .v (.b true)),(15,E' i)],[(1000,⟨0,[.v (.s c), .v (.s sl)],false,none⟩),(1001,⟨0,[.v (.sl (gq.map cz)), .v (.sl (vs.map bO)), .v (.sl (es.map bZ.pv))],false,none⟩),(1002,⟨0,[.v (.sl (lv.map aT.pv)), .v (.sl (G.map Gt.pv))],false,none⟩),(1003,⟨0,[.v (.s ch), .v (.sl (rs.map ca)), .v (.sl (gs.map .s)), .v (.sl (ls.map fj))],false,none⟩),(1004,⟨0,[.sn, .v (.s []), .sn],false,some 56⟩),(1005,⟨0,[.sn, .sn],false,some 59⟩),(1009,⟨0,[.sn, .v (.s []), .sn],false,some 56⟩),(1010,⟨0,[.sn, .sn],false,some 59⟩)],1035⟩) (fun i=>i<=ls.length) 0 (fun _=>cd rfl) (aD _) ?_ ?_
 ·exact lE
 intro i hi R hR
 by_cases hit:i<ls.length
 case pos=>
  have e2:=getD_map fj ls ([]:List (Bool×Bytes)) hit;have hgo:=hR (i+1) oO oO;have hv:=hvi _ (ai [] hit);clear hvi hR;generalize ls.getD i []=y at e2 hgo hv;have e2:(ls.map fj).getD i .fn0= .sl (y.map ca):=e2;exact gi (aN @l4 @e2) @hgo @hv
 obtain rfl:i=ls.length:=oO;clear hR hit hi hvi;refine dh (aN @l1 (aN @l2 (aN @l3 (aN @l4 (aN @l5 (aN @l6 (aN @m1 (aN @m2 @m3)))))))) ?_;refine ah (α:=Nat) (fun i=>ls.length-i) (fun i=>⟨[(4, .p 1000 0 0),(5, .p 1001 0 0),(6, .p 1002 0 0),(7, .p 1003 0 0),(8, .p 1004 0 0),(9, .p 1005 0 0),(11, .p 1009 0 0),(12, .p 1010 0 0),(16,E' i)],[(1000,⟨0,[.v (.s c), .v (.s sl)],false,none⟩),(1001,⟨0,[.v (.sl (gq.map cz)), .v (.sl (vs.map bO)), .v (.sl (es.map bZ.pv))],false,none⟩),(1002,⟨0,[.v (.sl (lv.map aT.pv)), .v (.sl (G.map Gt.pv))],false,none⟩),(1003,⟨0,[.v (.s ch), .v (.sl (rs.map ca)), .v (.sl (gs.map .s)), .v (.sl (ls.map fj))],false,none⟩),(1004,⟨0,[.sn, .v (.s []), .sn],false,some 56⟩),(1005,⟨0,[.sn, .sn],false,some 59⟩),(1009,⟨0,[.sn, .v (.s []), .sn],false,some 56⟩),(1010,⟨0,[.sn, .sn],false,some 59⟩)],1069⟩) (fun i=>i<=ls.length) 0 (fun _=>cd rfl) (aD _) ?_ ?_
 ·exact lE
 intro i hi R hR
 by_cases hit:i<ls.length
 case pos=>
  have e2:=getD_map fj ls ([]:List (Bool×Bytes)) hit;have e3:=getD_map aT.pv lv cC (show i<lv.length by omega)
  have hgo:=hR (i+1) oO oO;have hz:=hle i hit;clear hR hle;generalize ls.getD i []=y at*;generalize lv.getD i cC=z at*;obtain⟨zg,zv,ze⟩:=z;simp only[fj,aT.pv]at e2 e3 hz;have k1:(y.map ca).length=y.length:=au ..;have k2:(zv.map bO).length=zv.length:=au ..;exact gH (aN @l4 (aN @l5 (aN @e2 (aN @e3 (aN @k1 (aN @k2 @hz)))))) @hgo
 obtain rfl:i=ls.length:=oO;clear hR hit hi hle;refine rz (aN @l4 (h5 oT)) @hor @hcm ?_;clear h5 h7;refine ah (α:=Nat) (fun i=>gs.length-i) (fun i=>⟨[(4, .p 1000 0 0),(5, .p 1001 0 0),(6, .p 1002 0 0),(7, .p 1003 0 0),(8, .p 1004 0 0),(9, .p 1005 0 0),(11, .p 1009 0 0),(12, .p 1010 0 0),(17, .v (.s q)),(18,E' i)],[(1000,⟨0,[.v (.s c), .v (.s sl)],false,none⟩),(1001,⟨0,[.v (.sl (gq.map cz)), .v (.sl (vs.map bO)), .v (.sl (es.map bZ.pv))],false,none⟩),(1002,⟨0,[.v (.sl (lv.map aT.pv)), .v (.sl (G.map Gt.pv))],false,none⟩),(1003,⟨0,[.v (.s ch), .v (.sl (rs.map ca)), .v (.sl (gs.map .s)), .v (.sl (ls.map fj))],false,none⟩),(1004,⟨0,[.sn, .v (.s []), .sn],false,some 56⟩),(1005,⟨0,[.sn, .sn],false,some 59⟩),(1009,⟨0,[.sn, .v (.s []), .sn],false,some 56⟩),(1010,⟨0,[.sn, .sn],false,some 59⟩)],1084⟩) (fun i=>i<=gs.length) 0 (fun _=>cd rfl) (aD _) ?_ ?_
 ·exact lE
 intro i hi R hR
 by_cases hit:i<gs.length
 case pos=>
  have e4:=fJ hit;have hgo:=hR (i+1) oO oO;have hmg:=ai ([]:Bytes) hit;have hc:=hcg _ hmg;have h6: ∀ _:True,¬(0:Int)<=a7 (num (gs.getD i [])) (num q):=fun _ h=>by have:=hgl _ hmg;have:=dY.1 h;omega
  have h5: ∀ _:True,decide (a7 (num (gs.getD i [])) (num q)>=0)=false:=fun _=>aS (h6 oT)
  clear hR hcg hgl hmg;generalize a7 (num (gs.getD i [])) (num q)=z at*;generalize gs.getD i []=y at*;exact gi (aN @l3 (aN @e4 (h5 oT))) @hgo @hc
 obtain rfl:i=gs.length:=oO;clear hR hit hi hcg hgl;exact iE (aN @l3 (aN @hb @hb2)) @hfi
theorem PG {s:aT} (hst:aH 35 [.agg [.s c, .s sl],s.pv,cl.pv] (E 0)) (h1:rs.length<1000000) (h2:gs.length<=1000) (h3:ls.length<=1000) (h4: ∀l∈ls,l.length<1000000) (o1:ae ch=true) (o2:rs.all cr=true) (o3:(ls.all fun l=>l.all cr)=true) (o4:gs.all ae=true) (vc:ae c=true) (hnl:cl.leaves.length<1000000) (hsz: ∀s∈cl.leaves,qH s) (vq:ae (bY cl.leaves)=true) (hm:rs.length=s.vars.length/\gs.length=cl.gates.length/\ls.length=cl.leaves.length) (hle: ∀i,i<ls.length->(ls.getD i []).length=(cl.leaves.getD i cC).vars.length) (hge:num ch<num c) (hgl: ∀g∈gs,num g<num (bY cl.leaves)) {F0:List Bytes} (hfi:aH 49 [.agg [.s c, .s sl],s.pv, .s ch, .sl (rs.map ca)] (.tup [.sl (F0.map .s),E 0])) (h0:cl.leaves=[]):
  aH 15 [.agg [.s c, .s sl],s.pv,cl.pv,kC ch rs gs ls] (.tup [.agg [.sl (F0.map .s), .s ch, .sl (rs.map ca)], .agg [.sl (gs.map .s), .sl []],E 0]):=by
 have hor:=iY (ls:=cl.leaves) (G:=cl.gates) hnl hsz;have hcm:=jL ch c;rw[o1,vc]at hcm;simp only[dF,aC]at hcm;have hcg: ∀g∈gs,aH 48 [.s g, .s (bY cl.leaves)] (E (a7 (num g) (num (bY cl.leaves)))):=fun g hg=>by
  have:=jL g (bY cl.leaves);rw[bz.1 o4 g hg,vq]at this;simpa only[dF,aC]using this
 clear hsz vc vq;obtain⟨m1,m2,m3⟩:=hm;have h7: ∀ _:True,¬(0:Int)<=a7 (num ch) (num c):=fun _ h=>by have:=dY.1 h;omega
 have h5: ∀ _:True,decide (a7 (num ch) (num c)>=0)=false:=fun _=>aS (h7 oT)
 generalize a7 (num ch) (num c)=z at*;have v1:=aU ch;rw[o1]at v1;have v2:=ec rs oO;rw[o2]at v2;have v4:=gU gs oO;rw[o4]at v4;have hvi: ∀l∈ls,aH 46 [.sl (l.map ca)] (.b true):=fun l hl=>by
  have:=ec l (by have:=h4 l hl;omega)
  rwa[bz.1 o3 l hl]at this
 clear o2 o3 o4 h4;have l1:(rs.map ca).length=rs.length:=au ..;have l3:(gs.map PV.s).length=gs.length:=au ..;have l4:(ls.map fj).length=ls.length:=au ..;obtain⟨gq,vs,es⟩:=s;obtain⟨lv,G⟩:=cl;have l2:(vs.map bO).length=vs.length:=au ..;have l5:(lv.map aT.pv).length=lv.length:=au ..;have l6:(G.map Gt.pv).length=G.length:=au ..;simp only[kC,aT.pv,ik.pv]at*;have hv0: ∀ _:True,lv.length=0:=fun _=>by rw[h0];rfl
 generalize bY lv=q at*;clear h0;clear hge;refine eW call15 func15 ?_;refine YH @hst @v1 @v2 @v4 ?_;refine ah (α:=Nat) (fun i=>ls.length-i) (fun i=>⟨[(4, .p 1000 0 0),(5, .p 1001 0 0),(6, .p 1002 0 0),(7, .p 1003 0 0),(8, .p 1004 0 0),(9, .p 1005 0 0),(11, .p 1009 0 0),(12, .p 1010 0 0),(14, .v (.b true)),(15,E' i)],[(1000,⟨0,[.v (.s c), .v (.s sl)],false,none⟩),(1001,⟨0,[.v (.sl (gq.map cz)), .v (.sl (vs.map bO)), .v (.sl (es.map bZ.pv))],false,none⟩),(1002,⟨0,[.v (.sl (lv.map aT.pv)), .v (.sl (G.map Gt.pv))],false,none⟩),(1003,⟨0,[.v (.s ch), .v (.sl (rs.map ca)), .v (.sl (gs.map .s)), .v (.sl (ls.map fj))],false,none⟩),(1004,⟨0,[.sn, .v (.s []), .sn],false,some 56⟩),(1005,⟨0,[.sn, .sn],false,some 59⟩),(1009,⟨0,[.sn, .v (.s []), .sn],false,some 56⟩),(1010,⟨0,[.sn, .sn],false,some 59⟩)],1035⟩) (fun i=>i<=ls.length) 0 (fun _=>cd rfl) (aD _) ?_ ?_
 ·exact lE
 intro i hi R hR
 by_cases hit:i<ls.length
 case pos=>
  have e2:=getD_map fj ls ([]:List (Bool×Bytes)) hit;have hgo:=hR (i+1) oO oO;have hv:=hvi _ (ai [] hit);clear hvi hR;generalize ls.getD i []=y at e2 hgo hv;have e2:(ls.map fj).getD i .fn0= .sl (y.map ca):=e2;exact gi (aN @l4 @e2) @hgo @hv
 obtain rfl:i=ls.length:=oO;clear hR hit hi hvi;refine dh (aN @l1 (aN @l2 (aN @l3 (aN @l4 (aN @l5 (aN @l6 (aN @m1 (aN @m2 @m3)))))))) ?_;refine ah (α:=Nat) (fun i=>ls.length-i) (fun i=>⟨[(4, .p 1000 0 0),(5, .p 1001 0 0),(6, .p 1002 0 0),(7, .p 1003 0 0),(8, .p 1004 0 0),(9, .p 1005 0 0),(11, .p 1009 0 0),(12, .p 1010 0 0),(16,E' i)],[(1000,⟨0,[.v (.s c), .v (.s sl)],false,none⟩),(1001,⟨0,[.v (.sl (gq.map cz)), .v (.sl (vs.map bO)), .v (.sl (es.map bZ.pv))],false,none⟩),(1002,⟨0,[.v (.sl (lv.map aT.pv)), .v (.sl (G.map Gt.pv))],false,none⟩),(1003,⟨0,[.v (.s ch), .v (.sl (rs.map ca)), .v (.sl (gs.map .s)), .v (.sl (ls.map fj))],false,none⟩),(1004,⟨0,[.sn, .v (.s []), .sn],false,some 56⟩),(1005,⟨0,[.sn, .sn],false,some 59⟩),(1009,⟨0,[.sn, .v (.s []), .sn],false,some 56⟩),(1010,⟨0,[.sn, .sn],false,some 59⟩)],1069⟩) (fun i=>i<=ls.length) 0 (fun _=>cd rfl) (aD _) ?_ ?_
 ·exact lE
 intro i hi R hR
 by_cases hit:i<ls.length
 case pos=>
  have e2:=getD_map fj ls ([]:List (Bool×Bytes)) hit;have e3:=getD_map aT.pv lv cC (show i<lv.length by omega)
  have hgo:=hR (i+1) oO oO;have hz:=hle i hit;clear hR hle;generalize ls.getD i []=y at*;generalize lv.getD i cC=z at*;obtain⟨zg,zv,ze⟩:=z;simp only[fj,aT.pv]at e2 e3 hz;have k1:(y.map ca).length=y.length:=au ..;have k2:(zv.map bO).length=zv.length:=au ..;exact gH (aN @l4 (aN @l5 (aN @e2 (aN @e3 (aN @k1 (aN @k2 @hz)))))) @hgo
 obtain rfl:i=ls.length:=oO;clear hR hit hi hle;refine rz (aN @l4 (h5 oT)) @hor @hcm ?_;clear h5 h7;refine ah (α:=Nat) (fun i=>gs.length-i) (fun i=>⟨[(4, .p 1000 0 0),(5, .p 1001 0 0),(6, .p 1002 0 0),(7, .p 1003 0 0),(8, .p 1004 0 0),(9, .p 1005 0 0),(11, .p 1009 0 0),(12, .p 1010 0 0),(17, .v (.s q)),(18,E' i)],[(1000,⟨0,[.v (.s c), .v (.s sl)],false,none⟩),(1001,⟨0,[.v (.sl (gq.map cz)), .v (.sl (vs.map bO)), .v (.sl (es.map bZ.pv))],false,none⟩),(1002,⟨0,[.v (.sl (lv.map aT.pv)), .v (.sl (G.map Gt.pv))],false,none⟩),(1003,⟨0,[.v (.s ch), .v (.sl (rs.map ca)), .v (.sl (gs.map .s)), .v (.sl (ls.map fj))],false,none⟩),(1004,⟨0,[.sn, .v (.s []), .sn],false,some 56⟩),(1005,⟨0,[.sn, .sn],false,some 59⟩),(1009,⟨0,[.sn, .v (.s []), .sn],false,some 56⟩),(1010,⟨0,[.sn, .sn],false,some 59⟩)],1084⟩) (fun i=>i<=gs.length) 0 (fun _=>cd rfl) (aD _) ?_ ?_
 ·exact lE
 intro i hi R hR
 by_cases hit:i<gs.length
 case pos=>
  have e4:=fJ hit;have hgo:=hR (i+1) oO oO;have hmg:=ai ([]:Bytes) hit;have hc:=hcg _ hmg;have h6: ∀ _:True,¬(0:Int)<=a7 (num (gs.getD i [])) (num q):=fun _ h=>by have:=hgl _ hmg;have:=dY.1 h;omega
  have h5: ∀ _:True,decide (a7 (num (gs.getD i [])) (num q)>=0)=false:=fun _=>aS (h6 oT)
  clear hR hcg hgl hmg;generalize a7 (num (gs.getD i [])) (num q)=z at*;generalize gs.getD i []=y at*;exact gi (aN @l3 (aN @e4 (h5 oT))) @hgo @hc
 obtain rfl:i=gs.length:=oO;clear hR hit hi hcg hgl
 by_cases e1:rs=[]
 ·by_cases e2:gs=[]
  ·subst e1 e2;refine jA @l3 @hfi ?_;refine aq ?_;exact fz (aN @l5 (hv0 oT))
  ·have n2: ∀ _:True,¬gs.length=0:=fun _ h=>e2 (dt.1 h)
   subst e1;refine gR (aN @l3 (n2 oT)) @hfi ?_;have g1:(aP PV.s gs).length=gs.length:=by rw[bT cH.s,dr]
   have g2:=cf cH.s gs;rw[dr]at g2;have g3:=dI cH.s gs;have g4:chunk 1 gs.length (gs.flatMap fun x=>[PV.s x])=gs.map .s:=cK cH.s gs
   rw[show List.map AV.v (List.flatMap PV.cells (List.map PV.s gs))=aP PV.s gs by rw[aP,jO]]
   refine⟨⟨fun y hy=>by obtain⟨z,-,rfl⟩:=cx.1 hy;rfl,fun y hy=>bz.1 g3 y hy,oO,oO⟩,?_⟩
   refine aq ?_;exact fz (aN @l5 (aN (hv0 oT) (aN @g1 (aN @g2 (aN @g3 (aN @g4 @dj))))))
 ·have n1: ∀ _:True,¬rs.length=0:=fun _ h=>e1 (dt.1 h)
  by_cases e2:gs=[]
  ·subst e2;refine gR (aN @l1 (aN @l3 (n1 oT))) @hfi ?_;have r1:(aP ca rs).length=rs.length*2:=bT dO rs;have r2:=cf dO rs;have r3:=dI dO rs;have r4:=cK dO rs;rw[show List.map AV.v (List.flatMap PV.cells (List.map ca rs))=aP ca rs by rw[aP,jO]]
   refine⟨⟨fun y hy=>by obtain⟨z,-,rfl⟩:=cx.1 hy;exact dO.len z,fun y hy=>bz.1 r3 y hy,oO,oO⟩,?_⟩
   refine pO ?_;refine aq ?_;exact fz (aN @l5 (aN (hv0 oT) (aN @r1 (aN @r2 (aN @r3 (aN @r4 @dj))))))
  ·have n2: ∀ _:True,¬gs.length=0:=fun _ h=>e2 (dt.1 h)
   refine gR (aN @l1 (aN @l3 (n1 oT))) @hfi ?_;have r1:(aP ca rs).length=rs.length*2:=bT dO rs;have r2:=cf dO rs;have r3:=dI dO rs;have r4:=cK dO rs;rw[show List.map AV.v (List.flatMap PV.cells (List.map ca rs))=aP ca rs by rw[aP,jO]]
   refine⟨⟨fun y hy=>by obtain⟨z,-,rfl⟩:=cx.1 hy;exact dO.len z,fun y hy=>bz.1 r3 y hy,oO,oO⟩,?_⟩
   refine dw (aN @l3 (n2 oT)) ?_;have g1:(aP PV.s gs).length=gs.length:=by rw[bT cH.s,dr]
   have g2:=cf cH.s gs;rw[dr]at g2;have g3:=dI cH.s gs;have g4:chunk 1 gs.length (gs.flatMap fun x=>[PV.s x])=gs.map .s:=cK cH.s gs
   rw[show List.map AV.v (List.flatMap PV.cells (List.map PV.s gs))=aP PV.s gs by rw[aP,jO]]
   refine⟨⟨fun y hy=>by obtain⟨z,-,rfl⟩:=cx.1 hy;rfl,fun y hy=>bz.1 g3 y hy,oO,oO⟩,?_⟩
   refine aq ?_;exact fz (aN @l5 (aN (hv0 oT) (aN @g1 (aN @g2 (aN @g3 (aN @g4 (aN @r1 (aN @r2 (aN @r3 (aN @r4 @dj))))))))))
