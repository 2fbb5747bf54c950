/- Part of the proof. -/
import Derived.Test.YtnhhajlcpjgkjaaGreatDoorUC41
set_option linter.all false
set_option maxHeartbeats 16000000
set_option maxRecDepth 100000
namespace Go.Proofs.Tryz
open Go Go.Dom Go.Num
variable {c sl:Bytes}

theorem Vk {st:Bytes} (hst:st.length<=1000) {s:cK} (hs:Rs s):aE 252 [.s st,s.pv] (.s (lZ st s)):=by
 obtain⟨⟨m,o,hg,lm,lo⟩,v0,nv,hv,ne,hq⟩:=hs;obtain⟨gs,vs,es⟩:=s;simp only at hg v0 nv hv ne hq;subst hg;obtain⟨w0,wr,hw⟩: ∃a b,vs=a::b:=by cases vs with
  |nil=>exact aM rfl v0
  |cons a b=>exact⟨a,b,rfl⟩
 have hvl:vs.length=wr.length+1:=by rw[hw];rfl
 have hpos: ∀ _:True,(0:Int)<(vs.length:Int):=fun _=>oO
 have g0:(vs.map cO).getD 0 .fn0= .agg [.s w0]:=by rw[hw];rfl
 simp only[lZ,fb,CF,iu,cK.pv,bV,bj,dS];have n1:=mA st sU [m,o] oO oC (by simp) (by simp) (by intro s hs;simp at hs;rcases hs with rfl|rfl<;>omega)
 simp only[bV,bj]at n1;have n2:=mA (gb st sU [m,o]) yX vs (by rw[eX];decide) oC v0 oO (fun x hx=>by have:=hv x hx;omega)
 have l2:=eX (gb st sU [m,o]) yX vs;refine eW call252 func252 ?_;repeat' first|simp only[go_sem,seval]|(refine aj ?_)|refine oE ?_|apply xX<;>intro hc
 refine eC (aN @g0 (hpos oT)) ?_;have hro:[AV.v (PV.s w0)]=aX PV.s (vs.take 1):=by rw[hw];rfl
 rw[hro];refine ak (α:=Nat) (fun j=>vs.length-j) (fun j=>⟨[(0, .v (.s st)),(3, .p 1000 0 0),(5, .rs 1024 0 0 2 1),(6, .rs 1048 j 0 (1+j) 1),(8,E' (j+1))],[(1000,⟨0,[.v (.sl [.agg [.s m, .s o]]), .v (.sl (vs.map cO)), .v (.sl (es.map dr.pv))],false,none⟩),(1024,⟨0,[.v (.s m), .v (.s o)],true,some 22⟩),(1048,⟨j,aX PV.s (vs.take (j+1)),true,some 22⟩)],1053⟩) (fun j=>j+1<=vs.length) 0 (fun _=>dF rfl) oO ?_ ?_
 ·refine lG ?_;all_goals exact fun c hc=>cI hc
 ·intro j hj R hR;have hlr:(vs.take (j+1)).length=1+j:=by rw[cf];omega
  have q0:(aX PV.s (vs.take (j+1))).length=1+j:=by rw[cF cT.s,hlr,dK]
  have q1:List.take (1+j) (aX PV.s (vs.take (j+1)))=aX PV.s (vs.take (j+1)):=c9 oO
  by_cases hjt:j+1<vs.length
  ·have e2:=getD_map cO vs ([]:Bytes) hjt;have hgo:=hR (j+1) oO oO;rw[aQ ([]:Bytes) hjt,cu]at hgo;generalize vs.getD (j+1) []=y at e2 hgo;have e2:(vs.map cO).getD (j+1) .fn0= .agg [.s y]:=e2;have e3: ∀ _:True,((j:Int)+1).toNat=j+1:=fun _=>oO
   clear hR hlr n1 n2;refine eC (aN @q0 (aN @q1 (aN @e2 (e3 oT)))) ?_;refine hgo _ ?_
   (refine AS.Le.of (by first|decide|omega) ?_ ?_<;>simp[dA,dz,aS,aB,AV.bd,AV.bd.bdL,u8,aq,au,aA])
   all_goals first|omega|exact⟨rfl,fun c hc=>by rcases hc with hc|⟨a,ha,rfl⟩;exact cI hc;rfl⟩|skip
  ·have hj2:j+1=vs.length:=oO;rw[hj2,cg]at hlr q0 q1⊢;clear hR hpos g0 hro;repeat' first|simp only[go_sem,seval,q0,q1]|refine cV n1 ?_|(refine rY (l:=vs) (g:=PV.s) (ver:=j) (gr:=true) (el:=some 22) n2 cT.s rfl (by simp[aB]) hlr.symm ?_)|refine oE ?_|apply xX<;>intro hc
   generalize gb (gb st sU [m,o]) yX vs=s0 at l2⊢;clear n1 n2;refine ak (α:=Nat) (fun i=>es.length-i) (fun i=>⟨[(0, .v (.s ((es.take i).foldl qR s0))),(3, .p 1000 0 0),(9,E' i)],[(1000,⟨0,[.v (.sl [.agg [.s m, .s o]]), .v (.sl (vs.map cO)), .v (.sl (es.map dr.pv))],false,none⟩)],1065⟩) (fun i=>i<=es.length) 0 (fun _=>dF rfl) (aR _) ?_ ?_
   ·(refine AS.Le.of (by first|decide|omega) ?_ ?_<;>simp[dA,dz,aS,aB,AV.bd,AV.bd.bdL,u8,aq,au,aA])
    all_goals rfl
   ·intro i hi R hR
    by_cases hit:i<es.length
    ·have e2:=getD_map dr.pv es gN hit;have hgo:=hR (i+1) oO oO;rw[oj qR s0 gN hit]at hgo;obtain⟨g1,g2,g3,nt,ht⟩:=hq _ (aC gN hit);have hX:=rj (l:=es.take i) l2;generalize (es.take i).foldl qR s0=X at hgo hX⊢;generalize es.getD i gN=q at*;obtain⟨kR,tgt,ts⟩:=q;simp only at g1 g2 g3 nt ht;obtain⟨n,rfl⟩: ∃n:Nat,kR=(n:Int):=⟨kR.toNat,oO⟩;have e2:(es.map dr.pv).getD i .fn0= .agg [.i .i64 (n:Int), .s tgt, .sl (ts.map eD.pv)]:=e2;simp only[qR,Int.toNat_natCast]at hgo;have ln:=nK n;have l4:(ts.map eD.pv).length=ts.length:=aL ..;have c1:=vn n oO;have c2:=qj X Cm (iy n) oO oC oO;have c3:=mA (fw X Cm (iy n)) GL [tgt] (by rw[ja];decide) oC (by simp) (by simp) (by simp;omega)
     have lS:=eX (fw X Cm (iy n)) GL [tgt];generalize gb (fw X Cm (iy n)) GL [tgt]=S0 at*;simp only[bV,bj]at c3;clear hR hq;refine tN (aN @e2 @l4) @c1 @c2 @c3 oT ?_;refine ak (α:=Nat) (fun k=>ts.length-k) (fun k=>⟨[(0, .v (.s ((ts.take k).foldl qS S0))),(3, .p 1000 0 0),(9,E' i),(10, .p 1075 0 0),(11,E' k)],[(1000,⟨0,[.v (.sl [.agg [.s m, .s o]]), .v (.sl (vs.map cO)), .v (.sl (es.map dr.pv))],false,none⟩),(1075,⟨0,[.v (.i .i64 (n:Int)), .v (.s tgt), .v (.sl (ts.map eD.pv))],false,some 184⟩)],_⟩) (fun k=>k<=ts.length) 0 (fun _=>aD _) (aR _) ?_ ?_
     ·(refine AS.Le.of (by first|decide|omega) ?_ ?_<;>simp[dA,dz,aS,aB,AV.bd,AV.bd.bdL,u8,aq,au,aA])
      all_goals rfl
     ·clear c1 c2 c3 e2;intro k hk R' hR'
      by_cases hkt:k<ts.length
      ·have e3:=getD_map eD.pv ts fj hkt;have hgo':=hR' (k+1) oO oO;rw[oj qS S0 fj hkt]at hgo';obtain⟨v1,v2,lb,la⟩:=ht _ (aC fj hkt);have hY:=rk (l:=ts.take k) lS;generalize (ts.take k).foldl qS S0=Y at hgo' hY⊢;generalize ts.getD k fj=t at*;obtain⟨base,vr,ng,ab⟩:=t;simp only at v1 v2 lb la;obtain⟨v,rfl⟩: ∃v:Nat,vr=(v:Int):=⟨vr.toNat,oO⟩;have e3:(ts.map eD.pv).getD k .fn0= .agg [.s base, .i .i64 (v:Int), .b ng, .s ab]:=e3;simp only[qS,Int.toNat_natCast]at hgo';have lv:=nK v;have c4:=vn v oO;have c5:=qj Y GM (iy v) oO oC oO;have c6:=mA (fw Y GM (iy v)) ER [base] (by rw[ja];decide) oC (by simp) (by simp) (by simp;omega)
       have c7:=Gt (gb (fw Y GM (iy v)) ER [base]) NF ng ab (by rw[eX];decide) oC oO
       simp only[bV,bj]at c6;clear hR' hgo;refine Di (aN @e3 @l4) @c4 @c5 @c6 @c7 ?_;refine hgo' _ ?_
       (refine AS.Le.of (by first|decide|omega) ?_ ?_<;>simp[dA,dz,aS,aB,AV.bd,AV.bd.bdL,u8,aq,au,aA])
       all_goals first|omega|skip
      ·have h:k=ts.length:=oO;rw[h,cg];refine eC @l4 ?_;refine hgo _ ?_
       (refine AS.Le.of (by first|decide|omega) ?_ ?_<;>simp[dA,dz,aS,aB,AV.bd,AV.bd.bdL,u8,aq,au,aA])
       all_goals first|omega|skip
    ·have h:i=es.length:=oO;rw[h,cg];exact z0
theorem ql {s:cK} (hp:uV c sl s):aE 118 [.agg [.s c, .s sl],s.pv,C0] (E 0):=by
 have hb:=yL hp;obtain⟨gs,vs,es⟩:=s;simp only[cK.pv]at hb⊢;refine eW call118 func118 ?_;repeat' first|simp only[go_sem,seval]|refine cP hb ?_|refine cP Nd ?_|refine oE ?_|apply xX<;>intro hc
 all_goals skip
theorem zQ {s:cK} (hp:uV c sl s) (hb:Rs s) {ctx:Bytes} (hx:ctx.length<=100000) {fs:List Bytes} (f0:fs≠[]) (fe:fs.length=s.eqs.length) (fl: ∀x∈fs,x.length<=8) (fv:fs.all aa=true):
  aE 126 [.agg [.s c, .s sl], .s ctx,s.pv,C0, .sl (fs.map .s), .sl []] (.tup [N (gK (xQ ctx s fs) c),E 0]):=by
 have fn:fs.length<=900:=by rw[fe];have:=hb.ne;omega
 have fl: ∀x∈fs,x.length<=100000:=fun x hx=>by have:=fl x hx;omega
 have hr:=hp.r;have c0:c≠[]:=by
  intro h;have:=hr.c2;rw[h]at this;exact aM this oC
 have hst:=ql hp;have hv:=oG fs oO;rw[fv]at hv;have n1:=QM rK oC;have n2:=qj (kX rK) uJ ctx (by rw[Bh];decide) oC hx
 have n3:=Vk (st:=fw (kX rK) uJ ctx) (by rw[ja];decide) hb
 have n4:=qj (lZ (fw (kX rK) uJ ctx) s) GK [] (by rw[xz];decide) oC oC
 have n5:=mA (fw (lZ (fw (kX rK) uJ ctx) s) GK []) NG fs (by rw[ja];decide) oC f0 fn fl
 have n6:=vH (xQ ctx s fs) c (by rw[xQ,eX];decide) hr.vc c0 hr.lc
 have n5:aE 254 [.s (fw (lZ (fw (kX rK) uJ ctx) s) GK []), .s NG, .sl (fs.map .s)] (.s (xQ ctx s fs)):=n5;generalize xQ ctx s fs=st5 at*;generalize lZ (fw (kX rK) uJ ctx) s=st3 at*;obtain⟨gq,vs,es⟩:=s;have l1:(fs.map PV.s).length=es.length:=by rw[aL];exact fe
 have l2:(es.map dr.pv).length=es.length:=aL ..;simp only[cK.pv]at n3 hst⊢;refine eW call126 func126 ?_;repeat' first|simp only[go_sem,seval,l1,l2]|refine cP hst ?_|refine cP hv ?_|refine cP n1 ?_|refine cP n2 ?_|refine cP n3 ?_|refine cP n4 ?_|refine cP n5 ?_|refine cP n6 ?_|refine cP QU ?_|(refine aj ?_)|refine oE ?_|apply xX<;>intro hc

theorem Nf (k:Key) (n:Bytes) (hk:k.name.length<=1000) (hn:n.length<=1000):aE 51 [k.pv, .s n] (.s (kY k n)):=by
 unfold Key.pv kY;refine eW call51 func51 ?_;repeat' first|simp only[go_sem,seval,bY]|refine oE ?_|apply xX<;>intro hc
 all_goals rfl
theorem Ng (p:cq) (k:Key) (c:Bytes) (h0:0<k.r.length) (hl:k.r.length<1000000):aE 52 [p.pv,k.pv, .s c] (e9 p k c).pv:=by
 have e1:=jm (l:=k.r) (x:=0) h0;have l1:(k.r.map PV.s).length=k.r.length:=aL ..;have hp: ∀ _:True,(0:Int)<(k.r.length:Int):=fun _=>oO
 have c1:aE 129 [E 1] (.agg [.b false, .s [1]]):=Vq;unfold e9 Key.pv cq.pv cK.pv;generalize k.r.getD 0 []=r0 at*;simp only[dr.pv,bV,bj,eD.pv,vL];refine eW call52 func52 ?_;exact lF (aN @l1 (aN @e1 (hp oT))) @c1
theorem Ia {a:Bytes} (h:aa a=true):aE 48 [.s a] (.agg [.b false, .s a]):=by
 have hm:=ED false a;have hv:=aI a;rw[h]at hv;refine eW call48 func48 ?_;exact z2 @hv @hm
