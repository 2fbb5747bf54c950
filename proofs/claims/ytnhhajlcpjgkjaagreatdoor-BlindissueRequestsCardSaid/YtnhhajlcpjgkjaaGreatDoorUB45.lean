/- Part of the proof. -/
import Derived.Test.YtnhhajlcpjgkjaaGreatDoorUB44
set_option linter.all false
set_option maxHeartbeats 16000000
set_option maxRecDepth 100000
namespace Go.Proofs.YtnhhajlcpjgkjaaGreatDoor
open Go Go.Dom Go.ChangeShapes Go.WideShapes Go.ChangeAt Go.RowKit Go.Proofs.Tryz
theorem aaU:On Tryz.prog 9 39=true:=by kernel_rfl
theorem ZN {ps:List PV} (h:kf Tryz.prog 9 39 ps): ∃x n:Bytes,(.agg ps:PV)= .agg [.s x, .s n]:=by
 rw[kf,Tryz.underlying39]at h;simp only[p9,cN,cS]at h;obtain⟨h1,h2,h3⟩:=h;obtain⟨a,h1⟩:=jP h1;obtain⟨b,h2⟩:=JP h2;exact⟨a,b,by rw[tk h1,tk h2,h3]⟩
theorem aaY:On Tryz.prog 9 41=true:=by kernel_rfl
theorem ZX {ps:List PV} (h:kf Tryz.prog 9 41 ps): ∃(vs:List Bytes) (sd:Bytes) (a:Int), .agg ps=T vs sd a/\vs.length*16<=reachBytes:=by
 rw[kf,Tryz.underlying41]at h;simp only[p9,cLN,cS,cI0]at h;obtain⟨h1,h2,h3,h4⟩:=h;obtain⟨vs,h1,hb⟩:=JO h1;obtain⟨sd,h2⟩:=JP h2;simp only[kf,uI0]at h3;obtain⟨n,h3,-⟩:=h3;exact⟨vs,sd,n,by rw[tk h1,tk h2,tk h3,h4],hb⟩
end Go.Proofs.YtnhhajlcpjgkjaaGreatDoor
namespace Go.Proofs.Tryz
open Go Go.Dom Go.Num
theorem F1 (c n ch:Bytes) {l:List Int} (hl:l.length<4611686018427387904):aE 11 [.agg [.s c, .s n, .s ch, .sl (l.map Zp), .sl [], .sl []], .agg [.s c, .s n, .s ch, .sl (l.map Zp), .sl [], .sl []]] (.b true):=by
 have h:=SL ch hl;have e1:=dt c;have e2:=dt n;refine eW call11 func11 ?_;exact jE (aN @e1 @e2) @h
theorem Kk (p:cA) (k:Key) (tp tq x n:Bytes) (vs:List Bytes) (sd:Bytes) (a:Int) (hr:k.r.length<4611686018427387904) (hvs:vs.length<4611686018427387904):aE 3 [gH p k tp tq, .agg [.s x, .s n],T vs sd a] (.b true):=by
 have hf:=sX p k tp tq hr;have ht:=L5 vs sd a hvs;have ha:=sy
 cases hfb:nJ p k tp tq with
 |false=>
  rw[hfb]at hf;clear hfb;unfold gH at*;refine eW call3 func3 ?_;exact z2 @hf @ha
 |true=>
 rw[hfb]at hf;unfold nJ at hfb;simp only[aZ,bw]at hfb;obtain⟨b1,b2,-,-⟩:=hfb
 by_cases hx:x.length<=12
 case neg=>
  clear b1 b2;unfold gH at*;refine eW call3 func3 ?_;exact z2 @hf @ha
 by_cases hn:n.length<=80
 case neg=>
  clear b1 b2;unfold gH at*;refine eW call3 func3 ?_;exact z2 @hf @ha
 cases htb:IW vs sd with
 |false=>
  rw[htb]at ht;clear htb b1 b2;unfold gH at*;refine eW call3 func3 ?_;exact z4 @hf @ht @ha oT
 |true=>
 rw[htb]at ht;have hb:vs.length<=40/\sd.length<=100:=by
  unfold IW at htb;simp only[aZ,bw]at htb;exact htb.2
 obtain⟨lm,lo,lr,ln,-,-,-⟩:=zf b2;have hp:=pf b1;have s1:=Au hp lm ln oO x n (vs:=vs) (sd:=sd) (a:=a) oO oO;have s2:=Gg hp lm ln oO x n (vs:=vs) (sd:=sd) (a:=a) oO oO;have hlen: ∀R,wB p k x n vs sd a= .ok R->R.2.2.2.1.length=2:=fun R h=>by
  obtain⟨c,b,ch,rs,j⟩:=R;exact O7 h
 have h0: ∀e,wB p k x n vs sd a= .error e->e≠0:=fun e h=>WQ h
 generalize wB p k x n vs sd a=R at*;clear b1 b2 hp htb;rcases R with e|⟨c,b,ch,rs,j⟩
 ·have h0:=h0 _ rfl;have t1:=F1 [] [] [] (l:=[]) (by simp)
  have t2:=Ci [] [] 0 (by simp)
  simp only[uo]at s1 s2;simp only[ca]at t1 t2;have e1:=dt e;have e2:(e !=0)=true:=bne_iff_ne.2 h0;unfold gH cA.pv Key.pv at*;refine eW call3 func3 ?_;repeat' first|simp only[go_sem,seval,e1,e2,rQ,dt]|refine cP hf ?_|refine cP ht ?_|refine cP ha ?_|refine cP s1 ?_|refine cP s2 ?_|refine cP t1 ?_|refine cP t2 ?_|refine oE ?_|apply xX<;>intro hc
  all_goals rfl
 ·have hrl:rs.length=2:=hlen _ rfl;have t1:=F1 c n ch (l:=rs) oO;have t2:=Ci vs sd (j:Nat) hvs;have e1:=dt x;have e2:=dt b;simp only[uo]at s1 s2;unfold gH cA.pv Key.pv at*;refine eW call3 func3 ?_;repeat' first|simp only[go_sem,seval,e1,e2,rQ,dt,mq]|refine cP hf ?_|refine cP ht ?_|refine cP ha ?_|refine cP s1 ?_|refine cP s2 ?_|refine cP t1 ?_|refine cP t2 ?_|refine oE ?_|apply xX<;>intro hc
  all_goals rfl
end Go.Proofs.Tryz
namespace Go.Proofs.YtnhhajlcpjgkjaaGreatDoor
open Go Go.Dom Go.ChangeShapes Go.WideShapes Go.ChangeAt Go.RowKit Go.Proofs.Tryz
theorem xy (os:Os) (started:os.Started) (H:Type) (enc:TypeId×Value->H):
  ReturnsInHanded {} Tryz.checked os 3 .any (fun w args=>(Rows.blindissueRequestsSpec.pre enc Tryz.prog Tryz.f3 [] false w args/\laidMetH Tryz.prog lY w)/\sizedMet enc Tryz.prog Tryz.f3 (OpenSpec.ofChange Rows.blindissueRequestsSpec) false w args)
   (Rows.blindissueRequestsSpec.post enc Tryz.prog Tryz.f3 false true false false):=by
 refine returnsInHanded_of_change_and (C:=Tryz.checked) (X:=fun w _=>laidMetH Tryz.prog lY w) (fun _ _ _ hh h=>h.of_heap hh) Wl started (by kernel_rfl) Tryz.func3
  (ChangeSpec.witness_shaped (enc:=enc) (C:=Tryz.checked) (os:=os) (X:=fun w _=>laidMetH Tryz.prog lY w) false (World.laidAll Tryz.prog os lY) #[.agg #[.string ⟨#[]⟩, .string ⟨#[]⟩, .string ⟨#[]⟩, .string ⟨#[]⟩, .string ⟨#[]⟩, .string ⟨#[]⟩, .string ⟨#[]⟩, .string ⟨#[]⟩, .string ⟨#[]⟩, .string ⟨#[]⟩, .string ⟨#[]⟩, .string ⟨#[]⟩, .string ⟨#[]⟩, .string ⟨#[]⟩, .string ⟨#[]⟩, .string ⟨#[]⟩, .string ⟨#[]⟩, .string ⟨#[]⟩, .string ⟨#[]⟩, .string ⟨#[]⟩, .string ⟨#[]⟩, .string ⟨#[]⟩, .slice none 0 0, .string ⟨#[]⟩, .string ⟨#[]⟩, .string ⟨#[]⟩, .string ⟨#[]⟩], .agg #[.string ⟨#[]⟩, .string ⟨#[]⟩], .agg #[.slice none 0 0, .string ⟨#[]⟩, .int .i64 0]] 8 (World.laidAll_os _ _ _)
   (World.shaped_of_ZipB (by kernel_rfl) (by kernel_rfl)) (by kernel_rfl) (by kernel_rfl) (by kernel_rfl)
   (by rw[MakeChecks.laidMetH_plain _ _ _ (by kernel_rfl)];exact laidMet_laidAll _ (by kernel_rfl) (by kernel_rfl))) ?_
 intro W base args ds gs before hval0 hW hcnd hwt hL _;rw[MakeChecks.laidMetH_plain _ _ _ (by kernel_rfl)]at hL
 have hval: ∀(j:Nat) t v,Tryz.f3.params[j]?=some t->args[j]?=some v->Value.okWide Tryz.prog W .any base t v:=hval0;have hW':=hW;obtain⟨p,q,hA0,hV,rfl,hfz,hnd⟩:=hW;have hA:DataW.TrodAll enc Tryz.prog W 0 (fun _=>true) true Tryz.f3.params.toList args.toList ds p:=hA0
 have hlt: ∀x∈p++q,x.block<W.heap.size:=fun x hx=>hW'.lt x hx
 rw[Tryz.params3]at hA hval;obtain⟨v0,v1,v2,d0,d1,d2,p0,p1,p2,rfl,rfl,rfl,h0,h1,h2⟩:=trodAll_three hA;obtain⟨rfl,rfl⟩:=trodVars_none hV;have hall:=bH.1 hwt;have rb:=reachBytes_lt;have hv0:=hval 0 37 v0 rfl rfl;unfold Value.okWide at hv0;rw[Tryz.underlying37]at hv0;simp only at hv0;obtain⟨c0,rfl,s0,-⟩:=hv0;have w0: ∀m∈d0.weights Tryz.prog 37,m<=reachBytes:=fun m hm=>of_decide_eq_true (hall m (DataW.weights_mem_each (j:=0) rfl rfl m hm))
 obtain⟨n0,t0⟩:=id h0;obtain⟨L4,r0,o0,y0⟩:=nM 10 n0 _ c0.toList d0 p0 VV t0 w0;obtain⟨pa,ke,tp,tq,ea0,hb0⟩:=DI y0;have q0:PR (vd W) (gH pa ke tp tq) (.agg c0):=by
  rw[<-ea0];have:=PR.agg (rd:=vd W) L4 c0.toList o0 r0.1 r0.2;simpa using this
 have hv1:=hval 1 39 v1 rfl rfl;unfold Value.okWide at hv1;rw[Tryz.underlying39]at hv1;simp only at hv1;obtain⟨c1,rfl,s1,-⟩:=hv1;have w1: ∀m∈d1.weights Tryz.prog 39,m<=reachBytes:=fun m hm=>of_decide_eq_true (hall m (DataW.weights_mem_each (j:=1) rfl rfl m hm))
 obtain⟨n1,t1⟩:=id h1;obtain⟨xR,r1,o1,y1⟩:=nM 9 n1 _ c1.toList d1 p1 aaU t1 w1;obtain⟨x,n,ea1⟩:=ZN y1;have q1:PR (vd W) (.agg [.s x, .s n]) (.agg c1):=by
  rw[<-ea1];have:=PR.agg (rd:=vd W) xR c1.toList o1 r1.1 r1.2;simpa using this
 have hv2:=hval 2 41 v2 rfl rfl;unfold Value.okWide at hv2;rw[Tryz.underlying41]at hv2;simp only at hv2;obtain⟨c2,rfl,s2,-⟩:=hv2;have w2: ∀m∈d2.weights Tryz.prog 41,m<=reachBytes:=fun m hm=>of_decide_eq_true (hall m (DataW.weights_mem_each (j:=2) rfl rfl m hm))
 obtain⟨n2,t2⟩:=id h2;obtain⟨pv2,r2,o2,y2⟩:=nM 9 n2 _ c2.toList d2 p2 aaY t2 w2;obtain⟨vs,sd,at0,ea2,hb2⟩:=ZX y2;have q2:PR (vd W) (T vs sd at0) (.agg c2):=by
  rw[<-ea2];have:=PR.agg (rd:=vd W) pv2 c2.toList o2 r2.1 r2.2;simpa using this
 obtain⟨g,hg,hc⟩:=Kk pa ke tp tq x n vs sd at0 (by omega) (by omega)
 have hg3:g=3:=by
  have a1:=hg #[] W;have a2:=Tryz.call3 #[] W;rw[a1]at a2;injection a2 with a2 _
  injection a2
 subst hg3;refine(hc W (vd W) [.agg c0, .agg c1, .agg c2] (wJ hL) (fun _ _ _ h=>h) (.cons q0 (.cons q1 (.cons q2 .nil)))).mono ?_
 rintro e W' ⟨v,rfl,hb,hpr⟩;cases hpr;refine⟨_,rfl,wb (pa:=p0++(p1++p2)) (pv:=[]) hW' (fun _ _ _=>trodAll_mk1 (shut_bool Ct true)) (fun sp hsp=>trodAll_mk3 (WideElems.Trod_stays wZ (by kernel_rfl) (of_decide_eq_true (by kernel_rfl)) h0 (fun x hx=>hb.same (hlt x (by simp[hx]))) (fun x hx=>hsp x (by simp[hx]))) (WideElems.Trod_stays wZ (by kernel_rfl) (of_decide_eq_true (by kernel_rfl)) h1 (fun x hx=>hb.same (hlt x (by simp[hx]))) (fun x hx=>hsp x (by simp[hx]))) (WideElems.Trod_stays wZ (by kernel_rfl) (of_decide_eq_true (by kernel_rfl)) h2 (fun x hx=>hb.same (hlt x (by simp[hx]))) (fun x hx=>hsp x (by simp[hx])))) (fun _ _=>rfl) (by simp) hb (ok_one (by kernel_rfl) rfl (okWide_bool_mk Ct true))⟩
