/-
  Part of the proof, part 45. Own work.
-/
import Derived.Test.YtmledjfbgjnknaaGreatDoorM40
set_option linter.all false
namespace Go.Proofs.YtmledjfbgjnknaaGreatDoor
open Go Go.Dom Go.Num
set_option maxRecDepth 100000
set_option maxHeartbeats 16000000
def P0:Par:=⟨[2],[100],[47],[23],[4],[9],[77],[],[4],[9],[20],[2],[30],[3],[20],[15],[15]⟩
def bank:Bytes:=[98,97,110,107]
def vs0:List Bytes:=[[2],[3],[2],[7],[5],[]]
def K0:Key:=⟨bank,[77],[],[],[4],[[],[]],[],[]⟩
def K1:Key:=⟨bank,[77],[],[64],[4],[[23],[1]],[16],[60]⟩
abbrev row2:AObj:=⟨0,[.v (.s []), .v (.s [])],false,none⟩
theorem basesO_ok (n nm:Nat) (a b c d e f g:Bytes):EvA Tryz.prog 43 nm [(n,row2)] [.agg [.v (.s a), .v (.s b), .v (.s c), .v (.s d), .v (.s e), .rs n 0 0 2 1, .v (.s f), .v (.s g)]] (.fn (.func 99) [] [.p nm 0 0]) [(nm,some ⟨0,[.v (.s a), .v (.s b), .v (.s c), .v (.s d), .v (.s e), .rs n 0 0 2 1, .v (.s f), .v (.s g)],false,none⟩)]:=by
 refine EvA.w mixed Tryz.call43 Tryz.func43 rfl (tyC.1 _ _ _ (by cbv)) (tyC.2 _ _ (by cbv)) (obs:=[row2]) (args:=[.agg [.v (.s a), .v (.s b), .v (.s c), .v (.s d), .v (.s e), .rs 0 0 0 2 1, .v (.s f), .v (.s g)]]) (fs:=[none]) (j:=some 1000) (nw:=some ⟨0,[.v (.s a), .v (.s b), .v (.s c), .v (.s d), .v (.s e), .rs 0 0 0 2 1, .v (.s f), .v (.s g)],false,none⟩) (v:= .fn (.func 99) [] [.p 1 0 0]) (ns:=[n]) (obsA:=[row2]) rfl ?_ (by simp) (by simp) rfl (by simp[mapO,AObj.ren,AV.ren,AV.ren.renL]) (by simp[mapO,AV.ren,AV.ren.renL,ixOf]) (by simp[AV.ren,AV.ren.renL,bkOf]) (by simp[upsOf,outs,AObj.ren,AV.ren,AV.ren.renL,bkOf])
 simp only[go_sem,seval];repeat' first|simp only[go_sem,seval,true_or,or_true,false_or,or_false,Option.some.injEq,RetA,resLA,outV,outC,outO,viewC,hfV,foV,finH,finN,mkResA,mapO_outC_bcells,AV.ren,AV.ren.renL,renL_bcells]|refine sB ?_|(first|apply pX|apply bX)<;>intro hc|refine⟨oD,?_⟩|exact oD|fail
 all_goals skip
theorem P0_ok:EvP Tryz.prog 32 [P0.pv] (E 0):=by
 have h:=parGood P0 (by decide) (by unfold Par.short;decide)
 rwa[show parE P0=0 by decide+kernel]at h
theorem sq0_ok:EvP Tryz.prog 37 [G [77] [],T vs0 [] 0] (.tup [.s [4],T vs0 [] 1,E 0]):=Square_ok (m:=[77]) (by decide) (vs:=vs0) [] (i:=0) (by decide) (by decide) (by decide) (by decide+kernel)
theorem gen4_ok:EvP Tryz.prog 39 [G [77] [],G [7] [11], .s [4]] (.tup [.b true,E 0]):=by
 have h:=IsGenerator_ok (m:=[77]) (by decide) [] [7] [11] [4]
 rwa[show elE [77] [] [7] [11] [4]=0 by decide+kernel,show genB [7] [11] [4]=true by decide+kernel]at h
theorem ord_ok:EvP Tryz.prog 40 [G [7] [11]] (.tup [.s [15],E 0]):=Order_ok (p:=[7]) (q:=[11]) (by decide) (by decide) (by decide) (by decide) (by decide) (by decide) (by decide+kernel)
theorem below_ok (i:Nat) (x:Bytes) (hi:i<6) (hx:vs0.getD i []=x) (hlt:num x<15):EvP Tryz.prog 42 [T vs0 [] (i:Nat), .s [15]] (.tup [.s x,T vs0 [] (i+1:Nat),E 0]):=by
 have h:=Below_ok (vs:=vs0) [] (i:=i) (n:=[15]) (by decide) (by decide) (by decide) hi (by decide)
 unfold drawR at h;rw[hx,if_neg (by show¬15≤num x;omega)]at h
 exact h
theorem gcd_ok (x d:Bytes) (hx:validN x=true) (hl:num x<100) (hd:Nat.gcd (num x) 15=num d) (vd:validN d=true):EvP Tryz.prog 45 [.s x, .s [15]] (.tup [.s d,E 0]):=by
 have h:=GcdN (a:=num x) (b:=15) (by omega) (by decide)
 rw[N_of hx,hd,N_of vd]at h;exact h
theorem exp_ok (e y:Bytes) (he:validN e=true) (h:4^num e%77=num y) (hy:validN y=true):EvP Tryz.prog 47 [G [77] [], .s [4], .agg [.b false, .s e]] (.tup [.s y,E 0]):=by
 have g:=Exp1_ok (m:=[77]) (x:=[4]) (by decide) (by decide+kernel) he
 rw[show num ([4]:Bytes)^num e%num ([77]:Bytes)=num y from h,N_of hy]at g
 exact g
theorem Make_ok:EvP Tryz.prog 15 [P0.pv, .s bank,G [77] [],G [7] [11],E 0,T vs0 [] 0] (.tup [K1.pv, .sl [.s [3], .s [2], .s [7], .s [5], .s []],T vs0 [] 6,E 0]):=by
 have hP:=P0_ok;have hN:EvP Tryz.prog 33 [.s bank] (.b true):=by
  have h:=isName_ok bank (by decide)
  rwa[show nameB bank=true by decide+kernel]at h
 have hR:EvP Tryz.prog 34 [G [77] [],G [7] [11]] (E 0):=by
  have h:=rCheck_ok [77] [] [7] [11]
  rwa[show rCheckE [77] [] [7] [11]=0 by decide+kernel]at h
 have hU:=fun n k nm hne=>until1_ok n k nm hne sq0_ok gen4_ok
 have hO:=ord_ok;have b1:=below_ok 1 [3] (by decide) rfl (by decide)
 have b2:=below_ok 2 [2] (by decide) rfl (by decide)
 have b3:=below_ok 3 [7] (by decide) rfl (by decide)
 have b4:=below_ok 4 [5] (by decide) rfl (by decide)
 have b5:=below_ok 5 [] (by decide) rfl (by decide)
 have u1:=fun n k nm hne=>until2_ok n k nm hne (kd:=0) b1 (gcd_ok [3] [3] (by decide) (by decide) (by decide) (by decide)) rfl
 have u2:=fun n k nm hne=>until2_ok n k nm hne (kd:=1) b2 (gcd_ok [2] [1] (by decide) (by decide) (by decide) (by decide)) rfl
 have u3:=fun n k nm hne=>until2_ok n k nm hne (kd:=1) b3 (gcd_ok [7] [1] (by decide) (by decide) (by decide) (by decide)) rfl
 have u4:=fun n k nm hne=>until2_ok n k nm hne (kd:=0) b4 (gcd_ok [5] [5] (by decide) (by decide) (by decide) (by decide)) rfl
 have u5:=fun n k nm hne=>until2_ok n k nm hne (kd:=0) b5 (gcd_ok [] [15] (by decide) (by decide) (by decide) (by decide)) rfl
 have f1:=From_ok (a:=[3]) (by decide)
 have f2:=From_ok (a:=[2]) (by decide)
 have f3:=From_ok (a:=[7]) (by decide)
 have f4:=From_ok (a:=[5]) (by decide)
 have f5:=From_ok (a:=[]) (by decide)
 have e1:=exp_ok [3] [64] (by decide) (by decide) (by decide)
 have e2:=exp_ok [2] [16] (by decide) (by decide) (by decide)
 have e3:=exp_ok [7] [60] (by decide) (by decide) (by decide)
 have e4:=exp_ok [5] [23] (by decide) (by decide) (by decide)
 have e5:=exp_ok [] [1] (by decide) (by decide) (by decide)
 have hit:=bases_it K0 (by decide)
 have hbl:=bases_len K0;have hbo:=fun n nm=>basesO_ok n nm bank [77] [] [] [4] [] []
 have hK:K0.pv= .agg [.s bank, .s [77], .s [], .s [], .s [4], .sl [.s [], .s []], .s [], .s []]:=rfl;have hB:K0.bases=[bas 2 [4],bas 0 [],bas 1 [],bas 1 [],bas 0 [],bas 0 []]:=rfl;rw[hK,hB]at hit;rw[hB]at hbl;simp only[show((1:Nat):Int)=1 from rfl,show((1+1:Nat):Int)=2 from rfl,show((2:Nat):Int)=2 from rfl,show((2+1:Nat):Int)=3 from rfl,show((3:Nat):Int)=3 from rfl,show((3+1:Nat):Int)=4 from rfl,show((4:Nat):Int)=4 from rfl,show((4+1:Nat):Int)=5 from rfl,show((5:Nat):Int)=5 from rfl,show((5+1:Nat):Int)=6 from rfl]at u1 u2 u3 u4 u5
 unfold P0 Par.pv at*;simp only at hP;refine eW Tryz.call15 Tryz.func15 ?_;repeat' first|simp only[go_sem,seval,List.getD_cons_zero,List.getD_cons_succ,bas]|refine cP hP ?_|refine cP hN ?_|refine cP hR ?_|(refine CR_eff (hU _ _ _ (by decide)) (by simp[hget]) ?_)|refine cP hO ?_|(refine CR_eff (hbo _ _) (by simp[hget]) ?_)|refine sB ?_|(first|apply pX|apply bX)<;>intro hc|refine⟨oD,?_⟩|exact oD|fail
 refine CW_rngO [1067,1049,1051] hit rfl (by simp[viewN,tget,hget,SX.ev]) (by simp) (by simp) hbl (by simp[bas,PV.flat]) ?_
 repeat' first|simp only[go_sem,seval,List.getD_cons_zero,List.getD_cons_succ,bas,List.map_cons,List.map_nil]|(refine rg_cons ?_)|(refine rg_nil ?_)|refine cP f1 ?_|refine cP f2 ?_|refine cP f3 ?_|refine cP f4 ?_|refine cP f5 ?_|refine cP e1 ?_|refine cP e2 ?_|refine cP e3 ?_|refine cP e4 ?_|refine cP e5 ?_|(refine CR_eff (u1 _ _ _ (by decide)) (by simp[hget]) ?_)|(refine CR_eff (u2 _ _ _ (by decide)) (by simp[hget]) ?_)|(refine CR_eff (u3 _ _ _ (by decide)) (by simp[hget]) ?_)|(refine CR_eff (u4 _ _ _ (by decide)) (by simp[hget]) ?_)|(refine CR_eff (u5 _ _ _ (by decide)) (by simp[hget]) ?_)|refine sB ?_|(first|apply pX|apply bX)<;>intro hc|refine⟨oD,?_⟩|exact oD|fail
 rfl
theorem pn_ok (x:Int):EvP Tryz.prog 48 [.i .u8 x] (.s [UInt8.ofNat x.toNat]):=by
 refine eW Tryz.call48 Tryz.func48 ?_;repeat' first|simp only[go_sem,seval]|refine sB ?_|(first|apply pX|apply bX)<;>intro hc|refine⟨oD,?_⟩|exact oD|fail
theorem Params_ok:EvP Tryz.prog 16 [] P0.pv:=by
 refine eW Tryz.call16 Tryz.func16 ?_;repeat' first|simp only[go_sem,seval]|refine cP (pn_ok _) ?_|refine sB ?_|(first|apply pX|apply bX)<;>intro hc|refine⟨oD,?_⟩|exact oD|fail
 rfl
def K2:Key:=⟨bank,[77],[],[64],[4],[[23],[1]],[64],[60]⟩
theorem check2_ok (k:Key) (hk:keyE 0 k=0) (lm:k.m.length≤8) (ln:k.name.length≤60) (lr:k.r.length≤20):EvP Tryz.prog 19 [P0.pv,k.pv] (E 0):=by
 have h:=keyCheck_ok P0 k 0 P0_ok lm ln lr
 rwa[hk]at h
theorem check_K1:EvP Tryz.prog 19 [P0.pv,K1.pv] (E 0):=check2_ok K1 (by decide+kernel) (by decide) (by decide) (by decide)
theorem check_K2:EvP Tryz.prog 19 [P0.pv,K2.pv] (E 0):=check2_ok K2 (by decide+kernel) (by decide) (by decide) (by decide)
theorem fits_K1:EvP Tryz.prog 18 [P0.pv,K1.pv,G [7] [11]] (E 0):=by
 have h:=Fits_ok P0 K1 [7] [11] 0 check_K1 (by decide) (by decide)
 rwa[show fitsE 0 K1 [7] [11]=0 by decide+kernel]at h
theorem fits_K2:EvP Tryz.prog 18 [P0.pv,K2.pv,G [7] [11]] (E 13):=by
 have h:=Fits_ok P0 K2 [7] [11] 0 check_K2 (by decide) (by decide)
 rwa[show fitsE 0 K2 [7] [11]=13 by decide+kernel]at h
theorem awake_ok:EvP Tryz.prog 8 [] (.b true):=by
 have h1:=Params_ok;have h2:=Make_ok;have h3:=EqualN_ok [[3],[2],[7],[5],[]] [[3],[2],[7],[5],[]] (by decide) (by decide)
 have h4:=EqualN_ok [[23],[1]] [[23],[1]] (by decide) (by decide)
 rw[decide_eq_true rfl]at h3 h4;have h5:=fits_K1;have h6:=check_K2;have h7:=fits_K2;simp only[List.map_cons,List.map_nil]at h3 h4;have e1:K1.pv= .agg [.s bank, .s [77], .s [], .s [64], .s [4], .sl [.s [23], .s [1]], .s [16], .s [60]]:=rfl;have e2:K2.pv= .agg [.s bank, .s [77], .s [], .s [64], .s [4], .sl [.s [23], .s [1]], .s [64], .s [60]]:=rfl;have e3:T vs0 [] 0= .agg [.sl [.s [2], .s [3], .s [2], .s [7], .s [5], .s []], .s [], .i .i64 0]:=rfl;have e4:bank=[98,97,110,107]:=rfl;rw[e1,e3]at h2;rw[e1]at h5;rw[e2]at h6 h7;rw[e4]at h2 h5 h6 h7;generalize P0.pv=pp at*;refine eW Tryz.call8 Tryz.func8 ?_;repeat' first|simp only[go_sem,seval,beq_self_eq_true]|refine cP h1 ?_|refine cP h2 ?_|refine cP h3 ?_|refine cP h4 ?_|refine cP h5 ?_|refine cP h6 ?_|refine cP h7 ?_|refine sB ?_|(first|apply pX|apply bX)<;>intro hc|refine⟨oD,?_⟩|exact oD|fail
 all_goals skip
def Key.rb (k:Key):List Bytes:=k.z::k.u::k.h::k.r
theorem cellsS3 (a b c:Bytes) (r:List Bytes):(AV.v (.s a)::AV.v (.s b)::AV.v (.s c)::List.map AV.v (List.flatMap PV.cells (List.map PV.s r)))=List.map AV.v (List.map PV.s (a::b::c::r)):=by rw[flat_S];rfl
theorem rBases_ok (k:Key) (hr:k.r.length<1000000):EvP Tryz.prog 62 [k.pv] (.sl (k.rb.map .s)):=by
 obtain⟨name,m,o,z,s,r,u,h⟩:=k;unfold Key.pv Key.rb;simp only at*;have e:=cellsS3 z u h r
 by_cases h0:r=[]
 ·subst h0;refine eW Tryz.call62 Tryz.func62 ?_;repeat' first|simp only[go_sem,seval]|refine sB ?_|(first|apply pX|apply bX)<;>intro hc|refine⟨oD,?_⟩|exact oD|fail
 have hr0:(r.length=0)=False:=by rw[eq_iff_iff,iff_false];intro g;exact h0 (List.length_eq_zero_iff.1 g)
 obtain⟨ys,hys⟩: ∃ys,ys=z::u::h::r:=⟨_,rfl⟩;have hyl:3+r.length=ys.length:=by rw[hys];simp;omega
 rw[←hys]at e⊢;obtain⟨r1,r2,r3,r4⟩:=rowS ys;have r5:(List.map AV.v (List.map PV.s ys)).length=ys.length:=by simp
 have r7:(List.flatMap PV.cells (List.map PV.s r)).length+1+1+1=ys.length:=by rw[flat_S,hys];simp
 refine eW Tryz.call62 Tryz.func62 ?_;repeat' first|simp only[go_sem,seval,hr0]|refine sB ?_|(first|apply pX|apply bX)<;>intro hc|refine⟨oD,?_⟩|exact oD|fail
 refine⟨⟨fun x hx=>cells_S hx,fun y hy=>one_SA hy,by omega,by omega⟩,?_⟩
 repeat' first|simp only[go_sem,seval,e,hyl,r2,r3,r4,r5,r7,List.length_map,mapO_view_v]|refine sB ?_|(first|apply pX|apply bX)<;>intro hc|refine⟨oD,?_⟩|exact oD|fail
def Key.l (k:Key):List Bytes:=k.m::k.o::k.s::k.rb
theorem bases_all (k:Key):k.bases.all (fun y=>validN (bOf y))=(k.s::k.rb).all validN:=by
 simp[Key.bases,Key.rb,bas,bOf,List.all_map,Function.comp_def]
theorem bases_any (k:Key):k.bases.any (kBad k.m)=(k.s==[1]||(k.s::k.rb).any (fun x=> !rHas k.m [] x)):=by
 have e: ∀b,kBad k.m (bas 0 b)= !rHas k.m [] b:=fun b=>by simp[kBad,bas,bOf,nOf]
 have e1: ∀b,kBad k.m (bas 1 b)= !rHas k.m [] b:=fun b=>by simp[kBad,bas,bOf,nOf]
 have e2: ∀b,kBad k.m (bas 2 b)=(!rHas k.m [] b||b==[1]):=fun b=>by simp[kBad,bas,bOf,nOf]
 simp only[Key.bases,Key.rb,List.any_cons,List.any_map,Function.comp_def,e,e1,e2]
 cases rHas k.m [] k.s<;>cases(k.s==[1])<;>simp
theorem gE_nil (m:Bytes):gE m []=pwE m:=by
 unfold gE pwE;have hv0:validN []=true:=rfl
 cases validN m<;>simp[hv0]
theorem getD_VSl {l:List Bytes} {i:Nat} (h:i<l.length):(List.map AV.v (List.map PV.s l)).getD i .u= .v (.s (l.getD i [])):=by
 simp[List.getD_eq_getElem?_getD,h]
theorem rCheck29_ok (p:Par) (k:Key) (pe:Int) (hp:EvP Tryz.prog 61 [p.pv] (E pe)) (lm:k.m.length≤8) (ln:k.name.length≤60) (lr:k.r.length≤20):EvP Tryz.prog 25 [p.pv,k.pv] (E (keyE pe k)):=by
 have hb:=rBases_ok k (by omega)
 have hnm:=rName_ok k.name ln;have hg:=r13Check_ok lm (o:=[]) (by decide)
 have hhas:=r13Has_ok lm (o:=[]) (by decide)
 rw[gE_nil]at hg;have hE: ∀e,keyE pe k=e→EvP Tryz.prog 25 [p.pv,k.pv] (E e)→EvP Tryz.prog 25 [p.pv,k.pv] (E (keyE pe k)):=fun e h g=>by rw[h];exact g
 by_cases h0:pe=0
 case neg=>
  refine hE pe (by simp[keyE,h0]) ?_
  unfold Par.pv Key.pv at*;refine eW Tryz.call25 Tryz.func25 ?_;repeat' first|simp only[go_sem,seval]|refine cP hp ?_|refine sB ?_|(first|apply pX|apply bX)<;>intro hc|refine⟨oD,?_⟩|exact oD|fail
 subst h0;clear hE;obtain⟨ys,hys⟩: ∃ys,ys=k.l:=⟨_,rfl⟩;have hyl:ys.length=6+k.r.length:=by rw[hys];simp[Key.l,Key.rb];omega
 have hrl:(k.rb.map PV.s).length=k.rb.length:=List.length_map ..;have hrb:k.rb.length=3+k.r.length:=by simp[Key.rb];omega
 have hcl:(AV.v (.s k.m)::AV.v (.s k.o)::AV.v (.s k.s)::List.map AV.v (List.flatMap PV.cells (List.map PV.s k.rb)))=List.map AV.v (List.map PV.s ys):=by rw[hys];exact cellsS3 _ _ _ _
 have hke:keyE 0 k=if !(ys.all validN)then 3 else if !nameB k.name then 1 else if !(k.o==[])||decide (pwE k.m≠0)then 13 else if k.r.length<2∨k.r.length>18 then 6 else if k.s==[1]||(ys.drop 2).any (fun x=> !rHas k.m [] x)then 13 else 0:=by
  unfold keyE;rw[bases_all,bases_any,hys];simp only[Key.l,List.all_cons,List.drop_succ_cons,List.drop_zero]
  cases validN k.m<;>cases validN k.o<;>simp
 rw[hke];clear hke;have hr0:(3+k.r.length=0)=False:=by rw[eq_iff_iff,iff_false];omega
 have hin: ∀x,pwE k.m=0→gIn k.m [] x=rHas k.m [] x:=fun x h=>by
  simp[gIn,gE_nil,h,gHas]
 generalize k.rb=rb at*;obtain⟨name,m,o,z,s,r,u,h⟩:=k;unfold Par.pv Key.pv at*;simp only at*;refine eW Tryz.call25 Tryz.func25 ?_;repeat' first|simp only[go_sem,seval,hrl,hrb,hr0]|refine cP hp ?_|refine cP hb ?_|refine sB ?_|(first|apply pX|apply bX)<;>intro hc|refine⟨oD,?_⟩|exact oD|fail
 refine⟨⟨fun x hx=>cells_S hx,fun y hy=>one_SA hy,by omega,by omega⟩,?_⟩
 repeat' first|simp only[go_sem,seval,hcl]|refine sB ?_|(first|apply pX|apply bX)<;>intro hc|refine⟨oD,?_⟩|exact oD|fail
 have hl2:(List.map AV.v (List.map PV.s ys)).length=ys.length:=by simp
 refine loop_run (α:=Nat) (fun i=>ys.length-i) (fun i=>⟨[(3, .p 1001 0 0),(6, .rs 1019 0 0 ys.length 1),(7,E' i)],[(1001,⟨0,[.v (.s name), .v (.s m), .v (.s o), .v (.s z), .v (.s s), .v (.sl (r.map .s)), .v (.s u), .v (.s h)],false,none⟩),(1019,⟨0,List.map AV.v (List.map PV.s ys),true,some 22⟩)],_⟩) (fun i=>i≤ys.length∧(ys.drop i).all validN=ys.all validN) 0 (fun _=>Nat.le_refl _) ⟨Nat.zero_le _,rfl⟩ ?_ ?_
 ·(refine AS.Le.of (by first|decide|omega) ?_ ?_<;>simp[LeT,LeH,tget,hget,AV.bd,AV.bd.bdL,u8,bd_cellsOf,bcells_bd,icells_bd])
  all_goals omega
 ·rintro i ⟨hi,hf⟩ R hR
  by_cases hlt:i<ys.length
  ·have e1:=getD_VSl hlt;rw[drop_cons hlt,List.all_cons]at hf;have hgo:=hR (i+1);have hv:=rValid_ok (ys.getD i []);clear hR;generalize ys.getD i []=y at*
   cases hvy:validN y
   ·rw[hvy]at hv hf;rw[←hf,Bool.false_and];repeat' first|simp only[go_sem,seval,e1,hl2,List.length_map]|refine cP hv ?_|refine sB ?_|(first|apply pX|apply bX)<;>intro hc|refine⟨oD,?_⟩|exact oD|fail
   ·rw[hvy]at hv hf;rw[Bool.true_and]at hf;have hgo:=hgo ⟨by omega,hf⟩ (by omega)
    repeat' first|simp only[go_sem,seval,e1,hl2,List.length_map]|refine cP hv ?_|refine sB ?_|(first|apply pX|apply bX)<;>intro hc|refine⟨oD,?_⟩|exact oD|fail
    refine hgo _ ?_;exact lE
  ·obtain rfl:i=ys.length:=by omega
   have hall:ys.all validN=true:=by rw[←hf,List.drop_length];rfl
   rw[hall]
   cases hn:nameB name
   ·rw[hn]at hnm;repeat' first|simp only[go_sem,seval,hl2,List.length_map]|refine cP hnm ?_|refine sB ?_|(first|apply pX|apply bX)<;>intro hc|refine⟨oD,?_⟩|exact oD|fail
   rw[hn]at hnm
   by_cases ho:o=[]
   case neg=>
    have hob:(o==([]:Bytes))=false:=by simpa using ho
    rw[hob];repeat' first|simp only[go_sem,seval,hl2,List.length_map,hob]|refine cP hnm ?_|refine sB ?_|(first|apply pX|apply bX)<;>intro hc|refine⟨oD,?_⟩|exact oD|fail
   subst ho
   by_cases hpw:pwE m=0
   case neg=>
    rw[decide_eq_true hpw];generalize pwE m=pw at*;repeat' first|simp only[go_sem,seval,hl2,List.length_map,nn]|refine cP hnm ?_|refine cP hg ?_|refine sB ?_|(first|apply pX|apply bX)<;>intro hc|refine⟨oD,?_⟩|exact oD|fail
    all_goals first|(exact absurd (by assumption) hpw)|skip
   rw[hpw]at hg;have hd0:decide (pwE m≠0)=false:=by simp[hpw]
   rw[hd0];have hin':=fun x=>hin x hpw
   by_cases hr3:r.length<2∨r.length>18
   ·rw[if_pos hr3];repeat' first|simp only[go_sem,seval,hl2,List.length_map,nn]|refine cP hnm ?_|refine cP hg ?_|refine sB ?_|(first|apply pX|apply bX)<;>intro hc|refine⟨oD,?_⟩|exact oD|fail
   rw[if_neg hr3]
   by_cases hs1:s=[1]
   ·subst hs1;repeat' first|simp only[go_sem,seval,hl2,List.length_map,nn,beq_self_eq_true]|refine cP hnm ?_|refine cP hg ?_|refine sB ?_|(first|apply pX|apply bX)<;>intro hc|refine⟨oD,?_⟩|exact oD|fail
    all_goals rfl
   have hsb:(s==([1]:Bytes))=false:=by simpa using hs1
   rw[hsb,Bool.false_or];repeat' first|simp only[go_sem,seval,hl2,List.length_map,nn,hsb]|refine cP hnm ?_|refine cP hg ?_|refine sB ?_|(first|apply pX|apply bX)<;>intro hc|refine⟨oD,?_⟩|exact oD|fail
   refine loop_run (α:=Nat) (fun i=>ys.length-i) (fun i=>⟨[(3, .p 1001 0 0),(6, .rs 1019 0 0 ys.length 1),(8,E' i)],[(1001,⟨0,[.v (.s name), .v (.s m), .v (.s []), .v (.s z), .v (.s s), .v (.sl (r.map .s)), .v (.s u), .v (.s h)],false,none⟩),(1019,⟨0,List.map AV.v (List.map PV.s ys),true,some 22⟩)],_⟩) (fun i=>i≤ys.length∧(ys.drop i).any (fun x=> !rHas m [] x)=(ys.drop 2).any (fun x=> !rHas m [] x)) 2 (fun _=>Nat.le_refl _) ⟨by omega,rfl⟩ ?_ ?_
   ·exact lE
   ·rintro i ⟨hi,hf⟩ R hR
    by_cases hlt:i<ys.length
    ·have e1:=getD_VSl hlt;rw[drop_cons hlt,List.any_cons]at hf;have hgo:=hR (i+1);have hv:=hhas (ys.getD i []);rw[hin']at hv;clear hR;generalize ys.getD i []=y at*
     cases hvy:rHas m [] y
     ·rw[hvy]at hv hf;rw[←hf];repeat' first|simp only[go_sem,seval,e1,hl2,List.length_map]|refine cP hv ?_|refine sB ?_|(first|apply pX|apply bX)<;>intro hc|refine⟨oD,?_⟩|exact oD|fail
      all_goals rfl
     ·rw[hvy]at hv hf;have hgo:=hgo ⟨by omega,hf⟩ (by omega)
      repeat' first|simp only[go_sem,seval,e1,hl2,List.length_map]|refine cP hv ?_|refine sB ?_|(first|apply pX|apply bX)<;>intro hc|refine⟨oD,?_⟩|exact oD|fail
      refine hgo _ ?_;exact lE
    ·obtain rfl:i=ys.length:=by omega
     rw[←hf,List.drop_length];repeat' first|simp only[go_sem,seval,hl2,List.length_map]|refine sB ?_|(first|apply pX|apply bX)<;>intro hc|refine⟨oD,?_⟩|exact oD|fail
     all_goals rfl
end Go.Proofs.YtmledjfbgjnknaaGreatDoor
namespace Go.Proofs.YtmledjfbgjnknaaGreatDoor
open Go Go.Dom
set_option maxRecDepth 100000
set_option maxHeartbeats 16000000
theorem PR_sl_cells {rd:Rd} {l l':List PV} {v:Value} (hlen:l.length=l'.length) (hc:l.flatMap PV.cells=l'.flatMap PV.cells) {z:Nat} (hz': ∀x∈l',x.cells.length=z) (h:PR rd (.sl l) v):PR rd (.sl l') v:=by
 cases h with
 |sl0=>
  obtain rfl:l'=[]:=List.length_eq_zero_iff.1 hlen.symm;exact .sl0
 |sle a cap=>
  obtain rfl:l'=[]:=List.length_eq_zero_iff.1 hlen.symm;exact .sle a cap
 |sl _ z vs bk of cap hcap hz h1 hl hr h=>
  rw[hc]at h1 hl h;rw[hlen]at hcap⊢;exact .sl l' _ vs bk of cap hcap hz' h1 hl hr h
theorem EvP_res {P:Program} [Tabs P] {f:FuncId} {args:List PV} {r r':PV} (h:EvP P f args r) (hr: ∀rd v,PR rd r v→PR rd r' v):EvP P f args r':=by
 obtain⟨g,hg,hc⟩:=h;refine⟨g,hg,fun w rd vs h1 h2 h3=>(hc w rd vs h1 h2 h3).mono ?_⟩
 rintro e w' ⟨v,rfl,hb,hp⟩;exact⟨v,rfl,hb,hr _ _ hp⟩
theorem PR_stm {rd:Rd} {a c:PV} {l:List Bytes} {v:Value} (h:PR rd (.agg [a, .sl (l.map .s),c]) v):PR rd (.agg [a, .sl (l.map vpv),c]) v:=by
 cases h with
 |agg _ vs h1 hl h=>
  refine .agg _ vs (fun x hx=> ?_) hl (fun k x w hx hw=> ?_)
  ·simp only[List.mem_cons,List.not_mem_nil,or_false]at hx;rcases hx with rfl|rfl|rfl
   ·exact h1 _ (by simp)
   ·rfl
   ·exact h1 _ (by simp)
  ·match k,hx with
   |0,hx=>exact h 0 x w hx hw
   |1,hx=>
    have hx:x= .sl (l.map vpv):=by simpa using hx.symm
    subst hx;exact PR_sl_cells (by simp) (by rw[List.flatMap_map,List.flatMap_map];rfl) (z:=1) (fun x hx=>by obtain⟨b,-,rfl⟩:=List.mem_map.1 hx;rfl) (h 1 _ w rfl hw)
   |2,hx=>exact h 2 x w hx hw
   |n+3,hx=>simp at hx
theorem eqRow:RowOK Eqn.pv 3:=⟨fun q=>rfl,fun q y hy=>by obtain⟨g,t,l⟩:=q;simp[Eqn.pv,PV.cells]at hy;rcases hy with rfl|rfl|rfl<;>rfl,fun h=>by omega,fun _ q=>rfl⟩
def keyT (k:Key):List Bytes:=k.z::k.u::k.h::k.r
def keyQ (k:Key) (i:Nat) (b:Bytes):Eqn:=⟨0,b,[⟨k.s,i,false,[1]⟩]⟩
def keyS (k:Key):Stm:=⟨[(k.m,k.o)],List.replicate (keyT k).length k.m,(keyT k).mapIdx (keyQ k)⟩
theorem context_ok (k:Key) (hn:k.name.length≤60):EvP Tryz.prog 23 [k.pv] (.s ([105,115,115,117,101,114,32,107,101,121,32]++k.name)):=by
 unfold Key.pv;refine eW Tryz.call23 Tryz.func23 ?_;repeat' first|simp only[go_sem,seval]|refine sB ?_|(first|apply pX|apply bX)<;>intro hc|refine⟨oD,?_⟩|exact oD|fail
theorem statement_ok (k:Key) (lr:k.r.length≤20):EvP Tryz.prog 24 [k.pv] (keyS k).pv:=by
 have hb:=bases_ok k;have hit:=bases_it k (by omega)
 have hbl:=bases_len k;have hbs:k.bases=bas 2 k.s::bas 0 k.z::bas 1 k.u::bas 1 k.h::k.r.map (bas 0):=rfl;have ho:EvP Tryz.prog 60 [E 1] (.agg [.b false, .s [1]]):=Of1Z;refine EvP_res (r:= .agg [.sl ((keyS k).groups.map gpv), .sl ((keyS k).vars.map .s), .sl ((keyS k).eqs.map Eqn.pv)]) ?_ (fun rd v h=>PR_stm h)
 have hkp:k.pv= .agg [.s k.name, .s k.m, .s k.o, .s k.z, .s k.s, .sl (k.r.map .s), .s k.u, .s k.h]:=rfl;rw[hkp]at hb hit⊢;rw[hbs]at hit hbl;refine eW Tryz.call24 Tryz.func24 ?_;repeat' first|simp only[go_sem,seval]|refine cP hb ?_|(refine CW_rng hit rfl hbl ?_)|refine sB ?_|(first|apply pX|apply bX)<;>intro hc|refine⟨oD,?_⟩|exact oD|fail
 refine rg_cons ?_;simp only[bas];repeat' first|simp only[go_sem,seval]|refine sB ?_|(first|apply pX|apply bX)<;>intro hc|refine⟨oD,?_⟩|exact oD|fail
 refine rg_cons ?_;repeat' first|simp only[go_sem,seval]|refine cP ho ?_|refine sB ?_|(first|apply pX|apply bX)<;>intro hc|refine⟨oD,?_⟩|exact oD|fail
 have hTl:(keyT k).length=k.r.length+3:=rfl;have hr0:[AV.v (PV.s k.m)]=rowF PV.s (List.replicate (0+1) k.m):=rfl;have hr1:[AV.v (PV.i .i64 0),AV.v (PV.s k.z),AV.v (PV.sl [PV.agg [PV.s k.s,PV.i .i64 0,PV.b false,PV.s [1]]])]=rowF Eqn.pv ([k.z].mapIdx (keyQ k)):=rfl;rw[hr0,hr1];clear hr0 hr1 hb hit hbl hbs;refine rg_run (α:=Nat×List Bytes) (fun p=>⟨[(1, .p 1000 0 0),(2, .p 1001 0 0),(3, .p 1006 0 0)],[(1000,⟨0,[.v (.s k.name), .v (.s k.m), .v (.s k.o), .v (.s k.z), .v (.s k.s), .v (.sl (k.r.map .s)), .v (.s k.u), .v (.s k.h)],false,none⟩),(1001,⟨0,[.sn, .sn, .sn],false,some 74⟩),(1006,⟨0,[.fs [.agg [.s k.m, .s k.o]], .rs 1034 p.1 0 (1+p.1) 1, .rs 1044 p.1 0 (1+p.1) 3],false,some 74⟩),(1034,⟨p.1,rowF PV.s (List.replicate (p.1+1) k.m),true,some 138⟩),(1044,⟨p.1,rowF Eqn.pv (p.2.mapIdx (keyQ k)),true,some 141⟩)],1047⟩) (fun ys p=>p.2.length=p.1+1∧ ∃post:List (Int×Bytes),ys=post.map (fun q=>bas q.1 q.2)∧(∀q∈post,q.1≠2)∧keyT k=p.2++post.map (·.2)) (0,[k.z]) (fun _=>Nat.le_of_ble_eq_true rfl) ⟨rfl,(1,k.u)::(1,k.h)::k.r.map (fun b=>(0,b)),?_,?_,?_⟩ ?_ ?_ ?_
 ·simp[bas]
 ·intro q hq;simp only[List.mem_cons,List.mem_map]at hq;rcases hq with rfl|rfl|⟨b,-,rfl⟩<;>simp
 ·simp[keyT,Function.comp_def]
 ·(refine AS.Le.of (by first|decide|omega) ?_ ?_<;>simp[LeT,LeH,tget,hget,AV.bd,AV.bd.bdL,u8,bd_cellsOf,bcells_bd,icells_bd])
  exact⟨fun c hc=>bd_row hc,fun c hc=>bd_row hc⟩
 ·rintro⟨j,pre⟩ ⟨hl,post,hys,hq,hT⟩;obtain rfl:post=[]:=by simpa using hys.symm
  have hT:keyT k=pre:=by simpa using hT
  have hl:pre.length=j+1:=hl;have hlen:(keyT k).length=j+1:=by rw[hT];exact hl
  have e1:(keyS k).vars.map PV.s=(List.replicate (j+1) k.m).map .s:=by simp only[keyS];rw[hlen]
  have e2:(keyS k).eqs.map Eqn.pv=(pre.mapIdx (keyQ k)).map Eqn.pv:=by simp only[keyS];rw[hT]
  have e3:(keyS k).groups.map gpv=[.agg [.s k.m, .s k.o]]:=rfl;rw[e1,e2,e3];have lA:(List.replicate (j+1) k.m).length=1+j:=by simp;omega
  have lB:(pre.mapIdx (keyQ k)).length=1+j:=by simp[hl];omega
  obtain⟨A,hA⟩: ∃A,A=List.replicate (j+1) k.m:=⟨_,rfl⟩;obtain⟨B,hB⟩: ∃B,B=pre.mapIdx (keyQ k):=⟨_,rfl⟩;simp only[←hA,←hB]at lA lB⊢;have q0:(rowF PV.s A).length=1+j:=by rw[rowF_len RowOK.s,lA,Nat.mul_one]
  have q1:List.take (1+j) (rowF PV.s A)=rowF PV.s A:=List.take_of_length_le (by omega)
  have q2:=rowF_all RowOK.s A;have q3:chunk 1 (1+j) (A.flatMap fun x=>(PV.s x).cells)=A.map .s:=by rw[←lA];exact rowF_chunk RowOK.s A
  have p0:(rowF Eqn.pv B).length=(1+j)*3:=by rw[rowF_len eqRow,lB]
  have p1:List.take ((1+j)*3) (rowF Eqn.pv B)=rowF Eqn.pv B:=List.take_of_length_le (by omega)
  have p2:=rowF_all eqRow B;have p3:chunk 3 (1+j) (B.flatMap fun x=>(Eqn.pv x).cells)=B.map Eqn.pv:=by rw[←lB];exact rowF_chunk eqRow B
  clear hA hB e1 e2 e3;repeat' first|simp only[go_sem,seval,q0,q1,q2,q3,p0,p1,p2,p3,rowF_mapO]|refine sB ?_|(first|apply pX|apply bX)<;>intro hc|refine⟨oD,?_⟩|exact oD|fail
  have q3':chunk 1 (1+j) (A.flatMap fun x=>[PV.s x])=A.map .s:=q3
  all_goals rw[q3']
 ·rintro y ys ⟨j,pre⟩ ⟨hl,post,hys,hq,hT⟩ R hR;have hl:pre.length=j+1:=hl;obtain⟨q,post,rfl⟩: ∃q r,post=q::r:=by cases post with
   |nil=>simp at hys
   |cons a b=>exact⟨a,b,rfl⟩
  rw[List.map_cons]at hys;injection hys with hy hys
  obtain⟨n,b⟩:=q;have hn:n≠2:=hq (n,b) (by simp)
  have hlen:(keyT k).length=j+1+(post.length+1):=by rw[hT];simp[hl]
  have hgo:=hR (j+1,pre++[b]) ⟨by simp[hl],post,hys,fun q hq'=>hq q (by simp[hq']),by rw[hT];simp⟩
  have hmi:(pre++[b]).mapIdx (keyQ k)=pre.mapIdx (keyQ k)++[keyQ k (j+1) b]:=by rw[List.mapIdx_append];simp[hl]
  simp only at hgo;rw[hmi,rowF_snoc,List.replicate_succ',rowF_snoc]at hgo;have hj:j≤30:=by rw[hTl]at hlen;omega
  subst hy;have lA:(List.replicate (j+1) k.m).length=1+j:=by simp;omega
  have lB:(pre.mapIdx (keyQ k)).length=1+j:=by simp[hl];omega
  obtain⟨A,hA⟩: ∃A,A=List.replicate (j+1) k.m:=⟨_,rfl⟩;obtain⟨B,hB⟩: ∃B,B=pre.mapIdx (keyQ k):=⟨_,rfl⟩;simp only[←hA,←hB]at lA lB hgo⊢;have q0:(rowF PV.s A).length=1+j:=by rw[rowF_len RowOK.s,lA,Nat.mul_one]
  have q1:List.take (1+j) (rowF PV.s A)=rowF PV.s A:=List.take_of_length_le (by omega)
  have p0:(rowF Eqn.pv B).length=(1+j)*3:=by rw[rowF_len eqRow,lB]
  have p1:List.take ((1+j)*3) (rowF Eqn.pv B)=rowF Eqn.pv B:=List.take_of_length_le (by omega)
  have hn':(n==2)=false:=by simpa using hn
  have e5:(Eqn.pv (keyQ k (j+1) b)).cells.map AV.v=[.v (.i .i64 0), .v (.s b), .v (.sl [.agg [.s k.s, .i .i64 ((j+1:Nat):Int), .b false, .s [1]]])]:=rfl;simp only[e5]at hgo;clear hR hA hB e5 hT hq hys hmi;repeat' first|simp only[go_sem,seval,bas,q0,q1,p0,p1,hn']|refine cP ho ?_|refine sB ?_|(first|apply pX|apply bX)<;>intro hc|refine⟨oD,?_⟩|exact oD|fail
  refine hgo _ ?_
  (refine AS.Le.of (by first|decide|omega) ?_ ?_<;>simp[LeT,LeH,tget,hget,AV.bd,AV.bd.bdL,u8,bd_cellsOf,bcells_bd,icells_bd])
  all_goals first|omega|exact⟨by omega,rfl,fun c hc=>by rcases hc with hc|⟨a,ha,rfl⟩;exact bd_row hc;rfl,by omega,fun c hc=>by rcases hc with hc|rfl|rfl|rfl<;>first|exact bd_row hc|rfl⟩
theorem rBasesLen (k:Key) (lr:k.r.length≤20):EvP Tryz.prog 62 [k.pv] (.sl ((keyT k).map .s)):=rBases_ok k (by omega)
theorem rStatement_ok (k:Key) (lr:k.r.length≤20):EvP Tryz.prog 28 [k.pv] (keyS k).pv:=by
 have hb:=rBasesLen k lr;refine EvP_res (r:= .agg [.sl ((keyS k).groups.map gpv), .sl ((keyS k).vars.map .s), .sl ((keyS k).eqs.map Eqn.pv)]) ?_ (fun rd v h=>PR_stm h)
 have hkp:k.pv= .agg [.s k.name, .s k.m, .s k.o, .s k.z, .s k.s, .sl (k.r.map .s), .s k.u, .s k.h]:=rfl;rw[hkp]at hb⊢;have hTl:(keyT k).length=k.r.length+3:=rfl;have l1:((keyT k).map PV.s).length=(keyT k).length:=List.length_map ..;have g0:((keyT k).map PV.s).getD 0 .fn0= .s k.z:=rfl;have hpos: ∀ _:True,(0:Int)<((keyT k).length:Int):=fun _=>by omega
 have hT0:(keyT k).take (0+1)=[k.z]:=rfl;have hS:keyS k=⟨[(k.m,k.o)],List.replicate (keyT k).length k.m,(keyT k).mapIdx (keyQ k)⟩:=rfl;rw[hS];generalize keyT k=T at*;refine eW Tryz.call28 Tryz.func28 ?_;repeat' first|simp only[go_sem,seval]|refine cP hb ?_|refine sB ?_|(first|apply pX|apply bX)<;>intro hc|refine⟨oD,?_⟩|exact oD|fail
 refine loop_unroll' ?_;repeat' first|simp only[go_sem,seval,l1,g0,hpos trivial]|refine sB ?_|(first|apply pX|apply bX)<;>intro hc|refine⟨oD,?_⟩|exact oD|fail
 have hr0:[AV.v (PV.s k.m)]=rowF PV.s (List.replicate (0+1) k.m):=rfl;have hr1:[AV.v (PV.i .i64 0),AV.v (PV.s k.z),AV.v (PV.sl [PV.agg [PV.s k.s,PV.i .i64 0,PV.b false,PV.s [1]]])]=rowF Eqn.pv ((T.take (0+1)).mapIdx (keyQ k)):=by rw[hT0];rfl
 rw[hr0,hr1];clear hr0 hr1 hb g0 hT0 hS;refine loop_run (α:=Nat) (fun j=>T.length-j) (fun j=>⟨[(1, .p 1000 0 0),(2, .p 1001 0 0),(3, .p 1006 0 0),(4, .v (.sl (T.map .s))),(5,E' (j+1))],[(1000,⟨0,[.v (.s k.name), .v (.s k.m), .v (.s k.o), .v (.s k.z), .v (.s k.s), .v (.sl (k.r.map .s)), .v (.s k.u), .v (.s k.h)],false,none⟩),(1001,⟨0,[.sn, .sn, .sn],false,some 74⟩),(1006,⟨0,[.fs [.agg [.s k.m, .s k.o]], .rs 1023 j 0 (1+j) 1, .rs 1040 j 0 (1+j) 3],false,some 74⟩),(1023,⟨j,rowF PV.s (List.replicate (j+1) k.m),true,some 138⟩),(1040,⟨j,rowF Eqn.pv ((T.take (j+1)).mapIdx (keyQ k)),true,some 141⟩)],1046⟩) (fun j=>j+1≤T.length) 0 (fun _=>Nat.le_of_ble_eq_true rfl) (by omega) ?_ ?_
 ·(refine AS.Le.of (by first|decide|omega) ?_ ?_<;>simp[LeT,LeH,tget,hget,AV.bd,AV.bd.bdL,u8,bd_cellsOf,bcells_bd,icells_bd])
  all_goals exact⟨fun c hc=>bd_row hc,fun c hc=>bd_row hc⟩
 ·intro j hj R hR;have hj30:j≤30:=by omega
  have lA:(List.replicate (j+1) k.m).length=1+j:=by simp;omega
  have lB:((T.take (j+1)).mapIdx (keyQ k)).length=1+j:=by rw[List.length_mapIdx,List.length_take];omega
  by_cases hjt:j+1<T.length
  ·have e2:=getD_map PV.s T ([]:Bytes) hjt;have hgo:=hR (j+1) (by omega) (by omega)
   have hmi:(T.take (j+1+1)).mapIdx (keyQ k)=(T.take (j+1)).mapIdx (keyQ k)++[keyQ k (j+1) (T.getD (j+1) [])]:=by
    rw[take_succ_getD ([]:Bytes) hjt,List.mapIdx_append];have hl:(T.take (j+1)).length=j+1:=by rw[List.length_take];omega
    simp[hl]
   rw[hmi,rowF_snoc,List.replicate_succ',rowF_snoc]at hgo;generalize T.getD (j+1) []=b at*;obtain⟨A,hA⟩: ∃A,A=List.replicate (j+1) k.m:=⟨_,rfl⟩;obtain⟨B,hB⟩: ∃B,B=(T.take (j+1)).mapIdx (keyQ k):=⟨_,rfl⟩;simp only[←hA,←hB]at lA lB hgo⊢;have q0:(rowF PV.s A).length=1+j:=by rw[rowF_len RowOK.s,lA,Nat.mul_one]
   have q1:List.take (1+j) (rowF PV.s A)=rowF PV.s A:=List.take_of_length_le (by omega)
   have p0:(rowF Eqn.pv B).length=(1+j)*3:=by rw[rowF_len eqRow,lB]
   have p1:List.take ((1+j)*3) (rowF Eqn.pv B)=rowF Eqn.pv B:=List.take_of_length_le (by omega)
   have e5:(Eqn.pv (keyQ k (j+1) b)).cells.map AV.v=[.v (.i .i64 0), .v (.s b), .v (.sl [.agg [.s k.s, .i .i64 ((j+1:Nat):Int), .b false, .s [1]]])]:=rfl;simp only[e5]at hgo;have e3: ∀ _:True,((j:Int)+1).toNat=j+1:=fun _=>by omega
   clear hR hA hB e5 hmi;repeat' first|simp only[go_sem,seval,q0,q1,p0,p1,l1,e2,e3 trivial]|refine sB ?_|(first|apply pX|apply bX)<;>intro hc|refine⟨oD,?_⟩|exact oD|fail
   refine hgo _ ?_
   (refine AS.Le.of (by first|decide|omega) ?_ ?_<;>simp[LeT,LeH,tget,hget,AV.bd,AV.bd.bdL,u8,bd_cellsOf,bcells_bd,icells_bd])
   all_goals first|omega|exact⟨by omega,rfl,fun c hc=>by rcases hc with hc|⟨a,ha,rfl⟩;exact bd_row hc;rfl,fun c hc=>by rcases hc with hc|rfl|rfl|rfl<;>first|exact bd_row hc|rfl⟩
  ·have hlen:T.length=j+1:=by omega
   rw[hlen];have hTT:T.take (j+1)=T:=List.take_of_length_le (by omega)
   rw[hTT]at lB⊢;obtain⟨A,hA⟩: ∃A,A=List.replicate (j+1) k.m:=⟨_,rfl⟩;obtain⟨B,hB⟩: ∃B,B=T.mapIdx (keyQ k):=⟨_,rfl⟩;simp only[←hA,←hB]at lA lB⊢;have q0:(rowF PV.s A).length=1+j:=by rw[rowF_len RowOK.s,lA,Nat.mul_one]
   have q1:List.take (1+j) (rowF PV.s A)=rowF PV.s A:=List.take_of_length_le (by omega)
   have q2:=rowF_all RowOK.s A;have q3:chunk 1 (1+j) (A.flatMap fun x=>[PV.s x])=A.map .s:=by rw[←lA];exact rowF_chunk RowOK.s A
   have p0:(rowF Eqn.pv B).length=(1+j)*3:=by rw[rowF_len eqRow,lB]
   have p1:List.take ((1+j)*3) (rowF Eqn.pv B)=rowF Eqn.pv B:=List.take_of_length_le (by omega)
   have p2:=rowF_all eqRow B;have p3:chunk 3 (1+j) (B.flatMap fun x=>(Eqn.pv x).cells)=B.map Eqn.pv:=by rw[←lB];exact rowF_chunk eqRow B
   clear hA hB hR hpos;repeat' first|simp only[go_sem,seval,q0,q1,q2,p0,p1,p2,p3,l1,hlen,rowF_mapO]|refine sB ?_|(first|apply pX|apply bX)<;>intro hc|refine⟨oD,?_⟩|exact oD|fail
   all_goals (rw[q3];rfl)
theorem pCheck_ok (p:Par) (hs:p.short):EvP Tryz.prog 32 [p.pv] (E (parE p)):=by
 by_cases h:p.nums.all validN=true
 ·exact parGood p h hs
 ·have h:p.nums.all validN=false:=by simpa using h
  have e:parE p=3:=by unfold parE;rw[h];rfl
  rw[e];exact parBad p h
theorem ruOK_of {p:Par} (hs:p.short) (h:parE p=0):RuOK p.c p.sl:=by
 unfold parE at h
 split at h
 ·rename_i hv
  split at h
  ·exact absurd h (by decide)
  ·split at h
   ·exact absurd h (by decide)
   ·rename_i ht;have hn: ∀x∈p.nums,validN x=true:=List.all_eq_true.1 hv;have ht': ∀x∈p.tens,¬num x<2:=fun x hx g=>ht (List.any_eq_true.2 ⟨x,hx,by simpa using g⟩)
    have c1:p.c∈p.nums:=by simp[Par.nums]
    have c2:p.sl∈p.nums:=by simp[Par.nums]
    have d1:=ht' p.c (by simp[Par.tens])
    have d2:=ht' p.sl (by simp[Par.tens])
    exact⟨hn _ c1,hn _ c2,hs _ c1,hs _ c2,by omega,by omega⟩
 ·exact absurd h (by decide)
structure KeyF (k:Key):Prop where
 o:k.o=[]
 gd:goodB k.m []=true
 s:rHas k.m [] k.s=true
 t: ∀x∈keyT k,rHas k.m [] x=true
 r:k.r.length≤18
theorem keyF_of {pe:Int} {k:Key} (h:keyE pe k=0):pe=0∧KeyF k:=by
 unfold keyE at h
 split at h
 ·rename_i g;exact absurd h g
 ·rename_i g0
  split at h
  ·exact absurd h (by decide)
  ·split at h
   ·exact absurd h (by decide)
   ·split at h
    ·exact absurd h (by decide)
    ·split at h
     ·exact absurd h (by decide)
     ·rename_i g1
      split at h
      ·exact absurd h (by decide)
      ·rename_i g2
       split at h
       ·exact absurd h (by decide)
       ·rename_i g3;simp only[Bool.or_eq_true,Bool.not_eq_true',beq_eq_false_iff_ne,ne_eq,decide_eq_true_eq,not_or,Decidable.not_not]at g1;have hb: ∀y∈k.bases,kBad k.m y=false:=fun y hy=>by
         have:=g3;simp only[Bool.not_eq_true]at this;exact List.any_eq_false.1 this y hy|>fun h=>by simpa using h
        have hh: ∀n b,bas n b∈k.bases→rHas k.m [] b=true:=fun n b hm=>by
         have:=hb _ hm;simp only[kBad,Bool.or_eq_false_iff,Bool.not_eq_false']at this;exact this.1
        refine⟨Decidable.not_not.1 g0,g1.1,pwE0.1 g1.2,hh 2 _ (by simp[Key.bases]),fun x hx=> ?_,by omega⟩
        simp only[keyT,List.mem_cons]at hx;rcases hx with rfl|rfl|rfl|hx
        ·exact hh 0 _ (by simp[Key.bases])
        ·exact hh 1 _ (by simp[Key.bases])
        ·exact hh 1 _ (by simp[Key.bases])
        ·exact hh 0 x (by unfold Key.bases;simp only[List.mem_cons,List.mem_map];exact .inr (.inr (.inr (.inr ⟨x,hx,rfl⟩))))
theorem keyQ_mem {k:Key} {q:Eqn} (h:q∈(keyS k).eqs): ∃i,i<(keyT k).length∧ ∃b∈keyT k,q=keyQ k i b:=by
 simp only[keyS,List.mem_mapIdx]at h;obtain⟨i,hi,rfl⟩:=h;exact⟨i,hi,_,List.getElem_mem hi,rfl⟩
theorem rHas_len {m x:Bytes} (lm:m.length≤8) (h:rHas m [] x=true):x.length≤8:=by
 simp only[rHas,Bool.and_eq_true,decide_eq_true_eq]at h;have hx:=h.1.1.1.2;have hlt:=h.1.2;have hm:=num8 lm;have:x=bts (num x):=by have:=N_of hx;injection this with e;exact e.symm
 rw[this];exact bts_len.2 (by omega)
theorem key_facts {k:Key} (lm:k.m.length≤8) (h:KeyF k):StOK (keyS k)∧OneT (keyS k)∧BdS (keyS k)∧(keyS k).eqs≠[]∧ ∀ch rs,∀x∈fmsg (keyS k) ch rs,x.length≤8∧validN x=true:=by
 have hT:(keyT k).length=k.r.length+3:=rfl;have hr:=h.r;have hg:=h.gd;simp only[goodB,Bool.and_eq_true,decide_eq_true_eq]at hg;have vm:validN k.m=true:=hg.1.1.1;have m8:=hg.2;have hmn:=num8 lm;have m0:k.m≠[]:=by intro e;rw[e]at m8;exact absurd m8 (by decide)
 have hgH: ∀x,rHas k.m [] x=true→gHas k.m k.o x=true:=fun x hx=>by rw[h.o];unfold gHas;rw[if_pos (by simp)];exact hx
 have hgr:(keyS k).groups=[(k.m,k.o)]:=rfl;have hvl:(keyS k).vars.length=k.r.length+3:=by simp[keyS,hT]
 have hel:(keyS k).eqs.length=k.r.length+3:=by simp[keyS,hT]
 refine⟨⟨?_,?_,?_,by rw[hgr];simp,by rw[hvl];omega,by rw[hel];omega⟩,?_,⟨⟨k.m,k.o,rfl,by omega,by rw[h.o];simp⟩,?_,by rw[hvl];omega,?_,by rw[hel];omega,?_⟩,?_,?_⟩
 ·intro q hq;rw[hgr]at hq;obtain rfl:=List.mem_singleton.1 hq;refine⟨?_,lm,by rw[h.o];simp⟩
  rw[h.o,gE_nil];exact pwE0.2 h.gd
 ·intro b hb;obtain rfl:=List.eq_of_mem_replicate hb;exact⟨vm,m0,by omega⟩
 ·intro q hq;obtain⟨i,hi,b,hb,rfl⟩:=keyQ_mem hq;rw[hvl];refine⟨Int.le_refl 0,by rw[hgr];simp[keyQ],hgH _ (h.t b hb),by simp[keyQ],?_⟩
  intro t ht;obtain rfl:=List.mem_singleton.1 ht;refine⟨by simp,by simp only;omega,hgH _ h.s,by simp[izok];decide⟩
 ·intro q hq;obtain⟨i,hi,b,hb,rfl⟩:=keyQ_mem hq;exact⟨_,rfl,by simp⟩
 ·intro e;have:=congrArg List.length e;rw[hvl]at this;simp at this
 ·intro b hb;obtain rfl:=List.eq_of_mem_replicate hb;omega
 ·intro q hq;obtain⟨i,hi,b,hb,rfl⟩:=keyQ_mem hq;have l1:=rHas_len lm (h.t b hb);have l2:=rHas_len lm h.s;refine⟨Int.le_refl 0,by simp[keyQ],by simp only[keyQ];omega,_,rfl,by simp,by simp only;omega,by simp only;omega,by simp⟩
 ·intro e;have:=congrArg List.length e;rw[hel]at this;simp at this
 ·intro ch rs x hx;simp only[fmsg,List.mem_map]at hx;obtain⟨q,hq,rfl⟩:=hx;obtain⟨i,hi,b,hb,rfl⟩:=keyQ_mem hq;have hlt:msgQ (keyS k).groups ch rs (keyQ k i b)<num k.m:=by
   simp only[msgQ,keyQ,List.foldl_cons,List.foldl_nil,msgT];exact Nat.mod_lt _ (by show 0<num k.m;omega)
  exact⟨bts_len.2 (by omega),vN (by omega)⟩
end Go.Proofs.YtmledjfbgjnknaaGreatDoor
