/-
  Read AND Decode: contracts. Own work.
-/
import Derived.Test.YtjigfdhjmfcbpaaW16
import Derived.Test.YtjigfdhjmfcbpaaDomZ7
import Derived.WideLaws
import Derived.Tactics
import Derived.Tactics2
set_option linter.all false
namespace Go.Proofs.Ytjigfdhjmfcbpaa
open Go Go.Dom
set_option maxRecDepth 100000

theorem catchIdle (v1 v2 v3 : Value) (w : World) : CallsD Try.prog 47 #[v1, v2, v3] .returning w fun e u' w' => e = .returned (.tuple #[]) ∧ u' = .returning ∧ w' = w := by
  refine callsD_of_wpS Try.func47 rfl fun c₀ cs hu => ?_
  apply wpS_seq
  apply wpS_region
  simp [wpOpsS, go_sem, recoverD, hu, Try.ntmps47, Exit.thenS]
  apply wpS_seq
  apply wpS_region
  simp [wpOpsS, go_sem, Exit.thenS]
  refine wpS_cond (t := false) (by simp [Act.eval, Array.replicate]) ?_
  simp only [Bool.false_eq_true, if_false]
  refine wpS_of_wp (wp_skip ?_)
  cases c₀
  simp_all [bodyPostS, results, Try.results47]

def S34a : SC :=
  .reg none [⟨some 2, .alloc 79 [(.v (.i .i64 0)), (.v (.s [])), (.v (.s [])), .sn], none⟩,
    ⟨some 3, .alloc 3 [(.v (.i .i64 0))], none⟩,
    ⟨some 4, .alloc 52 [(.v (.i .i64 0))], none⟩]
def S34b : SC :=
  .seq (.reg none [⟨some 6, .mov (.t 0), none⟩,
     ⟨some 7, .lenS (.t 6), none⟩,
     ⟨some 8, .bin .gtr (.t 7) (.c (.v (.i .i64 65536))), none⟩])
  (.cond (.t 8) (.seq (.reg none [⟨some 9, .build [(.v (.i .i64 0)), (.v (.s [])), (.v (.s [])), .sn] [], none⟩,
       ⟨none, .st 4 (.t 2) (.t 9), none⟩,
       ⟨none, .st 1 (.t 3) (.c (.v (.i .i64 0))), none⟩,
       ⟨none, .st 1 (.t 4) (.c (.v (.i .i64 5))), none⟩])
    (.ret))
   (.skip))
def S34c : SC :=
  .seq (.reg none [⟨some 11, .mov (.t 0), none⟩,
     ⟨some 12, .build [(.v (.s [])), (.v (.i .i64 0))] [(0, 1, (.t 11))], none⟩,
     ⟨some 13, .box (.t 12), none⟩,
     ⟨some 5, .mov (.t 13), none⟩])
  (.seq (.reg none [⟨some 14, .mov (.t 5), none⟩,
      ⟨some 15, .mov (.t 0), none⟩,
      ⟨some 16, .lenS (.t 15), none⟩,
      ⟨some 17, .call (.c (.v (.fn (.func 48)))) [(.t 14), (.t 16), (.c (.v (.i .i64 0)))], none⟩,
      ⟨none, .st 4 (.t 2) (.t 17), none⟩])
   (.seq (.reg (some [0, 0, 2, 6, 14, 1, 63, 127]) [⟨some 18, .ld true 4 (.t 2), none⟩,
       ⟨some 19, .mov (.t 5), none⟩,
       ⟨some 20, .nck (.t 19), none⟩,
       ⟨some 21, .fad 1 (.t 20), none⟩,
       ⟨some 22, .ld false 1 (.t 21), none⟩,
       ⟨none, .st 4 (.t 2) (.t 18), none⟩,
       ⟨none, .st 1 (.t 3) (.t 22), none⟩,
       ⟨none, .st 1 (.t 4) (.c (.v (.i .i64 0))), none⟩])
    (.ret)))
def R34 : List SRes := [.c 2 true 4, .c 3 false 1, .c 4 false 1]

theorem readD (a : Act) (w : World) (Q : Exit → Act → World → Prop) (hd : a.defers = []) (hs : a.tmps.size = Try.f34.ntmps) (hQ : ∀ a' d, a'.tmps.size = Try.f34.ntmps → (∀ k, k ≠ 10 → a'.tmps.getD k undef = a.tmps.getD k undef) → a'.defers = [d] → Idle Try.prog d → Q .normal a' w) : (cFst (cSnd (cSnd (Try.f34.body.getD .skip)))).wp Try.prog Q a w := by
  have hmf : ∀ (fn : Fn) (first cap : Array Value) (w : World), (Instr.makeFunc fn first cap).run Try.prog w = .ok (.func fn first cap) w := fun _ _ _ _ => rfl
  show (Code.region 3 _ false).wp Try.prog Q a w
  apply wp_region
  simp [wpOps, go_sem, hd]
  have h10 : 10 < a.tmps.size := by rw [hs, Try.ntmps34]; decide
  refine .inl ?_
  rw [hmf]
  simp only [Result.andThen, Oper.upon_value]
  refine .inl ?_
  have e10 : (a.put (some 10) (.func (.func 47) #[] #[a.tmps[2]?.getD undef, a.tmps[3]?.getD undef, a.tmps[4]?.getD undef])).tmps[10]?.getD undef = (.func (.func 47) #[] #[a.tmps[2]?.getD undef, a.tmps[3]?.getD undef, a.tmps[4]?.getD undef]) := by simp [Act.put, h10]
  rw [e10]
  refine hQ (({ (a.put (some 10) (.func (.func 47) #[] #[a.tmps[2]?.getD undef, a.tmps[3]?.getD undef, a.tmps[4]?.getD undef])) with defers := ⟨.fn (.func 47) #[a.tmps[2]?.getD undef, a.tmps[3]?.getD undef, a.tmps[4]?.getD undef], #[]⟩ :: (a.put (some 10) (.func (.func 47) #[] #[a.tmps[2]?.getD undef, a.tmps[3]?.getD undef, a.tmps[4]?.getD undef])).defers } : Act).put none undef) ⟨.fn (.func 47) #[a.tmps[2]?.getD undef, a.tmps[3]?.getD undef, a.tmps[4]?.getD undef], #[]⟩ ?_ ?_ ?_ ⟨.func 47, #[a.tmps[2]?.getD undef, a.tmps[3]?.getD undef, a.tmps[4]?.getD undef], 47, #[a.tmps[2]?.getD undef, a.tmps[3]?.getD undef, a.tmps[4]?.getD undef], rfl, fun w => ⟨?_, catchIdle _ _ _ w⟩⟩
  · simp [Act.put, hs]
  · intro k hk
    simp [Act.put, Array.getElem?_setIfInBounds_ne (Ne.symm hk)]
  · simp [Act.put, hd]
  · simp [invoke, go_sem]

theorem C34a : comp Try.prog Try.f34.ntmps (cFst (Try.f34.body.getD .skip)) = some S34a := by kernel_rfl
theorem C34b : comp Try.prog Try.f34.ntmps (cFst (cSnd (Try.f34.body.getD .skip))) = some S34b := by kernel_rfl
theorem C34c : comp Try.prog Try.f34.ntmps (cSnd (cSnd (cSnd (Try.f34.body.getD .skip)))) = some S34c := by kernel_rfl
theorem Q34 : compRes Try.prog Try.f34.results.toList = some R34 := by kernel_rfl
theorem B34 : Try.f34.body = some (.seq (cFst (Try.f34.body.getD .skip)) (.seq (cFst (cSnd (Try.f34.body.getD .skip))) (.seq (cFst (cSnd (cSnd (Try.f34.body.getD .skip)))) (cSnd (cSnd (cSnd (Try.f34.body.getD .skip))))))) := by kernel_rfl

theorem read_ok (s : Bytes) (x : It) (n : Nat) (hs : s.length ≤ 65536) (h : rdI 100 s 0 s.length 0 = some (x, n)) : EvP Try.prog 34 [.s s] (.tup [x.pv, .i .i64 n, .i .i64 0]) := by
  have rd := fun nm => (rd_ok s (by omega) 100).1 0 s.length 0 x n (Nat.le_refl _) (by decide) h 1005 nm
  obtain ⟨k', n', t', l', ex, ep⟩ := It.pv_agg x
  rw [ep] at rd ⊢
  have d : decide ((s.length : Int) > 65536) = false := by simp; omega
  refine EvP.of_defer (sl := 10) (s1 := ⟨[(0, .v (.s s)), (2, .p 1000 0 0), (3, .p 1001 0 0), (4, .p 1002 0 0)], [(1000, ⟨0, [.v (.i .i64 0), .v (.s []), .v (.s []), .sn], false, some 79⟩), (1001, ⟨0, [.v (.i .i64 0)], false, some 3⟩), (1002, ⟨0, [.v (.i .i64 0)], false, some 52⟩)], 1003⟩) (s2 := ⟨[(0, .v (.s s)), (2, .p 1000 0 0), (3, .p 1001 0 0), (4, .p 1002 0 0)], [(1000, ⟨0, [.v (.i .i64 0), .v (.s []), .v (.s []), .sn], false, some 79⟩), (1001, ⟨0, [.v (.i .i64 0)], false, some 3⟩), (1002, ⟨0, [.v (.i .i64 0)], false, some 52⟩)], 1003⟩) mixed Try.call34 Try.func34 B34 C34a C34b C34c Q34 readD (Nat.le_of_ble_eq_true rfl) (Nat.le_of_ble_eq_true rfl) (Nat.le_of_ble_eq_true rfl) rfl (CW.start ?_) (CW.start ?_) (CW.start ?_)
  · unfold S34a
    simp only [List.mapIdx_cons, List.mapIdx_nil]
    repeat' (first | (simp only [eq_self, reduceCtorEq, implies_true, imp_false, not_false_eq_true, CW_skip, CW_seq, CW_blk, CW_cond, CW_loop, CW_exit, CW_ret, CW_reg, KW_nil, KW_seqN, KW_seqE, KW_seqR, KW_blkN, KW_blkE, KW_blkR, KW_lpN, KW_lpE, KW_lpR, RW_nil, RW_op, XW, RW_gd, OW_some, OW_none, GR_b, GB_TT, GB_FT, GB_TF, GB_FF, GR_undef, CV_b, CC_T, CC_F, chkO_none, chkO_some, trU_none, trU_some, aop, retO, retP, SX.ev, tget, tput, tdel, hget, hput, hdel, hputs, AS.upd, AS.set, ibin, sbin, aBin, aUn, aLd, aFad, aIxs, aIxa, aExt, aNck, lenOf, bounds, srcOf, fillA, AV.pvL, AV.pv1, mkAgg, mapO, pvc_agg, pvc_b, avc_vb, pvo_b, avk_vb, pvc_i, avc_vi, pvo_i, avk_vi, pvc_s, avc_vs, pvo_s, avk_vs, pvc_tup, avc_vtup, pvo_tup, avk_vtup, pvc_sl, avc_vsl, pvo_sl, avk_vsl, pvc_fn, avc_vfn, pvo_fn, avk_vfn, pvc_fn0, avc_vfn0, pvo_fn0, avk_vfn0, pvc_p0, avc_vp0, pvo_p0, avk_vp0, pvc_if0, avc_vif0, pvo_if0, avk_vif0, pvc_ifc, avc_vifc, pvo_ifc, avk_vifc, pvo_agg, avc_vagg, avk_vagg, avc_p, avk_p, avo_p, avc_pp, avk_pp, avo_pp, avc_rs, avk_rs, avo_rs, avc_fs, avk_fs, avo_fs, avc_sn, avk_sn, avo_sn, avc_fn, avk_fn, avo_fn, avc_u, avk_u, avo_u, avc_tup, avk_tup, avo_tup, avc_agg, avk_agg, avo_agg, avo_v, avi_agg, avi_v, u8, allM_nil, allM_cons, byte_i, isByte_i, abyte_v, aisByte_v, ofNat_byte, ne_eq, Int.reduceEq, Int.cast_ofNat_Int, cast0, cast1, List.reduceReplicate, List.flatten_cons, List.flatten_nil, List.flatMap_cons, List.flatMap_nil, IntKind.bits, Nat.min_def, Int.reducePow, Nat.reducePow, Int.reduceTDiv, Int.reduceTMod, List.take_length, take_len_map, List.length_map, IntWalk.i64_in, IntWalk.u8_in, IntWalk.u64_in, Int.reduceMul, Int.reduceSub, Int.reduceAdd, Int.reduceLT, Int.reduceLE, Int.reduceGT, Int.reduceGE, Int.reduceNeg, Int.reduceToNat, Int.reduceBEq, Int.reduceBNe, decide_true, decide_false, Int.toNat_natCast, Int.toNat_zero, Int.toNat_one, reduceIte, ite_true, ite_false, List.length_cons, List.length_nil, List.map_cons, List.map_nil, List.all_cons, List.all_nil, Bool.and_true, Bool.true_and, Bool.and_self, Option.map_some, Option.map_none, List.take_succ_cons, List.take_zero, List.drop_succ_cons, List.drop_zero, List.take_nil, List.drop_nil, List.getD_cons_zero, List.getD_cons_succ, List.nil_append, List.cons_append, List.append_nil, Nat.reduceEqDiff, Nat.reduceAdd, Nat.reduceMul, Nat.reduceSub, Nat.reduceLT, Nat.reduceLeDiff, Nat.zero_add, Nat.add_zero, Nat.le_refl, true_and, and_true, and_self, true_implies, forall_const, Nat.mul_one, Nat.one_mul, bfold, bcells_len, bcells_take, bcells_app, bcells_one, List.isEmpty_cons, List.isEmpty_nil, Bool.or_true, Bool.true_or, Bool.false_or, Bool.or_false, Bool.and_false, Bool.false_and, RetQ, resL, resA, view, mkRes, aPeq, aCvp, aSld, aUst]) | (with_reducible refine CC.mk (fun hc => ?_) (fun hc => ?_)) | (with_reducible refine GB.mk (fun hc => ?_) (fun hc => ?_)) | (with_reducible refine And.intro (by first | omega | decide) ?_) | omega | decide | fail)
    exact (by refine AS.Le.of (by first | decide | omega) ?_ ?_ <;> simp [LeT, LeH, tget, hget, AV.bd, AV.bd.bdL, u8, bd_cellsOf, bcells_bd])
  · unfold S34b
    repeat' (first | (simp only [eq_self, reduceCtorEq, implies_true, imp_false, not_false_eq_true, CW_skip, CW_seq, CW_blk, CW_cond, CW_loop, CW_exit, CW_ret, CW_reg, KW_nil, KW_seqN, KW_seqE, KW_seqR, KW_blkN, KW_blkE, KW_blkR, KW_lpN, KW_lpE, KW_lpR, RW_nil, RW_op, XW, RW_gd, OW_some, OW_none, GR_b, GB_TT, GB_FT, GB_TF, GB_FF, GR_undef, CV_b, CC_T, CC_F, chkO_none, chkO_some, trU_none, trU_some, aop, retO, retP, SX.ev, tget, tput, tdel, hget, hput, hdel, hputs, AS.upd, AS.set, ibin, sbin, aBin, aUn, aLd, aFad, aIxs, aIxa, aExt, aNck, lenOf, bounds, srcOf, fillA, AV.pvL, AV.pv1, mkAgg, mapO, pvc_agg, pvc_b, avc_vb, pvo_b, avk_vb, pvc_i, avc_vi, pvo_i, avk_vi, pvc_s, avc_vs, pvo_s, avk_vs, pvc_tup, avc_vtup, pvo_tup, avk_vtup, pvc_sl, avc_vsl, pvo_sl, avk_vsl, pvc_fn, avc_vfn, pvo_fn, avk_vfn, pvc_fn0, avc_vfn0, pvo_fn0, avk_vfn0, pvc_p0, avc_vp0, pvo_p0, avk_vp0, pvc_if0, avc_vif0, pvo_if0, avk_vif0, pvc_ifc, avc_vifc, pvo_ifc, avk_vifc, pvo_agg, avc_vagg, avk_vagg, avc_p, avk_p, avo_p, avc_pp, avk_pp, avo_pp, avc_rs, avk_rs, avo_rs, avc_fs, avk_fs, avo_fs, avc_sn, avk_sn, avo_sn, avc_fn, avk_fn, avo_fn, avc_u, avk_u, avo_u, avc_tup, avk_tup, avo_tup, avc_agg, avk_agg, avo_agg, avo_v, avi_agg, avi_v, u8, allM_nil, allM_cons, byte_i, isByte_i, abyte_v, aisByte_v, ofNat_byte, ne_eq, Int.reduceEq, Int.cast_ofNat_Int, cast0, cast1, List.reduceReplicate, List.flatten_cons, List.flatten_nil, List.flatMap_cons, List.flatMap_nil, IntKind.bits, Nat.min_def, Int.reducePow, Nat.reducePow, Int.reduceTDiv, Int.reduceTMod, List.take_length, take_len_map, List.length_map, IntWalk.i64_in, IntWalk.u8_in, IntWalk.u64_in, Int.reduceMul, Int.reduceSub, Int.reduceAdd, Int.reduceLT, Int.reduceLE, Int.reduceGT, Int.reduceGE, Int.reduceNeg, Int.reduceToNat, Int.reduceBEq, Int.reduceBNe, decide_true, decide_false, Int.toNat_natCast, Int.toNat_zero, Int.toNat_one, reduceIte, ite_true, ite_false, List.length_cons, List.length_nil, List.map_cons, List.map_nil, List.all_cons, List.all_nil, Bool.and_true, Bool.true_and, Bool.and_self, Option.map_some, Option.map_none, List.take_succ_cons, List.take_zero, List.drop_succ_cons, List.drop_zero, List.take_nil, List.drop_nil, List.getD_cons_zero, List.getD_cons_succ, List.nil_append, List.cons_append, List.append_nil, Nat.reduceEqDiff, Nat.reduceAdd, Nat.reduceMul, Nat.reduceSub, Nat.reduceLT, Nat.reduceLeDiff, Nat.zero_add, Nat.add_zero, Nat.le_refl, true_and, and_true, and_self, true_implies, forall_const, Nat.mul_one, Nat.one_mul, bfold, bcells_len, bcells_take, bcells_app, bcells_one, List.isEmpty_cons, List.isEmpty_nil, Bool.or_true, Bool.true_or, Bool.false_or, Bool.or_false, Bool.and_false, Bool.false_and, RetQ, resL, resA, view, mkRes, aPeq, aCvp, aSld, aUst , d]) | (with_reducible refine CC.mk (fun hc => ?_) (fun hc => ?_)) | (with_reducible refine GB.mk (fun hc => ?_) (fun hc => ?_)) | (with_reducible refine And.intro (by first | omega | decide) ?_) | omega | decide | fail)
    exact (by refine AS.Le.of (by first | decide | omega) ?_ ?_ <;> simp [LeT, LeH, tget, hget, AV.bd, AV.bd.bdL, u8, bd_cellsOf, bcells_bd])
  · unfold S34c R34
    repeat' (first | (simp only [eq_self, reduceCtorEq, implies_true, imp_false, not_false_eq_true, CW_skip, CW_seq, CW_blk, CW_cond, CW_loop, CW_exit, CW_ret, CW_reg, KW_nil, KW_seqN, KW_seqE, KW_seqR, KW_blkN, KW_blkE, KW_blkR, KW_lpN, KW_lpE, KW_lpR, RW_nil, RW_op, XW, RW_gd, OW_some, OW_none, GR_b, GB_TT, GB_FT, GB_TF, GB_FF, GR_undef, CV_b, CC_T, CC_F, chkO_none, chkO_some, trU_none, trU_some, aop, retO, retP, SX.ev, tget, tput, tdel, hget, hput, hdel, hputs, AS.upd, AS.set, ibin, sbin, aBin, aUn, aLd, aFad, aIxs, aIxa, aExt, aNck, lenOf, bounds, srcOf, fillA, AV.pvL, AV.pv1, mkAgg, mapO, pvc_agg, pvc_b, avc_vb, pvo_b, avk_vb, pvc_i, avc_vi, pvo_i, avk_vi, pvc_s, avc_vs, pvo_s, avk_vs, pvc_tup, avc_vtup, pvo_tup, avk_vtup, pvc_sl, avc_vsl, pvo_sl, avk_vsl, pvc_fn, avc_vfn, pvo_fn, avk_vfn, pvc_fn0, avc_vfn0, pvo_fn0, avk_vfn0, pvc_p0, avc_vp0, pvo_p0, avk_vp0, pvc_if0, avc_vif0, pvo_if0, avk_vif0, pvc_ifc, avc_vifc, pvo_ifc, avk_vifc, pvo_agg, avc_vagg, avk_vagg, avc_p, avk_p, avo_p, avc_pp, avk_pp, avo_pp, avc_rs, avk_rs, avo_rs, avc_fs, avk_fs, avo_fs, avc_sn, avk_sn, avo_sn, avc_fn, avk_fn, avo_fn, avc_u, avk_u, avo_u, avc_tup, avk_tup, avo_tup, avc_agg, avk_agg, avo_agg, avo_v, avi_agg, avi_v, u8, allM_nil, allM_cons, byte_i, isByte_i, abyte_v, aisByte_v, ofNat_byte, ne_eq, Int.reduceEq, Int.cast_ofNat_Int, cast0, cast1, List.reduceReplicate, List.flatten_cons, List.flatten_nil, List.flatMap_cons, List.flatMap_nil, IntKind.bits, Nat.min_def, Int.reducePow, Nat.reducePow, Int.reduceTDiv, Int.reduceTMod, List.take_length, take_len_map, List.length_map, IntWalk.i64_in, IntWalk.u8_in, IntWalk.u64_in, Int.reduceMul, Int.reduceSub, Int.reduceAdd, Int.reduceLT, Int.reduceLE, Int.reduceGT, Int.reduceGE, Int.reduceNeg, Int.reduceToNat, Int.reduceBEq, Int.reduceBNe, decide_true, decide_false, Int.toNat_natCast, Int.toNat_zero, Int.toNat_one, reduceIte, ite_true, ite_false, List.length_cons, List.length_nil, List.map_cons, List.map_nil, List.all_cons, List.all_nil, Bool.and_true, Bool.true_and, Bool.and_self, Option.map_some, Option.map_none, List.take_succ_cons, List.take_zero, List.drop_succ_cons, List.drop_zero, List.take_nil, List.drop_nil, List.getD_cons_zero, List.getD_cons_succ, List.nil_append, List.cons_append, List.append_nil, Nat.reduceEqDiff, Nat.reduceAdd, Nat.reduceMul, Nat.reduceSub, Nat.reduceLT, Nat.reduceLeDiff, Nat.zero_add, Nat.add_zero, Nat.le_refl, true_and, and_true, and_self, true_implies, forall_const, Nat.mul_one, Nat.one_mul, bfold, bcells_len, bcells_take, bcells_app, bcells_one, List.isEmpty_cons, List.isEmpty_nil, Bool.or_true, Bool.true_or, Bool.false_or, Bool.or_false, Bool.and_false, Bool.false_and, RetQ, resL, resA, view, mkRes, aPeq, aCvp, aSld, aUst , rO]) | (with_reducible refine CC.mk (fun hc => ?_) (fun hc => ?_)) | (with_reducible refine GB.mk (fun hc => ?_) (fun hc => ?_)) | (refine CR_eff (rd _) ?_ ?_; · simp [hget, rO]) | (with_reducible refine And.intro (by first | omega | decide) ?_) | omega | decide | fail)

theorem decode_ok (s : Bytes) (x : It) (hs : s.length ≤ 65536) (h : rdI 100 s 0 s.length 0 = some (x, s.length)) : EvP Try.prog 14 [.s s] (.tup [x.pv, .i .i64 0]) := by
  have rd := read_ok s x s.length hs h
  obtain ⟨k', n', t', l', ex, ep⟩ := It.pv_agg x
  rw [ep] at rd ⊢
  have d : decide ((s.length : Int) < (s.length : Int)) = false := by simp
  apply F14
  unfold S14 R14
  simp only [eq_self, reduceCtorEq, implies_true, imp_false, not_false_eq_true, CW_skip, CW_seq, CW_blk, CW_cond, CW_loop, CW_exit, CW_ret, CW_reg, KW_nil, KW_seqN, KW_seqE, KW_seqR, KW_blkN, KW_blkE, KW_blkR, KW_lpN, KW_lpE, KW_lpR, RW_nil, RW_op, XW, RW_gd, OW_some, OW_none, GR_b, GB_TT, GB_FT, GB_TF, GB_FF, GR_undef, CV_b, CC_T, CC_F, chkO_none, chkO_some, trU_none, trU_some, aop, retO, retP, SX.ev, tget, tput, tdel, hget, hput, hdel, hputs, AS.upd, AS.set, ibin, sbin, aBin, aUn, aLd, aFad, aIxs, aIxa, aExt, aNck, lenOf, bounds, srcOf, fillA, AV.pvL, AV.pv1, mkAgg, mapO, pvc_agg, pvc_b, avc_vb, pvo_b, avk_vb, pvc_i, avc_vi, pvo_i, avk_vi, pvc_s, avc_vs, pvo_s, avk_vs, pvc_tup, avc_vtup, pvo_tup, avk_vtup, pvc_sl, avc_vsl, pvo_sl, avk_vsl, pvc_fn, avc_vfn, pvo_fn, avk_vfn, pvc_fn0, avc_vfn0, pvo_fn0, avk_vfn0, pvc_p0, avc_vp0, pvo_p0, avk_vp0, pvc_if0, avc_vif0, pvo_if0, avk_vif0, pvc_ifc, avc_vifc, pvo_ifc, avk_vifc, pvo_agg, avc_vagg, avk_vagg, avc_p, avk_p, avo_p, avc_pp, avk_pp, avo_pp, avc_rs, avk_rs, avo_rs, avc_fs, avk_fs, avo_fs, avc_sn, avk_sn, avo_sn, avc_fn, avk_fn, avo_fn, avc_u, avk_u, avo_u, avc_tup, avk_tup, avo_tup, avc_agg, avk_agg, avo_agg, avo_v, avi_agg, avi_v, u8, allM_nil, allM_cons, byte_i, isByte_i, abyte_v, aisByte_v, ofNat_byte, ne_eq, Int.reduceEq, Int.cast_ofNat_Int, cast0, cast1, List.reduceReplicate, List.flatten_cons, List.flatten_nil, List.flatMap_cons, List.flatMap_nil, IntKind.bits, Nat.min_def, Int.reducePow, Nat.reducePow, Int.reduceTDiv, Int.reduceTMod, List.take_length, take_len_map, List.length_map, IntWalk.i64_in, IntWalk.u8_in, IntWalk.u64_in, Int.reduceMul, Int.reduceSub, Int.reduceAdd, Int.reduceLT, Int.reduceLE, Int.reduceGT, Int.reduceGE, Int.reduceNeg, Int.reduceToNat, Int.reduceBEq, Int.reduceBNe, decide_true, decide_false, Int.toNat_natCast, Int.toNat_zero, Int.toNat_one, reduceIte, ite_true, ite_false, List.length_cons, List.length_nil, List.map_cons, List.map_nil, List.all_cons, List.all_nil, Bool.and_true, Bool.true_and, Bool.and_self, Option.map_some, Option.map_none, List.take_succ_cons, List.take_zero, List.drop_succ_cons, List.drop_zero, List.take_nil, List.drop_nil, List.getD_cons_zero, List.getD_cons_succ, List.nil_append, List.cons_append, List.append_nil, Nat.reduceEqDiff, Nat.reduceAdd, Nat.reduceMul, Nat.reduceSub, Nat.reduceLT, Nat.reduceLeDiff, Nat.zero_add, Nat.add_zero, Nat.le_refl, true_and, and_true, and_self, true_implies, forall_const, Nat.mul_one, Nat.one_mul, bfold, bcells_len, bcells_take, bcells_app, bcells_one, List.isEmpty_cons, List.isEmpty_nil, Bool.or_true, Bool.true_or, Bool.false_or, Bool.or_false, Bool.and_false, Bool.false_and, RetQ, resL, resA, view, mkRes, aPeq, aCvp, aSld, aUst]
  repeat' (first | (simp only [eq_self, reduceCtorEq, implies_true, imp_false, not_false_eq_true, CW_skip, CW_seq, CW_blk, CW_cond, CW_loop, CW_exit, CW_ret, CW_reg, KW_nil, KW_seqN, KW_seqE, KW_seqR, KW_blkN, KW_blkE, KW_blkR, KW_lpN, KW_lpE, KW_lpR, RW_nil, RW_op, XW, RW_gd, OW_some, OW_none, GR_b, GB_TT, GB_FT, GB_TF, GB_FF, GR_undef, CV_b, CC_T, CC_F, chkO_none, chkO_some, trU_none, trU_some, aop, retO, retP, SX.ev, tget, tput, tdel, hget, hput, hdel, hputs, AS.upd, AS.set, ibin, sbin, aBin, aUn, aLd, aFad, aIxs, aIxa, aExt, aNck, lenOf, bounds, srcOf, fillA, AV.pvL, AV.pv1, mkAgg, mapO, pvc_agg, pvc_b, avc_vb, pvo_b, avk_vb, pvc_i, avc_vi, pvo_i, avk_vi, pvc_s, avc_vs, pvo_s, avk_vs, pvc_tup, avc_vtup, pvo_tup, avk_vtup, pvc_sl, avc_vsl, pvo_sl, avk_vsl, pvc_fn, avc_vfn, pvo_fn, avk_vfn, pvc_fn0, avc_vfn0, pvo_fn0, avk_vfn0, pvc_p0, avc_vp0, pvo_p0, avk_vp0, pvc_if0, avc_vif0, pvo_if0, avk_vif0, pvc_ifc, avc_vifc, pvo_ifc, avk_vifc, pvo_agg, avc_vagg, avk_vagg, avc_p, avk_p, avo_p, avc_pp, avk_pp, avo_pp, avc_rs, avk_rs, avo_rs, avc_fs, avk_fs, avo_fs, avc_sn, avk_sn, avo_sn, avc_fn, avk_fn, avo_fn, avc_u, avk_u, avo_u, avc_tup, avk_tup, avo_tup, avc_agg, avk_agg, avo_agg, avo_v, avi_agg, avi_v, u8, allM_nil, allM_cons, byte_i, isByte_i, abyte_v, aisByte_v, ofNat_byte, ne_eq, Int.reduceEq, Int.cast_ofNat_Int, cast0, cast1, List.reduceReplicate, List.flatten_cons, List.flatten_nil, List.flatMap_cons, List.flatMap_nil, IntKind.bits, Nat.min_def, Int.reducePow, Nat.reducePow, Int.reduceTDiv, Int.reduceTMod, List.take_length, take_len_map, List.length_map, IntWalk.i64_in, IntWalk.u8_in, IntWalk.u64_in, Int.reduceMul, Int.reduceSub, Int.reduceAdd, Int.reduceLT, Int.reduceLE, Int.reduceGT, Int.reduceGE, Int.reduceNeg, Int.reduceToNat, Int.reduceBEq, Int.reduceBNe, decide_true, decide_false, Int.toNat_natCast, Int.toNat_zero, Int.toNat_one, reduceIte, ite_true, ite_false, List.length_cons, List.length_nil, List.map_cons, List.map_nil, List.all_cons, List.all_nil, Bool.and_true, Bool.true_and, Bool.and_self, Option.map_some, Option.map_none, List.take_succ_cons, List.take_zero, List.drop_succ_cons, List.drop_zero, List.take_nil, List.drop_nil, List.getD_cons_zero, List.getD_cons_succ, List.nil_append, List.cons_append, List.append_nil, Nat.reduceEqDiff, Nat.reduceAdd, Nat.reduceMul, Nat.reduceSub, Nat.reduceLT, Nat.reduceLeDiff, Nat.zero_add, Nat.add_zero, Nat.le_refl, true_and, and_true, and_self, true_implies, forall_const, Nat.mul_one, Nat.one_mul, bfold, bcells_len, bcells_take, bcells_app, bcells_one, List.isEmpty_cons, List.isEmpty_nil, Bool.or_true, Bool.true_or, Bool.false_or, Bool.or_false, Bool.and_false, Bool.false_and, RetQ, resL, resA, view, mkRes, aPeq, aCvp, aSld, aUst , d]) | (with_reducible refine CC.mk (fun hc => ?_) (fun hc => ?_)) | (with_reducible refine GB.mk (fun hc => ?_) (fun hc => ?_)) | ((with_reducible refine CR_pure rd ?_ ?_); · rfl) | (with_reducible refine And.intro (by first | omega | decide) ?_) | omega | decide | fail)
end Go.Proofs.Ytjigfdhjmfcbpaa
