/-
  Encode AND THE ITEM OF A CONTEXT: contracts and bounds. Own work.
-/
import Derived.Test.YtjigfdhjmfcbpaaW8
set_option linter.all false
namespace Go.Proofs.Ytjigfdhjmfcbpaa
open Go Go.Dom
set_option maxRecDepth 100000

def encI (i : It) : Bytes × Int := if !i.valid then ([], 3) else if decide ((i.depth : Int) > 32) then ([], 7) else if decide ((i.write.length : Int) > 65536) then ([], 5) else (i.write, 0)

theorem enc_ok (i : It) (h1 : i.ok) (h2 : i.depth < 1099511627776) (h3 : i.write.length < 1099511627776) : EvP Try.prog 22 [i.pv] (.tup [.s (encI i).1, .i .i64 (encI i).2]) := by
  have v1 := valid_ok i h1
  have v2 := depth_ok i h1 h2
  have v3 := fun hv => write_ok i h1 hv h3
  obtain ⟨k, n, t, l, -, ep⟩ := It.pv_agg i
  rw [ep] at v1 v2 v3 ⊢
  unfold encI
  apply F22
  unfold S22 R22
  simp only [eq_self, reduceCtorEq, implies_true, imp_false, not_false_eq_true, CW_skip, CW_seq, CW_blk, CW_cond, CW_loop, CW_exit, CW_ret, CW_reg, KW_nil, KW_seqN, KW_seqE, KW_seqR, KW_blkN, KW_blkE, KW_blkR, KW_lpN, KW_lpE, KW_lpR, RW_nil, RW_op, XW, RW_gd, OW_some, OW_none, GR_b, GB_TT, GB_FT, GB_TF, GB_FF, GR_undef, CV_b, CC_T, CC_F, chkO_none, chkO_some, trU_none, trU_some, aop, retO, retP, SX.ev, tget, tput, tdel, hget, hput, hdel, hputs, AS.upd, AS.set, ibin, sbin, aBin, aUn, aLd, aFad, aIxs, aIxa, aExt, aNck, lenOf, bounds, srcOf, fillA, AV.pvL, AV.pv1, mkAgg, mapO, pvc_agg, pvc_b, avc_vb, pvo_b, avk_vb, pvc_i, avc_vi, pvo_i, avk_vi, pvc_s, avc_vs, pvo_s, avk_vs, pvc_tup, avc_vtup, pvo_tup, avk_vtup, pvc_sl, avc_vsl, pvo_sl, avk_vsl, pvc_fn, avc_vfn, pvo_fn, avk_vfn, pvc_fn0, avc_vfn0, pvo_fn0, avk_vfn0, pvc_p0, avc_vp0, pvo_p0, avk_vp0, pvc_if0, avc_vif0, pvo_if0, avk_vif0, pvc_ifc, avc_vifc, pvo_ifc, avk_vifc, pvo_agg, avc_vagg, avk_vagg, avc_p, avk_p, avo_p, avc_pp, avk_pp, avo_pp, avc_rs, avk_rs, avo_rs, avc_fs, avk_fs, avo_fs, avc_sn, avk_sn, avo_sn, avc_fn, avk_fn, avo_fn, avc_u, avk_u, avo_u, avc_tup, avk_tup, avo_tup, avc_agg, avk_agg, avo_agg, avo_v, avi_agg, avi_v, u8, allM_nil, allM_cons, byte_i, isByte_i, abyte_v, aisByte_v, ofNat_byte, ne_eq, Int.reduceEq, Int.cast_ofNat_Int, cast0, cast1, List.reduceReplicate, List.flatten_cons, List.flatten_nil, List.flatMap_cons, List.flatMap_nil, IntKind.bits, Nat.min_def, Int.reducePow, Nat.reducePow, Int.reduceTDiv, Int.reduceTMod, List.take_length, take_len_map, List.length_map, IntWalk.i64_in, IntWalk.u8_in, IntWalk.u64_in, Int.reduceMul, Int.reduceSub, Int.reduceAdd, Int.reduceLT, Int.reduceLE, Int.reduceGT, Int.reduceGE, Int.reduceNeg, Int.reduceToNat, Int.reduceBEq, Int.reduceBNe, decide_true, decide_false, Int.toNat_natCast, Int.toNat_zero, Int.toNat_one, reduceIte, ite_true, ite_false, List.length_cons, List.length_nil, List.map_cons, List.map_nil, List.all_cons, List.all_nil, Bool.and_true, Bool.true_and, Bool.and_self, Option.map_some, Option.map_none, List.take_succ_cons, List.take_zero, List.drop_succ_cons, List.drop_zero, List.take_nil, List.drop_nil, List.getD_cons_zero, List.getD_cons_succ, List.nil_append, List.cons_append, List.append_nil, Nat.reduceEqDiff, Nat.reduceAdd, Nat.reduceMul, Nat.reduceSub, Nat.reduceLT, Nat.reduceLeDiff, Nat.zero_add, Nat.add_zero, Nat.le_refl, true_and, and_true, and_self, true_implies, forall_const, Nat.mul_one, Nat.one_mul, bfold, bcells_len, bcells_take, bcells_app, bcells_one, List.isEmpty_cons, List.isEmpty_nil, Bool.or_true, Bool.true_or, Bool.false_or, Bool.or_false, Bool.and_false, Bool.false_and, RetQ, resL, resA, view, mkRes, aPeq, aCvp, aSld, aUst]
  repeat' (first | (simp only [eq_self, reduceCtorEq, implies_true, imp_false, not_false_eq_true, CW_skip, CW_seq, CW_blk, CW_cond, CW_loop, CW_exit, CW_ret, CW_reg, KW_nil, KW_seqN, KW_seqE, KW_seqR, KW_blkN, KW_blkE, KW_blkR, KW_lpN, KW_lpE, KW_lpR, RW_nil, RW_op, XW, RW_gd, OW_some, OW_none, GR_b, GB_TT, GB_FT, GB_TF, GB_FF, GR_undef, CV_b, CC_T, CC_F, chkO_none, chkO_some, trU_none, trU_some, aop, retO, retP, SX.ev, tget, tput, tdel, hget, hput, hdel, hputs, AS.upd, AS.set, ibin, sbin, aBin, aUn, aLd, aFad, aIxs, aIxa, aExt, aNck, lenOf, bounds, srcOf, fillA, AV.pvL, AV.pv1, mkAgg, mapO, pvc_agg, pvc_b, avc_vb, pvo_b, avk_vb, pvc_i, avc_vi, pvo_i, avk_vi, pvc_s, avc_vs, pvo_s, avk_vs, pvc_tup, avc_vtup, pvo_tup, avk_vtup, pvc_sl, avc_vsl, pvo_sl, avk_vsl, pvc_fn, avc_vfn, pvo_fn, avk_vfn, pvc_fn0, avc_vfn0, pvo_fn0, avk_vfn0, pvc_p0, avc_vp0, pvo_p0, avk_vp0, pvc_if0, avc_vif0, pvo_if0, avk_vif0, pvc_ifc, avc_vifc, pvo_ifc, avk_vifc, pvo_agg, avc_vagg, avk_vagg, avc_p, avk_p, avo_p, avc_pp, avk_pp, avo_pp, avc_rs, avk_rs, avo_rs, avc_fs, avk_fs, avo_fs, avc_sn, avk_sn, avo_sn, avc_fn, avk_fn, avo_fn, avc_u, avk_u, avo_u, avc_tup, avk_tup, avo_tup, avc_agg, avk_agg, avo_agg, avo_v, avi_agg, avi_v, u8, allM_nil, allM_cons, byte_i, isByte_i, abyte_v, aisByte_v, ofNat_byte, ne_eq, Int.reduceEq, Int.cast_ofNat_Int, cast0, cast1, List.reduceReplicate, List.flatten_cons, List.flatten_nil, List.flatMap_cons, List.flatMap_nil, IntKind.bits, Nat.min_def, Int.reducePow, Nat.reducePow, Int.reduceTDiv, Int.reduceTMod, List.take_length, take_len_map, List.length_map, IntWalk.i64_in, IntWalk.u8_in, IntWalk.u64_in, Int.reduceMul, Int.reduceSub, Int.reduceAdd, Int.reduceLT, Int.reduceLE, Int.reduceGT, Int.reduceGE, Int.reduceNeg, Int.reduceToNat, Int.reduceBEq, Int.reduceBNe, decide_true, decide_false, Int.toNat_natCast, Int.toNat_zero, Int.toNat_one, reduceIte, ite_true, ite_false, List.length_cons, List.length_nil, List.map_cons, List.map_nil, List.all_cons, List.all_nil, Bool.and_true, Bool.true_and, Bool.and_self, Option.map_some, Option.map_none, List.take_succ_cons, List.take_zero, List.drop_succ_cons, List.drop_zero, List.take_nil, List.drop_nil, List.getD_cons_zero, List.getD_cons_succ, List.nil_append, List.cons_append, List.append_nil, Nat.reduceEqDiff, Nat.reduceAdd, Nat.reduceMul, Nat.reduceSub, Nat.reduceLT, Nat.reduceLeDiff, Nat.zero_add, Nat.add_zero, Nat.le_refl, true_and, and_true, and_self, true_implies, forall_const, Nat.mul_one, Nat.one_mul, bfold, bcells_len, bcells_take, bcells_app, bcells_one, List.isEmpty_cons, List.isEmpty_nil, Bool.or_true, Bool.true_or, Bool.false_or, Bool.or_false, Bool.and_false, Bool.false_and, RetQ, resL, resA, view, mkRes, aPeq, aCvp, aSld, aUst]) | (with_reducible refine CC.mk (fun hc => ?_) (fun hc => ?_)) | (with_reducible refine GB.mk (fun hc => ?_) (fun hc => ?_)) | ((with_reducible refine CR_pure v1 ?_ ?_); · rfl) | ((with_reducible refine CR_pure v2 ?_ ?_); · rfl) | (refine CR_pure (v3 (not_f ‹_›)) rfl ?_) | (with_reducible refine And.intro (by first | omega | decide) ?_) | omega | decide | fail)
  all_goals simp [*]

theorem refEnc_ok (i : It) (h1 : i.ok) (h2 : i.depth < 1099511627776) (h3 : i.write.length < 1099511627776) : EvP Try.prog 29 [i.pv] (.tup [.s (encI i).1, .i .i64 (encI i).2]) := by
  have v1 := refValid_ok i h1
  have v2 := refDepth_ok i h1 h2
  have v3 := refWrite_ok i h1 h3
  obtain ⟨k, n, t, l, -, ep⟩ := It.pv_agg i
  rw [ep] at v1 v2 v3 ⊢
  unfold encI
  apply F29
  unfold S29 R29
  simp only [eq_self, reduceCtorEq, implies_true, imp_false, not_false_eq_true, CW_skip, CW_seq, CW_blk, CW_cond, CW_loop, CW_exit, CW_ret, CW_reg, KW_nil, KW_seqN, KW_seqE, KW_seqR, KW_blkN, KW_blkE, KW_blkR, KW_lpN, KW_lpE, KW_lpR, RW_nil, RW_op, XW, RW_gd, OW_some, OW_none, GR_b, GB_TT, GB_FT, GB_TF, GB_FF, GR_undef, CV_b, CC_T, CC_F, chkO_none, chkO_some, trU_none, trU_some, aop, retO, retP, SX.ev, tget, tput, tdel, hget, hput, hdel, hputs, AS.upd, AS.set, ibin, sbin, aBin, aUn, aLd, aFad, aIxs, aIxa, aExt, aNck, lenOf, bounds, srcOf, fillA, AV.pvL, AV.pv1, mkAgg, mapO, pvc_agg, pvc_b, avc_vb, pvo_b, avk_vb, pvc_i, avc_vi, pvo_i, avk_vi, pvc_s, avc_vs, pvo_s, avk_vs, pvc_tup, avc_vtup, pvo_tup, avk_vtup, pvc_sl, avc_vsl, pvo_sl, avk_vsl, pvc_fn, avc_vfn, pvo_fn, avk_vfn, pvc_fn0, avc_vfn0, pvo_fn0, avk_vfn0, pvc_p0, avc_vp0, pvo_p0, avk_vp0, pvc_if0, avc_vif0, pvo_if0, avk_vif0, pvc_ifc, avc_vifc, pvo_ifc, avk_vifc, pvo_agg, avc_vagg, avk_vagg, avc_p, avk_p, avo_p, avc_pp, avk_pp, avo_pp, avc_rs, avk_rs, avo_rs, avc_fs, avk_fs, avo_fs, avc_sn, avk_sn, avo_sn, avc_fn, avk_fn, avo_fn, avc_u, avk_u, avo_u, avc_tup, avk_tup, avo_tup, avc_agg, avk_agg, avo_agg, avo_v, avi_agg, avi_v, u8, allM_nil, allM_cons, byte_i, isByte_i, abyte_v, aisByte_v, ofNat_byte, ne_eq, Int.reduceEq, Int.cast_ofNat_Int, cast0, cast1, List.reduceReplicate, List.flatten_cons, List.flatten_nil, List.flatMap_cons, List.flatMap_nil, IntKind.bits, Nat.min_def, Int.reducePow, Nat.reducePow, Int.reduceTDiv, Int.reduceTMod, List.take_length, take_len_map, List.length_map, IntWalk.i64_in, IntWalk.u8_in, IntWalk.u64_in, Int.reduceMul, Int.reduceSub, Int.reduceAdd, Int.reduceLT, Int.reduceLE, Int.reduceGT, Int.reduceGE, Int.reduceNeg, Int.reduceToNat, Int.reduceBEq, Int.reduceBNe, decide_true, decide_false, Int.toNat_natCast, Int.toNat_zero, Int.toNat_one, reduceIte, ite_true, ite_false, List.length_cons, List.length_nil, List.map_cons, List.map_nil, List.all_cons, List.all_nil, Bool.and_true, Bool.true_and, Bool.and_self, Option.map_some, Option.map_none, List.take_succ_cons, List.take_zero, List.drop_succ_cons, List.drop_zero, List.take_nil, List.drop_nil, List.getD_cons_zero, List.getD_cons_succ, List.nil_append, List.cons_append, List.append_nil, Nat.reduceEqDiff, Nat.reduceAdd, Nat.reduceMul, Nat.reduceSub, Nat.reduceLT, Nat.reduceLeDiff, Nat.zero_add, Nat.add_zero, Nat.le_refl, true_and, and_true, and_self, true_implies, forall_const, Nat.mul_one, Nat.one_mul, bfold, bcells_len, bcells_take, bcells_app, bcells_one, List.isEmpty_cons, List.isEmpty_nil, Bool.or_true, Bool.true_or, Bool.false_or, Bool.or_false, Bool.and_false, Bool.false_and, RetQ, resL, resA, view, mkRes, aPeq, aCvp, aSld, aUst]
  repeat' (first | (simp only [eq_self, reduceCtorEq, implies_true, imp_false, not_false_eq_true, CW_skip, CW_seq, CW_blk, CW_cond, CW_loop, CW_exit, CW_ret, CW_reg, KW_nil, KW_seqN, KW_seqE, KW_seqR, KW_blkN, KW_blkE, KW_blkR, KW_lpN, KW_lpE, KW_lpR, RW_nil, RW_op, XW, RW_gd, OW_some, OW_none, GR_b, GB_TT, GB_FT, GB_TF, GB_FF, GR_undef, CV_b, CC_T, CC_F, chkO_none, chkO_some, trU_none, trU_some, aop, retO, retP, SX.ev, tget, tput, tdel, hget, hput, hdel, hputs, AS.upd, AS.set, ibin, sbin, aBin, aUn, aLd, aFad, aIxs, aIxa, aExt, aNck, lenOf, bounds, srcOf, fillA, AV.pvL, AV.pv1, mkAgg, mapO, pvc_agg, pvc_b, avc_vb, pvo_b, avk_vb, pvc_i, avc_vi, pvo_i, avk_vi, pvc_s, avc_vs, pvo_s, avk_vs, pvc_tup, avc_vtup, pvo_tup, avk_vtup, pvc_sl, avc_vsl, pvo_sl, avk_vsl, pvc_fn, avc_vfn, pvo_fn, avk_vfn, pvc_fn0, avc_vfn0, pvo_fn0, avk_vfn0, pvc_p0, avc_vp0, pvo_p0, avk_vp0, pvc_if0, avc_vif0, pvo_if0, avk_vif0, pvc_ifc, avc_vifc, pvo_ifc, avk_vifc, pvo_agg, avc_vagg, avk_vagg, avc_p, avk_p, avo_p, avc_pp, avk_pp, avo_pp, avc_rs, avk_rs, avo_rs, avc_fs, avk_fs, avo_fs, avc_sn, avk_sn, avo_sn, avc_fn, avk_fn, avo_fn, avc_u, avk_u, avo_u, avc_tup, avk_tup, avo_tup, avc_agg, avk_agg, avo_agg, avo_v, avi_agg, avi_v, u8, allM_nil, allM_cons, byte_i, isByte_i, abyte_v, aisByte_v, ofNat_byte, ne_eq, Int.reduceEq, Int.cast_ofNat_Int, cast0, cast1, List.reduceReplicate, List.flatten_cons, List.flatten_nil, List.flatMap_cons, List.flatMap_nil, IntKind.bits, Nat.min_def, Int.reducePow, Nat.reducePow, Int.reduceTDiv, Int.reduceTMod, List.take_length, take_len_map, List.length_map, IntWalk.i64_in, IntWalk.u8_in, IntWalk.u64_in, Int.reduceMul, Int.reduceSub, Int.reduceAdd, Int.reduceLT, Int.reduceLE, Int.reduceGT, Int.reduceGE, Int.reduceNeg, Int.reduceToNat, Int.reduceBEq, Int.reduceBNe, decide_true, decide_false, Int.toNat_natCast, Int.toNat_zero, Int.toNat_one, reduceIte, ite_true, ite_false, List.length_cons, List.length_nil, List.map_cons, List.map_nil, List.all_cons, List.all_nil, Bool.and_true, Bool.true_and, Bool.and_self, Option.map_some, Option.map_none, List.take_succ_cons, List.take_zero, List.drop_succ_cons, List.drop_zero, List.take_nil, List.drop_nil, List.getD_cons_zero, List.getD_cons_succ, List.nil_append, List.cons_append, List.append_nil, Nat.reduceEqDiff, Nat.reduceAdd, Nat.reduceMul, Nat.reduceSub, Nat.reduceLT, Nat.reduceLeDiff, Nat.zero_add, Nat.add_zero, Nat.le_refl, true_and, and_true, and_self, true_implies, forall_const, Nat.mul_one, Nat.one_mul, bfold, bcells_len, bcells_take, bcells_app, bcells_one, List.isEmpty_cons, List.isEmpty_nil, Bool.or_true, Bool.true_or, Bool.false_or, Bool.or_false, Bool.and_false, Bool.false_and, RetQ, resL, resA, view, mkRes, aPeq, aCvp, aSld, aUst]) | (with_reducible refine CC.mk (fun hc => ?_) (fun hc => ?_)) | (with_reducible refine GB.mk (fun hc => ?_) (fun hc => ?_)) | ((with_reducible refine CR_pure v1 ?_ ?_); · rfl) | ((with_reducible refine CR_pure v2 ?_ ?_); · rfl) | ((with_reducible refine CR_pure v3 ?_ ?_); · rfl) | (with_reducible refine And.intro (by first | omega | decide) ?_) | omega | decide | fail)
  all_goals simp [*]

/-! ## Bounds -/
theorem depth_list {l : List It} {m : Nat} (h : ∀ x ∈ l, x.depth ≤ m) : (listIt l).depth ≤ m + 1 := by
  have : It.depths l ≤ m := by
    induction l with
    | nil => simp [It.depths]
    | cons x l ih =>
      have h1 := h x (by simp)
      have h2 := ih fun y hy => h y (by simp [hy])
      simp only [It.depths]; omega
  simp only [listIt, It.depth]
  simpa using this
theorem write_list {l : List It} {m : Nat} (h : ∀ x ∈ l, x.write.length ≤ m) : (listIt l).write.length ≤ 11 + l.length * m := by
  have : (It.writes l).length ≤ l.length * m := by
    induction l with
    | nil => simp [It.writes]
    | cons x l ih =>
      have h1 := h x (by simp)
      have h2 := ih fun y hy => h y (by simp [hy])
      simp only [It.writes, List.length_append, List.length_cons, Nat.succ_mul]; omega
  have h2 := lenF_le 9 ([] ++ [] ++ It.writes l).length
  simp only [listIt, It.write, List.length_cons, List.length_append, List.length_nil] at h2 ⊢
  omega
theorem write_nat (b : Bytes) : (natIt b).write.length ≤ 11 + b.length := by
  have h2 := lenF_le 9 (b ++ [] ++ It.writes []).length
  simp only [natIt, It.write, It.writes, List.length_cons, List.length_append, List.length_nil] at h2 ⊢
  omega
theorem write_text (b : Bytes) : (textIt b).write.length ≤ 11 + b.length := by
  have h2 := lenF_le 9 ([] ++ b ++ It.writes []).length
  simp only [textIt, It.write, It.writes, List.length_cons, List.length_append, List.length_nil] at h2 ⊢
  omega
theorem trimB_le (l : Bytes) : (trimB l).length ≤ l.length := by
  induction l with
  | nil => simp [trimB]
  | cons x l ih => simp only [trimB]; split <;> simp <;> omega
theorem depth_nat (b : Bytes) : (natIt b).depth = 0 := rfl
theorem depth_text (b : Bytes) : (textIt b).depth = 0 := rfl
theorem nats_b {l : List Bytes} {n : Nat} (hn : l.length ≤ n) (h : ∀ x ∈ l, x.length ≤ 8) (hl : n ≤ 1000) : (natsIt l).ok ∧ (natsIt l).depth ≤ 1 ∧ (natsIt l).write.length ≤ 20000 := by
  refine ⟨natsIt_ok (by omega), depth_list fun x hx => ?_, ?_⟩
  · obtain ⟨b, -, rfl⟩ := List.mem_map.1 hx; exact Nat.le_of_eq (depth_nat b)
  · have : (natsIt l).write.length ≤ 11 + (l.map natIt).length * 19 := write_list fun x hx => by
      obtain ⟨b, hb, rfl⟩ := List.mem_map.1 hx
      have := write_nat b
      have := h b hb
      omega
    simp only [List.length_map] at this
    have := Nat.mul_le_mul_right 19 hn
    omega
theorem lists_b {l : List (List Bytes)} {n : Nat} (hn : l.length ≤ n) (h : ∀ y ∈ l, y.length ≤ 1000 ∧ ∀ x ∈ y, x.length ≤ 8) (hl : n ≤ 1000) : (listsIt l).ok ∧ (listsIt l).depth ≤ 2 ∧ (listsIt l).write.length ≤ 21000000 := by
  have key : ∀ x ∈ l.map natsIt, x.ok ∧ x.depth ≤ 1 ∧ x.write.length ≤ 20000 := by
    intro x hx
    obtain ⟨b, hb, rfl⟩ := List.mem_map.1 hx
    exact nats_b (h b hb).1 (h b hb).2 (Nat.le_refl _)
  refine ⟨listIt_ok (by simp; omega) fun x hx => (key x hx).1, depth_list fun x hx => (key x hx).2.1, ?_⟩
  have := write_list fun x hx => (key x hx).2.2
  simp only [List.length_map] at this
  have h2 := Nat.mul_le_mul_right 20000 hn
  have h3 := Nat.mul_le_mul_right 20000 hl
  exact Nat.le_trans this (by omega)
theorem num_b (n : Int) : (numIt n).ok ∧ (numIt n).depth ≤ 1 ∧ (numIt n).write.length ≤ 20000 := by
  have key : ∀ x ∈ [natIt (if (decide (n < 0) && !(trimB (be8 n.natAbs) == [])) then [1] else []), natIt (trimB (be8 n.natAbs))], x.ok ∧ x.depth ≤ 0 ∧ x.write.length ≤ 20 := by
    intro x hx
    simp only [List.mem_cons, List.not_mem_nil, or_false] at hx
    rcases hx with rfl | rfl
    · have := write_nat (if (decide (n < 0) && !(trimB (be8 n.natAbs) == [])) then [1] else [])
      refine ⟨natIt_ok _, Nat.le_of_eq (depth_nat _), Nat.le_trans this ?_⟩
      split <;> simp
    · have := write_nat (trimB (be8 n.natAbs))
      have h2 := trimB_le (be8 n.natAbs)
      simp only [be8, List.length_cons, List.length_nil] at h2
      exact ⟨natIt_ok _, Nat.le_of_eq (depth_nat _), by simp only [be8] at *; omega⟩
  refine ⟨listIt_ok (by simp) fun x hx => (key x hx).1, depth_list fun x hx => (key x hx).2.1, ?_⟩
  have := write_list fun x hx => (key x hx).2.2
  simp only [List.length_cons, List.length_nil] at this
  exact Nat.le_trans this (by omega)
end Go.Proofs.Ytjigfdhjmfcbpaa
