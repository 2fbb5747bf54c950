/-
  THE READER OF ITEMS: item. Own work.
-/
import Derived.Test.YtjigfdhjmfcbpaaW15
set_option linter.all false
namespace Go.Proofs.Ytjigfdhjmfcbpaa
open Go Go.Dom
set_option maxRecDepth 100000

mutual
def rdI : Nat → Bytes → Nat → Nat → Nat → Option (It × Nat)
  | 0, _, _, _, _ => none
  | f + 1, s, a, en, ls =>
    if a + 1 < en ∧ (s.getD (a + 1) 0).toNat < 128 ∧ a + 2 + (s.getD (a + 1) 0).toNat ≤ en then
      if (s.getD a 0).toNat = 0 then
        (if validN ((s.take (a + 2 + (s.getD (a + 1) 0).toNat)).drop (a + 2)) then some (natIt ((s.take (a + 2 + (s.getD (a + 1) 0).toNat)).drop (a + 2)), a + 2 + (s.getD (a + 1) 0).toNat) else none)
      else if (s.getD a 0).toNat = 1 then some (textIt ((s.take (a + 2 + (s.getD (a + 1) 0).toNat)).drop (a + 2)), a + 2 + (s.getD (a + 1) 0).toNat)
      else if (s.getD a 0).toNat = 2 ∧ ls < 32 then
        (match rdL f s (a + 2) (a + 2 + (s.getD (a + 1) 0).toNat) (ls + 1) with
        | some l => some (listIt l, a + 2 + (s.getD (a + 1) 0).toNat)
        | none => none)
      else none
    else none
def rdL : Nat → Bytes → Nat → Nat → Nat → Option (List It)
  | 0, _, _, _, _ => none
  | f + 1, s, a, last, ls =>
    if a < last then
      (match rdI f s a last ls with
      | some (x, a1) => (match rdL f s a1 last ls with
        | some r => some (x :: r)
        | none => none)
      | none => none)
    else if a = last then some [] else none
end

/-- The call of item. -/
def Rds (s : Bytes) (en ls a : Nat) (x : It) (a1 : Nat) : Prop := ∀ r nm : Nat, EvA Try.prog 48 nm [(r, rO s a)] [.p r 0 0, .v (.i .i64 en), .v (.i .i64 ls)] (.v x.pv) [(r, some (rO s a1))]

inductive Ch (s : Bytes) (last ls : Nat) : Nat → List It → Prop where
  | nil : Ch s last ls last []
  | cons (a a1 : Nat) (x : It) (r : List It) (h : a < last) (hE : Rds s last ls a x a1) (hr : Ch s last ls a1 r) : Ch s last ls a (x :: r)

theorem Ch.le {s : Bytes} {last ls a : Nat} {l : List It} (h : Ch s last ls a l) : a ≤ last := by
  cases h with
  | nil => exact Nat.le_refl _
  | cons _ _ _ _ h _ _ => omega

theorem item_nat (s : Bytes) (a en ls : Nat) (hs : s.length < 1099511627776) (hls : ls < 1000) (hen : en ≤ s.length) (h1 : a + 1 < en) (hb : (s.getD (a + 1) 0).toNat < 128) (hn : a + 2 + (s.getD (a + 1) 0).toNat ≤ en) (hk : (s.getD a 0).toNat = 0) (hv : validN ((s.take (a + 2 + (s.getD (a + 1) 0).toNat)).drop (a + 2)) = true) :
    Rds s en ls a (natIt ((s.take (a + 2 + (s.getD (a + 1) 0).toNat)).drop (a + 2))) (a + 2 + (s.getD (a + 1) 0).toNat) := by
  intro r nm
  rw [natIt_pv]
  have sz : ∀ nm, EvA Try.prog 59 nm [(0, rO s (a + 1))] [.p 0 0 0, .v (.i .i64 en)] (.v (.i .i64 (s.getD (a + 1) 0).toNat)) [(0, some (rO s (a + 2)))] := fun nm => size_ok 0 nm s (a + 1) en h1 hen hs hb (by omega)
  have nv := natValid ((s.take (a + 2 + (s.getD (a + 1) 0).toNat)).drop (a + 2))
  rw [hv] at nv
  generalize hbn : (s.getD (a + 1) 0).toNat = b at *
  refine EvA.mk' (obs := [rO s a]) (args := [.p 0 0 0, .v (.i .i64 en), .v (.i .i64 ls)]) (fs := [some (some (rO s (a + 2 + b)))]) (j := none) (nw := none) (v := .v (.agg [.i .i64 0, .s ((s.take (a + 2 + b)).drop (a + 2)), .s [], .sl []])) (ns := [r]) (obsA := [rO s a]) mixed Try.call48 Try.func48 rfl C48 Q48 (Nat.le_of_ble_eq_true rfl) ?_ (by simp) (by simp) rfl (by simp [mapO, AObj.ren, AV.ren, AV.ren.renL, rO]) (by simp [mapO, AV.ren, ixOf]) (by simp [AV.ren]) (by simp [upsOf, outs, AObj.ren, AV.ren, AV.ren.renL, bkOf, rO])
  have w5 : IntKind.i64.wrap (((a + 2 : Nat) : Int) + (b : Int)) = ((a + 2 + b : Nat) : Int) := by rw [IntWalk.i64_in _ (by omega)]; omega
  have w7 : decide ((a : Int) ≥ (en : Int)) = false := by simp; omega
  have w8 := i64_succ (show a < 1099511627776 by omega)
  unfold S48 R48
  simp only [List.mapIdx_cons, List.mapIdx_nil, rO]
  repeat' (first | (simp only [eq_self, reduceCtorEq, implies_true, imp_false, not_false_eq_true, CW_skip, CW_seq, CW_blk, CW_cond, CW_loop, CW_exit, CW_ret, CW_reg, KW_nil, KW_seqN, KW_seqE, KW_seqR, KW_blkN, KW_blkE, KW_blkR, KW_lpN, KW_lpE, KW_lpR, RW_nil, RW_op, XW, RW_gd, OW_some, OW_none, GR_b, GB_TT, GB_FT, GB_TF, GB_FF, GR_undef, CV_b, CC_T, CC_F, chkO_none, chkO_some, trU_none, trU_some, aop, retO, retP, SX.ev, tget, tput, tdel, hget, hput, hdel, hputs, AS.upd, AS.set, ibin, sbin, aBin, aUn, aLd, aFad, aIxs, aIxa, aExt, aNck, lenOf, bounds, srcOf, fillA, AV.pvL, AV.pv1, mkAgg, mapO, pvc_agg, pvc_b, avc_vb, pvo_b, avk_vb, pvc_i, avc_vi, pvo_i, avk_vi, pvc_s, avc_vs, pvo_s, avk_vs, pvc_tup, avc_vtup, pvo_tup, avk_vtup, pvc_sl, avc_vsl, pvo_sl, avk_vsl, pvc_fn, avc_vfn, pvo_fn, avk_vfn, pvc_fn0, avc_vfn0, pvo_fn0, avk_vfn0, pvc_p0, avc_vp0, pvo_p0, avk_vp0, pvc_if0, avc_vif0, pvo_if0, avk_vif0, pvc_ifc, avc_vifc, pvo_ifc, avk_vifc, pvo_agg, avc_vagg, avk_vagg, avc_p, avk_p, avo_p, avc_pp, avk_pp, avo_pp, avc_rs, avk_rs, avo_rs, avc_fs, avk_fs, avo_fs, avc_sn, avk_sn, avo_sn, avc_fn, avk_fn, avo_fn, avc_u, avk_u, avo_u, avc_tup, avk_tup, avo_tup, avc_agg, avk_agg, avo_agg, avo_v, avi_agg, avi_v, u8, allM_nil, allM_cons, byte_i, isByte_i, abyte_v, aisByte_v, ofNat_byte, ne_eq, Int.reduceEq, Int.cast_ofNat_Int, cast0, cast1, List.reduceReplicate, List.flatten_cons, List.flatten_nil, List.flatMap_cons, List.flatMap_nil, IntKind.bits, Nat.min_def, Int.reducePow, Nat.reducePow, Int.reduceTDiv, Int.reduceTMod, List.take_length, take_len_map, List.length_map, IntWalk.i64_in, IntWalk.u8_in, IntWalk.u64_in, Int.reduceMul, Int.reduceSub, Int.reduceAdd, Int.reduceLT, Int.reduceLE, Int.reduceGT, Int.reduceGE, Int.reduceNeg, Int.reduceToNat, Int.reduceBEq, Int.reduceBNe, decide_true, decide_false, Int.toNat_natCast, Int.toNat_zero, Int.toNat_one, reduceIte, ite_true, ite_false, List.length_cons, List.length_nil, List.map_cons, List.map_nil, List.all_cons, List.all_nil, Bool.and_true, Bool.true_and, Bool.and_self, Option.map_some, Option.map_none, List.take_succ_cons, List.take_zero, List.drop_succ_cons, List.drop_zero, List.take_nil, List.drop_nil, List.getD_cons_zero, List.getD_cons_succ, List.nil_append, List.cons_append, List.append_nil, Nat.reduceEqDiff, Nat.reduceAdd, Nat.reduceMul, Nat.reduceSub, Nat.reduceLT, Nat.reduceLeDiff, Nat.zero_add, Nat.add_zero, Nat.le_refl, true_and, and_true, and_self, true_implies, forall_const, Nat.mul_one, Nat.one_mul, bfold, bcells_len, bcells_take, bcells_app, bcells_one, List.isEmpty_cons, List.isEmpty_nil, Bool.or_true, Bool.true_or, Bool.false_or, Bool.or_false, Bool.and_false, Bool.false_and, RetQ, resL, resA, view, mkRes, aPeq, aCvp, aSld, aUst , w7, hk, w8, rO, w5, Bool.not_true, true_or, or_true, false_or, or_false, Option.some.injEq, RetA, resLA, outV, outC, outO, viewC, hfV, foV, finH, finN, mkResA, mapO_outC_bcells, AV.ren, AV.ren.renL, renL_bcells]) | (with_reducible refine CC.mk (fun hc => ?_) (fun hc => ?_)) | (with_reducible refine GB.mk (fun hc => ?_) (fun hc => ?_)) | (refine CR_eff (sz _) ?_ ?_; · simp [hget, rO]) | ((with_reducible refine CR_pure nv ?_ ?_); · rfl) | (with_reducible refine And.intro (by first | omega | decide) ?_) | omega | decide | fail)

theorem item_text (s : Bytes) (a en ls : Nat) (hs : s.length < 1099511627776) (hls : ls < 1000) (hen : en ≤ s.length) (h1 : a + 1 < en) (hb : (s.getD (a + 1) 0).toNat < 128) (hn : a + 2 + (s.getD (a + 1) 0).toNat ≤ en) (hk : (s.getD a 0).toNat = 1) :
    Rds s en ls a (textIt ((s.take (a + 2 + (s.getD (a + 1) 0).toNat)).drop (a + 2))) (a + 2 + (s.getD (a + 1) 0).toNat) := by
  intro r nm
  rw [textIt_pv]
  have sz : ∀ nm, EvA Try.prog 59 nm [(0, rO s (a + 1))] [.p 0 0 0, .v (.i .i64 en)] (.v (.i .i64 (s.getD (a + 1) 0).toNat)) [(0, some (rO s (a + 2)))] := fun nm => size_ok 0 nm s (a + 1) en h1 hen hs hb (by omega)
  generalize hbn : (s.getD (a + 1) 0).toNat = b at *
  refine EvA.mk' (obs := [rO s a]) (args := [.p 0 0 0, .v (.i .i64 en), .v (.i .i64 ls)]) (fs := [some (some (rO s (a + 2 + b)))]) (j := none) (nw := none) (v := .v (.agg [.i .i64 1, .s [], .s ((s.take (a + 2 + b)).drop (a + 2)), .sl []])) (ns := [r]) (obsA := [rO s a]) mixed Try.call48 Try.func48 rfl C48 Q48 (Nat.le_of_ble_eq_true rfl) ?_ (by simp) (by simp) rfl (by simp [mapO, AObj.ren, AV.ren, AV.ren.renL, rO]) (by simp [mapO, AV.ren, ixOf]) (by simp [AV.ren]) (by simp [upsOf, outs, AObj.ren, AV.ren, AV.ren.renL, bkOf, rO])
  have w5 : IntKind.i64.wrap (((a + 2 : Nat) : Int) + (b : Int)) = ((a + 2 + b : Nat) : Int) := by rw [IntWalk.i64_in _ (by omega)]; omega
  have w7 : decide ((a : Int) ≥ (en : Int)) = false := by simp; omega
  have w8 := i64_succ (show a < 1099511627776 by omega)
  unfold S48 R48
  simp only [List.mapIdx_cons, List.mapIdx_nil, rO]
  repeat' (first | (simp only [eq_self, reduceCtorEq, implies_true, imp_false, not_false_eq_true, CW_skip, CW_seq, CW_blk, CW_cond, CW_loop, CW_exit, CW_ret, CW_reg, KW_nil, KW_seqN, KW_seqE, KW_seqR, KW_blkN, KW_blkE, KW_blkR, KW_lpN, KW_lpE, KW_lpR, RW_nil, RW_op, XW, RW_gd, OW_some, OW_none, GR_b, GB_TT, GB_FT, GB_TF, GB_FF, GR_undef, CV_b, CC_T, CC_F, chkO_none, chkO_some, trU_none, trU_some, aop, retO, retP, SX.ev, tget, tput, tdel, hget, hput, hdel, hputs, AS.upd, AS.set, ibin, sbin, aBin, aUn, aLd, aFad, aIxs, aIxa, aExt, aNck, lenOf, bounds, srcOf, fillA, AV.pvL, AV.pv1, mkAgg, mapO, pvc_agg, pvc_b, avc_vb, pvo_b, avk_vb, pvc_i, avc_vi, pvo_i, avk_vi, pvc_s, avc_vs, pvo_s, avk_vs, pvc_tup, avc_vtup, pvo_tup, avk_vtup, pvc_sl, avc_vsl, pvo_sl, avk_vsl, pvc_fn, avc_vfn, pvo_fn, avk_vfn, pvc_fn0, avc_vfn0, pvo_fn0, avk_vfn0, pvc_p0, avc_vp0, pvo_p0, avk_vp0, pvc_if0, avc_vif0, pvo_if0, avk_vif0, pvc_ifc, avc_vifc, pvo_ifc, avk_vifc, pvo_agg, avc_vagg, avk_vagg, avc_p, avk_p, avo_p, avc_pp, avk_pp, avo_pp, avc_rs, avk_rs, avo_rs, avc_fs, avk_fs, avo_fs, avc_sn, avk_sn, avo_sn, avc_fn, avk_fn, avo_fn, avc_u, avk_u, avo_u, avc_tup, avk_tup, avo_tup, avc_agg, avk_agg, avo_agg, avo_v, avi_agg, avi_v, u8, allM_nil, allM_cons, byte_i, isByte_i, abyte_v, aisByte_v, ofNat_byte, ne_eq, Int.reduceEq, Int.cast_ofNat_Int, cast0, cast1, List.reduceReplicate, List.flatten_cons, List.flatten_nil, List.flatMap_cons, List.flatMap_nil, IntKind.bits, Nat.min_def, Int.reducePow, Nat.reducePow, Int.reduceTDiv, Int.reduceTMod, List.take_length, take_len_map, List.length_map, IntWalk.i64_in, IntWalk.u8_in, IntWalk.u64_in, Int.reduceMul, Int.reduceSub, Int.reduceAdd, Int.reduceLT, Int.reduceLE, Int.reduceGT, Int.reduceGE, Int.reduceNeg, Int.reduceToNat, Int.reduceBEq, Int.reduceBNe, decide_true, decide_false, Int.toNat_natCast, Int.toNat_zero, Int.toNat_one, reduceIte, ite_true, ite_false, List.length_cons, List.length_nil, List.map_cons, List.map_nil, List.all_cons, List.all_nil, Bool.and_true, Bool.true_and, Bool.and_self, Option.map_some, Option.map_none, List.take_succ_cons, List.take_zero, List.drop_succ_cons, List.drop_zero, List.take_nil, List.drop_nil, List.getD_cons_zero, List.getD_cons_succ, List.nil_append, List.cons_append, List.append_nil, Nat.reduceEqDiff, Nat.reduceAdd, Nat.reduceMul, Nat.reduceSub, Nat.reduceLT, Nat.reduceLeDiff, Nat.zero_add, Nat.add_zero, Nat.le_refl, true_and, and_true, and_self, true_implies, forall_const, Nat.mul_one, Nat.one_mul, bfold, bcells_len, bcells_take, bcells_app, bcells_one, List.isEmpty_cons, List.isEmpty_nil, Bool.or_true, Bool.true_or, Bool.false_or, Bool.or_false, Bool.and_false, Bool.false_and, RetQ, resL, resA, view, mkRes, aPeq, aCvp, aSld, aUst , w7, hk, w8, rO, w5, Bool.not_true, true_or, or_true, false_or, or_false, Option.some.injEq, RetA, resLA, outV, outC, outO, viewC, hfV, foV, finH, finN, mkResA, mapO_outC_bcells, AV.ren, AV.ren.renL, renL_bcells]) | (with_reducible refine CC.mk (fun hc => ?_) (fun hc => ?_)) | (with_reducible refine GB.mk (fun hc => ?_) (fun hc => ?_)) | (refine CR_eff (sz _) ?_ ?_; · simp [hget, rO]) | (with_reducible refine And.intro (by first | omega | decide) ?_) | omega | decide | fail)

theorem rowL {l : List It} {m : Nat} (hm : l.length = m) : List.take (m * 4) (cellsOf (l.map It.pv)) = cellsOf (l.map It.pv) ∧ (cellsOf (l.map It.pv)).length = m * 4 ∧ (cellsOf (l.map It.pv)).all AV.one = true ∧ chunk 4 m ((l.map It.pv).flatMap PV.cells) = l.map It.pv :=
  row4 (fun x hx => by obtain ⟨z, -, rfl⟩ := List.mem_map.1 hx; exact E4.pv z) (by simpa using hm)

set_option maxHeartbeats 2000000 in
theorem item_list (s : Bytes) (a en ls : Nat) (items : List It) (hs : s.length < 1099511627776) (hls : ls < 32) (hen : en ≤ s.length) (h1 : a + 1 < en) (hb : (s.getD (a + 1) 0).toNat < 128) (hn : a + 2 + (s.getD (a + 1) 0).toNat ≤ en) (hk : (s.getD a 0).toNat = 2) (hl : items.length < 1099511627776)
    (hch : Ch s (a + 2 + (s.getD (a + 1) 0).toNat) (ls + 1) (a + 2) items) : Rds s en ls a (listIt items) (a + 2 + (s.getD (a + 1) 0).toNat) := by
  intro r nm
  rw [listIt_pv]
  have sz : ∀ nm, EvA Try.prog 59 nm [(0, rO s (a + 1))] [.p 0 0 0, .v (.i .i64 en)] (.v (.i .i64 (s.getD (a + 1) 0).toNat)) [(0, some (rO s (a + 2)))] := fun nm => size_ok 0 nm s (a + 1) en h1 hen hs hb (by omega)
  generalize hbn : (s.getD (a + 1) 0).toNat = b at *
  refine EvA.mk' (obs := [rO s a]) (args := [.p 0 0 0, .v (.i .i64 en), .v (.i .i64 ls)]) (fs := [some (some (rO s (a + 2 + b)))]) (j := none) (nw := none) (v := .v (.agg [.i .i64 2, .s [], .s [], .sl (items.map It.pv)])) (ns := [r]) (obsA := [rO s a]) mixed Try.call48 Try.func48 rfl C48 Q48 (Nat.le_of_ble_eq_true rfl) ?_ (by simp) (by simp) rfl (by simp [mapO, AObj.ren, AV.ren, AV.ren.renL, rO]) (by simp [mapO, AV.ren, ixOf]) (by simp [AV.ren]) (by simp [upsOf, outs, AObj.ren, AV.ren, AV.ren.renL, bkOf, rO])
  have w5 : IntKind.i64.wrap (((a + 2 : Nat) : Int) + (b : Int)) = ((a + 2 + b : Nat) : Int) := by rw [IntWalk.i64_in _ (by omega)]; omega
  have w7 : decide ((a : Int) ≥ (en : Int)) = false := by simp; omega
  have w8 := i64_succ (show a < 1099511627776 by omega)
  have w9 := i64_succ (show ls < 1099511627776 by omega)
  have w10 : ((ls : Int) == 32) = false := by simp; omega
  unfold S48 R48
  simp only [List.mapIdx_cons, List.mapIdx_nil]
  simp only [rO]
  repeat' (first | (simp only [eq_self, reduceCtorEq, implies_true, imp_false, not_false_eq_true, CW_skip, CW_seq, CW_blk, CW_cond, CW_loop, CW_exit, CW_ret, CW_reg, KW_nil, KW_seqN, KW_seqE, KW_seqR, KW_blkN, KW_blkE, KW_blkR, KW_lpN, KW_lpE, KW_lpR, RW_nil, RW_op, XW, RW_gd, OW_some, OW_none, GR_b, GB_TT, GB_FT, GB_TF, GB_FF, GR_undef, CV_b, CC_T, CC_F, chkO_none, chkO_some, trU_none, trU_some, aop, retO, retP, SX.ev, tget, tput, tdel, hget, hput, hdel, hputs, AS.upd, AS.set, ibin, sbin, aBin, aUn, aLd, aFad, aIxs, aIxa, aExt, aNck, lenOf, bounds, srcOf, fillA, AV.pvL, AV.pv1, mkAgg, mapO, pvc_agg, pvc_b, avc_vb, pvo_b, avk_vb, pvc_i, avc_vi, pvo_i, avk_vi, pvc_s, avc_vs, pvo_s, avk_vs, pvc_tup, avc_vtup, pvo_tup, avk_vtup, pvc_sl, avc_vsl, pvo_sl, avk_vsl, pvc_fn, avc_vfn, pvo_fn, avk_vfn, pvc_fn0, avc_vfn0, pvo_fn0, avk_vfn0, pvc_p0, avc_vp0, pvo_p0, avk_vp0, pvc_if0, avc_vif0, pvo_if0, avk_vif0, pvc_ifc, avc_vifc, pvo_ifc, avk_vifc, pvo_agg, avc_vagg, avk_vagg, avc_p, avk_p, avo_p, avc_pp, avk_pp, avo_pp, avc_rs, avk_rs, avo_rs, avc_fs, avk_fs, avo_fs, avc_sn, avk_sn, avo_sn, avc_fn, avk_fn, avo_fn, avc_u, avk_u, avo_u, avc_tup, avk_tup, avo_tup, avc_agg, avk_agg, avo_agg, avo_v, avi_agg, avi_v, u8, allM_nil, allM_cons, byte_i, isByte_i, abyte_v, aisByte_v, ofNat_byte, ne_eq, Int.reduceEq, Int.cast_ofNat_Int, cast0, cast1, List.reduceReplicate, List.flatten_cons, List.flatten_nil, List.flatMap_cons, List.flatMap_nil, IntKind.bits, Nat.min_def, Int.reducePow, Nat.reducePow, Int.reduceTDiv, Int.reduceTMod, List.take_length, take_len_map, List.length_map, IntWalk.i64_in, IntWalk.u8_in, IntWalk.u64_in, Int.reduceMul, Int.reduceSub, Int.reduceAdd, Int.reduceLT, Int.reduceLE, Int.reduceGT, Int.reduceGE, Int.reduceNeg, Int.reduceToNat, Int.reduceBEq, Int.reduceBNe, decide_true, decide_false, Int.toNat_natCast, Int.toNat_zero, Int.toNat_one, reduceIte, ite_true, ite_false, List.length_cons, List.length_nil, List.map_cons, List.map_nil, List.all_cons, List.all_nil, Bool.and_true, Bool.true_and, Bool.and_self, Option.map_some, Option.map_none, List.take_succ_cons, List.take_zero, List.drop_succ_cons, List.drop_zero, List.take_nil, List.drop_nil, List.getD_cons_zero, List.getD_cons_succ, List.nil_append, List.cons_append, List.append_nil, Nat.reduceEqDiff, Nat.reduceAdd, Nat.reduceMul, Nat.reduceSub, Nat.reduceLT, Nat.reduceLeDiff, Nat.zero_add, Nat.add_zero, Nat.le_refl, true_and, and_true, and_self, true_implies, forall_const, Nat.mul_one, Nat.one_mul, bfold, bcells_len, bcells_take, bcells_app, bcells_one, List.isEmpty_cons, List.isEmpty_nil, Bool.or_true, Bool.true_or, Bool.false_or, Bool.or_false, Bool.and_false, Bool.false_and, RetQ, resL, resA, view, mkRes, aPeq, aCvp, aSld, aUst , w7, hk, w8, rO, w5, w10, Bool.not_true]) | (with_reducible refine CC.mk (fun hc => ?_) (fun hc => ?_)) | (with_reducible refine GB.mk (fun hc => ?_) (fun hc => ?_)) | (refine CR_eff (sz _) ?_ ?_; · simp [hget, rO]) | (with_reducible refine And.intro (by first | omega | decide) ?_) | omega | decide | fail)
  generalize hlast : a + 2 + b = last at *
  cases hch with
  | nil =>
    have d : decide (((a + 2 : Nat) : Int) < ((a + 2 : Nat) : Int)) = false := by simp
    refine loop_unroll' ?_
    repeat' (first | (simp only [eq_self, reduceCtorEq, implies_true, imp_false, not_false_eq_true, CW_skip, CW_seq, CW_blk, CW_cond, CW_loop, CW_exit, CW_ret, CW_reg, KW_nil, KW_seqN, KW_seqE, KW_seqR, KW_blkN, KW_blkE, KW_blkR, KW_lpN, KW_lpE, KW_lpR, RW_nil, RW_op, XW, RW_gd, OW_some, OW_none, GR_b, GB_TT, GB_FT, GB_TF, GB_FF, GR_undef, CV_b, CC_T, CC_F, chkO_none, chkO_some, trU_none, trU_some, aop, retO, retP, SX.ev, tget, tput, tdel, hget, hput, hdel, hputs, AS.upd, AS.set, ibin, sbin, aBin, aUn, aLd, aFad, aIxs, aIxa, aExt, aNck, lenOf, bounds, srcOf, fillA, AV.pvL, AV.pv1, mkAgg, mapO, pvc_agg, pvc_b, avc_vb, pvo_b, avk_vb, pvc_i, avc_vi, pvo_i, avk_vi, pvc_s, avc_vs, pvo_s, avk_vs, pvc_tup, avc_vtup, pvo_tup, avk_vtup, pvc_sl, avc_vsl, pvo_sl, avk_vsl, pvc_fn, avc_vfn, pvo_fn, avk_vfn, pvc_fn0, avc_vfn0, pvo_fn0, avk_vfn0, pvc_p0, avc_vp0, pvo_p0, avk_vp0, pvc_if0, avc_vif0, pvo_if0, avk_vif0, pvc_ifc, avc_vifc, pvo_ifc, avk_vifc, pvo_agg, avc_vagg, avk_vagg, avc_p, avk_p, avo_p, avc_pp, avk_pp, avo_pp, avc_rs, avk_rs, avo_rs, avc_fs, avk_fs, avo_fs, avc_sn, avk_sn, avo_sn, avc_fn, avk_fn, avo_fn, avc_u, avk_u, avo_u, avc_tup, avk_tup, avo_tup, avc_agg, avk_agg, avo_agg, avo_v, avi_agg, avi_v, u8, allM_nil, allM_cons, byte_i, isByte_i, abyte_v, aisByte_v, ofNat_byte, ne_eq, Int.reduceEq, Int.cast_ofNat_Int, cast0, cast1, List.reduceReplicate, List.flatten_cons, List.flatten_nil, List.flatMap_cons, List.flatMap_nil, IntKind.bits, Nat.min_def, Int.reducePow, Nat.reducePow, Int.reduceTDiv, Int.reduceTMod, List.take_length, take_len_map, List.length_map, IntWalk.i64_in, IntWalk.u8_in, IntWalk.u64_in, Int.reduceMul, Int.reduceSub, Int.reduceAdd, Int.reduceLT, Int.reduceLE, Int.reduceGT, Int.reduceGE, Int.reduceNeg, Int.reduceToNat, Int.reduceBEq, Int.reduceBNe, decide_true, decide_false, Int.toNat_natCast, Int.toNat_zero, Int.toNat_one, reduceIte, ite_true, ite_false, List.length_cons, List.length_nil, List.map_cons, List.map_nil, List.all_cons, List.all_nil, Bool.and_true, Bool.true_and, Bool.and_self, Option.map_some, Option.map_none, List.take_succ_cons, List.take_zero, List.drop_succ_cons, List.drop_zero, List.take_nil, List.drop_nil, List.getD_cons_zero, List.getD_cons_succ, List.nil_append, List.cons_append, List.append_nil, Nat.reduceEqDiff, Nat.reduceAdd, Nat.reduceMul, Nat.reduceSub, Nat.reduceLT, Nat.reduceLeDiff, Nat.zero_add, Nat.add_zero, Nat.le_refl, true_and, and_true, and_self, true_implies, forall_const, Nat.mul_one, Nat.one_mul, bfold, bcells_len, bcells_take, bcells_app, bcells_one, List.isEmpty_cons, List.isEmpty_nil, Bool.or_true, Bool.true_or, Bool.false_or, Bool.or_false, Bool.and_false, Bool.false_and, RetQ, resL, resA, view, mkRes, aPeq, aCvp, aSld, aUst , d, true_or, or_true, false_or, or_false, Option.some.injEq, RetA, resLA, outV, outC, outO, viewC, hfV, foV, finH, finN, mkResA, mapO_outC_bcells, AV.ren, AV.ren.renL, renL_bcells]) | (with_reducible refine CC.mk (fun hc => ?_) (fun hc => ?_)) | (with_reducible refine GB.mk (fun hc => ?_) (fun hc => ?_)) | (with_reducible refine And.intro (by first | omega | decide) ?_) | omega | decide | fail)
  | cons _ a1 x rest h2 hE hr =>
    obtain ⟨k', n', t', l', ex, ep⟩ := It.pv_agg x
    have hE' := fun nm => hE 0 nm
    rw [ep] at hE'
    have d0 := decLt h2
    refine loop_unroll' ?_
    repeat' (first | (simp only [eq_self, reduceCtorEq, implies_true, imp_false, not_false_eq_true, CW_skip, CW_seq, CW_blk, CW_cond, CW_loop, CW_exit, CW_ret, CW_reg, KW_nil, KW_seqN, KW_seqE, KW_seqR, KW_blkN, KW_blkE, KW_blkR, KW_lpN, KW_lpE, KW_lpR, RW_nil, RW_op, XW, RW_gd, OW_some, OW_none, GR_b, GB_TT, GB_FT, GB_TF, GB_FF, GR_undef, CV_b, CC_T, CC_F, chkO_none, chkO_some, trU_none, trU_some, aop, retO, retP, SX.ev, tget, tput, tdel, hget, hput, hdel, hputs, AS.upd, AS.set, ibin, sbin, aBin, aUn, aLd, aFad, aIxs, aIxa, aExt, aNck, lenOf, bounds, srcOf, fillA, AV.pvL, AV.pv1, mkAgg, mapO, pvc_agg, pvc_b, avc_vb, pvo_b, avk_vb, pvc_i, avc_vi, pvo_i, avk_vi, pvc_s, avc_vs, pvo_s, avk_vs, pvc_tup, avc_vtup, pvo_tup, avk_vtup, pvc_sl, avc_vsl, pvo_sl, avk_vsl, pvc_fn, avc_vfn, pvo_fn, avk_vfn, pvc_fn0, avc_vfn0, pvo_fn0, avk_vfn0, pvc_p0, avc_vp0, pvo_p0, avk_vp0, pvc_if0, avc_vif0, pvo_if0, avk_vif0, pvc_ifc, avc_vifc, pvo_ifc, avk_vifc, pvo_agg, avc_vagg, avk_vagg, avc_p, avk_p, avo_p, avc_pp, avk_pp, avo_pp, avc_rs, avk_rs, avo_rs, avc_fs, avk_fs, avo_fs, avc_sn, avk_sn, avo_sn, avc_fn, avk_fn, avo_fn, avc_u, avk_u, avo_u, avc_tup, avk_tup, avo_tup, avc_agg, avk_agg, avo_agg, avo_v, avi_agg, avi_v, u8, allM_nil, allM_cons, byte_i, isByte_i, abyte_v, aisByte_v, ofNat_byte, ne_eq, Int.reduceEq, Int.cast_ofNat_Int, cast0, cast1, List.reduceReplicate, List.flatten_cons, List.flatten_nil, List.flatMap_cons, List.flatMap_nil, IntKind.bits, Nat.min_def, Int.reducePow, Nat.reducePow, Int.reduceTDiv, Int.reduceTMod, List.take_length, take_len_map, List.length_map, IntWalk.i64_in, IntWalk.u8_in, IntWalk.u64_in, Int.reduceMul, Int.reduceSub, Int.reduceAdd, Int.reduceLT, Int.reduceLE, Int.reduceGT, Int.reduceGE, Int.reduceNeg, Int.reduceToNat, Int.reduceBEq, Int.reduceBNe, decide_true, decide_false, Int.toNat_natCast, Int.toNat_zero, Int.toNat_one, reduceIte, ite_true, ite_false, List.length_cons, List.length_nil, List.map_cons, List.map_nil, List.all_cons, List.all_nil, Bool.and_true, Bool.true_and, Bool.and_self, Option.map_some, Option.map_none, List.take_succ_cons, List.take_zero, List.drop_succ_cons, List.drop_zero, List.take_nil, List.drop_nil, List.getD_cons_zero, List.getD_cons_succ, List.nil_append, List.cons_append, List.append_nil, Nat.reduceEqDiff, Nat.reduceAdd, Nat.reduceMul, Nat.reduceSub, Nat.reduceLT, Nat.reduceLeDiff, Nat.zero_add, Nat.add_zero, Nat.le_refl, true_and, and_true, and_self, true_implies, forall_const, Nat.mul_one, Nat.one_mul, bfold, bcells_len, bcells_take, bcells_app, bcells_one, List.isEmpty_cons, List.isEmpty_nil, Bool.or_true, Bool.true_or, Bool.false_or, Bool.or_false, Bool.and_false, Bool.false_and, RetQ, resL, resA, view, mkRes, aPeq, aCvp, aSld, aUst , d0, w9]) | (with_reducible refine CC.mk (fun hc => ?_) (fun hc => ?_)) | (with_reducible refine GB.mk (fun hc => ?_) (fun hc => ?_)) | (refine CR_eff (hE' _) ?_ ?_; · simp [hget, rO]) | (with_reducible refine And.intro (by first | omega | decide) ?_) | omega | decide | fail)
    refine loop_run (α := Nat × List It × Nat × List It) (fun z => z.2.2.2.length) (fun z => ⟨[(0, .p 0 0 0), (2, .v (.i .i64 ls)), (6, .p 1000 0 0), (7, .p 1030 0 0), (9, .v (.i .i64 last))],
      [(0, rO s z.2.2.1), (1000, ⟨0, [.v (.i .i64 0), .v (.s []), .v (.s []), .sn], false, some 79⟩), (1030, ⟨0, [.v (.i .i64 2), .v (.s []), .v (.s []), .rs 1078 z.1 0 (z.1 + 1) 4], false, some 79⟩), (1078, ⟨z.1, cellsOf (z.2.1.map It.pv), true, some 79⟩)], 1081⟩) (fun z => z.2.1.length = z.1 + 1 ∧ Ch s last (ls + 1) z.2.2.1 z.2.2.2 ∧ z.2.1 ++ z.2.2.2 = x :: rest) (0, [x], a1, rest) (fun _ => Nat.le_of_ble_eq_true rfl) ⟨rfl, hr, rfl⟩ (by refine AS.Le.of (by decide) ?_ ?_ <;> simp [LeT, LeH, tget, hget, AV.bd, AV.bd.bdL, bd_cellsOf, rO, cellsOf, ep, PV.cells]) ?_
    rintro ⟨y, done, ai, todo⟩ ⟨g1, g2, g3⟩ R hR
    simp only at g1 g2 g3
    obtain ⟨c1, c2, c3, c4⟩ := rowL g1
    have hdl : done.length + todo.length = (x :: rest).length := by rw [← g3]; simp
    cases g2 with
    | nil =>
      have d : decide ((last : Int) < (last : Int)) = false := by simp
      rw [List.append_nil] at g3
      rw [show x.pv :: List.map It.pv rest = done.map It.pv by rw [g3]; rfl]
      clear hR hE hr g3
      repeat' (first | (simp only [eq_self, reduceCtorEq, implies_true, imp_false, not_false_eq_true, CW_skip, CW_seq, CW_blk, CW_cond, CW_loop, CW_exit, CW_ret, CW_reg, KW_nil, KW_seqN, KW_seqE, KW_seqR, KW_blkN, KW_blkE, KW_blkR, KW_lpN, KW_lpE, KW_lpR, RW_nil, RW_op, XW, RW_gd, OW_some, OW_none, GR_b, GB_TT, GB_FT, GB_TF, GB_FF, GR_undef, CV_b, CC_T, CC_F, chkO_none, chkO_some, trU_none, trU_some, aop, retO, retP, SX.ev, tget, tput, tdel, hget, hput, hdel, hputs, AS.upd, AS.set, ibin, sbin, aBin, aUn, aLd, aFad, aIxs, aIxa, aExt, aNck, lenOf, bounds, srcOf, fillA, AV.pvL, AV.pv1, mkAgg, mapO, pvc_agg, pvc_b, avc_vb, pvo_b, avk_vb, pvc_i, avc_vi, pvo_i, avk_vi, pvc_s, avc_vs, pvo_s, avk_vs, pvc_tup, avc_vtup, pvo_tup, avk_vtup, pvc_sl, avc_vsl, pvo_sl, avk_vsl, pvc_fn, avc_vfn, pvo_fn, avk_vfn, pvc_fn0, avc_vfn0, pvo_fn0, avk_vfn0, pvc_p0, avc_vp0, pvo_p0, avk_vp0, pvc_if0, avc_vif0, pvo_if0, avk_vif0, pvc_ifc, avc_vifc, pvo_ifc, avk_vifc, pvo_agg, avc_vagg, avk_vagg, avc_p, avk_p, avo_p, avc_pp, avk_pp, avo_pp, avc_rs, avk_rs, avo_rs, avc_fs, avk_fs, avo_fs, avc_sn, avk_sn, avo_sn, avc_fn, avk_fn, avo_fn, avc_u, avk_u, avo_u, avc_tup, avk_tup, avo_tup, avc_agg, avk_agg, avo_agg, avo_v, avi_agg, avi_v, u8, allM_nil, allM_cons, byte_i, isByte_i, abyte_v, aisByte_v, ofNat_byte, ne_eq, Int.reduceEq, Int.cast_ofNat_Int, cast0, cast1, List.reduceReplicate, List.flatten_cons, List.flatten_nil, List.flatMap_cons, List.flatMap_nil, IntKind.bits, Nat.min_def, Int.reducePow, Nat.reducePow, Int.reduceTDiv, Int.reduceTMod, List.take_length, take_len_map, List.length_map, IntWalk.i64_in, IntWalk.u8_in, IntWalk.u64_in, Int.reduceMul, Int.reduceSub, Int.reduceAdd, Int.reduceLT, Int.reduceLE, Int.reduceGT, Int.reduceGE, Int.reduceNeg, Int.reduceToNat, Int.reduceBEq, Int.reduceBNe, decide_true, decide_false, Int.toNat_natCast, Int.toNat_zero, Int.toNat_one, reduceIte, ite_true, ite_false, List.length_cons, List.length_nil, List.map_cons, List.map_nil, List.all_cons, List.all_nil, Bool.and_true, Bool.true_and, Bool.and_self, Option.map_some, Option.map_none, List.take_succ_cons, List.take_zero, List.drop_succ_cons, List.drop_zero, List.take_nil, List.drop_nil, List.getD_cons_zero, List.getD_cons_succ, List.nil_append, List.cons_append, List.append_nil, Nat.reduceEqDiff, Nat.reduceAdd, Nat.reduceMul, Nat.reduceSub, Nat.reduceLT, Nat.reduceLeDiff, Nat.zero_add, Nat.add_zero, Nat.le_refl, true_and, and_true, and_self, true_implies, forall_const, Nat.mul_one, Nat.one_mul, bfold, bcells_len, bcells_take, bcells_app, bcells_one, List.isEmpty_cons, List.isEmpty_nil, Bool.or_true, Bool.true_or, Bool.false_or, Bool.or_false, Bool.and_false, Bool.false_and, RetQ, resL, resA, view, mkRes, aPeq, aCvp, aSld, aUst , d, rO, c1, c2, c3, c4, mapO_view_cells, true_or, or_true, false_or, or_false, Option.some.injEq, RetA, resLA, outV, outC, outO, viewC, hfV, foV, finH, finN, mkResA, mapO_outC_bcells, AV.ren, AV.ren.renL, renL_bcells]) | (with_reducible refine CC.mk (fun hc => ?_) (fun hc => ?_)) | (with_reducible refine GB.mk (fun hc => ?_) (fun hc => ?_)) | (with_reducible refine And.intro (by first | omega | decide) ?_) | omega | decide | fail)
    | cons _ a2 x2 rest2 h3 hE2 hr2 =>
      obtain ⟨k2, n2, t2, l2, ex2, ep2⟩ := It.pv_agg x2
      have hE2' := fun nm => hE2 0 nm
      rw [ep2] at hE2'
      have d1 := decLt h3
      have c : cellsOf (done.map It.pv) ++ [.v (.i .i64 k2), .v (.s n2), .v (.s t2), .v (.sl (l2.map It.pv))] = cellsOf ((done ++ [x2]).map It.pv) := by rw [cells_snoc, List.map_append, List.map_cons, List.map_nil, ep2]
      simp only [List.length_cons] at hdl hl
      repeat' (first | (simp only [eq_self, reduceCtorEq, implies_true, imp_false, not_false_eq_true, CW_skip, CW_seq, CW_blk, CW_cond, CW_loop, CW_exit, CW_ret, CW_reg, KW_nil, KW_seqN, KW_seqE, KW_seqR, KW_blkN, KW_blkE, KW_blkR, KW_lpN, KW_lpE, KW_lpR, RW_nil, RW_op, XW, RW_gd, OW_some, OW_none, GR_b, GB_TT, GB_FT, GB_TF, GB_FF, GR_undef, CV_b, CC_T, CC_F, chkO_none, chkO_some, trU_none, trU_some, aop, retO, retP, SX.ev, tget, tput, tdel, hget, hput, hdel, hputs, AS.upd, AS.set, ibin, sbin, aBin, aUn, aLd, aFad, aIxs, aIxa, aExt, aNck, lenOf, bounds, srcOf, fillA, AV.pvL, AV.pv1, mkAgg, mapO, pvc_agg, pvc_b, avc_vb, pvo_b, avk_vb, pvc_i, avc_vi, pvo_i, avk_vi, pvc_s, avc_vs, pvo_s, avk_vs, pvc_tup, avc_vtup, pvo_tup, avk_vtup, pvc_sl, avc_vsl, pvo_sl, avk_vsl, pvc_fn, avc_vfn, pvo_fn, avk_vfn, pvc_fn0, avc_vfn0, pvo_fn0, avk_vfn0, pvc_p0, avc_vp0, pvo_p0, avk_vp0, pvc_if0, avc_vif0, pvo_if0, avk_vif0, pvc_ifc, avc_vifc, pvo_ifc, avk_vifc, pvo_agg, avc_vagg, avk_vagg, avc_p, avk_p, avo_p, avc_pp, avk_pp, avo_pp, avc_rs, avk_rs, avo_rs, avc_fs, avk_fs, avo_fs, avc_sn, avk_sn, avo_sn, avc_fn, avk_fn, avo_fn, avc_u, avk_u, avo_u, avc_tup, avk_tup, avo_tup, avc_agg, avk_agg, avo_agg, avo_v, avi_agg, avi_v, u8, allM_nil, allM_cons, byte_i, isByte_i, abyte_v, aisByte_v, ofNat_byte, ne_eq, Int.reduceEq, Int.cast_ofNat_Int, cast0, cast1, List.reduceReplicate, List.flatten_cons, List.flatten_nil, List.flatMap_cons, List.flatMap_nil, IntKind.bits, Nat.min_def, Int.reducePow, Nat.reducePow, Int.reduceTDiv, Int.reduceTMod, List.take_length, take_len_map, List.length_map, IntWalk.i64_in, IntWalk.u8_in, IntWalk.u64_in, Int.reduceMul, Int.reduceSub, Int.reduceAdd, Int.reduceLT, Int.reduceLE, Int.reduceGT, Int.reduceGE, Int.reduceNeg, Int.reduceToNat, Int.reduceBEq, Int.reduceBNe, decide_true, decide_false, Int.toNat_natCast, Int.toNat_zero, Int.toNat_one, reduceIte, ite_true, ite_false, List.length_cons, List.length_nil, List.map_cons, List.map_nil, List.all_cons, List.all_nil, Bool.and_true, Bool.true_and, Bool.and_self, Option.map_some, Option.map_none, List.take_succ_cons, List.take_zero, List.drop_succ_cons, List.drop_zero, List.take_nil, List.drop_nil, List.getD_cons_zero, List.getD_cons_succ, List.nil_append, List.cons_append, List.append_nil, Nat.reduceEqDiff, Nat.reduceAdd, Nat.reduceMul, Nat.reduceSub, Nat.reduceLT, Nat.reduceLeDiff, Nat.zero_add, Nat.add_zero, Nat.le_refl, true_and, and_true, and_self, true_implies, forall_const, Nat.mul_one, Nat.one_mul, bfold, bcells_len, bcells_take, bcells_app, bcells_one, List.isEmpty_cons, List.isEmpty_nil, Bool.or_true, Bool.true_or, Bool.false_or, Bool.or_false, Bool.and_false, Bool.false_and, RetQ, resL, resA, view, mkRes, aPeq, aCvp, aSld, aUst , d1, w9, rO, c1, c2, c]) | (with_reducible refine CC.mk (fun hc => ?_) (fun hc => ?_)) | (with_reducible refine GB.mk (fun hc => ?_) (fun hc => ?_)) | (refine CR_eff (hE2' _) ?_ ?_; · simp [hget, rO]) | (with_reducible refine And.intro (by first | omega | decide) ?_) | omega | decide | fail)
      exact hR (y + 1, done ++ [x2], a2, rest2) ⟨by simp [g1], hr2, by simp [g3]⟩ (by simp) _ (by refine AS.Le.of (by decide) ?_ ?_ <;> simp [LeT, LeH, tget, hget, AV.bd, AV.bd.bdL, bd_cellsOf, rO])

theorem rdI_le : ∀ (f : Nat) (s : Bytes) (a en ls : Nat) (x : It) (a1 : Nat), rdI f s a en ls = some (x, a1) → a < a1 ∧ a1 ≤ en := by
  intro f s a en ls x a1 h
  cases f with
  | zero => simp [rdI] at h
  | succ f =>
    rw [rdI] at h
    split at h
    · rename_i hc
      split at h
      · split at h
        · injection h with h; injection h with h1 h2; omega
        · cases h
      · split at h
        · injection h with h; injection h with h1 h2; omega
        · split at h
          · split at h
            · injection h with h; injection h with h1 h2; omega
            · cases h
          · cases h
    · cases h

theorem rd_ok (s : Bytes) (hs : s.length < 1099511627776) : ∀ (f : Nat),
    (∀ (a en ls : Nat) (x : It) (a1 : Nat), en ≤ s.length → ls < 1000 → rdI f s a en ls = some (x, a1) → Rds s en ls a x a1) ∧
    (∀ (a last ls : Nat) (l : List It), last ≤ s.length → ls < 1000 → rdL f s a last ls = some l → Ch s last ls a l ∧ l.length + a ≤ last) := by
  intro f
  induction f with
  | zero => exact ⟨fun a en ls x a1 _ _ h => by simp [rdI] at h, fun a last ls l _ _ h => by simp [rdL] at h⟩
  | succ f ih =>
    refine ⟨fun a en ls x a1 hen hls h => ?_, fun a last ls l hla hls h => ?_⟩
    · rw [rdI] at h
      split at h
      · rename_i hc
        obtain ⟨h1, hb, hn⟩ := hc
        split at h
        · rename_i hk
          split at h
          · rename_i hv
            injection h with h; injection h with e1 e2
            subst e1; subst e2
            exact item_nat s a en ls hs hls hen h1 hb hn hk hv
          · cases h
        · split at h
          · rename_i hk
            injection h with h; injection h with e1 e2
            subst e1; subst e2
            exact item_text s a en ls hs hls hen h1 hb hn hk
          · split at h
            · rename_i hk
              split at h
              · rename_i l hl
                injection h with h; injection h with e1 e2
                subst e1; subst e2
                obtain ⟨hc, hcl⟩ := ih.2 _ _ _ l (by omega) (by omega) hl
                exact item_list s a en ls l hs hk.2 hen h1 hb hn hk.1 (by omega) hc
              · cases h
            · cases h
      · cases h
    · rw [rdL] at h
      split at h
      · rename_i hlt
        split at h
        · rename_i x a1 hx
          split at h
          · rename_i r hr
            injection h with h; subst h
            obtain ⟨q1, q2⟩ := rdI_le f s a last ls x a1 hx
            obtain ⟨hc, hcl⟩ := ih.2 _ _ _ r hla hls hr
            exact ⟨.cons a a1 x r hlt (ih.1 a last ls x a1 hla hls hx) hc, by simp; omega⟩
          · cases h
        · cases h
      · split at h
        · rename_i he
          injection h with h; subst h; subst he
          exact ⟨.nil, by simp⟩
        · cases h
end Go.Proofs.Ytjigfdhjmfcbpaa
