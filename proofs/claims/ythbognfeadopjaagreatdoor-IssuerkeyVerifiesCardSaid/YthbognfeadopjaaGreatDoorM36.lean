/-
  Part of the proof, part 36. Own work.
-/
import Derived.Test.YthbognfeadopjaaGreatDoorM35
import Derived.Test.YthbognfeadopjaaGreatDoorM33
set_option linter.all false
namespace Go.Proofs.YthbognfeadopjaaGreatDoor
open Go Go.Dom
set_option maxRecDepth 100000
set_option maxHeartbeats 16000000
theorem plain1_ok (s : Bytes) : EvP Tryz.prog 247 [.s s] (.s s) := by
 refine eW Tryz.call247 Tryz.func247 ?_
 repeat' (first | simp only [go_sem, seval] | simp (disch := first | assumption | omega) only [bP, bW] | (first | apply pX | apply bX) <;> intro hc | refine ⟨oD, ?_⟩ | exact oD | fail)
theorem Nats1_ok (s : Bytes) : EvP Tryz.prog 178 [.s s] (.s s) := by
 refine eW Tryz.call178 Tryz.func178 ?_
 repeat' (first | simp only [go_sem, seval] | simp (disch := first | assumption | omega) only [bP, bW] | (first | apply pX | apply bX) <;> intro hc | refine ⟨oD, ?_⟩ | exact oD | fail)
theorem Ints1_ok (n : Bool) (s : Bytes) (hs : s.length < 1000000) : EvP Tryz.prog 250 [.agg [.b n, .s s]] (.s (intS (n, s))) := by
 cases n
 all_goals simp only [intS]
 refine eW Tryz.call250 Tryz.func250 ?_
 repeat' (first | simp only [go_sem, seval] | simp (disch := first | assumption | omega) only [bP, bW] | (first | apply pX | apply bX) <;> intro hc | refine ⟨oD, ?_⟩ | exact oD | fail)
 refine eW Tryz.call250 Tryz.func250 ?_
 repeat' (first | simp only [go_sem, seval] | simp (disch := first | assumption | omega) only [bP, bW] | (first | apply pX | apply bX) <;> intro hc | refine ⟨oD, ?_⟩ | exact oD | fail)
theorem framedS (k : Nat) {c : Int} (hc : c = IntKind.u8.wrap (k : Int)) (l more : List Bytes) (hm : more ≠ []) (hn : l.length + more.length ≤ 1000) (hb : ∀ s ∈ l ++ more, s.length ≤ 100000) : EvP Tryz.prog 246 [.i .u8 c, .sl (l.map .s), .sl (more.map .s), .fn (.func 247)] (.s (sumB (frameB k (l ++ more)))) := by
 subst hc
 obtain ⟨m0, mr, hmr⟩ : ∃ m0 mr, more = m0 :: mr := by cases more with
  | nil => exact absurd rfl hm
  | cons a b => exact ⟨a, b, rfl⟩
 have hml : more.length = mr.length + 1 := by rw [hmr]; rfl
 have w1 := fun nm => wbF FR lies1 1001 nm k
 have w2 := fun nm => eightB 1001 1004 nm 0 [UInt8.ofNat k] (l.length + more.length) (by decide) (Nat.lt_of_le_of_lt (Nat.le_refl 1) (by decide)) (by omega)
 have ht := plain1_ok
 have hpos : ∀ _ : True, (0 : Int) < (more.length : Int) := fun _ => by omega
 have g0 : (more.map PV.s).getD 0 .fn0 = .s m0 := by rw [hmr]; rfl
 have c1 : ∀ x ∈ l.map PV.s, x.cells.length = 1 := fun x hx => by obtain ⟨c, -, rfl⟩ := List.mem_map.1 hx; rfl
 refine eW Tryz.call246 Tryz.func246 ?_
 repeat' (first | simp only [go_sem, seval] | (refine CR_eff (w1 _) (by simp [hget, bF]) ?_) | (refine CR_eff (w2 _) (by simp [hget]) ?_) | simp (disch := first | assumption | omega) only [bP, bW] | (first | apply pX | apply bX) <;> intro hc | refine ⟨oD, ?_⟩ | exact oD | fail)
 refine loop_unroll' ?_
 repeat' (first | simp only [go_sem, seval, g0, hpos trivial] | refine cP ((ht _)) ?_ | simp (disch := first | assumption | omega) only [bP, bW] | (first | apply pX | apply bX) <;> intro hc | refine ⟨oD, ?_⟩ | exact oD | fail)
 refine ⟨⟨by omega, c1⟩, ?_⟩
 repeat' (first | simp only [go_sem, seval] | refine cP ((ht _)) ?_ | simp (disch := first | assumption | omega) only [bP, bW] | (first | apply pX | apply bX) <;> intro hc | refine ⟨oD, ?_⟩ | exact oD | fail)
 refine ⟨⟨c1, by omega, by omega⟩, rfl, ?_⟩
 have hro : List.map AV.v (List.flatMap PV.cells (List.map PV.s l)) ++ [AV.v (PV.s m0)] = rowF PV.s (l ++ more.take 1) := by
  rw [hmr, rowF, List.flatMap_append, List.map_append, List.flatMap_map]; rfl
 rw [hro]
 obtain ⟨H, hH⟩ : ∃ H, H = UInt8.ofNat k :: be 8 (l.length + more.length) := ⟨_, rfl⟩
 rw [← hH]
 have hHl : H.length = 9 := by rw [hH, List.length_cons, be_len]
 have hfr : frameB k (l ++ more) = H ++ partsB (l ++ more) := by rw [hH, frameB, List.length_append]; rfl
 rw [hfr]
 clear hro hfr w1 w2 g0 c1
 refine loop_run (α := Nat) (fun j => more.length - j) (fun j => ⟨[(1, .rs 1028 j 0 (l.length + 1 + j) 1), (3, .v (.fn (.func 247))), (9, .p 1001 0 0), (23, .v (.sl (more.map PV.s))), (24, E' more.length), (25, E' (j + 1))], [(1001, bB FR 1001 1004 8 H), (1004, bD 8 H), (1028, ⟨j, rowF PV.s (l ++ more.take (j + 1)), true, some 9⟩)], 1032⟩) (fun j => j + 1 ≤ more.length) 0 (fun _ => Nat.le_of_ble_eq_true rfl) (by omega) ?_ ?_
 ·(refine AS.Le.of (by first | decide | omega) ?_ ?_ <;> simp [LeT, LeH, tget, hget, AV.bd, AV.bd.bdL, u8, bd_cellsOf, bcells_bd, icells_bd])
  exact ⟨bB_bd _ _ _ _ _ _ (by decide) (by decide), bD_bd _ _ _, fun c hc => bd_row hc⟩
 ·intro j hj R hR
  have hlr : (l ++ more.take (j + 1)).length = l.length + 1 + j := by rw [List.length_append, List.length_take]; omega
  have q0 : (rowF PV.s (l ++ more.take (j + 1))).length = l.length + 1 + j := by rw [rowF_len RowOK.s, hlr, Nat.mul_one]
  have q1 : List.take (l.length + 1 + j) (rowF PV.s (l ++ more.take (j + 1))) = rowF PV.s (l ++ more.take (j + 1)) := List.take_of_length_le (by omega)
  by_cases hjt : j + 1 < more.length
  ·have e2 := getD_map PV.s more ([] : Bytes) hjt
   have hgo := hR (j + 1) (by omega) (by omega)
   rw [take_succ_getD ([] : Bytes) hjt, ← List.append_assoc, rowF_snoc] at hgo
   generalize more.getD (j + 1) ([] : Bytes) = y at e2 hgo
   have e3 : ∀ _ : True, ((j : Int) + 1).toNat = j + 1 := fun _ => by omega
   clear hR hlr
   repeat' (first | simp only [go_sem, seval, q0, q1, e2, e3 trivial] | refine cP ((ht _)) ?_ | simp (disch := first | assumption | omega) only [bP, bW] | (first | apply pX | apply bX) <;> intro hc | refine ⟨oD, ?_⟩ | exact oD | fail)
   refine hgo _ ?_
   (refine AS.Le.of (by first | decide | omega) ?_ ?_ <;> simp [LeT, LeH, tget, hget, AV.bd, AV.bd.bdL, u8, bd_cellsOf, bcells_bd, icells_bd])
   all_goals first | omega | exact ⟨bB_bd _ _ _ _ _ _ (by decide) (by decide), bD_bd _ _ _, by rw [q1]; rfl, fun c hc => by rcases hc with hc | ⟨a, ha, rfl⟩; exact bd_row hc; rfl⟩
  ·have h : j + 1 = more.length := by omega
   rw [h, List.take_length] at q0 q1 ⊢
   repeat' (first | simp only [go_sem, seval, q0, q1] | simp (disch := first | assumption | omega) only [bP, bW] | (first | apply pX | apply bX) <;> intro hc | refine ⟨oD, ?_⟩ | exact oD | fail)
   have hP : (l ++ more).length = l.length + 1 + j := by rw [List.length_append]; omega
   have hPb : ∀ i, i ≤ (l ++ more).length → (H ++ partsB ((l ++ more).take i)).length ≤ 9 + i * 100008 := fun i hi => by
    rw [List.length_append, hHl]
    have h1 := partsB_len ((l ++ more).take i) (n := 100000) fun s hs => hb s (List.mem_of_mem_take hs)
    rw [List.length_take, Nat.min_eq_left hi] at h1
    omega
   clear hR ht hmr hml hH hpos
   rw [← hP]
   rw [← hP] at q0
   generalize hPP : l ++ more = P at *
   have hP3 : P.length ≤ 1000 := by rw [hP]; omega
   refine loop_run (α := Nat) (fun i => P.length - i) (fun i => ⟨[(9, .p 1001 0 0), (41, .rs 1028 j 0 P.length 1), (42, E' P.length), (43, E' i)], [(1001, bB FR 1001 1004 (8 + 9 * i) (H ++ partsB (P.take i))), (1004, bD (8 + 9 * i) (H ++ partsB (P.take i))), (1028, ⟨j, rowF PV.s P, true, some 9⟩)], 1036⟩) (fun i => i ≤ P.length) 0 (fun _ => Nat.le_of_ble_eq_true rfl) (Nat.zero_le _) ?_ ?_
   ·(refine AS.Le.of (by first | decide | omega) ?_ ?_ <;> simp [LeT, LeH, tget, hget, AV.bd, AV.bd.bdL, u8, bd_cellsOf, bcells_bd, icells_bd])
    have e0 : H ++ partsB [] = H := List.append_nil H
    rw [e0]
    exact ⟨rfl, bB_bd _ _ _ _ _ _ (by decide) (by decide), rfl, bD_bd _ _ _, fun c hc => bd_row hc⟩
   ·intro i hi R hR
    by_cases hit : i < P.length
    ·have e2 := rowF_get1 (f := PV.s) (fun _ => rfl) P ([] : Bytes) hit
     have hgo := hR (i + 1) (by omega) (by omega)
     have hbs := hb (P.getD i []) (mem_getD [] hit)
     have hPi := hPb i hi
     rw [take_succ_getD ([] : Bytes) hit, partsB_snoc, ← List.append_assoc, ← List.append_assoc] at hgo
     generalize P.getD i [] = y at e2 hgo hbs
     generalize hB : H ++ partsB (P.take i) = B at hgo hPi ⊢
     have w1 := fun nm => eightB 1001 1004 nm (8 + 9 * i) B y.length (by decide) (by omega) (by omega)
     have w2 := fun nm => wsB FR 1001 1004 nm (8 + 9 * i + 8) (B ++ be 8 y.length) y (by decide) (by rw [List.length_append, be_len]; omega)
     simp only [show 8 + 9 * (i + 1) = 8 + 9 * i + 8 + 1 by omega] at hgo
     clear hR hb hPb
     repeat' (first | simp only [go_sem, seval, q0, e2] | (refine CR_eff (w1 _) (by simp [hget]) ?_) | (refine CR_eff (w2 _) (by simp [hget]) ?_) | simp (disch := first | assumption | omega) only [bP, bW] | (first | apply pX | apply bX) <;> intro hc | refine ⟨oD, ?_⟩ | exact oD | fail)
     refine hgo _ ?_
     (refine AS.Le.of (by first | decide | omega) ?_ ?_ <;> simp [LeT, LeH, tget, hget, AV.bd, AV.bd.bdL, u8, bd_cellsOf, bcells_bd, icells_bd])
     all_goals exact ⟨bB_bd _ _ _ _ _ _ (by decide) (by decide), bD_bd _ _ _, fun c hc => bd_row hc⟩
    ·have h : i = P.length := by omega
     rw [h, List.take_length]
     have hl2 := hPb P.length (Nat.le_refl _)
     rw [List.take_length] at hl2
     have hne : H ++ partsB P ≠ [] := by intro h0; have := congrArg List.length h0; rw [List.length_append, hHl] at this; simp at this
     generalize H ++ partsB P = B at hl2 hne ⊢
     have w3 := fun nm => strB FR 1001 1004 nm (8 + 9 * P.length) B (by decide) (fun h0 => hne (List.length_eq_zero_iff.1 h0)) (by omega)
     have hsu := Sum_ok (s := B) (by omega)
     repeat' (first | simp only [go_sem, seval, q0] | (refine CR_eff (w3 _) (by simp [hget]) ?_) | refine cP hsu ?_ | simp (disch := first | assumption | omega) only [bP, bW] | (first | apply pX | apply bX) <;> intro hc | refine ⟨oD, ?_⟩ | exact oD | fail)
theorem framedN (k : Nat) {c : Int} (hc : c = IntKind.u8.wrap (k : Int)) (l more : List Bytes) (hm : more ≠ []) (hn : l.length + more.length ≤ 1000) (hb : ∀ s ∈ l ++ more, s.length ≤ 100000) : EvP Tryz.prog 177 [.i .u8 c, .sl (l.map .s), .sl (more.map .s), .fn (.func 178)] (.s (sumB (frameB k (l ++ more)))) := by
 subst hc
 obtain ⟨m0, mr, hmr⟩ : ∃ m0 mr, more = m0 :: mr := by cases more with
  | nil => exact absurd rfl hm
  | cons a b => exact ⟨a, b, rfl⟩
 have hml : more.length = mr.length + 1 := by rw [hmr]; rfl
 have w1 := fun nm => wbF FR lies1 1001 nm k
 have w2 := fun nm => eightB 1001 1004 nm 0 [UInt8.ofNat k] (l.length + more.length) (by decide) (Nat.lt_of_le_of_lt (Nat.le_refl 1) (by decide)) (by omega)
 have ht := Nats1_ok
 have hpos : ∀ _ : True, (0 : Int) < (more.length : Int) := fun _ => by omega
 have g0 : (more.map PV.s).getD 0 .fn0 = .s m0 := by rw [hmr]; rfl
 have c1 : ∀ x ∈ l.map PV.s, x.cells.length = 1 := fun x hx => by obtain ⟨c, -, rfl⟩ := List.mem_map.1 hx; rfl
 refine eW Tryz.call177 Tryz.func177 ?_
 repeat' (first | simp only [go_sem, seval] | (refine CR_eff (w1 _) (by simp [hget, bF]) ?_) | (refine CR_eff (w2 _) (by simp [hget]) ?_) | simp (disch := first | assumption | omega) only [bP, bW] | (first | apply pX | apply bX) <;> intro hc | refine ⟨oD, ?_⟩ | exact oD | fail)
 refine loop_unroll' ?_
 repeat' (first | simp only [go_sem, seval, g0, hpos trivial] | refine cP ((ht _)) ?_ | simp (disch := first | assumption | omega) only [bP, bW] | (first | apply pX | apply bX) <;> intro hc | refine ⟨oD, ?_⟩ | exact oD | fail)
 refine ⟨⟨by omega, c1⟩, ?_⟩
 repeat' (first | simp only [go_sem, seval] | refine cP ((ht _)) ?_ | simp (disch := first | assumption | omega) only [bP, bW] | (first | apply pX | apply bX) <;> intro hc | refine ⟨oD, ?_⟩ | exact oD | fail)
 refine ⟨⟨c1, by omega, by omega⟩, rfl, ?_⟩
 have hro : List.map AV.v (List.flatMap PV.cells (List.map PV.s l)) ++ [AV.v (PV.s m0)] = rowF PV.s (l ++ more.take 1) := by
  rw [hmr, rowF, List.flatMap_append, List.map_append, List.flatMap_map]; rfl
 rw [hro]
 obtain ⟨H, hH⟩ : ∃ H, H = UInt8.ofNat k :: be 8 (l.length + more.length) := ⟨_, rfl⟩
 rw [← hH]
 have hHl : H.length = 9 := by rw [hH, List.length_cons, be_len]
 have hfr : frameB k (l ++ more) = H ++ partsB (l ++ more) := by rw [hH, frameB, List.length_append]; rfl
 rw [hfr]
 clear hro hfr w1 w2 g0 c1
 refine loop_run (α := Nat) (fun j => more.length - j) (fun j => ⟨[(1, .rs 1028 j 0 (l.length + 1 + j) 1), (3, .v (.fn (.func 178))), (9, .p 1001 0 0), (23, .v (.sl (more.map PV.s))), (24, E' more.length), (25, E' (j + 1))], [(1001, bB FR 1001 1004 8 H), (1004, bD 8 H), (1028, ⟨j, rowF PV.s (l ++ more.take (j + 1)), true, some 9⟩)], 1032⟩) (fun j => j + 1 ≤ more.length) 0 (fun _ => Nat.le_of_ble_eq_true rfl) (by omega) ?_ ?_
 ·(refine AS.Le.of (by first | decide | omega) ?_ ?_ <;> simp [LeT, LeH, tget, hget, AV.bd, AV.bd.bdL, u8, bd_cellsOf, bcells_bd, icells_bd])
  exact ⟨bB_bd _ _ _ _ _ _ (by decide) (by decide), bD_bd _ _ _, fun c hc => bd_row hc⟩
 ·intro j hj R hR
  have hlr : (l ++ more.take (j + 1)).length = l.length + 1 + j := by rw [List.length_append, List.length_take]; omega
  have q0 : (rowF PV.s (l ++ more.take (j + 1))).length = l.length + 1 + j := by rw [rowF_len RowOK.s, hlr, Nat.mul_one]
  have q1 : List.take (l.length + 1 + j) (rowF PV.s (l ++ more.take (j + 1))) = rowF PV.s (l ++ more.take (j + 1)) := List.take_of_length_le (by omega)
  by_cases hjt : j + 1 < more.length
  ·have e2 := getD_map PV.s more ([] : Bytes) hjt
   have hgo := hR (j + 1) (by omega) (by omega)
   rw [take_succ_getD ([] : Bytes) hjt, ← List.append_assoc, rowF_snoc] at hgo
   generalize more.getD (j + 1) ([] : Bytes) = y at e2 hgo
   have e3 : ∀ _ : True, ((j : Int) + 1).toNat = j + 1 := fun _ => by omega
   clear hR hlr
   repeat' (first | simp only [go_sem, seval, q0, q1, e2, e3 trivial] | refine cP ((ht _)) ?_ | simp (disch := first | assumption | omega) only [bP, bW] | (first | apply pX | apply bX) <;> intro hc | refine ⟨oD, ?_⟩ | exact oD | fail)
   refine hgo _ ?_
   (refine AS.Le.of (by first | decide | omega) ?_ ?_ <;> simp [LeT, LeH, tget, hget, AV.bd, AV.bd.bdL, u8, bd_cellsOf, bcells_bd, icells_bd])
   all_goals first | omega | exact ⟨bB_bd _ _ _ _ _ _ (by decide) (by decide), bD_bd _ _ _, by rw [q1]; rfl, fun c hc => by rcases hc with hc | ⟨a, ha, rfl⟩; exact bd_row hc; rfl⟩
  ·have h : j + 1 = more.length := by omega
   rw [h, List.take_length] at q0 q1 ⊢
   repeat' (first | simp only [go_sem, seval, q0, q1] | simp (disch := first | assumption | omega) only [bP, bW] | (first | apply pX | apply bX) <;> intro hc | refine ⟨oD, ?_⟩ | exact oD | fail)
   have hP : (l ++ more).length = l.length + 1 + j := by rw [List.length_append]; omega
   have hPb : ∀ i, i ≤ (l ++ more).length → (H ++ partsB ((l ++ more).take i)).length ≤ 9 + i * 100008 := fun i hi => by
    rw [List.length_append, hHl]
    have h1 := partsB_len ((l ++ more).take i) (n := 100000) fun s hs => hb s (List.mem_of_mem_take hs)
    rw [List.length_take, Nat.min_eq_left hi] at h1
    omega
   clear hR ht hmr hml hH hpos
   rw [← hP]
   rw [← hP] at q0
   generalize hPP : l ++ more = P at *
   have hP3 : P.length ≤ 1000 := by rw [hP]; omega
   refine loop_run (α := Nat) (fun i => P.length - i) (fun i => ⟨[(9, .p 1001 0 0), (41, .rs 1028 j 0 P.length 1), (42, E' P.length), (43, E' i)], [(1001, bB FR 1001 1004 (8 + 9 * i) (H ++ partsB (P.take i))), (1004, bD (8 + 9 * i) (H ++ partsB (P.take i))), (1028, ⟨j, rowF PV.s P, true, some 9⟩)], 1036⟩) (fun i => i ≤ P.length) 0 (fun _ => Nat.le_of_ble_eq_true rfl) (Nat.zero_le _) ?_ ?_
   ·(refine AS.Le.of (by first | decide | omega) ?_ ?_ <;> simp [LeT, LeH, tget, hget, AV.bd, AV.bd.bdL, u8, bd_cellsOf, bcells_bd, icells_bd])
    have e0 : H ++ partsB [] = H := List.append_nil H
    rw [e0]
    exact ⟨rfl, bB_bd _ _ _ _ _ _ (by decide) (by decide), rfl, bD_bd _ _ _, fun c hc => bd_row hc⟩
   ·intro i hi R hR
    by_cases hit : i < P.length
    ·have e2 := rowF_get1 (f := PV.s) (fun _ => rfl) P ([] : Bytes) hit
     have hgo := hR (i + 1) (by omega) (by omega)
     have hbs := hb (P.getD i []) (mem_getD [] hit)
     have hPi := hPb i hi
     rw [take_succ_getD ([] : Bytes) hit, partsB_snoc, ← List.append_assoc, ← List.append_assoc] at hgo
     generalize P.getD i [] = y at e2 hgo hbs
     generalize hB : H ++ partsB (P.take i) = B at hgo hPi ⊢
     have w1 := fun nm => eightB 1001 1004 nm (8 + 9 * i) B y.length (by decide) (by omega) (by omega)
     have w2 := fun nm => wsB FR 1001 1004 nm (8 + 9 * i + 8) (B ++ be 8 y.length) y (by decide) (by rw [List.length_append, be_len]; omega)
     simp only [show 8 + 9 * (i + 1) = 8 + 9 * i + 8 + 1 by omega] at hgo
     clear hR hb hPb
     repeat' (first | simp only [go_sem, seval, q0, e2] | (refine CR_eff (w1 _) (by simp [hget]) ?_) | (refine CR_eff (w2 _) (by simp [hget]) ?_) | simp (disch := first | assumption | omega) only [bP, bW] | (first | apply pX | apply bX) <;> intro hc | refine ⟨oD, ?_⟩ | exact oD | fail)
     refine hgo _ ?_
     (refine AS.Le.of (by first | decide | omega) ?_ ?_ <;> simp [LeT, LeH, tget, hget, AV.bd, AV.bd.bdL, u8, bd_cellsOf, bcells_bd, icells_bd])
     all_goals exact ⟨bB_bd _ _ _ _ _ _ (by decide) (by decide), bD_bd _ _ _, fun c hc => bd_row hc⟩
    ·have h : i = P.length := by omega
     rw [h, List.take_length]
     have hl2 := hPb P.length (Nat.le_refl _)
     rw [List.take_length] at hl2
     have hne : H ++ partsB P ≠ [] := by intro h0; have := congrArg List.length h0; rw [List.length_append, hHl] at this; simp at this
     generalize H ++ partsB P = B at hl2 hne ⊢
     have w3 := fun nm => strB FR 1001 1004 nm (8 + 9 * P.length) B (by decide) (fun h0 => hne (List.length_eq_zero_iff.1 h0)) (by omega)
     have hsu := Sum_ok (s := B) (by omega)
     repeat' (first | simp only [go_sem, seval, q0] | (refine CR_eff (w3 _) (by simp [hget]) ?_) | refine cP hsu ?_ | simp (disch := first | assumption | omega) only [bP, bW] | (first | apply pX | apply bX) <;> intro hc | refine ⟨oD, ?_⟩ | exact oD | fail)
theorem framedI (k : Nat) {c : Int} (hc : c = IntKind.u8.wrap (k : Int)) (l : List Bytes) (n : Bool) (a : Bytes) (hn : l.length ≤ 999) (hb : ∀ s ∈ l ++ [intS (n, a)], s.length ≤ 100000) : EvP Tryz.prog 249 [.i .u8 c, .sl (l.map .s), .sl [.agg [.b n, .s a]], .fn (.func 250)] (.s (sumB (frameB k (l ++ [intS (n, a)])))) := by
 subst hc
 have ha : a.length < 1000000 := by
  have := hb (intS (n, a)) (by simp)
  simp only [intS, List.length_cons] at this; omega
 have w1 := fun nm => wbF FR lies1 1001 nm k
 have w2 := fun nm => eightB 1001 1004 nm 0 [UInt8.ofNat k] (l.length + 1) (by decide) (Nat.lt_of_le_of_lt (Nat.le_refl 1) (by decide)) (by omega)
 have ht := Ints1_ok n a ha
 have c1 : ∀ x ∈ l.map PV.s, x.cells.length = 1 := fun x hx => by obtain ⟨c, -, rfl⟩ := List.mem_map.1 hx; rfl
 refine eW Tryz.call249 Tryz.func249 ?_
 repeat' (first | simp only [go_sem, seval] | (refine CR_eff (w1 _) (by simp [hget, bF]) ?_) | (refine CR_eff (w2 _) (by simp [hget]) ?_) | simp (disch := first | assumption | omega) only [bP, bW] | (first | apply pX | apply bX) <;> intro hc | refine ⟨oD, ?_⟩ | exact oD | fail)
 refine loop_unroll' ?_
 repeat' (first | simp only [go_sem, seval] | refine cP ht ?_ | simp (disch := first | assumption | omega) only [bP, bW] | (first | apply pX | apply bX) <;> intro hc | refine ⟨oD, ?_⟩ | exact oD | fail)
 refine ⟨⟨by omega, c1⟩, ?_⟩
 repeat' (first | simp only [go_sem, seval] | refine cP ht ?_ | simp (disch := first | assumption | omega) only [bP, bW] | (first | apply pX | apply bX) <;> intro hc | refine ⟨oD, ?_⟩ | exact oD | fail)
 refine ⟨⟨c1, by omega, by omega⟩, rfl, ?_⟩
 refine loop_unroll' ?_
 repeat' (first | simp only [go_sem, seval] | simp (disch := first | assumption | omega) only [bP, bW] | (first | apply pX | apply bX) <;> intro hc | refine ⟨oD, ?_⟩ | exact oD | fail)
 have hro : List.map AV.v (List.flatMap PV.cells (List.map PV.s l)) ++ [AV.v (PV.s (intS (n, a)))] = rowF PV.s (l ++ [intS (n, a)]) := by
  rw [rowF, List.flatMap_append, List.map_append, List.flatMap_map]; rfl
 rw [hro]
 obtain ⟨H, hH⟩ : ∃ H, H = UInt8.ofNat k :: be 8 (l.length + 1) := ⟨_, rfl⟩
 rw [← hH]
 have hHl : H.length = 9 := by rw [hH, List.length_cons, be_len]
 have hfr : frameB k (l ++ [intS (n, a)]) = H ++ partsB (l ++ [intS (n, a)]) := by rw [hH, frameB, List.length_append]; rfl
 rw [hfr]
 have hP : (l ++ [intS (n, a)]).length = l.length + 1 := by rw [List.length_append]; rfl
 have q0 : (rowF PV.s (l ++ [intS (n, a)])).length = (l ++ [intS (n, a)]).length := by rw [rowF_len RowOK.s, Nat.mul_one]
 have hPb : ∀ i, i ≤ (l ++ [intS (n, a)]).length → (H ++ partsB ((l ++ [intS (n, a)]).take i)).length ≤ 9 + i * 100008 := fun i hi => by
  rw [List.length_append, hHl]
  have h1 := partsB_len ((l ++ [intS (n, a)]).take i) (n := 100000) fun s hs => hb s (List.mem_of_mem_take hs)
  rw [List.length_take, Nat.min_eq_left hi] at h1
  omega
 clear hro hfr w1 w2 c1 hH
 rw [← hP]
 generalize l ++ [intS (n, a)] = P at *
 have hP3 : P.length ≤ 1000 := by rw [hP]; omega
 clear ha ht hP
 refine loop_run (α := Nat) (fun i => P.length - i) (fun i => ⟨[(9, .p 1001 0 0), (41, .rs 1029 0 0 P.length 1), (42, E' P.length), (43, E' i)], [(1001, bB FR 1001 1004 (8 + 9 * i) (H ++ partsB (P.take i))), (1004, bD (8 + 9 * i) (H ++ partsB (P.take i))), (1029, ⟨0, rowF PV.s P, true, some 9⟩)], 1037⟩) (fun i => i ≤ P.length) 0 (fun _ => Nat.le_of_ble_eq_true rfl) (Nat.zero_le _) ?_ ?_
 ·(refine AS.Le.of (by first | decide | omega) ?_ ?_ <;> simp [LeT, LeH, tget, hget, AV.bd, AV.bd.bdL, u8, bd_cellsOf, bcells_bd, icells_bd])
  have e0 : H ++ partsB [] = H := List.append_nil H
  rw [e0]
  exact ⟨rfl, bB_bd _ _ _ _ _ _ (by decide) (by decide), rfl, bD_bd _ _ _, fun c hc => bd_row hc⟩
 ·intro i hi R hR
  by_cases hit : i < P.length
  ·have e2 := rowF_get1 (f := PV.s) (fun _ => rfl) P ([] : Bytes) hit
   have hgo := hR (i + 1) (by omega) (by omega)
   have hbs := hb (P.getD i []) (mem_getD [] hit)
   have hPi := hPb i hi
   rw [take_succ_getD ([] : Bytes) hit, partsB_snoc, ← List.append_assoc, ← List.append_assoc] at hgo
   generalize P.getD i [] = y at e2 hgo hbs
   generalize hB : H ++ partsB (P.take i) = B at hgo hPi ⊢
   have w1 := fun nm => eightB 1001 1004 nm (8 + 9 * i) B y.length (by decide) (by omega) (by omega)
   have w2 := fun nm => wsB FR 1001 1004 nm (8 + 9 * i + 8) (B ++ be 8 y.length) y (by decide) (by rw [List.length_append, be_len]; omega)
   simp only [show 8 + 9 * (i + 1) = 8 + 9 * i + 8 + 1 by omega] at hgo
   clear hR hb hPb
   repeat' (first | simp only [go_sem, seval, q0, e2] | (refine CR_eff (w1 _) (by simp [hget]) ?_) | (refine CR_eff (w2 _) (by simp [hget]) ?_) | simp (disch := first | assumption | omega) only [bP, bW] | (first | apply pX | apply bX) <;> intro hc | refine ⟨oD, ?_⟩ | exact oD | fail)
   refine hgo _ ?_
   (refine AS.Le.of (by first | decide | omega) ?_ ?_ <;> simp [LeT, LeH, tget, hget, AV.bd, AV.bd.bdL, u8, bd_cellsOf, bcells_bd, icells_bd])
   all_goals exact ⟨bB_bd _ _ _ _ _ _ (by decide) (by decide), bD_bd _ _ _, fun c hc => bd_row hc⟩
  ·have h : i = P.length := by omega
   rw [h, List.take_length]
   have hl2 := hPb P.length (Nat.le_refl _)
   rw [List.take_length] at hl2
   have hne : H ++ partsB P ≠ [] := by intro h0; have := congrArg List.length h0; rw [List.length_append, hHl] at this; simp at this
   generalize H ++ partsB P = B at hl2 hne ⊢
   have w3 := fun nm => strB FR 1001 1004 nm (8 + 9 * P.length) B (by decide) (fun h0 => hne (List.length_eq_zero_iff.1 h0)) (by omega)
   have hsu := Sum_ok (s := B) (by omega)
   repeat' (first | simp only [go_sem, seval, q0] | (refine CR_eff (w3 _) (by simp [hget]) ?_) | refine cP hsu ?_ | simp (disch := first | assumption | omega) only [bP, bW] | (first | apply pX | apply bX) <;> intro hc | refine ⟨oD, ?_⟩ | exact oD | fail)
end Go.Proofs.YthbognfeadopjaaGreatDoor
