/-
  Part of the proof, part 47. Own work.
-/
import Derived.Test.YthbognfeadopjaaGreatDoorM46
import Derived.Test.YthbognfeadopjaaGreatDoorRows
import Derived.Test.YthbognfeadopjaaGreatDoorCards
import Derived.Test.YthbognfeadopjaaGreatDoorTie
import Derived.ProofKit
import Derived.ChangeSame
import Derived.Lay
import Derived.LaidOnce
import Derived.SevenTiedAt
import Derived.Lib.LaidU8
set_option linter.all false
namespace Go.Proofs.YthbognfeadopjaaGreatDoor
open Go Go.Dom
set_option maxRecDepth 100000
set_option maxHeartbeats 16000000
theorem pCheck_ok (p : Par) (hs : p.short) : EvP Tryz.prog 24 [p.pv] (E (parE p)) := by
 by_cases h : p.nums.all validN = true
 ·exact parGood p h hs
 ·have h : p.nums.all validN = false := by simpa using h
  have e : parE p = 3 := by unfold parE; rw [h]; rfl
  rw [e]; exact parBad p h
theorem ruOK_of {p : Par} (hs : p.short) (h : parE p = 0) : RuOK p.c p.sl := by
 unfold parE at h
 split at h
 ·rename_i hv
  split at h
  ·exact absurd h (by decide)
  ·split at h
   ·exact absurd h (by decide)
   ·rename_i ht
    have hn : ∀ x ∈ p.nums, validN x = true := List.all_eq_true.1 hv
    have ht' : ∀ x ∈ p.tens, ¬ num x < 2 := fun x hx g => ht (List.any_eq_true.2 ⟨x, hx, by simpa using g⟩)
    have c1 : p.c ∈ p.nums := by simp [Par.nums]
    have c2 : p.sl ∈ p.nums := by simp [Par.nums]
    have d1 := ht' p.c (by simp [Par.tens])
    have d2 := ht' p.sl (by simp [Par.tens])
    exact ⟨hn _ c1, hn _ c2, hs _ c1, hs _ c2, by omega, by omega⟩
 ·exact absurd h (by decide)
structure KeyF (k : Key) : Prop where
 o : k.o = []
 gd : goodB k.m [] = true
 s : rHas k.m [] k.s = true
 t : ∀ x ∈ keyT k, rHas k.m [] x = true
 r : k.r.length ≤ 18
theorem keyF_of {pe : Int} {k : Key} (h : keyE pe k = 0) : pe = 0 ∧ KeyF k := by
 unfold keyE at h
 split at h
 ·rename_i g; exact absurd h g
 ·rename_i g0
  split at h
  ·exact absurd h (by decide)
  ·split at h
   ·exact absurd h (by decide)
   ·split at h
    ·exact absurd h (by decide)
    ·split at h
     ·exact absurd h (by decide)
     ·rename_i g1
      split at h
      ·exact absurd h (by decide)
      ·rename_i g2
       split at h
       ·exact absurd h (by decide)
       ·rename_i g3
        simp only [Bool.or_eq_true, Bool.not_eq_true', beq_eq_false_iff_ne, ne_eq, decide_eq_true_eq, not_or, Decidable.not_not] at g1
        have hb : ∀ y ∈ k.bases, kBad k.m y = false := fun y hy => by
         have := g3
         simp only [Bool.not_eq_true] at this
         exact List.any_eq_false.1 this y hy |> fun h => by simpa using h
        have hh : ∀ n b, bas n b ∈ k.bases → rHas k.m [] b = true := fun n b hm => by
         have := hb _ hm
         simp only [kBad, Bool.or_eq_false_iff, Bool.not_eq_false'] at this
         exact this.1
        refine ⟨Decidable.not_not.1 g0, g1.1, pwE0.1 g1.2, hh 2 _ (by simp [Key.bases]), fun x hx => ?_, by omega⟩
        simp only [keyT, List.mem_cons] at hx
        rcases hx with rfl | rfl | rfl | hx
        ·exact hh 0 _ (by simp [Key.bases])
        ·exact hh 1 _ (by simp [Key.bases])
        ·exact hh 1 _ (by simp [Key.bases])
        ·exact hh 0 x (by unfold Key.bases; simp only [List.mem_cons, List.mem_map]; exact .inr (.inr (.inr (.inr ⟨x, hx, rfl⟩))))
theorem keyQ_mem {k : Key} {q : Eqn} (h : q ∈ (keyS k).eqs) : ∃ i, i < (keyT k).length ∧ ∃ b ∈ keyT k, q = keyQ k i b := by
 simp only [keyS, List.mem_mapIdx] at h
 obtain ⟨i, hi, rfl⟩ := h
 exact ⟨i, hi, _, List.getElem_mem hi, rfl⟩
theorem rHas_len {m x : Bytes} (lm : m.length ≤ 8) (h : rHas m [] x = true) : x.length ≤ 8 := by
 simp only [rHas, Bool.and_eq_true, decide_eq_true_eq] at h
 have hx := h.1.1.1.2
 have hlt := h.1.2
 have hm := num8 lm
 have : x = bts (num x) := by have := N_of hx; injection this with e; exact e.symm
 rw [this]; exact bts_len.2 (by omega)
theorem key_facts {k : Key} (lm : k.m.length ≤ 8) (h : KeyF k) : StOK (keyS k) ∧ OneT (keyS k) ∧ BdS (keyS k) ∧ (keyS k).eqs ≠ [] ∧ ∀ ch rs, ∀ x ∈ fmsg (keyS k) ch rs, x.length ≤ 8 ∧ validN x = true := by
 have hT : (keyT k).length = k.r.length + 3 := rfl
 have hr := h.r
 have hg := h.gd
 simp only [goodB, Bool.and_eq_true, decide_eq_true_eq] at hg
 have vm : validN k.m = true := hg.1.1.1
 have m8 := hg.2
 have hmn := num8 lm
 have m0 : k.m ≠ [] := by intro e; rw [e] at m8; exact absurd m8 (by decide)
 have hgH : ∀ x, rHas k.m [] x = true → gHas k.m k.o x = true := fun x hx => by rw [h.o]; unfold gHas; rw [if_pos (by simp)]; exact hx
 have hgr : (keyS k).groups = [(k.m, k.o)] := rfl
 have hvl : (keyS k).vars.length = k.r.length + 3 := by simp [keyS, hT]
 have hel : (keyS k).eqs.length = k.r.length + 3 := by simp [keyS, hT]
 refine ⟨⟨?_, ?_, ?_, by rw [hgr]; simp, by rw [hvl]; omega, by rw [hel]; omega⟩, ?_, ⟨⟨k.m, k.o, rfl, by omega, by rw [h.o]; simp⟩, ?_, by rw [hvl]; omega, ?_, by rw [hel]; omega, ?_⟩, ?_, ?_⟩
 ·intro q hq
  rw [hgr] at hq
  obtain rfl := List.mem_singleton.1 hq
  refine ⟨?_, lm, by rw [h.o]; simp⟩
  rw [h.o, gE_nil]; exact pwE0.2 h.gd
 ·intro b hb
  obtain rfl := List.eq_of_mem_replicate hb
  exact ⟨vm, m0, by omega⟩
 ·intro q hq
  obtain ⟨i, hi, b, hb, rfl⟩ := keyQ_mem hq
  rw [hvl]
  refine ⟨Int.le_refl 0, by rw [hgr]; simp [keyQ], hgH _ (h.t b hb), by simp [keyQ], ?_⟩
  intro t ht
  obtain rfl := List.mem_singleton.1 ht
  refine ⟨by simp, by simp only; omega, hgH _ h.s, by simp [izok]; decide⟩
 ·intro q hq
  obtain ⟨i, hi, b, hb, rfl⟩ := keyQ_mem hq
  exact ⟨_, rfl, by simp⟩
 ·intro e
  have := congrArg List.length e
  rw [hvl] at this; simp at this
 ·intro b hb
  obtain rfl := List.eq_of_mem_replicate hb
  omega
 ·intro q hq
  obtain ⟨i, hi, b, hb, rfl⟩ := keyQ_mem hq
  have l1 := rHas_len lm (h.t b hb)
  have l2 := rHas_len lm h.s
  refine ⟨Int.le_refl 0, by simp [keyQ], by simp only [keyQ]; omega, _, rfl, by simp, by simp only; omega, by simp only; omega, by simp⟩
 ·intro e
  have := congrArg List.length e
  rw [hel] at this; simp at this
 ·intro ch rs x hx
  simp only [fmsg, List.mem_map] at hx
  obtain ⟨q, hq, rfl⟩ := hx
  obtain ⟨i, hi, b, hb, rfl⟩ := keyQ_mem hq
  have hlt : msgQ (keyS k).groups ch rs (keyQ k i b) < num k.m := by
   simp only [msgQ, keyQ, List.foldl_cons, List.foldl_nil, msgT]
   exact Nat.mod_lt _ (by show 0 < num k.m; omega)
  exact ⟨bts_len.2 (by omega), vN (by omega)⟩
noncomputable def verE (p : Par) (k : Key) (ch : Bytes) (rs : List (Bool × Bytes)) (gs : List Bytes) (ls : List (List (Bool × Bytes))) : Int :=
 if keyE (parE p) k ≠ 0 then keyE (parE p) k else vfyE p.c p.sl ([105, 115, 115, 117, 101, 114, 32, 107, 101, 121, 32] ++ k.name) (keyS k) ch rs gs ls
theorem Verify_ok {p : Par} {k : Key} (hp : p.short) (lm : k.m.length ≤ 8) (ln : k.name.length ≤ 60) (lr : k.r.length ≤ 20) {ch : Bytes} {rs : List (Bool × Bytes)} {gs : List Bytes} {ls : List (List (Bool × Bytes))} (h1 : rs.length < 1000000) (h2 : gs.length ≤ 1000) (h3 : ls.length ≤ 1000) (h4 : ∀ l ∈ ls, l.length < 4611686018427387904) :
  EvP Tryz.prog 7 [p.pv, k.pv, spv ch rs gs ls] (E (verE p k ch rs gs ls)) := by
 have hck := keyCheck_ok p k _ (pCheck_ok p hp) lm ln lr
 unfold verE
 by_cases h0 : keyE (parE p) k = 0
 ·rw [if_neg (by simpa using h0)]
  rw [h0] at hck
  obtain ⟨hpe, hkf⟩ := keyF_of h0
  obtain ⟨k1, k2, k3, k4, k5⟩ := key_facts lm hkf
  have hv := fVerify_ok (ruOK_of hp hpe) k1 k3 k4 (fun ch rs x hx => by have := (k5 ch rs x hx).1; omega) (ctx := [105, 115, 115, 117, 101, 114, 32, 107, 101, 121, 32] ++ k.name) (by simp; omega) (ch := ch) (rs := rs) (gs := gs) (ls := ls) h1 h2 h3 h4
  have hst := statement_ok k lr
  have hcx := context_ok k ln
  generalize vfyE p.c p.sl ([105, 115, 115, 117, 101, 114, 32, 107, 101, 121, 32] ++ k.name) (keyS k) ch rs gs ls = e at *
  generalize [105, 115, 115, 117, 101, 114, 32, 107, 101, 121, 32] ++ k.name = cx at *
  generalize keyS k = S at *
  clear k1 k2 k3 k4 k5 hkf h0 hpe h1 h2 h3 h4
  obtain ⟨sg, sv, se⟩ := S
  unfold Par.pv Key.pv Stm.pv at *
  unfold spv at *
  refine eW Tryz.call7 Tryz.func7 ?_
  repeat' (first | simp only [go_sem, seval] | refine cP hck ?_ | refine cP hst ?_ | refine cP hcx ?_ | refine cP hv ?_ | simp (disch := first | assumption | omega) only [bP, bW] | (first | apply pX | apply bX) <;> intro hc | refine ⟨oD, ?_⟩ | exact oD | fail)
  all_goals fail "x"
 ·rw [if_pos h0]
  have hb : (keyE (parE p) k == 0) = false := by simpa using h0
  generalize keyE (parE p) k = e at *
  unfold Par.pv Key.pv at *
  unfold spv
  refine eW Tryz.call7 Tryz.func7 ?_
  repeat' (first | simp only [go_sem, seval, hb] | refine cP hck ?_ | simp (disch := first | assumption | omega) only [bP, bW] | (first | apply pX | apply bX) <;> intro hc | refine ⟨oD, ?_⟩ | exact oD | fail)
theorem rVerify_ok {p : Par} {k : Key} (hp : p.short) (lm : k.m.length ≤ 8) (ln : k.name.length ≤ 60) (lr : k.r.length ≤ 20) {ch : Bytes} {rs : List (Bool × Bytes)} {gs : List Bytes} {ls : List (List (Bool × Bytes))} (h1 : rs.length < 1000000) (h24 : ∀ x ∈ rs, x.2.length ≤ 24) (h2 : gs.length ≤ 1000) (h3 : ls.length ≤ 1000) (h4 : ∀ l ∈ ls, l.length < 4611686018427387904) :
  EvP Tryz.prog 8 [p.pv, k.pv, spv ch rs gs ls] (E (verE p k ch rs gs ls)) := by
 have hck := rCheck29_ok p k _ (r11Check_ok p hp) lm ln lr
 unfold verE
 by_cases h0 : keyE (parE p) k = 0
 ·rw [if_neg (by simpa using h0)]
  rw [h0] at hck
  obtain ⟨hpe, hkf⟩ := keyF_of h0
  obtain ⟨k1, k2, k3, k4, k5⟩ := key_facts lm hkf
  have hv := rVerify22_ok (ruOK_of hp hpe) k1 k2 k3 k4 k5 (ctx := [105, 115, 115, 117, 101, 114, 32, 107, 101, 121, 32] ++ k.name) (by simp; omega) (ch := ch) (rs := rs) (gs := gs) (ls := ls) h1 h24 h2 h3 h4
  have hst := rStatement_ok k lr
  generalize vfyE p.c p.sl ([105, 115, 115, 117, 101, 114, 32, 107, 101, 121, 32] ++ k.name) (keyS k) ch rs gs ls = e at *
  have ln' : k.name.length ≤ 60 := ln
  generalize keyS k = S at *
  clear k1 k2 k3 k4 k5 hkf h0 hpe h1 h2 h3 h4 h24
  obtain ⟨sg, sv, se⟩ := S
  unfold Par.pv Key.pv Stm.pv at *
  unfold spv at *
  refine eW Tryz.call8 Tryz.func8 ?_
  repeat' (first | simp only [go_sem, seval] | refine cP hck ?_ | refine cP hst ?_ | refine cP hv ?_ | simp (disch := first | assumption | omega) only [bP, bW] | (first | apply pX | apply bX) <;> intro hc | refine ⟨oD, ?_⟩ | exact oD | fail)
 ·rw [if_pos h0]
  have hb : (keyE (parE p) k == 0) = false := by simpa using h0
  generalize keyE (parE p) k = e at *
  unfold Par.pv Key.pv at *
  unfold spv
  refine eW Tryz.call8 Tryz.func8 ?_
  repeat' (first | simp only [go_sem, seval, hb] | refine cP hck ?_ | simp (disch := first | assumption | omega) only [bP, bW] | (first | apply pX | apply bX) <;> intro hc | refine ⟨oD, ?_⟩ | exact oD | fail)
def fewI (rs : List (Bool × Bytes)) : Bool := (rs.take 20).all (fun x => decide (x.2.length ≤ 24)) && decide (rs.length ≤ 20)
theorem FewInts_ok (rs : List (Bool × Bytes)) (h : rs.length < 4611686018427387904) : EvP Tryz.prog 5 [.sl (rs.map ipv)] (.b (fewI rs)) := by
 have l1 : (rs.map ipv).length = rs.length := List.length_map ..
 unfold fewI
 refine eW Tryz.call5 Tryz.func5 ?_
 repeat' (first | simp only [go_sem, seval] | simp (disch := first | assumption | omega) only [bP, bW] | (first | apply pX | apply bX) <;> intro hc | refine ⟨oD, ?_⟩ | exact oD | fail)
 refine loop_run (α := Nat) (fun i => 21 - i) (fun i => ⟨[(0, .v (.sl (rs.map ipv))), (3, E' i)], [], _⟩) (fun i => i ≤ rs.length ∧ i ≤ 20 ∧ ((rs.take 20).drop i).all (fun x => decide (x.2.length ≤ 24)) = (rs.take 20).all fun x => decide (x.2.length ≤ 24)) 0 (fun _ => Nat.le_refl _) ⟨Nat.zero_le _, Nat.zero_le _, rfl⟩ ?_ ?_
 ·exact lE
 ·rintro i ⟨hi, h20, hf⟩ R hR
  rw [← hf]
  by_cases hlt : i < rs.length ∧ i < 20
  ·obtain ⟨hl, hl2⟩ := hlt
   have e1 := getD_map ipv rs d0I hl
   have ht : i < (rs.take 20).length := by rw [List.length_take]; omega
   have hgt : (rs.take 20).getD i d0I = rs.getD i d0I := by simp [List.getD_eq_getElem?_getD, List.getElem?_take, hl2]
   have hgo := hR (i + 1)
   rw [← hf] at hgo
   rw [drop_getD d0I ht, List.all_cons, hgt] at hgo ⊢
   obtain ⟨x, hx⟩ : ∃ x, x = rs.getD i d0I := ⟨_, rfl⟩
   rw [← hx] at e1 hgo ⊢
   clear hx hf hR hgt ht
   obtain ⟨n, a⟩ := x
   simp only [ipv] at e1
   by_cases ha : a.length ≤ 24
   ·have hgo := hgo ⟨by omega, by omega, by simp [ha]⟩ (by omega)
    repeat' (first | simp only [go_sem, seval, l1, e1] | simp (disch := first | assumption | omega) only [bP, bW] | (first | apply pX | apply bX) <;> intro hc | refine ⟨oD, ?_⟩ | exact oD | fail)
    refine hgo _ ?_
    exact lE
   ·have hd : decide (a.length ≤ 24) = false := by simpa using ha
    rw [hd, Bool.false_and, Bool.false_and]
    clear hgo
    repeat' (first | simp only [go_sem, seval, l1, e1] | simp (disch := first | assumption | omega) only [bP, bW] | (first | apply pX | apply bX) <;> intro hc | refine ⟨oD, ?_⟩ | exact oD | fail)
  ·have hd : (rs.take 20).drop i = [] := List.drop_of_length_le (by rw [List.length_take]; omega)
   rw [hd, List.all_nil, Bool.true_and]
   clear hR hf
   by_cases hl : i < rs.length
   ·have hi2 : i = 20 := by omega
    subst hi2
    have hx : decide (rs.length ≤ 20) = false := by simp; omega
    rw [hx]
    repeat' (first | simp only [go_sem, seval, l1] | simp (disch := first | assumption | omega) only [bP, bW] | (first | apply pX | apply bX) <;> intro hc | refine ⟨oD, ?_⟩ | exact oD | fail)
    all_goals (congr 1; simp only [decide_eq_false_iff_not]; omega)
   ·have hi2 : i = rs.length := by omega
    subst hi2
    have hx : decide (rs.length ≤ 20) = true := by simp; omega
    rw [hx]
    repeat' (first | simp only [go_sem, seval, l1] | simp (disch := first | assumption | omega) only [bP, bW] | (first | apply pX | apply bX) <;> intro hc | refine ⟨oD, ?_⟩ | exact oD | fail)
    all_goals (congr 1; simp only [decide_eq_true_eq]; omega)
theorem law_ok (p : Par) (k : Key) (ch : Bytes) (rs : List (Bool × Bytes)) (gs : List Bytes) (ls : List (List (Bool × Bytes))) (hr : k.r.length < 4611686018427387904) (h1 : rs.length < 4611686018427387904) (h2 : gs.length < 4611686018427387904) (h3 : ls.length < 4611686018427387904) (h4 : ∀ l ∈ ls, l.length < 4611686018427387904) : EvP Tryz.prog 3 [p.pv, k.pv, spv ch rs gs ls] (.b true) := by
 have hf := Few_ok p k hr
 have haw := awake_ok
 have hi := FewInts_ok rs h1
 have l1 : (rs.map ipv).length = rs.length := List.length_map ..
 have l3 : (gs.map PV.s).length = gs.length := List.length_map ..
 have l4 : (ls.map lpv).length = ls.length := List.length_map ..
 by_cases hg : fewB p k = true ∧ ch.length ≤ 16 ∧ (fewI rs = true ∨ rs.length ≤ 24) ∧ gs.length ≤ 4 ∧ ls.length ≤ 4
 case neg =>
  clear hr h1 h2 h3 h4
  generalize fewB p k = b1 at *
  generalize fewI rs = b2 at *
  unfold Par.pv Key.pv at *
  unfold spv
  cases b1
  ·refine eW Tryz.call3 Tryz.func3 ?_
   repeat' (first | simp only [go_sem, seval] | refine cP hf ?_ | refine cP haw ?_ | simp (disch := first | assumption | omega) only [bP, bW] | (first | apply pX | apply bX) <;> intro hc | refine ⟨oD, ?_⟩ | exact oD | fail)
  ·by_cases g1 : ch.length ≤ 16
   ·cases b2
    ·by_cases g2 : rs.length ≤ 24
     ·by_cases g3 : gs.length ≤ 4
      ·have g4 : ¬ ls.length ≤ 4 := fun g4 => hg ⟨rfl, g1, .inr g2, g3, g4⟩
       refine eW Tryz.call3 Tryz.func3 ?_
       repeat' (first | simp only [go_sem, seval, l1, l3, l4] | refine cP hf ?_ | refine cP haw ?_ | refine cP hi ?_ | simp (disch := first | assumption | omega) only [bP, bW] | (first | apply pX | apply bX) <;> intro hc | refine ⟨oD, ?_⟩ | exact oD | fail)
      ·refine eW Tryz.call3 Tryz.func3 ?_
       repeat' (first | simp only [go_sem, seval, l1, l3, l4] | refine cP hf ?_ | refine cP haw ?_ | refine cP hi ?_ | simp (disch := first | assumption | omega) only [bP, bW] | (first | apply pX | apply bX) <;> intro hc | refine ⟨oD, ?_⟩ | exact oD | fail)
     ·refine eW Tryz.call3 Tryz.func3 ?_
      repeat' (first | simp only [go_sem, seval, l1, l3, l4] | refine cP hf ?_ | refine cP haw ?_ | refine cP hi ?_ | simp (disch := first | assumption | omega) only [bP, bW] | (first | apply pX | apply bX) <;> intro hc | refine ⟨oD, ?_⟩ | exact oD | fail)
    ·by_cases g3 : gs.length ≤ 4
     ·have g4 : ¬ ls.length ≤ 4 := fun g4 => hg ⟨rfl, g1, .inl rfl, g3, g4⟩
      refine eW Tryz.call3 Tryz.func3 ?_
      repeat' (first | simp only [go_sem, seval, l1, l3, l4] | refine cP hf ?_ | refine cP haw ?_ | refine cP hi ?_ | simp (disch := first | assumption | omega) only [bP, bW] | (first | apply pX | apply bX) <;> intro hc | refine ⟨oD, ?_⟩ | exact oD | fail)
     ·refine eW Tryz.call3 Tryz.func3 ?_
      repeat' (first | simp only [go_sem, seval, l1, l3, l4] | refine cP hf ?_ | refine cP haw ?_ | refine cP hi ?_ | simp (disch := first | assumption | omega) only [bP, bW] | (first | apply pX | apply bX) <;> intro hc | refine ⟨oD, ?_⟩ | exact oD | fail)
   ·refine eW Tryz.call3 Tryz.func3 ?_
    repeat' (first | simp only [go_sem, seval, l1, l3, l4] | refine cP hf ?_ | refine cP haw ?_ | refine cP hi ?_ | simp (disch := first | assumption | omega) only [bP, bW] | (first | apply pX | apply bX) <;> intro hc | refine ⟨oD, ?_⟩ | exact oD | fail)
 obtain ⟨g1, g2, g3, g4, g5⟩ := hg
 have hrl : rs.length ≤ 24 := by
  rcases g3 with g | g
  ·unfold fewI at g; simp only [Bool.and_eq_true, decide_eq_true_eq] at g; omega
  ·exact g
 obtain ⟨sp, sn, sr, sm⟩ : shortB p = true ∧ k.name.length ≤ 60 ∧ k.r.length ≤ 20 ∧ k.m.length ≤ 8 := by
  simp only [fewB, Bool.and_eq_true, decide_eq_true_eq] at g1
  exact ⟨g1.1.1.1.1.1.1, by omega, by omega, by omega⟩
 have hps := short_of sp
 have hv := Verify_ok (p := p) (k := k) hps sm sn sr (ch := ch) (rs := rs) (gs := gs) (ls := ls) (by omega) (by omega) (by omega) h4
 have hrv := fun h24 => rVerify_ok (p := p) (k := k) hps sm sn sr (ch := ch) (rs := rs) (gs := gs) (ls := ls) (by omega) h24 (by omega) (by omega) h4
 rw [g1] at hf
 clear hr h4 hps sp
 generalize verE p k ch rs gs ls = e at *
 generalize fewI rs = b2 at *
 have hi2 : b2 = true ∨ rs.length ≤ 24 := g3
 unfold Par.pv Key.pv at *
 unfold spv at *
 refine eW Tryz.call3 Tryz.func3 ?_
 repeat' (first | simp only [go_sem, seval, l1, l3, l4] | refine cP hf ?_ | refine cP haw ?_ | refine cP hi ?_ | simp (disch := first | assumption | omega) only [bP, bW] | (first | apply pX | apply bX) <;> intro hc | refine ⟨oD, ?_⟩ | exact oD | fail)
 ·refine loop_run (α := Nat) (fun i => rs.length - i) (fun i => ⟨[(3, .p 1000 0 0), (4, .p 1001 0 0), (5, .p 1002 0 0), (7, E' i)], [(1000, ⟨0, [.v (.s p.c), .v (.s p.sl), .v (.s p.mm), .v (.s p.mo), .v (.s p.mg), .v (.s p.mh), .v (.s p.wm), .v (.s p.wo), .v (.s p.wg), .v (.s p.wh), .v (.s p.se), .v (.s p.at'), .v (.s p.ha), .v (.s p.el), .v (.s p.es), .v (.s p.bl), .v (.s p.ma)], false, none⟩), (1001, ⟨0, [.v (.s k.name), .v (.s k.m), .v (.s k.o), .v (.s k.z), .v (.s k.s), .v (.sl (k.r.map .s)), .v (.s k.u), .v (.s k.h)], false, none⟩), (1002, ⟨0, [.v (.s ch), .v (.sl (rs.map ipv)), .v (.sl (gs.map .s)), .v (.sl (ls.map lpv))], false, none⟩)], _⟩) (fun i => i ≤ rs.length ∧ ∀ x ∈ rs.take i, x.2.length ≤ 24) 0 (fun _ => Nat.le_refl _) ⟨Nat.zero_le _, by simp⟩ ?_ ?_
  ·exact lE
  ·rintro i ⟨hi', hall⟩ R hR
   by_cases hlt : i < rs.length
   ·have e1 := getD_map ipv rs d0I hlt
    have hgo := hR (i + 1)
    rw [take_succ_getD d0I hlt] at hgo
    obtain ⟨x, hx⟩ : ∃ x, x = rs.getD i d0I := ⟨_, rfl⟩
    rw [← hx] at e1 hgo
    clear hx hR hrv hv
    obtain ⟨n, a⟩ := x
    simp only [ipv] at e1
    by_cases ha : a.length ≤ 24
    ·have hgo := hgo ⟨by omega, fun x hx => by
      rcases List.mem_append.1 hx with h | h
      ·exact hall x h
      ·obtain rfl := List.mem_singleton.1 h; exact ha⟩ (by omega)
     repeat' (first | simp only [go_sem, seval, l1, e1] | refine cP haw ?_ | simp (disch := first | assumption | omega) only [bP, bW] | (first | apply pX | apply bX) <;> intro hc | refine ⟨oD, ?_⟩ | exact oD | fail)
     refine hgo _ ?_
     exact lE
    ·clear hgo
     repeat' (first | simp only [go_sem, seval, l1, e1] | refine cP haw ?_ | simp (disch := first | assumption | omega) only [bP, bW] | (first | apply pX | apply bX) <;> intro hc | refine ⟨oD, ?_⟩ | exact oD | fail)
   ·have hl : i = rs.length := by omega
    subst hl
    rw [List.take_length] at hall
    have hrv := hrv hall
    clear hR
    repeat' (first | simp only [go_sem, seval, l1] | refine cP hv ?_ | refine cP hrv ?_ | refine cP haw ?_ | simp (disch := first | assumption | omega) only [bP, bW] | (first | apply pX | apply bX) <;> intro hc | refine ⟨oD, ?_⟩ | exact oD | fail)
    all_goals simp
 ·refine loop_run (α := Nat) (fun i => rs.length - i) (fun i => ⟨[(3, .p 1000 0 0), (4, .p 1001 0 0), (5, .p 1002 0 0), (7, E' i)], [(1000, ⟨0, [.v (.s p.c), .v (.s p.sl), .v (.s p.mm), .v (.s p.mo), .v (.s p.mg), .v (.s p.mh), .v (.s p.wm), .v (.s p.wo), .v (.s p.wg), .v (.s p.wh), .v (.s p.se), .v (.s p.at'), .v (.s p.ha), .v (.s p.el), .v (.s p.es), .v (.s p.bl), .v (.s p.ma)], false, none⟩), (1001, ⟨0, [.v (.s k.name), .v (.s k.m), .v (.s k.o), .v (.s k.z), .v (.s k.s), .v (.sl (k.r.map .s)), .v (.s k.u), .v (.s k.h)], false, none⟩), (1002, ⟨0, [.v (.s ch), .v (.sl (rs.map ipv)), .v (.sl (gs.map .s)), .v (.sl (ls.map lpv))], false, none⟩)], _⟩) (fun i => i ≤ rs.length ∧ ∀ x ∈ rs.take i, x.2.length ≤ 24) 0 (fun _ => Nat.le_refl _) ⟨Nat.zero_le _, by simp⟩ ?_ ?_
  ·exact lE
  ·rintro i ⟨hi', hall⟩ R hR
   by_cases hlt : i < rs.length
   ·have e1 := getD_map ipv rs d0I hlt
    have hgo := hR (i + 1)
    rw [take_succ_getD d0I hlt] at hgo
    obtain ⟨x, hx⟩ : ∃ x, x = rs.getD i d0I := ⟨_, rfl⟩
    rw [← hx] at e1 hgo
    clear hx hR hrv hv
    obtain ⟨n, a⟩ := x
    simp only [ipv] at e1
    by_cases ha : a.length ≤ 24
    ·have hgo := hgo ⟨by omega, fun x hx => by
      rcases List.mem_append.1 hx with h | h
      ·exact hall x h
      ·obtain rfl := List.mem_singleton.1 h; exact ha⟩ (by omega)
     repeat' (first | simp only [go_sem, seval, l1, e1] | refine cP haw ?_ | simp (disch := first | assumption | omega) only [bP, bW] | (first | apply pX | apply bX) <;> intro hc | refine ⟨oD, ?_⟩ | exact oD | fail)
     refine hgo _ ?_
     exact lE
    ·clear hgo
     repeat' (first | simp only [go_sem, seval, l1, e1] | refine cP haw ?_ | simp (disch := first | assumption | omega) only [bP, bW] | (first | apply pX | apply bX) <;> intro hc | refine ⟨oD, ?_⟩ | exact oD | fail)
   ·have hl : i = rs.length := by omega
    subst hl
    rw [List.take_length] at hall
    have hrv := hrv hall
    clear hR
    repeat' (first | simp only [go_sem, seval, l1] | refine cP hv ?_ | refine cP hrv ?_ | refine cP haw ?_ | simp (disch := first | assumption | omega) only [bP, bW] | (first | apply pX | apply bX) <;> intro hc | refine ⟨oD, ?_⟩ | exact oD | fail)
    all_goals simp
end Go.Proofs.YthbognfeadopjaaGreatDoor
namespace Go.Proofs.YthbognfeadopjaaGreatDoor
open Go Go.Dom Go.ChangeShapes Go.WideShapes Go.ChangeAt Go.RowKit
set_option maxRecDepth 100000
theorem ownK : ownKnob Tryz.prog.godebug = none := by kernel_rfl
theorem laidK : laidOutB Tryz.prog = true := by kernel_rfl
theorem uBool : Tryz.prog.underlying 4 = some .bool := by kernel_rfl
theorem uS : Tryz.prog.underlying 9 = some .string := by kernel_rfl
theorem uN : Tryz.prog.underlying 22 = some .string := by kernel_rfl
theorem uLN : Tryz.prog.underlying 31 = some (.slice 22) := by kernel_rfl
theorem cS : Tryz.prog.cellsOf 9 = 1 := by kernel_rfl
theorem cN : Tryz.prog.cellsOf 22 = 1 := by kernel_rfl
theorem cLN : Tryz.prog.cellsOf 31 = 1 := by kernel_rfl
theorem cRu : Tryz.prog.cellsOf 24 = 2 := by kernel_rfl
theorem cGr : Tryz.prog.cellsOf 26 = 2 := by kernel_rfl
theorem cPe : Tryz.prog.cellsOf 28 = 4 := by kernel_rfl
theorem isN : isStruct Tryz.prog 22 = false := by kernel_rfl
theorem bN : Tryz.prog.bytesOf 22 = 16 := by kernel_rfl
theorem okPa : okT Tryz.prog 9 30 = true := by kernel_rfl
theorem okKe : okT Tryz.prog 9 33 = true := by kernel_rfl
theorem okSi : okT Tryz.prog 9 37 = true := by kernel_rfl
theorem uB : Tryz.prog.underlying 4 = some .bool := by kernel_rfl
theorem uLI : Tryz.prog.underlying 34 = some (.slice 42) := by kernel_rfl
theorem uLLI : Tryz.prog.underlying 35 = some (.slice 34) := by kernel_rfl
theorem cB : Tryz.prog.cellsOf 4 = 1 := by kernel_rfl
theorem cLI : Tryz.prog.cellsOf 34 = 1 := by kernel_rfl
theorem cLLI : Tryz.prog.cellsOf 35 = 1 := by kernel_rfl
theorem isI : isStruct Tryz.prog 42 = true := by kernel_rfl
theorem isLI : isStruct Tryz.prog 34 = false := by kernel_rfl
theorem bI : Tryz.prog.bytesOf 42 = 24 := by kernel_rfl
theorem bLI : Tryz.prog.bytesOf 34 = 24 := by kernel_rfl
theorem tk {ps : List PV} {x : PV} (h : List.take 1 ps = [x]) : ps = x :: List.drop 1 ps := by cases ps <;> simp_all
theorem tk2 {ps : List PV} {x y : PV} (h : List.take 2 ps = [x, y]) : ps = x :: y :: List.drop 2 ps := by
 rcases ps with _ | ⟨a, _ | ⟨b, r⟩⟩ <;> simp_all
theorem tk4 {ps : List PV} {x y z u : PV} (h : List.take 4 ps = [x, y, z, u]) : ps = x :: y :: z :: u :: List.drop 4 ps := by
 rcases ps with _ | ⟨a, _ | ⟨b, _ | ⟨c, _ | ⟨d, r⟩⟩⟩⟩ <;> simp_all
theorem listOf {α : Type} {f : α → PV} : ∀ {l : List PV}, (∀ x ∈ l, ∃ a, x = f a) → ∃ al : List α, l = al.map f := by
 intro l
 induction l with
 | nil => intro _; exact ⟨[], rfl⟩
 | cons x l ih =>
  intro h
  obtain ⟨a, rfl⟩ := h x (by simp)
  obtain ⟨al, rfl⟩ := ih fun y hy => h y (by simp [hy])
  exact ⟨a :: al, rfl⟩
theorem one_cells {x y : PV} (h : x.cells = [y]) (h1 : x.one = true) : x = y := by
 cases x <;> first | (simpa [PV.cells] using h) | (simp [PV.one] at h1)
theorem typN {k : Nat} {ps : List PV} (h : Typ Tryz.prog (k + 1) 22 ps) : ∃ b : Bytes, ps = [.s b] := by
 simp only [Typ, uN] at h
 obtain ⟨x, rfl, -⟩ := h; exact ⟨x, rfl⟩
theorem typSt {k : Nat} {ps : List PV} (h : Typ Tryz.prog (k + 1) 9 ps) : ∃ b : Bytes, ps = [.s b] := by
 simp only [Typ, uS] at h
 obtain ⟨x, rfl, -⟩ := h; exact ⟨x, rfl⟩
theorem typLN {k : Nat} {ps : List PV} (h : Typ Tryz.prog (k + 2) 31 ps) : ∃ bs : List Bytes, ps = [.sl (bs.map PV.s)] ∧ bs.length * 16 ≤ reachBytes := by
 simp only [Typ, uLN, uN, isN, bN] at h
 obtain ⟨l, rfl, hb, hl⟩ := h
 obtain ⟨bs, rfl⟩ := listOf (f := PV.s) (l := l) fun x hx => by
  obtain ⟨⟨s, h1, -⟩, h2⟩ := hl x hx
  exact ⟨s, one_cells h1 (by simpa using h2)⟩
 exact ⟨bs, rfl, by simpa using hb⟩
theorem typGr {k : Nat} {ps : List PV} (h : Typ Tryz.prog (k + 2) 26 ps) : ∃ a b : Bytes, ps = [.s a, .s b] := by
 rw [Typ, Tryz.underlying26] at h
 simp only [TypS, cN] at h
 obtain ⟨h1, h2, h3⟩ := h
 obtain ⟨a, h1⟩ := typN h1
 obtain ⟨b, h2⟩ := typN h2
 exact ⟨a, b, by rw [tk h1, tk h2, h3]⟩
theorem typRu {k : Nat} {ps : List PV} (h : Typ Tryz.prog (k + 2) 24 ps) : ∃ a b : Bytes, ps = [.s a, .s b] := by
 rw [Typ, Tryz.underlying24] at h
 simp only [TypS, cN] at h
 obtain ⟨h1, h2, h3⟩ := h
 obtain ⟨a, h1⟩ := typN h1
 obtain ⟨b, h2⟩ := typN h2
 exact ⟨a, b, by rw [tk h1, tk h2, h3]⟩
theorem typPe {k : Nat} {ps : List PV} (h : Typ Tryz.prog (k + 3) 28 ps) : ∃ a b c d : Bytes, ps = [.s a, .s b, .s c, .s d] := by
 rw [Typ, Tryz.underlying28] at h
 simp only [TypS, cN, cGr] at h
 obtain ⟨h1, h2, h3, h4⟩ := h
 obtain ⟨a, b, h1⟩ := typGr h1
 obtain ⟨c, h2⟩ := typN h2
 obtain ⟨d, h3⟩ := typN h3
 exact ⟨a, b, c, d, by rw [tk2 h1, tk h2, tk h3, h4]⟩
theorem typInt {k : Nat} {ps : List PV} (h : Typ Tryz.prog (k + 2) 42 ps) : ∃ (n : Bool) (a : Bytes), ps = [.b n, .s a] := by
 rw [Typ, Tryz.underlying42] at h
 simp only [TypS, cB, cN] at h
 obtain ⟨h1, h2, h3⟩ := h
 simp only [Typ, uB] at h1
 obtain ⟨n, h1⟩ := h1
 obtain ⟨a, h2⟩ := typN h2
 exact ⟨n, a, by rw [tk h1, tk h2, h3]⟩
theorem typLI {k : Nat} {ps : List PV} (h : Typ Tryz.prog (k + 3) 34 ps) : ∃ l : List (Bool × Bytes), ps = [.sl (l.map ipv)] ∧ l.length * 24 ≤ reachBytes := by
 rw [Typ, uLI] at h
 simp only [isI, bI, if_true] at h
 obtain ⟨l, rfl, hb, hl⟩ := h
 obtain ⟨is, rfl⟩ := listOf (f := ipv) (l := l) fun x hx => by
  obtain ⟨h1, m, rfl⟩ := hl x hx
  obtain ⟨n, a, h1⟩ := typInt h1
  have h1 : m = [.b n, .s a] := h1
  exact ⟨(n, a), by rw [h1]; rfl⟩
 exact ⟨is, rfl, by simpa using hb⟩
theorem typLLI {k : Nat} {ps : List PV} (h : Typ Tryz.prog (k + 4) 35 ps) : ∃ l : List (List (Bool × Bytes)), ps = [.sl (l.map lpv)] ∧ l.length * 24 ≤ reachBytes ∧ ∀ x ∈ l, x.length * 24 ≤ reachBytes := by
 rw [Typ, uLLI] at h
 simp only [isLI, bLI, Bool.false_eq_true, if_false] at h
 obtain ⟨l, rfl, hb, hl⟩ := h
 obtain ⟨is, hi⟩ := listOf (f := fun y : { y : List (Bool × Bytes) // y.length * 24 ≤ reachBytes } => lpv y.1) (l := l) fun x hx => by
  obtain ⟨h1, h2⟩ := hl x hx
  obtain ⟨y, h1, hy⟩ := typLI h1
  exact ⟨⟨y, hy⟩, one_cells h1 h2⟩
 subst hi
 refine ⟨is.map (·.1), by rw [List.map_map]; rfl, by simpa using hb, fun x hx => ?_⟩
 obtain ⟨y, -, rfl⟩ := List.mem_map.1 hx
 exact y.2
theorem typSi {ps : List PV} (h : Typ Tryz.prog 9 37 ps) : ∃ (ch : Bytes) (rs : List (Bool × Bytes)) (gs : List Bytes) (ls : List (List (Bool × Bytes))), .agg ps = spv ch rs gs ls ∧ rs.length * 24 ≤ reachBytes ∧ gs.length * 16 ≤ reachBytes ∧ ls.length * 24 ≤ reachBytes ∧ ∀ x ∈ ls, x.length * 24 ≤ reachBytes := by
 rw [Typ, Tryz.underlying37] at h
 simp only [TypS, cN, cLI, cLN, cLLI] at h
 obtain ⟨h1, h2, h3, h4, h5⟩ := h
 obtain ⟨ch, h1⟩ := typN h1
 obtain ⟨rs, h2, b2⟩ := typLI h2
 obtain ⟨gs, h3, b3⟩ := typLN h3
 obtain ⟨ls, h4, b4, b5⟩ := typLLI h4
 exact ⟨ch, rs, gs, ls, by rw [tk h1, tk h2, tk h3, tk h4, h5]; rfl, b2, b3, b4, b5⟩
theorem typPa {ps : List PV} (h : Typ Tryz.prog 9 30 ps) : ∃ p : Par, .agg ps = p.pv := by
 rw [Typ, Tryz.underlying30] at h
 simp only [TypS, cN, cRu, cPe] at h
 obtain ⟨h1, h2, h3, h4, h5, h6, h7, h8, h9, h10, h11⟩ := h
 obtain ⟨a1, a2, h1⟩ := typRu h1
 obtain ⟨b1, b2, b3, b4, h2⟩ := typPe h2
 obtain ⟨c1, c2, c3, c4, h3⟩ := typPe h3
 obtain ⟨d4, h4⟩ := typN h4
 obtain ⟨d5, h5⟩ := typN h5
 obtain ⟨d6, h6⟩ := typN h6
 obtain ⟨d7, h7⟩ := typN h7
 obtain ⟨d8, h8⟩ := typN h8
 obtain ⟨d9, h9⟩ := typN h9
 obtain ⟨d10, h10⟩ := typN h10
 refine ⟨⟨a1, a2, b1, b2, b3, b4, c1, c2, c3, c4, d4, d5, d6, d7, d8, d9, d10⟩, ?_⟩
 rw [tk2 h1, tk4 h2, tk4 h3, tk h4, tk h5, tk h6, tk h7, tk h8, tk h9, tk h10, h11]; rfl
theorem typKe {ps : List PV} (h : Typ Tryz.prog 9 33 ps) : ∃ k : Key, .agg ps = k.pv ∧ k.r.length * 16 ≤ reachBytes := by
 rw [Typ, Tryz.underlying33] at h
 simp only [TypS, cN, cS, cGr, cLN] at h
 obtain ⟨h1, h2, h3, h4, h5, h6, h7, h8⟩ := h
 obtain ⟨a, h1⟩ := typSt h1
 obtain ⟨m, o, h2⟩ := typGr h2
 obtain ⟨z, h3⟩ := typN h3
 obtain ⟨s, h4⟩ := typN h4
 obtain ⟨r, h5, hb⟩ := typLN h5
 obtain ⟨u, h6⟩ := typN h6
 obtain ⟨v, h7⟩ := typN h7
 refine ⟨⟨a, m, o, z, s, r, u, v⟩, ?_, hb⟩
 rw [tk h1, tk2 h2, tk h3, tk h4, tk h5, tk h6, tk h7, h8]; rfl
section
variable {H : Type} {enc : TypeId × Value → H} {P : Program}
theorem postBelow {f : Func} {s : ChangeSpec} {apart fresh handsOn again : Bool} {W W' : World} {args : Array Value} {v : Value} {ds gs : List (DataW H)} {before pa pv : List MemPlace}
  (hW : DataW.Whole enc P f.params.toList s.vars apart W args.toList ds gs before)
  (hres : ∀ (b : Nat) (sp : Nat → Bool) (hd : Bool), DataW.TrodAll enc P W' b sp hd f.resultTypes.toList (v.resultList f.resultTypes.size) (s.fn H (ds ++ gs)).results [])
  (hargs : ∀ sp : Nat → Bool, (∀ p ∈ before, sp p.block = true) → DataW.TrodAll enc P W' 0 sp true f.params.toList args.toList (s.fn H (ds ++ gs)).args pa)
  (hvars : ∀ sp : Nat → Bool, (∀ p ∈ before, sp p.block = true) → DataW.TrodVars enc P W' sp s.vars (s.fn H (ds ++ gs)).vars pv)
  (hps : before = pa ++ pv) (hb : Below W.heap.size W W')
  (hok : ∀ (j : Nat) (t : TypeId) (r : Value), f.resultTypes[j]? = some t → (v.resultList f.resultTypes.size)[j]? = some r → Value.okWide P W' .any 0 t r) :
  s.post enc P f apart fresh handsOn again W args v W' := by
 have hlt : ∀ p ∈ before, p.block < W.heap.size := fun p hp => hW.lt p hp
 have hold : ∀ p ∈ before, (fun b => decide (b < W.heap.size)) p.block = true := fun p hp => by simpa using hlt p hp
 refine ⟨ds, gs, before, [], pa, pv, hW, hres _ _ _, hargs _ hold, hvars _ hold, World.keptBut_mono (fun p hp => ⟨hp, ?_⟩) (hb.frame (·∈ before)), fun _ => ?_⟩
 ·rw [hps, List.mem_append] at hp
  exact Or.inr hp
 ·obtain ⟨_, _, _, _, _, hz, hn⟩ := hW
  refine ⟨hok, _, _, ([] ++ pa) ++ pv, ⟨[] ++ pa, pv, trodAll_append (hargs _ (fun _ _ => rfl)) (hres _ _ _), hvars _ (fun _ _ => rfl), rfl, ?_, ?_⟩, ?_⟩
  ·intro b off hp
   have hin : MemPlace.cell b off ∈ before := by rw [hps]; simpa using hp
   rw [hb.frozen (hlt _ hin)]
   exact hz b off hin
  ·intro ha
   have := hn ha
   rw [hps] at this
   simpa using this
  ·intro p hp _
   rw [hps]
   simpa using hp
end
def laidL : List (String × DataW Unit) := [("math/bits.deBruijn32tab", Rows.laid_math_bits_deBruijn32tab), ("math/bits.deBruijn64tab", Rows.laid_math_bits_deBruijn64tab), ("internal/strconv.uint64pow10", Rows.laid_internal_strconv_uint64pow10)]
theorem tab_cells {W : World} {n : String} {g : Nat} {t e : TypeId} {k : IntKind} {m : Nat} {zs : List Int} (h : Lib.VarReads Tryz.prog W n (Lib.tabData k zs)) (hg : Tryz.prog.globalNamed n = some g) (ht : (Tryz.prog.globals[g]?).map (·.type) = some t) (hu : Tryz.prog.underlying t = some (.array m e)) (he : Tryz.prog.underlying e = some (.int k)) (hce : Tryz.prog.cellsOf e = 1) (hct : Tryz.prog.cellsOf t = m) (i : Nat) :
  W.cell? ⟨g, i, none⟩ = (zs[i]?).map fun z => Value.int k z := by
 obtain ⟨g', t', cs, fuel, p, h1, h2, h3, h4⟩ := h
 obtain rfl := Option.some.inj (hg.symm.trans h1)
 obtain rfl := Option.some.inj (ht.symm.trans h2)
 have h5 := Lib.cells_of_tab hu he hce hct h4
 rw [World.var?_cell h1 h3 i, ← Array.getElem?_toList, h5, List.getElem?_map]
theorem tabs_read {W : World} (h : laidMet Tryz.prog laidL W) : ∀ b o v, TR Tryz.prog b o = some v → W.cell? ⟨b, o, none⟩ = some v := by
 have h1 := fun i => tab_cells (Lib.laidMet.reads h (n := "math/bits.deBruijn32tab") (d := Lib.tabData .u8 tab_deBruijn32tab) (by simp [laidL]; rfl)) (g := 5) (t := 395) (e := 5) (m := 32) (by kernel_rfl) (by kernel_rfl) (by kernel_rfl) (by kernel_rfl) (by kernel_rfl) (by kernel_rfl) i
 have h2 := fun i => tab_cells (Lib.laidMet.reads h (n := "math/bits.deBruijn64tab") (d := Lib.tabData .u8 tab_deBruijn64tab) (by simp [laidL]; rfl)) (g := 0) (t := 358) (e := 5) (m := 64) (by kernel_rfl) (by kernel_rfl) (by kernel_rfl) (by kernel_rfl) (by kernel_rfl) (by kernel_rfl) i
 have h3 := fun i => tab_cells (Lib.laidMet.reads h (n := "internal/strconv.uint64pow10") (d := Lib.tabData .u64 tab_uint64pow10) (by simp [laidL]; rfl)) (g := 4) (t := 381) (e := 95) (m := 20) (by kernel_rfl) (by kernel_rfl) (by kernel_rfl) (by kernel_rfl) (by kernel_rfl) (by kernel_rfl) i
 intro b o v hv
 have key : ∀ (k : IntKind) (zs : List Int), ((zs.map fun n => (k, n))[o]?).map (fun p : IntKind × Int => Value.int p.1 p.2) = (zs[o]?).map fun z => Value.int k z := by
  intro k zs; rw [List.getElem?_map, Option.map_map]; rfl
 unfold TR at hv
 simp only [Tabs.tab, List.lookup] at hv
 by_cases e1 : b = 5
 ·subst e1
  rw [h1 o, ← key]
  simpa using hv
 ·by_cases e2 : b = 0
  ·subst e2
   rw [h2 o, ← key]
   simpa using hv
  ·by_cases e3 : b = 4
   ·subst e3
    rw [h3 o, ← key]
    simpa using hv
   ·simp only [show (b == 5) = false from beq_eq_false_iff_ne.2 e1, show (b == 0) = false from beq_eq_false_iff_ne.2 e2, show (b == 4) = false from beq_eq_false_iff_ne.2 e3] at hv
    cases hv
end Go.Proofs.YthbognfeadopjaaGreatDoor
namespace Go.Proofs.YthbognfeadopjaaGreatDoor
open Go Go.Dom Go.ChangeShapes Go.WideShapes Go.ChangeAt Go.RowKit
set_option maxRecDepth 100000
theorem verifies_lifted (os : Os) (started : os.Started) (H : Type) (enc : TypeId × Value → H) :
  ReturnsInHanded {} Tryz.checked os 3 .any (fun w args => (Rows.issuerkeyVerifiesSpec.pre enc Tryz.prog Tryz.f3 [] false w args ∧ laidMetH Tryz.prog laidL w) ∧ sizedMet enc Tryz.prog Tryz.f3 (OpenSpec.ofChange Rows.issuerkeyVerifiesSpec) false w args)
   (Rows.issuerkeyVerifiesSpec.post enc Tryz.prog Tryz.f3 false true false false) := by
 refine returnsInHanded_of_change_and (C := Tryz.checked) (X := fun w _ => laidMetH Tryz.prog laidL w) (fun _ _ _ hh h => h.of_heap hh) ownK started (by kernel_rfl) Tryz.func3
  (ChangeSpec.witness_shaped (enc := enc) (C := Tryz.checked) (os := os) (X := fun w _ => laidMetH Tryz.prog laidL w) false (World.laidAll Tryz.prog os laidL) #[.agg (Array.replicate 17 (.string ⟨#[]⟩)), .agg #[.string ⟨#[]⟩, .string ⟨#[]⟩, .string ⟨#[]⟩, .string ⟨#[]⟩, .string ⟨#[]⟩, .slice none 0 0, .string ⟨#[]⟩, .string ⟨#[]⟩], .agg #[.string ⟨#[]⟩, .slice none 0 0, .slice none 0 0, .slice none 0 0]] 8 (World.laidAll_os _ _ _)
   (World.shaped_of_ZipB (by kernel_rfl) (by kernel_rfl)) (by kernel_rfl) (by kernel_rfl) (by kernel_rfl)
   (by rw [MakeChecks.laidMetH_plain _ _ _ (by kernel_rfl)]; exact laidMet_laidAll _ (by kernel_rfl) (by kernel_rfl))) ?_
 intro W base args ds gs before hval0 hW hcnd hwt hL _
 rw [MakeChecks.laidMetH_plain _ _ _ (by kernel_rfl)] at hL
 have hval : ∀ (j : Nat) t v, Tryz.f3.params[j]? = some t → args[j]? = some v → Value.okWide Tryz.prog W .any base t v := hval0
 have hW' := hW
 obtain ⟨p, q, hA0, hV, rfl, hfz, hnd⟩ := hW
 have hA : DataW.TrodAll enc Tryz.prog W 0 (fun _ => true) true Tryz.f3.params.toList args.toList ds p := hA0
 have hlt : ∀ x ∈ p ++ q, x.block < W.heap.size := fun x hx => hW'.lt x hx
 rw [Tryz.params3] at hA hval
 obtain ⟨v0, v1, v2, d0, d1, d2, p0, p1, p2, rfl, rfl, rfl, h0, h1, h2⟩ := trodAll_three hA
 obtain ⟨rfl, rfl⟩ := trodVars_none hV
 have hv0 := hval 0 30 v0 rfl rfl
 have hv1 := hval 1 33 v1 rfl rfl
 have hv2 := hval 2 37 v2 rfl rfl
 unfold Value.okWide at hv0 hv1 hv2
 rw [Tryz.underlying30] at hv0
 rw [Tryz.underlying33] at hv1
 rw [Tryz.underlying37] at hv2
 simp only at hv0 hv1 hv2
 obtain ⟨c0, rfl, s0, -⟩ := hv0
 obtain ⟨c1, rfl, s1, -⟩ := hv1
 obtain ⟨c2, rfl, s2, -⟩ := hv2
 have hall := List.all_eq_true.1 hwt
 have w0 : ∀ m ∈ d0.weights Tryz.prog 30, m ≤ reachBytes := fun m hm => of_decide_eq_true (hall m (DataW.weights_mem_each (j := 0) rfl rfl m hm))
 have w1 : ∀ m ∈ d1.weights Tryz.prog 33, m ≤ reachBytes := fun m hm => of_decide_eq_true (hall m (DataW.weights_mem_each (j := 1) rfl rfl m hm))
 have w2 : ∀ m ∈ d2.weights Tryz.prog 37, m ≤ reachBytes := fun m hm => of_decide_eq_true (hall m (DataW.weights_mem_each (j := 2) rfl rfl m hm))
 obtain ⟨n0, t0⟩ := id h0
 obtain ⟨n1, t1⟩ := id h1
 obtain ⟨n2, t2⟩ := id h2
 obtain ⟨pv0, r0, o0, y0⟩ := trod_pv 9 n0 _ c0.toList d0 p0 okPa t0 w0
 obtain ⟨pv1, r1, o1, y1⟩ := trod_pv 9 n1 _ c1.toList d1 p1 okKe t1 w1
 obtain ⟨pv2, r2, o2, y2⟩ := trod_pv 9 n2 _ c2.toList d2 p2 okSi t2 w2
 obtain ⟨pa, ea⟩ := typPa y0
 obtain ⟨ke, ek, hk⟩ := typKe y1
 obtain ⟨ch, rs, gs, ls, et, hb1, hb2, hb3, hb4⟩ := typSi y2
 have rb := reachBytes_lt
 obtain ⟨g, hg, hc⟩ := law_ok pa ke ch rs gs ls (by omega) (by omega) (by omega) (by omega) (fun l hl => by have := hb4 l hl; omega)
 have hg3 : g = 3 := by
  have a1 := hg #[] W
  have a2 := Tryz.call3 #[] W
  rw [a1] at a2
  injection a2 with a2 _
  injection a2
 subst hg3
 have q0 : PR (rdW W) pa.pv (.agg c0) := by
  rw [← ea]
  have := PR.agg (rd := rdW W) pv0 c0.toList o0 r0.1 r0.2
  simpa using this
 have q1 : PR (rdW W) ke.pv (.agg c1) := by
  rw [← ek]
  have := PR.agg (rd := rdW W) pv1 c1.toList o1 r1.1 r1.2
  simpa using this
 have q2 : PR (rdW W) (spv ch rs gs ls) (.agg c2) := by
  rw [← et]
  have := PR.agg (rd := rdW W) pv2 c2.toList o2 r2.1 r2.2
  simpa using this
 refine (hc W (rdW W) [.agg c0, .agg c1, .agg c2] (tabs_read hL) (fun _ _ _ h => h) (.cons q0 (.cons q1 (.cons q2 .nil)))).mono ?_
 rintro e W' ⟨v, rfl, hb, hpr⟩
 cases hpr
 refine ⟨_, rfl, postBelow (pa := p0 ++ (p1 ++ p2)) (pv := []) hW' (fun _ _ _ => trodAll_mk1 (shut_bool uBool true)) (fun sp hsp => trodAll_mk3 (WideElems.Trod_stays laidK (by kernel_rfl) (of_decide_eq_true (by kernel_rfl)) h0 (fun x hx => hb.same (hlt x (by simp [hx]))) (fun x hx => hsp x (by simp [hx]))) (WideElems.Trod_stays laidK (by kernel_rfl) (of_decide_eq_true (by kernel_rfl)) h1 (fun x hx => hb.same (hlt x (by simp [hx]))) (fun x hx => hsp x (by simp [hx]))) (WideElems.Trod_stays laidK (by kernel_rfl) (of_decide_eq_true (by kernel_rfl)) h2 (fun x hx => hb.same (hlt x (by simp [hx]))) (fun x hx => hsp x (by simp [hx])))) (fun _ _ => rfl) (by simp) hb (ok_one (by kernel_rfl) rfl (okWide_bool_mk uBool true))⟩
end Go.Proofs.YthbognfeadopjaaGreatDoor
