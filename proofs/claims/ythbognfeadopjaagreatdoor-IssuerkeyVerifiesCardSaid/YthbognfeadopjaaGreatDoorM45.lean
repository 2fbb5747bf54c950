/-
  Part of the proof, part 45. Own work.
-/
import Derived.Test.YthbognfeadopjaaGreatDoorM44
set_option linter.all false
namespace Go.Proofs.YthbognfeadopjaaGreatDoor
open Go Go.Dom
set_option maxRecDepth 100000
set_option maxHeartbeats 16000000
theorem rInts22_ok (l : List (Bool × Bytes)) (hl : l.length < 4611686018427387904) : EvP Tryz.prog 115 [.sl (l.map ipv)] (.b (l.all izok)) := by
 have l5 : (l.map ipv).length = l.length := List.length_map ..
 refine eW Tryz.call115 Tryz.func115 ?_
 repeat' (first | simp only [go_sem, seval] | simp (disch := first | assumption | omega) only [bP, bW] | (first | apply pX | apply bX) <;> intro hc | refine ⟨oD, ?_⟩ | exact oD | fail)
 refine loop_run (α := Nat) (fun i => l.length - i) (fun i => ⟨[(0, .v (.sl (l.map ipv))), (3, E' i)], [], _⟩) (fun i => i ≤ l.length ∧ (l.drop i).all izok = l.all izok) 0 (fun _ => Nat.le_refl _) ⟨Nat.zero_le _, rfl⟩ ?_ ?_
 ·exact lE
 ·rintro i ⟨hi, hf⟩ R hR
  rw [← hf]
  by_cases hlt : i < l.length
  ·have e1 := getD_map ipv l d0I hlt
   have hgo := hR (i + 1)
   rw [← hf] at hgo
   rw [drop_getD d0I hlt, List.all_cons] at hgo ⊢
   obtain ⟨x, hx⟩ : ∃ x, x = l.getD i d0I := ⟨_, rfl⟩
   rw [← hx] at e1 hgo ⊢
   clear hx hf hR
   obtain ⟨n, a⟩ := x
   have hv := rIValid_ok n a
   have e : izok (n, a) = (validN a && !(n && a == [])) := rfl
   rw [e] at hgo ⊢
   clear e
   simp only [ipv] at e1
   generalize (validN a && !(n && a == [])) = b at *
   cases b
   ·repeat' (first | simp only [go_sem, seval, l5, e1] | refine cP hv ?_ | simp (disch := first | assumption | omega) only [bP, bW] | (first | apply pX | apply bX) <;> intro hc | refine ⟨oD, ?_⟩ | exact oD | fail)
    all_goals simp
   ·have hgo := hgo ⟨by omega, by simp⟩ (by omega)
    repeat' (first | simp only [go_sem, seval, l5, e1] | refine cP hv ?_ | simp (disch := first | assumption | omega) only [bP, bW] | (first | apply pX | apply bX) <;> intro hc | refine ⟨oD, ?_⟩ | exact oD | fail)
    refine hgo _ ?_
    exact lE
  ·obtain rfl : i = l.length := by omega
   rw [List.drop_length]
   repeat' (first | simp only [go_sem, seval, l5] | simp (disch := first | assumption | omega) only [bP, bW] | (first | apply pX | apply bX) <;> intro hc | refine ⟨oD, ?_⟩ | exact oD | fail)
   all_goals rfl
theorem rNats22_ok (l : List Bytes) (hl : l.length < 4611686018427387904) : EvP Tryz.prog 116 [.sl (l.map .s)] (.b (l.all validN)) := by
 have l5 : (l.map PV.s).length = l.length := List.length_map ..
 refine eW Tryz.call116 Tryz.func116 ?_
 repeat' (first | simp only [go_sem, seval] | simp (disch := first | assumption | omega) only [bP, bW] | (first | apply pX | apply bX) <;> intro hc | refine ⟨oD, ?_⟩ | exact oD | fail)
 refine loop_run (α := Nat) (fun i => l.length - i) (fun i => ⟨[(0, .v (.sl (l.map .s))), (3, E' i)], [], _⟩) (fun i => i ≤ l.length ∧ (l.drop i).all validN = l.all validN) 0 (fun _ => Nat.le_refl _) ⟨Nat.zero_le _, rfl⟩ ?_ ?_
 ·exact lE
 ·rintro i ⟨hi, hf⟩ R hR
  rw [← hf]
  by_cases hlt : i < l.length
  ·have e1 := getD_map PV.s l ([] : Bytes) hlt
   have hgo := hR (i + 1)
   rw [← hf] at hgo
   rw [drop_getD ([] : Bytes) hlt, List.all_cons] at hgo ⊢
   generalize l.getD i [] = a at *
   clear hf hR
   have hv := rValid_ok a
   generalize validN a = b at *
   cases b
   ·repeat' (first | simp only [go_sem, seval, l5, e1] | refine cP hv ?_ | simp (disch := first | assumption | omega) only [bP, bW] | (first | apply pX | apply bX) <;> intro hc | refine ⟨oD, ?_⟩ | exact oD | fail)
    all_goals simp
   ·have hgo := hgo ⟨by omega, by simp⟩ (by omega)
    repeat' (first | simp only [go_sem, seval, l5, e1] | refine cP hv ?_ | simp (disch := first | assumption | omega) only [bP, bW] | (first | apply pX | apply bX) <;> intro hc | refine ⟨oD, ?_⟩ | exact oD | fail)
    refine hgo _ ?_
    exact lE
  ·obtain rfl : i = l.length := by omega
   rw [List.drop_length]
   repeat' (first | simp only [go_sem, seval, l5] | simp (disch := first | assumption | omega) only [bP, bW] | (first | apply pX | apply bX) <;> intro hc | refine ⟨oD, ?_⟩ | exact oD | fail)
   all_goals rfl
theorem rSetting_ok {c sl : Bytes} (hr : RuOK c sl) {s : Stm} (hs : StOK s) (h0 : s.vars ≠ []) : EvP Tryz.prog 114 [.agg [.s c, .s sl], s.pv, C0] (E 0) := by
 have hb := r16Bounds_ok hr hs h0
 obtain ⟨gs, vs, es⟩ := s
 simp only [Stm.pv] at hb ⊢
 refine eW Tryz.call114 Tryz.func114 ?_
 repeat' (first | simp only [go_sem, seval] | refine cP hb ?_ | refine cP rbCheck0 ?_ | simp (disch := first | assumption | omega) only [bP, bW] | (first | apply pX | apply bX) <;> intro hc | refine ⟨oD, ?_⟩ | exact oD | fail)
 all_goals skip
theorem rOpen_bad {c sl : Bytes} (hr : RuOK c sl) {s : Stm} (hs : StOK s) (h0 : s.vars ≠ []) {ch : Bytes} {rs : List (Bool × Bytes)} {gs : List Bytes} {ls : List (List (Bool × Bytes))} (h1 : rs.length < 1000000) (h2 : gs.length ≤ 1000) (h3 : ls.length ≤ 1000) (h4 : ∀ l ∈ ls, l.length < 4611686018427387904) (hf : formE c s.vars.length ch rs gs ls ≠ 0) :
  EvP Tryz.prog 57 [.agg [.s c, .s sl], s.pv, C0, spv ch rs gs ls] (.tup [PZ0, B0, E (formE c s.vars.length ch rs gs ls)]) := by
 have hst := rSetting_ok hr hs h0
 have v1 := rValid_ok ch
 have v2 := rInts22_ok rs (by omega)
 have v4 := rNats22_ok gs (by omega)
 have l1 : (rs.map ipv).length = rs.length := List.length_map ..
 have l3 : (gs.map PV.s).length = gs.length := List.length_map ..
 have l4 : (ls.map lpv).length = ls.length := List.length_map ..
 obtain ⟨b0, hb0⟩ : ∃ b, b = (validN ch && rs.all izok && gs.all validN) := ⟨_, rfl⟩
 have hfe : formE c s.vars.length ch rs gs ls = if !(b0 && ls.all fun l => l.all izok) then 3 else if rs.length ≠ s.vars.length ∨ gs ≠ [] ∨ ls ≠ [] then 6 else if num c ≤ num ch then 2 else 0 := by
  unfold formE
  rw [hb0]
  congr 2
  cases validN ch <;> cases rs.all izok <;> cases gs.all validN <;> simp
 rw [hfe] at hf ⊢
 clear hfe
 have hvc : b0 = true → validN ch = true := fun h => by rw [h] at hb0; have := hb0.symm; simp only [Bool.and_eq_true] at this; exact this.1.1
 have hcm := rCmp_ok ch c
 rw [hr.vc] at hcm
 generalize validN ch = bb1 at *
 generalize rs.all izok = bb2 at *
 generalize gs.all validN = bb3 at *
 obtain ⟨gq, vs, es⟩ := s
 have l2 : (vs.map vpv).length = vs.length := List.length_map ..
 simp only [spv, Stm.pv] at hst ⊢
 simp only at hf
 refine eW Tryz.call57 Tryz.func57 ?_
 repeat' (first | simp only [go_sem, seval, l3] | refine cP hst ?_ | refine cP v1 ?_ | refine cP v2 ?_ | refine cP v4 ?_ | simp (disch := first | assumption | omega) only [bP, bW] | (first | apply pX | apply bX) <;> intro hc | refine ⟨oD, ?_⟩ | exact oD | fail)
 ·refine loop_run (α := Nat) (fun i => ls.length - i) (fun i => ⟨[(4, .p 1000 0 0), (5, .p 1001 0 0), (6, .p 1002 0 0), (7, .p 1003 0 0), (8, .p 1004 0 0), (9, .p 1005 0 0), (11, .p 1009 0 0), (12, .p 1010 0 0), (14, .v (.b (b0 && (ls.take i).all fun l => l.all izok))), (15, E' i)], [(1000, ⟨0, [.v (.s c), .v (.s sl)], false, none⟩), (1001, ⟨0, [.v (.sl (gq.map gpv)), .v (.sl (vs.map vpv)), .v (.sl (es.map Eqn.pv))], false, none⟩), (1002, ⟨0, [.v (.sl []), .v (.sl [])], false, none⟩), (1003, ⟨0, [.v (.s ch), .v (.sl (rs.map ipv)), .v (.sl (gs.map .s)), .v (.sl (ls.map lpv))], false, none⟩), (1004, ⟨0, [.sn, .v (.s []), .sn], false, some 107⟩), (1005, ⟨0, [.sn, .sn], false, some 110⟩), (1009, ⟨0, [.sn, .v (.s []), .sn], false, some 107⟩), (1010, ⟨0, [.sn, .sn], false, some 110⟩)], 1035⟩) (fun i => i ≤ ls.length) 0 (fun _ => Nat.le_of_ble_eq_true rfl) (Nat.zero_le _) ?_ ?_
  ·(refine AS.Le.of (by first | decide | omega) ?_ ?_ <;> simp [LeT, LeH, tget, hget, AV.bd, AV.bd.bdL, u8, bd_cellsOf, bcells_bd, icells_bd])
   all_goals (rw [hb0]; simp_all)
  ·intro i hi R hR
   clear hb0 v1 v2 v4 hst
   by_cases hit : i < ls.length
   ·have e2 := getD_map lpv ls ([] : List (Bool × Bytes)) hit
    have hgo := hR (i + 1) (by omega) (by omega)
    rw [take_succ_getD ([] : List (Bool × Bytes)) hit, List.all_append] at hgo
    have hv := rInts22_ok (ls.getD i []) (h4 _ (mem_getD [] hit))
    simp only [List.all_cons, List.all_nil, Bool.and_true] at hgo
    generalize ls.getD i [] = y at e2 hgo hv
    have e2 : (ls.map lpv).getD i .fn0 = .sl (y.map ipv) := e2
    rw [← Bool.and_assoc] at hgo
    generalize (b0 && (ls.take i).all fun l => l.all izok) = x at hgo ⊢
    generalize y.all izok = z at hgo hv
    clear hR h4 hf hvc hcm
    cases x
    ·simp only [Bool.false_and] at hgo
     repeat' (first | simp only [go_sem, seval, l4, e2] | refine cP hv ?_ | simp (disch := first | assumption | omega) only [bP, bW] | (first | apply pX | apply bX) <;> intro hc | refine ⟨oD, ?_⟩ | exact oD | fail)
     refine hgo _ ?_
     (refine AS.Le.of (by first | decide | omega) ?_ ?_ <;> simp [LeT, LeH, tget, hget, AV.bd, AV.bd.bdL, u8, bd_cellsOf, bcells_bd, icells_bd])
     all_goals first | omega | skip
    ·simp only [Bool.true_and] at hgo
     repeat' (first | simp only [go_sem, seval, l4, e2] | refine cP hv ?_ | simp (disch := first | assumption | omega) only [bP, bW] | (first | apply pX | apply bX) <;> intro hc | refine ⟨oD, ?_⟩ | exact oD | fail)
     refine hgo _ ?_
     (refine AS.Le.of (by first | decide | omega) ?_ ?_ <;> simp [LeT, LeH, tget, hget, AV.bd, AV.bd.bdL, u8, bd_cellsOf, bcells_bd, icells_bd])
     all_goals first | omega | skip
   ·have h : i = ls.length := by omega
    rw [h, List.take_length]
    clear hR hit hi h4
    generalize hB : (b0 && ls.all fun l => l.all izok) = B at *
    cases B
    ·simp only [Bool.not_false, if_true]
     repeat' (first | simp only [go_sem, seval, l4] | simp (disch := first | assumption | omega) only [bP, bW] | (first | apply pX | apply bX) <;> intro hc | refine ⟨oD, ?_⟩ | exact oD | fail)
    ·have hch : bb1 = true := hvc (by simp only [Bool.and_eq_true] at hB; exact hB.1)
     rw [hch] at hcm
     simp only [Bool.and_self, if_true] at hcm
     simp only [Bool.not_true, Bool.false_eq_true, if_false] at hf ⊢
     by_cases hm : rs.length ≠ vs.length ∨ gs ≠ [] ∨ ls ≠ []
     ·have hm2 : (if ¬rs.length = vs.length ∨ ¬gs = [] ∨ ¬ls = [] then (6 : Int) else if num c ≤ num ch then 2 else 0) = 6 := if_pos hm
      rw [hm2]
      have hm' : rs.length ≠ vs.length ∨ (rs.length = vs.length ∧ gs.length ≠ 0) ∨ (rs.length = vs.length ∧ gs.length = 0 ∧ ls.length ≠ 0) := by
       rcases hm with h | h | h
       ·exact .inl h
       ·have : gs.length ≠ 0 := fun h0 => h (List.length_eq_zero_iff.1 h0)
        omega
       ·have : ls.length ≠ 0 := fun h0 => h (List.length_eq_zero_iff.1 h0)
        omega
      clear hm hf hm2 hcm
      rcases hm' with h | ⟨h, h'⟩ | ⟨h, h', h''⟩
      ·repeat' (first | simp only [go_sem, seval, l1, l2, l3, l4] | simp (disch := first | assumption | omega) only [bP, bW] | (first | apply pX | apply bX) <;> intro hc | refine ⟨oD, ?_⟩ | exact oD | fail)
      ·repeat' (first | simp only [go_sem, seval, l1, l2, l3, l4] | simp (disch := first | assumption | omega) only [bP, bW] | (first | apply pX | apply bX) <;> intro hc | refine ⟨oD, ?_⟩ | exact oD | fail)
      ·repeat' (first | simp only [go_sem, seval, l1, l2, l3, l4] | simp (disch := first | assumption | omega) only [bP, bW] | (first | apply pX | apply bX) <;> intro hc | refine ⟨oD, ?_⟩ | exact oD | fail)
     ·have hm2 : (if ¬rs.length = vs.length ∨ ¬gs = [] ∨ ¬ls = [] then (6 : Int) else if num c ≤ num ch then 2 else 0) = if num c ≤ num ch then 2 else 0 := if_neg hm
      rw [if_neg hm] at hf
      rw [hm2]
      have hge : num c ≤ num ch := Decidable.byContradiction fun h => hf (if_neg h)
      rw [if_pos hge]
      have hm' : rs.length = vs.length ∧ gs = [] ∧ ls = [] := ⟨Decidable.byContradiction fun h => hm (.inl h), Decidable.byContradiction fun h => hm (.inr (.inl h)), Decidable.byContradiction fun h => hm (.inr (.inr h))⟩
      obtain ⟨e1, e2, e3⟩ := hm'
      have e2' : gs.length = 0 := by rw [e2]; rfl
      have e3' : ls.length = 0 := by rw [e3]; rfl
      have h7 : ∀ _ : True, (0 : Int) ≤ cmpN (num ch) (num c) := fun _ => cmpN_ge.2 hge
      have h5 : ∀ _ : True, decide (cmpN (num ch) (num c) ≥ 0) = true := fun _ => decide_eq_true (h7 trivial)
      generalize cmpN (num ch) (num c) = z at *
      clear hm hf hm2
      repeat' (first | simp only [go_sem, seval, l1, l2, l3, l4, e2', e3', h5 trivial] | refine cP rOrder0 ?_ | refine cP hcm ?_ | (refine loop_unroll' ?_) | simp (disch := first | assumption | omega) only [bP, bW] | (first | apply pX | apply bX) <;> intro hc | refine ⟨oD, ?_⟩ | exact oD | fail)
      all_goals skip
 ·refine loop_run (α := Nat) (fun i => ls.length - i) (fun i => ⟨[(4, .p 1000 0 0), (5, .p 1001 0 0), (6, .p 1002 0 0), (7, .p 1003 0 0), (8, .p 1004 0 0), (9, .p 1005 0 0), (11, .p 1009 0 0), (12, .p 1010 0 0), (14, .v (.b (b0 && (ls.take i).all fun l => l.all izok))), (15, E' i)], [(1000, ⟨0, [.v (.s c), .v (.s sl)], false, none⟩), (1001, ⟨0, [.v (.sl (gq.map gpv)), .v (.sl (vs.map vpv)), .v (.sl (es.map Eqn.pv))], false, none⟩), (1002, ⟨0, [.v (.sl []), .v (.sl [])], false, none⟩), (1003, ⟨0, [.v (.s ch), .v (.sl (rs.map ipv)), .v (.sl (gs.map .s)), .v (.sl (ls.map lpv))], false, none⟩), (1004, ⟨0, [.sn, .v (.s []), .sn], false, some 107⟩), (1005, ⟨0, [.sn, .sn], false, some 110⟩), (1009, ⟨0, [.sn, .v (.s []), .sn], false, some 107⟩), (1010, ⟨0, [.sn, .sn], false, some 110⟩)], 1035⟩) (fun i => i ≤ ls.length) 0 (fun _ => Nat.le_of_ble_eq_true rfl) (Nat.zero_le _) ?_ ?_
  ·(refine AS.Le.of (by first | decide | omega) ?_ ?_ <;> simp [LeT, LeH, tget, hget, AV.bd, AV.bd.bdL, u8, bd_cellsOf, bcells_bd, icells_bd])
   all_goals (rw [hb0]; simp_all)
  ·intro i hi R hR
   clear hb0 v1 v2 v4 hst
   by_cases hit : i < ls.length
   ·have e2 := getD_map lpv ls ([] : List (Bool × Bytes)) hit
    have hgo := hR (i + 1) (by omega) (by omega)
    rw [take_succ_getD ([] : List (Bool × Bytes)) hit, List.all_append] at hgo
    have hv := rInts22_ok (ls.getD i []) (h4 _ (mem_getD [] hit))
    simp only [List.all_cons, List.all_nil, Bool.and_true] at hgo
    generalize ls.getD i [] = y at e2 hgo hv
    have e2 : (ls.map lpv).getD i .fn0 = .sl (y.map ipv) := e2
    rw [← Bool.and_assoc] at hgo
    generalize (b0 && (ls.take i).all fun l => l.all izok) = x at hgo ⊢
    generalize y.all izok = z at hgo hv
    clear hR h4 hf hvc hcm
    cases x
    ·simp only [Bool.false_and] at hgo
     repeat' (first | simp only [go_sem, seval, l4, e2] | refine cP hv ?_ | simp (disch := first | assumption | omega) only [bP, bW] | (first | apply pX | apply bX) <;> intro hc | refine ⟨oD, ?_⟩ | exact oD | fail)
     refine hgo _ ?_
     (refine AS.Le.of (by first | decide | omega) ?_ ?_ <;> simp [LeT, LeH, tget, hget, AV.bd, AV.bd.bdL, u8, bd_cellsOf, bcells_bd, icells_bd])
     all_goals first | omega | skip
    ·simp only [Bool.true_and] at hgo
     repeat' (first | simp only [go_sem, seval, l4, e2] | refine cP hv ?_ | simp (disch := first | assumption | omega) only [bP, bW] | (first | apply pX | apply bX) <;> intro hc | refine ⟨oD, ?_⟩ | exact oD | fail)
     refine hgo _ ?_
     (refine AS.Le.of (by first | decide | omega) ?_ ?_ <;> simp [LeT, LeH, tget, hget, AV.bd, AV.bd.bdL, u8, bd_cellsOf, bcells_bd, icells_bd])
     all_goals first | omega | skip
   ·have h : i = ls.length := by omega
    rw [h, List.take_length]
    clear hR hit hi h4
    generalize hB : (b0 && ls.all fun l => l.all izok) = B at *
    cases B
    ·simp only [Bool.not_false, if_true]
     repeat' (first | simp only [go_sem, seval, l4] | simp (disch := first | assumption | omega) only [bP, bW] | (first | apply pX | apply bX) <;> intro hc | refine ⟨oD, ?_⟩ | exact oD | fail)
    ·have hch : bb1 = true := hvc (by simp only [Bool.and_eq_true] at hB; exact hB.1)
     rw [hch] at hcm
     simp only [Bool.and_self, if_true] at hcm
     simp only [Bool.not_true, Bool.false_eq_true, if_false] at hf ⊢
     by_cases hm : rs.length ≠ vs.length ∨ gs ≠ [] ∨ ls ≠ []
     ·have hm2 : (if ¬rs.length = vs.length ∨ ¬gs = [] ∨ ¬ls = [] then (6 : Int) else if num c ≤ num ch then 2 else 0) = 6 := if_pos hm
      rw [hm2]
      have hm' : rs.length ≠ vs.length ∨ (rs.length = vs.length ∧ gs.length ≠ 0) ∨ (rs.length = vs.length ∧ gs.length = 0 ∧ ls.length ≠ 0) := by
       rcases hm with h | h | h
       ·exact .inl h
       ·have : gs.length ≠ 0 := fun h0 => h (List.length_eq_zero_iff.1 h0)
        omega
       ·have : ls.length ≠ 0 := fun h0 => h (List.length_eq_zero_iff.1 h0)
        omega
      clear hm hf hm2 hcm
      rcases hm' with h | ⟨h, h'⟩ | ⟨h, h', h''⟩
      ·repeat' (first | simp only [go_sem, seval, l1, l2, l3, l4] | simp (disch := first | assumption | omega) only [bP, bW] | (first | apply pX | apply bX) <;> intro hc | refine ⟨oD, ?_⟩ | exact oD | fail)
      ·repeat' (first | simp only [go_sem, seval, l1, l2, l3, l4] | simp (disch := first | assumption | omega) only [bP, bW] | (first | apply pX | apply bX) <;> intro hc | refine ⟨oD, ?_⟩ | exact oD | fail)
      ·repeat' (first | simp only [go_sem, seval, l1, l2, l3, l4] | simp (disch := first | assumption | omega) only [bP, bW] | (first | apply pX | apply bX) <;> intro hc | refine ⟨oD, ?_⟩ | exact oD | fail)
     ·have hm2 : (if ¬rs.length = vs.length ∨ ¬gs = [] ∨ ¬ls = [] then (6 : Int) else if num c ≤ num ch then 2 else 0) = if num c ≤ num ch then 2 else 0 := if_neg hm
      rw [if_neg hm] at hf
      rw [hm2]
      have hge : num c ≤ num ch := Decidable.byContradiction fun h => hf (if_neg h)
      rw [if_pos hge]
      have hm' : rs.length = vs.length ∧ gs = [] ∧ ls = [] := ⟨Decidable.byContradiction fun h => hm (.inl h), Decidable.byContradiction fun h => hm (.inr (.inl h)), Decidable.byContradiction fun h => hm (.inr (.inr h))⟩
      obtain ⟨e1, e2, e3⟩ := hm'
      have e2' : gs.length = 0 := by rw [e2]; rfl
      have e3' : ls.length = 0 := by rw [e3]; rfl
      have h7 : ∀ _ : True, (0 : Int) ≤ cmpN (num ch) (num c) := fun _ => cmpN_ge.2 hge
      have h5 : ∀ _ : True, decide (cmpN (num ch) (num c) ≥ 0) = true := fun _ => decide_eq_true (h7 trivial)
      generalize cmpN (num ch) (num c) = z at *
      clear hm hf hm2
      repeat' (first | simp only [go_sem, seval, l1, l2, l3, l4, e2', e3', h5 trivial] | refine cP rOrder0 ?_ | refine cP hcm ?_ | (refine loop_unroll' ?_) | simp (disch := first | assumption | omega) only [bP, bW] | (first | apply pX | apply bX) <;> intro hc | refine ⟨oD, ?_⟩ | exact oD | fail)
      all_goals skip
 ·refine loop_run (α := Nat) (fun i => ls.length - i) (fun i => ⟨[(4, .p 1000 0 0), (5, .p 1001 0 0), (6, .p 1002 0 0), (7, .p 1003 0 0), (8, .p 1004 0 0), (9, .p 1005 0 0), (11, .p 1009 0 0), (12, .p 1010 0 0), (14, .v (.b (b0 && (ls.take i).all fun l => l.all izok))), (15, E' i)], [(1000, ⟨0, [.v (.s c), .v (.s sl)], false, none⟩), (1001, ⟨0, [.v (.sl (gq.map gpv)), .v (.sl (vs.map vpv)), .v (.sl (es.map Eqn.pv))], false, none⟩), (1002, ⟨0, [.v (.sl []), .v (.sl [])], false, none⟩), (1003, ⟨0, [.v (.s ch), .v (.sl (rs.map ipv)), .v (.sl (gs.map .s)), .v (.sl (ls.map lpv))], false, none⟩), (1004, ⟨0, [.sn, .v (.s []), .sn], false, some 107⟩), (1005, ⟨0, [.sn, .sn], false, some 110⟩), (1009, ⟨0, [.sn, .v (.s []), .sn], false, some 107⟩), (1010, ⟨0, [.sn, .sn], false, some 110⟩)], 1035⟩) (fun i => i ≤ ls.length) 0 (fun _ => Nat.le_of_ble_eq_true rfl) (Nat.zero_le _) ?_ ?_
  ·(refine AS.Le.of (by first | decide | omega) ?_ ?_ <;> simp [LeT, LeH, tget, hget, AV.bd, AV.bd.bdL, u8, bd_cellsOf, bcells_bd, icells_bd])
   all_goals (rw [hb0]; simp_all)
  ·intro i hi R hR
   clear hb0 v1 v2 v4 hst
   by_cases hit : i < ls.length
   ·have e2 := getD_map lpv ls ([] : List (Bool × Bytes)) hit
    have hgo := hR (i + 1) (by omega) (by omega)
    rw [take_succ_getD ([] : List (Bool × Bytes)) hit, List.all_append] at hgo
    have hv := rInts22_ok (ls.getD i []) (h4 _ (mem_getD [] hit))
    simp only [List.all_cons, List.all_nil, Bool.and_true] at hgo
    generalize ls.getD i [] = y at e2 hgo hv
    have e2 : (ls.map lpv).getD i .fn0 = .sl (y.map ipv) := e2
    rw [← Bool.and_assoc] at hgo
    generalize (b0 && (ls.take i).all fun l => l.all izok) = x at hgo ⊢
    generalize y.all izok = z at hgo hv
    clear hR h4 hf hvc hcm
    cases x
    ·simp only [Bool.false_and] at hgo
     repeat' (first | simp only [go_sem, seval, l4, e2] | refine cP hv ?_ | simp (disch := first | assumption | omega) only [bP, bW] | (first | apply pX | apply bX) <;> intro hc | refine ⟨oD, ?_⟩ | exact oD | fail)
     refine hgo _ ?_
     (refine AS.Le.of (by first | decide | omega) ?_ ?_ <;> simp [LeT, LeH, tget, hget, AV.bd, AV.bd.bdL, u8, bd_cellsOf, bcells_bd, icells_bd])
     all_goals first | omega | skip
    ·simp only [Bool.true_and] at hgo
     repeat' (first | simp only [go_sem, seval, l4, e2] | refine cP hv ?_ | simp (disch := first | assumption | omega) only [bP, bW] | (first | apply pX | apply bX) <;> intro hc | refine ⟨oD, ?_⟩ | exact oD | fail)
     refine hgo _ ?_
     (refine AS.Le.of (by first | decide | omega) ?_ ?_ <;> simp [LeT, LeH, tget, hget, AV.bd, AV.bd.bdL, u8, bd_cellsOf, bcells_bd, icells_bd])
     all_goals first | omega | skip
   ·have h : i = ls.length := by omega
    rw [h, List.take_length]
    clear hR hit hi h4
    generalize hB : (b0 && ls.all fun l => l.all izok) = B at *
    cases B
    ·simp only [Bool.not_false, if_true]
     repeat' (first | simp only [go_sem, seval, l4] | simp (disch := first | assumption | omega) only [bP, bW] | (first | apply pX | apply bX) <;> intro hc | refine ⟨oD, ?_⟩ | exact oD | fail)
    ·have hch : bb1 = true := hvc (by simp only [Bool.and_eq_true] at hB; exact hB.1)
     rw [hch] at hcm
     simp only [Bool.and_self, if_true] at hcm
     simp only [Bool.not_true, Bool.false_eq_true, if_false] at hf ⊢
     by_cases hm : rs.length ≠ vs.length ∨ gs ≠ [] ∨ ls ≠ []
     ·have hm2 : (if ¬rs.length = vs.length ∨ ¬gs = [] ∨ ¬ls = [] then (6 : Int) else if num c ≤ num ch then 2 else 0) = 6 := if_pos hm
      rw [hm2]
      have hm' : rs.length ≠ vs.length ∨ (rs.length = vs.length ∧ gs.length ≠ 0) ∨ (rs.length = vs.length ∧ gs.length = 0 ∧ ls.length ≠ 0) := by
       rcases hm with h | h | h
       ·exact .inl h
       ·have : gs.length ≠ 0 := fun h0 => h (List.length_eq_zero_iff.1 h0)
        omega
       ·have : ls.length ≠ 0 := fun h0 => h (List.length_eq_zero_iff.1 h0)
        omega
      clear hm hf hm2 hcm
      rcases hm' with h | ⟨h, h'⟩ | ⟨h, h', h''⟩
      ·repeat' (first | simp only [go_sem, seval, l1, l2, l3, l4] | simp (disch := first | assumption | omega) only [bP, bW] | (first | apply pX | apply bX) <;> intro hc | refine ⟨oD, ?_⟩ | exact oD | fail)
      ·repeat' (first | simp only [go_sem, seval, l1, l2, l3, l4] | simp (disch := first | assumption | omega) only [bP, bW] | (first | apply pX | apply bX) <;> intro hc | refine ⟨oD, ?_⟩ | exact oD | fail)
      ·repeat' (first | simp only [go_sem, seval, l1, l2, l3, l4] | simp (disch := first | assumption | omega) only [bP, bW] | (first | apply pX | apply bX) <;> intro hc | refine ⟨oD, ?_⟩ | exact oD | fail)
     ·have hm2 : (if ¬rs.length = vs.length ∨ ¬gs = [] ∨ ¬ls = [] then (6 : Int) else if num c ≤ num ch then 2 else 0) = if num c ≤ num ch then 2 else 0 := if_neg hm
      rw [if_neg hm] at hf
      rw [hm2]
      have hge : num c ≤ num ch := Decidable.byContradiction fun h => hf (if_neg h)
      rw [if_pos hge]
      have hm' : rs.length = vs.length ∧ gs = [] ∧ ls = [] := ⟨Decidable.byContradiction fun h => hm (.inl h), Decidable.byContradiction fun h => hm (.inr (.inl h)), Decidable.byContradiction fun h => hm (.inr (.inr h))⟩
      obtain ⟨e1, e2, e3⟩ := hm'
      have e2' : gs.length = 0 := by rw [e2]; rfl
      have e3' : ls.length = 0 := by rw [e3]; rfl
      have h7 : ∀ _ : True, (0 : Int) ≤ cmpN (num ch) (num c) := fun _ => cmpN_ge.2 hge
      have h5 : ∀ _ : True, decide (cmpN (num ch) (num c) ≥ 0) = true := fun _ => decide_eq_true (h7 trivial)
      generalize cmpN (num ch) (num c) = z at *
      clear hm hf hm2
      repeat' (first | simp only [go_sem, seval, l1, l2, l3, l4, e2', e3', h5 trivial] | refine cP rOrder0 ?_ | refine cP hcm ?_ | (refine loop_unroll' ?_) | simp (disch := first | assumption | omega) only [bP, bW] | (first | apply pX | apply bX) <;> intro hc | refine ⟨oD, ?_⟩ | exact oD | fail)
      all_goals skip
theorem formE_ok {c : Bytes} {nv : Nat} {ch : Bytes} {rs : List (Bool × Bytes)} (h : formE c nv ch rs [] [] = 0) : validN ch = true ∧ rs.all izok = true ∧ rs.length = nv ∧ ¬ num c ≤ num ch := by
 unfold formE at h
 split at h
 ·exact absurd h (by decide)
 ·rename_i ho
  split at h
  ·exact absurd h (by decide)
  ·rename_i hm
   split at h
   ·exact absurd h (by decide)
   ·rename_i hc
    simp only [Bool.not_eq_true', Bool.not_eq_false, Bool.and_eq_true] at ho
    exact ⟨ho.1.1.1, ho.1.1.2, Decidable.byContradiction fun h => hm (.inl h), hc⟩
theorem rOpen_bad2 {c sl : Bytes} (hr : RuOK c sl) {s : Stm} (hs : StOK s) (ht : OneT s) (h0 : s.vars ≠ []) (h00 : s.eqs ≠ []) {ch : Bytes} {rs : List (Bool × Bytes)} (h1 : rs.length < 1000000) (h24 : ∀ x ∈ rs, x.2.length ≤ 24) (hf : formE c s.vars.length ch rs [] [] = 0) (hi : firE c sl s.vars ch rs ≠ 0) :
  EvP Tryz.prog 57 [.agg [.s c, .s sl], s.pv, C0, spv ch rs [] []] (.tup [PZ0, B0, E (firE c sl s.vars ch rs)]) := by
 obtain ⟨o1, o2, o3, o4⟩ := formE_ok hf
 have hst := rSetting_ok hr hs h0
 have v1 := rValid_ok ch
 rw [o1] at v1
 have v2 := rInts22_ok rs (by omega)
 rw [o2] at v2
 have v4 := rNats22_ok [] (by simp)
 have hcm := rCmp_ok ch c
 rw [o1, hr.vc] at hcm
 simp only [Bool.and_self, if_true] at hcm
 have hfi := r17First_ok hr hs ht h0 h00 (ch := ch) (l := rs) h1 h24
 have hl : firL c sl s ch rs = [] := by unfold firL; rw [if_neg hi]
 rw [hl] at hfi
 have hb : (firE c sl s.vars ch rs == 0) = false := by simpa using hi
 generalize firE c sl s.vars ch rs = e at *
 have l1 : (rs.map ipv).length = rs.length := List.length_map ..
 obtain ⟨gq, vs, es⟩ := s
 have l2 : (vs.map vpv).length = vs.length := List.length_map ..
 have o3 : rs.length = vs.length := o3
 simp only [spv, Stm.pv, List.map_nil] at hst hfi v4 ⊢
 have h7 : ∀ _ : True, ¬ (0 : Int) ≤ cmpN (num ch) (num c) := fun _ h => o4 (cmpN_ge.1 h)
 have h5 : ∀ _ : True, decide (cmpN (num ch) (num c) ≥ 0) = false := fun _ => decide_eq_false (h7 trivial)
 generalize cmpN (num ch) (num c) = z at *
 clear hf o4
 refine eW Tryz.call57 Tryz.func57 ?_
 repeat' (first | simp only [go_sem, seval, l1, l2, o3, hb, h5 trivial] | refine cP hst ?_ | refine cP v1 ?_ | refine cP v2 ?_ | refine cP v4 ?_ | refine cP rOrder0 ?_ | refine cP hcm ?_ | refine cP hfi ?_ | (refine loop_unroll' ?_) | simp (disch := first | assumption | omega) only [bP, bW] | (first | apply pX | apply bX) <;> intro hc | refine ⟨oD, ?_⟩ | exact oD | fail)
theorem rOpen_good {c sl : Bytes} (hr : RuOK c sl) {s : Stm} (hs : StOK s) (ht : OneT s) (h0 : s.vars ≠ []) (h00 : s.eqs ≠ []) {ch : Bytes} {rs : List (Bool × Bytes)} (h1 : rs.length < 1000000) (h24 : ∀ x ∈ rs, x.2.length ≤ 24) (hf : formE c s.vars.length ch rs [] [] = 0) (hi : firE c sl s.vars ch rs = 0) :
  EvP Tryz.prog 57 [.agg [.s c, .s sl], s.pv, C0, spv ch rs [] []] (.tup [.agg [.sl (s.eqs.map fun q => N (msgQ s.groups ch rs q)), .s ch, .sl (rs.map ipv)], B0, E 0]) := by
 obtain ⟨o1, o2, o3, o4⟩ := formE_ok hf
 have hst := rSetting_ok hr hs h0
 have v1 := rValid_ok ch
 rw [o1] at v1
 have v2 := rInts22_ok rs (by omega)
 rw [o2] at v2
 have v4 := rNats22_ok [] (by simp)
 have hcm := rCmp_ok ch c
 rw [o1, hr.vc] at hcm
 simp only [Bool.and_self, if_true] at hcm
 have hfi := r17First_ok hr hs ht h0 h00 (ch := ch) (l := rs) h1 h24
 have hl : firL c sl s ch rs = s.eqs.map fun q => N (msgQ s.groups ch rs q) := by unfold firL; rw [if_pos hi]
 rw [hl, hi] at hfi
 generalize (s.eqs.map fun q => N (msgQ s.groups ch rs q)) = fl at *
 obtain ⟨gq, vs, es⟩ := s
 have l2 : (vs.map vpv).length = vs.length := List.length_map ..
 have o3 : rs.length = vs.length := o3
 obtain ⟨x, r, hxr⟩ : ∃ x r, rs = x :: r := by
  cases hrs : rs with
  | nil => rw [hrs] at o3; exact absurd (List.length_eq_zero_iff.1 o3.symm) h0
  | cons a b => exact ⟨a, b, rfl⟩
 have l1 : (rs.map ipv).length = rs.length := List.length_map ..
 simp only [spv, Stm.pv, List.map_nil] at hst hfi v4 ⊢
 have h7 : ∀ _ : True, ¬ (0 : Int) ≤ cmpN (num ch) (num c) := fun _ h => o4 (cmpN_ge.1 h)
 have h5 : ∀ _ : True, decide (cmpN (num ch) (num c) ≥ 0) = false := fun _ => decide_eq_false (h7 trivial)
 generalize cmpN (num ch) (num c) = z at *
 have hn : ∀ _ : True, ¬ rs.length = 0 := fun _ => by rw [hxr]; simp
 have hn2 : ∀ _ : True, ¬ vs.length = 0 := fun _ => by rw [← o3]; exact hn trivial
 clear hf o4
 refine eW Tryz.call57 Tryz.func57 ?_
 repeat' (first | simp only [go_sem, seval, l1, l2, o3, h5 trivial, hn trivial, hn2 trivial] | refine cP hst ?_ | refine cP v1 ?_ | refine cP v2 ?_ | refine cP v4 ?_ | refine cP rOrder0 ?_ | refine cP hcm ?_ | refine cP hfi ?_ | (refine loop_unroll' ?_) | simp (disch := first | assumption | omega) only [bP, bW] | (first | apply pX | apply bX) <;> intro hc | refine ⟨oD, ?_⟩ | exact oD | fail)
 have hrow : List.map AV.v (List.flatMap PV.cells (List.map ipv rs)) = rowF ipv rs := by
  rw [rowF, List.flatMap_map]
 have q2 := rowF_all ipvRow rs
 rw [hrow]
 have hv2 : vs.length < 1000000 := by omega
 refine ⟨⟨fun y hy => by obtain ⟨z, -, rfl⟩ := List.mem_map.1 hy; exact ipvRow.len z, fun y hy => List.all_eq_true.1 q2 y hy, by omega, by omega⟩, ?_⟩
 refine loop_unroll' ?_
 have q0 : (rowF ipv rs).length = vs.length * 2 := by rw [rowF_len ipvRow, o3]
 have q1 : List.take (vs.length * 2) (rowF ipv rs) = rowF ipv rs := by rw [← o3]; exact rowF_take ipvRow rs
 have q3 : chunk 2 vs.length (rs.flatMap fun x => (ipv x).cells) = rs.map ipv := by rw [← o3]; exact rowF_chunk ipvRow rs
 repeat' (first | simp only [go_sem, seval, q0, q1, q2, q3, rowF_mapO] | simp (disch := first | assumption | omega) only [bP, bW] | (first | apply pX | apply bX) <;> intro hc | refine ⟨oD, ?_⟩ | exact oD | fail)
theorem rfirsts0 : EvP Tryz.prog 59 [B0] (.sl []) := by
 refine eW Tryz.call59 Tryz.func59 ?_
 repeat' (first | simp only [go_sem, seval] | (refine loop_unroll' ?_) | simp (disch := first | assumption | omega) only [bP, bW] | (first | apply pX | apply bX) <;> intro hc | refine ⟨oD, ?_⟩ | exact oD | fail)
theorem rclause0 (n : Bytes) : EvP Tryz.prog 60 [C0, B0, .s n] (.b true) := by
 refine eW Tryz.call60 Tryz.func60 ?_
 repeat' (first | simp only [go_sem, seval] | simp (disch := first | assumption | omega) only [bP, bW] | (first | apply pX | apply bX) <;> intro hc | refine ⟨oD, ?_⟩ | exact oD | fail)
theorem rChallenge22_ok {c sl : Bytes} (hr : RuOK c sl) {s : Stm} (hs : StOK s) (hb : BdS s) {ctx : Bytes} (hx : ctx.length ≤ 100000) {fs : List Bytes} (f0 : fs ≠ []) (fe : fs.length = s.eqs.length) (fl : ∀ x ∈ fs, x.length ≤ 8) (fv : fs.all validN = true) :
  EvP Tryz.prog 58 [.agg [.s c, .s sl], .s ctx, s.pv, C0, .sl (fs.map .s), .sl []] (.tup [N (trChal (fsS ctx s fs) c), E 0]) := by
 have fn : fs.length ≤ 900 := by rw [fe]; have := hb.ne; omega
 have fl : ∀ x ∈ fs, x.length ≤ 100000 := fun x hx => by have := fl x hx; omega
 have c0 : c ≠ [] := by
  intro h; have := hr.c2; rw [h] at this; exact absurd this (by decide)
 have hst := rSetting_ok hr hs hb.v0
 have hv := rNats22_ok fs (by omega)
 rw [fv] at hv
 have n1 := rNew_ok sDom (by decide)
 have n2 := rAdd12_ok (trNew sDom) sCtx ctx (by rw [trNew_len]; decide) (by decide) hx
 have n3 := rBind_ok (st := trAdd (trNew sDom) sCtx ctx) (by rw [trAdd_len]; decide) hb
 have n4 := rAdd12_ok (bindS (trAdd (trNew sDom) sCtx ctx) s) sFor [] (by rw [bindS_len hb]; decide) (by decide) (by decide)
 have n5 := rNats12_ok (trAdd (bindS (trAdd (trNew sDom) sCtx ctx) s) sFor []) sFst fs (by rw [trAdd_len]; decide) (by decide) f0 fn fl
 have n6 := rChallenge12_ok (fsS ctx s fs) c (by rw [fsS, trNats_len]; decide) hr.vc c0 hr.lc
 have n5 : EvP Tryz.prog 125 [.s (trAdd (bindS (trAdd (trNew sDom) sCtx ctx) s) sFor []), .s sFst, .sl (fs.map .s)] (.s (fsS ctx s fs)) := n5
 generalize fsS ctx s fs = st5 at *
 generalize bindS (trAdd (trNew sDom) sCtx ctx) s = st3 at *
 obtain ⟨gq, vs, es⟩ := s
 have l1 : (fs.map PV.s).length = es.length := by rw [List.length_map]; exact fe
 have l2 : (es.map Eqn.pv).length = es.length := List.length_map ..
 simp only [Stm.pv] at n3 hst ⊢
 refine eW Tryz.call58 Tryz.func58 ?_
 repeat' (first | simp only [go_sem, seval, l1, l2] | refine cP hst ?_ | refine cP hv ?_ | refine cP n1 ?_ | refine cP n2 ?_ | refine cP n3 ?_ | refine cP n4 ?_ | refine cP n5 ?_ | refine cP n6 ?_ | refine cP rfText0 ?_ | (refine loop_unroll' ?_) | simp (disch := first | assumption | omega) only [bP, bW] | (first | apply pX | apply bX) <;> intro hc | refine ⟨oD, ?_⟩ | exact oD | fail)
theorem rVerify22_ok {c sl : Bytes} (hr : RuOK c sl) {s : Stm} (hs : StOK s) (ht : OneT s) (hb : BdS s) (h00 : s.eqs ≠ []) (hm : ∀ ch rs, ∀ x ∈ fmsg s ch rs, x.length ≤ 8 ∧ validN x = true) {ctx : Bytes} (hx : ctx.length ≤ 100000) {ch : Bytes} {rs : List (Bool × Bytes)} {gs : List Bytes} {ls : List (List (Bool × Bytes))} (h1 : rs.length < 1000000) (h24 : ∀ x ∈ rs, x.2.length ≤ 24) (h2 : gs.length ≤ 1000) (h3 : ls.length ≤ 1000) (h4 : ∀ l ∈ ls, l.length < 4611686018427387904) :
  EvP Tryz.prog 20 [.agg [.s c, .s sl], .s ctx, s.pv, C0, spv ch rs gs ls] (E (vfyE c sl ctx s ch rs gs ls)) := by
 unfold vfyE
 by_cases hf : formE c s.vars.length ch rs gs ls = 0
 ·obtain ⟨rfl, rfl⟩ := formE_nil hf
  rw [if_neg (by simpa using hf)]
  by_cases hi : firE c sl s.vars ch rs = 0
  ·rw [if_neg (by simpa using hi)]
   have ho := rOpen_good hr hs ht hb.v0 h00 h1 h24 hf hi
   have hmap : (s.eqs.map fun q => N (msgQ s.groups ch rs q)) = (fmsg s ch rs).map .s := by unfold fmsg; rw [List.map_map]; rfl
   rw [hmap] at ho
   have f0 : fmsg s ch rs ≠ [] := by unfold fmsg; simpa using h00
   have fl := hm ch rs
   have fe : (fmsg s ch rs).length = s.eqs.length := by unfold fmsg; rw [List.length_map]
   generalize fmsg s ch rs = fs at *
   have hc := rChallenge22_ok hr hs hb hx f0 fe (fun x hx => (fl x hx).1) (List.all_eq_true.2 fun x hx => (fl x hx).2)
   have ha := rclause0 ch
   generalize trChal (fsS ctx s fs) c = z at *
   obtain ⟨gq, vs, es⟩ := s
   simp only [spv, Stm.pv, List.map_nil] at ho hc ⊢
   clear hr hs hb hm h2 h3 h4 hf hi hmap
   by_cases hz : bts z = ch
   ·rw [if_pos hz]
    have hz1 : (bts z == ch) = true := by simpa using hz
    refine eW Tryz.call20 Tryz.func20 ?_
    repeat' (first | simp only [go_sem, seval, hz1] | refine cP ho ?_ | refine cP hc ?_ | refine cP ha ?_ | refine cP rfirsts0 ?_ | (refine loop_unroll' ?_) | simp (disch := first | assumption | omega) only [bP, bW] | (first | apply pX | apply bX) <;> intro hc | refine ⟨oD, ?_⟩ | exact oD | fail)
   ·rw [if_neg hz]
    have hz1 : (bts z == ch) = false := by simpa using hz
    refine eW Tryz.call20 Tryz.func20 ?_
    repeat' (first | simp only [go_sem, seval, hz1] | refine cP ho ?_ | refine cP hc ?_ | refine cP ha ?_ | refine cP rfirsts0 ?_ | (refine loop_unroll' ?_) | simp (disch := first | assumption | omega) only [bP, bW] | (first | apply pX | apply bX) <;> intro hc | refine ⟨oD, ?_⟩ | exact oD | fail)
  ·rw [if_pos hi]
   have ho := rOpen_bad2 hr hs ht hb.v0 h00 h1 h24 hf hi
   have hb : (firE c sl s.vars ch rs == 0) = false := by simpa using hi
   generalize firE c sl s.vars ch rs = e at *
   obtain ⟨gq, vs, es⟩ := s
   simp only [spv, Stm.pv, List.map_nil] at ho ⊢
   refine eW Tryz.call20 Tryz.func20 ?_
   repeat' (first | simp only [go_sem, seval, hb] | refine cP ho ?_ | simp (disch := first | assumption | omega) only [bP, bW] | (first | apply pX | apply bX) <;> intro hc | refine ⟨oD, ?_⟩ | exact oD | fail)
 ·rw [if_pos hf]
  have ho := rOpen_bad hr hs hb.v0 h1 h2 h3 h4 hf
  have hb : (formE c s.vars.length ch rs gs ls == 0) = false := by simpa using hf
  generalize formE c s.vars.length ch rs gs ls = e at *
  obtain ⟨gq, vs, es⟩ := s
  simp only [spv, Stm.pv] at ho ⊢
  refine eW Tryz.call20 Tryz.func20 ?_
  repeat' (first | simp only [go_sem, seval, hb] | refine cP ho ?_ | simp (disch := first | assumption | omega) only [bP, bW] | (first | apply pX | apply bX) <;> intro hc | refine ⟨oD, ?_⟩ | exact oD | fail)
end Go.Proofs.YthbognfeadopjaaGreatDoor
