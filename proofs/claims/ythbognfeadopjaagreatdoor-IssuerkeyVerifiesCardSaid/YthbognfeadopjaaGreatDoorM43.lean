/-
  Part of the proof, part 43. Own work.
-/
import Derived.Test.YthbognfeadopjaaGreatDoorM42
set_option linter.all false
namespace Go.Proofs.YthbognfeadopjaaGreatDoor
open Go Go.Dom Go.Num
set_option maxRecDepth 100000
set_option maxHeartbeats 16000000
theorem rfix_ok (b : Bool) (a : Bytes) : EvP Tryz.prog 328 [.b b, .s a] (.agg [.b (b && !(a == [])), .s a]) := by
 refine eW Tryz.call328 Tryz.func328 ?_
 repeat' (first | simp only [go_sem, seval] | simp (disch := first | assumption | omega) only [bP, bW] | (first | apply pX | apply bX) <;> intro hc | refine ⟨oD, ?_⟩ | exact oD | fail)
 all_goals simp_all
theorem r17Neg_ok (b : Bool) (a : Bytes) : EvP Tryz.prog 271 [.agg [.b b, .s a]] (.agg [.b (!b && !(a == [])), .s a]) := by
 have h := rfix_ok (!b) a
 refine eW Tryz.call271 Tryz.func271 ?_
 repeat' (first | simp only [go_sem, seval] | refine cP h ?_ | simp (disch := first | assumption | omega) only [bP, bW] | (first | apply pX | apply bX) <;> intro hc | refine ⟨oD, ?_⟩ | exact oD | fail)
theorem r17Times_ok (n1 n2 : Bool) {a1 a2 : Bytes} (h1 : a1.length < 1048576) (h2 : a2.length < 1048576) : EvP Tryz.prog 272 [.agg [.b n1, .s a1], .agg [.b n2, .s a2]] (.agg [.b ((n1 != n2) && !(bts (num a1 * num a2) == [])), .s (bts (num a1 * num a2))]) := by
 have ht := rTimes_ok a1 a2 h1 h2
 have h := rfix_ok (n1 != n2) (bts (num a1 * num a2))
 refine eW Tryz.call272 Tryz.func272 ?_
 repeat' (first | simp only [go_sem, seval] | refine cP ht ?_ | refine cP h ?_ | simp (disch := first | assumption | omega) only [bP, bW] | (first | apply pX | apply bX) <;> intro hc | refine ⟨oD, ?_⟩ | exact oD | fail)
theorem rforms_ok (l : List (Bool × Bytes)) (hl : l.length < 1000000) : EvP Tryz.prog 201 [.sl (l.map ipv)] (.b (l.all izok)) := by
 have l5 : (l.map ipv).length = l.length := List.length_map ..
 refine eW Tryz.call201 Tryz.func201 ?_
 repeat' (first | simp only [go_sem, seval] | simp (disch := first | assumption | omega) only [bP, bW] | (first | apply pX | apply bX) <;> intro hc | refine ⟨oD, ?_⟩ | exact oD | fail)
 refine loop_run (α := Nat) (fun i => l.length - i) (fun i => ⟨[(0, .v (.sl (l.map ipv))), (3, E' i)], [], _⟩) (fun i => i ≤ l.length ∧ (l.drop i).all izok = l.all izok) 0 (fun _ => Nat.le_refl _) ⟨Nat.zero_le _, rfl⟩ ?_ ?_
 ·exact lE
 ·rintro i ⟨hi, hf⟩ R hR
  rw [← hf]
  by_cases hlt : i < l.length
  ·have e1 := getD_map ipv l d0I hlt
   have hgo := hR (i + 1)
   rw [← hf] at hgo
   rw [drop_getD d0I hlt, List.all_cons] at hgo ⊢
   obtain ⟨x, hx⟩ : ∃ x, x = l.getD i d0I := ⟨_, rfl⟩
   rw [← hx] at e1 hgo ⊢
   clear hx hf hR
   obtain ⟨n, a⟩ := x
   have hv := rIValid_ok n a
   have e : izok (n, a) = (validN a && !(n && a == [])) := rfl
   rw [e] at hgo ⊢
   clear e
   simp only [ipv] at e1
   generalize (validN a && !(n && a == [])) = b at *
   cases b
   ·repeat' (first | simp only [go_sem, seval, l5, e1] | refine cP hv ?_ | simp (disch := first | assumption | omega) only [bP, bW] | (first | apply pX | apply bX) <;> intro hc | refine ⟨oD, ?_⟩ | exact oD | fail)
    all_goals simp
   ·have hgo := hgo ⟨by omega, by simp⟩ (by omega)
    repeat' (first | simp only [go_sem, seval, l5, e1] | refine cP hv ?_ | simp (disch := first | assumption | omega) only [bP, bW] | (first | apply pX | apply bX) <;> intro hc | refine ⟨oD, ?_⟩ | exact oD | fail)
    refine hgo _ ?_
    exact lE
  ·obtain rfl : i = l.length := by omega
   rw [List.drop_length]
   repeat' (first | simp only [go_sem, seval, l5] | simp (disch := first | assumption | omega) only [bP, bW] | (first | apply pX | apply bX) <;> intro hc | refine ⟨oD, ?_⟩ | exact oD | fail)
   all_goals rfl
theorem rwithin_ok {s : Stm} {i : Nat} (hi : i < s.vars.length) (hb : s.vars.getD i [] ≠ []) {n : Bool} {a : Bytes} (va : validN a = true) {L : Nat} (hL : L < LIM) : EvP Tryz.prog 202 [s.pv, E i, .agg [.b n, .s a], N L] (.b (decide (num a < L))) := by
 have hbb : (s.vars.getD i [] == ([] : Bytes)) = false := by simpa using hb
 have hla := len_of va
 have hc := rOrder_ok (a := a) (b := bts L) (canon_of va) (bts_canon L) (by omega) (by have := lim_len.2 hL; omega)
 rw [num_bts] at hc
 have hd : ∀ _ : True, decide (cmpN (num a) L < 0) = decide (num a < L) := fun _ => by rw [Bool.eq_iff_iff]; simp only [decide_eq_true_eq]; exact cmpN_lt
 have e1 := getD_map vpv s.vars [] hi
 have l2 : (s.vars.map vpv).length = s.vars.length := List.length_map ..
 generalize cmpN (num a) L = cm at *
 generalize s.vars.getD i [] = b at *
 simp only [vpv] at e1
 unfold Stm.pv
 refine eW Tryz.call202 Tryz.func202 ?_
 repeat' (first | simp only [go_sem, seval, hbb, hd trivial, l2, e1] | refine cP hc ?_ | simp (disch := first | assumption | omega) only [bP, bW] | (first | apply pX | apply bX) <;> intro hc | refine ⟨oD, ?_⟩ | exact oD | fail)
 all_goals simp_all
theorem msg_eq {m o : Bytes} {tg b : Nat} (hE : gE m o = 0) (gt : GP m o tg) (gb : GP m o b) (c : Bytes) (n rn : Bool) (a ra : Nat) : prodF (num m) 1 [(tg, !(c == []), c), (b, (n != rn) && !(bts (a * ra) == []), bts (a * ra))] = powZ (num m) tg (!(c == [])) (num c) * powZ (num m) (powZ (num m) b n a) rn ra % num m := by
 have m1 := (gE_m hE).2.2.1
 have h0 : 0 < num m := by omega
 simp only [prodF]
 rw [Nat.one_mul, num_bts, powZ_powZ gb.unit h0]
 have e1 : powZ (num m) tg (!(c == [])) (num c) % num m = powZ (num m) tg (!(c == [])) (num c) := Nat.mod_eq_of_lt (Nat.mod_lt _ h0)
 rw [e1]
 by_cases hz : a * ra = 0
 ·rw [hz, powZ_zero, powZ_zero]
 ·have : (bts (a * ra) == ([] : Bytes)) = false := nilF hz
  rw [this]; simp
def OneT (s : Stm) : Prop := ∀ q ∈ s.eqs, ∃ t, q.terms = [t] ∧ t.abs.length ≤ 8
theorem r17first_ok {s : Stm} (hs : StOK s) (h1 : OneT s) (h0 : s.eqs ≠ []) {c : Bytes} (vc : validN c = true) {l : List (Bool × Bytes)} (hlen : l.length = s.vars.length) (hl : ∀ x ∈ l, izok x = true ∧ x.2.length ≤ 24) : EvP Tryz.prog 203 [s.pv, .s c, .sl (l.map ipv)] (.sl (s.eqs.map fun q => N (msgQ s.groups c l q))) := by
 have hsE := hs
 obtain ⟨gs, vs, es⟩ := s
 obtain ⟨hg, hv, hq, ng, nv, ne⟩ := hs
 simp only [OneT] at hg hv hq ng nv ne h0 hlen h1
 have hpos : 0 < es.length := List.length_pos_iff.2 h0
 have l1 : (gs.map gpv).length = gs.length := List.length_map ..
 have l3 : (es.map Eqn.pv).length = es.length := List.length_map ..
 have l5 : (l.map ipv).length = l.length := List.length_map ..
 have nt := r17Neg_ok false c
 have hM : RowOK (fun q => N (msgQ gs c l q)) 1 := ⟨fun _ => rfl, fun _ y hy => by cases List.mem_singleton.1 hy; rfl, fun _ _ => rfl, fun h => absurd rfl h⟩
 have row1 : ∀ {i : Nat}, i < es.length → rowF (fun q => N (msgQ gs c l q)) (es.take (i + 1)) = rowF (fun q => N (msgQ gs c l q)) (es.take i) ++ [.v (N (msgQ gs c l (es.getD i d0Q)))] := fun h => by
  rw [take_succ_getD d0Q h, rowF_snoc]; rfl
 have rn1 : rowF (fun q => N (msgQ gs c l q)) [] = [] := rfl
 unfold Stm.pv
 simp only
 refine eW Tryz.call203 Tryz.func203 ?_
 repeat' (first | simp only [go_sem, seval] | simp (disch := first | assumption | omega) only [bP, bW] | (first | apply pX | apply bX) <;> intro hc | refine ⟨oD, ?_⟩ | exact oD | fail)
 refine loop_unroll' ?_
 have e1 := getD_map Eqn.pv es d0Q hpos
 obtain ⟨q1, q2, q3, q4, q5⟩ := hq _ (mem_getD d0Q hpos)
 obtain ⟨tt, htt, hta⟩ := h1 _ (mem_getD d0Q hpos)
 have r1 := row1 hpos
 obtain ⟨x, hx⟩ : ∃ x, x = es.getD 0 d0Q := ⟨_, rfl⟩
 rw [← hx] at e1 q1 q2 q3 q4 q5 r1 htt
 clear hx
 obtain ⟨gr, tg, ts⟩ := x
 simp only at q1 q2 q3 q4 q5 htt
 subst htt
 obtain ⟨t1, t2, t3, t4⟩ := q5 tt (List.mem_singleton.2 rfl)
 obtain ⟨b, v, n, a⟩ := tt
 simp only at t1 t2 t3 t4 hta
 have hgl : gr.toNat < gs.length := by omega
 have kg := hg _ (mem_getD d0G hgl)
 have e3 := getD_map gpv gs d0G hgl
 have hmQ : msgQ gs c l ⟨gr, tg, [⟨b, v, n, a⟩]⟩ = powZ (num (gs.getD gr.toNat d0G).1) (num tg) (!(c == [])) (num c) * powZ (num (gs.getD gr.toNat d0G).1) (powZ (num (gs.getD gr.toNat d0G).1) (num b) n (num a)) (l.getD v.toNat d0I).1 (num (l.getD v.toNat d0I).2) % num (gs.getD gr.toNat d0G).1 := rfl
 obtain ⟨z, hz⟩ : ∃ z, z = gs.getD gr.toNat d0G := ⟨_, rfl⟩
 rw [← hz] at q3 t3 kg e3 hmQ
 clear hz q5
 obtain ⟨m, o⟩ := z
 simp only at q3 t3 kg hmQ
 obtain ⟨vt, gt⟩ := (gHas_iff kg.1).1 q3
 obtain ⟨vb, gb⟩ := (gHas_iff kg.1).1 t3
 have hvl : v.toNat < l.length := by omega
 have e4 := getD_map ipv l d0I hvl
 have kr := hl _ (mem_getD d0I hvl)
 obtain ⟨w, hw⟩ : ∃ w, w = l.getD v.toNat d0I := ⟨_, rfl⟩
 rw [← hw] at e4 kr hmQ
 clear hw
 obtain ⟨rn, ra⟩ := w
 obtain ⟨kr1, kr2⟩ := kr
 simp only [izok, Bool.and_eq_true, Bool.not_eq_true'] at kr1
 simp only at kr2
 have hpl : num a * num ra < 256 ^ 32 := by
  have h1 : num a < 256 ^ 8 := Nat.lt_of_lt_of_le (num_lt a) (Nat.pow_le_pow_right (by decide) hta)
  have h2 : num ra < 256 ^ 24 := Nat.lt_of_lt_of_le (num_lt ra) (Nat.pow_le_pow_right (by decide) kr2)
  have := Nat.mul_lt_mul'' h1 h2
  rwa [← Nat.pow_add] at this
 have vp : validN (bts (num a * num ra)) = true := vB (Nat.lt_of_lt_of_le hpl (Nat.pow_le_pow_right (by decide) (by decide)))
 have tm := r17Times_ok n rn (a1 := a) (a2 := ra) (by omega) (by omega)
 have hp := r13Product_ok kg.2.1 kg.2.2 kg.1 [(num tg, !(c == []), c), (num b, (n != rn) && !(bts (num a * num ra) == []), bts (num a * num ra))] (by simp) (by
  intro p hp
  simp only [List.mem_cons, List.not_mem_nil, or_false] at hp
  rcases hp with rfl | rfl
  ·exact ⟨gt, vc, by cases (c == ([] : Bytes)) <;> rfl⟩
  ·refine ⟨gb, vp, ?_⟩
   simp only
   cases (bts (num a * num ra) == ([] : Bytes)) <;> simp)
 rw [msg_eq kg.1 gt gb, ← hmQ] at hp
 simp only [List.map_cons, List.map_nil, exG, N_of vt, N_of vb] at hp
 clear hmQ gt gb vt vb vp hpl q3 t3 kg kr1
 have hd3 : ∀ _ : True, v < (l.length : Int) := fun _ => by omega
 have l4 : ([Trm.pv ⟨b, v, n, a⟩] : List PV).length = 1 := rfl
 simp only [gpv] at e3
 simp only [ipv] at e4
 simp only [Eqn.pv, List.map_cons, List.map_nil, Trm.pv] at e1
 generalize msgQ gs c l ⟨gr, tg, [⟨b, v, n, a⟩]⟩ = mm at *
 generalize bts (num a * num ra) = pp at *
 generalize ((n != rn) && !(pp == [])) = sg at *
 repeat' (first | simp only [go_sem, seval, l1, l3, e1, e3, e4, l5] | refine cP nt ?_ | simp (disch := first | assumption | omega) only [bP, bW] | (first | apply pX | apply bX) <;> intro hc | refine ⟨oD, ?_⟩ | exact oD | fail)
 refine loop_unroll' ?_
 repeat' (first | simp only [go_sem, seval, l1, l3, e1, e3, e4, l5, hd3 trivial] | refine cP nt ?_ | refine cP tm ?_ | simp (disch := first | assumption | omega) only [bP, bW] | (first | apply pX | apply bX) <;> intro hc | refine ⟨oD, ?_⟩ | exact oD | fail)
 refine loop_unroll' ?_
 repeat' (first | simp only [go_sem, seval, l1, l3, e1, e3, e4, l5, viewN] | refine cP nt ?_ | refine cP tm ?_ | refine cV hp ?_ | simp (disch := first | assumption | omega) only [bP, bW] | (first | apply pX | apply bX) <;> intro hc | refine ⟨oD, ?_⟩ | exact oD | fail)
 refine loop_run (α := Nat) (fun j => es.length - (j + 1)) (fun j => ⟨[(1, .v (.s c)), (2, .v (.sl (l.map ipv))), (3, .p 1000 0 0), (7, .rs 1086 j 0 (j + 1) 1), (8, E' (j + 1))], [(1000, ⟨0, [.v (.sl (gs.map gpv)), .v (.sl (vs.map vpv)), .v (.sl (es.map Eqn.pv))], false, none⟩), (1086, ⟨j, rowF (fun q => N (msgQ gs c l q)) (es.take (j + 1)), true, some 22⟩)], 1091⟩) (fun j => j + 1 ≤ es.length) 0 (fun _ => Nat.le_of_ble_eq_true rfl) hpos ?_ ?_
 ·rw [Nat.zero_add, r1, List.take_zero, rn1]
  exact lE
 ·clear e1 e3 e4 q1 q2 q4 r1 l4 tm hp t1 t2 kr2 hta hgl hvl hd3
  intro i hi R hR
  have hj1 : (es.take (i + 1)).length = i + 1 := by rw [List.length_take]; omega
  have p1 := rowF_len hM (es.take (i + 1))
  have p2 := rowF_take hM (es.take (i + 1))
  rw [hj1, Nat.mul_one] at p1 p2
  have hw1 : ∀ _ : True, ((i : Int) + 1) = ((i + 1 : Nat) : Int) := fun _ => by omega
  by_cases hlt : i + 1 < es.length
  ·have hgo := hR (i + 1) (by omega) (by omega)
   clear hR
   have e1 := getD_map Eqn.pv es d0Q hlt
   obtain ⟨q1, q2, q3, q4, q5⟩ := hq _ (mem_getD d0Q hlt)
   obtain ⟨tt, htt, hta⟩ := h1 _ (mem_getD d0Q hlt)
   have r1 := row1 hlt
   obtain ⟨x, hx⟩ : ∃ x, x = es.getD (i + 1) d0Q := ⟨_, rfl⟩
   rw [← hx] at e1 q1 q2 q3 q4 q5 r1 htt
   clear hx
   obtain ⟨gr, tg, ts⟩ := x
   simp only at q1 q2 q3 q4 q5 htt
   subst htt
   obtain ⟨t1, t2, t3, t4⟩ := q5 tt (List.mem_singleton.2 rfl)
   obtain ⟨b, v, n, a⟩ := tt
   simp only at t1 t2 t3 t4 hta
   have hgl : gr.toNat < gs.length := by omega
   have kg := hg _ (mem_getD d0G hgl)
   have e3 := getD_map gpv gs d0G hgl
   have hmQ : msgQ gs c l ⟨gr, tg, [⟨b, v, n, a⟩]⟩ = powZ (num (gs.getD gr.toNat d0G).1) (num tg) (!(c == [])) (num c) * powZ (num (gs.getD gr.toNat d0G).1) (powZ (num (gs.getD gr.toNat d0G).1) (num b) n (num a)) (l.getD v.toNat d0I).1 (num (l.getD v.toNat d0I).2) % num (gs.getD gr.toNat d0G).1 := rfl
   obtain ⟨z, hz⟩ : ∃ z, z = gs.getD gr.toNat d0G := ⟨_, rfl⟩
   rw [← hz] at q3 t3 kg e3 hmQ
   clear hz q5
   obtain ⟨m, o⟩ := z
   simp only at q3 t3 kg hmQ
   obtain ⟨vt, gt⟩ := (gHas_iff kg.1).1 q3
   obtain ⟨vb, gb⟩ := (gHas_iff kg.1).1 t3
   have hvl : v.toNat < l.length := by omega
   have e4 := getD_map ipv l d0I hvl
   have kr := hl _ (mem_getD d0I hvl)
   obtain ⟨w, hw⟩ : ∃ w, w = l.getD v.toNat d0I := ⟨_, rfl⟩
   rw [← hw] at e4 kr hmQ
   clear hw
   obtain ⟨rn, ra⟩ := w
   obtain ⟨kr1, kr2⟩ := kr
   simp only [izok, Bool.and_eq_true, Bool.not_eq_true'] at kr1
   simp only at kr2
   have hpl : num a * num ra < 256 ^ 32 := by
    have h1 : num a < 256 ^ 8 := Nat.lt_of_lt_of_le (num_lt a) (Nat.pow_le_pow_right (by decide) hta)
    have h2 : num ra < 256 ^ 24 := Nat.lt_of_lt_of_le (num_lt ra) (Nat.pow_le_pow_right (by decide) kr2)
    have := Nat.mul_lt_mul'' h1 h2
    rwa [← Nat.pow_add] at this
   have vp : validN (bts (num a * num ra)) = true := vB (Nat.lt_of_lt_of_le hpl (Nat.pow_le_pow_right (by decide) (by decide)))
   have tm := r17Times_ok n rn (a1 := a) (a2 := ra) (by omega) (by omega)
   have hp := r13Product_ok kg.2.1 kg.2.2 kg.1 [(num tg, !(c == []), c), (num b, (n != rn) && !(bts (num a * num ra) == []), bts (num a * num ra))] (by simp) (by
    intro p hp
    simp only [List.mem_cons, List.not_mem_nil, or_false] at hp
    rcases hp with rfl | rfl
    ·exact ⟨gt, vc, by cases (c == ([] : Bytes)) <;> rfl⟩
    ·refine ⟨gb, vp, ?_⟩
     simp only
     cases (bts (num a * num ra) == ([] : Bytes)) <;> simp)
   rw [msg_eq kg.1 gt gb, ← hmQ] at hp
   simp only [List.map_cons, List.map_nil, exG, N_of vt, N_of vb] at hp
   clear hmQ gt gb vt vb vp hpl q3 t3 kg kr1
   have hd3 : ∀ _ : True, v < (l.length : Int) := fun _ => by omega
   have l4 : ([Trm.pv ⟨b, v, n, a⟩] : List PV).length = 1 := rfl
   simp only [gpv] at e3
   simp only [ipv] at e4
   simp only [Eqn.pv, List.map_cons, List.map_nil, Trm.pv] at e1
   generalize msgQ gs c l ⟨gr, tg, [⟨b, v, n, a⟩]⟩ = mm at *
   generalize bts (num a * num ra) = pp at *
   generalize ((n != rn) && !(pp == [])) = sg at *
   rw [r1] at hgo
   repeat' (first | simp only [go_sem, seval, l1, l3, e1, e3, e4, l5] | refine cP nt ?_ | simp (disch := first | assumption | omega) only [bP, bW] | (first | apply pX | apply bX) <;> intro hc | refine ⟨oD, ?_⟩ | exact oD | fail)
   refine loop_unroll' ?_
   repeat' (first | simp only [go_sem, seval, l1, l3, e1, e3, e4, l5, hd3 trivial] | refine cP nt ?_ | refine cP tm ?_ | simp (disch := first | assumption | omega) only [bP, bW] | (first | apply pX | apply bX) <;> intro hc | refine ⟨oD, ?_⟩ | exact oD | fail)
   refine loop_unroll' ?_
   repeat' (first | simp only [go_sem, seval, l1, l3, e1, e3, e4, l5, viewN, p1, p2] | refine cP nt ?_ | refine cP tm ?_ | refine cV hp ?_ | simp (disch := first | assumption | omega) only [bP, bW] | (first | apply pX | apply bX) <;> intro hc | refine ⟨oD, ?_⟩ | exact oD | fail)
   refine hgo _ ?_
   (refine AS.Le.of (by first | decide | omega) ?_ ?_ <;> simp [LeT, LeH, tget, hget, AV.bd, AV.bd.bdL, u8, bd_cellsOf, bcells_bd, icells_bd])
   all_goals (intro c hc; rcases hc with h | h <;> first | exact bd_row h | (subst h; rfl))
  ·obtain hjv : i + 1 = es.length := by omega
   rw [hjv, List.take_length] at p1 p2
   rw [hjv, List.take_length]
   have p3 := rowF_all hM es
   have p4 : chunk 1 es.length (List.flatMap (fun x => [PV.s (bts (msgQ gs c l x))]) es) = es.map fun q => N (msgQ gs c l q) := rowF_chunk hM es
   repeat' (first | simp only [go_sem, seval, l3, p1, p2, p3, p4, rowF_mapO] | simp (disch := first | assumption | omega) only [bP, bW] | (first | apply pX | apply bX) <;> intro hc | refine ⟨oD, ?_⟩ | exact oD | fail)
theorem r17First_ok {c sl : Bytes} (hr : RuOK c sl) {s : Stm} (hs : StOK s) (h1 : OneT s) (h0 : s.vars ≠ []) (h2 : s.eqs ≠ []) {ch : Bytes} {l : List (Bool × Bytes)} (hll : l.length < 1000000) (h24 : ∀ x ∈ l, x.2.length ≤ 24) : EvP Tryz.prog 119 [.agg [.s c, .s sl], s.pv, .s ch, .sl (l.map ipv)] (.tup [.sl (firL c sl s ch l), E (firE c sl s.vars ch l)]) := by
 have hb := r16Bounds_ok hr hs h0
 have vh := rValid_ok ch
 have hi := rforms_ok l hll
 have l5 : (l.map ipv).length = l.length := List.length_map ..
 have l2 : (s.vars.map vpv).length = s.vars.length := List.length_map ..
 have l6 : (s.vars.map fun b => N (limR c sl b)).length = s.vars.length := List.length_map ..
 have nv := hs.nv
 by_cases g1 : validN ch = true ∧ l.all izok = true
 case neg =>
  have e : (validN ch && l.all izok) = false := by rw [Bool.eq_false_iff]; intro g; simp at g; exact g1 ⟨g.1, by simpa [List.all_eq_true] using g.2⟩
  have e2 : firE c sl s.vars ch l = 3 := by simp only [firE, e]; rfl
  rw [firL, if_neg (by rw [e2]; decide), e2]
  clear e2 hs
  unfold Stm.pv at *
  generalize validN ch = b1 at *
  generalize l.all izok = b2 at *
  refine eW Tryz.call119 Tryz.func119 ?_
  repeat' (first | simp only [go_sem, seval] | refine cP hb ?_ | refine cP vh ?_ | refine cP hi ?_ | simp (disch := first | assumption | omega) only [bP, bW] | (first | apply pX | apply bX) <;> intro hc | refine ⟨oD, ?_⟩ | exact oD | fail)
  all_goals (exfalso; simp_all)
 obtain ⟨vc, hok⟩ := g1
 rw [vc] at vh
 rw [hok] at hi
 have hlc := len_of vc
 have hrl := hr.lc
 have hcm := rOrder_ok (canon_of vc) (canon_of hr.vc) (by omega) (by omega)
 by_cases g2 : num c ≤ num ch
 ·have e2 : firE c sl s.vars ch l = 2 := by simp only [firE, vc, hok]; rw [if_neg (by simp), if_pos g2]
  have hd : ∀ _ : True, decide (cmpN (num ch) (num c) ≥ 0) = true := fun _ => decide_eq_true (cmpN_ge.2 g2)
  rw [firL, if_neg (by rw [e2]; decide), e2]
  generalize cmpN (num ch) (num c) = cm at *
  clear e2 hs
  unfold Stm.pv at *
  refine eW Tryz.call119 Tryz.func119 ?_
  repeat' (first | simp only [go_sem, seval, hd trivial] | refine cP hb ?_ | refine cP vh ?_ | refine cP hi ?_ | refine cP hcm ?_ | simp (disch := first | assumption | omega) only [bP, bW] | (first | apply pX | apply bX) <;> intro hc | refine ⟨oD, ?_⟩ | exact oD | fail)
 have hd : ∀ _ : True, decide (cmpN (num ch) (num c) ≥ 0) = false := fun _ => decide_eq_false (fun g => g2 (cmpN_ge.1 g))
 by_cases g3 : l.length = s.vars.length
 case neg =>
  have e2 : firE c sl s.vars ch l = 6 := by simp only [firE, vc, hok]; rw [if_neg (by simp), if_neg g2, if_pos g3]
  rw [firL, if_neg (by rw [e2]; decide), e2]
  generalize cmpN (num ch) (num c) = cm at *
  clear e2 hs
  unfold Stm.pv at *
  refine eW Tryz.call119 Tryz.func119 ?_
  repeat' (first | simp only [go_sem, seval, hd trivial, l5, l2] | refine cP hb ?_ | refine cP vh ?_ | refine cP hi ?_ | refine cP hcm ?_ | simp (disch := first | assumption | omega) only [bP, bW] | (first | apply pX | apply bX) <;> intro hc | refine ⟨oD, ?_⟩ | exact oD | fail)
  all_goals (exfalso; omega)
 have hms := r17first_ok hs h1 h2 vc g3 (fun x hx => ⟨List.all_eq_true.1 hok x hx, h24 x hx⟩)
 have hv := hs.v
 have hval : ∀ x ∈ l, validN x.2 = true := fun x hx => by
  have := List.all_eq_true.1 hok x hx
  simp only [izok, Bool.and_eq_true] at this; exact this.1
 have e0 : firE c sl s.vars ch l = if !okR c sl s.vars l then 2 else 0 := by
  simp only [firE, vc, hok]; rw [if_neg (by simp), if_neg g2, if_neg (by omega)]
 have hwi : ∀ {i : Nat}, i < s.vars.length → EvP Tryz.prog 202 [s.pv, E i, .agg [.b (l.getD i d0I).1, .s (l.getD i d0I).2], N (limR c sl (s.vars.getD i []))] (.b (decide (num (l.getD i d0I).2 < limR c sl (s.vars.getD i [])))) := fun {i} hlt => by
  obtain ⟨k1, k2, k3⟩ := hv _ (mem_getD [] hlt)
  exact rwithin_ok hlt k2 (hval _ (mem_getD d0I (by omega))) (limR_lt hr k3)
 unfold firL
 rw [e0]
 clear e0 hs hok h1
 obtain ⟨gs, vs, es⟩ := s
 simp only at *
 unfold Stm.pv at *
 simp only at *
 generalize cmpN (num ch) (num c) = cm at *
 refine eW Tryz.call119 Tryz.func119 ?_
 repeat' (first | simp only [go_sem, seval, hd trivial, l5, l2] | refine cP hb ?_ | refine cP vh ?_ | refine cP hi ?_ | refine cP hcm ?_ | simp (disch := first | assumption | omega) only [bP, bW] | (first | apply pX | apply bX) <;> intro hc | refine ⟨oD, ?_⟩ | exact oD | fail)
 refine loop_run (α := Nat) (fun i => vs.length - i) (fun i => ⟨[(2, .v (.s ch)), (3, .v (.sl (l.map ipv))), (5, .p 1001 0 0), (11, .v (.sl (vs.map fun b => N (limR c sl b)))), (13, E' i)], [(1001, ⟨0, [.v (.sl (gs.map gpv)), .v (.sl (vs.map vpv)), .v (.sl (es.map Eqn.pv))], false, none⟩)], _⟩) (fun i => i ≤ vs.length ∧ ∀ j, j < i → num (l.getD j d0I).2 < limR c sl (vs.getD j [])) 0 (fun _ => Nat.le_refl _) ⟨Nat.zero_le _, fun j hj => by omega⟩ ?_ ?_
 ·exact lE
 ·rintro i ⟨hi', hf⟩ R hR
  by_cases hlt : i < vs.length
  ·have e2 := getD_map (fun b => N (limR c sl b)) vs [] hlt
   have hlt2 : i < l.length := by omega
   have e3 := getD_map ipv l d0I hlt2
   have ad := hwi hlt
   have hgo := hR (i + 1)
   by_cases hc2 : num (l.getD i d0I).2 < limR c sl (vs.getD i [])
   ·have hgo := hgo ⟨by omega, fun j hj => by
     by_cases e : j = i
     ·rw [e]; exact hc2
     ·exact hf j (by omega)⟩ (by omega)
    rw [decide_eq_true hc2] at ad
    clear hR hf hc2 hwi
    generalize limR c sl (vs.getD i []) = L at *
    obtain ⟨x, hx⟩ : ∃ x, x = l.getD i d0I := ⟨_, rfl⟩
    rw [← hx] at ad e3
    clear hx
    obtain ⟨xn, xa⟩ := x
    simp only [ipv] at *
    repeat' (first | simp only [go_sem, seval, l2, l5, l6, e2, e3] | refine cP ad ?_ | simp (disch := first | assumption | omega) only [bP, bW] | (first | apply pX | apply bX) <;> intro hc | refine ⟨oD, ?_⟩ | exact oD | fail)
    refine hgo _ ?_
    exact lE
   ·rw [okR_bad hlt hc2]
    rw [decide_eq_false hc2] at ad
    clear hR hf hgo hc2 hwi
    generalize limR c sl (vs.getD i []) = L at *
    obtain ⟨x, hx⟩ : ∃ x, x = l.getD i d0I := ⟨_, rfl⟩
    rw [← hx] at ad e3
    clear hx
    obtain ⟨xn, xa⟩ := x
    simp only [ipv] at *
    repeat' (first | simp only [go_sem, seval, l2, l5, l6, e2, e3] | refine cP ad ?_ | simp (disch := first | assumption | omega) only [bP, bW] | (first | apply pX | apply bX) <;> intro hc | refine ⟨oD, ?_⟩ | exact oD | fail)
    all_goals rfl
  ·obtain rfl : i = vs.length := by omega
   rw [okR_good hf]
   repeat' (first | simp only [go_sem, seval, l2, l5] | refine cP hms ?_ | simp (disch := first | assumption | omega) only [bP, bW] | (first | apply pX | apply bX) <;> intro hc | refine ⟨oD, ?_⟩ | exact oD | fail)
   all_goals rfl
end Go.Proofs.YthbognfeadopjaaGreatDoor
