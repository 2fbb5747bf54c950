/-
  Part of the proof, part 41. Own work.
-/
import Derived.Test.YthbognfeadopjaaGreatDoorM40
set_option linter.all false
namespace Go.Proofs.YthbognfeadopjaaGreatDoor
open Go Go.Dom Go.Num
set_option maxRecDepth 100000
set_option maxHeartbeats 16000000
theorem sBounds_ok {c sl : Bytes} (hr : RuOK c sl) {s : Stm} (hs : StOK s) (h0 : s.vars ≠ []) : EvP Tryz.prog 88 [.agg [.s c, .s sl], s.pv] (.tup [.sl (s.vars.map fun b => N (limM c sl b)), .sl (s.vars.map fun b => N (limR c sl b)), E 0]) := by
 have hb := sbounds_ok hr hs h0
 have nv := hs.nv
 obtain ⟨gs, vs, es⟩ := s
 simp only at hb h0 nv
 clear hs
 have l2 : (vs.map (limP c sl)).length = vs.length := List.length_map ..
 have hpos : 0 < vs.length := List.length_pos_iff.2 h0
 have hM : RowOK (fun b => N (limM c sl b)) 1 := ⟨fun _ => rfl, fun _ y hy => by cases List.mem_singleton.1 hy; rfl, fun _ _ => rfl, fun h => absurd rfl h⟩
 have hR0 : RowOK (fun b => N (limR c sl b)) 1 := ⟨fun _ => rfl, fun _ y hy => by cases List.mem_singleton.1 hy; rfl, fun _ _ => rfl, fun h => absurd rfl h⟩
 have row1 : ∀ {i : Nat}, i < vs.length → rowF (fun b => N (limM c sl b)) (vs.take (i + 1)) = rowF (fun b => N (limM c sl b)) (vs.take i) ++ [.v (N (limM c sl (vs.getD i [])))] := fun h => by
  rw [take_succ_getD [] h, rowF_snoc]; rfl
 have row2 : ∀ {i : Nat}, i < vs.length → rowF (fun b => N (limR c sl b)) (vs.take (i + 1)) = rowF (fun b => N (limR c sl b)) (vs.take i) ++ [.v (N (limR c sl (vs.getD i [])))] := fun h => by
  rw [take_succ_getD [] h, rowF_snoc]; rfl
 unfold Stm.pv at *
 simp only at *
 refine eW Tryz.call88 Tryz.func88 ?_
 repeat' (first | simp only [go_sem, seval, l2] | refine cP hb ?_ | simp (disch := first | assumption | omega) only [bP, bW] | (first | apply pX | apply bX) <;> intro hc | refine ⟨oD, ?_⟩ | exact oD | fail)
 refine loop_unroll' ?_
 have e1 := getD_map (limP c sl) vs [] hpos
 have r1 := row1 hpos
 have r2 := row2 hpos
 have rn1 : rowF (fun b => N (limM c sl b)) [] = [] := rfl
 have rn2 : rowF (fun b => N (limR c sl b)) [] = [] := rfl
 simp only [limP] at e1
 repeat' (first | simp only [go_sem, seval, l2, e1] | simp (disch := first | assumption | omega) only [bP, bW] | (first | apply pX | apply bX) <;> intro hc | refine ⟨oD, ?_⟩ | exact oD | fail)
 refine loop_run (α := Nat) (fun j => vs.length - (j + 1)) (fun j => ⟨[(9, .rs 1029 j 0 (j + 1) 1), (10, .rs 1034 j 0 (j + 1) 1), (22, .v (.sl (vs.map (limP c sl)))), (23, E' vs.length), (24, E' (j + 1))], [(1029, ⟨j, rowF (fun b => N (limM c sl b)) (vs.take (j + 1)), true, some 22⟩), (1034, ⟨j, rowF (fun b => N (limR c sl b)) (vs.take (j + 1)), true, some 22⟩)], 1039⟩) (fun j => j + 1 ≤ vs.length) 0 (fun _ => Nat.le_of_ble_eq_true rfl) hpos ?_ ?_
 ·rw [Nat.zero_add, r1, r2, List.take_zero, rn1, rn2]
  exact lE
 ·intro j hj R hR
  have hj1 : (vs.take (j + 1)).length = j + 1 := by rw [List.length_take]; omega
  have q1 := rowF_len hM (vs.take (j + 1))
  have q2 := rowF_take hM (vs.take (j + 1))
  have q5 := rowF_len hR0 (vs.take (j + 1))
  have q6 := rowF_take hR0 (vs.take (j + 1))
  rw [hj1, Nat.mul_one] at q1 q2 q5 q6
  have hw1 : ∀ _ : True, ((j : Int) + 1) = ((j + 1 : Nat) : Int) := fun _ => by omega
  by_cases hlt : j + 1 < vs.length
  ·have e1 := getD_map (limP c sl) vs [] hlt
   have r1 := row1 hlt
   have r2 := row2 hlt
   simp only [limP] at e1
   have hgo := hR (j + 1) (by omega) (by omega)
   rw [r1, r2] at hgo
   clear hR
   repeat' (first | simp only [go_sem, seval, l2, e1, q1, q2, q5, q6] | simp (disch := first | assumption | omega) only [bP, bW] | (first | apply pX | apply bX) <;> intro hc | refine ⟨oD, ?_⟩ | exact oD | fail)
   refine hgo _ ?_
   (refine AS.Le.of (by first | decide | omega) ?_ ?_ <;> simp [LeT, LeH, tget, hget, AV.bd, AV.bd.bdL, u8, bd_cellsOf, bcells_bd, icells_bd])
   all_goals (refine ⟨?_, ?_⟩ <;> (intro c hc; rcases hc with h | h <;> first | exact bd_row h | (subst h; rfl)))
  ·obtain hjv : j + 1 = vs.length := by omega
   rw [hjv, List.take_length] at q1 q2 q5 q6
   rw [hjv, List.take_length]
   have q3 := rowF_all hM vs
   have q4 : chunk 1 vs.length (List.flatMap (fun x => [PV.s (bts (limM c sl x))]) vs) = vs.map fun b => N (limM c sl b) := rowF_chunk hM vs
   have q7 := rowF_all hR0 vs
   have q8 : chunk 1 vs.length (List.flatMap (fun x => [PV.s (bts (limR c sl x))]) vs) = vs.map fun b => N (limR c sl b) := rowF_chunk hR0 vs
   repeat' (first | simp only [go_sem, seval, l2, q1, q2, q3, q4, q5, q6, q7, q8, rowF_mapO] | simp (disch := first | assumption | omega) only [bP, bW] | (first | apply pX | apply bX) <;> intro hc | refine ⟨oD, ?_⟩ | exact oD | fail)
   all_goals skip
theorem sints1_ok (x : Bool × Bytes) : EvP Tryz.prog 243 [ipv x] (.b (!izok x)) := by
 obtain ⟨n, a⟩ := x
 have hv := iValid_ok n a
 have e : izok (n, a) = (validN a && !(n && a == [])) := rfl
 rw [e]
 generalize (validN a && !(n && a == [])) = b at *
 simp only [ipv]
 refine eW Tryz.call243 Tryz.func243 ?_
 repeat' (first | simp only [go_sem, seval] | refine cP hv ?_ | simp (disch := first | assumption | omega) only [bP, bW] | (first | apply pX | apply bX) <;> intro hc | refine ⟨oD, ?_⟩ | exact oD | fail)
theorem sints_ok (l : List (Bool × Bytes)) (hl : l.length < 1000000) : EvP Tryz.prog 164 [.sl (l.map ipv)] (.b (l.all izok)) := by
 have h1 := ContainsFuncI_ok l _ _ (by omega) sints1_ok
 have e : (l.all izok) = !(l.any fun x => !izok x) := by
  induction l with
  | nil => rfl
  | cons x l ih =>
   have := ih (by simp at hl; omega)
   rw [List.all_cons, List.any_cons, this]
   ·cases izok x <;> simp
   ·exact ContainsFuncI_ok l _ _ (by simp at hl; omega) sints1_ok
 rw [e]
 generalize (l.any fun x => !izok x) = b at *
 refine eW Tryz.call164 Tryz.func164 ?_
 repeat' (first | simp only [go_sem, seval] | refine cP h1 ?_ | simp (disch := first | assumption | omega) only [bP, bW] | (first | apply pX | apply bX) <;> intro hc | refine ⟨oD, ?_⟩ | exact oD | fail)
theorem sadmits_ok {b : Bytes} (hb : b ≠ []) {n : Bool} {a : Bytes} (va : validN a = true) {L : Nat} (hL : L < LIM) : EvP Tryz.prog 165 [vpv b, N L, .agg [.b n, .s a]] (.b (decide (num a < L))) := by
 have hbb : (b == ([] : Bytes)) = false := by simpa using hb
 have hc := cmpNN (num_of va) hL
 rw [N_of va] at hc
 have hd : ∀ _ : True, decide (cmpN (num a) L < 0) = decide (num a < L) := fun _ => by rw [Bool.eq_iff_iff]; simp only [decide_eq_true_eq]; exact cmpN_lt
 generalize cmpN (num a) L = cm at *
 unfold vpv
 refine eW Tryz.call165 Tryz.func165 ?_
 repeat' (first | simp only [go_sem, seval, hbb, hd trivial] | refine cP hc ?_ | simp (disch := first | assumption | omega) only [bP, bW] | (first | apply pX | apply bX) <;> intro hc | refine ⟨oD, ?_⟩ | exact oD | fail)
 all_goals simp_all
noncomputable def msgT (M : Nat) (l : List (Bool × Bytes)) (x : Nat) (t : Trm) : Nat :=
 x * powZ M (powZ M (num t.base) t.neg (num t.abs)) (l.getD t.var.toNat d0I).1 (num (l.getD t.var.toNat d0I).2) % M
noncomputable def msgQ (gs : List (Bytes × Bytes)) (c : Bytes) (l : List (Bool × Bytes)) (q : Eqn) : Nat :=
 q.terms.foldl (msgT (num (gs.getD q.grp.toNat d0G).1) l) (powZ (num (gs.getD q.grp.toNat d0G).1) (num q.tgt) (!(c == [])) (num c))
theorem NegFrom_ok {c : Bytes} (vc : validN c = true) : EvP Tryz.prog 244 [.agg [.b false, .s c]] (.agg [.b (!(c == [])), .s c]) := by
 have hv := iValid_ok false c
 rw [vc] at hv
 have hm := made_ok true c
 rw [Bool.true_and] at hm
 refine eW Tryz.call244 Tryz.func244 ?_
 repeat' (first | simp only [go_sem, seval] | refine cP hv ?_ | refine cP hm ?_ | simp (disch := first | assumption | omega) only [bP, bW] | (first | apply pX | apply bX) <;> intro hc | refine ⟨oD, ?_⟩ | exact oD | fail)
theorem smessages_ok {s : Stm} (hs : StOK s) (h0 : s.eqs ≠ []) {c : Bytes} (vc : validN c = true) {l : List (Bool × Bytes)} (hlen : l.length = s.vars.length) (hl : ∀ x ∈ l, izok x = true) : EvP Tryz.prog 166 [s.pv, .s c, .sl (l.map ipv)] (.sl (s.eqs.map fun q => N (msgQ s.groups c l q))) := by
 obtain ⟨gs, vs, es⟩ := s
 obtain ⟨hg, hv, hq, ng, nv, ne⟩ := hs
 simp only at hg hv hq ng nv ne h0 hlen
 have hpos : 0 < es.length := List.length_pos_iff.2 h0
 have l1 : (gs.map gpv).length = gs.length := List.length_map ..
 have l3 : (es.map Eqn.pv).length = es.length := List.length_map ..
 have l5 : (l.map ipv).length = l.length := List.length_map ..
 have fr := From_ok vc
 have ng' := NegFrom_ok vc
 have hM : RowOK (fun q => N (msgQ gs c l q)) 1 := ⟨fun _ => rfl, fun _ y hy => by cases List.mem_singleton.1 hy; rfl, fun _ _ => rfl, fun h => absurd rfl h⟩
 have row1 : ∀ {i : Nat}, i < es.length → rowF (fun q => N (msgQ gs c l q)) (es.take (i + 1)) = rowF (fun q => N (msgQ gs c l q)) (es.take i) ++ [.v (N (msgQ gs c l (es.getD i d0Q)))] := fun h => by
  rw [take_succ_getD d0Q h, rowF_snoc]; rfl
 have rn1 : rowF (fun q => N (msgQ gs c l q)) [] = [] := rfl
 unfold Stm.pv
 simp only
 refine eW Tryz.call166 Tryz.func166 ?_
 repeat' (first | simp only [go_sem, seval, l3] | simp (disch := first | assumption | omega) only [bP, bW] | (first | apply pX | apply bX) <;> intro hc | refine ⟨oD, ?_⟩ | exact oD | fail)
 refine loop_unroll' ?_
 have e1 := getD_map Eqn.pv es d0Q hpos
 obtain ⟨q1, q2, q3, q4, q5⟩ := hq _ (mem_getD d0Q hpos)
 have r1 := row1 hpos
 obtain ⟨x, hx⟩ : ∃ x, x = es.getD 0 d0Q := ⟨_, rfl⟩
 rw [← hx] at e1 q1 q2 q3 q4 q5 r1
 clear hx
 obtain ⟨gr, tg, ts⟩ := x
 simp only at q1 q2 q3 q4 q5
 have hgl : gr.toNat < gs.length := by omega
 have kg := hg _ (mem_getD d0G hgl)
 have e3 := getD_map gpv gs d0G hgl
 have hmQ : msgQ gs c l ⟨gr, tg, ts⟩ = ts.foldl (msgT (num (gs.getD gr.toNat d0G).1) l) (powZ (num (gs.getD gr.toNat d0G).1) (num tg) (!(c == [])) (num c)) := rfl
 obtain ⟨z, hz⟩ : ∃ z, z = gs.getD gr.toNat d0G := ⟨_, rfl⟩
 rw [← hz] at q3 q5 kg e3 hmQ
 clear hz
 obtain ⟨m, o⟩ := z
 simp only at q3 q5 kg hmQ
 obtain ⟨vt, gt⟩ := (gHas_iff kg.1).1 q3
 have m1 := (gE_m kg.1).2.2.1
 have hzc : (!(c == []) && c == []) = false := by cases (c == ([] : Bytes)) <;> rfl
 have xe := gExp_ok kg.2.1 kg.2.2 kg.1 gt vc hzc
 rw [N_of vt] at xe
 have gx0 := gt.powZ m1 (!(c == [])) (num c)
 obtain ⟨x0, hx0⟩ : ∃ x0, x0 = powZ (num m) (num tg) (!(c == [])) (num c) := ⟨_, rfl⟩
 rw [← hx0] at xe gx0 hmQ
 rw [hmQ] at r1
 clear hx0 hmQ gt vt
 have l4 : (ts.map Trm.pv).length = ts.length := List.length_map ..
 simp only [gpv] at e3
 simp only [Eqn.pv] at e1
 repeat' (first | simp only [go_sem, seval, l1, l3, e1, e3, l4] | refine cP fr ?_ | refine cP ng' ?_ | refine cP xe ?_ | simp (disch := first | assumption | omega) only [bP, bW] | (first | apply pX | apply bX) <;> intro hc | refine ⟨oD, ?_⟩ | exact oD | fail)
 refine loop_run (α := Nat × Nat) (fun s => ts.length - s.1) (fun s => ⟨[(1, .v (.s c)), (2, .v (.sl (l.map ipv))), (3, .p 1000 0 0), (7, .sn), (18, .v (.sl (es.map Eqn.pv))), (19, E' es.length), (20, E' 0), (10, .p 1018 0 0), (11, .v (N s.2)), (41, .v (.sl (ts.map Trm.pv))), (42, E' ts.length), (43, E' s.1)], [(1000, ⟨0, [.v (.sl (gs.map gpv)), .v (.sl (vs.map vpv)), .v (.sl (es.map Eqn.pv))], false, none⟩), (1018, ⟨0, [.v (.s m), .v (.s o)], false, some 26⟩)], 1036⟩) (fun s => s.1 ≤ ts.length ∧ GP m o s.2 ∧ (ts.drop s.1).foldl (msgT (num m) l) s.2 = ts.foldl (msgT (num m) l) x0) (0, x0) (fun _ => Nat.le_of_ble_eq_true rfl) ⟨Nat.zero_le _, gx0, rfl⟩ ?_ ?_
 ·(refine AS.Le.of (by first | decide | omega) ?_ ?_ <;> simp [LeT, LeH, tget, hget, AV.bd, AV.bd.bdL, u8, bd_cellsOf, bcells_bd, icells_bd])
  skip
 ·rintro ⟨j, x⟩ ⟨hj, gx, hf⟩ R' hR'
  simp only at hj gx hf
  by_cases hjt : j < ts.length
  ·have e2 := getD_map Trm.pv ts d0T hjt
   obtain ⟨t1, t2, t3, t4⟩ := q5 _ (mem_getD d0T hjt)
   rw [drop_getD d0T hjt] at hf
   obtain ⟨y, hy⟩ : ∃ y, y = ts.getD j d0T := ⟨_, rfl⟩
   rw [← hy] at e2 t1 t2 t3 t4 hf
   obtain ⟨b, v, n, a⟩ := y
   simp only at t1 t2 t3 t4
   rw [List.foldl_cons] at hf
   obtain ⟨kb1, kb2⟩ := (gHas_iff kg.1).1 t3
   have hvl : v.toNat < l.length := by omega
   have e4 := getD_map ipv l d0I hvl
   have kr := hl _ (mem_getD d0I hvl)
   have hmT : msgT (num m) l x ⟨b, v, n, a⟩ = x * powZ (num m) (powZ (num m) (num b) n (num a)) (l.getD v.toNat d0I).1 (num (l.getD v.toNat d0I).2) % num m := rfl
   obtain ⟨w, hw⟩ : ∃ w, w = l.getD v.toNat d0I := ⟨_, rfl⟩
   rw [← hw] at e4 kr hmT
   obtain ⟨rn, ra⟩ := w
   simp only [izok, Bool.and_eq_true, Bool.not_eq_true'] at t4 kr
   have m1 := (gE_m kg.1).2.2.1
   have x1 := gExp_ok kg.2.1 kg.2.2 kg.1 kb2 t4.1 t4.2
   rw [N_of kb1] at x1
   have gy := kb2.powZ m1 n (num a)
   have x2 := gExp_ok kg.2.1 kg.2.2 kg.1 gy kr.1 kr.2
   have gz := gy.powZ m1 rn (num ra)
   have x3 := gMul_ok kg.2.1 kg.2.2 kg.1 gx gz
   have hgo' := hR' (j + 1, msgT (num m) l x ⟨b, v, n, a⟩) ⟨by show j + 1 ≤ _; omega, by rw [hmT]; exact gx.mul gz, hf⟩ (by show ts.length - (j + 1) < ts.length - j; omega)
   rw [hmT] at hgo'
   clear hR' hy t3 t4 q5 hf hw kb1 kb2 gx gy gz hmT kr
   simp only [Trm.pv] at e2
   simp only [ipv] at e4
   have hd3 : ∀ _ : True, v < (l.length : Int) := fun _ => by omega
   generalize powZ (num m) (powZ (num m) (num b) n (num a)) rn (num ra) = z at *
   generalize powZ (num m) (num b) n (num a) = y at *
   repeat' (first | simp only [go_sem, seval, l3, l4, l5, e2, e4] | refine cP x1 ?_ | refine cP x2 ?_ | refine cP x3 ?_ | simp (disch := first | assumption | omega) only [bP, bW] | (first | apply pX | apply bX) <;> intro hc | refine ⟨oD, ?_⟩ | exact oD | fail)
   refine hgo' _ ?_
   (refine AS.Le.of (by first | decide | omega) ?_ ?_ <;> simp [LeT, LeH, tget, hget, AV.bd, AV.bd.bdL, u8, bd_cellsOf, bcells_bd, icells_bd])
   skip
  ·obtain rfl : j = ts.length := by omega
   rw [List.drop_length] at hf
   simp only [List.foldl_nil] at hf
   subst hf
   repeat' (first | simp only [go_sem, seval, l3, l4] | simp (disch := first | assumption | omega) only [bP, bW] | (first | apply pX | apply bX) <;> intro hc | refine ⟨oD, ?_⟩ | exact oD | fail)
   refine loop_run (α := Nat) (fun j => es.length - (j + 1)) (fun j => ⟨[(1, .v (.s c)), (2, .v (.sl (l.map ipv))), (3, .p 1000 0 0), (7, .rs 1040 j 0 (j + 1) 1), (18, .v (.sl (es.map Eqn.pv))), (19, E' es.length), (20, E' (j + 1))], [(1000, ⟨0, [.v (.sl (gs.map gpv)), .v (.sl (vs.map vpv)), .v (.sl (es.map Eqn.pv))], false, none⟩), (1040, ⟨j, rowF (fun q => N (msgQ gs c l q)) (es.take (j + 1)), true, some 22⟩)], 1044⟩) (fun j => j + 1 ≤ es.length) 0 (fun _ => Nat.le_of_ble_eq_true rfl) hpos ?_ ?_
   ·rw [Nat.zero_add, r1, List.take_zero, rn1]
    exact lE
   ·clear e1 e3 q1 q2 q3 q4 q5 kg gx0 xe r1 l4
    intro i hi R hR
    have hj1 : (es.take (i + 1)).length = i + 1 := by rw [List.length_take]; omega
    have p1 := rowF_len hM (es.take (i + 1))
    have p2 := rowF_take hM (es.take (i + 1))
    rw [hj1, Nat.mul_one] at p1 p2
    have hw1 : ∀ _ : True, ((i : Int) + 1) = ((i + 1 : Nat) : Int) := fun _ => by omega
    by_cases hlt : i + 1 < es.length
    ·have hgo := hR (i + 1) (by omega) (by omega)
     clear hR
     have e1 := getD_map Eqn.pv es d0Q hlt
     obtain ⟨q1, q2, q3, q4, q5⟩ := hq _ (mem_getD d0Q hlt)
     have r1 := row1 hlt
     obtain ⟨x, hx⟩ : ∃ x, x = es.getD (i + 1) d0Q := ⟨_, rfl⟩
     rw [← hx] at e1 q1 q2 q3 q4 q5 r1
     clear hx
     obtain ⟨gr, tg, ts⟩ := x
     simp only at q1 q2 q3 q4 q5
     have hgl : gr.toNat < gs.length := by omega
     have kg := hg _ (mem_getD d0G hgl)
     have e3 := getD_map gpv gs d0G hgl
     have hmQ : msgQ gs c l ⟨gr, tg, ts⟩ = ts.foldl (msgT (num (gs.getD gr.toNat d0G).1) l) (powZ (num (gs.getD gr.toNat d0G).1) (num tg) (!(c == [])) (num c)) := rfl
     obtain ⟨z, hz⟩ : ∃ z, z = gs.getD gr.toNat d0G := ⟨_, rfl⟩
     rw [← hz] at q3 q5 kg e3 hmQ
     clear hz
     obtain ⟨m, o⟩ := z
     simp only at q3 q5 kg hmQ
     obtain ⟨vt, gt⟩ := (gHas_iff kg.1).1 q3
     have m1 := (gE_m kg.1).2.2.1
     have hzc : (!(c == []) && c == []) = false := by cases (c == ([] : Bytes)) <;> rfl
     have xe := gExp_ok kg.2.1 kg.2.2 kg.1 gt vc hzc
     rw [N_of vt] at xe
     have gx0 := gt.powZ m1 (!(c == [])) (num c)
     obtain ⟨x0, hx0⟩ : ∃ x0, x0 = powZ (num m) (num tg) (!(c == [])) (num c) := ⟨_, rfl⟩
     rw [← hx0] at xe gx0 hmQ
     rw [hmQ] at r1
     clear hx0 hmQ gt vt
     have l4 : (ts.map Trm.pv).length = ts.length := List.length_map ..
     simp only [gpv] at e3
     simp only [Eqn.pv] at e1
     rw [r1] at hgo
     repeat' (first | simp only [go_sem, seval, l1, l3, e1, e3, l4] | refine cP fr ?_ | refine cP ng' ?_ | refine cP xe ?_ | simp (disch := first | assumption | omega) only [bP, bW] | (first | apply pX | apply bX) <;> intro hc | refine ⟨oD, ?_⟩ | exact oD | fail)
     refine loop_run (α := Nat × Nat) (fun s => ts.length - s.1) (fun s => ⟨[(1, .v (.s c)), (2, .v (.sl (l.map ipv))), (3, .p 1000 0 0), (7, .rs 1040 i 0 (i + 1) 1), (18, .v (.sl (es.map Eqn.pv))), (19, E' es.length), (20, E' (i + 1)), (10, .p 1055 0 0), (11, .v (N s.2)), (41, .v (.sl (ts.map Trm.pv))), (42, E' ts.length), (43, E' s.1)], [(1000, ⟨0, [.v (.sl (gs.map gpv)), .v (.sl (vs.map vpv)), .v (.sl (es.map Eqn.pv))], false, none⟩), (1055, ⟨0, [.v (.s m), .v (.s o)], false, some 26⟩), (1040, ⟨i, rowF (fun q => N (msgQ gs c l q)) (es.take (i + 1)), true, some 22⟩)], 1073⟩) (fun s => s.1 ≤ ts.length ∧ GP m o s.2 ∧ (ts.drop s.1).foldl (msgT (num m) l) s.2 = ts.foldl (msgT (num m) l) x0) (0, x0) (fun _ => Nat.le_of_ble_eq_true rfl) ⟨Nat.zero_le _, gx0, rfl⟩ ?_ ?_
     ·(refine AS.Le.of (by first | decide | omega) ?_ ?_ <;> simp [LeT, LeH, tget, hget, AV.bd, AV.bd.bdL, u8, bd_cellsOf, bcells_bd, icells_bd])
      all_goals (intro c hc; exact bd_row hc)
     ·rintro ⟨j, x⟩ ⟨hj, gx, hf⟩ R' hR'
      simp only at hj gx hf
      by_cases hjt : j < ts.length
      ·have e2 := getD_map Trm.pv ts d0T hjt
       obtain ⟨t1, t2, t3, t4⟩ := q5 _ (mem_getD d0T hjt)
       rw [drop_getD d0T hjt] at hf
       obtain ⟨y, hy⟩ : ∃ y, y = ts.getD j d0T := ⟨_, rfl⟩
       rw [← hy] at e2 t1 t2 t3 t4 hf
       obtain ⟨b, v, n, a⟩ := y
       simp only at t1 t2 t3 t4
       rw [List.foldl_cons] at hf
       obtain ⟨kb1, kb2⟩ := (gHas_iff kg.1).1 t3
       have hvl : v.toNat < l.length := by omega
       have e4 := getD_map ipv l d0I hvl
       have kr := hl _ (mem_getD d0I hvl)
       have hmT : msgT (num m) l x ⟨b, v, n, a⟩ = x * powZ (num m) (powZ (num m) (num b) n (num a)) (l.getD v.toNat d0I).1 (num (l.getD v.toNat d0I).2) % num m := rfl
       obtain ⟨w, hw⟩ : ∃ w, w = l.getD v.toNat d0I := ⟨_, rfl⟩
       rw [← hw] at e4 kr hmT
       obtain ⟨rn, ra⟩ := w
       simp only [izok, Bool.and_eq_true, Bool.not_eq_true'] at t4 kr
       have m1 := (gE_m kg.1).2.2.1
       have x1 := gExp_ok kg.2.1 kg.2.2 kg.1 kb2 t4.1 t4.2
       rw [N_of kb1] at x1
       have gy := kb2.powZ m1 n (num a)
       have x2 := gExp_ok kg.2.1 kg.2.2 kg.1 gy kr.1 kr.2
       have gz := gy.powZ m1 rn (num ra)
       have x3 := gMul_ok kg.2.1 kg.2.2 kg.1 gx gz
       have hgo' := hR' (j + 1, msgT (num m) l x ⟨b, v, n, a⟩) ⟨by show j + 1 ≤ _; omega, by rw [hmT]; exact gx.mul gz, hf⟩ (by show ts.length - (j + 1) < ts.length - j; omega)
       rw [hmT] at hgo'
       clear hR' hy t3 t4 q5 hf hw kb1 kb2 gx gy gz hmT kr
       simp only [Trm.pv] at e2
       simp only [ipv] at e4
       have hd3 : ∀ _ : True, v < (l.length : Int) := fun _ => by omega
       generalize powZ (num m) (powZ (num m) (num b) n (num a)) rn (num ra) = z at *
       generalize powZ (num m) (num b) n (num a) = y at *
       repeat' (first | simp only [go_sem, seval, l3, l4, l5, e2, e4] | refine cP x1 ?_ | refine cP x2 ?_ | refine cP x3 ?_ | simp (disch := first | assumption | omega) only [bP, bW] | (first | apply pX | apply bX) <;> intro hc | refine ⟨oD, ?_⟩ | exact oD | fail)
       refine hgo' _ ?_
       (refine AS.Le.of (by first | decide | omega) ?_ ?_ <;> simp [LeT, LeH, tget, hget, AV.bd, AV.bd.bdL, u8, bd_cellsOf, bcells_bd, icells_bd])
       all_goals (intro c hc; exact bd_row hc)
      ·obtain rfl : j = ts.length := by omega
       rw [List.drop_length] at hf
       simp only [List.foldl_nil] at hf
       subst hf
       repeat' (first | simp only [go_sem, seval, l3, l4, p1, p2] | simp (disch := first | assumption | omega) only [bP, bW] | (first | apply pX | apply bX) <;> intro hc | refine ⟨oD, ?_⟩ | exact oD | fail)
       refine hgo _ ?_
       (refine AS.Le.of (by first | decide | omega) ?_ ?_ <;> simp [LeT, LeH, tget, hget, AV.bd, AV.bd.bdL, u8, bd_cellsOf, bcells_bd, icells_bd])
       all_goals (intro c hc; rcases hc with h | h <;> first | exact bd_row h | (subst h; rfl))
    ·obtain hjv : i + 1 = es.length := by omega
     rw [hjv, List.take_length] at p1 p2
     rw [hjv, List.take_length]
     have p3 := rowF_all hM es
     have p4 : chunk 1 es.length (List.flatMap (fun x => [PV.s (bts (msgQ gs c l x))]) es) = es.map fun q => N (msgQ gs c l q) := rowF_chunk hM es
     repeat' (first | simp only [go_sem, seval, l3, p1, p2, p3, p4, rowF_mapO] | simp (disch := first | assumption | omega) only [bP, bW] | (first | apply pX | apply bX) <;> intro hc | refine ⟨oD, ?_⟩ | exact oD | fail)
end Go.Proofs.YthbognfeadopjaaGreatDoor
