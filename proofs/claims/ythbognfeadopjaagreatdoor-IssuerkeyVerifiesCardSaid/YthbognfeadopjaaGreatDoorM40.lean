/-
  Part of the proof, part 40. Own work.
-/
import Derived.Test.YthbognfeadopjaaGreatDoorM33
set_option linter.all false
namespace Go.Proofs.YthbognfeadopjaaGreatDoor
open Go Go.Dom Go.Num
set_option maxRecDepth 100000
set_option maxHeartbeats 16000000
theorem lform_ok {s : Stm} (hs : StOK s) : EvP Tryz.prog 232 [s.pv] (E 0) := by
 obtain ⟨gs, vs, es⟩ := s
 obtain ⟨hg, hv, hq, ng, nv, ne⟩ := hs
 simp only at hg hv hq ng nv ne
 have l1 : (gs.map gpv).length = gs.length := List.length_map ..
 have l2 : (vs.map vpv).length = vs.length := List.length_map ..
 have l3 : (es.map Eqn.pv).length = es.length := List.length_map ..
 unfold Stm.pv
 simp only
 refine eW Tryz.call232 Tryz.func232 ?_
 repeat' (first | simp only [go_sem, seval, l1] | simp (disch := first | assumption | omega) only [bP, bW] | (first | apply pX | apply bX) <;> intro hc | refine ⟨oD, ?_⟩ | exact oD | fail)
 refine loop_run (α := Nat) (fun i => gs.length - i) (fun i => ⟨[(1, .p 1000 0 0), (12, .v (.sl (gs.map gpv))), (13, E' gs.length), (14, E' i)], [(1000, ⟨0, [.v (.sl (gs.map gpv)), .v (.sl (vs.map vpv)), .v (.sl (es.map Eqn.pv))], false, none⟩)], _⟩) (fun i => i ≤ gs.length) 0 (fun _ => Nat.le_refl _) (Nat.zero_le _) ?_ ?_
 ·exact lE
 ·intro i hi R hR
  by_cases hlt : i < gs.length
  ·have e1 := getD_map gpv gs d0G hlt
   have k := hg _ (mem_getD d0G hlt)
   have hgo := hR (i + 1) (by omega) (by omega)
   obtain ⟨x, hx⟩ : ∃ x, x = gs.getD i d0G := ⟨_, rfl⟩
   rw [← hx] at e1 k
   obtain ⟨m, o⟩ := x
   obtain ⟨vm, vo, -⟩ := gE_m k.1
   have v1 := natValid m
   have v2 := natValid o
   rw [vm] at v1
   rw [vo] at v2
   clear hR hx k vm vo
   simp only [gpv] at e1
   repeat' (first | simp only [go_sem, seval, l1, e1] | refine cP v1 ?_ | refine cP v2 ?_ | simp (disch := first | assumption | omega) only [bP, bW] | (first | apply pX | apply bX) <;> intro hc | refine ⟨oD, ?_⟩ | exact oD | fail)
   refine hgo _ ?_
   exact lE
  ·obtain rfl : i = gs.length := by omega
   repeat' (first | simp only [go_sem, seval, l1, l2] | simp (disch := first | assumption | omega) only [bP, bW] | (first | apply pX | apply bX) <;> intro hc | refine ⟨oD, ?_⟩ | exact oD | fail)
   refine loop_run (α := Nat) (fun i => vs.length - i) (fun i => ⟨[(1, .p 1000 0 0), (30, .v (.sl (vs.map vpv))), (31, E' vs.length), (32, E' i)], [(1000, ⟨0, [.v (.sl (gs.map gpv)), .v (.sl (vs.map vpv)), .v (.sl (es.map Eqn.pv))], false, none⟩)], _⟩) (fun i => i ≤ vs.length) 0 (fun _ => Nat.le_refl _) (Nat.zero_le _) ?_ ?_
   ·exact lE
   ·intro i hi R hR
    by_cases hlt : i < vs.length
    ·have e1 := getD_map vpv vs [] hlt
     have k := hv _ (mem_getD [] hlt)
     have hgo := hR (i + 1) (by omega) (by omega)
     obtain ⟨x, hx⟩ : ∃ x, x = vs.getD i [] := ⟨_, rfl⟩
     rw [← hx] at e1 k
     have v1 := natValid x
     rw [k.1] at v1
     clear hR hx k
     simp only [vpv] at e1
     repeat' (first | simp only [go_sem, seval, l2, e1] | refine cP v1 ?_ | simp (disch := first | assumption | omega) only [bP, bW] | (first | apply pX | apply bX) <;> intro hc | refine ⟨oD, ?_⟩ | exact oD | fail)
     refine hgo _ ?_
     exact lE
    ·obtain rfl : i = vs.length := by omega
     repeat' (first | simp only [go_sem, seval, l2, l3] | simp (disch := first | assumption | omega) only [bP, bW] | (first | apply pX | apply bX) <;> intro hc | refine ⟨oD, ?_⟩ | exact oD | fail)
     refine loop_run (α := Nat) (fun i => es.length - i) (fun i => ⟨[(1, .p 1000 0 0), (42, .v (.sl (es.map Eqn.pv))), (43, E' es.length), (44, E' i)], [(1000, ⟨0, [.v (.sl (gs.map gpv)), .v (.sl (vs.map vpv)), .v (.sl (es.map Eqn.pv))], false, none⟩)], _⟩) (fun i => i ≤ es.length) 0 (fun _ => Nat.le_refl _) (Nat.zero_le _) ?_ ?_
     ·exact lE
     ·intro i hi R hR
      by_cases hlt : i < es.length
      ·have e1 := getD_map Eqn.pv es d0Q hlt
       obtain ⟨q1, q2, q3, q4, q5⟩ := hq _ (mem_getD d0Q hlt)
       have hgo := hR (i + 1) (by omega) (by omega)
       obtain ⟨x, hx⟩ : ∃ x, x = es.getD i d0Q := ⟨_, rfl⟩
       rw [← hx] at e1 q1 q2 q3 q4 q5
       obtain ⟨gr, tg, ts⟩ := x
       simp only at q1 q2 q3 q4 q5
       have hgE := (hg _ (mem_getD d0G (show gr.toNat < gs.length by omega))).1
       have v1 := natValid tg
       rw [gHas_valid hgE q3] at v1
       have l4 : (ts.map Trm.pv).length = ts.length := List.length_map ..
       simp only [Eqn.pv] at e1
       clear hR hx q3
       have hd1 : decide (gr < 0) = false := decide_eq_false (by omega)
       have hd2 : decide (gr ≥ (gs.length : Int)) = false := decide_eq_false (by omega)
       repeat' (first | simp only [go_sem, seval, l1, l3, l4, e1, hd1, hd2] | refine cP v1 ?_ | simp (disch := first | assumption | omega) only [bP, bW] | (first | apply pX | apply bX) <;> intro hc | refine ⟨oD, ?_⟩ | exact oD | fail)
       refine loop_run (α := Nat) (fun i => ts.length - i) (fun j => ⟨[(1, .p 1000 0 0), (42, .v (.sl (es.map Eqn.pv))), (43, E' es.length), (44, E' i), (66, .v (.sl (ts.map Trm.pv))), (67, E' ts.length), (68, E' j)], [(1000, ⟨0, [.v (.sl (gs.map gpv)), .v (.sl (vs.map vpv)), .v (.sl (es.map Eqn.pv))], false, none⟩)], _⟩) (fun i => i ≤ ts.length) 0 (fun _ => Nat.le_refl _) (Nat.zero_le _) ?_ ?_
       ·exact lE
       ·intro j hj R' hR'
        by_cases hjt : j < ts.length
        ·have e2 := getD_map Trm.pv ts d0T hjt
         obtain ⟨t1, t2, t3, t4⟩ := q5 _ (mem_getD d0T hjt)
         have hgo' := hR' (j + 1) (by omega) (by omega)
         obtain ⟨y, hy⟩ : ∃ y, y = ts.getD j d0T := ⟨_, rfl⟩
         rw [← hy] at e2 t1 t2 t3 t4
         obtain ⟨b, v, n, a⟩ := y
         simp only at t1 t2 t3 t4
         have v2 := natValid b
         rw [gHas_valid hgE t3] at v2
         have v3 := iValid_ok n a
         rw [show (validN a && !(n && a == [])) = true from t4] at v3
         simp only [Trm.pv] at e2
         clear hR' hy t3 t4 q5
         have hd3 : decide (v < 0) = false := decide_eq_false (by omega)
         have hd4 : decide (v ≥ (vs.length : Int)) = false := decide_eq_false (by omega)
         repeat' (first | simp only [go_sem, seval, l2, l4, e2, hd3, hd4] | refine cP v2 ?_ | refine cP v3 ?_ | simp (disch := first | assumption | omega) only [bP, bW] | (first | apply pX | apply bX) <;> intro hc | refine ⟨oD, ?_⟩ | exact oD | fail)
         refine hgo' _ ?_
         exact lE
        ·obtain rfl : j = ts.length := by omega
         repeat' (first | simp only [go_sem, seval, l3, l4] | simp (disch := first | assumption | omega) only [bP, bW] | (first | apply pX | apply bX) <;> intro hc | refine ⟨oD, ?_⟩ | exact oD | fail)
         refine hgo _ ?_
         exact lE
      ·obtain rfl : i = es.length := by omega
       repeat' (first | simp only [go_sem, seval, l3] | simp (disch := first | assumption | omega) only [bP, bW] | (first | apply pX | apply bX) <;> intro hc | refine ⟨oD, ?_⟩ | exact oD | fail)
theorem lsz1_ok (q : Eqn) : EvP Tryz.prog 301 [q.pv] (.b (decide (64 < q.terms.length))) := by
 obtain ⟨g, t, l⟩ := q
 have l4 : (l.map Trm.pv).length = l.length := List.length_map ..
 have hd : decide ((l.length : Int) > 64) = decide (64 < l.length) := by rw [decide_eq_decide]; omega
 unfold Eqn.pv
 refine eW Tryz.call301 Tryz.func301 ?_
 repeat' (first | simp only [go_sem, seval, l4, hd] | simp (disch := first | assumption | omega) only [bP, bW] | (first | apply pX | apply bX) <;> intro hc | refine ⟨oD, ?_⟩ | exact oD | fail)
theorem lsizes_ok {s : Stm} (hs : StOK s) : EvP Tryz.prog 233 [s.pv] (E 0) := by
 have hq := hs.q
 have h1 := ContainsFuncQ_ok s.eqs _ _ (by have := hs.ne; omega) lsz1_ok
 have h2 : (s.eqs.any fun q => decide (64 < q.terms.length)) = false := by
  rw [Bool.eq_false_iff]; intro g
  obtain ⟨q, h3, h4⟩ := List.any_eq_true.1 g
  have := (hq q h3).2.2.2.1
  simp at h4; omega
 rw [h2] at h1
 obtain ⟨gs, vs, es⟩ := s
 have ng := hs.ng
 have nv := hs.nv
 have ne := hs.ne
 simp only at ng nv ne h1
 have l1 : (gs.map gpv).length = gs.length := List.length_map ..
 have l2 : (vs.map vpv).length = vs.length := List.length_map ..
 have l3 : (es.map Eqn.pv).length = es.length := List.length_map ..
 clear hs h2 hq
 unfold Stm.pv
 simp only
 refine eW Tryz.call233 Tryz.func233 ?_
 repeat' (first | simp only [go_sem, seval, l1, l2, l3] | refine cP h1 ?_ | simp (disch := first | assumption | omega) only [bP, bW] | (first | apply pX | apply bX) <;> intro hc | refine ⟨oD, ?_⟩ | exact oD | fail)
theorem lel1_ok {m : Bytes} (lm : m.length ≤ 8) {o : Bytes} (lo : o.length ≤ 8) (t : Trm) : EvP Tryz.prog 303 [t.pv, .pt (gpv (m, o)) 0] (.b (!gIn m o t.base)) := by
 obtain ⟨b, v, n, a⟩ := t
 have h := gIn_ok lm lo b
 simp only [Trm.pv, gpv]
 generalize gIn m o b = z at *
 refine eW Tryz.call303 Tryz.func303 ?_
 repeat' (first | simp only [go_sem, seval] | refine cP h ?_ | simp (disch := first | assumption | omega) only [bP, bW] | (first | apply pX | apply bX) <;> intro hc | refine ⟨oD, ?_⟩ | exact oD | fail)
theorem lelements_ok {s : Stm} (hs : StOK s) : EvP Tryz.prog 234 [s.pv] (E 0) := by
 obtain ⟨gs, vs, es⟩ := s
 obtain ⟨hg, hv, hq, ng, nv, ne⟩ := hs
 simp only at hg hv hq ng nv ne
 have l1 : (gs.map gpv).length = gs.length := List.length_map ..
 have l3 : (es.map Eqn.pv).length = es.length := List.length_map ..
 unfold Stm.pv
 simp only
 refine eW Tryz.call234 Tryz.func234 ?_
 repeat' (first | simp only [go_sem, seval, l1] | simp (disch := first | assumption | omega) only [bP, bW] | (first | apply pX | apply bX) <;> intro hc | refine ⟨oD, ?_⟩ | exact oD | fail)
 refine loop_run (α := Nat) (fun i => gs.length - i) (fun i => ⟨[(1, .p 1000 0 0), (9, .v (.sl (gs.map gpv))), (10, E' gs.length), (11, E' i)], [(1000, ⟨0, [.v (.sl (gs.map gpv)), .v (.sl (vs.map vpv)), .v (.sl (es.map Eqn.pv))], false, none⟩)], _⟩) (fun i => i ≤ gs.length) 0 (fun _ => Nat.le_refl _) (Nat.zero_le _) ?_ ?_
 ·exact lE
 ·intro i hi R hR
  by_cases hlt : i < gs.length
  ·have e1 := getD_map gpv gs d0G hlt
   have k := hg _ (mem_getD d0G hlt)
   have hgo := hR (i + 1) (by omega) (by omega)
   obtain ⟨x, hx⟩ : ∃ x, x = gs.getD i d0G := ⟨_, rfl⟩
   rw [← hx] at e1 k
   obtain ⟨m, o⟩ := x
   have v1 := gCheck_ok k.2.1 k.2.2
   rw [k.1] at v1
   clear hR hx k
   simp only [gpv] at e1
   repeat' (first | simp only [go_sem, seval, l1, e1] | refine cP v1 ?_ | simp (disch := first | assumption | omega) only [bP, bW] | (first | apply pX | apply bX) <;> intro hc | refine ⟨oD, ?_⟩ | exact oD | fail)
   refine hgo _ ?_
   exact lE
  ·obtain rfl : i = gs.length := by omega
   repeat' (first | simp only [go_sem, seval, l1, l3] | simp (disch := first | assumption | omega) only [bP, bW] | (first | apply pX | apply bX) <;> intro hc | refine ⟨oD, ?_⟩ | exact oD | fail)
   refine loop_run (α := Nat) (fun i => es.length - i) (fun i => ⟨[(1, .p 1000 0 0), (20, .v (.sl (es.map Eqn.pv))), (21, E' es.length), (22, E' i)], [(1000, ⟨0, [.v (.sl (gs.map gpv)), .v (.sl (vs.map vpv)), .v (.sl (es.map Eqn.pv))], false, none⟩)], _⟩) (fun i => i ≤ es.length) 0 (fun _ => Nat.le_refl _) (Nat.zero_le _) ?_ ?_
   ·exact lE
   ·intro i hi R hR
    by_cases hlt : i < es.length
    ·have e1 := getD_map Eqn.pv es d0Q hlt
     obtain ⟨q1, q2, q3, q4, q5⟩ := hq _ (mem_getD d0Q hlt)
     have hgo := hR (i + 1) (by omega) (by omega)
     obtain ⟨x, hx⟩ : ∃ x, x = es.getD i d0Q := ⟨_, rfl⟩
     rw [← hx] at e1 q1 q2 q3 q4 q5
     obtain ⟨gr, tg, ts⟩ := x
     simp only at q1 q2 q3 q4 q5
     have hgl : gr.toNat < gs.length := by omega
     have kg := hg _ (mem_getD d0G hgl)
     have e3 := getD_map gpv gs d0G hgl
     obtain ⟨z, hz⟩ : ∃ z, z = gs.getD gr.toNat d0G := ⟨_, rfl⟩
     rw [← hz] at q3 q5 kg e3
     obtain ⟨m, o⟩ := z
     simp only at q3 q5 kg
     have v1 := gIn_ok kg.2.1 kg.2.2 tg
     have g1 : gIn m o tg = true := by simp [gIn, kg.1, q3]
     rw [g1] at v1
     have v2 := ContainsFuncT_ok ts _ _ _ (by omega) (lel1_ok kg.2.1 kg.2.2)
     have g2 : (ts.any fun t => !gIn m o t.base) = false := by
      rw [Bool.eq_false_iff]; intro g
      obtain ⟨t, h3, h4⟩ := List.any_eq_true.1 g
      have := (q5 t h3).2.2.1
      simp [gIn, kg.1, this] at h4
     rw [g2] at v2
     simp only [gpv] at e3 v2
     simp only [Eqn.pv] at e1
     clear hR hx hz q3 q5 kg g1 g2
     repeat' (first | simp only [go_sem, seval, l1, l3, e1, e3, viewN] | refine cP v1 ?_ | refine cV v2 ?_ | simp (disch := first | assumption | omega) only [bP, bW] | (first | apply pX | apply bX) <;> intro hc | refine ⟨oD, ?_⟩ | exact oD | fail)
     refine hgo _ ?_
     exact lE
    ·obtain rfl : i = es.length := by omega
     repeat' (first | simp only [go_sem, seval, l3] | simp (disch := first | assumption | omega) only [bP, bW] | (first | apply pX | apply bX) <;> intro hc | refine ⟨oD, ?_⟩ | exact oD | fail)
theorem lk1_ok (b : Bytes) : EvP Tryz.prog 304 [vpv b] (.b (b == [])) := by
 unfold vpv
 refine eW Tryz.call304 Tryz.func304 ?_
 repeat' (first | simp only [go_sem, seval] | simp (disch := first | assumption | omega) only [bP, bW] | (first | apply pX | apply bX) <;> intro hc | refine ⟨oD, ?_⟩ | exact oD | fail)
theorem lkinds_ok {s : Stm} (hs : StOK s) : EvP Tryz.prog 235 [s.pv] (E 0) := by
 have hv := hs.v
 have h1 := ContainsFuncV_ok s.vars _ _ (by have := hs.nv; omega) lk1_ok
 have h2 : (s.vars.any fun b => b == []) = false := by
  rw [Bool.eq_false_iff]; intro g
  obtain ⟨b, h3, h4⟩ := List.any_eq_true.1 g
  exact (hv b h3).2.1 (by simpa using h4)
 rw [h2] at h1
 obtain ⟨gs, vs, es⟩ := s
 simp only at h1
 clear hs h2 hv
 unfold Stm.pv
 simp only
 refine eW Tryz.call235 Tryz.func235 ?_
 repeat' (first | simp only [go_sem, seval] | refine cP h1 ?_ | simp (disch := first | assumption | omega) only [bP, bW] | (first | apply pX | apply bX) <;> intro hc | refine ⟨oD, ?_⟩ | exact oD | fail)
theorem lCheck_ok {s : Stm} (hs : StOK s) : EvP Tryz.prog 153 [s.pv] (E 0) := by
 have h1 := lform_ok hs
 have h2 := lsizes_ok hs
 have h3 := lelements_ok hs
 have h4 := lkinds_ok hs
 clear hs
 unfold Stm.pv at *
 refine eW Tryz.call153 Tryz.func153 ?_
 repeat' (first | simp only [go_sem, seval] | refine cP h1 ?_ | refine cP h2 ?_ | refine cP h3 ?_ | refine cP h4 ?_ | (refine loop_unroll' ?_) | simp (disch := first | assumption | omega) only [bP, bW] | (first | apply pX | apply bX) <;> intro hc | refine ⟨oD, ?_⟩ | exact oD | fail)
def ordL : List (Bytes × Bytes) → Bytes
 | [] => []
 | g :: r => if g.2 = [] then ordL r else g.2
theorem sorder_ok (s : Stm) (hl : s.groups.length < 1000000) : EvP Tryz.prog 228 [s.pv] (.s (ordL s.groups)) := by
 obtain ⟨gs, vs, es⟩ := s
 simp only at hl
 have l1 : (gs.map gpv).length = gs.length := List.length_map ..
 unfold Stm.pv
 simp only
 refine eW Tryz.call228 Tryz.func228 ?_
 repeat' (first | simp only [go_sem, seval, l1] | simp (disch := first | assumption | omega) only [bP, bW] | (first | apply pX | apply bX) <;> intro hc | refine ⟨oD, ?_⟩ | exact oD | fail)
 refine loop_run (α := Nat) (fun i => gs.length - i) (fun i => ⟨[(1, .p 1000 0 0), (6, .v (.sl (gs.map gpv))), (7, E' gs.length), (8, E' i)], [(1000, ⟨0, [.v (.sl (gs.map gpv)), .v (.sl (vs.map vpv)), .v (.sl (es.map Eqn.pv))], false, none⟩)], _⟩) (fun i => i ≤ gs.length ∧ ordL (gs.drop i) = ordL gs) 0 (fun _ => Nat.le_refl _) ⟨Nat.zero_le _, rfl⟩ ?_ ?_
 ·exact lE
 ·rintro i ⟨hi, hf⟩ R hR
  rw [← hf]
  by_cases hlt : i < gs.length
  ·have e1 := getD_map gpv gs d0G hlt
   have hgo := hR (i + 1)
   rw [← hf] at hgo
   rw [drop_getD d0G hlt] at hgo ⊢
   obtain ⟨x, hx⟩ : ∃ x, x = gs.getD i d0G := ⟨_, rfl⟩
   rw [← hx] at e1 hgo ⊢
   clear hx hf hR
   obtain ⟨m, o⟩ := x
   simp only [ordL] at hgo ⊢
   simp only [gpv] at e1
   by_cases ho : o = []
   ·subst ho
    simp only [if_true] at hgo ⊢
    have hgo := hgo ⟨by omega, trivial⟩ (by omega)
    repeat' (first | simp only [go_sem, seval, l1, e1, nn] | simp (disch := first | assumption | omega) only [bP, bW] | (first | apply pX | apply bX) <;> intro hc | refine ⟨oD, ?_⟩ | exact oD | fail)
    refine hgo _ ?_
    exact lE
   ·have hb : (o == ([] : Bytes)) = false := by simpa using ho
    rw [if_neg ho]
    repeat' (first | simp only [go_sem, seval, l1, e1, hb] | simp (disch := first | assumption | omega) only [bP, bW] | (first | apply pX | apply bX) <;> intro hc | refine ⟨oD, ?_⟩ | exact oD | fail)
  ·obtain rfl : i = gs.length := by omega
   rw [List.drop_length]
   repeat' (first | simp only [go_sem, seval, l1] | simp (disch := first | assumption | omega) only [bP, bW] | (first | apply pX | apply bX) <;> intro hc | refine ⟨oD, ?_⟩ | exact oD | fail)
   all_goals rfl
theorem skind_ok {b : Bytes} (h : b ≠ []) : EvP Tryz.prog 229 [vpv b] (E 1) := by
 have hb : (b == ([] : Bytes)) = false := by simpa using h
 unfold vpv
 refine eW Tryz.call229 Tryz.func229 ?_
 repeat' (first | simp only [go_sem, seval, hb] | simp (disch := first | assumption | omega) only [bP, bW] | (first | apply pX | apply bX) <;> intro hc | refine ⟨oD, ?_⟩ | exact oD | fail)
structure RuOK (c sl : Bytes) : Prop where
 vc : validN c = true
 vs : validN sl = true
 lc : c.length ≤ 8
 ls : sl.length ≤ 8
 c2 : 2 ≤ num c
 s2 : 2 ≤ num sl
def limM (c sl b : Bytes) : Nat := num sl * num c * num b
def limR (c sl b : Bytes) : Nat := num sl * num c * num b - (num c - 1) * (num b - 1)
def limP (c sl b : Bytes) : PV := .agg [N (limM c sl b), N (limR c sl b)]
theorem num16 {b : Bytes} (h : b.length ≤ 16) : num b < W128 := Nat.lt_of_lt_of_le (num_lt b) (Nat.pow_le_pow_right (by decide) h)
theorem limM_lt {c sl b : Bytes} (hr : RuOK c sl) (hb : b.length ≤ 16) : limM c sl b < LIM := by
 have h1 : num sl * num c < 18446744073709551616 * 18446744073709551616 := Nat.mul_lt_mul'' (num8 hr.ls) (num8 hr.lc)
 have h2 : limM c sl b < 18446744073709551616 * 18446744073709551616 * W128 := Nat.mul_lt_mul'' h1 (num16 hb)
 exact Nat.lt_of_lt_of_le h2 (by unfold LIM W128; decide +kernel)
theorem lim_le {c sl b : Bytes} (hr : RuOK c sl) : (num c - 1) * (num b - 1) ≤ limM c sl b := by
 unfold limM
 have h1 : (num c - 1) * (num b - 1) ≤ num c * num b := Nat.mul_le_mul (by omega) (by omega)
 have h2 : num c * num b ≤ num sl * (num c * num b) := Nat.le_mul_of_pos_left _ (by have := hr.s2; omega)
 rw [Nat.mul_assoc]; omega
theorem sintegral_ok {c sl q b : Bytes} (hr : RuOK c sl) (vb : validN b = true) (hb : b ≠ []) (lb : b.length ≤ 16) : EvP Tryz.prog 231 [.agg [.s c, .s sl, .s q], .s b] (.tup [limP c sl b, E 0]) := by
 have h64 := w64_lim
 have hw := w256
 have hML := limM_lt hr lb
 have hle := lim_le (b := b) hr
 have hnc := num8 hr.lc
 have hns := num8 hr.ls
 have hnb := num_pos (canon_of vb) hb
 have hb16 := num16 lb
 have e1 := N_of hr.vc
 have e2 := N_of hr.vs
 have e3 := N_of vb
 have m1 := mulN (a := num sl) (b := num c) (Nat.lt_of_lt_of_le (Nat.mul_lt_mul'' hns hnc) (by unfold LIM; decide +kernel)) (by omega) (by omega)
 have m2 := mulN (a := num sl * num c) (b := num b) hML (Nat.lt_of_lt_of_le (Nat.mul_lt_mul'' hns hnc) (by unfold LIM; decide +kernel)) (by have := w128; omega)
 have s1 := subN (a := num c) (b := 1) (by have := hr.c2; omega) (by omega)
 have s2 := subN (a := num b) (b := 1) (by omega) (by have := w128; omega)
 have m3 := mulN (a := num c - 1) (b := num b - 1) (by omega) (by omega) (by have := w128; omega)
 have s3 := subN (a := num sl * num c * num b) (b := (num c - 1) * (num b - 1)) hle hML
 rw [e1, e2] at m1
 rw [e3] at m2
 rw [e1] at s1
 rw [e3] at s2
 have hP : limP c sl b = .agg [N (num sl * num c * num b), N (num sl * num c * num b - (num c - 1) * (num b - 1))] := rfl
 rw [hP]
 clear hML hle hP
 generalize num sl * num c * num b = A at *
 generalize num sl * num c = B at *
 generalize A - (num c - 1) * (num b - 1) = C at *
 generalize (num c - 1) * (num b - 1) = D at *
 refine eW Tryz.call231 Tryz.func231 ?_
 repeat' (first | simp only [go_sem, seval, one_eq] | refine cP Of1 ?_ | refine cP m1 ?_ | refine cP m2 ?_ | refine cP s1 ?_ | refine cP s2 ?_ | refine cP m3 ?_ | refine cP s3 ?_ | simp (disch := first | assumption | omega) only [bP, bW] | (first | apply pX | apply bX) <;> intro hc | refine ⟨oD, ?_⟩ | exact oD | fail)
theorem limRow (c sl : Bytes) : RowOK (limP c sl) 2 := ⟨fun _ => rfl, fun x y hy => by simp [limP, PV.cells] at hy; rcases hy with rfl | rfl <;> rfl, fun h => by omega, fun _ x => rfl⟩
theorem sbounds_ok {c sl : Bytes} (hr : RuOK c sl) {s : Stm} (hs : StOK s) (h0 : s.vars ≠ []) : EvP Tryz.prog 151 [.agg [.s c, .s sl], s.pv] (.tup [.sl (s.vars.map (limP c sl)), E 0]) := by
 have hck := lCheck_ok hs
 have hor := sorder_ok s (by have := hs.ng; omega)
 have v1 := natValid c
 have v2 := natValid sl
 rw [hr.vc] at v1
 rw [hr.vs] at v2
 have c1 := cmpLt2 hr.vc
 have c2 := cmpLt2 hr.vs
 have d1 : ∀ _ : True, decide (cmpN (num c) 2 < 0) = false := fun _ => decide_eq_false (fun g => by have := cmpN_lt.1 g; have := hr.c2; omega)
 have d2 : ∀ _ : True, decide (cmpN (num sl) 2 < 0) = false := fun _ => decide_eq_false (fun g => by have := cmpN_lt.1 g; have := hr.s2; omega)
 generalize cmpN (num c) 2 = cm1 at *
 generalize cmpN (num sl) 2 = cm2 at *
 obtain ⟨gs, vs, es⟩ := s
 obtain ⟨hg, hv, hq, ng, nv, ne⟩ := hs
 simp only at hg hv hq ng nv ne hor h0
 generalize ordL gs = q at *
 have l2 : (vs.map vpv).length = vs.length := List.length_map ..
 have hpos : 0 < vs.length := List.length_pos_iff.2 h0
 unfold Stm.pv at *
 simp only at *
 refine eW Tryz.call151 Tryz.func151 ?_
 repeat' (first | simp only [go_sem, seval, d1 trivial, d2 trivial, l2] | refine cP v1 ?_ | refine cP v2 ?_ | refine cP hck ?_ | refine cP Of2 ?_ | refine cP c1 ?_ | refine cP c2 ?_ | refine cP hor ?_ | simp (disch := first | assumption | omega) only [bP, bW] | (first | apply pX | apply bX) <;> intro hc | refine ⟨oD, ?_⟩ | exact oD | fail)
 refine loop_run (α := Nat) (fun i => vs.length - i) (fun i => ⟨[(2, .p 1000 0 0), (3, .p 1001 0 0), (8, .p 1037 0 0), (50, .v (.sl (vs.map vpv))), (51, E' vs.length), (52, E' i)], [(1000, ⟨0, [.v (.s c), .v (.s sl)], false, none⟩), (1001, ⟨0, [.v (.sl (gs.map gpv)), .v (.sl (vs.map vpv)), .v (.sl (es.map Eqn.pv))], false, none⟩), (1037, ⟨0, [.v (.s c), .v (.s sl), .v (.s q)], false, some 280⟩)], _⟩) (fun i => i ≤ vs.length) 0 (fun _ => Nat.le_refl _) (Nat.zero_le _) ?_ ?_
 ·exact lE
 ·intro i hi R hR
  by_cases hlt : i < vs.length
  ·have e1 := getD_map vpv vs [] hlt
   have k := (hv _ (mem_getD [] hlt)).2.1
   have hk := skind_ok k
   have hgo := hR (i + 1) (by omega) (by omega)
   obtain ⟨x, hx⟩ : ∃ x, x = vs.getD i [] := ⟨_, rfl⟩
   rw [← hx] at e1 hk
   clear hR hx k
   simp only [vpv] at e1 hk
   repeat' (first | simp only [go_sem, seval, l2, e1] | refine cP hk ?_ | simp (disch := first | assumption | omega) only [bP, bW] | (first | apply pX | apply bX) <;> intro hc | refine ⟨oD, ?_⟩ | exact oD | fail)
   refine hgo _ ?_
   exact lE
  ·obtain rfl : i = vs.length := by omega
   have hL := limRow c sl
   have row0 : ∀ {i : Nat}, i < vs.length → rowF (limP c sl) (vs.take (i + 1)) = rowF (limP c sl) (vs.take i) ++ [.v (N (limM c sl (vs.getD i []))), .v (N (limR c sl (vs.getD i [])))] := fun h => by
    rw [take_succ_getD [] h, rowF_snoc]; rfl
   have hint : ∀ {i : Nat}, i < vs.length → EvP Tryz.prog 231 [.agg [.s c, .s sl, .s q], .s (vs.getD i [])] (.tup [.agg [N (limM c sl (vs.getD i [])), N (limR c sl (vs.getD i []))], E 0]) := fun h => by
    obtain ⟨k1, k2, k3⟩ := hv _ (mem_getD [] h)
    exact sintegral_ok hr k1 k2 k3
   repeat' (first | simp only [go_sem, seval, l2] | simp (disch := first | assumption | omega) only [bP, bW] | (first | apply pX | apply bX) <;> intro hc | refine ⟨oD, ?_⟩ | exact oD | fail)
   refine loop_unroll' ?_
   have e1 := getD_map vpv vs [] hpos
   have k := (hv _ (mem_getD [] hpos)).2.1
   have hk := skind_ok k
   have hi1 := hint hpos
   have r1 := row0 hpos
   simp only [vpv] at e1 hk
   repeat' (first | simp only [go_sem, seval, l2, e1] | refine cP hk ?_ | refine cP hi1 ?_ | simp (disch := first | assumption | omega) only [bP, bW] | (first | apply pX | apply bX) <;> intro hc | refine ⟨oD, ?_⟩ | exact oD | fail)
   refine loop_run (α := Nat) (fun j => vs.length - (j + 1)) (fun j => ⟨[(11, .p 1049 0 0), (12, .rs 1079 j 0 (j + 1) 2), (74, .v (.sl (vs.map vpv))), (75, E' vs.length), (76, E' (j + 1))], [(1049, ⟨0, [.fn (.func 230) [.v (.agg [.s c, .s sl, .s q])] [], .fn (.func 231) [.v (.agg [.s c, .s sl, .s q])] []], false, some 283⟩), (1079, ⟨j, rowF (limP c sl) (vs.take (j + 1)), true, some 216⟩)], 1083⟩) (fun j => j + 1 ≤ vs.length) 0 (fun _ => Nat.le_of_ble_eq_true rfl) hpos ?_ ?_
   ·have rn : rowF (limP c sl) [] = [] := rfl
    rw [Nat.zero_add, r1, List.take_zero, rn]
    exact lE
   ·intro j hj R hR
    have hj1 : (vs.take (j + 1)).length = j + 1 := by rw [List.length_take]; omega
    have q1 := rowF_len hL (vs.take (j + 1))
    have q2 := rowF_take hL (vs.take (j + 1))
    rw [hj1] at q1 q2
    have hw1 : ∀ _ : True, ((j : Int) + 1) = ((j + 1 : Nat) : Int) := fun _ => by omega
    by_cases hlt : j + 1 < vs.length
    ·have e1 := getD_map vpv vs [] hlt
     have k := (hv _ (mem_getD [] hlt)).2.1
     have hk := skind_ok k
     have hi1 := hint hlt
     have r1 := row0 hlt
     simp only [vpv] at e1 hk
     have hgo := hR (j + 1) (by omega) (by omega)
     rw [r1] at hgo
     clear hR
     repeat' (first | simp only [go_sem, seval, l2, e1, q1, q2] | refine cP hk ?_ | refine cP hi1 ?_ | simp (disch := first | assumption | omega) only [bP, bW] | (first | apply pX | apply bX) <;> intro hc | refine ⟨oD, ?_⟩ | exact oD | fail)
     refine hgo _ ?_
     (refine AS.Le.of (by first | decide | omega) ?_ ?_ <;> simp [LeT, LeH, tget, hget, AV.bd, AV.bd.bdL, u8, bd_cellsOf, bcells_bd, icells_bd])
     all_goals (intro c hc; rcases hc with h | h | h <;> first | exact bd_row h | (subst h; rfl))
    ·obtain hjv : j + 1 = vs.length := by omega
     rw [hjv, List.take_length] at q1 q2
     rw [hjv, List.take_length]
     have q3 := rowF_all hL vs
     have q4 := rowF_chunk hL vs
     repeat' (first | simp only [go_sem, seval, l2, q1, q2, q3, q4, rowF_mapO] | simp (disch := first | assumption | omega) only [bP, bW] | (first | apply pX | apply bX) <;> intro hc | refine ⟨oD, ?_⟩ | exact oD | fail)
     all_goals skip
end Go.Proofs.YthbognfeadopjaaGreatDoor
