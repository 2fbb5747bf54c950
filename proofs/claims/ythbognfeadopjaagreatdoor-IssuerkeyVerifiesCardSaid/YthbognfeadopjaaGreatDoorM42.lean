/-
  Part of the proof, part 42. Own work.
-/
import Derived.Test.YthbognfeadopjaaGreatDoorM41
set_option linter.all false
namespace Go.Proofs.YthbognfeadopjaaGreatDoor
open Go Go.Dom Go.Num
set_option maxRecDepth 100000
set_option maxHeartbeats 16000000
def okR (c sl : Bytes) (vs : List Bytes) (l : List (Bool × Bytes)) : Bool := (List.range vs.length).all fun i => decide (num (l.getD i d0I).2 < limR c sl (vs.getD i []))
def firE (c sl : Bytes) (vs : List Bytes) (ch : Bytes) (l : List (Bool × Bytes)) : Int :=
 if !(validN ch && l.all izok) then 3 else if num c ≤ num ch then 2 else if l.length ≠ vs.length then 6 else if !okR c sl vs l then 2 else 0
noncomputable def firL (c sl : Bytes) (s : Stm) (ch : Bytes) (l : List (Bool × Bytes)) : List PV :=
 if firE c sl s.vars ch l = 0 then s.eqs.map fun q => N (msgQ s.groups ch l q) else []
theorem okR_bad {c sl : Bytes} {vs : List Bytes} {l : List (Bool × Bytes)} {i : Nat} (hi : i < vs.length) (h : ¬ num (l.getD i d0I).2 < limR c sl (vs.getD i [])) : okR c sl vs l = false := by
 unfold okR
 rw [Bool.eq_false_iff]; intro g
 have := List.all_eq_true.1 g i (List.mem_range.2 hi)
 exact h (by simpa using this)
theorem okR_good {c sl : Bytes} {vs : List Bytes} {l : List (Bool × Bytes)} (h : ∀ i, i < vs.length → num (l.getD i d0I).2 < limR c sl (vs.getD i [])) : okR c sl vs l = true := by
 unfold okR
 rw [List.all_eq_true]; intro i hi
 exact decide_eq_true (h i (List.mem_range.1 hi))
theorem limR_lt {c sl b : Bytes} (hr : RuOK c sl) (hb : b.length ≤ 16) : limR c sl b < LIM := Nat.lt_of_le_of_lt (Nat.sub_le _ _) (limM_lt hr hb)
theorem sFirst_ok {c sl : Bytes} (hr : RuOK c sl) {s : Stm} (hs : StOK s) (h0 : s.vars ≠ []) (h1 : s.eqs ≠ []) {ch : Bytes} {l : List (Bool × Bytes)} (hll : l.length < 1000000) : EvP Tryz.prog 91 [.agg [.s c, .s sl], s.pv, .s ch, .sl (l.map ipv)] (.tup [.sl (firL c sl s ch l), E (firE c sl s.vars ch l)]) := by
 have hb := sBounds_ok hr hs h0
 have vh := natValid ch
 have hi := sints_ok l hll
 have l5 : (l.map ipv).length = l.length := List.length_map ..
 have l2 : (s.vars.map vpv).length = s.vars.length := List.length_map ..
 have l6 : (s.vars.map fun b => N (limR c sl b)).length = s.vars.length := List.length_map ..
 have nv := hs.nv
 by_cases g1 : validN ch = true ∧ l.all izok = true
 case neg =>
  have e : (validN ch && l.all izok) = false := by rw [Bool.eq_false_iff]; intro g; simp at g; exact g1 ⟨g.1, by simpa [List.all_eq_true] using g.2⟩
  have e2 : firE c sl s.vars ch l = 3 := by simp only [firE, e]; rfl
  rw [firL, if_neg (by rw [e2]; decide), e2]
  clear e2 hs
  unfold Stm.pv at *
  generalize validN ch = b1 at *
  generalize l.all izok = b2 at *
  refine eW Tryz.call91 Tryz.func91 ?_
  repeat' (first | simp only [go_sem, seval] | refine cP hb ?_ | refine cP vh ?_ | refine cP hi ?_ | simp (disch := first | assumption | omega) only [bP, bW] | (first | apply pX | apply bX) <;> intro hc | refine ⟨oD, ?_⟩ | exact oD | fail)
  all_goals (exfalso; simp_all)
 obtain ⟨vc, hok⟩ := g1
 rw [vc] at vh
 rw [hok] at hi
 have hcm := cmpVV vc hr.vc
 by_cases g2 : num c ≤ num ch
 ·have e2 : firE c sl s.vars ch l = 2 := by simp only [firE, vc, hok]; rw [if_neg (by simp), if_pos g2]
  have hd : ∀ _ : True, decide (cmpN (num ch) (num c) ≥ 0) = true := fun _ => decide_eq_true (cmpN_ge.2 g2)
  rw [firL, if_neg (by rw [e2]; decide), e2]
  generalize cmpN (num ch) (num c) = cm at *
  clear e2 hs
  unfold Stm.pv at *
  refine eW Tryz.call91 Tryz.func91 ?_
  repeat' (first | simp only [go_sem, seval, hd trivial] | refine cP hb ?_ | refine cP vh ?_ | refine cP hi ?_ | refine cP hcm ?_ | simp (disch := first | assumption | omega) only [bP, bW] | (first | apply pX | apply bX) <;> intro hc | refine ⟨oD, ?_⟩ | exact oD | fail)
 have hd : ∀ _ : True, decide (cmpN (num ch) (num c) ≥ 0) = false := fun _ => decide_eq_false (fun g => g2 (cmpN_ge.1 g))
 by_cases g3 : l.length = s.vars.length
 case neg =>
  have e2 : firE c sl s.vars ch l = 6 := by simp only [firE, vc, hok]; rw [if_neg (by simp), if_neg g2, if_pos g3]
  rw [firL, if_neg (by rw [e2]; decide), e2]
  generalize cmpN (num ch) (num c) = cm at *
  clear e2 hs
  unfold Stm.pv at *
  refine eW Tryz.call91 Tryz.func91 ?_
  repeat' (first | simp only [go_sem, seval, hd trivial, l5, l2] | refine cP hb ?_ | refine cP vh ?_ | refine cP hi ?_ | refine cP hcm ?_ | simp (disch := first | assumption | omega) only [bP, bW] | (first | apply pX | apply bX) <;> intro hc | refine ⟨oD, ?_⟩ | exact oD | fail)
  all_goals (exfalso; omega)
 have hms := smessages_ok hs h1 vc g3 (List.all_eq_true.1 hok)
 have hv := hs.v
 have hval : ∀ x ∈ l, validN x.2 = true := fun x hx => by
  have := List.all_eq_true.1 hok x hx
  simp only [izok, Bool.and_eq_true] at this; exact this.1
 have e0 : firE c sl s.vars ch l = if !okR c sl s.vars l then 2 else 0 := by
  simp only [firE, vc, hok]; rw [if_neg (by simp), if_neg g2, if_neg (by omega)]
 unfold firL
 rw [e0]
 clear e0 hs hok
 obtain ⟨gs, vs, es⟩ := s
 simp only at *
 unfold Stm.pv at *
 simp only at *
 generalize cmpN (num ch) (num c) = cm at *
 refine eW Tryz.call91 Tryz.func91 ?_
 repeat' (first | simp only [go_sem, seval, hd trivial, l5, l2] | refine cP hb ?_ | refine cP vh ?_ | refine cP hi ?_ | refine cP hcm ?_ | simp (disch := first | assumption | omega) only [bP, bW] | (first | apply pX | apply bX) <;> intro hc | refine ⟨oD, ?_⟩ | exact oD | fail)
 refine loop_run (α := Nat) (fun i => vs.length - i) (fun i => ⟨[(2, .v (.s ch)), (3, .v (.sl (l.map ipv))), (5, .p 1001 0 0), (11, .v (.sl (vs.map fun b => N (limR c sl b)))), (45, .v (.sl (vs.map vpv))), (46, E' vs.length), (47, E' i)], [(1001, ⟨0, [.v (.sl (gs.map gpv)), .v (.sl (vs.map vpv)), .v (.sl (es.map Eqn.pv))], false, none⟩)], _⟩) (fun i => i ≤ vs.length ∧ ∀ j, j < i → num (l.getD j d0I).2 < limR c sl (vs.getD j [])) 0 (fun _ => Nat.le_refl _) ⟨Nat.zero_le _, fun j hj => by omega⟩ ?_ ?_
 ·exact lE
 ·rintro i ⟨hi', hf⟩ R hR
  by_cases hlt : i < vs.length
  ·have e1 := getD_map vpv vs [] hlt
   have e2 := getD_map (fun b => N (limR c sl b)) vs [] hlt
   have hlt2 : i < l.length := by omega
   have e3 := getD_map ipv l d0I hlt2
   obtain ⟨k1, k2, k3⟩ := hv _ (mem_getD [] hlt)
   have kv := hval _ (mem_getD d0I hlt2)
   have ad := sadmits_ok k2 (n := (l.getD i d0I).1) kv (limR_lt hr k3)
   have hgo := hR (i + 1)
   by_cases hc2 : num (l.getD i d0I).2 < limR c sl (vs.getD i [])
   ·have hgo := hgo ⟨by omega, fun j hj => by
     by_cases e : j = i
     ·rw [e]; exact hc2
     ·exact hf j (by omega)⟩ (by omega)
    rw [decide_eq_true hc2] at ad
    clear hR hf hc2 kv k1 k2 k3
    generalize limR c sl (vs.getD i []) = L at *
    generalize vs.getD i [] = b at *
    obtain ⟨x, hx⟩ : ∃ x, x = l.getD i d0I := ⟨_, rfl⟩
    rw [← hx] at ad e3
    clear hx
    obtain ⟨xn, xa⟩ := x
    simp only [vpv, ipv] at *
    repeat' (first | simp only [go_sem, seval, l2, l5, l6, e1, e2, e3] | refine cP ad ?_ | simp (disch := first | assumption | omega) only [bP, bW] | (first | apply pX | apply bX) <;> intro hc | refine ⟨oD, ?_⟩ | exact oD | fail)
    refine hgo _ ?_
    exact lE
   ·rw [okR_bad hlt hc2]
    rw [decide_eq_false hc2] at ad
    clear hR hf hgo hc2 kv k1 k2 k3
    generalize limR c sl (vs.getD i []) = L at *
    generalize vs.getD i [] = b at *
    obtain ⟨x, hx⟩ : ∃ x, x = l.getD i d0I := ⟨_, rfl⟩
    rw [← hx] at ad e3
    clear hx
    obtain ⟨xn, xa⟩ := x
    simp only [vpv, ipv] at *
    repeat' (first | simp only [go_sem, seval, l2, l5, l6, e1, e2, e3] | refine cP ad ?_ | simp (disch := first | assumption | omega) only [bP, bW] | (first | apply pX | apply bX) <;> intro hc | refine ⟨oD, ?_⟩ | exact oD | fail)
    all_goals rfl
  ·obtain rfl : i = vs.length := by omega
   rw [okR_good hf]
   repeat' (first | simp only [go_sem, seval, l2] | refine cP hms ?_ | simp (disch := first | assumption | omega) only [bP, bW] | (first | apply pX | apply bX) <;> intro hc | refine ⟨oD, ?_⟩ | exact oD | fail)
   all_goals rfl
theorem rformed_ok {s : Stm} (hs : StOK s) : EvP Tryz.prog 326 [s.pv] (.b true) := by
 obtain ⟨gs, vs, es⟩ := s
 obtain ⟨hg, hv, hq, ng, nv, ne⟩ := hs
 simp only at hg hv hq ng nv ne
 have l1 : (gs.map gpv).length = gs.length := List.length_map ..
 have l2 : (vs.map vpv).length = vs.length := List.length_map ..
 have l3 : (es.map Eqn.pv).length = es.length := List.length_map ..
 unfold Stm.pv
 simp only
 refine eW Tryz.call326 Tryz.func326 ?_
 repeat' (first | simp only [go_sem, seval] | simp (disch := first | assumption | omega) only [bP, bW] | (first | apply pX | apply bX) <;> intro hc | refine ⟨oD, ?_⟩ | exact oD | fail)
 refine loop_run (α := Nat) (fun i => gs.length - i) (fun i => ⟨[(1, .p 1000 0 0), (3, E' i)], [(1000, ⟨0, [.v (.sl (gs.map gpv)), .v (.sl (vs.map vpv)), .v (.sl (es.map Eqn.pv))], false, none⟩)], _⟩) (fun i => i ≤ gs.length) 0 (fun _ => Nat.le_refl _) (Nat.zero_le _) ?_ ?_
 ·exact lE
 ·intro i hi R hR
  by_cases hlt : i < gs.length
  ·have e1 := getD_map gpv gs d0G hlt
   have k := hg _ (mem_getD d0G hlt)
   have hgo := hR (i + 1) (by omega) (by omega)
   obtain ⟨x, hx⟩ : ∃ x, x = gs.getD i d0G := ⟨_, rfl⟩
   rw [← hx] at e1 k
   obtain ⟨m, o⟩ := x
   obtain ⟨vm, vo, -⟩ := gE_m k.1
   have v1 := rValid_ok m
   have v2 := rValid_ok o
   rw [vm] at v1
   rw [vo] at v2
   clear hR hx k vm vo
   simp only [gpv] at e1
   repeat' (first | simp only [go_sem, seval, l1, e1] | refine cP v1 ?_ | refine cP v2 ?_ | simp (disch := first | assumption | omega) only [bP, bW] | (first | apply pX | apply bX) <;> intro hc | refine ⟨oD, ?_⟩ | exact oD | fail)
   refine hgo _ ?_
   exact lE
  ·obtain rfl : i = gs.length := by omega
   repeat' (first | simp only [go_sem, seval, l1] | simp (disch := first | assumption | omega) only [bP, bW] | (first | apply pX | apply bX) <;> intro hc | refine ⟨oD, ?_⟩ | exact oD | fail)
   refine loop_run (α := Nat) (fun i => vs.length - i) (fun i => ⟨[(1, .p 1000 0 0), (4, E' i)], [(1000, ⟨0, [.v (.sl (gs.map gpv)), .v (.sl (vs.map vpv)), .v (.sl (es.map Eqn.pv))], false, none⟩)], _⟩) (fun i => i ≤ vs.length) 0 (fun _ => Nat.le_refl _) (Nat.zero_le _) ?_ ?_
   ·exact lE
   ·intro i hi R hR
    by_cases hlt : i < vs.length
    ·have e1 := getD_map vpv vs [] hlt
     have k := hv _ (mem_getD [] hlt)
     have hgo := hR (i + 1) (by omega) (by omega)
     obtain ⟨x, hx⟩ : ∃ x, x = vs.getD i [] := ⟨_, rfl⟩
     rw [← hx] at e1 k
     have v1 := rValid_ok x
     rw [k.1] at v1
     clear hR hx k
     simp only [vpv] at e1
     repeat' (first | simp only [go_sem, seval, l2, e1] | refine cP v1 ?_ | simp (disch := first | assumption | omega) only [bP, bW] | (first | apply pX | apply bX) <;> intro hc | refine ⟨oD, ?_⟩ | exact oD | fail)
     refine hgo _ ?_
     exact lE
    ·obtain rfl : i = vs.length := by omega
     repeat' (first | simp only [go_sem, seval, l2] | simp (disch := first | assumption | omega) only [bP, bW] | (first | apply pX | apply bX) <;> intro hc | refine ⟨oD, ?_⟩ | exact oD | fail)
     refine loop_run (α := Nat) (fun i => es.length - i) (fun i => ⟨[(1, .p 1000 0 0), (5, E' i)], [(1000, ⟨0, [.v (.sl (gs.map gpv)), .v (.sl (vs.map vpv)), .v (.sl (es.map Eqn.pv))], false, none⟩)], _⟩) (fun i => i ≤ es.length) 0 (fun _ => Nat.le_refl _) (Nat.zero_le _) ?_ ?_
     ·exact lE
     ·intro i hi R hR
      by_cases hlt : i < es.length
      ·have e1 := getD_map Eqn.pv es d0Q hlt
       obtain ⟨q1, q2, q3, q4, q5⟩ := hq _ (mem_getD d0Q hlt)
       have hgo := hR (i + 1) (by omega) (by omega)
       obtain ⟨x, hx⟩ : ∃ x, x = es.getD i d0Q := ⟨_, rfl⟩
       rw [← hx] at e1 q1 q2 q3 q4 q5
       obtain ⟨gr, tg, ts⟩ := x
       simp only at q1 q2 q3 q4 q5
       have hgE := (hg _ (mem_getD d0G (show gr.toNat < gs.length by omega))).1
       have v1 := rValid_ok tg
       rw [gHas_valid hgE q3] at v1
       have l4 : (ts.map Trm.pv).length = ts.length := List.length_map ..
       simp only [Eqn.pv] at e1
       clear hR hx q3
       have hd1 : decide (gr < 0) = false := decide_eq_false (by omega)
       have hd2 : decide (gr ≥ (gs.length : Int)) = false := decide_eq_false (by omega)
       repeat' (first | simp only [go_sem, seval, l1, l3, l4, e1, hd1, hd2] | refine cP v1 ?_ | simp (disch := first | assumption | omega) only [bP, bW] | (first | apply pX | apply bX) <;> intro hc | refine ⟨oD, ?_⟩ | exact oD | fail)
       refine loop_run (α := Nat) (fun i => ts.length - i) (fun j => ⟨[(1, .p 1000 0 0), (5, E' i), (6, .p 1025 0 0), (7, E' j)], [(1000, ⟨0, [.v (.sl (gs.map gpv)), .v (.sl (vs.map vpv)), .v (.sl (es.map Eqn.pv))], false, none⟩), (1025, ⟨0, [.v (.i .i64 gr), .v (.s tg), .v (.sl (ts.map Trm.pv))], false, some 123⟩)], _⟩) (fun i => i ≤ ts.length) 0 (fun _ => Nat.le_refl _) (Nat.zero_le _) ?_ ?_
       ·exact lE
       ·intro j hj R' hR'
        by_cases hjt : j < ts.length
        ·have e2 := getD_map Trm.pv ts d0T hjt
         obtain ⟨t1, t2, t3, t4⟩ := q5 _ (mem_getD d0T hjt)
         have hgo' := hR' (j + 1) (by omega) (by omega)
         obtain ⟨y, hy⟩ : ∃ y, y = ts.getD j d0T := ⟨_, rfl⟩
         rw [← hy] at e2 t1 t2 t3 t4
         obtain ⟨b, v, n, a⟩ := y
         simp only at t1 t2 t3 t4
         have v2 := rValid_ok b
         rw [gHas_valid hgE t3] at v2
         have v3 := rIValid_ok n a
         rw [show (validN a && !(n && a == [])) = true from t4] at v3
         simp only [Trm.pv] at e2
         clear hR' hy t3 t4 q5
         have hd3 : decide (v < 0) = false := decide_eq_false (by omega)
         have hd4 : decide (v ≥ (vs.length : Int)) = false := decide_eq_false (by omega)
         repeat' (first | simp only [go_sem, seval, l2, l4, e2, hd3, hd4] | refine cP v2 ?_ | refine cP v3 ?_ | simp (disch := first | assumption | omega) only [bP, bW] | (first | apply pX | apply bX) <;> intro hc | refine ⟨oD, ?_⟩ | exact oD | fail)
         refine hgo' _ ?_
         exact lE
        ·obtain rfl : j = ts.length := by omega
         repeat' (first | simp only [go_sem, seval, l3, l4] | simp (disch := first | assumption | omega) only [bP, bW] | (first | apply pX | apply bX) <;> intro hc | refine ⟨oD, ?_⟩ | exact oD | fail)
         refine hgo _ ?_
         exact lE
      ·obtain rfl : i = es.length := by omega
       repeat' (first | simp only [go_sem, seval, l3] | simp (disch := first | assumption | omega) only [bP, bW] | (first | apply pX | apply bX) <;> intro hc | refine ⟨oD, ?_⟩ | exact oD | fail)
theorem rmany_ok {s : Stm} (hs : StOK s) : EvP Tryz.prog 365 [s.pv] (.b false) := by
 obtain ⟨gs, vs, es⟩ := s
 obtain ⟨hg, hv, hq, ng, nv, ne⟩ := hs
 simp only at hg hv hq ng nv ne
 have l1 : (gs.map gpv).length = gs.length := List.length_map ..
 have l2 : (vs.map vpv).length = vs.length := List.length_map ..
 have l3 : (es.map Eqn.pv).length = es.length := List.length_map ..
 unfold Stm.pv
 simp only
 refine eW Tryz.call365 Tryz.func365 ?_
 repeat' (first | simp only [go_sem, seval] | simp (disch := first | assumption | omega) only [bP, bW] | (first | apply pX | apply bX) <;> intro hc | refine ⟨oD, ?_⟩ | exact oD | fail)
 refine loop_run (α := Nat) (fun i => es.length - i) (fun i => ⟨[(1, .p 1000 0 0), (3, E' i)], [(1000, ⟨0, [.v (.sl (gs.map gpv)), .v (.sl (vs.map vpv)), .v (.sl (es.map Eqn.pv))], false, none⟩)], _⟩) (fun i => i ≤ es.length) 0 (fun _ => Nat.le_refl _) (Nat.zero_le _) ?_ ?_
 ·exact lE
 ·intro i hi R hR
  by_cases hlt : i < es.length
  ·have e1 := getD_map Eqn.pv es d0Q hlt
   have q4 := (hq _ (mem_getD d0Q hlt)).2.2.2.1
   have hgo := hR (i + 1) (by omega) (by omega)
   obtain ⟨x, hx⟩ : ∃ x, x = es.getD i d0Q := ⟨_, rfl⟩
   rw [← hx] at e1 q4
   obtain ⟨gr, tg, ts⟩ := x
   simp only at q4
   have l4 : (ts.map Trm.pv).length = ts.length := List.length_map ..
   simp only [Eqn.pv] at e1
   clear hR hx
   repeat' (first | simp only [go_sem, seval, l3, l4, e1] | simp (disch := first | assumption | omega) only [bP, bW] | (first | apply pX | apply bX) <;> intro hc | refine ⟨oD, ?_⟩ | exact oD | fail)
   refine hgo _ ?_
   exact lE
  ·obtain rfl : i = es.length := by omega
   have hd : decide ((es.length : Int) > 64) = false := decide_eq_false (by omega)
   repeat' (first | simp only [go_sem, seval, l1, l2, l3, hd] | simp (disch := first | assumption | omega) only [bP, bW] | (first | apply pX | apply bX) <;> intro hc | refine ⟨oD, ?_⟩ | exact oD | fail)
theorem relements_ok {s : Stm} (hs : StOK s) : EvP Tryz.prog 366 [s.pv] (.b true) := by
 obtain ⟨gs, vs, es⟩ := s
 obtain ⟨hg, hv, hq, ng, nv, ne⟩ := hs
 simp only at hg hv hq ng nv ne
 have l1 : (gs.map gpv).length = gs.length := List.length_map ..
 have l3 : (es.map Eqn.pv).length = es.length := List.length_map ..
 unfold Stm.pv
 simp only
 refine eW Tryz.call366 Tryz.func366 ?_
 repeat' (first | simp only [go_sem, seval] | simp (disch := first | assumption | omega) only [bP, bW] | (first | apply pX | apply bX) <;> intro hc | refine ⟨oD, ?_⟩ | exact oD | fail)
 refine loop_run (α := Nat) (fun i => gs.length - i) (fun i => ⟨[(1, .p 1000 0 0), (3, E' i)], [(1000, ⟨0, [.v (.sl (gs.map gpv)), .v (.sl (vs.map vpv)), .v (.sl (es.map Eqn.pv))], false, none⟩)], _⟩) (fun i => i ≤ gs.length) 0 (fun _ => Nat.le_refl _) (Nat.zero_le _) ?_ ?_
 ·exact lE
 ·intro i hi R hR
  by_cases hlt : i < gs.length
  ·have e1 := getD_map gpv gs d0G hlt
   have k := hg _ (mem_getD d0G hlt)
   have hgo := hR (i + 1) (by omega) (by omega)
   obtain ⟨x, hx⟩ : ∃ x, x = gs.getD i d0G := ⟨_, rfl⟩
   rw [← hx] at e1 k
   obtain ⟨m, o⟩ := x
   have v1 := r13Check_ok k.2.1 k.2.2
   rw [k.1] at v1
   clear hR hx k
   simp only [gpv] at e1
   repeat' (first | simp only [go_sem, seval, l1, e1] | refine cP v1 ?_ | simp (disch := first | assumption | omega) only [bP, bW] | (first | apply pX | apply bX) <;> intro hc | refine ⟨oD, ?_⟩ | exact oD | fail)
   refine hgo _ ?_
   exact lE
  ·obtain rfl : i = gs.length := by omega
   repeat' (first | simp only [go_sem, seval, l1] | simp (disch := first | assumption | omega) only [bP, bW] | (first | apply pX | apply bX) <;> intro hc | refine ⟨oD, ?_⟩ | exact oD | fail)
   refine loop_run (α := Nat) (fun i => es.length - i) (fun i => ⟨[(1, .p 1000 0 0), (4, E' i)], [(1000, ⟨0, [.v (.sl (gs.map gpv)), .v (.sl (vs.map vpv)), .v (.sl (es.map Eqn.pv))], false, none⟩)], _⟩) (fun i => i ≤ es.length) 0 (fun _ => Nat.le_refl _) (Nat.zero_le _) ?_ ?_
   ·exact lE
   ·intro i hi R hR
    by_cases hlt : i < es.length
    ·have e1 := getD_map Eqn.pv es d0Q hlt
     obtain ⟨q1, q2, q3, q4, q5⟩ := hq _ (mem_getD d0Q hlt)
     have hgo := hR (i + 1) (by omega) (by omega)
     obtain ⟨x, hx⟩ : ∃ x, x = es.getD i d0Q := ⟨_, rfl⟩
     rw [← hx] at e1 q1 q2 q3 q4 q5
     obtain ⟨gr, tg, ts⟩ := x
     simp only at q1 q2 q3 q4 q5
     have hgl : gr.toNat < gs.length := by omega
     have kg := hg _ (mem_getD d0G hgl)
     have e3 := getD_map gpv gs d0G hgl
     obtain ⟨z, hz⟩ : ∃ z, z = gs.getD gr.toNat d0G := ⟨_, rfl⟩
     rw [← hz] at q3 q5 kg e3
     obtain ⟨m, o⟩ := z
     simp only at q3 q5 kg
     have hIn : ∀ {x : Bytes}, gHas m o x = true → gIn m o x = true := fun h => by simp [gIn, kg.1, h]
     have v1 := r13Has_ok kg.2.1 kg.2.2 tg
     rw [hIn q3] at v1
     have v2 := r13Has_ok kg.2.1 kg.2.2
     have l4 : (ts.map Trm.pv).length = ts.length := List.length_map ..
     simp only [gpv] at e3
     simp only [Eqn.pv] at e1
     clear hR hx hz q3
     repeat' (first | simp only [go_sem, seval, l1, l3, e1, e3] | refine cP v1 ?_ | simp (disch := first | assumption | omega) only [bP, bW] | (first | apply pX | apply bX) <;> intro hc | refine ⟨oD, ?_⟩ | exact oD | fail)
     refine loop_run (α := Nat) (fun i => ts.length - i) (fun j => ⟨[(1, .p 1000 0 0), (4, E' i), (5, .p 1019 0 0), (6, .p 1027 0 0), (7, E' j)], [(1000, ⟨0, [.v (.sl (gs.map gpv)), .v (.sl (vs.map vpv)), .v (.sl (es.map Eqn.pv))], false, none⟩), (1019, ⟨0, [.v (.i .i64 gr), .v (.s tg), .v (.sl (ts.map Trm.pv))], false, some 123⟩), (1027, ⟨0, [.v (.s m), .v (.s o)], false, some 26⟩)], _⟩) (fun i => i ≤ ts.length) 0 (fun _ => Nat.le_refl _) (Nat.zero_le _) ?_ ?_
     ·exact lE
     ·intro j hj R' hR'
      by_cases hjt : j < ts.length
      ·have e2 := getD_map Trm.pv ts d0T hjt
       have t3 := (q5 _ (mem_getD d0T hjt)).2.2.1
       have hgo' := hR' (j + 1) (by omega) (by omega)
       obtain ⟨y, hy⟩ : ∃ y, y = ts.getD j d0T := ⟨_, rfl⟩
       rw [← hy] at e2 t3
       obtain ⟨b, v, n, a⟩ := y
       simp only at t3
       have v3 := v2 b
       rw [hIn t3] at v3
       simp only [Trm.pv] at e2
       clear hR' hy t3 q5
       repeat' (first | simp only [go_sem, seval, l4, e2] | refine cP v3 ?_ | simp (disch := first | assumption | omega) only [bP, bW] | (first | apply pX | apply bX) <;> intro hc | refine ⟨oD, ?_⟩ | exact oD | fail)
       refine hgo' _ ?_
       exact lE
      ·obtain rfl : j = ts.length := by omega
       repeat' (first | simp only [go_sem, seval, l4] | simp (disch := first | assumption | omega) only [bP, bW] | (first | apply pX | apply bX) <;> intro hc | refine ⟨oD, ?_⟩ | exact oD | fail)
       refine hgo _ ?_
       exact lE
    ·obtain rfl : i = es.length := by omega
     repeat' (first | simp only [go_sem, seval, l3] | simp (disch := first | assumption | omega) only [bP, bW] | (first | apply pX | apply bX) <;> intro hc | refine ⟨oD, ?_⟩ | exact oD | fail)
theorem rtyped_ok {s : Stm} (hs : StOK s) : EvP Tryz.prog 367 [s.pv] (.b true) := by
 obtain ⟨gs, vs, es⟩ := s
 obtain ⟨hg, hv, hq, ng, nv, ne⟩ := hs
 simp only at hg hv hq ng nv ne
 have l2 : (vs.map vpv).length = vs.length := List.length_map ..
 unfold Stm.pv
 simp only
 refine eW Tryz.call367 Tryz.func367 ?_
 repeat' (first | simp only [go_sem, seval] | simp (disch := first | assumption | omega) only [bP, bW] | (first | apply pX | apply bX) <;> intro hc | refine ⟨oD, ?_⟩ | exact oD | fail)
 refine loop_run (α := Nat) (fun i => vs.length - i) (fun i => ⟨[(1, .p 1000 0 0), (3, .v (.b false)), (4, E' i)], [(1000, ⟨0, [.v (.sl (gs.map gpv)), .v (.sl (vs.map vpv)), .v (.sl (es.map Eqn.pv))], false, none⟩)], _⟩) (fun i => i ≤ vs.length) 0 (fun _ => Nat.le_refl _) (Nat.zero_le _) ?_ ?_
 ·exact lE
 ·intro i hi R hR
  by_cases hlt : i < vs.length
  ·have e1 := getD_map vpv vs [] hlt
   have k := (hv _ (mem_getD [] hlt)).2.1
   have hgo := hR (i + 1) (by omega) (by omega)
   obtain ⟨x, hx⟩ : ∃ x, x = vs.getD i [] := ⟨_, rfl⟩
   rw [← hx] at e1 k
   have kb : (x == ([] : Bytes)) = false := by simpa using k
   clear hR hx k
   simp only [vpv] at e1
   repeat' (first | simp only [go_sem, seval, l2, e1, kb] | simp (disch := first | assumption | omega) only [bP, bW] | (first | apply pX | apply bX) <;> intro hc | refine ⟨oD, ?_⟩ | exact oD | fail)
   refine hgo _ ?_
   exact lE
  ·obtain rfl : i = vs.length := by omega
   repeat' (first | simp only [go_sem, seval, l2] | simp (disch := first | assumption | omega) only [bP, bW] | (first | apply pX | apply bX) <;> intro hc | refine ⟨oD, ?_⟩ | exact oD | fail)
theorem rCheck15_ok {s : Stm} (hs : StOK s) : EvP Tryz.prog 268 [s.pv] (E 0) := by
 have h1 := rformed_ok hs
 have h2 := rmany_ok hs
 have h3 := relements_ok hs
 have h4 := rtyped_ok hs
 clear hs
 have h5 : EvP Tryz.prog 327 [s.pv] (E 0) := by
  unfold Stm.pv at *
  refine eW Tryz.call327 Tryz.func327 ?_
  repeat' (first | simp only [go_sem, seval] | refine cP h2 ?_ | refine cP h3 ?_ | refine cP h4 ?_ | simp (disch := first | assumption | omega) only [bP, bW] | (first | apply pX | apply bX) <;> intro hc | refine ⟨oD, ?_⟩ | exact oD | fail)
 unfold Stm.pv at *
 refine eW Tryz.call268 Tryz.func268 ?_
 repeat' (first | simp only [go_sem, seval] | refine cP h1 ?_ | refine cP h5 ?_ | simp (disch := first | assumption | omega) only [bP, bW] | (first | apply pX | apply bX) <;> intro hc | refine ⟨oD, ?_⟩ | exact oD | fail)
theorem rorder16_ok (s : Stm) (hl : s.groups.length < 1000000) : EvP Tryz.prog 269 [s.pv] (.s (ordL s.groups)) := by
 obtain ⟨gs, vs, es⟩ := s
 simp only at hl
 have l1 : (gs.map gpv).length = gs.length := List.length_map ..
 unfold Stm.pv
 simp only
 refine eW Tryz.call269 Tryz.func269 ?_
 repeat' (first | simp only [go_sem, seval] | simp (disch := first | assumption | omega) only [bP, bW] | (first | apply pX | apply bX) <;> intro hc | refine ⟨oD, ?_⟩ | exact oD | fail)
 refine loop_run (α := Nat) (fun i => gs.length - i) (fun i => ⟨[(1, .p 1000 0 0), (3, E' i)], [(1000, ⟨0, [.v (.sl (gs.map gpv)), .v (.sl (vs.map vpv)), .v (.sl (es.map Eqn.pv))], false, none⟩)], _⟩) (fun i => i ≤ gs.length ∧ ordL (gs.drop i) = ordL gs) 0 (fun _ => Nat.le_refl _) ⟨Nat.zero_le _, rfl⟩ ?_ ?_
 ·exact lE
 ·rintro i ⟨hi, hf⟩ R hR
  rw [← hf]
  by_cases hlt : i < gs.length
  ·have e1 := getD_map gpv gs d0G hlt
   have hgo := hR (i + 1)
   rw [← hf] at hgo
   rw [drop_getD d0G hlt] at hgo ⊢
   obtain ⟨x, hx⟩ : ∃ x, x = gs.getD i d0G := ⟨_, rfl⟩
   rw [← hx] at e1 hgo ⊢
   clear hx hf hR
   obtain ⟨m, o⟩ := x
   simp only [ordL] at hgo ⊢
   simp only [gpv] at e1
   by_cases ho : o = []
   ·subst ho
    simp only [if_true] at hgo ⊢
    have hgo := hgo ⟨by omega, trivial⟩ (by omega)
    repeat' (first | simp only [go_sem, seval, l1, e1, nn] | simp (disch := first | assumption | omega) only [bP, bW] | (first | apply pX | apply bX) <;> intro hc | refine ⟨oD, ?_⟩ | exact oD | fail)
    refine hgo _ ?_
    exact lE
   ·have hb : (o == ([] : Bytes)) = false := by simpa using ho
    rw [if_neg ho]
    repeat' (first | simp only [go_sem, seval, l1, e1, hb] | simp (disch := first | assumption | omega) only [bP, bW] | (first | apply pX | apply bX) <;> intro hc | refine ⟨oD, ?_⟩ | exact oD | fail)
  ·obtain rfl : i = gs.length := by omega
   rw [List.drop_length]
   repeat' (first | simp only [go_sem, seval, l1] | simp (disch := first | assumption | omega) only [bP, bW] | (first | apply pX | apply bX) <;> intro hc | refine ⟨oD, ?_⟩ | exact oD | fail)
   all_goals rfl
theorem r16Bounds_ok {c sl : Bytes} (hr : RuOK c sl) {s : Stm} (hs : StOK s) (h0 : s.vars ≠ []) : EvP Tryz.prog 198 [.agg [.s c, .s sl], s.pv] (.tup [.sl (s.vars.map fun b => N (limM c sl b)), .sl (s.vars.map fun b => N (limR c sl b)), E 0]) := by
 have hck := rCheck15_ok hs
 have hor := rorder16_ok s (by have := hs.ng; omega)
 have v1 := rValid_ok c
 have v2 := rValid_ok sl
 rw [hr.vc] at v1
 rw [hr.vs] at v2
 have lc := hr.lc
 have lsl := hr.ls
 have c1 := rOrder_ok (a := c) (b := [2]) (canon_of hr.vc) (.inr (by decide)) (by omega) (by decide)
 have c2 := rOrder_ok (a := sl) (b := [2]) (canon_of hr.vs) (.inr (by decide)) (by omega) (by decide)
 rw [show num ([2] : Bytes) = 2 from rfl] at c1 c2
 have d1 : ∀ _ : True, decide (cmpN (num c) 2 < 0) = false := fun _ => decide_eq_false (fun g => by have := cmpN_lt.1 g; have := hr.c2; omega)
 have d2 : ∀ _ : True, decide (cmpN (num sl) 2 < 0) = false := fun _ => decide_eq_false (fun g => by have := cmpN_lt.1 g; have := hr.s2; omega)
 generalize cmpN (num c) 2 = cm1 at *
 generalize cmpN (num sl) 2 = cm2 at *
 have nv := hs.nv
 have hv := hs.v
 obtain ⟨gs, vs, es⟩ := s
 simp only at *
 generalize ordL gs = q at *
 clear hs
 have l2 : (vs.map vpv).length = vs.length := List.length_map ..
 have hpos : 0 < vs.length := List.length_pos_iff.2 h0
 unfold Stm.pv at *
 simp only at *
 have hM : RowOK (fun b => N (limM c sl b)) 1 := ⟨fun _ => rfl, fun _ y hy => by cases List.mem_singleton.1 hy; rfl, fun _ _ => rfl, fun h => absurd rfl h⟩
 have hR0 : RowOK (fun b => N (limR c sl b)) 1 := ⟨fun _ => rfl, fun _ y hy => by cases List.mem_singleton.1 hy; rfl, fun _ _ => rfl, fun h => absurd rfl h⟩
 have row1 : ∀ {i : Nat}, i < vs.length → rowF (fun b => N (limM c sl b)) (vs.take (i + 1)) = rowF (fun b => N (limM c sl b)) (vs.take i) ++ [.v (N (limM c sl (vs.getD i [])))] := fun h => by
  rw [take_succ_getD [] h, rowF_snoc]; rfl
 have row2 : ∀ {i : Nat}, i < vs.length → rowF (fun b => N (limR c sl b)) (vs.take (i + 1)) = rowF (fun b => N (limR c sl b)) (vs.take i) ++ [.v (N (limR c sl (vs.getD i [])))] := fun h => by
  rw [take_succ_getD [] h, rowF_snoc]; rfl
 have rn1 : rowF (fun b => N (limM c sl b)) [] = [] := rfl
 have rn2 : rowF (fun b => N (limR c sl b)) [] = [] := rfl
 have t1 := rTimes_ok sl c (by omega) (by omega)
 have s1 := rMinus_ok c [1] (by omega) (by decide) (by have := hr.c2; show 1 ≤ num c; omega)
 rw [show num ([1] : Bytes) = 1 from rfl] at s1
 have llim : ∀ {x : Nat}, x < LIM → (bts x).length < 1048576 := fun h => by have := lim_len.2 h; omega
 have h64 := w64_lim
 have hnc := num8 lc
 have hns := num8 lsl
 have hAl : num sl * num c < LIM := Nat.lt_of_lt_of_le (Nat.mul_lt_mul'' hns hnc) (by unfold LIM; decide +kernel)
 have tt : ∀ {b : Bytes}, validN b = true → b ≠ [] → b.length ≤ 16 → EvP Tryz.prog 193 [N (num sl * num c), .s b] (N (limM c sl b)) ∧ EvP Tryz.prog 112 [.s b, .s [1]] (N (num b - 1)) ∧ EvP Tryz.prog 193 [N (num c - 1), N (num b - 1)] (N ((num c - 1) * (num b - 1))) ∧ EvP Tryz.prog 53 [N (limM c sl b)] (.b true) ∧ EvP Tryz.prog 112 [N (limM c sl b), N ((num c - 1) * (num b - 1))] (N (limR c sl b)) := by
  intro b vb hb lb
  have hb0 := num_pos (canon_of vb) hb
  have hb16 := num16 lb
  have hw := w128
  have hML := limM_lt hr lb
  have hle := lim_le (b := b) hr
  have u1 := rTimesN (x := num sl * num c) (y := num b) (llim hAl) (llim (by omega))
  rw [N_of vb] at u1
  have u2 := rMinus_ok b [1] (by omega) (by decide) hb0
  rw [show num ([1] : Bytes) = 1 from rfl] at u2
  have u3 := rTimesN (x := num c - 1) (y := num b - 1) (llim (by omega)) (llim (by omega))
  have u4 := rValid_ok (bts (limM c sl b))
  rw [vB hML] at u4
  have u5 := rMinusN (x := limM c sl b) (y := (num c - 1) * (num b - 1)) (by have := llim hML; omega) (by have := llim (show (num c - 1) * (num b - 1) < LIM by omega); omega) hle
  exact ⟨u1, u2, u3, u4, u5⟩
 refine eW Tryz.call198 Tryz.func198 ?_
 repeat' (first | simp only [go_sem, seval, d1 trivial, d2 trivial] | refine cP v1 ?_ | refine cP v2 ?_ | refine cP hck ?_ | refine cP c1 ?_ | refine cP c2 ?_ | refine cP hor ?_ | simp (disch := first | assumption | omega) only [bP, bW] | (first | apply pX | apply bX) <;> intro hc | refine ⟨oD, ?_⟩ | exact oD | fail)
 refine loop_run (α := Nat) (fun i => vs.length - i) (fun i => ⟨[(2, .p 1000 0 0), (3, .p 1001 0 0), (8, .v (.s q)), (9, E' i)], [(1000, ⟨0, [.v (.s c), .v (.s sl)], false, none⟩), (1001, ⟨0, [.v (.sl (gs.map gpv)), .v (.sl (vs.map vpv)), .v (.sl (es.map Eqn.pv))], false, none⟩)], _⟩) (fun i => i ≤ vs.length) 0 (fun _ => Nat.le_refl _) (Nat.zero_le _) ?_ ?_
 ·exact lE
 ·intro i hi R hR
  by_cases hlt : i < vs.length
  ·have e1 := getD_map vpv vs [] hlt
   have k := (hv _ (mem_getD [] hlt)).2.1
   have hgo := hR (i + 1) (by omega) (by omega)
   obtain ⟨x, hx⟩ : ∃ x, x = vs.getD i [] := ⟨_, rfl⟩
   rw [← hx] at e1 k
   have kb : (x == ([] : Bytes)) = false := by simpa using k
   clear hR hx k
   simp only [vpv] at e1
   repeat' (first | simp only [go_sem, seval, l2, e1, kb] | simp (disch := first | assumption | omega) only [bP, bW] | (first | apply pX | apply bX) <;> intro hc | refine ⟨oD, ?_⟩ | exact oD | fail)
   refine hgo _ ?_
   exact lE
  ·obtain rfl : i = vs.length := by omega
   repeat' (first | simp only [go_sem, seval, l2] | simp (disch := first | assumption | omega) only [bP, bW] | (first | apply pX | apply bX) <;> intro hc | refine ⟨oD, ?_⟩ | exact oD | fail)
   refine loop_unroll' ?_
   have e1 := getD_map vpv vs [] hpos
   obtain ⟨k1, k2, k3⟩ := hv _ (mem_getD [] hpos)
   obtain ⟨u1, u2, u3, u4, u5⟩ := tt k1 k2 k3
   have kb : (vs.getD 0 [] == ([] : Bytes)) = false := by simpa using k2
   have r1 := row1 hpos
   have r2 := row2 hpos
   simp only [vpv] at e1
   repeat' (first | simp only [go_sem, seval, l2, e1, kb] | refine cP t1 ?_ | refine cP u1 ?_ | refine cP s1 ?_ | refine cP u2 ?_ | refine cP u3 ?_ | refine cP u4 ?_ | refine cP u5 ?_ | simp (disch := first | assumption | omega) only [bP, bW] | (first | apply pX | apply bX) <;> intro hc | refine ⟨oD, ?_⟩ | exact oD | fail)
   refine loop_run (α := Nat) (fun j => vs.length - (j + 1)) (fun j => ⟨[(2, .p 1000 0 0), (3, .p 1001 0 0), (10, .rs 1077 j 0 (j + 1) 1), (11, .rs 1083 j 0 (j + 1) 1), (12, E' (j + 1))], [(1000, ⟨0, [.v (.s c), .v (.s sl)], false, none⟩), (1001, ⟨0, [.v (.sl (gs.map gpv)), .v (.sl (vs.map vpv)), .v (.sl (es.map Eqn.pv))], false, none⟩), (1077, ⟨j, rowF (fun b => N (limM c sl b)) (vs.take (j + 1)), true, some 22⟩), (1083, ⟨j, rowF (fun b => N (limR c sl b)) (vs.take (j + 1)), true, some 22⟩)], 1089⟩) (fun j => j + 1 ≤ vs.length) 0 (fun _ => Nat.le_of_ble_eq_true rfl) hpos ?_ ?_
   ·rw [Nat.zero_add, r1, r2, List.take_zero, rn1, rn2]
    exact lE
   ·clear u1 u2 u3 u4 u5 e1 kb r1 r2
    intro j hj R hR
    have hj1 : (vs.take (j + 1)).length = j + 1 := by rw [List.length_take]; omega
    have q1 := rowF_len hM (vs.take (j + 1))
    have q2 := rowF_take hM (vs.take (j + 1))
    have q5 := rowF_len hR0 (vs.take (j + 1))
    have q6 := rowF_take hR0 (vs.take (j + 1))
    rw [hj1, Nat.mul_one] at q1 q2 q5 q6
    have hw1 : ∀ _ : True, ((j : Int) + 1) = ((j + 1 : Nat) : Int) := fun _ => by omega
    by_cases hlt : j + 1 < vs.length
    ·have e1 := getD_map vpv vs [] hlt
     obtain ⟨k1, k2, k3⟩ := hv _ (mem_getD [] hlt)
     obtain ⟨u1, u2, u3, u4, u5⟩ := tt k1 k2 k3
     have kb : (vs.getD (j + 1) [] == ([] : Bytes)) = false := by simpa using k2
     have r1 := row1 hlt
     have r2 := row2 hlt
     simp only [vpv] at e1
     have hgo := hR (j + 1) (by omega) (by omega)
     rw [r1, r2] at hgo
     clear hR
     repeat' (first | simp only [go_sem, seval, l2, e1, kb, q1, q2, q5, q6] | refine cP t1 ?_ | refine cP u1 ?_ | refine cP s1 ?_ | refine cP u2 ?_ | refine cP u3 ?_ | refine cP u4 ?_ | refine cP u5 ?_ | simp (disch := first | assumption | omega) only [bP, bW] | (first | apply pX | apply bX) <;> intro hc | refine ⟨oD, ?_⟩ | exact oD | fail)
     refine hgo _ ?_
     (refine AS.Le.of (by first | decide | omega) ?_ ?_ <;> simp [LeT, LeH, tget, hget, AV.bd, AV.bd.bdL, u8, bd_cellsOf, bcells_bd, icells_bd])
     all_goals (refine ⟨?_, ?_⟩ <;> (intro c hc; rcases hc with h | h <;> first | exact bd_row h | (subst h; rfl)))
    ·obtain hjv : j + 1 = vs.length := by omega
     rw [hjv, List.take_length] at q1 q2 q5 q6
     rw [hjv, List.take_length]
     have q3 := rowF_all hM vs
     have q4 : chunk 1 vs.length (List.flatMap (fun x => [PV.s (bts (limM c sl x))]) vs) = vs.map fun b => N (limM c sl b) := rowF_chunk hM vs
     have q7 := rowF_all hR0 vs
     have q8 : chunk 1 vs.length (List.flatMap (fun x => [PV.s (bts (limR c sl x))]) vs) = vs.map fun b => N (limR c sl b) := rowF_chunk hR0 vs
     repeat' (first | simp only [go_sem, seval, l2, q1, q2, q3, q4, q5, q6, q7, q8, rowF_mapO] | simp (disch := first | assumption | omega) only [bP, bW] | (first | apply pX | apply bX) <;> intro hc | refine ⟨oD, ?_⟩ | exact oD | fail)
end Go.Proofs.YthbognfeadopjaaGreatDoor
