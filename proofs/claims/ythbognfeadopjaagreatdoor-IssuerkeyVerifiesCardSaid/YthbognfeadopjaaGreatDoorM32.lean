/-
  Part of the proof, part 32. Own work.
-/
import Derived.Test.YthbognfeadopjaaGreatDoorM31
import Derived.Test.YthbognfeadopjaaGreatDoorM25
set_option linter.all false
namespace Go.Proofs.YthbognfeadopjaaGreatDoor
open Go Go.Dom Go.Num
set_option maxRecDepth 100000
set_option maxHeartbeats 16000000
theorem dGeF {a b : Nat} (h : a < b) : decide (cmpN a b ≥ 0) = false := decide_eq_false (fun g => by have := cmpN_ge.1 g; omega)
theorem dGeT {a b : Nat} (h : b ≤ a) : decide (cmpN a b ≥ 0) = true := decide_eq_true (cmpN_ge.2 h)
theorem dLt (a b : Nat) : decide (cmpN a b < 0) = decide (a < b) := by rw [Bool.eq_iff_iff]; simp only [decide_eq_true_eq]; exact cmpN_lt
theorem r9form_ok (m o : Bytes) : EvP Tryz.prog 184 [G m o] (.b (validN m && validN o)) := by
 have v1 := rValid_ok m
 have v2 := rValid_ok o
 refine eW Tryz.call184 Tryz.func184 ?_
 repeat' (first | simp only [go_sem, seval] | refine cP v1 ?_ | refine cP v2 ?_ | simp (disch := first | assumption | omega) only [bP, bW] | (first | apply pX | apply bX) <;> intro hc | refine ⟨oD, ?_⟩ | exact oD | fail)
 all_goals simp_all
theorem r9divides_ok {m o : Bytes} (vm : validN m = true) (vo : validN o = true) (h0 : 0 < num o) : EvP Tryz.prog 186 [G m o] (.b (!(m == []) && decide ((num m - 1) % num o = 0))) := by
 have lm := len_of vm
 have lo := len_of vo
 by_cases hm : m = []
 ·subst hm
  refine eW Tryz.call186 Tryz.func186 ?_
  repeat' (first | simp only [go_sem, seval, nn] | simp (disch := first | assumption | omega) only [bP, bW] | (first | apply pX | apply bX) <;> intro hc | refine ⟨oD, ?_⟩ | exact oD | fail)
  all_goals rfl
 have hb : (m == ([] : Bytes)) = false := by simpa using hm
 have hp := num_pos (canon_of vm) hm
 have h1 := rMinus_ok m [1] (by omega) (by decide) hp
 rw [show num ([1] : Bytes) = 1 from rfl] at h1
 have h2 := rOver_ok (a := bts (num m - 1)) (b := o) (bts_canon _) (canon_of vo) h0 (by
  have : (bts (num m - 1)).length ≤ 128 := lim_len.2 (by have := num_of vm; unfold LIM; omega)
  omega) (by omega)
 rw [num_bts] at h2
 have hz : ∀ _ : True, (bts ((num m - 1) % num o) == ([] : Bytes)) = decide ((num m - 1) % num o = 0) := fun _ => by
  rw [Bool.eq_iff_iff]; simp [bts_nil]
 rw [hb]
 refine eW Tryz.call186 Tryz.func186 ?_
 repeat' (first | simp only [go_sem, seval, hb, hz trivial] | refine cP h1 ?_ | refine cP h2 ?_ | simp (disch := first | assumption | omega) only [bP, bW] | (first | apply pX | apply bX) <;> intro hc | refine ⟨oD, ?_⟩ | exact oD | fail)
 all_goals simp
theorem r9Check_ok (m o : Bytes) : EvP Tryz.prog 103 [G m o] (E (pgE m o)) := by
 have hf := r9form_ok m o
 by_cases hv : validN m = true ∧ validN o = true
 case neg =>
  have e : (validN m && validN o) = false := by rw [Bool.eq_false_iff]; intro g; simp at g; exact hv g
  rw [e] at hf
  have e2 : pgE m o = 3 := by simp [pgE, e]
  rw [e2]
  refine eW Tryz.call103 Tryz.func103 ?_
  repeat' (first | simp only [go_sem, seval] | refine cP hf ?_ | simp (disch := first | assumption | omega) only [bP, bW] | (first | apply pX | apply bX) <;> intro hc | refine ⟨oD, ?_⟩ | exact oD | fail)
 obtain ⟨v1, v2⟩ := hv
 have lm := len_of v1
 have lo := len_of v2
 have hm := rIs_ok m (by omega)
 have ho := rIs_ok o (by omega)
 rw [v1, v2] at hf
 rw [v1] at hm
 rw [v2] at ho
 simp only [Bool.true_and, if_true] at hm ho
 by_cases l1 : m.length ≤ 8
 case neg =>
  have e2 : pgE m o = 5 := by simp [pgE, v1, v2]; intro g; omega
  rw [e2]
  refine eW Tryz.call103 Tryz.func103 ?_
  repeat' (first | simp only [go_sem, seval] | refine cP hf ?_ | simp (disch := first | assumption | omega) only [bP, bW] | (first | apply pX | apply bX) <;> intro hc | refine ⟨oD, ?_⟩ | exact oD | fail)
 rw [decide_eq_true l1, if_pos l1, Bool.true_and] at hm
 by_cases p1 : isMR (num m) = true
 case neg =>
  have p1 : isMR (num m) = false := by simpa using p1
  have e2 : pgE m o = 12 := by simp [pgE, v1, v2, p1, l1]
  rw [p1] at hm
  rw [e2]
  refine eW Tryz.call103 Tryz.func103 ?_
  repeat' (first | simp only [go_sem, seval] | refine cP hf ?_ | refine cP hm ?_ | simp (disch := first | assumption | omega) only [bP, bW] | (first | apply pX | apply bX) <;> intro hc | refine ⟨oD, ?_⟩ | exact oD | fail)
 rw [p1] at hm
 by_cases l2 : o.length ≤ 8
 case neg =>
  have e2 : pgE m o = 13 := by simp [pgE, v1, v2, p1, show ¬ 8 < m.length by omega, show 8 < o.length by omega]
  rw [e2]
  refine eW Tryz.call103 Tryz.func103 ?_
  repeat' (first | simp only [go_sem, seval] | refine cP hf ?_ | refine cP hm ?_ | simp (disch := first | assumption | omega) only [bP, bW] | (first | apply pX | apply bX) <;> intro hc | refine ⟨oD, ?_⟩ | exact oD | fail)
 rw [decide_eq_true l2, if_pos l2, Bool.true_and] at ho
 by_cases p2 : isMR (num o) = true
 case neg =>
  have p2 : isMR (num o) = false := by simpa using p2
  have e2 : pgE m o = 12 := by simp [pgE, v1, v2, p1, p2, show ¬ 8 < m.length by omega, show ¬ 8 < o.length by omega]
  rw [p2] at ho
  rw [e2]
  refine eW Tryz.call103 Tryz.func103 ?_
  repeat' (first | simp only [go_sem, seval] | refine cP hf ?_ | refine cP hm ?_ | refine cP ho ?_ | simp (disch := first | assumption | omega) only [bP, bW] | (first | apply pX | apply bX) <;> intro hc | refine ⟨oD, ?_⟩ | exact oD | fail)
 rw [p2] at ho
 have h2 : 2 ≤ num m := by rcases Nat.lt_or_ge (num m) 2 with g | g; simp [isMR, g] at p1; exact g
 have h3 : 2 ≤ num o := by rcases Nat.lt_or_ge (num o) 2 with g | g; simp [isMR, g] at p2; exact g
 have hd := r9divides_ok v1 v2 (by omega)
 have hb : (m == ([] : Bytes)) = false := by simp; intro e; subst e; simp [num] at h2
 rw [hb] at hd
 have e2 : pgE m o = if (num m - 1) % num o = 0 then 0 else 13 := by simp [pgE, v1, v2, p1, p2, show ¬ 8 < m.length by omega, show ¬ 8 < o.length by omega]
 rw [e2]
 generalize (num m - 1) % num o = z at *
 refine eW Tryz.call103 Tryz.func103 ?_
 repeat' (first | simp only [go_sem, seval] | refine cP hf ?_ | refine cP hm ?_ | refine cP ho ?_ | refine cP hd ?_ | simp (disch := first | assumption | omega) only [bP, bW] | (first | apply pX | apply bX) <;> intro hc | refine ⟨oD, ?_⟩ | exact oD | fail)
 all_goals simp_all
theorem r9Has_ok {m : Bytes} (lm : m.length ≤ 8) (o x : Bytes) : EvP Tryz.prog 187 [G m o, .s x] (.b (pgHas m o x)) := by
 have hf := r9form_ok m o
 have vx := rValid_ok x
 by_cases h : validN m = true ∧ validN o = true ∧ validN x = true ∧ o ≠ [] ∧ x ≠ []
 ·obtain ⟨v1, v2, v3, h4, h5⟩ := h
  have e4 : (o == ([] : Bytes)) = false := by simpa using h4
  have e5 : (x == ([] : Bytes)) = false := by simpa using h5
  have hn := num8 lm
  have lx := len_of v3
  have hor := rOrder_ok (canon_of v3) (canon_of v1) (by omega) (by omega)
  rw [v1, v2] at hf
  rw [v3] at vx
  have hx0 := num_pos (canon_of v3) h5
  by_cases h6 : num x < num m
  ·have hE := rExpM (a := num x) (m := num m) (e := o) (by omega) v2 hn (by omega)
   rw [N_of v3, N_of v1] at hE
   have hlt : ∀ _ : True, decide (cmpN (num x) (num m) ≥ 0) = false := fun _ => dGeF (by omega)
   have e : pgHas m o x = decide (num x ^ num o % num m = 1) := by simp [pgHas, v1, v2, v3, e4, e5, h6, Nat.mod_eq_of_lt (show 1 < num m by omega)]
   rw [e]
   generalize num x ^ num o % num m = z1 at *
   refine eW Tryz.call187 Tryz.func187 ?_
   repeat' (first | simp only [go_sem, seval, e4, e5, hlt trivial, oneF] | refine cP hf ?_ | refine cP vx ?_ | refine cP hor ?_ | refine cP hE ?_ | simp (disch := first | assumption | omega) only [bP, bW] | (first | apply pX | apply bX) <;> intro hc | refine ⟨oD, ?_⟩ | exact oD | fail)
  ·have hlt : ∀ _ : True, decide (cmpN (num x) (num m) ≥ 0) = true := fun _ => dGeT (by omega)
   have e : pgHas m o x = false := by simp [pgHas, h6]
   rw [e]
   refine eW Tryz.call187 Tryz.func187 ?_
   repeat' (first | simp only [go_sem, seval, e4, e5, hlt trivial] | refine cP hf ?_ | refine cP vx ?_ | refine cP hor ?_ | simp (disch := first | assumption | omega) only [bP, bW] | (first | apply pX | apply bX) <;> intro hc | refine ⟨oD, ?_⟩ | exact oD | fail)
 ·have e : pgHas m o x = false := by
   rw [Bool.eq_false_iff]; intro g; simp [pgHas] at g
   exact h ⟨g.1.1.1.1.1.1, g.1.1.1.1.1.2, g.1.1.1.1.2, g.1.1.1.2, g.1.1.2⟩
  rw [e]
  by_cases hmo : (validN m && validN o) = true
  case neg =>
   have hmo : (validN m && validN o) = false := by simpa using hmo
   rw [hmo] at hf
   refine eW Tryz.call187 Tryz.func187 ?_
   repeat' (first | simp only [go_sem, seval] | refine cP hf ?_ | refine cP vx ?_ | simp (disch := first | assumption | omega) only [bP, bW] | (first | apply pX | apply bX) <;> intro hc | refine ⟨oD, ?_⟩ | exact oD | fail)
  rw [hmo] at hf
  by_cases v3 : validN x = true
  case neg =>
   have v3 : validN x = false := by simpa using v3
   rw [v3] at vx
   refine eW Tryz.call187 Tryz.func187 ?_
   repeat' (first | simp only [go_sem, seval] | refine cP hf ?_ | refine cP vx ?_ | simp (disch := first | assumption | omega) only [bP, bW] | (first | apply pX | apply bX) <;> intro hc | refine ⟨oD, ?_⟩ | exact oD | fail)
  rw [v3] at vx
  by_cases h4 : o = []
  ·subst h4
   refine eW Tryz.call187 Tryz.func187 ?_
   repeat' (first | simp only [go_sem, seval, nn] | refine cP hf ?_ | refine cP vx ?_ | simp (disch := first | assumption | omega) only [bP, bW] | (first | apply pX | apply bX) <;> intro hc | refine ⟨oD, ?_⟩ | exact oD | fail)
  ·have e4 : (o == ([] : Bytes)) = false := by simpa using h4
   by_cases h5 : x = []
   ·subst h5
    refine eW Tryz.call187 Tryz.func187 ?_
    repeat' (first | simp only [go_sem, seval, nn, e4] | refine cP hf ?_ | refine cP vx ?_ | simp (disch := first | assumption | omega) only [bP, bW] | (first | apply pX | apply bX) <;> intro hc | refine ⟨oD, ?_⟩ | exact oD | fail)
   ·simp only [Bool.and_eq_true] at hmo
    exact absurd ⟨hmo.1, hmo.2, v3, h4, h5⟩ h
theorem r9Gen_ok {m : Bytes} (lm : m.length ≤ 8) (o x : Bytes) : EvP Tryz.prog 104 [G m o, .s x] (.b (pgHas m o x && !(x == [1]))) := by
 have h := r9Has_ok lm o x
 generalize pgHas m o x = z at *
 refine eW Tryz.call104 Tryz.func104 ?_
 repeat' (first | simp only [go_sem, seval] | refine cP h ?_ | simp (disch := first | assumption | omega) only [bP, bW] | (first | apply pX | apply bX) <;> intro hc | refine ⟨oD, ?_⟩ | exact oD | fail)
 all_goals simp_all
theorem rOf8 : EvP Tryz.prog 107 [.i .u64 8] (.s [8]) := rOf_ok 8 (by decide)
theorem rOf1' : EvP Tryz.prog 107 [.i .u64 1] (.s [1]) := rOf_ok 1 (by decide)
theorem rOf2 : EvP Tryz.prog 107 [.i .u64 2] (.s [2]) := rOf_ok 2 (by decide)
theorem r10Good_ok (m o : Bytes) : EvP Tryz.prog 266 [G m o] (.b (goodB m o)) := by
 have hv := rValid_ok m
 by_cases h : validN m = true
 ·have hb := rBit_ok h 0 (by decide)
  have hcm := rCmp_ok m [8]
  rw [h] at hv
  rw [h, show validN [8] = true from rfl, show num [8] = 8 from rfl] at hcm
  have he : cmpN (num m) 8 > 0 ↔ 8 < num m := by unfold cmpN; split <;> (try split) <;> omega
  have h8 := rOf8
  refine eW Tryz.call266 Tryz.func266 ?_
  repeat' (first | simp only [go_sem, seval] | refine cP hv ?_ | refine cP hb ?_ | refine cP h8 ?_ | refine cP hcm ?_ | simp (disch := first | assumption | omega) only [bP, bW] | (first | apply pX | apply bX) <;> intro hc | refine ⟨oD, ?_⟩ | exact oD | fail)
  all_goals simp_all [goodB]
 ·have h : validN m = false := by simpa using h
  rw [h] at hv
  have e : goodB m o = false := by simp [goodB, h]
  rw [e]
  refine eW Tryz.call266 Tryz.func266 ?_
  repeat' (first | simp only [go_sem, seval] | refine cP hv ?_ | simp (disch := first | assumption | omega) only [bP, bW] | (first | apply pX | apply bX) <;> intro hc | refine ⟨oD, ?_⟩ | exact oD | fail)
theorem r10Has_ok {m : Bytes} (lm : m.length ≤ 8) (o x : Bytes) : EvP Tryz.prog 191 [G m o, .s x] (.b (rHas m o x)) := by
 have hg := r10Good_ok m o
 have hv := rValid_ok x
 have h1' := rOf1'
 by_cases h : goodB m o = true ∧ validN x = true ∧ x ≠ [] ∧ num x < num m
 ·obtain ⟨h1, h2, h3, h4⟩ := h
  have hm : validN m = true := by simp [goodB] at h1; exact h1.1.1.1
  have hcm := rCmp_ok x m
  rw [h2, hm] at hcm
  simp only [Bool.and_self, if_true] at hcm
  have hgc := rGcd_ok h2 hm
  rw [h1] at hg
  rw [h2] at hv
  have hx : (x == ([] : Bytes)) = false := by simpa using h3
  have hlt : ∀ _ : True, decide (cmpN (num x) (num m) ≥ 0) = false := fun _ => dGeF (by omega)
  have e : rHas m o x = decide (Nat.gcd (num x) (num m) = 1) := by simp [rHas, h1, h2, hx, h4]
  rw [e]
  refine eW Tryz.call191 Tryz.func191 ?_
  repeat' (first | simp only [go_sem, seval, hx, hlt trivial, oneF] | refine cP hg ?_ | refine cP hv ?_ | refine cP hcm ?_ | refine cP hgc ?_ | refine cP h1' ?_ | simp (disch := first | assumption | omega) only [bP, bW] | (first | apply pX | apply bX) <;> intro hc | refine ⟨oD, ?_⟩ | exact oD | fail)
  all_goals first | rfl | simp | skip
 ·have e : rHas m o x = false := by
   rw [Bool.eq_false_iff]; intro g; simp [rHas] at g
   exact h ⟨g.1.1.1.1, g.1.1.1.2, g.1.1.2, g.1.2⟩
  rw [e]
  by_cases h1 : goodB m o = true
  case neg =>
   have h1 : goodB m o = false := by simpa using h1
   rw [h1] at hg
   refine eW Tryz.call191 Tryz.func191 ?_
   repeat' (first | simp only [go_sem, seval] | refine cP hg ?_ | refine cP hv ?_ | simp (disch := first | assumption | omega) only [bP, bW] | (first | apply pX | apply bX) <;> intro hc | refine ⟨oD, ?_⟩ | exact oD | fail)
  have hm : validN m = true := by simp [goodB] at h1; exact h1.1.1.1
  rw [h1] at hg
  by_cases h2 : validN x = true
  case neg =>
   have h2 : validN x = false := by simpa using h2
   rw [h2] at hv
   refine eW Tryz.call191 Tryz.func191 ?_
   repeat' (first | simp only [go_sem, seval] | refine cP hg ?_ | refine cP hv ?_ | simp (disch := first | assumption | omega) only [bP, bW] | (first | apply pX | apply bX) <;> intro hc | refine ⟨oD, ?_⟩ | exact oD | fail)
  rw [h2] at hv
  by_cases h3 : x = []
  ·subst h3
   refine eW Tryz.call191 Tryz.func191 ?_
   repeat' (first | simp only [go_sem, seval, nn] | refine cP hg ?_ | refine cP hv ?_ | simp (disch := first | assumption | omega) only [bP, bW] | (first | apply pX | apply bX) <;> intro hc | refine ⟨oD, ?_⟩ | exact oD | fail)
  have hx : (x == ([] : Bytes)) = false := by simpa using h3
  have hcm := rCmp_ok x m
  rw [h2, hm] at hcm
  simp only [Bool.and_self, if_true] at hcm
  have hlt : ∀ _ : True, decide (cmpN (num x) (num m) ≥ 0) = true := fun _ => dGeT (by by_cases g : num m ≤ num x; exact g; exact absurd ⟨h1, h2, h3, by omega⟩ h)
  refine eW Tryz.call191 Tryz.func191 ?_
  repeat' (first | simp only [go_sem, seval, hx, hlt trivial] | refine cP hg ?_ | refine cP hv ?_ | refine cP hcm ?_ | simp (disch := first | assumption | omega) only [bP, bW] | (first | apply pX | apply bX) <;> intro hc | refine ⟨oD, ?_⟩ | exact oD | fail)
theorem r11unit_ok {m : Bytes} (lm : m.length ≤ 8) (o x : Bytes) : EvP Tryz.prog 108 [G m o, .s x] (.b (rHas m o x && !(x == [1]))) := by
 have h := r10Has_ok lm o x
 have h1' := rOf1'
 generalize rHas m o x = z at *
 refine eW Tryz.call108 Tryz.func108 ?_
 repeat' (first | simp only [go_sem, seval] | refine cP h ?_ | refine cP h1' ?_ | simp (disch := first | assumption | omega) only [bP, bW] | (first | apply pX | apply bX) <;> intro hc | refine ⟨oD, ?_⟩ | exact oD | fail)
 all_goals simp_all
theorem r11less_ok {x y : Bytes} (h : validN x = true) (g : validN y = true) : EvP Tryz.prog 106 [.s x, .s y] (.b (decide (num x < num y))) := by
 have hc := rCmp_ok x y
 rw [h, g] at hc
 simp only [Bool.and_self, if_true] at hc
 have e : ∀ _ : True, decide (cmpN (num x) (num y) < 0) = decide (num x < num y) := fun _ => dLt _ _
 refine eW Tryz.call106 Tryz.func106 ?_
 repeat' (first | simp only [go_sem, seval, e trivial] | refine cP hc ?_ | simp (disch := first | assumption | omega) only [bP, bW] | (first | apply pX | apply bX) <;> intro hc | refine ⟨oD, ?_⟩ | exact oD | fail)
theorem r11Bad (p : Par) (h : p.nums.all validN = false) : EvP Tryz.prog 51 [p.pv] (E 3) := by
 have hn := Numbers_ok p
 obtain ⟨c, sl, mm, mo, mg, mh, wm, wo, wg, wh, se, at', ha, el, es, bl, ma⟩ := p
 unfold Par.pv Par.nums Par.nums2 at *
 simp only [List.map_cons, List.map_nil] at *
 refine eW Tryz.call51 Tryz.func51 ?_
 repeat' (first | simp only [go_sem, seval, List.getD_cons_zero, List.getD_cons_succ] | refine cP hn ?_ | refine cP (rValid_ok _) ?_ | (refine loop_unroll' ?_) | simp (disch := first | assumption | omega) only [bP, bW] | (first | apply pX | apply bX) <;> intro hc | refine ⟨oD, ?_⟩ | exact oD | fail)
 all_goals (exfalso; simp_all)
theorem r11Good (p : Par) (h : p.nums.all validN = true) (hs : p.short) : EvP Tryz.prog 51 [p.pv] (E (parE p)) := by
 have hn := Numbers_ok p
 have lw : p.wm.length ≤ 8 := hs _ (by simp [Par.nums])
 have lm : p.mm.length ≤ 8 := hs _ (by simp [Par.nums])
 have la : p.at'.length ≤ 8 := hs _ (by simp [Par.nums])
 have u1 := r11unit_ok lw p.wo p.wg
 have u2 := r11unit_ok lw p.wo p.wh
 have c1 := r9Check_ok p.mm p.mo
 have c2 := r9Gen_ok lm p.mo p.mg
 have c3 := r9Gen_ok lm p.mo p.mh
 have hoE : p.mo = [] → pgE p.mm p.mo ≠ 0 := by
  intro e; rw [e]; unfold pgE
  split <;> (try split) <;> (try split) <;> simp_all [isMR, num]
 have hwr : ∀ x, (p.wo ≠ [] ∨ (num p.wm).testBit 0 = false ∨ ¬ 8 < num p.wm) → (rHas p.wm p.wo x && !(x == [1])) = false := by
  intro x hx
  rw [Bool.eq_false_iff]; intro g
  simp only [rHas, goodB, Bool.and_eq_true, beq_iff_eq, decide_eq_true_eq] at g
  rcases hx with h1 | h1 | h1
  ·exact h1 g.1.1.1.1.1.1.1.2
  ·rw [h1] at g; exact absurd g.1.1.1.1.1.1.2 (by simp)
  ·exact h1 g.1.1.1.1.1.2
 have hw1 := hwr p.wg
 have hw2 := hwr p.wh
 clear hwr
 unfold parE
 rw [h]
 generalize (rHas p.wm p.wo p.wg && !(p.wg == [1])) = b1 at *
 generalize (rHas p.wm p.wo p.wh && !(p.wh == [1])) = b2 at *
 generalize (pgHas p.mm p.mo p.mg && !(p.mg == [1])) = b3 at *
 generalize (pgHas p.mm p.mo p.mh && !(p.mh == [1])) = b4 at *
 generalize pgE p.mm p.mo = e1 at *
 clear hs
 obtain ⟨c, sl, mm, mo, mg, mh, wm, wo, wg, wh, se, at', ha, el, es, bl, ma⟩ := p
 unfold Par.pv Par.nums Par.tens Par.nums2 at *
 simp only [List.map_cons, List.map_nil, List.all_cons, List.all_nil, Bool.and_eq_true, Bool.and_true] at *
 obtain ⟨h1, h2, h3, h4, h5, h6, h7, h8, h9, h10, h11, h12, h13, h14, h15, h16, h17⟩ := h
 have v1 := rValid_ok c; have v2 := rValid_ok sl; have v3 := rValid_ok se; have v4 := rValid_ok at'; have v5 := rValid_ok ha; have v6 := rValid_ok el; have v7 := rValid_ok es; have v8 := rValid_ok bl; have v9 := rValid_ok ma
 have v10 := rValid_ok mm; have v11 := rValid_ok mo; have v12 := rValid_ok mg; have v13 := rValid_ok mh; have v14 := rValid_ok wm; have v15 := rValid_ok wo; have v16 := rValid_ok wg; have v17 := rValid_ok wh
 rw [h1] at v1; rw [h2] at v2; rw [h3] at v3; rw [h4] at v4; rw [h5] at v5; rw [h6] at v6; rw [h7] at v7; rw [h8] at v8; rw [h9] at v9
 rw [h10] at v10; rw [h11] at v11; rw [h12] at v12; rw [h13] at v13; rw [h14] at v14; rw [h15] at v15; rw [h16] at v16; rw [h17] at v17
 have z2 : validN [2] = true := rfl
 have z8 : validN [8] = true := rfl
 have d1 := r11less_ok h1 z2; have d2 := r11less_ok h2 z2; have d3 := r11less_ok h3 z2; have d4 := r11less_ok h4 z2; have d5 := r11less_ok h5 z2; have d6 := r11less_ok h6 z2; have d7 := r11less_ok h7 z2; have d8 := r11less_ok h8 z2; have d9 := r11less_ok h9 z2
 rw [show num ([2] : Bytes) = 2 from rfl] at d1 d2 d3 d4 d5 d6 d7 d8 d9
 have d10 := r11less_ok z8 h14
 rw [show num ([8] : Bytes) = 8 from rfl] at d10
 have hm8 : EvP Tryz.prog 109 [.s [8], .s at'] (.tup [N (num at' * 8), E 0]) := by
  have := rMul_ok [8] at'
  have hl : 8 * num at' < LIM := Nat.lt_of_lt_of_le (show 8 * num at' < 18446744073709551616 * 8 by have := num8 la; omega) (by unfold LIM; decide +kernel)
  rw [Nat.mul_comm (num at')]
  simpa only [mulB, h4, show validN [8] = true from rfl, Bool.and_self, if_true, show num [8] = 8 from rfl, hl] using this
 have hv8 : validN (bts (num at' * 8)) = true := valid_bts (Nat.lt_of_lt_of_le (show num at' * 8 < 18446744073709551616 * 8 by have := num8 la; omega) (by decide +kernel))
 have f1 := r11less_ok h11 hv8
 rw [num_bts] at f1
 have f2 := r11less_ok h11 h1
 have f3 := r11less_ok h11 h3
 have tb := rBit_ok h14 0 (by decide)
 have o8 := rOf8
 have o2 := rOf2
 generalize (num wm).testBit 0 = t0 at *
 generalize num at' * 8 = t8 at *
 clear hv8 h1 h2 h3 h4 h5 h6 h7 h8 h9 h10 h11 h12 h13 h14 h15 h16 h17 z2 z8
 refine eW Tryz.call51 Tryz.func51 ?_
 repeat' (first | simp only [go_sem, seval, List.getD_cons_zero, List.getD_cons_succ] | refine cP hn ?_ | refine cP v1 ?_ | refine cP v2 ?_ | refine cP v3 ?_ | refine cP v4 ?_ | refine cP v5 ?_ | refine cP v6 ?_ | refine cP v7 ?_ | refine cP v8 ?_ | refine cP v9 ?_ | refine cP v10 ?_ | refine cP v11 ?_ | refine cP v12 ?_ | refine cP v13 ?_ | refine cP v14 ?_ | refine cP v15 ?_ | refine cP v16 ?_ | refine cP v17 ?_ | refine cP o8 ?_ | refine cP o2 ?_ | refine cP c1 ?_ | refine cP c2 ?_ | refine cP c3 ?_ | refine cP u1 ?_ | refine cP u2 ?_ | refine cP d1 ?_ | refine cP d2 ?_ | refine cP d3 ?_ | refine cP d4 ?_ | refine cP d5 ?_ | refine cP d6 ?_ | refine cP d7 ?_ | refine cP d8 ?_ | refine cP d9 ?_ | refine cP d10 ?_ | refine cP hm8 ?_ | refine cP f1 ?_ | refine cP f2 ?_ | refine cP f3 ?_ | refine cP tb ?_ | (refine loop_unroll' ?_) | simp (disch := first | assumption | omega) only [bP, bW] | (first | apply pX | apply bX) <;> intro hc | refine ⟨oD, ?_⟩ | exact oD | fail)
 all_goals clear hn u1 u2 c1 c2 c3 v1 v2 v3 v4 v5 v6 v7 v8 v9 v10 v11 v12 v13 v14 v15 v16 v17 d1 d2 d3 d4 d5 d6 d7 d8 d9 d10 hm8 f1 f2 f3 tb o8 o2
 all_goals first | (simp_all; done) | (simp_all; omega) | skip
theorem r11Check_ok (p : Par) (hs : p.short) : EvP Tryz.prog 51 [p.pv] (E (parE p)) := by
 by_cases h : p.nums.all validN = true
 ·exact r11Good p h hs
 ·have h : p.nums.all validN = false := by simpa using h
  have e : parE p = 3 := by unfold parE; rw [h]; rfl
  rw [e]; exact r11Bad p h
end Go.Proofs.YthbognfeadopjaaGreatDoor
