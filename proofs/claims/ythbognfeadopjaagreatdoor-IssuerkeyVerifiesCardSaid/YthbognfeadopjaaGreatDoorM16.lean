/-
  Part of the proof, part 16. Own work.
-/
import Derived.Recover
import Derived.Test.YthbognfeadopjaaGreatDoorM15
import Derived.SizedLaws
set_option linter.all false
namespace Go.Dom
open Go.RowKit
section
variable {P : Program} [Tabs P]
end
end Go.Dom
namespace Go.Dom
open Go.RowKit
theorem mapM_opt {α β : Type} {f : α → Option β} : ∀ {l : List α} {r : List β}, l.mapM f = some r → l.length = r.length ∧ ∀ (i : Nat) (x : α) (y : β), l[i]? = some x → r[i]? = some y → f x = some y := by
 intro l
 induction l with
 | nil => intro r h; simp at h; subst h; exact ⟨rfl, fun i x y hx => by simp at hx⟩
 | cons a l ih =>
  intro r h
  rw [List.mapM_cons] at h
  simp only [Option.bind_eq_bind, Option.bind_eq_some_iff, Option.pure_def, Option.some.injEq] at h
  obtain ⟨b, hb, bs, hbs, rfl⟩ := h
  obtain ⟨h1, h2⟩ := ih hbs
  refine ⟨by simp [h1], fun i x y hx hy => ?_⟩
  cases i with
  | zero => simp at hx hy; subst hx; subst hy; exact hb
  | succ i => exact h2 i x y (by simpa using hx) (by simpa using hy)
def rdW (w : World) : Rd := fun b o => w.cell? ⟨b, o, none⟩
def TypS (P : Program) (T : TypeId → List PV → Prop) : List Field → List PV → Prop
 | [], ps => ps = []
 | fl :: r, ps => T fl.type (ps.take (P.cellsOf fl.type)) ∧ TypS P T r (ps.drop (P.cellsOf fl.type))
def isStruct (P : Program) (t : TypeId) : Bool :=
 match P.underlying t with
 | some (.struct _) => true
 | _ => false
def Typ (P : Program) : Nat → TypeId → List PV → Prop
 | 0, _, _ => False
 | k + 1, t, ps => match P.underlying t with
  | some .bool => ∃ b, ps = [.b b]
  | some (.int q) => ∃ n, ps = [.i q n] ∧ (Lit.int q n).wf = true
  | some .string => ∃ x, ps = [.s x] ∧ x.length ≤ reachBytes
  | some (.slice e) => ∃ l, ps = [.sl l] ∧ l.length * P.bytesOf e ≤ reachBytes ∧ ∀ x ∈ l, Typ P k e x.cells ∧ (if isStruct P e then ∃ m, x = .agg m else x.one = true)
  | some (.struct fs) => TypS P (Typ P k) fs.toList ps
  | _ => False
def tiles (P : Program) : Nat → List Field → Nat → Bool
 | o, [], n => o == n
 | o, f :: r, n => (f.offset == o) && tiles P (o + P.cellsOf f.type) r n
def okT (P : Program) : Nat → TypeId → Bool
 | 0, _ => false
 | k + 1, t => match P.underlying t with
  | some .bool => true
  | some (.int _) => true
  | some .string => true
  | some (.slice e) => okT P k e && decide (0 < P.cellsOf e) && (isStruct P e || P.cellsOf e == 1)
  | some (.struct fs) => fs.toList.all (fun f => okT P k f.type) && tiles P 0 fs.toList (P.cellsOf t)
  | _ => false
section
variable {H : Type} {enc : TypeId × Value → H} {P : Program} {w : World} {sp : Nat → Bool} {held : Bool}
theorem weightsAll_mem {e : TypeId} : ∀ {l : List (DataW H)} {d : DataW H}, d ∈ l → ∀ n ∈ d.weights P e, n ∈ DataW.weightsAll P e l := by
 intro l
 induction l with
 | nil => intro d hd; cases hd
 | cons x l ih =>
  intro d hd n hn
  simp only [DataW.weightsAll, List.mem_append]
  rcases List.mem_cons.1 hd with rfl | hd
  ·exact .inl hn
  ·exact .inr (ih hd n hn)
theorem cells_get {a : Addr} {z : Nat} {cs : List Value} (h : w.cells? 0 a z = some cs) : cs.length = z ∧ ∀ (j : Nat) (v : Value), cs[j]? = some v → w.cell? (a.add j) = some v := by
 unfold World.cells? at h
 rw [if_pos (Nat.zero_le _)] at h
 obtain ⟨h1, h2⟩ := mapM_opt h
 have h1' : z = cs.length := by simpa using h1
 refine ⟨h1'.symm, fun j v hv => ?_⟩
 have hj := (List.getElem?_eq_some_iff.1 hv).1
 exact h2 j j v (by rw [List.getElem?_range (by omega)]) hv
section
variable {n : Nat} {t : TypeId} {cs : List Value} {d : DataW H} {ps : List MemPlace} (h : DataW.trod enc P w 0 sp held (n + 1) t cs = some (d, ps))
include h
theorem trod_bool (hu : P.underlying t = some .bool) : ∃ b, cs = [.bool b] := by
 simp only [DataW.trod, hu] at h
 split at h <;> first | exact ⟨_, rfl⟩ | (rename_i he; cases he; done) | (cases h; done)
theorem trod_int {q : IntKind} (hu : P.underlying t = some (.int q)) : ∃ m, cs = [.int q m] ∧ (Lit.int q m).wf = true := by
 simp only [DataW.trod, hu] at h
 split at h
 all_goals first
  | (rename_i he; cases he; done)
  | (cases h; done)
  | (
   rename_i k' q' m he
   injection he with he; injection he with he; subst he
   split at h
   ·rename_i hc; obtain ⟨rfl, hc⟩ := hc; exact ⟨_, rfl, hc⟩
   ·cases h)
theorem trod_string (hu : P.underlying t = some .string) : ∃ s : ByteArray, cs = [.string s] ∧ d = .lit (.string s.data.toList) := by
 simp only [DataW.trod, hu] at h
 split at h
 all_goals first
  | (rename_i he; cases he; done)
  | (cases h; done)
  | (
   split at h
   ·injection h with h; injection h with h1 h2; exact ⟨_, rfl, h1.symm⟩
   ·cases h)
theorem trod_slice {e : TypeId} (hu : P.underlying t = some (.slice e)) : (cs = [.slice none 0 0] ∧ d = .nil) ∨ ∃ a len cap elems rest, cs = [.slice (some a) len cap] ∧ len ≤ cap ∧ d = .slice elems rest ∧ elems.length = len ∧
  ∀ i, i < len → ∃ ci di pi, w.cells? 0 (a.add (i * P.cellsOf e)) (P.cellsOf e) = some ci ∧ DataW.trod enc P w 0 sp held n e ci = some (di, pi) ∧ elems[i]? = some di := by
 simp only [DataW.trod, hu] at h
 split at h
 all_goals first
  | (rename_i he; cases he; done)
  | (cases h; done)
  | skip
 ·injection h with h; injection h with h1 h2
  exact .inl ⟨rfl, h1.symm⟩
 ·rename_i e' a len cap he
  injection he with he; injection he with he; subst he
  split at h
  ·rename_i hc
   simp only [Option.bind_eq_some_iff, Option.map_eq_some_iff] at h
   obtain ⟨elems, he, rest, -, hd⟩ := h
   injection hd with hd _
   obtain ⟨h1, h2⟩ := mapM_opt he
   have h1' : len = elems.length := by simpa using h1
   refine .inr ⟨a, len, cap, _, _, rfl, hc.2.1, hd.symm, by simp [h1'], fun i hi => ?_⟩
   have hx : elems[i]? = some (elems[i]'(by omega)) := List.getElem?_eq_getElem _
   have := h2 i i _ (by rw [List.getElem?_range hi]) hx
   simp only [Option.bind_eq_some_iff] at this
   obtain ⟨ci, hci, htr⟩ := this
   exact ⟨ci, (elems[i]'(by omega)).1, (elems[i]'(by omega)).2, hci, htr, by simp [hx]⟩
  ·cases h
theorem trod_struct {fs : Array Field} (hu : P.underlying t = some (.struct fs)) : cs.length = P.cellsOf t ∧ ∃ xs : List (DataW H × List MemPlace), d = .agg (xs.map (·.1)) ∧ fs.toList.length = xs.length ∧
  ∀ (i : Nat) (f : Field) (x : DataW H × List MemPlace), fs.toList[i]? = some f → xs[i]? = some x → DataW.trod enc P w 0 sp held n f.type ((cs.drop f.offset).take (P.cellsOf f.type)) = some x := by
 simp only [DataW.trod, hu] at h
 split at h
 all_goals first
  | (rename_i he; cases he; done)
  | (cases h; done)
  | skip
 rename_i hc
 simp only [Option.map_eq_some_iff] at h
 obtain ⟨xs, hx, hd⟩ := h
 injection hd with hd _
 obtain ⟨h1, h2⟩ := mapM_opt hx
 exact ⟨hc, xs, hd.symm, h1, h2⟩
end
theorem weightsEach_mem : ∀ {ts : List TypeId} {ds : List (DataW H)} {i : Nat} {t : TypeId} {d : DataW H}, ts[i]? = some t → ds[i]? = some d → ∀ n ∈ d.weights P t, n ∈ DataW.weightsEach P ts ds :=
 fun ht hd n hn => DataW.weights_mem_each ht hd n hn
theorem fields_pv {T : TypeId → List PV → Prop} {cs : List Value} {N : Nat} : ∀ (fs : List Field) (o : Nat), tiles P o fs N = true → cs.length = N →
  (∀ f ∈ fs, ∃ pvs, RelL (PR (rdW w)) pvs ((cs.drop f.offset).take (P.cellsOf f.type)) ∧ (∀ y ∈ pvs, y.one = true) ∧ T f.type pvs) →
  ∃ pvs, RelL (PR (rdW w)) pvs (cs.drop o) ∧ (∀ y ∈ pvs, y.one = true) ∧ TypS P T fs pvs ∧ o ≤ N := by
 intro fs
 induction fs with
 | nil =>
  intro o ht hl _
  simp only [tiles, beq_iff_eq] at ht
  refine ⟨[], ?_, by simp, rfl, by omega⟩
  rw [List.drop_of_length_le (by omega)]
  exact .nil
 | cons f fs ih =>
  intro o ht hl hT
  simp only [tiles, Bool.and_eq_true, beq_iff_eq] at ht
  obtain ⟨ho, ht⟩ := ht
  obtain ⟨p1, q1, q2, q3⟩ := hT f (by simp)
  obtain ⟨p2, r1, r2, r3, r4⟩ := ih _ ht hl fun g hg => hT g (by simp [hg])
  have hlen : p1.length = P.cellsOf f.type := by rw [q1.1]; simp; omega
  refine ⟨p1 ++ p2, ?_, ?_, ?_, by omega⟩
  ·have := RelL.app q1 r1
   rw [ho] at this
   rw [← List.drop_drop, List.take_append_drop] at this
   exact this
  ·intro y hy
   rcases List.mem_append.1 hy with hy | hy
   ·exact q2 y hy
   ·exact r2 y hy
  ·refine ⟨?_, ?_⟩
   ·rw [List.take_append_of_le_length (by omega), List.take_of_length_le (by omega)]; exact q3
   ·rw [List.drop_append_of_le_length (by omega), List.drop_of_length_le (by omega), List.nil_append]; exact r3
theorem trod_pv : ∀ (k n : Nat) (t : TypeId) (cs : List Value) (d : DataW H) (ps : List MemPlace), okT P k t = true → DataW.trod enc P w 0 sp held n t cs = some (d, ps) → (∀ m ∈ d.weights P t, m ≤ reachBytes) →
  ∃ pvs, RelL (PR (rdW w)) pvs cs ∧ (∀ y ∈ pvs, y.one = true) ∧ Typ P k t pvs := by
 intro k
 induction k with
 | zero => intro n t cs d ps h; simp [okT] at h
 | succ k ih =>
  intro n t cs d ps hok h hw
  cases n with
  | zero => simp [DataW.trod] at h
  | succ n =>
   simp only [okT] at hok
   split at hok
   ·rename_i hu
    obtain ⟨b, rfl⟩ := trod_bool h hu
    exact ⟨[.b b], .cons (.b b) .nil, by simp [PV.one], by simp only [Typ, hu]; exact ⟨b, rfl⟩⟩
   ·rename_i q hu
    obtain ⟨m, rfl, hm⟩ := trod_int h hu
    exact ⟨[.i q m], .cons (.i q m) .nil, by simp [PV.one], by simp only [Typ, hu]; exact ⟨m, rfl, hm⟩⟩
   ·rename_i hu
    obtain ⟨s, rfl, rfl⟩ := trod_string h hu
    have es : s = ⟨s.data.toList.toArray⟩ := by cases s; simp
    have hps : PR (rdW w) (.s s.data.toList) (.string s) := by
     conv => rhs; rw [es]
     exact .s _
    refine ⟨[.s s.data.toList], .cons hps .nil, by simp [PV.one], ?_⟩
    simp only [Typ, hu]
    exact ⟨_, rfl, hw _ (by simp [DataW.weights])⟩
   ·rename_i e hu
    simp only [Bool.and_eq_true, decide_eq_true_eq] at hok
    obtain ⟨⟨ok1, ok2⟩, ok3⟩ := hok
    rcases trod_slice h hu with ⟨rfl, rfl⟩ | ⟨a, len, cap, elems, rest, rfl, hcap, rfl, hel, hE⟩
    ·refine ⟨[.sl []], .cons .sl0 .nil, by simp [PV.one], ?_⟩
     simp only [Typ, hu]
     exact ⟨[], rfl, by simp, by simp⟩
    ·have hel' : ∀ i, i < len → ∃ x : PV, ∃ ci, w.cells? 0 (a.add (i * P.cellsOf e)) (P.cellsOf e) = some ci ∧ RelL (PR (rdW w)) x.cells ci ∧ (∀ y ∈ x.cells, y.one = true) ∧ Typ P k e x.cells ∧ (if isStruct P e then ∃ m, x = .agg m else x.one = true) := by
      intro i hi
      obtain ⟨ci, di, pi, g1, g2, g3⟩ := hE i hi
      obtain ⟨pv, q1, q2, q3⟩ := ih n e ci di pi ok1 g2 fun m hm => hw m (by
       simp only [DataW.weights, hu, List.mem_cons, List.mem_append]
       exact .inr (.inl (weightsAll_mem (List.mem_of_getElem? g3) m hm)))
      by_cases hs : isStruct P e = true
      ·exact ⟨.agg pv, ci, g1, q1, q2, q3, by rw [if_pos hs]; exact ⟨pv, rfl⟩⟩
      ·have hone : P.cellsOf e = 1 := by simpa [hs] using ok3
       have hl1 : pv.length = 1 := by rw [q1.1, (cells_get g1).1, hone]
       obtain ⟨y, rfl⟩ := List.length_eq_one_iff.1 hl1
       have hy := q2 y (by simp)
       have hyc : y.cells = [y] := by cases y <;> first | rfl | (simp [PV.one] at hy)
       exact ⟨y, ci, g1, by rw [hyc]; exact q1, by rw [hyc]; exact q2, by rw [hyc]; exact q3, by rw [if_neg hs]; exact hy⟩
     have hbound : len * P.bytesOf e ≤ reachBytes := by
      have := hw ((elems.length + rest.length) * P.bytesOf e) (by simp [DataW.weights, hu])
      rw [hel, Nat.add_mul] at this
      omega
     have build : ∀ m, m ≤ len → ∃ (l : List PV) (vs : List Value), l.length = m ∧ (∀ x ∈ l, x.cells.length = P.cellsOf e ∧ (∀ y ∈ x.cells, y.one = true) ∧ Typ P k e x.cells ∧ (if isStruct P e then ∃ m, x = .agg m else x.one = true)) ∧ RelL (PR (rdW w)) (l.flatMap PV.cells) vs ∧ vs.length = m * P.cellsOf e ∧ ∀ (j : Nat) (v : Value), vs[j]? = some v → w.cell? (a.add j) = some v := by
      intro m
      induction m with
      | zero => intro _; exact ⟨[], [], rfl, by simp, .nil, by simp, by simp⟩
      | succ m ihm =>
       intro hm
       obtain ⟨l, vs, b1, b2, b3, b4, b5⟩ := ihm (by omega)
       obtain ⟨x, ci, c1, c2, c3, c4, c5⟩ := hel' m (by omega)
       obtain ⟨d1, d2⟩ := cells_get c1
       refine ⟨l ++ [x], vs ++ ci, by simp [b1], ?_, ?_, ?_, ?_⟩
       ·intro y hy
        rcases List.mem_append.1 hy with hy | hy
        ·exact b2 y hy
        ·simp only [List.mem_singleton] at hy; subst hy
         exact ⟨by rw [c2.1, d1], c3, c4, c5⟩
       ·rw [List.flatMap_append]
        simpa using RelL.app b3 c2
       ·rw [List.length_append, b4, d1, Nat.succ_mul]
       ·intro j v hv
        by_cases hj : j < vs.length
        ·rw [List.getElem?_append_left hj] at hv; exact b5 j v hv
        ·rw [List.getElem?_append_right (by omega)] at hv
         have := d2 _ v hv
         have e1 : (a.add (m * P.cellsOf e)).add (j - vs.length) = a.add j := by
          rw [b4]
          simp only [Addr.add]
          by_cases h0 : m * P.cellsOf e = 0
          ·simp [h0]
          ·by_cases h1 : j - m * P.cellsOf e = 0
           ·have : j = m * P.cellsOf e := by omega
            subst this; simp [h0]
           ·have : ¬ j = 0 := by omega
            simp only [h0, h1, this, if_false]
            congr 1
            omega
         rw [e1] at this; exact this
     obtain ⟨l, vs, b1, b2, b3, b4, b5⟩ := build len (Nat.le_refl _)
     refine ⟨[.sl l], ?_, by simp [PV.one], ?_⟩
     ·refine .cons ?_ .nil
      by_cases h0 : len = 0
      ·subst h0
       have : l = [] := List.eq_nil_of_length_eq_zero b1
       subst this
       exact .sle a cap
      ·have hpos : 0 < vs.length := by rw [b4]; exact Nat.mul_pos (by omega) ok2
       have hc0 := b5 0 vs[0] (List.getElem?_eq_getElem hpos)
       have ha0 : a.add 0 = a := by simp [Addr.add]
       rw [ha0] at hc0
       have hspot : a.spot = none := by
        unfold World.cell? at hc0
        split at hc0
        ·split at hc0
         ·cases hc0
         ·rename_i hh; simpa using hh
        ·cases hc0
       obtain ⟨bk, of, spt⟩ := a
       simp only at hspot
       subst hspot
       have := PR.sl (rd := rdW w) l (P.cellsOf e) vs bk of cap (by omega) (fun x hx => (b2 x hx).1) (fun y hy => by
        obtain ⟨x, hx, hy⟩ := List.mem_flatMap.1 hy
        exact (b2 x hx).2.1 y hy) b3.1 (fun j v hv => by
        have := b5 j v hv
        simp only [Addr.add] at this
        by_cases hj : j = 0
        ·subst hj; simpa [rdW] using this
        ·simpa [rdW, hj] using this) b3.2
       rw [b1] at this
       exact this
     ·simp only [Typ, hu]
      exact ⟨l, rfl, by rw [b1]; exact hbound, fun x hx => ⟨(b2 x hx).2.2.1, (b2 x hx).2.2.2⟩⟩
   ·rename_i fs hu
    simp only [Bool.and_eq_true, List.all_eq_true] at hok
    obtain ⟨ok1, ok2⟩ := hok
    obtain ⟨hl, xs, rfl, hxl, hx⟩ := trod_struct h hu
    obtain ⟨pvs, q1, q2, q3, -⟩ := fields_pv (w := w) (T := Typ P k) fs.toList 0 ok2 hl (fun f hf => by
     obtain ⟨i, hi, rfl⟩ := List.getElem_of_mem hf
     have e1 : fs.toList[i]? = some fs.toList[i] := List.getElem?_eq_getElem hi
     have e2 : xs[i]? = some (xs[i]'(by omega)) := List.getElem?_eq_getElem _
     exact ih n _ _ _ _ (ok1 _ (List.getElem_mem hi)) (hx i _ _ e1 e2) fun m hm => hw m (by
      simp only [DataW.weights, hu]
      exact weightsEach_mem (i := i) (by rw [List.getElem?_map, e1]; rfl) (by rw [List.getElem?_map, e2]; rfl) m hm))
    rw [List.drop_zero] at q1
    exact ⟨pvs, q1, q2, by simp only [Typ, hu]; exact q3⟩
   ·cases hok
end
end Go.Dom
namespace Go.Dom
theorem wu8 (x : Int) : IntKind.u8.wrap x = x % 256 := IntKind.wrap_u8 x
theorem wu32 (x : Int) : IntKind.u32.wrap x = x % 4294967296 := IntKind.wrap_u32 x
theorem wu64 (x : Int) : IntKind.u64.wrap x = x % 18446744073709551616 := by simp [IntKind.wrap, IntKind.bits, IntKind.signed]
theorem fdivNat (a b : Nat) : (a : Int).fdiv (b : Int) = ((a / b : Nat) : Int) := by
 rw [Int.fdiv_eq_ediv_of_nonneg _ (by omega)]; rfl
theorem fdivPow (a k : Nat) : (a : Int).fdiv (2 ^ k) = ((a / 2 ^ k : Nat) : Int) := by
 have : ((2 : Int) ^ k) = ((2 ^ k : Nat) : Int) := by simp
 rw [this, fdivNat]
theorem wu8_nat (a : Nat) : IntKind.u8.wrap (a : Int) = ((UInt8.ofNat a).toNat : Int) := by
 rw [wu8, UInt8.toNat_ofNat']; omega
theorem ofIntNat (w a : Nat) : BitVec.ofInt w (a : Int) = BitVec.ofNat w a := BitVec.ofInt_natCast w a
theorem wrapU (k : IntKind) (hk : k.signed = false) (x : Nat) : k.wrap (x : Int) = ((x % 2 ^ k.bits : Nat) : Int) := by
 simp [IntKind.wrap, hk]
theorem iOrN (k : IntKind) (hk : k.signed = false) {a b : Nat} (ha : a < 2 ^ k.bits) (hb : b < 2 ^ k.bits) : iOr k (a : Int) (b : Int) = ((a ||| b : Nat) : Int) := by
 rw [iOr, ofIntNat, ofIntNat, BitVec.toNat_or, BitVec.toNat_ofNat, BitVec.toNat_ofNat, Nat.mod_eq_of_lt ha, Nat.mod_eq_of_lt hb, wrapU k hk, Nat.mod_eq_of_lt (Nat.or_lt_two_pow ha hb)]
theorem iAndN (k : IntKind) (hk : k.signed = false) {a b : Nat} (ha : a < 2 ^ k.bits) (hb : b < 2 ^ k.bits) : iAnd k (a : Int) (b : Int) = ((a &&& b : Nat) : Int) := by
 rw [iAnd, ofIntNat, ofIntNat, BitVec.toNat_and, BitVec.toNat_ofNat, BitVec.toNat_ofNat, Nat.mod_eq_of_lt ha, Nat.mod_eq_of_lt hb, wrapU k hk, Nat.mod_eq_of_lt (Nat.and_lt_two_pow _ hb)]
theorem iXorN (k : IntKind) (hk : k.signed = false) {a b : Nat} (ha : a < 2 ^ k.bits) (hb : b < 2 ^ k.bits) : iXor k (a : Int) (b : Int) = ((a ^^^ b : Nat) : Int) := by
 rw [iXor, ofIntNat, ofIntNat, BitVec.toNat_xor, BitVec.toNat_ofNat, BitVec.toNat_ofNat, Nat.mod_eq_of_lt ha, Nat.mod_eq_of_lt hb, wrapU k hk, Nat.mod_eq_of_lt (Nat.xor_lt_two_pow ha hb)]
theorem orAdd {x c k : Nat} (h : c < 2 ^ k) : x * 2 ^ k ||| c = x * 2 ^ k + c := by
 rw [← Nat.shiftLeft_eq, Nat.shiftLeft_add_eq_or_of_lt h]
theorem and_mask (x k : Nat) : x &&& (2 ^ k - 1) = x % 2 ^ k := Nat.and_two_pow_sub_one_eq_mod x k
theorem chunk1 (l : List PV) : chunk 1 l.length l = l := by
 induction l with
 | nil => rfl
 | cons x r ih => simp [chunk, ih]
theorem view_bcells {hf : Nat → Option AObj} {f n ver : Nat} {l : Bytes} {gr : Bool} {el : Option TypeId} {m : Nat} (hm : m = l.length) (h : hf n = some ⟨ver, bcells l, gr, el⟩) :
  view hf (f + 2) (.rs n ver 0 m 1) = some (.sl (l.map u8)) := by
 subst hm
 have h1 : mapO (view hf (f + 1)) (bcells l) = some (l.map u8) := by
  have := mapO_view_v hf f (l.map u8)
  rw [List.map_map] at this; exact this
 have h2 : (bcells l).all AV.one = true := by simp [bcells, AV.one, PV.one, u8]
 have h3 : chunk 1 l.length (l.map u8) = l.map u8 := by have := chunk1 (l.map u8); simpa using this
 simp [view, h, bcells_len, h2, bcells_take, h1, h3]
theorem viewN_bcells {hf : Nat → Option AObj} {f n ver : Nat} {l : Bytes} {gr : Bool} {el : Option TypeId} {m : Nat} (hm : m = l.length) (h : hf n = some ⟨ver, bcells l, gr, el⟩) :
  viewN hf (f + 2) (.rs n ver 0 m 1) = [n] := by
 subst hm
 have h1 : (bcells l).flatMap (viewN hf (f + 1)) = [] := by
  unfold bcells
  induction l with
  | nil => rfl
  | cons x r ih => simp_all [viewN]
 simp [viewN, h, bcells_take, h1]
theorem CR_bytes {P : Program} [Tabs P] {Q : AX → AS → Prop} {nx : Nat} {bf : Option (List Nat)} {nn : Nat} {d : Option Nat} {ops : List SOp} {k : Nat} {s : AS} {tr : List (Nat × List Nat × List Nat)} {K : List Fr} {nm : Nat} {f : FuncId} {n ver m : Nat} {l : Bytes} {gr : Bool} {el : Option TypeId} {r : PV}
  (he : EvP P f [.sl (l.map u8)] r) (hr : r.flat = true) (hg : hget s.h n = some ⟨ver, bcells l, gr, el⟩) (hm : m = l.length) (hK : RW P Q nx bf nn ops (k + 1) (s.upd d (.v r) []) (trU bf k [n] [] tr) K) :
  CR P Q nx bf nn nm (.v (.fn (.func f))) [.rs n ver 0 m 1] d ops k s tr K := by
 refine CR_view he ?_ hr ?_
 ·simp [mapO, view_bcells hm hg]
 ·have : [AV.rs n ver 0 m 1].flatMap (viewN (hget s.h) 9) = [n] := by simp [viewN_bcells hm hg]
  rw [this]; exact hK
theorem bput {l : Bytes} {o : Nat} {x : Int} {c : UInt8} (h : o < l.length) (hx : x = (c.toNat : Int)) : (bcells l).take o ++ [.v (.i .u8 x)] ++ (bcells l).drop (o + 1) = bcells (l.set o c) := by
 subst hx
 unfold bcells
 rw [List.map_set, List.set_eq_take_append_cons_drop]
 simp [h, u8]
theorem fdivL (a n : Nat) : (a : Int).fdiv (no_index (OfNat.ofNat n)) = ((a / (OfNat.ofNat n) : Nat) : Int) := fdivNat a n
theorem tdivN (a b : Nat) : (a : Int).tdiv (b : Int) = ((a / b : Nat) : Int) := rfl
theorem tmodN (a b : Nat) : (a : Int).tmod (b : Int) = ((a % b : Nat) : Int) := rfl
theorem tdivL (a n : Nat) : (a : Int).tdiv (no_index (OfNat.ofNat n)) = ((a / (OfNat.ofNat n) : Nat) : Int) := rfl
theorem tmodL (a n : Nat) : (a : Int).tmod (no_index (OfNat.ofNat n)) = ((a % (OfNat.ofNat n) : Nat) : Int) := rfl
theorem uw (a : Nat) : IntKind.u64.wrap (a : Int) = ((a % 18446744073709551616 : Nat) : Int) := by rw [wu64]; omega
theorem mulU (a b : Nat) : IntKind.u64.wrap ((a : Int) * (b : Int)) = ((a * b % 18446744073709551616 : Nat) : Int) := by rw [← Int.natCast_mul, uw]
theorem mulUL (a n : Nat) : IntKind.u64.wrap ((a : Int) * (no_index (OfNat.ofNat n))) = ((a * (OfNat.ofNat n) % 18446744073709551616 : Nat) : Int) := mulU a n
theorem mulLU (a n : Nat) : IntKind.u64.wrap ((no_index (OfNat.ofNat n)) * (a : Int)) = (((OfNat.ofNat n) * a % 18446744073709551616 : Nat) : Int) := mulU n a
theorem shlU (a k : Nat) : IntKind.u64.wrap ((a : Int) * 2 ^ k) = ((a * 2 ^ k % 18446744073709551616 : Nat) : Int) := by
 have := mulU a (2 ^ k); simpa using this
theorem addU (a b : Nat) : IntKind.u64.wrap ((a : Int) + (b : Int)) = (((a + b) % 18446744073709551616 : Nat) : Int) := by rw [← Int.natCast_add, uw]
theorem addUL (a n : Nat) : IntKind.u64.wrap ((a : Int) + (no_index (OfNat.ofNat n))) = (((a + (OfNat.ofNat n)) % 18446744073709551616 : Nat) : Int) := addU a n
theorem subU (a b : Nat) : IntKind.u64.wrap ((a : Int) - (b : Int)) = (((a + (18446744073709551616 - b % 18446744073709551616)) % 18446744073709551616 : Nat) : Int) := by rw [wu64]; omega
theorem subUL (a n : Nat) : IntKind.u64.wrap ((a : Int) - (no_index (OfNat.ofNat n))) = (((a + (18446744073709551616 - (OfNat.ofNat n) % 18446744073709551616)) % 18446744073709551616 : Nat) : Int) := subU a n
theorem subLU (a n : Nat) : IntKind.u64.wrap ((no_index (OfNat.ofNat n)) - (a : Int)) = ((((OfNat.ofNat n) + (18446744073709551616 - a % 18446744073709551616)) % 18446744073709551616 : Nat) : Int) := subU n a
theorem andU (a b : Nat) : iAnd .u64 (a : Int) (b : Int) = (((a % 18446744073709551616) &&& (b % 18446744073709551616) : Nat) : Int) := by
 have h := iAndN .u64 rfl (a := a % 18446744073709551616) (b := b % 18446744073709551616) (Nat.mod_lt _ (by decide)) (Nat.mod_lt _ (by decide))
 rw [← h]
 unfold iAnd
 simp only [ofIntNat]
 congr 4 <;> (apply BitVec.eq_of_toNat_eq; simp [IntKind.bits])
theorem andM32 (a : Nat) : iAnd .u64 (a : Int) 4294967295 = ((a % 4294967296 : Nat) : Int) := by
 have h := andU a 4294967295
 have e : (a % 18446744073709551616) &&& (4294967295 % 18446744073709551616) = a % 4294967296 := by
  have := and_mask (a % 18446744073709551616) 32
  rw [show (4294967295 % 18446744073709551616 : Nat) = 2 ^ 32 - 1 from rfl, this]; omega
 rw [e] at h; exact h
theorem wu8b {x : Nat} (h : x < 256) : IntKind.u8.wrap (x : Int) = (x : Int) := IntWalk.u8_in _ (by omega)
attribute [go_sem] fdivL fdivPow tdivN tmodN tdivL tmodL
def icells (k : IntKind) (l : List Nat) : List AV := l.map fun x : Nat => .v (.i k (x : Int))
theorem icells_len (k : IntKind) (l : List Nat) : (icells k l).length = l.length := by simp [icells]
theorem icells_rep (k : IntKind) (n : Nat) : (List.replicate n [AV.v (PV.i k 0)]).flatten = icells k (List.replicate n 0) := by
 induction n with
 | zero => rfl
 | succ n ih => simp [List.replicate_succ, icells] at ih ⊢
theorem icells_get {k : IntKind} {l : List Nat} {i : Nat} (h : i < l.length) : (icells k l).getD i .u = .v (.i k (l.getD i 0 : Nat)) := by
 simp [icells, List.getD_eq_getElem?_getD, h]
theorem icells_put {k : IntKind} {l : List Nat} {o x : Nat} {y : Int} (h : o < l.length) (hy : y = (x : Int)) : (icells k l).take o ++ [.v (.i k y)] ++ (icells k l).drop (o + 1) = icells k (l.set o x) := by
 subst hy
 unfold icells
 rw [List.map_set, List.set_eq_take_append_cons_drop]
 simp [h]
theorem icells_bd (k : IntKind) (l : List Nat) (n : Nat) : (∀ y, y ∈ icells k l → y.bd n = true) = True := by
 simp only [eq_iff_iff, iff_true]; intro y hy
 obtain ⟨c, -, rfl⟩ := List.mem_map.1 hy; rfl
theorem renL_icells (f : Nat → Option Nat) (k : IntKind) (l : List Nat) : AV.ren.renL f (icells k l) = some (icells k l) := by
 induction l with
 | nil => rfl
 | cons c l ih =>
  have : AV.ren.renL f (AV.v (.i k c) :: icells k l) = some (AV.v (.i k c) :: icells k l) := by simp [AV.ren.renL, AV.ren, ih]
  exact this
structure Hid (p : Prop) : Prop where
 v : p
end Go.Dom
namespace Go.Dom
open Go.RowKit
section
variable {P : Program} [Tabs P] {Q : AX → AS → Prop}
theorem cP {nx : Nat} {bf : Option (List Nat)} {n : Nat} {d : Option Nat} {ops : List SOp} {k : Nat} {s : AS} {tr : List (Nat × List Nat × List Nat)} {K : List Fr} {nm : Nat} {f : FuncId} {avs : List AV} {pvs : List PV} {r : PV} (he : EvP P f pvs r) (hK : RW P Q nx bf n ops (k + 1) (s.upd d (.v r) []) (trU bf k [] [] tr) K) (ha : pvArgs avs = some pvs := by exact rfl) :
  CR P Q nx bf n nm (.v (.fn (.func f))) avs d ops k s tr K := CR_pure he ha hK
theorem cV {nx : Nat} {bf : Option (List Nat)} {n : Nat} {d : Option Nat} {ops : List SOp} {k : Nat} {s : AS} {tr : List (Nat × List Nat × List Nat)} {K : List Fr} {nm : Nat} {f : FuncId} {avs : List AV} {pvs : List PV} {r : PV} (he : EvP P f pvs r) (hK : RW P Q nx bf n ops (k + 1) (s.upd d (.v r) []) (trU bf k (avs.flatMap (viewN (hget s.h) 9)) [] tr) K) (ha : mapO (view (hget s.h) 9) avs = some pvs := by exact rfl) (hr : r.flat = true := by exact rfl) :
  CR P Q nx bf n nm (.v (.fn (.func f))) avs d ops k s tr K := CR_view he ha hr hK
theorem bP : (∀ (c : Bool) (κ : BK), c = true → BX P Q c κ = BX P Q true κ) ∧ (∀ (c : Bool) (κ : BK), c = false → BX P Q c κ = BX P Q false κ) ∧ (∀ (p : Prop) (κ : BK), p → PX P Q p κ = BX P Q true κ) ∧ (∀ (p : Prop) (κ : BK), ¬ p → PX P Q p κ = BX P Q false κ) :=
 ⟨fun _ _ h => BX_T h, fun _ _ h => BX_F h, fun _ _ h => PX_T h, fun _ _ h => PX_F h⟩
theorem pX {p : Prop} {κ : BK} (h1 : p → BX P Q true κ) (h2 : ¬ p → BX P Q false κ) : PX P Q p κ := PX.mk h1 h2
theorem bX {c : Bool} {κ : BK} (h1 : c = true → BX P Q true κ) (h2 : c = false → BX P Q false κ) : BX P Q c κ := BX.mk h1 h2
end
theorem bW : (∀ n : Int, -9223372036854775808 ≤ n ∧ n ≤ 9223372036854775807 → IntKind.i64.wrap n = n) ∧ (∀ n : Int, 0 ≤ n ∧ n ≤ 18446744073709551615 → IntKind.u64.wrap n = n) := ⟨IntWalk.i64_in, IntWalk.u64_in⟩
theorem oD {p : Prop} (h : p := by first | omega | decide) : p := h
theorem lE {t t' : List (Nat × AV)} {h h' : List (Nat × AObj)} {n n' : Nat} (hn : n ≤ n' := by first | decide | omega) (ht : LeT t' n t := by simp [LeT, LeH, tget, hget, AV.bd, AV.bd.bdL, u8, bd_cellsOf, bcells_bd, icells_bd]) (hh : LeH h' n h := by simp [LeT, LeH, tget, hget, AV.bd, AV.bd.bdL, u8, bd_cellsOf, bcells_bd, icells_bd]) : (AS.mk t h n).Le ⟨t', h', n'⟩ := AS.Le.of hn ht hh
end Go.Dom
namespace Go.Dom
def num : Bytes → Nat
 | [] => 0
 | x :: r => x.toNat * 256 ^ r.length + num r
def be : Nat → Nat → Bytes
 | 0, _ => []
 | k + 1, n => UInt8.ofNat (n / 256 ^ k) :: be k n
def trimB : Bytes → Bytes
 | [] => []
 | x :: r => if x = 0 then trimB r else x :: r
def bts (n : Nat) : Bytes := trimB (be (n.log2 / 8 + 1) n)
def validN (a : Bytes) : Bool := decide (a.length ≤ 128) && (a.length == 0 || a.headD 0 != 0)
theorem be_len (k n : Nat) : (be k n).length = k := by induction k <;> simp_all [be]
theorem pow256_pos (k : Nat) : 0 < 256 ^ k := Nat.pow_pos (by decide)
theorem num_lt (a : Bytes) : num a < 256 ^ a.length := by
 induction a with
 | nil => decide
 | cons x r ih =>
  simp only [num, List.length_cons, Nat.pow_succ]
  have := x.toNat_lt
  have h2 : x.toNat * 256 ^ r.length ≤ 255 * 256 ^ r.length := Nat.mul_le_mul_right _ (by omega)
  omega
theorem num_append (a b : Bytes) : num (a ++ b) = num a * 256 ^ b.length + num b := by
 induction a with
 | nil => simp [num]
 | cons x r ih => simp only [List.cons_append, num, ih, List.length_append, Nat.pow_add, Nat.add_mul, Nat.mul_assoc]; omega
theorem num_snoc (a : Bytes) (x : UInt8) : num (a ++ [x]) = num a * 256 + x.toNat := by simp [num_append, num]
theorem num_be (k n : Nat) : num (be k n) = n % 256 ^ k := by
 induction k with
 | zero => simp [be, num, Nat.mod_one]
 | succ k ih =>
  simp only [be, num, be_len, ih, UInt8.toNat_ofNat']
  have h := Nat.mod_mul (x := n) (a := 256 ^ k) (b := 256)
  rw [show (256 : Nat) ^ (k + 1) = 256 ^ k * 256 from Nat.pow_succ .., h, Nat.mul_comm (256 ^ k)]
  show n / 256 ^ k % 256 * 256 ^ k + n % 256 ^ k = _
  omega
theorem be_num (a : Bytes) : be a.length (num a) = a := by
 induction a with
 | nil => rfl
 | cons x r ih =>
  have h : num (x :: r) = x.toNat * 256 ^ r.length + num r := rfl
  have h1 := num_lt r
  have h2 : num (x :: r) / 256 ^ r.length = x.toNat := by
   rw [h, Nat.mul_comm, Nat.mul_add_div (pow256_pos _), Nat.div_eq_of_lt h1]; omega
  have h3 : ∀ k m m', m % 256 ^ k = m' % 256 ^ k → be k m = be k m' := by
   intro k
   induction k with
   | zero => intros; rfl
   | succ k ih =>
    intro m m' hm
    have e1 : m / 256 ^ k % 256 = m' / 256 ^ k % 256 := by
     rw [Nat.pow_succ] at hm
     have a1 := Nat.mod_mul (x := m) (a := 256 ^ k) (b := 256)
     have a2 := Nat.mod_mul (x := m') (a := 256 ^ k) (b := 256)
     have b1 : m % (256 ^ k * 256) / 256 ^ k = m / 256 ^ k % 256 := by rw [Nat.mod_mul_right_div_self]
     have b2 : m' % (256 ^ k * 256) / 256 ^ k = m' / 256 ^ k % 256 := by rw [Nat.mod_mul_right_div_self]
     rw [← b1, ← b2, hm]
    have e2 : m % 256 ^ k = m' % 256 ^ k := by
     have a1 : m % 256 ^ (k + 1) % 256 ^ k = m % 256 ^ k := Nat.mod_mod_of_dvd _ (Nat.pow_dvd_pow 256 (Nat.le_succ k))
     have a2 : m' % 256 ^ (k + 1) % 256 ^ k = m' % 256 ^ k := Nat.mod_mod_of_dvd _ (Nat.pow_dvd_pow 256 (Nat.le_succ k))
     rw [← a1, ← a2, hm]
    simp only [be, ih m m' e2]
    congr 1
    apply UInt8.toNat_inj.1
    simpa using e1
  simp only [List.length_cons, be, h2]
  rw [show UInt8.ofNat x.toNat = x by simp, h3 r.length (num (x :: r)) (num r) (by rw [h, Nat.mul_add_mod_self_right]), ih]
theorem trimB_form (a : Bytes) : ∃ k, a = List.replicate k 0 ++ trimB a ∧ (trimB a = [] ∨ (trimB a).headD 0 ≠ 0) := by
 induction a with
 | nil => exact ⟨0, rfl, .inl rfl⟩
 | cons x r ih =>
  simp only [trimB]
  split
  ·rename_i h; subst h
   obtain ⟨k, e, h⟩ := ih
   exact ⟨k + 1, by simp [List.replicate_succ, ← e], h⟩
  ·rename_i h; exact ⟨0, rfl, .inr h⟩
theorem num_zeros (k : Nat) (a : Bytes) : num (List.replicate k 0 ++ a) = num a := by
 induction k with
 | zero => rfl
 | succ k ih => simp [List.replicate_succ, num, ih]
theorem num_trim (a : Bytes) : num (trimB a) = num a := by
 obtain ⟨k, e, -⟩ := trimB_form a
 conv => rhs; rw [e, num_zeros]
theorem trim_len (a : Bytes) : (trimB a).length ≤ a.length := by
 obtain ⟨k, e, -⟩ := trimB_form a
 have := congrArg List.length e; simp at this; omega
def Canon (a : Bytes) : Prop := a = [] ∨ a.headD 0 ≠ 0
theorem trim_canon (a : Bytes) : Canon (trimB a) := by obtain ⟨k, -, h⟩ := trimB_form a; exact h
theorem canon_low {a : Bytes} (h : Canon a) (hne : a ≠ []) : 256 ^ (a.length - 1) ≤ num a := by
 cases a with
 | nil => exact absurd rfl hne
 | cons x r =>
  rcases h with h | h
  ·cases h
  ·have hx : 0 < x.toNat := by
    rcases Nat.eq_zero_or_pos x.toNat with e | e
    ·exact absurd (UInt8.toNat_inj.1 e : x = 0) h
    ·exact e
   simp only [num, List.length_cons, Nat.add_sub_cancel]
   have := Nat.mul_le_mul_right (256 ^ r.length) hx
   omega
theorem canon_inj {a b : Bytes} (ha : Canon a) (hb : Canon b) (h : num a = num b) : a = b := by
 have key : ∀ {a b : Bytes}, Canon a → Canon b → num a = num b → a.length ≤ b.length := by
  intro a b ha hb h
  by_cases hne : a = []
  ·subst hne; simp
  ·have h1 := canon_low ha hne
   have h2 := num_lt b
   have h3 : 256 ^ (a.length - 1) < 256 ^ b.length := by omega
   have := (Nat.pow_lt_pow_iff_right (by decide : 1 < 256)).1 h3
   omega
 have hl : a.length = b.length := Nat.le_antisymm (key ha hb h) (key hb ha h.symm)
 have h1 := be_num a
 rw [h, hl, be_num b] at h1
 exact h1.symm
theorem log2_be (n : Nat) : n < 256 ^ (n.log2 / 8 + 1) := by
 have h1 : n < 2 ^ (n.log2 + 1) := Nat.lt_log2_self
 have h2 : (256 : Nat) ^ (n.log2 / 8 + 1) = 2 ^ (8 * (n.log2 / 8 + 1)) := by rw [Nat.pow_mul]
 rw [h2]
 exact Nat.lt_of_lt_of_le h1 (Nat.pow_le_pow_right (by decide) (by omega))
theorem num_bts (n : Nat) : num (bts n) = n := by
 rw [bts, num_trim, num_be]; exact Nat.mod_eq_of_lt (log2_be n)
theorem bts_canon (n : Nat) : Canon (bts n) := trim_canon _
theorem bts_num {a : Bytes} (h : Canon a) : bts (num a) = a := canon_inj (bts_canon _) h (num_bts _)
theorem trim_bts (a : Bytes) : trimB a = bts (num a) := canon_inj (trim_canon _) (bts_canon _) (by rw [num_trim, num_bts])
theorem trim_be {k n : Nat} (h : n < 256 ^ k) : trimB (be k n) = bts n := by rw [trim_bts, num_be, Nat.mod_eq_of_lt h]
theorem bts_zero : bts 0 = [] := by decide
theorem bts_len {n k : Nat} : (bts n).length ≤ k ↔ n < 256 ^ k := by
 constructor
 ·intro h
  have := num_lt (bts n)
  rw [num_bts] at this
  exact Nat.lt_of_lt_of_le this (Nat.pow_le_pow_right (by decide) h)
 ·intro h
  by_cases hne : bts n = []
  ·simp [hne]
  ·have h1 := canon_low (bts_canon n) hne
   rw [num_bts] at h1
   have h3 : 256 ^ ((bts n).length - 1) < 256 ^ k := by omega
   have := (Nat.pow_lt_pow_iff_right (by decide : 1 < 256)).1 h3
   omega
theorem bts_inj {m n : Nat} : bts m = bts n ↔ m = n := ⟨fun h => by rw [← num_bts m, h, num_bts], fun h => by rw [h]⟩
theorem bts_nil {n : Nat} : bts n = [] ↔ n = 0 := by rw [← bts_zero]; exact bts_inj
theorem validN_iff (a : Bytes) : validN a = true ↔ a.length ≤ 128 ∧ Canon a := by
 unfold validN Canon
 cases a with
 | nil => simp
 | cons x r => simp
theorem canon_of {a : Bytes} (h : validN a = true) : Canon a := ((validN_iff a).1 h).2
theorem bts_of {a : Bytes} (h : validN a = true) : bts (num a) = a := bts_num (canon_of h)
theorem len_of {a : Bytes} (h : validN a = true) : a.length ≤ 128 := ((validN_iff a).1 h).1
theorem num_of {a : Bytes} (h : validN a = true) : num a < 256 ^ 128 := Nat.lt_of_lt_of_le (num_lt a) (Nat.pow_le_pow_right (by decide) (len_of h))
theorem valid_bts {n : Nat} (h : n < 256 ^ 128) : validN (bts n) = true := (validN_iff _).2 ⟨bts_len.2 h, bts_canon n⟩
theorem num_zero {a : Bytes} (ha : validN a = true) : num a = 0 ↔ a = [] := by
 constructor
 ·intro h; exact canon_inj (canon_of ha) (.inl rfl) h
 ·intro h; subst h; rfl
theorem num_digit (a : Bytes) {i : Nat} (h : i < a.length) : (a.getD (a.length - 1 - i) 0).toNat = num a / 256 ^ i % 256 := by
 have e : a = a.take (a.length - 1 - i) ++ (a.getD (a.length - 1 - i) 0 :: a.drop (a.length - i)) := by
  have h2 : a.length - 1 - i < a.length := by omega
  conv => lhs; rw [← List.take_append_drop (a.length - 1 - i) a, List.drop_eq_getElem_cons h2]
  rw [show a.length - 1 - i + 1 = a.length - i by omega]
  simp [List.getD_eq_getElem?_getD, h2]
 have hl : (a.drop (a.length - i)).length = i := by simp; omega
 have hn := num_append (a.take (a.length - 1 - i)) (a.getD (a.length - 1 - i) 0 :: a.drop (a.length - i))
 rw [← e] at hn
 simp only [num, List.length_cons, hl] at hn
 have hlt := num_lt (a.drop (a.length - i))
 rw [hl] at hlt
 generalize (a.getD (a.length - 1 - i) 0) = c at hn ⊢
 have hc := c.toNat_lt
 have : num a = (num (a.take (a.length - 1 - i)) * 256 + c.toNat) * 256 ^ i + num (a.drop (a.length - i)) := by
  rw [hn, Nat.pow_succ, Nat.add_mul, Nat.mul_assoc, Nat.mul_comm 256]; omega
 rw [this, Nat.mul_comm _ (256 ^ i), Nat.mul_add_div (pow256_pos _), Nat.div_eq_of_lt hlt]
 omega
theorem num_digit0 (a : Bytes) {i : Nat} (h : a.length ≤ i) : num a / 256 ^ i = 0 := Nat.div_eq_of_lt (Nat.lt_of_lt_of_le (num_lt a) (Nat.pow_le_pow_right (by decide) h))
theorem num_cons_lt (x y : UInt8) {r s : Bytes} (hl : r.length = s.length) : num (x :: r) < num (y :: s) ↔ x.toNat < y.toNat ∨ (x = y ∧ num r < num s) := by
 simp only [num, hl]
 have h1 := num_lt r
 have h2 := num_lt s
 rw [hl] at h1
 generalize 256 ^ s.length = p at h1 h2 ⊢
 rcases Nat.lt_trichotomy x.toNat y.toNat with h | h | h
 ·have := Nat.mul_le_mul_right p (show x.toNat + 1 ≤ y.toNat from h)
  rw [Nat.add_mul] at this
  simp only [h, true_or, iff_true]; omega
 ·have : x = y := UInt8.toNat_inj.1 h
  subst this
  simp
 ·have := Nat.mul_le_mul_right p (show y.toNat + 1 ≤ x.toNat from h)
  rw [Nat.add_mul] at this
  have hne : x ≠ y := fun e => by subst e; omega
  simp only [hne, false_and, or_false]; omega
theorem canon_len_lt {a b : Bytes} (hb : Canon b) (h : a.length < b.length) : num a < num b := by
 have h1 := num_lt a
 have h2 := canon_low hb (by intro e; subst e; simp at h)
 exact Nat.lt_of_lt_of_le h1 (Nat.le_trans (Nat.pow_le_pow_right (by decide) (by omega)) h2)
theorem set_mid {α : Type} (l m : List α) (x y : α) : (l ++ x :: m).set l.length y = l ++ y :: m := by simp
theorem zeros_snoc (k : Nat) : (List.replicate (k + 1) (0 : UInt8)) = List.replicate k 0 ++ [0] := by rw [List.replicate_succ']
theorem fill_set {n i : Nat} (hi : i < n) (c : UInt8) (b : Bytes) : (List.replicate (n - i) (0 : UInt8) ++ b).set (n - 1 - i) c = List.replicate (n - (i + 1)) 0 ++ (c :: b) := by
 obtain ⟨k, rfl⟩ : ∃ k, n = k + i + 1 := ⟨n - i - 1, by omega⟩
 rw [show k + i + 1 - i = k + 1 by omega, show k + i + 1 - 1 - i = k by omega, show k + i + 1 - (i + 1) = k by omega, zeros_snoc]
 have := set_mid (List.replicate k (0 : UInt8)) b 0 c
 simpa using this
structure RowOK {α : Type} (f : α → PV) (z : Nat) : Prop where
 len : ∀ x, (f x).cells.length = z
 one : ∀ x, ∀ y ∈ (f x).cells, y.one = true
 z1 : z = 1 → ∀ x, (f x).cells = [f x]
 zn : z ≠ 1 → ∀ x, f x = .agg (f x).cells
def rowF {α : Type} (f : α → PV) (l : List α) : List AV := (l.flatMap fun x => (f x).cells).map AV.v
variable {α : Type} {f : α → PV} {z : Nat}
theorem RowOK.s : RowOK PV.s 1 := ⟨fun _ => rfl, fun _ y hy => by cases List.mem_singleton.1 hy; rfl, fun _ _ => rfl, fun h => absurd rfl h⟩
theorem flatF_len (h : RowOK f z) (l : List α) : (l.flatMap fun x => (f x).cells).length = l.length * z := by
 induction l with
 | nil => simp
 | cons x l ih => rw [List.flatMap_cons, List.length_append, ih, h.len, List.length_cons, Nat.succ_mul]; omega
theorem rowF_len (h : RowOK f z) (l : List α) : (rowF f l).length = l.length * z := by rw [rowF, List.length_map, flatF_len h]
theorem rowF_take (h : RowOK f z) (l : List α) : (rowF f l).take (l.length * z) = rowF f l := List.take_of_length_le (by rw [rowF_len h]; exact Nat.le_refl _)
theorem rowF_all (h : RowOK f z) (l : List α) : (rowF f l).all AV.one = true := by
 rw [List.all_eq_true]; intro y hy
 obtain ⟨c, hc, rfl⟩ := List.mem_map.1 hy
 obtain ⟨x, -, hx⟩ := List.mem_flatMap.1 hc
 exact h.one x c hx
theorem rowF_mapO (hf : Nat → Option AObj) (k : Nat) (l : List α) : mapO (view hf (k + 1)) (rowF f l) = some (l.flatMap fun x => (f x).cells) := mapO_view_v _ _ _
theorem rowF_viewN (hf : Nat → Option AObj) (k : Nat) (l : List α) : (rowF f l).flatMap (viewN hf (k + 1)) = [] := by
 unfold rowF
 induction (l.flatMap fun x => (f x).cells) with
 | nil => rfl
 | cons x l ih => simp_all [viewN]
theorem rowF_chunk (h : RowOK f z) (l : List α) : chunk z l.length (l.flatMap fun x => (f x).cells) = l.map f := by
 induction l with
 | nil => rfl
 | cons x l ih =>
  have hl := h.len x
  rw [List.length_cons, List.flatMap_cons, chunk, List.drop_left' hl, ih, List.map_cons]
  congr 1
  by_cases h1 : z = 1
  ·rw [if_pos h1, h.z1 h1 x]; rfl
  ·rw [if_neg h1, List.take_left' hl]; exact (h.zn h1 x).symm
theorem bd_row {l : List α} {c : AV} {n : Nat} (h : c ∈ rowF f l) : c.bd n = true := by
 obtain ⟨x, -, rfl⟩ := List.mem_map.1 h; rfl
theorem rowF_snoc (l : List α) (x : α) : rowF f (l ++ [x]) = rowF f l ++ (f x).cells.map AV.v := by
 simp [rowF, List.flatMap_append]
theorem rowF_get1 (h : ∀ x, (f x).cells = [f x]) (l : List α) (d : α) {i : Nat} (hi : i < l.length) : (rowF f l).getD i .u = .v (f (l.getD i d)) := by
 have e : rowF f l = l.map fun x => AV.v (f x) := by
  unfold rowF
  clear hi
  induction l with
  | nil => rfl
  | cons x l ih => rw [List.flatMap_cons, h x, List.map_append, ih]; rfl
 rw [e]; simp [List.getD_eq_getElem?_getD, hi]
theorem view_rowF (h : RowOK f z) {hf : Nat → Option AObj} {k n ver : Nat} {gr : Bool} {el : Option TypeId} {l : List α} {m : Nat} (hm : m = l.length) (hg : hf n = some ⟨ver, rowF f l, gr, el⟩) : view hf (k + 2) (.rs n ver 0 m z) = some (.sl (l.map f)) := by
 subst hm
 have h1 := rowF_len h l
 have h2 := rowF_all h l
 have h3 := rowF_take h l
 simp [view, hg, h1, h2, h3, rowF_mapO, rowF_chunk h]
theorem viewN_rowF (h : RowOK f z) {hf : Nat → Option AObj} {k n ver : Nat} {gr : Bool} {el : Option TypeId} {l : List α} {m : Nat} (hm : m = l.length) (hg : hf n = some ⟨ver, rowF f l, gr, el⟩) : viewN hf (k + 2) (.rs n ver 0 m z) = [n] := by
 subst hm
 simp [viewN, hg, rowF_take h, rowF_viewN]
theorem take_succ_getD {α : Type} {l : List α} {i : Nat} (d : α) (h : i < l.length) : l.take (i + 1) = l.take i ++ [l.getD i d] := by
 rw [List.take_succ, List.getElem?_eq_getElem h, List.getD_eq_getElem?_getD, List.getElem?_eq_getElem h]; rfl
end Go.Dom
