/-
  THE SHAPES OF THE LAW's ARGUMENTS. Own work.
-/
import Derived.Test.YtjigfdhjmfcbpaaW10
import Derived.Test.YtjigfdhjmfcbpaaDomZ8
set_option linter.all false
namespace Go.Proofs.Ytjigfdhjmfcbpaa
open Go Go.Dom
set_option maxRecDepth 100000

theorem uS : Try.prog.underlying 9 = some .string := by kernel_rfl
theorem uN : Try.prog.underlying 27 = some .string := by kernel_rfl
theorem uI : Try.prog.underlying 3 = some (.int .i64) := by kernel_rfl
theorem uLN : Try.prog.underlying 25 = some (.slice 27) := by kernel_rfl
theorem uLLN : Try.prog.underlying 26 = some (.slice 25) := by kernel_rfl
theorem uLS : Try.prog.underlying 24 = some (.slice 76) := by kernel_rfl
theorem cS : Try.prog.cellsOf 9 = 1 := by kernel_rfl
theorem cN : Try.prog.cellsOf 27 = 1 := by kernel_rfl
theorem cI : Try.prog.cellsOf 3 = 1 := by kernel_rfl
theorem cLN : Try.prog.cellsOf 25 = 1 := by kernel_rfl
theorem cLLN : Try.prog.cellsOf 26 = 1 := by kernel_rfl
theorem cLS : Try.prog.cellsOf 24 = 1 := by kernel_rfl
theorem cC : Try.prog.cellsOf 29 = 2 := by kernel_rfl
theorem cG : Try.prog.cellsOf 33 = 4 := by kernel_rfl
theorem okQ : okT Try.prog 9 23 = true := by kernel_rfl
theorem okX : okT Try.prog 9 35 = true := by kernel_rfl
theorem bN : Try.prog.bytesOf 27 = 16 := by kernel_rfl

theorem wf_i64 {n : Int} (h : (Lit.int .i64 n).wf = true) : i64r n := by
  simp [Lit.wf, IntKind.min, IntKind.max, IntKind.signed, IntKind.bits] at h
  exact ⟨by omega, by omega⟩

theorem tk {ps : List PV} {x : PV} (h : List.take 1 ps = [x]) : ps = x :: List.drop 1 ps := by cases ps <;> simp_all
theorem listOf {α : Type} {f : α → PV} {Q : α → Prop} : ∀ {l : List PV}, (∀ x ∈ l, ∃ a, x = f a ∧ Q a) → ∃ al : List α, l = al.map f ∧ ∀ a ∈ al, Q a := by
  intro l
  induction l with
  | nil => intro _; exact ⟨[], rfl, by simp⟩
  | cons x l ih =>
    intro h
    obtain ⟨a, rfl, ha⟩ := h x (by simp)
    obtain ⟨al, rfl, has⟩ := ih fun y hy => h y (by simp [hy])
    refine ⟨a :: al, rfl, fun b hb => ?_⟩
    rcases List.mem_cons.1 hb with rfl | hb
    · exact ha
    · exact has b hb
theorem one_cells {x y : PV} (h : x.cells = [y]) (h1 : x.one = true) : x = y := by
  cases x <;> first | (simpa [PV.cells] using h) | (simp [PV.one] at h1)

theorem typQ {ps : List PV} (h : Typ Try.prog 9 23 ps) : ∃ q : Qn, .agg ps = q.pv ∧ i64r q.epoch ∧ i64r q.period ∧ q.verifier.length ≤ reachBytes ∧ q.nonce.length ≤ reachBytes := by
  simp only [Typ, Try.underlying23, TypS, uS, uI, cS, cI] at h
  obtain ⟨⟨p, h1, -⟩, ⟨v, h2, l2⟩, ⟨n, h3, l3⟩, ⟨e, h4, w4⟩, ⟨d, h5, w5⟩, h6⟩ := h
  refine ⟨⟨p, v, n, e, d⟩, ?_, wf_i64 w4, wf_i64 w5, l2, l3⟩
  rw [tk h1, tk h2, tk h3, tk h4, tk h5, h6]; rfl

/-- Lists of numbers. -/
theorem isN : isStruct Try.prog 27 = false := by kernel_rfl
theorem isLN : isStruct Try.prog 25 = false := by kernel_rfl
theorem isSh : isStruct Try.prog 76 = true := by kernel_rfl
theorem typLN {k : Nat} {ps : List PV} (h : Typ Try.prog (k + 2) 25 ps) : ∃ bs : List Bytes, ps = [.sl (bs.map PV.s)] ∧ bs.length * 16 ≤ reachBytes := by
  simp only [Typ, uLN, uN, isN, bN] at h
  obtain ⟨l, rfl, hb, hl⟩ := h
  obtain ⟨bs, rfl, -⟩ := listOf (f := PV.s) (Q := fun _ => True) (l := l) fun x hx => by
    obtain ⟨⟨s, h1, -⟩, h2⟩ := hl x hx
    exact ⟨s, one_cells h1 (by simpa using h2), trivial⟩
  exact ⟨bs, rfl, by simpa using hb⟩
theorem typLLN {k : Nat} {ps : List PV} (h : Typ Try.prog (k + 3) 26 ps) : ∃ ls : List (List Bytes), ps = [.sl (ls.map fun y => PV.sl (y.map PV.s))] := by
  rw [Typ, uLLN] at h
  simp only [isLN] at h
  obtain ⟨l, rfl, hb, hl⟩ := h
  obtain ⟨bs, rfl, -⟩ := listOf (f := fun y : List Bytes => PV.sl (y.map PV.s)) (Q := fun _ => True) (l := l) fun x hx => by
    obtain ⟨h1, h2⟩ := hl x hx
    obtain ⟨bs, h1, -⟩ := typLN h1
    exact ⟨bs, one_cells h1 (by simpa using h2), trivial⟩
  exact ⟨bs, rfl⟩
theorem typSh {k : Nat} {ps : List PV} (h : Typ Try.prog (k + 3) 76 ps) : ∃ s : Sh, .agg ps = s.pv ∧ i64r s.version ∧ s.disclosed.length * 16 ≤ reachBytes := by
  rw [Typ, Try.underlying76] at h
  simp only [TypS, cS, cI, cN, cLN] at h
  obtain ⟨h1, h2, h3, h4, h5, h6⟩ := h
  simp only [Typ, uS] at h1
  simp only [Typ, uI] at h2
  simp only [Typ, uN] at h3 h4
  obtain ⟨bs, h5, hb⟩ := typLN h5
  obtain ⟨i, h1, -⟩ := h1
  obtain ⟨v, h2, hv⟩ := h2
  obtain ⟨a, h3, -⟩ := h3
  obtain ⟨w, h4, -⟩ := h4
  refine ⟨⟨i, v, a, w, bs⟩, ?_, wf_i64 hv, hb⟩
  rw [tk h1, tk h2, tk h3, tk h4, tk h5, h6]; rfl
theorem typX {ps : List PV} (hl : ps.length = 14) (ho : ∀ y ∈ ps, y.one = true) (h : Typ Try.prog 9 35 ps) : ∃ x : Pr, .agg ps = x.pv ∧ (x.p1.one = true ∧ x.p2.one = true ∧ x.p3.one = true ∧ x.p4.one = true) ∧ (∀ s ∈ x.shown, i64r s.version ∧ s.disclosed.length * 16 ≤ reachBytes) ∧ x.cparts.length * 16 ≤ reachBytes := by
  rw [Typ, Try.underlying35] at h
  simp only [TypS, cLS, cLN, cLLN, cN, cC, cG] at h
  obtain ⟨h1, h2, h3, h4, h5, h6, h7, h8, h9, h10, h11⟩ := h
  rw [Typ, uLS] at h1
  simp only [isSh] at h1
  obtain ⟨sl, h1, -, hs⟩ := h1
  obtain ⟨shs, rfl, hsh⟩ := listOf (f := Sh.pv) (Q := fun s => i64r s.version ∧ s.disclosed.length * 16 ≤ reachBytes) (l := sl) fun x hx => by
    obtain ⟨g1, g2⟩ := hs x hx
    simp only [if_true] at g2
    obtain ⟨m, rfl⟩ := g2
    obtain ⟨s, e1, e2, e3⟩ := typSh g1
    exact ⟨s, e1, e2, e3⟩
  obtain ⟨bs, h2, -⟩ := typLN h2
  obtain ⟨l3, h3⟩ := typLLN h3
  obtain ⟨l4, h4⟩ := typLLN h4
  simp only [Typ, uN] at h5 h6 h7
  obtain ⟨s5, h5, -⟩ := h5
  obtain ⟨s6, h6, -⟩ := h6
  obtain ⟨s7, h7, -⟩ := h7
  obtain ⟨l8, h8, hb8⟩ := typLN h8
  rw [Typ, Try.underlying29] at h9
  simp only [TypS, cN] at h9
  obtain ⟨h9a, h9b, -⟩ := h9
  simp only [Typ, uN] at h9a h9b
  obtain ⟨s9, h9a, -⟩ := h9a
  obtain ⟨s10, h9b, -⟩ := h9b
  have e := tk h1
  rw [tk h2, tk h3, tk h4, tk h5, tk h6, tk h7, tk h8] at e
  generalize hr : List.drop 1 (List.drop 1 (List.drop 1 (List.drop 1 (List.drop 1 (List.drop 1 (List.drop 1 (List.drop 1 ps))))))) = r at *
  subst e
  simp only [List.length_cons] at hl
  rcases r with _ | ⟨a, _ | ⟨b, _ | ⟨c, _ | ⟨d, _ | ⟨e, _ | ⟨f, _ | ⟨g, r⟩⟩⟩⟩⟩⟩⟩ <;> simp at hl
  simp at h9a h9b
  subst h9a; subst h9b
  refine ⟨⟨shs, bs, l3, l4, s5, s6, s7, l8, s9, s10, c, d, e, f⟩, rfl, ⟨ho _ (by simp), ho _ (by simp), ho _ (by simp), ho _ (by simp)⟩, hsh, hb8⟩
end Go.Proofs.Ytjigfdhjmfcbpaa
