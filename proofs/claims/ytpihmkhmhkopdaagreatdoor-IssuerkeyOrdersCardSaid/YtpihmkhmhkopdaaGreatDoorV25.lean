/-
  IssuerkeyOrders: for all parameters, keys and trapdoors the law's function returns true, and all of them read afterwards as before; the tables that the library reads are tied to the program's text. No further condition.
-/
import Derived.Test.YtpihmkhmhkopdaaGreatDoorRows
import Derived.Test.YtpihmkhmhkopdaaGreatDoorCards
import Derived.Test.YtpihmkhmhkopdaaGreatDoorTie
import Derived.Test.YtpihmkhmhkopdaaGreatDoorV24
import Derived.ProofKit
import Derived.ChangeSame
import Derived.Lay
import Derived.LaidOnce
import Derived.SevenTiedAt
import Derived.Lib.LaidU8
set_option linter.all false
namespace Go.Proofs.YtpihmkhmhkopdaaGreatDoor
open Go Go.Dom Go.ChangeShapes Go.WideShapes Go.ChangeAt Go.RowKit
set_option maxRecDepth 100000

theorem ownK : ownKnob Tryz.prog.godebug = none := by kernel_rfl
theorem laidK : laidOutB Tryz.prog = true := by kernel_rfl
theorem uBool : Tryz.prog.underlying 4 = some .bool := by kernel_rfl
theorem uS : Tryz.prog.underlying 9 = some .string := by kernel_rfl
theorem uN : Tryz.prog.underlying 22 = some .string := by kernel_rfl
theorem uLN : Tryz.prog.underlying 31 = some (.slice 22) := by kernel_rfl
theorem cS : Tryz.prog.cellsOf 9 = 1 := by kernel_rfl
theorem cN : Tryz.prog.cellsOf 22 = 1 := by kernel_rfl
theorem cLN : Tryz.prog.cellsOf 31 = 1 := by kernel_rfl
theorem cRu : Tryz.prog.cellsOf 24 = 2 := by kernel_rfl
theorem cGr : Tryz.prog.cellsOf 26 = 2 := by kernel_rfl
theorem cPe : Tryz.prog.cellsOf 28 = 4 := by kernel_rfl
theorem isN : isStruct Tryz.prog 22 = false := by kernel_rfl
theorem bN : Tryz.prog.bytesOf 22 = 16 := by kernel_rfl
theorem okPa : okT Tryz.prog 9 30 = true := by kernel_rfl
theorem okKe : okT Tryz.prog 9 33 = true := by kernel_rfl
theorem okTr : okT Tryz.prog 9 35 = true := by kernel_rfl

theorem tk {ps : List PV} {x : PV} (h : List.take 1 ps = [x]) : ps = x :: List.drop 1 ps := by cases ps <;> simp_all
theorem tk2 {ps : List PV} {x y : PV} (h : List.take 2 ps = [x, y]) : ps = x :: y :: List.drop 2 ps := by
  rcases ps with _ | ⟨a, _ | ⟨b, r⟩⟩ <;> simp_all
theorem tk4 {ps : List PV} {x y z u : PV} (h : List.take 4 ps = [x, y, z, u]) : ps = x :: y :: z :: u :: List.drop 4 ps := by
  rcases ps with _ | ⟨a, _ | ⟨b, _ | ⟨c, _ | ⟨d, r⟩⟩⟩⟩ <;> simp_all
theorem listOf {α : Type} {f : α → PV} : ∀ {l : List PV}, (∀ x ∈ l, ∃ a, x = f a) → ∃ al : List α, l = al.map f := by
  intro l
  induction l with
  | nil => intro _; exact ⟨[], rfl⟩
  | cons x l ih =>
    intro h
    obtain ⟨a, rfl⟩ := h x (by simp)
    obtain ⟨al, rfl⟩ := ih fun y hy => h y (by simp [hy])
    exact ⟨a :: al, rfl⟩
theorem one_cells {x y : PV} (h : x.cells = [y]) (h1 : x.one = true) : x = y := by
  cases x <;> first | (simpa [PV.cells] using h) | (simp [PV.one] at h1)
theorem typN {k : Nat} {ps : List PV} (h : Typ Tryz.prog (k + 1) 22 ps) : ∃ b : Bytes, ps = [.s b] := by
  simp only [Typ, uN] at h
  obtain ⟨x, rfl, -⟩ := h; exact ⟨x, rfl⟩
theorem typSt {k : Nat} {ps : List PV} (h : Typ Tryz.prog (k + 1) 9 ps) : ∃ b : Bytes, ps = [.s b] := by
  simp only [Typ, uS] at h
  obtain ⟨x, rfl, -⟩ := h; exact ⟨x, rfl⟩
theorem typLN {k : Nat} {ps : List PV} (h : Typ Tryz.prog (k + 2) 31 ps) : ∃ bs : List Bytes, ps = [.sl (bs.map PV.s)] ∧ bs.length * 16 ≤ reachBytes := by
  simp only [Typ, uLN, uN, isN, bN] at h
  obtain ⟨l, rfl, hb, hl⟩ := h
  obtain ⟨bs, rfl⟩ := listOf (f := PV.s) (l := l) fun x hx => by
    obtain ⟨⟨s, h1, -⟩, h2⟩ := hl x hx
    exact ⟨s, one_cells h1 (by simpa using h2)⟩
  exact ⟨bs, rfl, by simpa using hb⟩
theorem typGr {k : Nat} {ps : List PV} (h : Typ Tryz.prog (k + 2) 26 ps) : ∃ a b : Bytes, ps = [.s a, .s b] := by
  rw [Typ, Tryz.underlying26] at h
  simp only [TypS, cN] at h
  obtain ⟨h1, h2, h3⟩ := h
  obtain ⟨a, h1⟩ := typN h1
  obtain ⟨b, h2⟩ := typN h2
  exact ⟨a, b, by rw [tk h1, tk h2, h3]⟩
theorem typRu {k : Nat} {ps : List PV} (h : Typ Tryz.prog (k + 2) 24 ps) : ∃ a b : Bytes, ps = [.s a, .s b] := by
  rw [Typ, Tryz.underlying24] at h
  simp only [TypS, cN] at h
  obtain ⟨h1, h2, h3⟩ := h
  obtain ⟨a, h1⟩ := typN h1
  obtain ⟨b, h2⟩ := typN h2
  exact ⟨a, b, by rw [tk h1, tk h2, h3]⟩
theorem typPe {k : Nat} {ps : List PV} (h : Typ Tryz.prog (k + 3) 28 ps) : ∃ a b c d : Bytes, ps = [.s a, .s b, .s c, .s d] := by
  rw [Typ, Tryz.underlying28] at h
  simp only [TypS, cN, cGr] at h
  obtain ⟨h1, h2, h3, h4⟩ := h
  obtain ⟨a, b, h1⟩ := typGr h1
  obtain ⟨c, h2⟩ := typN h2
  obtain ⟨d, h3⟩ := typN h3
  exact ⟨a, b, c, d, by rw [tk2 h1, tk h2, tk h3, h4]⟩
theorem typTr {ps : List PV} (h : Typ Tryz.prog 9 35 ps) : ∃ a b : Bytes, ps = [.s a, .s b] := by
  rw [Typ, Tryz.underlying35] at h
  simp only [TypS, cN] at h
  obtain ⟨h1, h2, h3⟩ := h
  obtain ⟨a, h1⟩ := typN h1
  obtain ⟨b, h2⟩ := typN h2
  exact ⟨a, b, by rw [tk h1, tk h2, h3]⟩
theorem typPa {ps : List PV} (h : Typ Tryz.prog 9 30 ps) : ∃ p : Par, .agg ps = p.pv := by
  rw [Typ, Tryz.underlying30] at h
  simp only [TypS, cN, cRu, cPe] at h
  obtain ⟨h1, h2, h3, h4, h5, h6, h7, h8, h9, h10, h11⟩ := h
  obtain ⟨a1, a2, h1⟩ := typRu h1
  obtain ⟨b1, b2, b3, b4, h2⟩ := typPe h2
  obtain ⟨c1, c2, c3, c4, h3⟩ := typPe h3
  obtain ⟨d4, h4⟩ := typN h4
  obtain ⟨d5, h5⟩ := typN h5
  obtain ⟨d6, h6⟩ := typN h6
  obtain ⟨d7, h7⟩ := typN h7
  obtain ⟨d8, h8⟩ := typN h8
  obtain ⟨d9, h9⟩ := typN h9
  obtain ⟨d10, h10⟩ := typN h10
  refine ⟨⟨a1, a2, b1, b2, b3, b4, c1, c2, c3, c4, d4, d5, d6, d7, d8, d9, d10⟩, ?_⟩
  rw [tk2 h1, tk4 h2, tk4 h3, tk h4, tk h5, tk h6, tk h7, tk h8, tk h9, tk h10, h11]; rfl
theorem typKe {ps : List PV} (h : Typ Tryz.prog 9 33 ps) : ∃ k : Key, .agg ps = k.pv ∧ k.r.length * 16 ≤ reachBytes := by
  rw [Typ, Tryz.underlying33] at h
  simp only [TypS, cN, cS, cGr, cLN] at h
  obtain ⟨h1, h2, h3, h4, h5, h6, h7, h8⟩ := h
  obtain ⟨a, h1⟩ := typSt h1
  obtain ⟨m, o, h2⟩ := typGr h2
  obtain ⟨z, h3⟩ := typN h3
  obtain ⟨s, h4⟩ := typN h4
  obtain ⟨r, h5, hb⟩ := typLN h5
  obtain ⟨u, h6⟩ := typN h6
  obtain ⟨v, h7⟩ := typN h7
  refine ⟨⟨a, m, o, z, s, r, u, v⟩, ?_, hb⟩
  rw [tk h1, tk2 h2, tk h3, tk h4, tk h5, tk h6, tk h7, h8]; rfl

section
variable {H : Type} {enc : TypeId × Value → H} {P : Program}
/-- The last step, where nothing that was there has turned. -/
theorem postBelow {f : Func} {s : ChangeSpec} {apart fresh handsOn again : Bool} {W W' : World} {args : Array Value} {v : Value} {ds gs : List (DataW H)} {before pa pv : List MemPlace}
    (hW : DataW.Whole enc P f.params.toList s.vars apart W args.toList ds gs before)
    (hres : ∀ (b : Nat) (sp : Nat → Bool) (hd : Bool), DataW.TrodAll enc P W' b sp hd f.resultTypes.toList (v.resultList f.resultTypes.size) (s.fn H (ds ++ gs)).results [])
    (hargs : ∀ sp : Nat → Bool, (∀ p ∈ before, sp p.block = true) → DataW.TrodAll enc P W' 0 sp true f.params.toList args.toList (s.fn H (ds ++ gs)).args pa)
    (hvars : ∀ sp : Nat → Bool, (∀ p ∈ before, sp p.block = true) → DataW.TrodVars enc P W' sp s.vars (s.fn H (ds ++ gs)).vars pv)
    (hps : before = pa ++ pv) (hb : Below W.heap.size W W')
    (hok : ∀ (j : Nat) (t : TypeId) (r : Value), f.resultTypes[j]? = some t → (v.resultList f.resultTypes.size)[j]? = some r → Value.okWide P W' .any 0 t r) :
    s.post enc P f apart fresh handsOn again W args v W' := by
  have hlt : ∀ p ∈ before, p.block < W.heap.size := fun p hp => hW.lt p hp
  have hold : ∀ p ∈ before, (fun b => decide (b < W.heap.size)) p.block = true := fun p hp => by simpa using hlt p hp
  refine ⟨ds, gs, before, [], pa, pv, hW, hres _ _ _, hargs _ hold, hvars _ hold, World.keptBut_mono (fun p hp => ⟨hp, ?_⟩) (hb.frame (· ∈ before)), fun _ => ?_⟩
  · rw [hps, List.mem_append] at hp
    exact Or.inr hp
  · obtain ⟨_, _, _, _, _, hz, hn⟩ := hW
    refine ⟨hok, _, _, ([] ++ pa) ++ pv, ⟨[] ++ pa, pv, trodAll_append (hargs _ (fun _ _ => rfl)) (hres _ _ _), hvars _ (fun _ _ => rfl), rfl, ?_, ?_⟩, ?_⟩
    · intro b off hp
      have hin : MemPlace.cell b off ∈ before := by rw [hps]; simpa using hp
      rw [hb.frozen (hlt _ hin)]
      exact hz b off hin
    · intro ha
      have := hn ha
      rw [hps] at this
      simpa using this
    · intro p hp _
      rw [hps]
      simpa using hp
end

def laidL : List (String × DataW Unit) := [("math/bits.deBruijn32tab", Rows.laid_math_bits_deBruijn32tab), ("math/bits.deBruijn64tab", Rows.laid_math_bits_deBruijn64tab), ("internal/strconv.uint64pow10", Rows.laid_internal_strconv_uint64pow10)]
/-- A table that is listed is read as it stands. -/
theorem tab_cells {W : World} {n : String} {g : Nat} {t e : TypeId} {k : IntKind} {m : Nat} {zs : List Int} (h : Lib.VarReads Tryz.prog W n (Lib.tabData k zs)) (hg : Tryz.prog.globalNamed n = some g) (ht : (Tryz.prog.globals[g]?).map (·.type) = some t) (hu : Tryz.prog.underlying t = some (.array m e)) (he : Tryz.prog.underlying e = some (.int k)) (hce : Tryz.prog.cellsOf e = 1) (hct : Tryz.prog.cellsOf t = m) (i : Nat) :
    W.cell? ⟨g, i, none⟩ = (zs[i]?).map fun z => Value.int k z := by
  obtain ⟨g', t', cs, fuel, p, h1, h2, h3, h4⟩ := h
  obtain rfl := Option.some.inj (hg.symm.trans h1)
  obtain rfl := Option.some.inj (ht.symm.trans h2)
  have h5 := Lib.cells_of_tab hu he hce hct h4
  rw [World.var?_cell h1 h3 i, ← Array.getElem?_toList, h5, List.getElem?_map]
theorem tabs_read {W : World} (h : laidMet Tryz.prog laidL W) : ∀ b o v, TR Tryz.prog b o = some v → W.cell? ⟨b, o, none⟩ = some v := by
  have h1 := fun i => tab_cells (Lib.laidMet.reads h (n := "math/bits.deBruijn32tab") (d := Lib.tabData .u8 tab_deBruijn32tab) (by simp [laidL]; rfl)) (g := 5) (t := 195) (e := 5) (m := 32) (by kernel_rfl) (by kernel_rfl) (by kernel_rfl) (by kernel_rfl) (by kernel_rfl) (by kernel_rfl) i
  have h2 := fun i => tab_cells (Lib.laidMet.reads h (n := "math/bits.deBruijn64tab") (d := Lib.tabData .u8 tab_deBruijn64tab) (by simp [laidL]; rfl)) (g := 2) (t := 164) (e := 5) (m := 64) (by kernel_rfl) (by kernel_rfl) (by kernel_rfl) (by kernel_rfl) (by kernel_rfl) (by kernel_rfl) i
  have h3 := fun i => tab_cells (Lib.laidMet.reads h (n := "internal/strconv.uint64pow10") (d := Lib.tabData .u64 tab_uint64pow10) (by simp [laidL]; rfl)) (g := 4) (t := 192) (e := 42) (m := 20) (by kernel_rfl) (by kernel_rfl) (by kernel_rfl) (by kernel_rfl) (by kernel_rfl) (by kernel_rfl) i
  intro b o v hv
  have key : ∀ (k : IntKind) (zs : List Int), ((zs.map fun n => (k, n))[o]?).map (fun p : IntKind × Int => Value.int p.1 p.2) = (zs[o]?).map fun z => Value.int k z := by
    intro k zs; rw [List.getElem?_map, Option.map_map]; rfl
  unfold TR at hv
  simp only [Tabs.tab, List.lookup] at hv
  by_cases e1 : b = 5
  · subst e1
    rw [h1 o, ← key]
    simpa using hv
  · by_cases e2 : b = 2
    · subst e2
      rw [h2 o, ← key]
      simpa using hv
    · by_cases e3 : b = 4
      · subst e3
        rw [h3 o, ← key]
        simpa using hv
      · simp only [show (b == 5) = false from beq_eq_false_iff_ne.2 e1, show (b == 2) = false from beq_eq_false_iff_ne.2 e2, show (b == 4) = false from beq_eq_false_iff_ne.2 e3] at hv
        cases hv
end Go.Proofs.YtpihmkhmhkopdaaGreatDoor
