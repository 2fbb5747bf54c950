/-
  A REGION IN THE MODEL, in whatever order it draws. Own work; generic over the program.
-/
import Derived.Test.YtjigfdhjmfcbpaaDomS
set_option linter.all false
namespace Go.Dom
open Go.RowKit

/-- What stands before an operation, as bits: one step. -/
def bits1 (bf : List Nat) (o : Oper) : Nat := o.after.toList.foldl (fun s e => if Region.binds .any e then s ||| 2 ^ e.on ||| bf.getD e.on 0 else s) 0

def okBf (ops : Array Oper) (bf : List Nat) : Bool :=
  (List.range ops.size).all fun j => match ops[j]? with
    | none => false
    | some o => bf.getD j 0 == bits1 bf o && o.after.toList.all fun e => !Region.binds .any e || decide (e.on < j)

theorem fold_bits (bf : List Nat) (i : Nat) : ∀ (l : List Edge) (s : Nat), (l.foldl (fun s e => if Region.binds .any e then s ||| 2 ^ e.on ||| bf.getD e.on 0 else s) s).testBit i = true →
    s.testBit i = true ∨ ∃ e ∈ l, Region.binds .any e = true ∧ (e.on = i ∨ (bf.getD e.on 0).testBit i = true) := by
  intro l
  induction l with
  | nil => intro s h; exact .inl h
  | cons e l ih =>
    intro s h
    rw [List.foldl_cons] at h
    rcases ih _ h with h | ⟨e', he', h1, h2⟩
    · by_cases hb : Region.binds .any e = true
      · rw [if_pos hb, Nat.testBit_or, Nat.testBit_or, Bool.or_eq_true, Bool.or_eq_true] at h
        rcases h with (h | h) | h
        · exact .inl h
        · refine .inr ⟨e, by simp, hb, .inl ?_⟩
          rw [Nat.testBit_two_pow] at h
          simpa using h
        · exact .inr ⟨e, by simp, hb, .inr h⟩
      · rw [if_neg hb] at h; exact .inl h
    · exact .inr ⟨e', by simp [he'], h1, h2⟩

theorem okBf_spec {ops : Array Oper} {bf : List Nat} (h : okBf ops bf = true) {j : Nat} {o : Oper} (ho : ops[j]? = some o) :
    (∀ i, (bf.getD j 0).testBit i = true → ∃ e ∈ o.after.toList, Region.binds .any e = true ∧ (e.on = i ∨ (bf.getD e.on 0).testBit i = true)) ∧ ∀ e ∈ o.after.toList, Region.binds .any e = true → e.on < j := by
  have hj : j < ops.size := (Array.getElem?_eq_some_iff.1 ho).1
  simp only [okBf, List.all_eq_true, List.mem_range] at h
  have := h j hj
  rw [ho] at this
  simp only [Bool.and_eq_true, beq_iff_eq, List.all_eq_true] at this
  obtain ⟨h1, h2⟩ := this
  constructor
  · intro i hi
    rw [h1] at hi
    rcases fold_bits bf i _ 0 hi with h | h
    · simp at h
    · exact h
  · intro e he hb
    have := h2 e he
    simpa [hb] using this

section
variable {P : Program} {E : Env} {ops : Array Oper} {sops : List SOp} {bf : List Nat} {Q : Exit → Act → World → Prop}

theorem SR.al_congr {al al' : Nat → Prop} {tf : Nat → AV} {hf : Nat → Option AObj} {a : Act} {w : World} (h : SR E al tf hf a w) (he : ∀ n, al n ↔ al' n) : SR E al' tf hf a w := by
  obtain ⟨C, h1, h2⟩ := h
  exact ⟨C, fun n => (h1 n).trans (he n), h2⟩

theorem SR.drew {al : Nat → Prop} {tf : Nat → AV} {hf : Nat → Option AObj} {a : Act} {w : World} (h : SR E al tf hf a w) : SR E al tf hf a w.drew := by
  obtain ⟨C, h1, h2, h3, h4, h5⟩ := h
  exact ⟨C, h1, h2.world fun _ _ => rfl, h3, ⟨h4.1.trans (Wf.drew _ _), h4.2⟩, h5⟩

theorem bits_listed (hbf : okBf ops bf = true) (L : Nat → Prop) (hcl : ∀ (j : Nat) (o : Oper), ops[j]? = some o → L j → ∀ e ∈ o.after.toList, Region.binds .any e = true → L e.on) :
    ∀ (j : Nat) (o : Oper), ops[j]? = some o → (∀ e ∈ o.after.toList, Region.binds .any e = true → L e.on) → ∀ i, (bf.getD j 0).testBit i = true → L i := by
  intro j
  induction j using Nat.strongRecOn with
  | _ j ih =>
    intro o ho haft i hi
    obtain ⟨h1, h2⟩ := okBf_spec hbf ho
    obtain ⟨e, he, hb, hc⟩ := h1 i hi
    have hLe := haft e he hb
    rcases hc with rfl | hc
    · exact hLe
    · have hlt := h2 e he hb
      have hj : j < ops.size := (Array.getElem?_eq_some_iff.1 ho).1
      have hoe : ops[e.on]? = some ops[e.on] := by simp [show e.on < ops.size by omega]
      exact ih e.on hlt _ hoe (hcl _ _ hoe hLe) i hc

theorem wpAny_run (hwr : ∀ b, E.w0.heap.size ≤ b → E.wr b) (hlen : sops.length = ops.size) (hok : ∀ (k : Nat) (o : Oper) (so : SOp), ops[k]? = some o → sops[k]? = some so → OpC P E.nt ops o so) (hbf : okBf ops bf = true) {nx : Nat} {al : Nat → Prop} (hal : ∀ k, k < ops.size → ¬ al (nx + k))
    {tf2 : Nat → AV} {hf2 : Nat → Option AObj} (hQ : ∀ a' w', SR E (fun n => al n ∨ ∃ k, k < ops.size ∧ n = nx + k) tf2 hf2 a' w' → Q .normal a' w') :
    ∀ (fuel : Nat) (listed : Array Bool) (R : List Nat) (tf : Nat → AV) (hf : Nat → Option AObj) (tr : List (List Nat × List Nat)) (a : Act) (w : World),
      listed.size = ops.size → R.Pairwise (· < ·) → (∀ k, k ∈ R ↔ k < ops.size ∧ listed.getD k true = false) → fuel = R.length →
      (∀ (j : Nat) (o : Oper), ops[j]? = some o → listed.getD j true = true → ∀ e ∈ o.after.toList, Region.binds .any e = true → listed.getD e.on true = true) →
      FRun P nx sops R tf hf tf2 hf2 tr → IndL bf sops R tr → SR E (fun n => al n ∨ ∃ k, k < ops.size ∧ listed.getD k true = true ∧ n = nx + k) tf hf a w → wpAny P .any ops Q fuel listed a w := by
  have hready : ∀ (listed : Array Bool) (i : Nat), i ∈ Region.ready .any ops listed ↔ i < ops.size ∧ listed.getD i true = false ∧ ∀ o, ops[i]? = some o → ∀ e ∈ o.after.toList, Region.binds .any e = true → listed.getD e.on false = true := by
    intro listed i
    simp only [Region.ready, List.mem_filter, List.mem_range, Bool.and_eq_true, Bool.not_eq_true']
    constructor
    · rintro ⟨h1, h2, h3⟩
      refine ⟨h1, h2, fun o ho e he hb => ?_⟩
      rw [ho] at h3
      simp only [Option.map_some, Option.getD_some, Array.all_eq_true'] at h3
      have := h3 e (by simpa using he)
      simpa [hb] using this
    · rintro ⟨h1, h2, h3⟩
      refine ⟨h1, h2, ?_⟩
      have ho : ops[i]? = some ops[i] := by simp [h1]
      rw [ho]
      simp only [Option.map_some, Option.getD_some, Array.all_eq_true']
      intro e he
      by_cases hb : Region.binds .any e = true
      · simp [h3 _ ho e (by simpa using he) hb]
      · simp [hb]
  have hgd : ∀ (listed : Array Bool), listed.size = ops.size → ∀ k, k < ops.size → listed.getD k true = listed.getD k false := by
    intro listed hs k hk
    simp [Array.getD_eq_getD_getElem?, show k < listed.size by omega]
  intro fuel
  induction fuel with
  | zero =>
    intro listed R tf hf tr a w hsz hpw hR hfu hcl hrun hind hsr
    have hnil : R = [] := List.eq_nil_of_length_eq_zero hfu.symm
    subst hnil
    cases hrun
    refine ⟨?_, hQ _ _ (hsr.al_congr fun n => ?_)⟩
    · apply List.eq_nil_iff_forall_not_mem.2
      intro i hi
      obtain ⟨h1, h2, -⟩ := (hready listed i).1 hi
      have := (hR i).2 ⟨h1, h2⟩
      simp at this
    · constructor
      · rintro (h | ⟨k, h1, h2, h3⟩)
        · exact .inl h
        · exact .inr ⟨k, h1, h3⟩
      · rintro (h | ⟨k, h1, h3⟩)
        · exact .inl h
        · refine .inr ⟨k, h1, ?_, h3⟩
          cases hl : listed.getD k true with
          | true => rfl
          | false => have := (hR k).2 ⟨h1, hl⟩; simp at this
  | succ fuel ih =>
    intro listed R tf hf tr a w hsz hpw hR hfu hcl hrun hind hsr
    constructor
    · intro hno
      exfalso
      cases R with
      | nil => simp at hfu
      | cons i0 R0 =>
        obtain ⟨hp1, hp2⟩ := List.pairwise_cons.1 hpw
        obtain ⟨hi1, hi2⟩ := (hR i0).1 (by simp)
        have hi0 : i0 ∈ Region.ready .any ops listed := by
          refine (hready listed i0).2 ⟨hi1, hi2, fun o ho e he hb => ?_⟩
          have hlt := (okBf_spec hbf ho).2 e he hb
          have hes : e.on < ops.size := by omega
          rw [← hgd listed hsz _ hes]
          cases hl : listed.getD e.on true with
          | true => rfl
          | false =>
            have := (hR e.on).2 ⟨hes, hl⟩
            rcases List.mem_cons.1 this with h | h
            · omega
            · have := hp1 _ h; omega
        rw [hno] at hi0; simp at hi0
    · intro i hi
      obtain ⟨hi1, hi2, hi3⟩ := (hready listed i).1 hi
      have hiR : i ∈ R := (hR i).2 ⟨hi1, hi2⟩
      have ho : ops[i]? = some ops[i] := by simp [hi1]
      have haft : ∀ e ∈ (ops[i]).after.toList, Region.binds .any e = true → listed.getD e.on true = true := by
        intro e he hb
        have hlt := (okBf_spec hbf ho).2 e he hb
        rw [hgd listed hsz _ (by omega)]
        exact hi3 _ ho e he hb
      have hnobit : ∀ b ∈ R, b ≠ i → (bf.getD i 0).testBit b = false := by
        intro b hb _
        cases ht : (bf.getD i 0).testBit b with
        | false => rfl
        | true =>
          have := bits_listed hbf (fun k => listed.getD k true = true) hcl i _ ho haft b ht
          have h2 := ((hR b).1 hb).2
          rw [this] at h2; cases h2
      have hnd : R.Nodup := hpw.imp (fun h => Nat.ne_of_lt h)
      obtain ⟨so, tf1, hf1, rs, ws, tr', g1, g2, g3, g4, -, -⟩ := hrun.front hind hnd hiR hnobit
      have hnm : ¬ (al (nx + i) ∨ ∃ k, k < ops.size ∧ listed.getD k true = true ∧ nx + i = nx + k) := by
        rintro (h | ⟨k, -, h2, h3⟩)
        · exact hal i hi1 h
        · have : k = i := by omega
          subst this; rw [hi2] at h2; cases h2
      have hset : ∀ k, (listed.setIfInBounds i true).getD k true = if k = i then true else listed.getD k true := by
        intro k
        by_cases e : k = i
        · subst e; simp [Array.getD_eq_getD_getElem?, show k < listed.size by omega]
        · rw [if_neg e]
          simp [Array.getD_eq_getD_getElem?, Array.getElem?_setIfInBounds_ne (Ne.symm e)]
      unfold wpOp
      rw [ho]
      refine step_sim (hok i _ so ho g1) hwr g2 hsr hnm fun a' w' hsr' => ?_
      refine ih (listed.setIfInBounds i true) (R.erase i) tf1 hf1 tr' a' w' (by simpa using hsz) (hpw.sublist (List.erase_sublist)) ?_ ?_ ?_ g3 g4 (hsr'.al_congr fun n => ?_)
      · intro k
        rw [hnd.mem_erase_iff, hR, hset]
        by_cases e : k = i
        · subst e; simp
        · simp [e]
      · rw [List.length_erase_of_mem hiR]; omega
      · intro j o' hj hlj e he hb
        rw [hset] at hlj ⊢
        by_cases ee : e.on = i
        · rw [if_pos ee]
        · rw [if_neg ee]
          by_cases ej : j = i
          · subst ej
            rw [ho] at hj; injection hj with hj; subst hj
            exact haft e he hb
          · rw [if_neg ej] at hlj
            exact hcl j o' hj hlj e he hb
      · constructor
        · rintro ((h | ⟨k, h1, h2, h3⟩) | rfl)
          · exact .inl h
          · refine .inr ⟨k, h1, ?_, h3⟩
            rw [hset]; split <;> simp [h2]
          · exact .inr ⟨i, hi1, by rw [hset]; simp, rfl⟩
        · rintro (h | ⟨k, h1, h2, h3⟩)
          · exact .inl (.inl h)
          · rw [hset] at h2
            by_cases e : k = i
            · subst e; exact .inr h3
            · rw [if_neg e] at h2; exact .inl (.inr ⟨k, h1, h2, h3⟩)

/-- A region that draws its order. -/
theorem wp_reg_draw (hm : P.follows .mixedOrders = true) (hwr : ∀ b, E.w0.heap.size ≤ b → E.wr b) (hlen : sops.length = ops.size) (hok : ∀ (k : Nat) (o : Oper) (so : SOp), ops[k]? = some o → sops[k]? = some so → OpC P E.nt ops o so) (hbf : okBf ops bf = true) {nx id : Nat} {al : Nat → Prop} (hal : ∀ k, k < ops.size → ¬ al (nx + k))
    {tf tf2 : Nat → AV} {hf hf2 : Nat → Option AObj} {tr : List (List Nat × List Nat)} {a : Act} {w : World} (hrun : FRun P nx sops (List.range ops.size) tf hf tf2 hf2 tr) (hind : IndL bf sops (List.range ops.size) tr) (hsr : SR E al tf hf a w)
    (hQ : ∀ a' w', SR E (fun n => al n ∨ ∃ k, k < ops.size ∧ n = nx + k) tf2 hf2 a' w' → Q .normal a' w') : (Code.region id ops true).wp P Q a w := by
  refine wp_region_any hm ?_
  have hrep : ∀ k, k < ops.size → (Array.replicate ops.size false).getD k true = false := by
    intro k hk; simp [Array.getD_eq_getD_getElem?, hk]
  refine wpAny_run hwr hlen hok hbf hal hQ ops.size _ (List.range ops.size) tf hf tr a _ (by simp) List.pairwise_lt_range ?_ (by simp) ?_ hrun hind ?_
  · intro k
    rw [List.mem_range]
    exact ⟨fun h => ⟨h, hrep k h⟩, fun h => h.1⟩
  · intro j o ho hl
    have hj : j < ops.size := (Array.getElem?_eq_some_iff.1 ho).1
    rw [hrep j hj] at hl; cases hl
  · refine hsr.drew.al_congr fun n => ⟨.inl, ?_⟩
    rintro (h | ⟨k, h1, h2, -⟩)
    · exact h
    · rw [hrep k h1] at h2; cases h2

/-- A region in the order of the text. -/
theorem wp_ops_text (hwr : ∀ b, E.w0.heap.size ≤ b → E.wr b) (hok : ∀ (k : Nat) (o : Oper) (so : SOp), ops[k]? = some o → sops[k]? = some so → OpC P E.nt ops o so) {nx : Nat} :
    ∀ {R : List Nat} {tf tf2 : Nat → AV} {hf hf2 : Nat → Option AObj} {tr : List (List Nat × List Nat)}, FRun P nx sops R tf hf tf2 hf2 tr → ∀ {al : Nat → Prop} {a : Act} {w : World}, (∀ k ∈ R, k < ops.size) → R.Nodup → (∀ k ∈ R, ¬ al (nx + k)) → SR E al tf hf a w →
    (∀ a' w', SR E (fun n => al n ∨ ∃ k ∈ R, n = nx + k) tf2 hf2 a' w' → Q .normal a' w') → wpOps P ops Q R a w := by
  intro R tf tf2 hf hf2 tr hrun
  induction hrun with
  | nil => intro al a w _ _ _ hsr hQ; exact hQ a w (hsr.al_congr fun n => ⟨.inl, fun h => by rcases h with h | ⟨k, hk, -⟩; exact h; simp at hk⟩)
  | cons hs h r ih =>
    rename_i k R so tf tf1 tf2 hf hf1 hf2 rs ws tr
    intro al a w hlt hnd hal hsr hQ
    obtain ⟨hnk, hnd'⟩ := List.nodup_cons.1 hnd
    rw [wpOps_cons]
    unfold wpOp
    have hk : k < ops.size := hlt k (by simp)
    have ho : ops[k]? = some ops[k] := by simp [hk]
    rw [ho]
    refine step_sim (hok k _ so ho hs) hwr h hsr (hal k (by simp)) fun a' w' hsr' => ?_
    refine ih (fun j hj => hlt j (by simp [hj])) hnd' (fun j hj => ?_) hsr' fun a'' w'' h2 => hQ a'' w'' (h2.al_congr fun n => ?_)
    · rintro (h | h)
      · exact hal j (by simp [hj]) h
      · have : j = k := by omega
        subst this; exact hnk hj
    · constructor
      · rintro ((h | rfl) | ⟨j, hj, rfl⟩)
        · exact .inl h
        · exact .inr ⟨k, by simp, rfl⟩
        · exact .inr ⟨j, by simp [hj], rfl⟩
      · rintro (h | ⟨j, hj, rfl⟩)
        · exact .inl (.inl h)
        · rcases List.mem_cons.1 hj with rfl | hj
          · exact .inl (.inr rfl)
          · exact .inr ⟨j, hj, rfl⟩

end
end Go.Dom
