/-
  PresentationContexts: for every question and presentation, the law's function returns true, and both read afterwards as before. No further condition.
-/
import Derived.Test.YtjigfdhjmfcbpaaRows
import Derived.Test.YtjigfdhjmfcbpaaW18
import Derived.Test.YtjigfdhjmfcbpaaW19
import Derived.ProofKit
import Derived.ChangeSame
set_option linter.all false
namespace Go.Proofs.Ytjigfdhjmfcbpaa
open Go Go.Dom Go.ChangeShapes Go.WideShapes Go.ChangeAt Go.RowKit
set_option maxRecDepth 100000

theorem ownK : ownKnob Try.prog.godebug = none := by kernel_rfl
theorem laidK : laidOutB Try.prog = true := by kernel_rfl
theorem uBool : Try.prog.underlying 4 = some .bool := by kernel_rfl

section
variable {H : Type} {enc : TypeId × Value → H} {P : Program}
/-- The last step, where nothing that was there has turned. -/
theorem postBelow {f : Func} {s : ChangeSpec} {apart fresh handsOn again : Bool} {W W' : World} {args : Array Value} {v : Value} {ds gs : List (DataW H)} {before pa pv : List MemPlace}
    (hW : DataW.Whole enc P f.params.toList s.vars apart W args.toList ds gs before)
    (hres : ∀ (b : Nat) (sp : Nat → Bool) (hd : Bool), DataW.TrodAll enc P W' b sp hd f.resultTypes.toList (v.resultList f.resultTypes.size) (s.fn H (ds ++ gs)).results [])
    (hargs : ∀ sp : Nat → Bool, (∀ p ∈ before, sp p.block = true) → DataW.TrodAll enc P W' 0 sp true f.params.toList args.toList (s.fn H (ds ++ gs)).args pa)
    (hvars : ∀ sp : Nat → Bool, (∀ p ∈ before, sp p.block = true) → DataW.TrodVars enc P W' sp s.vars (s.fn H (ds ++ gs)).vars pv)
    (hps : before = pa ++ pv) (hb : Below W.heap.size W W')
    (hok : ∀ (j : Nat) (t : TypeId) (r : Value), f.resultTypes[j]? = some t → (v.resultList f.resultTypes.size)[j]? = some r → Value.okWide P W' .any 0 t r) :
    s.post enc P f apart fresh handsOn again W args v W' := by
  have hlt : ∀ p ∈ before, p.block < W.heap.size := fun p hp => hW.lt p hp
  have hold : ∀ p ∈ before, (fun b => decide (b < W.heap.size)) p.block = true := fun p hp => by simpa using hlt p hp
  refine ⟨ds, gs, before, [], pa, pv, hW, hres _ _ _, hargs _ hold, hvars _ hold, World.keptBut_mono (fun p hp => ⟨hp, ?_⟩) (hb.frame (· ∈ before)), fun _ => ?_⟩
  · rw [hps, List.mem_append] at hp
    exact Or.inr hp
  · obtain ⟨_, _, _, _, _, hz, hn⟩ := hW
    refine ⟨hok, _, _, ([] ++ pa) ++ pv, ⟨[] ++ pa, pv, trodAll_append (hargs _ (fun _ _ => rfl)) (hres _ _ _), hvars _ (fun _ _ => rfl), rfl, ?_, ?_⟩, ?_⟩
    · intro b off hp
      have hin : MemPlace.cell b off ∈ before := by rw [hps]; simpa using hp
      rw [hb.frozen (hlt _ hin)]
      exact hz b off hin
    · intro ha
      have := hn ha
      rw [hps] at this
      simpa using this
    · intro p hp _
      rw [hps]
      simpa using hp
end

theorem contexts_lifted (os : Os) (started : os.Started) (H : Type) (enc : TypeId × Value → H) :
    ReturnsInHanded {} Try.checked os 3 .any (Rows.presentationContextsSpec.pre6 enc Try.prog Try.f3 Rows.presentationContextsRow.domain false) (Rows.presentationContextsSpec.post enc Try.prog Try.f3 false true false false) := by
  refine returnsInHanded_of_change_sized (C := Try.checked) ownK started (by kernel_rfl) Try.func3
    (ChangeSpec.witness6 (enc := enc) (C := Try.checked) false ⟨#[], #[.agg #[.string ⟨#[]⟩, .string ⟨#[]⟩, .string ⟨#[]⟩, .int .i64 0, .int .i64 0], .agg #[.slice none 0 0, .slice none 0 0, .slice none 0 0, .slice none 0 0, .string ⟨#[]⟩, .string ⟨#[]⟩, .string ⟨#[]⟩, .slice none 0 0, .string ⟨#[]⟩, .string ⟨#[]⟩, .string ⟨#[]⟩, .slice none 0 0, .slice none 0 0, .slice none 0 0]], []⟩ 8 (by kernel_rfl) (by kernel_rfl) (by kernel_rfl) (by kernel_rfl)) ?_
  intro W base args ds gs before hval0 hW hcnd hwt _
  have hval : ∀ (j : Nat) t v, Try.f3.params[j]? = some t → args[j]? = some v → Value.okWide Try.prog W .any base t v := hval0
  have hW' := hW
  obtain ⟨p, q, hA0, hV, rfl, hfz, hnd⟩ := hW
  have hA : DataW.TrodAll enc Try.prog W 0 (fun _ => true) true Try.f3.params.toList args.toList ds p := hA0
  have hlt : ∀ x ∈ p ++ q, x.block < W.heap.size := fun x hx => hW'.lt x hx
  rw [Try.params3] at hA hval
  obtain ⟨v0, v1, d0, d1, p0, p1, rfl, rfl, rfl, h0, h1⟩ := trodAll_two hA
  obtain ⟨rfl, rfl⟩ := trodVars_none hV
  have hv0 := hval 0 23 v0 rfl rfl
  have hv1 := hval 1 35 v1 rfl rfl
  unfold Value.okWide at hv0 hv1
  rw [Try.underlying23] at hv0
  rw [Try.underlying35] at hv1
  simp only at hv0 hv1
  obtain ⟨c0, rfl, s0, -⟩ := hv0
  obtain ⟨c1, rfl, s1, -⟩ := hv1
  have hall := List.all_eq_true.1 hwt
  have w0 : ∀ m ∈ d0.weights Try.prog 23, m ≤ reachBytes := fun m hm => of_decide_eq_true (hall m (DataW.weights_mem_each (j := 0) rfl rfl m hm))
  have w1 : ∀ m ∈ d1.weights Try.prog 35, m ≤ reachBytes := fun m hm => of_decide_eq_true (hall m (DataW.weights_mem_each (j := 1) rfl rfl m hm))
  obtain ⟨n0, t0⟩ := id h0
  obtain ⟨n1, t1⟩ := id h1
  obtain ⟨pv0, r0, o0, y0⟩ := trod_pv 9 n0 _ c0.toList d0 p0 okQ t0 w0
  obtain ⟨pv1, r1, o1, y1⟩ := trod_pv 9 n1 _ c1.toList d1 p1 okX t1 w1
  have hl1 : pv1.length = 14 := by
    rw [r1.1, Array.length_toList, s1]
    kernel_rfl
  obtain ⟨qq, eq, e1, e2, e3, e4⟩ := typQ y0
  obtain ⟨xx, ex, f1, f2, f3⟩ := typX hl1 o1 y1
  have rb := reachBytes_lt
  obtain ⟨g, hg, hc⟩ := law_ok qq xx e1 e2 ⟨by omega, by omega⟩ f1 (fun s hs => (f2 s hs).1) (by omega) (fun s hs => by have := (f2 s hs).2; omega)
  have hg3 : g = 3 := by
    have a1 := hg #[] W
    have a2 := Try.call3 #[] W
    rw [a1] at a2
    injection a2 with a2 _
    injection a2
  subst hg3
  have q0 : PR (rdW W) qq.pv (.agg c0) := by
    rw [← eq]
    have := PR.agg (rd := rdW W) pv0 c0.toList o0 r0.1 r0.2
    simpa using this
  have q1 : PR (rdW W) xx.pv (.agg c1) := by
    rw [← ex]
    have := PR.agg (rd := rdW W) pv1 c1.toList o1 r1.1 r1.2
    simpa using this
  refine (hc W (rdW W) [.agg c0, .agg c1] (fun _ _ _ h => h) (.cons q0 (.cons q1 .nil))).mono ?_
  rintro e W' ⟨v, rfl, hb, hpr⟩
  cases hpr
  refine ⟨_, rfl, postBelow (pa := p0 ++ p1) (pv := []) hW' (fun _ _ _ => trodAll_mk1 (shut_bool uBool true)) (fun sp hsp => trodAll_mk2 (WideElems.Trod_stays laidK (by kernel_rfl) (of_decide_eq_true (by kernel_rfl)) h0 (fun x hx => hb.same (hlt x (by simp [hx]))) (fun x hx => hsp x (by simp [hx]))) (WideElems.Trod_stays laidK (by kernel_rfl) (of_decide_eq_true (by kernel_rfl)) h1 (fun x hx => hb.same (hlt x (by simp [hx]))) (fun x hx => hsp x (by simp [hx])))) (fun _ _ => rfl) rfl hb (ok_one (by kernel_rfl) rfl (okWide_bool_mk uBool true))⟩

theorem contexts_holds : Rows.PresentationContextsSaid :=
  OpenClaim.holds_of_wide 3 Try.f3 rfl rfl rfl rfl rfl rfl rfl ⟨rfl, rfl, rfl, rfl, rfl⟩ rfl rfl rfl rfl rfl (by kernel_rfl) Try.func3 (by kernel_rfl)
    (of_decide_eq_true (by kernel_rfl)) (by unfold Func.isWrapper; rw [if_neg (of_decide_eq_false (by kernel_rfl))]; exact ⟨rfl, rfl⟩)
    (fun os started H enc _ => contexts_lifted os started H enc)
end Go.Proofs.Ytjigfdhjmfcbpaa
