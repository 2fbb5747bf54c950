/-
  IssuerkeyOrders: for all parameters, keys and trapdoors the law's function returns true, and all of them read afterwards as before; the tables that the library reads are tied to the program's text. No further condition.
-/
import Derived.Test.YtpihmkhmhkopdaaGreatDoorV25
set_option linter.all false
namespace Go.Proofs.YtpihmkhmhkopdaaGreatDoor
open Go Go.Dom Go.ChangeShapes Go.WideShapes Go.ChangeAt Go.RowKit
set_option maxRecDepth 100000

theorem orders_lifted (os : Os) (started : os.Started) (H : Type) (enc : TypeId × Value → H) :
    ReturnsInHanded {} Tryz.checked os 3 .any (fun w args => (Rows.issuerkeyOrdersSpec.pre enc Tryz.prog Tryz.f3 [] false w args ∧ laidMetH Tryz.prog laidL w) ∧ sizedMet enc Tryz.prog Tryz.f3 (OpenSpec.ofChange Rows.issuerkeyOrdersSpec) false w args)
      (Rows.issuerkeyOrdersSpec.post enc Tryz.prog Tryz.f3 false true false false) := by
  refine returnsInHanded_of_change_and (C := Tryz.checked) (X := fun w _ => laidMetH Tryz.prog laidL w) (fun _ _ _ hh h => h.of_heap hh) ownK started (by kernel_rfl) Tryz.func3
    (ChangeSpec.witness_shaped (enc := enc) (C := Tryz.checked) (os := os) (X := fun w _ => laidMetH Tryz.prog laidL w) false (World.laidAll Tryz.prog os laidL) #[.agg (Array.replicate 17 (.string ⟨#[]⟩)), .agg #[.string ⟨#[]⟩, .string ⟨#[]⟩, .string ⟨#[]⟩, .string ⟨#[]⟩, .string ⟨#[]⟩, .slice none 0 0, .string ⟨#[]⟩, .string ⟨#[]⟩], .agg #[.string ⟨#[]⟩, .string ⟨#[]⟩]] 8 (World.laidAll_os _ _ _)
      (World.shaped_of_ZipB (by kernel_rfl) (by kernel_rfl)) (by kernel_rfl) (by kernel_rfl) (by kernel_rfl)
      (by rw [MakeChecks.laidMetH_plain _ _ _ (by kernel_rfl)]; exact laidMet_laidAll _ (by kernel_rfl) (by kernel_rfl))) ?_
  intro W base args ds gs before hval0 hW hcnd hwt hL _
  rw [MakeChecks.laidMetH_plain _ _ _ (by kernel_rfl)] at hL
  have hval : ∀ (j : Nat) t v, Tryz.f3.params[j]? = some t → args[j]? = some v → Value.okWide Tryz.prog W .any base t v := hval0
  have hW' := hW
  obtain ⟨p, q, hA0, hV, rfl, hfz, hnd⟩ := hW
  have hA : DataW.TrodAll enc Tryz.prog W 0 (fun _ => true) true Tryz.f3.params.toList args.toList ds p := hA0
  have hlt : ∀ x ∈ p ++ q, x.block < W.heap.size := fun x hx => hW'.lt x hx
  rw [Tryz.params3] at hA hval
  obtain ⟨v0, v1, v2, d0, d1, d2, p0, p1, p2, rfl, rfl, rfl, h0, h1, h2⟩ := trodAll_three hA
  obtain ⟨rfl, rfl⟩ := trodVars_none hV
  have hv0 := hval 0 30 v0 rfl rfl
  have hv1 := hval 1 33 v1 rfl rfl
  have hv2 := hval 2 35 v2 rfl rfl
  unfold Value.okWide at hv0 hv1 hv2
  rw [Tryz.underlying30] at hv0
  rw [Tryz.underlying33] at hv1
  rw [Tryz.underlying35] at hv2
  simp only at hv0 hv1 hv2
  obtain ⟨c0, rfl, s0, -⟩ := hv0
  obtain ⟨c1, rfl, s1, -⟩ := hv1
  obtain ⟨c2, rfl, s2, -⟩ := hv2
  have hall := List.all_eq_true.1 hwt
  have w0 : ∀ m ∈ d0.weights Tryz.prog 30, m ≤ reachBytes := fun m hm => of_decide_eq_true (hall m (DataW.weights_mem_each (j := 0) rfl rfl m hm))
  have w1 : ∀ m ∈ d1.weights Tryz.prog 33, m ≤ reachBytes := fun m hm => of_decide_eq_true (hall m (DataW.weights_mem_each (j := 1) rfl rfl m hm))
  have w2 : ∀ m ∈ d2.weights Tryz.prog 35, m ≤ reachBytes := fun m hm => of_decide_eq_true (hall m (DataW.weights_mem_each (j := 2) rfl rfl m hm))
  obtain ⟨n0, t0⟩ := id h0
  obtain ⟨n1, t1⟩ := id h1
  obtain ⟨n2, t2⟩ := id h2
  obtain ⟨pv0, r0, o0, y0⟩ := trod_pv 9 n0 _ c0.toList d0 p0 okPa t0 w0
  obtain ⟨pv1, r1, o1, y1⟩ := trod_pv 9 n1 _ c1.toList d1 p1 okKe t1 w1
  obtain ⟨pv2, r2, o2, y2⟩ := trod_pv 9 n2 _ c2.toList d2 p2 okTr t2 w2
  obtain ⟨pa, ea⟩ := typPa y0
  obtain ⟨ke, ek, hk⟩ := typKe y1
  obtain ⟨tp, tq, et⟩ := typTr y2
  have rb := reachBytes_lt
  obtain ⟨g, hg, hc⟩ := law_ok pa ke tp tq (by omega)
  have hg3 : g = 3 := by
    have a1 := hg #[] W
    have a2 := Tryz.call3 #[] W
    rw [a1] at a2
    injection a2 with a2 _
    injection a2
  subst hg3
  have q0 : PR (rdW W) pa.pv (.agg c0) := by
    rw [← ea]
    have := PR.agg (rd := rdW W) pv0 c0.toList o0 r0.1 r0.2
    simpa using this
  have q1 : PR (rdW W) ke.pv (.agg c1) := by
    rw [← ek]
    have := PR.agg (rd := rdW W) pv1 c1.toList o1 r1.1 r1.2
    simpa using this
  have q2 : PR (rdW W) (G tp tq) (.agg c2) := by
    rw [show G tp tq = .agg pv2 by rw [et]]
    have := PR.agg (rd := rdW W) pv2 c2.toList o2 r2.1 r2.2
    simpa using this
  refine (hc W (rdW W) [.agg c0, .agg c1, .agg c2] (tabs_read hL) (fun _ _ _ h => h) (.cons q0 (.cons q1 (.cons q2 .nil)))).mono ?_
  rintro e W' ⟨v, rfl, hb, hpr⟩
  cases hpr
  refine ⟨_, rfl, postBelow (pa := p0 ++ (p1 ++ p2)) (pv := []) hW' (fun _ _ _ => trodAll_mk1 (shut_bool uBool true)) (fun sp hsp => trodAll_mk3 (WideElems.Trod_stays laidK (by kernel_rfl) (of_decide_eq_true (by kernel_rfl)) h0 (fun x hx => hb.same (hlt x (by simp [hx]))) (fun x hx => hsp x (by simp [hx]))) (WideElems.Trod_stays laidK (by kernel_rfl) (of_decide_eq_true (by kernel_rfl)) h1 (fun x hx => hb.same (hlt x (by simp [hx]))) (fun x hx => hsp x (by simp [hx]))) (WideElems.Trod_stays laidK (by kernel_rfl) (of_decide_eq_true (by kernel_rfl)) h2 (fun x hx => hb.same (hlt x (by simp [hx]))) (fun x hx => hsp x (by simp [hx])))) (fun _ _ => rfl) (by simp) hb (ok_one (by kernel_rfl) rfl (okWide_bool_mk uBool true))⟩

theorem orders_row : Rows.IssuerkeyOrdersSaid :=
  OpenClaim.holds_of_wide 3 Tryz.f3 rfl rfl rfl rfl rfl rfl rfl ⟨rfl, rfl, rfl, rfl, rfl⟩ rfl rfl rfl rfl rfl (by kernel_rfl) Tryz.func3 (by kernel_rfl)
    (of_decide_eq_true (by kernel_rfl)) (by unfold Func.isWrapper; rw [if_neg (of_decide_eq_false (by kernel_rfl))]; exact ⟨rfl, rfl⟩)
    (fun os started H enc _ => orders_lifted os started H enc)
theorem orders_holds : Rows.IssuerkeyOrdersCardSaid :=
  Claim7.holds_tied_plain_at .later [] [.data, .data, .data] true (true, "3de016c2f7a0b77aaed38ce689301deb349f6b7e04186598feb254b2b1ac2f11") false
    orders_row (fun _ h => by cases h) (by kernel_rfl) (fun _ h => by cases h) issuerkeyOrders_row_tie rfl ⟨rfl, rfl⟩ (by kernel_rfl) rfl
    (fun f fn hf hfn => by
      obtain rfl : f = 3 := Option.some.inj ((show Tryz.prog.funcNamed "domino/dominolaw29.IssuerkeyOrders" = some 3 by kernel_rfl).symm.trans hf) |>.symm
      obtain rfl : fn = Tryz.f3 := (Option.some.inj (Tryz.func3.symm.trans hfn)).symm
      exact ⟨by kernel_rfl, fun j t ht => by
        rw [Tryz.params3] at ht
        have hm : t ∈ [30, 33, 35] := by simpa using Array.mem_of_getElem? ht
        have hall : ([30, 33, 35].all fun u => !Tryz.prog.wantsStandIn u) = true := by kernel_rfl
        exact (show Tryz.prog.wantsStandIn t = false by simpa using List.all_eq_true.1 hall t hm)⟩)
    (by kernel_rfl)
#print axioms orders_holds
end Go.Proofs.YtpihmkhmhkopdaaGreatDoor
