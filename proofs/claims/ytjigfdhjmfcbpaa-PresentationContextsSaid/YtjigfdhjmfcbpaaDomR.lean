/-
  WHAT A STEP LOOKS AT; steps that have nothing to do with one another may be exchanged. Own work; generic over the program.
-/
import Derived.Test.YtjigfdhjmfcbpaaDomQ
set_option linter.all false
namespace Go.Dom
open Go.RowKit

def SX.ts : SX → List Nat
  | .t n => [n]
  | .c _ => []

def SX.tsO : Option SX → List Nat
  | none => []
  | some x => x.ts

/-- The slots that an operation reads. -/
def SO.ts : SO → List Nat
  | .mov x | .box x | .ld _ _ x | .un _ x | .cvi _ x | .cvs x | .b2s x | .s2b x | .fad _ x | .fld _ _ _ x | .ext x _ | .len x | .lenS x | .nck x | .mki _ x | .cvp _ x | .sld x => x.ts
  | .pick c a b => c.ts ++ a.ts ++ b.ts
  | .alloc _ _ | .lenA _ | .stop => []
  | .build _ ps => ps.flatMap fun p => p.2.2.ts
  | .bsl _ ps => ps.flatMap SX.ts
  | .st _ x y | .bin _ x y | .beq _ x y | .mks _ _ x y | .ixs _ x y | .ixa _ _ x y | .ixS x y | .ixV _ _ _ x y | .mm _ x y | .app _ _ _ x y | .cpy _ x y | .peq _ x y | .ust _ x y => x.ts ++ y.ts
  | .slS x lo hi => x.ts ++ SX.tsO lo ++ SX.tsO hi
  | .slL _ x lo hi mx => x.ts ++ SX.tsO lo ++ SX.tsO hi ++ SX.tsO mx
  | .slA _ _ x lo hi mx => x.ts ++ SX.tsO lo ++ SX.tsO hi ++ SX.tsO mx
  | .call f args => f.ts ++ args.flatMap SX.ts
  | .mkf _ a c => a.flatMap SX.ts ++ c.flatMap SX.ts

section
variable {P : Program} {tf tf' : Nat → AV} {hf hf' : Nat → Option AObj}

theorem ev_congr {x : SX} (h : ∀ t ∈ x.ts, tf t = tf' t) : x.ev tf = x.ev tf' := by
  cases x with
  | t n => exact h n (by simp [SX.ts])
  | c v => rfl

theorem evO_congr {x : Option SX} (h : ∀ t ∈ SX.tsO x, tf t = tf' t) : x.map (SX.ev tf) = x.map (SX.ev tf') := by
  cases x with
  | none => rfl
  | some x => simp only [Option.map_some, ev_congr (x := x) h]

theorem evL_congr {l : List SX} (h : ∀ t ∈ l.flatMap SX.ts, tf t = tf' t) : l.map (SX.ev tf) = l.map (SX.ev tf') := by
  apply List.map_congr_left
  intro x hx
  exact ev_congr fun t ht => h t (List.mem_flatMap.2 ⟨x, hx, ht⟩)

theorem aop_tf {nm : Nat} {o : SO} (h : ∀ t ∈ o.ts, tf t = tf' t) : aop nm o tf hf = aop nm o tf' hf := by
  cases o <;> simp only [SO.ts, List.mem_append] at h
  case mov x => simp only [aop, ev_congr (x := x) h]
  case box x => simp only [aop, ev_congr (x := x) h]
  case ld x => simp only [aop, ev_congr (x := x) h]
  case un x => simp only [aop, ev_congr (x := x) h]
  case cvi x => simp only [aop, ev_congr (x := x) h]
  case cvs x => simp only [aop, ev_congr (x := x) h]
  case b2s x => simp only [aop, ev_congr (x := x) h]
  case s2b x => rfl
  case fad x => simp only [aop, ev_congr (x := x) h]
  case fld x => simp only [aop, ev_congr (x := x) h]
  case ext x k => simp only [aop, ev_congr (x := x) h]
  case len x => simp only [aop, ev_congr (x := x) h]
  case lenS x => simp only [aop, ev_congr (x := x) h]
  case nck x => simp only [aop, ev_congr (x := x) h]
  case mki x => simp only [aop, ev_congr (x := x) h]
  case pick c a b => simp only [aop, ev_congr (x := c) fun t ht => h t (.inl (.inl ht)), ev_congr (x := a) fun t ht => h t (.inl (.inr ht)), ev_congr (x := b) fun t ht => h t (.inr ht)]
  case alloc => rfl
  case lenA => rfl
  case build z ps =>
    have e : (ps.map fun p => (p.1, p.2.1, p.2.2.ev tf)) = ps.map fun p => (p.1, p.2.1, p.2.2.ev tf') := by
      apply List.map_congr_left
      intro p hp
      rw [ev_congr (x := p.2.2) fun t ht => h t (List.mem_flatMap.2 ⟨p, hp, ht⟩)]
    simp only [aop, e]
  case bsl z ps => simp only [aop, evL_congr h]
  case st z x y => simp only [aop, ev_congr (x := x) fun t ht => h t (.inl ht), ev_congr (x := y) fun t ht => h t (.inr ht)]
  case bin op x y => simp only [aop, ev_congr (x := x) fun t ht => h t (.inl ht), ev_congr (x := y) fun t ht => h t (.inr ht)]
  case beq ng x y => simp only [aop, ev_congr (x := x) fun t ht => h t (.inl ht), ev_congr (x := y) fun t ht => h t (.inr ht)]
  case mks z b x y => simp only [aop, ev_congr (x := x) fun t ht => h t (.inl ht), ev_congr (x := y) fun t ht => h t (.inr ht)]
  case ixs z x y => simp only [aop, ev_congr (x := x) fun t ht => h t (.inl ht), ev_congr (x := y) fun t ht => h t (.inr ht)]
  case ixa n z x y => simp only [aop, ev_congr (x := x) fun t ht => h t (.inl ht), ev_congr (x := y) fun t ht => h t (.inr ht)]
  case ixS x y => simp only [aop, ev_congr (x := x) fun t ht => h t (.inl ht), ev_congr (x := y) fun t ht => h t (.inr ht)]
  case ixV ag n z x y => simp only [aop, ev_congr (x := x) fun t ht => h t (.inl ht), ev_congr (x := y) fun t ht => h t (.inr ht)]
  case mm mx x y => simp only [aop, ev_congr (x := x) fun t ht => h t (.inl ht), ev_congr (x := y) fun t ht => h t (.inr ht)]
  case app e z b x y => simp only [aop, ev_congr (x := x) fun t ht => h t (.inl ht), ev_congr (x := y) fun t ht => h t (.inr ht)]
  case peq ng x y => simp only [aop, ev_congr (x := x) fun t ht => h t (.inl ht), ev_congr (x := y) fun t ht => h t (.inr ht)]
  case ust e x y => simp only [aop, ev_congr (x := x) fun t ht => h t (.inl ht), ev_congr (x := y) fun t ht => h t (.inr ht)]
  case cvp ok x => simp only [aop, ev_congr (x := x) h]
  case sld x => simp only [aop, ev_congr (x := x) h]
  case stop => rfl
  case cpy z x y => simp only [aop, ev_congr (x := x) fun t ht => h t (.inl ht), ev_congr (x := y) fun t ht => h t (.inr ht)]
  case slS x lo hi => simp only [aop, ev_congr (x := x) fun t ht => h t (.inl (.inl ht)), evO_congr (x := lo) fun t ht => h t (.inl (.inr ht)), evO_congr (x := hi) fun t ht => h t (.inr ht)]
  case slL z x lo hi mx =>
    have em := evO_congr (x := mx) (tf := tf) (tf' := tf') fun t ht => h t (.inr ht)
    simp only [aop, ev_congr (x := x) fun t ht => h t (.inl (.inl (.inl ht))), evO_congr (x := lo) fun t ht => h t (.inl (.inl (.inr ht))), evO_congr (x := hi) fun t ht => h t (.inl (.inr ht))]
    cases mx with
    | none =>
      generalize x.ev tf' = xv
      cases xv with
      | v y => cases y <;> rfl
      | _ => rfl
    | some m =>
      simp only [Option.map_some, Option.some.injEq] at em
      generalize x.ev tf' = xv
      cases xv with
      | v y => cases y <;> first | rfl | simp only [em]
      | _ => rfl
  case slA n z x lo hi mx =>
    simp only [aop, ev_congr (x := x) fun t ht => h t (.inl (.inl (.inl ht))), evO_congr (x := lo) fun t ht => h t (.inl (.inl (.inr ht))), evO_congr (x := hi) fun t ht => h t (.inl (.inr ht))]
  case call f args => rfl
  case mkf f a c =>
    have e1 := evL_congr (l := a) (tf := tf) (tf' := tf') fun t ht => h t (.inl ht)
    have e2 := evL_congr (l := c) (tf := tf) (tf' := tf') fun t ht => h t (.inr ht)
    simp only [aop, e1, e2]

theorem src_hf {z : Nat} {y : AV} {ys : List AV} {k : Nat} {p : Prop} {r : List Nat} (hs : srcOf hf z y = some (ys, k, p, r)) (h : ∀ n ∈ r, hf' n = hf n) : srcOf hf' z y = some (ys, k, p, r) := by
  unfold srcOf at hs ⊢
  split at hs <;> try exact hs
  rename_i n ver o len z'
  cases hn : hf n with
  | none => simp [hn] at hs
  | some ob =>
    rw [hn] at hs
    simp only [Option.some.injEq, Prod.mk.injEq] at hs
    obtain ⟨rfl, rfl, rfl, rfl⟩ := hs
    have : hf' n = some ob := by rw [h n (by simp), hn]
    simp [this]

theorem aop_hf {nm : Nat} {o : SO} {ao : AO} (ha : aop nm o tf hf = some ao) (h : ∀ n ∈ ao.rs, hf' n = hf n) : aop nm o tf hf' = some ao := by
  cases o <;> simp only [aop] at ha ⊢ <;> try exact ha
  case ld ag z x =>
    unfold aLd at ha ⊢
    split at ha <;> try exact ha
    rename_i n ver o hx
    cases hn : hf n with
    | none => simp [hn] at ha
    | some ob =>
      rw [hn] at ha; simp only [Option.some.injEq] at ha; subst ha
      have : hf' n = some ob := by rw [h n (by simp), hn]
      simp [this]
  case st z x y =>
    split at ha <;> try exact ha
    rename_i n ver o hx
    cases hn : hf n with
    | none => simp [hn] at ha
    | some ob =>
      rw [hn] at ha; simp only [Option.some.injEq] at ha; subst ha
      have : hf' n = some ob := by rw [h n (by simp), hn]
      simp [this]
  case b2s x =>
    split at ha <;> try exact ha
    rename_i n ver o len z hx
    cases hn : hf n with
    | none => simp [hn] at ha
    | some ob =>
      rw [hn] at ha; simp only [Option.some.injEq] at ha; subst ha
      have : hf' n = some ob := by rw [h n (by simp), hn]
      simp [this]
  case slA n z x lo hi mx =>
    split at ha <;> try exact ha
    rename_i m ver o hx
    cases hn : hf m with
    | none => simp [hn] at ha
    | some ob =>
      rw [hn] at ha
      split at ha
      · rename_i ob' l hh p e1 e2
        injection e1 with e1; subst e1
        simp only [Option.some.injEq] at ha; subst ha
        have : hf' m = some ob := by rw [h m (by simp), hn]
        simp only [this]
        split
        · rename_i e3 e4; injection e3 with e3; subst e3; rw [e2] at e4; injection e4 with e4; injection e4 with e4 e5; injection e5 with e5 e6; subst e4; subst e5; subst e6; rfl
        · rename_i hne; exact absurd e2 (hne _ _ _ _ rfl)
      · cases ha
  case peq ng x y =>
    unfold aPeq at ha ⊢
    split at ha <;> try exact ha
    rename_i n ver o n' ver' o' h1 h2
    split at ha
    · rename_i hc
      rw [if_pos hc]
      cases hn : hf n with
      | none => simp [hn] at ha
      | some ob =>
        rw [hn] at ha; simp only [Option.some.injEq] at ha; subst ha
        have : hf' n = some ob := by rw [h n (by simp), hn]
        simp [this]
    · cases ha
  case cvp ok x =>
    unfold aCvp at ha ⊢
    split at ha <;> try exact ha
    rename_i n ver o h1
    cases hn : hf n with
    | none => simp [hn] at ha
    | some ob =>
      rw [hn] at ha
      simp only at ha
      split at ha
      · rename_i T hT
        simp only [Option.some.injEq] at ha; subst ha
        have : hf' n = some ob := by rw [h n (by simp), hn]
        simp [this, hT]
      · cases ha
  case ust e x y =>
    unfold aUst at ha ⊢
    split at ha <;> try exact ha
    rename_i n ver o len h1 h2
    cases hn : hf n with
    | none => simp [hn] at ha
    | some ob =>
      rw [hn] at ha; simp only [Option.some.injEq] at ha; subst ha
      have : hf' n = some ob := by rw [h n (by simp), hn]
      simp [this]
  case app e z b x y =>
    split at ha
    · rename_i ys k p r hs
      split at ha
      · rename_i hx
        by_cases hk : k = 0
        · rw [if_pos hk, Option.some.injEq] at ha; subst ha
          simp only [src_hf hs h]; simp [hx, hk]
        · rw [if_neg hk, Option.some.injEq] at ha; subst ha
          simp only [src_hf hs h]; simp [hx, hk]
      · rename_i l hx
        by_cases hk : k = 0
        · rw [if_pos hk, Option.some.injEq] at ha; subst ha
          simp only [src_hf hs h]; simp [hx, hk]
        · rw [if_neg hk, Option.some.injEq] at ha; subst ha
          simp only [src_hf hs h]; simp [hx, hk]
      · rename_i n ver o len z' hx
        cases hn : hf n with
        | none => simp [hn] at ha
        | some ob =>
          rw [hn] at ha; simp only [Option.some.injEq] at ha; subst ha
          have : hf' n = some ob := by rw [h n (by simp), hn]
          simp only [src_hf hs fun m hm => h m (by simp [hm])]; simp [hx, this]
      · cases ha
    · cases ha
  case cpy z x y =>
    split at ha
    · rename_i ys k p r n ver o len z' hs hx
      cases hn : hf n with
      | none => simp [hn] at ha
      | some ob =>
        rw [hn] at ha; simp only [Option.some.injEq] at ha; subst ha
        have : hf' n = some ob := by rw [h n (by simp), hn]
        simp only [src_hf hs fun m hm => h m (by simp [hm])]; simp [hx, this]
    · cases ha

theorem acall_hf {nm : Nat} {fv : AV} {avs : List AV} {ao : AO} (ha : ACall P nm hf fv avs ao) (h : ∀ n ∈ ao.rs, hf' n = hf n) : ACall P nm hf' fv avs ao := by
  cases ha with
  | pure f pvs r hfv hargs he => exact .pure f pvs r hfv hargs he
  | view f pvs r hfv hargs hr he =>
    have hl : ∀ x ∈ avs, Dom.view hf' 9 x = Dom.view hf 9 x ∧ viewN hf' 9 x = viewN hf 9 x := fun x hx => view_hf 9 x fun n hn => h n (List.mem_flatMap.2 ⟨x, hx, hn⟩)
    have := ACall.view (nm := nm) f pvs r hfv (by rw [mapO_congr fun x hx => (hl x hx).1]; exact hargs) hr he (hf := hf')
    rw [flatMap_congr' fun x hx => (hl x hx).2] at this
    exact this
  | give f pvs r hfv hargs hlo he =>
    have hl : ∀ x ∈ avs, Dom.view hf' 9 x = Dom.view hf 9 x ∧ viewN hf' 9 x = viewN hf 9 x := fun x hx => view_hf 9 x fun n hn => h n (List.mem_flatMap.2 ⟨x, hx, hn⟩)
    have e2 := flatMap_congr' fun x hx => (hl x hx).2
    have := ACall.give (nm := nm) f pvs r hfv (by rw [mapO_congr fun x hx => (hl x hx).1]; exact hargs) (by rw [e2]; exact hlo) he (hf := hf')
    rw [e2] at this
    exact this
  | eff f hs v up hfv hhs he =>
    exact .eff f hs v up hfv (fun p hp => by rw [h p.1 (List.mem_map.2 ⟨p, hp, rfl⟩)]; exact hhs p hp) he
  | same f v hfv hav he => exact .same f v hfv hav he

theorem opR_congr {nm : Nat} {o : SO} {ao : AO} (ht : ∀ t ∈ o.ts, tf t = tf' t) (hr : ∀ n ∈ ao.rs, hf' n = hf n) (h : OpR P nm o tf hf ao) : OpR P nm o tf' hf' ao := by
  unfold OpR at h ⊢
  split at h
  · rename_i f args
    simp only [SO.ts, List.mem_append] at ht
    have e1 := ev_congr (x := f) (tf := tf) (tf' := tf') fun t h => ht t (.inl h)
    have e2 := evL_congr (l := args) (tf := tf) (tf' := tf') fun t h => ht t (.inr h)
    simp only [← e1, ← e2]
    exact acall_hf h hr
  · rename_i hne
    obtain ⟨h1, h2⟩ := h
    have h3 : aop nm o tf' hf' = some ao ∧ ao.pre := ⟨aop_hf (by rw [← aop_tf ht]; exact h1) hr, h2⟩
    cases o <;> first | exact h3 | exact absurd rfl (hne _ _)

end
end Go.Dom
