/-
  A FUNCTION WITH ONE DEFERRED CALL that finds nothing to do. Own work; generic over the program.
-/
import Derived.Test.YtjigfdhjmfcbpaaDomZ6
import Derived.Recover
set_option linter.all false
namespace Go.Dom
open Go.RowKit

section
variable {P : Program}

def cFst : Code → Code
  | .seq a _ => a
  | c => c
def cSnd : Code → Code
  | .seq _ b => b
  | c => c

/-- A deferred call that does nothing where its frame returns. -/
def Idle (P : Program) (d : Deferred) : Prop := ∃ fv cap f args, d.target = .fn fv cap ∧ ∀ w : World, (invoke d.target d.args).run P w = .ok (.enter f args) w ∧ CallsD P f args .returning w fun e u' w' => e = .returned (.tuple #[]) ∧ u' = .returning ∧ w' = w

theorem stage {E : Env} (hm : P.follows .mixedOrders = true) (hwr : ∀ b, E.w0.heap.size ≤ b → E.wr b) {code : Code} {sc : SC} (hc : comp P E.nt code = some sc) {s0 s1 : AS} (h : aw P sc (fun e s => e = .normal ∧ s1.Le s) s0) (hN : ∀ n, E.C0.al n → n < s1.nx) {a : Act} {w : World} (hs : SRs E s0 a w) :
    code.wp P (fun e a' w' => e = .normal ∧ SRs E s1 a' w') a w := by
  refine wp_mono (aw_ok (E := E) hm hwr code sc hc _ _ _ _ h hs) ?_
  rintro e a' w' ⟨x, s, hxr, ⟨rfl, hle⟩, hsr⟩
  cases hxr
  exact ⟨rfl, hsr.weaken hle hN⟩

/-- A CONTRACT OUT OF THE LOGIC, with a deferred call in the third place. -/
theorem EvP.of_defer {f : FuncId} {fn : Func} {c0 c1 cD c2 : Code} {sc0 sc1 sc2 : SC} {rs : List SRes} {sl : Nat} (hm : P.follows .mixedOrders = true) (hent : Enters P f f) (hfn : P.funcs[f]? = some fn) (hbody : fn.body = some (.seq c0 (.seq c1 (.seq cD c2))))
    (hc0 : comp P fn.ntmps c0 = some sc0) (hc1 : comp P fn.ntmps c1 = some sc1) (hc2 : comp P fn.ntmps c2 = some sc2) (hres : compRes P fn.results.toList = some rs)
    (hD : ∀ (a : Act) (w : World) (Q : Exit → Act → World → Prop), a.defers = [] → a.tmps.size = fn.ntmps → (∀ a' d, a'.tmps.size = fn.ntmps → (∀ k, k ≠ sl → a'.tmps.getD k undef = a.tmps.getD k undef) → a'.defers = [d] → Idle P d → Q .normal a' w) → cD.wp P Q a w)
    {args : List PV} {r : PV} (hlen : args.length ≤ fn.ntmps) {s1 s2 : AS} (hn1 : 1000 ≤ s1.nx) (hn2 : 1000 ≤ s2.nx) (hsl : tget s2.t sl = .u)
    (h0 : aw P sc0 (fun e s => e = .normal ∧ s1.Le s) ⟨args.mapIdx (fun i x => (i, .v x)), [], 1000⟩) (h1 : aw P sc1 (fun e s => e = .normal ∧ s2.Le s) s1) (h2 : aw P sc2 (RetQ rs r) s2) : EvP P f args r := by
  refine ⟨f, hent, fun w rd vs hrd hargs => ?_⟩
  let E : Env := ⟨w, rd, fun b => w.heap.size ≤ b, fn.ntmps, ⟨rd, fun _ => False, fun _ => none, fun _ => 0, fun _ => 0⟩, [], fun _ h => h.elim⟩
  refine calls_of_wp_defers hfn hbody ?_
  have hvl : vs.length = args.length := hargs.1.symm
  have hget : ∀ (l : List PV) (n k : Nat), tget (l.mapIdx (fun i x => (i + n, AV.v x))) (k + n) = match l[k]? with | some x => .v x | none => .u := by
    intro l
    induction l with
    | nil => intro n k; rfl
    | cons x l ih =>
      intro n k
      rw [List.mapIdx_cons]
      simp only [tget]
      cases k with
      | zero => simp
      | succ k =>
        rw [if_neg (by omega)]
        have := ih (n + 1) k
        rw [show k + 1 + n = k + (n + 1) by omega]
        have e : (l.mapIdx fun i x => (i + 1 + n, AV.v x)) = l.mapIdx fun i x => (i + (n + 1), AV.v x) := by
          congr 1; funext i x; congr 1; omega
        rw [e, this]; rfl
  have hs0 : SRs E ⟨args.mapIdx (fun i x => (i, .v x)), [], 1000⟩ { tmps := vs.toArray ++ Array.replicate (fn.ntmps - vs.toArray.size) undef, defers := [] } w := by
    refine ⟨⟨⟨rd, fun n => n < 1000, fun _ => none, fun _ => 0, fun _ => 0⟩, ?_, ⟨hrd, ?_, fun _ _ => rfl, ?_, ?_, ?_, ?_, ?_⟩, fun _ _ => rfl, ⟨Wf.refl _ _, ⟨fun _ _ _ h => h, fun _ h => h.elim, fun _ h => h.elim⟩, fun n ob hn => by simp [Dom.hget] at hn⟩, rfl, ?_, ?_⟩, fun n hn => hn.elim⟩
    · intro n; simp
    · intro n ob hn; simp [Dom.hget] at hn
    · intro n ob hn; simp [Dom.hget] at hn
    · intro n m ob oc hn; simp [Dom.hget] at hn
    · intro n ob hn; simp [Dom.hget] at hn
    · intro n ob hn; simp [Dom.hget] at hn
    · intro n ob hn; simp [Dom.hget] at hn
    · show (vs.toArray ++ Array.replicate (fn.ntmps - vs.toArray.size) undef).size = fn.ntmps
      simp; omega
    · intro k
      have := hget args 0 k
      simp only [Nat.add_zero] at this
      rw [this]
      cases hk : args[k]? with
      | none => exact .u _
      | some x =>
        obtain ⟨v, hv, hxv⟩ := hargs.get hk
        have hlt : k < vs.length := (List.getElem?_eq_some_iff.1 hv).1
        refine .v ?_
        have e : (vs.toArray ++ Array.replicate (fn.ntmps - vs.toArray.size) undef).getD k undef = v := by
          rw [Array.getD_eq_getD_getElem?, Array.getElem?_append_left (by simpa using hlt)]
          simp [hv]
        show PR rd x ((vs.toArray ++ Array.replicate (fn.ntmps - vs.toArray.size) undef).getD k undef)
        rw [e]; exact hxv
  refine wp_seq (wp_mono (stage (E := E) hm (fun b hb => hb) hc0 h0 (fun n (hn : False) => hn.elim) hs0) ?_)
  rintro e a1 w1 ⟨rfl, hs1⟩
  refine wp_seq (wp_mono (stage (E := E) hm (fun b hb => hb) hc1 h1 (fun n (hn : False) => hn.elim) hs1) ?_)
  rintro e a2 w2 ⟨rfl, hs2⟩
  refine wp_seq (hD a2 w2 _ hs2.1.choose_spec.2.2.2.2.1 hs2.1.choose_spec.2.2.2.2.2.1 fun a3 d hsz3 hk3 hd3 hid => ?_)
  let E' : Env := { E with df := [d] }
  have hs3 : SRs E' s2 a3 w2 := by
    obtain ⟨⟨C, q1, q2, q3, q4, q5, q6, q7⟩, q8⟩ := hs2
    refine ⟨⟨C, q1, q2, q3, q4, hd3, hsz3, fun k => ?_⟩, q8⟩
    by_cases hk : k = sl
    · subst hk; rw [hsl]; exact .u _
    · rw [hk3 k hk]; exact q7 k
  refine wp_mono (aw_ok (E := E') hm (fun b hb => hb) c2 sc2 hc2 _ _ _ _ h2 hs3) ?_
  rintro e a' w' ⟨x, s, hxr, ⟨hx, hq⟩, hsr⟩
  obtain ⟨⟨C, hal, hh, hrd', ⟨hwf, -, -⟩, hdf, hsz, htm⟩, -⟩ := hsr
  split at hq
  · rename_i l p hl
    obtain ⟨hp, rfl⟩ := hq
    have : ∀ b, Decidable (∃ n ob, Dom.hget s.h n = some ob ∧ C.mu n = b) := fun b => Classical.propDecidable _
    obtain ⟨us, hus, hrel⟩ := res_ok (P := P) hh htm fn.results.toList rs hres l p hl hp
    have hrun : (results fn a'.tmps).run P w' = .ok (if h : us.length = 1 then us[0] else .tuple us.toArray) w' := by
      have key : results fn a'.tmps = (Functor.map List.toArray (fn.results.toList.mapM (fun
          | .tmp t => pure (a'.tmps.getD t undef)
          | .cell q ty => do loadVar ty (← asAddr (a'.tmps.getD q undef)) : ResultVar → Sem Value))) >>= fun vs => pure (if h : vs.size = 1 then vs[0] else .tuple vs) := by
        unfold results; rw [Array.mapM_eq_mapM_toList]; rfl
      have hus2 : (fn.results.toList.mapM (fun
          | .tmp t => pure (a'.tmps.getD t undef)
          | .cell q ty => do loadVar ty (← asAddr (a'.tmps.getD q undef)) : ResultVar → Sem Value)).run P w' = .ok us w' := hus
      rw [key]
      simp only [Sem.run_bind, Sem.run_map, hus2, Result.andThen, Sem.run_pure]
      by_cases h1 : us.length = 1
      · simp [h1]
      · simp [h1]
    have hbelow : Below w.heap.size w w' := ⟨hwf.os, hwf.tape, hwf.output, hwf.size, fun k hk => hwf.blk k hk (by show ¬ (w.heap.size ≤ k); omega)⟩
    have hle : ∀ b o v, viewRd C (Dom.hget s.h) w' b o = some v → extRd rd w w' b o = some v := by
      intro b o v hv
      unfold viewRd at hv
      unfold extRd
      by_cases hb : b < w.heap.size
      · rw [if_pos hb]
        split at hv
        · rename_i hex
          obtain ⟨n, ob, hn, hmu⟩ := hex
          have := hh.wr n ob hn
          have : w.heap.size ≤ C.mu n := this
          omega
        · rw [hrd' b hb] at hv; exact hv
      · rw [if_neg hb]
        split at hv
        · exact hv
        · exact hh.rdw _ _ _ hv
    have hpr : PR (extRd rd w w') (mkRes l) (if h : us.length = 1 then us[0] else .tuple us.toArray) := by
      have hrel' : RelL (PR (extRd rd w w')) l us := hrel.imp fun x v hx => hx.mono hle
      unfold mkRes
      split
      · rename_i y
        obtain ⟨v, us', rfl, hv, hnil⟩ := hrel'.uncons
        rw [hnil.nil_inv]
        simpa using hv
      · rename_i hne
        have hl1 : us.length ≠ 1 := by
          intro h1
          have := hrel'.1
          rw [h1] at this
          obtain ⟨y, rfl⟩ := List.length_eq_one_iff.1 this
          exact hne y rfl
        rw [dif_neg hl1]
        exact .tup l us hrel'.1 hrel'.2
    obtain ⟨fv, cap, g, gargs, ht, hinv⟩ := hid
    have hdf' : a'.defers = [d] := hdf
    have fin : Leaves P fn a'.tmps (fun e w' => ∃ v, e = .returned v ∧ Below w.heap.size w w' ∧ PR (extRd rd w w') (mkRes l) v) a'.defers .returning w' := by
      rw [hdf']
      refine ⟨by simp, fv, cap, g, gargs, ht, (hinv w').1, (hinv w').2.mono ?_⟩
      rintro e u' w'' ⟨rfl, rfl, rfl⟩
      exact ⟨_, hrun, _, rfl, hbelow, hpr⟩
    cases hxr with
    | normal => exact fin
    | ret => exact fin
    | exit id => exact hx.elim
  · exact hq.elim

end
end Go.Dom
