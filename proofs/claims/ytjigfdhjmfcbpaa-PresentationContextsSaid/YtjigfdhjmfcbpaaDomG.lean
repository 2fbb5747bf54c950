/-
  THE ABSTRACT OPERATIONS ARE RIGHT, SECOND PART. Own work; generic over the program.
-/
import Derived.Test.YtjigfdhjmfcbpaaDomF
set_option linter.all false
namespace Go.Dom
open Go.RowKit

section
variable {P : Program} {C : Cx} {hf : Nat → Option AObj} {wr : Nat → Prop} {base nm : Nat} {w : World} {tf : Nat → AV}

theorem take_one {α : Type} {l : List α} {q : Nat} (h : q < l.length) : (l.drop q).take 1 = [l[q]] := by
  rw [List.drop_eq_getElem_cons h]; rfl

theorem getD_lt {α : Type} {l : List α} {q : Nat} (h : q < l.length) (d : α) : l.getD q d = l[q] := by
  simp [List.getD_eq_getElem?_getD, h]

theorem ok_ld (h : HR C hf wr w) {t : TypeId} {ag : Bool} {z : Nat} (hag : isAggT P t = some ag) (hz : sizeT P t = some z) (h1 : ag = true ∨ z = 1)
    {vx : AV} {x : Value} (hx : AR C vx x) {ao : AO}
    (ha : aLd hf ag z vx = some ao) (hp : ao.pre) : OpOk P C hf wr base nm (vS (Instr.loadAt t x)) w ao.v ao.up := by
  unfold aLd at ha
  cases vx <;> first | (simp at ha; done) | skip
  case p n ver q =>
    simp only at ha
    cases hn : hf n with
    | none => simp [hn] at ha
    | some ob =>
      simp only [hn, Option.some.injEq] at ha
      subst ha
      obtain ⟨hv, hlen⟩ := hp
      have hval := inv_p hx h hn hv
      subst hval
      obtain ⟨vs, hrun, hrel⟩ := run_loadObj (P := P) h hn hlen
      cases ag with
      | true =>
        refine .val h (val := .agg vs.toArray) ?_ (.mkAgg hrel)
        simp only [Instr.loadAt, Instr.sureAddr, loadVar, Sem.run_bind, Sem.run_pure, Result.andThen, isAggT_run hag, sizeT_run hz, hrun, if_true]
      | false =>
        have hz1 : z = 1 := by simpa using h1
        subst hz1
        have hlen' : q < ob.cells.length := by omega
        rw [take_one hlen'] at hrel
        obtain ⟨v, us, rfl, hv1, hnil⟩ := hrel.uncons
        rw [hnil.nil_inv] at hrun
        refine .val h (val := v) ?_ (by simp only [Bool.false_eq_true, if_false]; rw [getD_lt hlen']; exact hv1)
        simp only [Instr.loadAt, Instr.sureAddr, loadVar, Sem.run_bind, Sem.run_pure, Result.andThen, isAggT_run hag, Bool.false_eq_true, if_false, load_one hrun]
  case pp y q =>
    simp only [Option.some.injEq] at ha
    subst ha
    cases hx with
    | pp x o' vs bk of h1' hl hr hrel =>
      have hlen : q + z ≤ vs.length := by have : q + z ≤ y.cells.length := hp; omega
      have hrun := run_loadPure (P := P) h vs hr q z hlen
      have hrl : RelL (PR C.rd) y.cells vs := ⟨hl, hrel⟩
      have hrl' := (hrl.drop q).take z
      cases ag with
      | true =>
        refine .val h (val := .agg ((vs.drop q).take z).toArray) ?_ (.v (.agg _ _ (fun x hx => h1' x (List.mem_of_mem_drop (List.mem_of_mem_take hx))) hrl'.1 hrl'.2))
        simp only [Instr.loadAt, Instr.sureAddr, loadVar, Sem.run_bind, Sem.run_pure, Result.andThen, isAggT_run hag, sizeT_run hz, hrun, if_true]
      | false =>
        have hz1 : z = 1 := by simpa using h1
        subst hz1
        have hlen' : q < y.cells.length := by have : q + 1 ≤ y.cells.length := hp; omega
        rw [take_one hlen'] at hrl'
        obtain ⟨v, us, he, hv1, hnil⟩ := hrl'.uncons
        rw [hnil.nil_inv] at he
        rw [he] at hrun
        refine .val h (val := v) ?_ (by simp only [Bool.false_eq_true, if_false]; rw [getD_lt hlen']; exact .v hv1)
        simp only [Instr.loadAt, Instr.sureAddr, loadVar, Sem.run_bind, Sem.run_pure, Result.andThen, isAggT_run hag, Bool.false_eq_true, if_false, load_one hrun]

theorem ok_bin (h : HR C hf wr w) {op : BinOp} {t : TypeId} (ox oy : Operand) {x y : Value} {vx vy : AV} (hx : AR C vx x) (hy : AR C vy y) {ao : AO}
    (ha : aBin op vx vy = some ao) (hp : ao.pre) : OpOk P C hf wr base nm (vS (do eqGuard op t ox oy x y; binOp op t x y)) w ao.v ao.up := by
  unfold aBin at ha
  split at ha
  · skip
    have e1 := inv_i hx; have e2 := inv_i hy; subst e1; subst e2
    obtain ⟨val, hrun, hv, hup⟩ := run_ibin (P := P) (C := C) ha hp t ox oy w
    rw [hup]
    exact .val h hrun hv
  · skip
    have e1 := inv_s hx; have e2 := inv_s hy; subst e1; subst e2
    obtain ⟨val, hrun, hv, hup⟩ := run_sbin (P := P) (C := C) ha hp t ox oy w
    rw [hup]
    exact .val h hrun hv
  · cases ha

theorem run_equalIn_bool (d : Nat) {t : TypeId} (ht : P.underlying t = some .bool) (p q : Bool) (w : World) : (Op.equalIn (d + 1) t (.bool p) (.bool q)).run P w = .ok (p == q) w := by
  simp [Op.equalIn, run_underlying ht]

theorem run_equal_bool {t : TypeId} (ht : P.underlying t = some .bool) (p q : Bool) (w : World) : (Op.equal t (.bool p) (.bool q)).run P w = .ok (p == q) w := run_equalIn_bool 9999 ht p q w

theorem ok_beq (h : HR C hf wr w) {ng : Bool} {t : TypeId} (ox oy : Operand) (ht : P.underlying t = some .bool) {x y : Value} {p q : Bool} (hx : AR C (.v (.b p)) x) (hy : AR C (.v (.b q)) y) :
    OpOk P C hf wr base nm (vS (do eqGuard (if ng then .neq else .eql) t ox oy x y; binOp (if ng then .neq else .eql) t x y)) w (.v (.b (if ng then !(p == q) else p == q))) [] := by
  have e1 := inv_b hx; have e2 := inv_b hy; subst e1; subst e2
  refine .val h (val := .bool (if ng then !(p == q) else p == q)) ?_ (.v (.b _))
  cases ng <;> simp only [Bool.false_eq_true, if_false, if_true, eqGuard, binOp, Sem.run_bind, Sem.run_pure, Result.andThen, run_equal_bool ht] <;> simp

theorem ok_un (h : HR C hf wr w) {op : UnOp} {x : Value} {vx : AV} (hx : AR C vx x) {ao : AO}
    (ha : aUn op vx = some ao) : OpOk P C hf wr base nm (vS (Op.unary op x)) w ao.v ao.up := by
  unfold aUn at ha
  split at ha
  · simp only [retO, Option.some.injEq] at ha; subst ha
    skip
    have e := inv_b hx; subst e
    exact .val h (val := .bool _) (by simp [Op.unary]) (.v (.b _))
  · simp only [retO, Option.some.injEq] at ha; subst ha
    skip
    have e := inv_i hx; subst e
    exact .val h (val := .int _ _) (by simp only [Op.unary, Op.intArith]; rfl) (.v (.i _ _))
  · simp only [retO, Option.some.injEq] at ha; subst ha
    skip
    have e := inv_i hx; subst e
    exact .val h (val := .int _ _) (by simp only [Op.unary, Op.intBits]; rfl) (.v (.i _ _))
  · cases ha

theorem ok_cvi (h : HR C hf wr w) {s d : TypeId} {ks k : IntKind} (hs : P.underlying s = some (.int ks)) (hd : P.underlying d = some (.int k)) {k' : IntKind} {n : Int} {x : Value} (hx : AR C (.v (.i k' n)) x) :
    OpOk P C hf wr base nm (vS (convert s d x)) w (.v (.i k (k.wrap n))) [] := by
  have e := inv_i hx; subst e
  exact .val h (val := .int k (k.wrap n)) (by simp [convert, run_underlying hs, run_underlying hd, Conv.intToInt]) (.v (.i _ _))

theorem ok_cvs (h : HR C hf wr w) {s d : TypeId} (hs : P.underlying s = some .string) (hd : P.underlying d = some .string) {b : Bytes} {x : Value} (hx : AR C (.v (.s b)) x) :
    OpOk P C hf wr base nm (vS (convert s d x)) w (.v (.s b)) [] := by
  have e := inv_s hx; subst e
  exact .val h (val := .string _) (by simp [convert, run_underlying hs, run_underlying hd]) (.v (.s _))

end
end Go.Dom
