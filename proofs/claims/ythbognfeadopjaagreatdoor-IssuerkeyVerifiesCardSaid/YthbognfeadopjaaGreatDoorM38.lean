/-
  Part of the proof, part 38. Own work.
-/
import Derived.Test.YthbognfeadopjaaGreatDoorM36
import Derived.Test.YthbognfeadopjaaGreatDoorM37
set_option linter.all false
namespace Go.Proofs.YthbognfeadopjaaGreatDoor
open Go Go.Dom
set_option maxRecDepth 100000
set_option maxHeartbeats 16000000
theorem plain_ok (k : Nat) {c : Int} (hc : c = IntKind.u8.wrap (k : Int)) (l : List Bytes) (hm : l ≠ []) (hn : l.length ≤ 1000) (hb : ∀ s ∈ l, s.length ≤ 100000) : EvP Tryz.prog 169 [.i .u8 c, .sl (l.map .s)] (.s (sumB (frameB k l))) := by
 have h := framedS k hc [] l hm (by simpa using hn) (by simpa using hb)
 rw [List.nil_append, List.map_nil] at h
 refine eW Tryz.call169 Tryz.func169 ?_
 repeat' (first | simp only [go_sem, seval] | refine cV h ?_ | simp (disch := first | assumption | omega) only [bP, bW] | (first | apply pX | apply bX) <;> intro hc | refine ⟨oD, ?_⟩ | exact oD | fail)
theorem tNew_ok (l : Bytes) (hl : l.length ≤ 100000) : EvP Tryz.prog 97 [.s l] (.s (trNew l)) := by
 have h := plain_ok 78 (c := 78) rfl [l] (by simp) (by simp) (by simp; omega)
 simp only [List.map_cons, List.map_nil] at h
 refine eW Tryz.call97 Tryz.func97 ?_
 repeat' (first | simp only [go_sem, seval] | refine cP h ?_ | simp (disch := first | assumption | omega) only [bP, bW] | (first | apply pX | apply bX) <;> intro hc | refine ⟨oD, ?_⟩ | exact oD | fail)
 all_goals rfl
theorem tAdd_ok (st l d : Bytes) (h1 : st.length ≤ 100000) (h2 : l.length ≤ 100000) (h3 : d.length ≤ 100000) : EvP Tryz.prog 96 [.s st, .s l, .s d] (.s (trAdd st l d)) := by
 have h := plain_ok 65 (c := 65) rfl [st, l, d] (by simp) (by simp) (by intro s hs; simp at hs; rcases hs with rfl | rfl | rfl <;> assumption)
 simp only [List.map_cons, List.map_nil] at h
 refine eW Tryz.call96 Tryz.func96 ?_
 repeat' (first | simp only [go_sem, seval] | refine cP h ?_ | simp (disch := first | assumption | omega) only [bP, bW] | (first | apply pX | apply bX) <;> intro hc | refine ⟨oD, ?_⟩ | exact oD | fail)
 all_goals rfl
theorem tNats_ok (st l : Bytes) (xs : List Bytes) (h1 : st.length ≤ 100000) (h2 : l.length ≤ 100000) (h0 : xs ≠ []) (hn : xs.length ≤ 900) (h3 : ∀ x ∈ xs, x.length ≤ 100000) : EvP Tryz.prog 100 [.s st, .s l, .sl (xs.map .s)] (.s (trNats st l xs)) := by
 have h := framedN 76 (c := 76) rfl [st, l] xs h0 (by simp; omega) (by intro s hs; simp at hs; rcases hs with rfl | rfl | hs <;> first | assumption | exact h3 s hs)
 simp only [List.map_cons, List.map_nil] at h
 refine eW Tryz.call100 Tryz.func100 ?_
 repeat' (first | simp only [go_sem, seval] | refine cP h ?_ | simp (disch := first | assumption | omega) only [bP, bW] | (first | apply pX | apply bX) <;> intro hc | refine ⟨oD, ?_⟩ | exact oD | fail)
 all_goals rfl
theorem tInts_ok (st l : Bytes) (n : Bool) (a : Bytes) (h1 : st.length ≤ 100000) (h2 : l.length ≤ 100000) (h3 : a.length ≤ 99999) : EvP Tryz.prog 171 [.s st, .s l, .sl [.agg [.b n, .s a]]] (.s (trInts st l [(n, a)])) := by
 have h := framedI 73 (c := 73) rfl [st, l] n a (by simp) (by intro s hs; simp at hs; rcases hs with rfl | rfl | rfl <;> first | assumption | (simp [intS]; omega))
 simp only [List.map_cons, List.map_nil] at h
 refine eW Tryz.call171 Tryz.func171 ?_
 repeat' (first | simp only [go_sem, seval] | refine cP h ?_ | simp (disch := first | assumption | omega) only [bP, bW] | (first | apply pX | apply bX) <;> intro hc | refine ⟨oD, ?_⟩ | exact oD | fail)
 all_goals rfl
theorem W64_LIM : 18446744073709551616 + 18446744073709551616 < LIM := by decide +kernel
theorem plusN {a b m : Nat} (ha : a < m) (hb : b < m) (hm : m < 18446744073709551616) : EvP Tryz.prog 254 [N a, N b, N m] (N ((a + b) % m)) := by
 have hW := W64_LIM
 have h1 := subN (a := m) (b := b) (by omega) (by omega)
 have h2 := cmpNN (a := a) (b := m - b) (by omega) (by omega)
 by_cases hge : m - b ≤ a
 ·have h3 := subN (a := a) (b := m - b) hge (by omega)
  have h4 : ∀ _ : True, (0 : Int) ≤ cmpN a (m - b) := fun _ => cmpN_ge.2 hge
  have h5 : ∀ _ : True, decide (cmpN a (m - b) ≥ 0) = true := fun _ => decide_eq_true (h4 trivial)
  have e : (a + b) % m = a - (m - b) := by rw [show a + b = (a - (m - b)) + m by omega, Nat.add_mod_right, Nat.mod_eq_of_lt (by omega)]
  rw [e]
  generalize cmpN a (m - b) = cm at *
  refine eW Tryz.call254 Tryz.func254 ?_
  repeat' (first | simp only [go_sem, seval, h5 trivial] | refine cP h1 ?_ | refine cP h2 ?_ | refine cP h3 ?_ | simp (disch := first | assumption | omega) only [bP, bW] | (first | apply pX | apply bX) <;> intro hc | refine ⟨oD, ?_⟩ | exact oD | fail)
 ·have h3 := addN (a := a) (b := b) (by omega)
  have h4 : ∀ _ : True, ¬ (0 : Int) ≤ cmpN a (m - b) := fun _ h => hge (cmpN_ge.1 h)
  have h5 : ∀ _ : True, decide (cmpN a (m - b) ≥ 0) = false := fun _ => decide_eq_false (h4 trivial)
  rw [Nat.mod_eq_of_lt (by omega)]
  generalize cmpN a (m - b) = cm at *
  refine eW Tryz.call254 Tryz.func254 ?_
  repeat' (first | simp only [go_sem, seval, h5 trivial] | refine cP h1 ?_ | refine cP h2 ?_ | refine cP h3 ?_ | simp (disch := first | assumption | omega) only [bP, bW] | (first | apply pX | apply bX) <;> intro hc | refine ⟨oD, ?_⟩ | exact oD | fail)
theorem mAddN {a b m : Nat} (ha : a < 18446744073709551616) (hb : b < 18446744073709551616) (hm : m < 18446744073709551616) (h0 : 0 < m) : EvP Tryz.prog 181 [N a, N b, N m] (.tup [N ((a + b) % m), E 0]) := by
 have hc := fun nm => check2 nm (bts a) (bts b) (bts m)
 rw [chk2N ha (vN hb) hm h0] at hc
 have hp := plusN (a := a % m) (b := b % m) (m := m) (Nat.mod_lt _ h0) (Nat.mod_lt _ h0) hm
 rw [← Nat.add_mod] at hp
 refine eW Tryz.call181 Tryz.func181 ?_
 repeat' (first | simp only [go_sem, seval] | (refine CR_eff (hc _) (by simp) ?_) | refine cP (reducedN ha hm h0) ?_ | refine cP (reducedN hb hm h0) ?_ | refine cP hp ?_ | simp (disch := first | assumption | omega) only [bP, bW] | (first | apply pX | apply bX) <;> intro hc | refine ⟨oD, ?_⟩ | exact oD | fail)
abbrev SB : TypeId := 237
theorem tChallenge_ok (st b : Bytes) (hs : st.length ≤ 100000) (vb : validN b = true) (b0 : b ≠ []) (lb : b.length ≤ 8) : EvP Tryz.prog 101 [.s st, .s b] (.tup [N (trChal st b), E 0]) := by
 have hv := natValid b
 rw [vb] at hv
 have hbb : (b == ([] : Bytes)) = false := by simpa using b0
 have w1 := fun nm => lenF SB 1007 nm
 have w2 := fun nm => eightF 1014 nm 0 (by decide)
 have w3 := fun nm => strB FR 1014 1016 nm 7 (be 8 0) (by decide) (by decide) (by decide)
 have hp := plain_ok 67 (c := 67) rfl [st, be 8 0] (by simp) (by simp) (by intro s hs'; simp at hs'; rcases hs' with rfl | rfl; exact hs; simp [be_len])
 simp only [List.map_cons, List.map_nil] at hp
 have hp : EvP Tryz.prog 169 [.i .u8 67, .sl [.s st, .s (be 8 0)]] (.s (trCode st)) := hp
 have hcl := trCode_len st
 have htr : trChal st b = num ((trCode st).take (b.length + 8)) % num b := rfl
 rw [htr]
 generalize trCode st = code at *
 have w4 := fun nm => wsF SB lies0 1007 nm code (by omega) (by omega)
 have w5 := fun nm => lenB SB 1007 1022 nm 0 code (by decide)
 have w6 := fun nm => strB SB 1007 1022 nm 0 code (by decide) (by omega) (by omega)
 have hd1 : ∀ _ : True, decide ((0 : Int) < (b.length : Int) + 8) = true := fun _ => by simp; omega
 refine eW Tryz.call101 Tryz.func101 ?_
 repeat' (first | simp only [go_sem, seval, hbb] | refine cP hv ?_ | simp (disch := first | assumption | omega) only [bP, bW] | (first | apply pX | apply bX) <;> intro hc | refine ⟨oD, ?_⟩ | exact oD | fail)
 refine loop_unroll' ?_
 repeat' (first | simp only [go_sem, seval, hbb, hd1 trivial] | (refine CR_eff (w1 _) (by simp [hget, bF]) ?_) | (refine CR_eff (w2 _) (by simp [hget, bF]) ?_) | (refine CR_eff (w3 _) (by simp [hget]) ?_) | (refine CR_eff (w4 _) (by simp [hget, bF]) ?_) | refine cP hp ?_ | simp (disch := first | assumption | omega) only [bP, bW] | (first | apply pX | apply bX) <;> intro hc | refine ⟨oD, ?_⟩ | exact oD | fail)
 refine loop_unroll' ?_
 have hd2 : ∀ _ : True, decide ((32 : Int) < (b.length : Int) + 8) = false := fun _ => by simp; omega
 have ht8 : ∀ _ : True, ((b.length : Int) + 8).toNat = b.length + 8 := fun _ => by omega
 rw [hcl] at w5
 repeat' (first | simp only [go_sem, seval, hcl, hd2 trivial, ht8 trivial] | (refine CR_eff (w5 _) (by simp [hget]) ?_) | (refine CR_eff (w6 _) (by simp [hget]) ?_) | simp (disch := first | assumption | omega) only [bP, bW] | (first | apply pX | apply bX) <;> intro hc | refine ⟨oD, ?_⟩ | exact oD | fail)
 have hll : (code.take (b.length + 8)).length ≤ 32 := by rw [List.length_take]; omega
 generalize code.take (b.length + 8) = l at hll ⊢
 have hm := num8 lb
 have hm0 : 0 < num b := by
  rcases Nat.eq_zero_or_pos (num b) with h | h
  ·exact absurd (by have := N_of vb; rw [h] at this; injection this with h1; exact h1.symm) b0
  ·exact h
 have hN : (.s b : PV) = N (num b) := (N_of vb).symm
 rw [hN]
 generalize num b = m at *
 have h256 : EvP Tryz.prog 38 [.i .u64 256] (N 256) := Of_ok 256 (by decide)
 clear w1 w2 w3 w4 w5 w6 hp hd1 hd2 ht8 hv
 refine loop_run (α := Nat) (fun i => l.length - i) (fun i => ⟨[(1, .v (N m)), (9, .v (N (num (l.take i) % m))), (37, .v (.sl (l.map u8))), (38, E' l.length), (39, E' i)], [], _⟩) (fun i => i ≤ l.length) 0 (fun _ => Nat.le_refl _) (Nat.zero_le _) ?_ ?_
 ·(refine AS.Le.of (by first | decide | omega) ?_ ?_ <;> simp [LeT, LeH, tget, hget, AV.bd, AV.bd.bdL, u8, bd_cellsOf, bcells_bd, icells_bd])
  all_goals (rw [show num [] = 0 from rfl, Nat.zero_mod]; rfl)
 ·intro i hi R hR
  by_cases hit : i < l.length
  ·have e2 := getD_map u8 l 0 hit
   have hgo := hR (i + 1) (by omega) (by omega)
   rw [num_take_succ hit] at hgo
   have hc : (l.getD i 0).toNat < 256 := (l.getD i 0).toNat_lt
   have hou : EvP Tryz.prog 38 [.i .u64 ((l.getD i 0).toNat : Nat)] (N (l.getD i 0).toNat) := Of_ok _ (by omega)
   have w1 : ∀ _ : True, IntKind.u64.wrap (((l.getD i 0).toNat : Nat) : Int) = (((l.getD i 0).toNat : Nat) : Int) := fun _ => by rw [wu64]; omega
   generalize (l.getD i 0) = y at *
   generalize num (l.take i) = x at *
   have hx : x % m < m := Nat.mod_lt _ hm0
   have hx2 : x % m * 256 % m < m := Nat.mod_lt _ hm0
   have h1 := mMulN (a := x % m) (b := 256) (m := m) (by omega) (by decide) hm hm0
   have h2 := mAddN (a := x % m * 256 % m) (b := y.toNat) (m := m) (by omega) (by omega) hm hm0
   have e : (x % m * 256 % m + y.toNat) % m = (x * 256 + y.toNat) % m := by
    rw [Nat.add_mod, Nat.mod_mod, ← Nat.add_mod, Nat.add_mod (x % m * 256), Nat.mod_mul_mod, ← Nat.add_mod]
   rw [e] at h2
   clear hR hi e
   repeat' (first | simp only [go_sem, seval, e2, w1 trivial] | refine cP h256 ?_ | refine cP h1 ?_ | refine cP h2 ?_ | refine cP hou ?_ | simp (disch := first | assumption | omega) only [bP, bW] | (first | apply pX | apply bX) <;> intro hc | refine ⟨oD, ?_⟩ | exact oD | fail)
   all_goals (refine hgo _ ?_)
   (refine AS.Le.of (by first | decide | omega) ?_ ?_ <;> simp [LeT, LeH, tget, hget, AV.bd, AV.bd.bdL, u8, bd_cellsOf, bcells_bd, icells_bd])
   all_goals first | omega | skip
  ·have h : i = l.length := by omega
   rw [h, List.take_length]
   repeat' (first | simp only [go_sem, seval] | simp (disch := first | assumption | omega) only [bP, bW] | (first | apply pX | apply bX) <;> intro hc | refine ⟨oD, ?_⟩ | exact oD | fail)
theorem isbP (n : Nat) : PV.isByte (.i .u8 (IntKind.u8.wrap (n : Int))) = True := by
 simp [PV.isByte, IntKind.wrap_u8]
theorem bytP (n : Nat) : PV.byte (.i .u8 (IntKind.u8.wrap (n : Int))) = UInt8.ofNat n := byteW n
theorem rEight_ok (n : Nat) (hn : n < 4611686018427387904) : EvP Tryz.prog 209 [.i .i64 (n : Int)] (.s (be 8 n)) := by
 refine eW Tryz.call209 Tryz.func209 ?_
 repeat' (first | simp only [go_sem, seval, isbP, bytP, byteW2, byteM, Nat.div_div_eq_div_mul, Nat.reduceMul] | (refine loop_unroll' ?_) | simp (disch := first | assumption | omega) only [bP, bW] | (first | apply pX | apply bX) <;> intro hc | refine ⟨oD, ?_⟩ | exact oD | fail)
 simp only [be, Nat.reducePow, Nat.pow_zero, Nat.div_one]
theorem rHash_ok {kd : Bytes} (hk : kd.length = 1) (l : List Bytes) (hn : l.length ≤ 1000) (hb : ∀ s ∈ l, s.length ≤ 100000) : EvP Tryz.prog 204 [.s kd, .sl (l.map .s)] (.s (sumB (kd ++ be 8 l.length ++ partsB l))) := by
 have h0 := rEight_ok l.length (by omega)
 have hPb : ∀ i, i ≤ l.length → (kd ++ be 8 l.length ++ partsB (l.take i)).length ≤ 9 + i * 100008 := fun i hi => by
  have h1 := partsB_len (l.take i) (n := 100000) fun s hs => hb s (List.mem_of_mem_take hs)
  rw [List.length_take, Nat.min_eq_left hi] at h1
  rw [List.length_append, List.length_append, hk, be_len]
  omega
 have hkl : (be 8 l.length).length = 8 := be_len _ _
 refine eW Tryz.call204 Tryz.func204 ?_
 repeat' (first | simp only [go_sem, seval, hk, hkl] | refine cP h0 ?_ | simp (disch := first | assumption | omega) only [bP, bW] | (first | apply pX | apply bX) <;> intro hc | refine ⟨oD, ?_⟩ | exact oD | fail)
 refine loop_run (α := Nat) (fun i => l.length - i) (fun i => ⟨[(1, .v (.sl (l.map .s))), (5, .v (.s (kd ++ be 8 l.length ++ partsB (l.take i)))), (6, E' i)], [], _⟩) (fun i => i ≤ l.length) 0 (fun _ => Nat.le_refl _) (Nat.zero_le _) ?_ ?_
 ·(refine AS.Le.of (by first | decide | omega) ?_ ?_ <;> simp [LeT, LeH, tget, hget, AV.bd, AV.bd.bdL, u8, bd_cellsOf, bcells_bd, icells_bd])
  all_goals rfl
 ·intro i hi R hR
  by_cases hit : i < l.length
  ·have e2 := getD_map PV.s l ([] : Bytes) hit
   have hgo := hR (i + 1) (by omega) (by omega)
   have hbs := hb (l.getD i []) (mem_getD [] hit)
   have hPi := hPb i hi
   rw [take_succ_getD ([] : Bytes) hit, partsB_snoc, ← List.append_assoc] at hgo
   generalize l.getD i [] = y at e2 hgo hbs
   generalize hB : kd ++ be 8 l.length ++ partsB (l.take i) = B at hgo hPi ⊢
   have h1 := rEight_ok y.length (by omega)
   have hyl : (be 8 y.length).length = 8 := be_len _ _
   have hBl : B.length + (8 + y.length) ≤ 9223372036854775807 := by omega
   clear hR hPb hb hkl h0
   repeat' (first | simp only [go_sem, seval, e2, hyl] | refine cP h1 ?_ | simp (disch := first | assumption | omega) only [bP, bW] | (first | apply pX | apply bX) <;> intro hc | refine ⟨oD, ?_⟩ | exact oD | fail)
   refine ⟨by rw [List.length_append, hyl]; exact hBl, rfl, hgo _ ?_⟩
   (refine AS.Le.of (by first | decide | omega) ?_ ?_ <;> simp [LeT, LeH, tget, hget, AV.bd, AV.bd.bdL, u8, bd_cellsOf, bcells_bd, icells_bd])
   all_goals first | omega | skip
  ·have h : i = l.length := by omega
   rw [h, List.take_length]
   have hl2 := hPb l.length (Nat.le_refl _)
   rw [List.take_length] at hl2
   generalize kd ++ be 8 l.length ++ partsB l = B at hl2 ⊢
   have hs := rSum_ok (s := B) (by omega)
   repeat' (first | simp only [go_sem, seval] | refine cP hs ?_ | simp (disch := first | assumption | omega) only [bP, bW] | (first | apply pX | apply bX) <;> intro hc | refine ⟨oD, ?_⟩ | exact oD | fail)
theorem rHashK (k : Nat) {kd : Bytes} (hk : kd = [UInt8.ofNat k]) (l : List Bytes) (hn : l.length ≤ 1000) (hb : ∀ s ∈ l, s.length ≤ 100000) : EvP Tryz.prog 204 [.s kd, .sl (l.map .s)] (.s (sumB (frameB k l))) := by
 have h := rHash_ok (kd := kd) (by rw [hk]; rfl) l hn hb
 rw [hk, List.append_assoc] at h
 rw [hk]; exact h
theorem CR_vrow {P : Program} [Tabs P] {Q : AX → AS → Prop} {nx : Nat} {bf : Option (List Nat)} {nn : Nat} {d : Option Nat} {ops : List SOp} {k : Nat} {s : AS} {tr : List (Nat × List Nat × List Nat)} {K : List Fr} {nm : Nat} {f : FuncId} {α : Type} {g : α → PV} {z n ver m : Nat} {l : List α} {gr : Bool} {el : Option TypeId} {x r : PV}
  (he : EvP P f [x, .sl (l.map g)] r) (hrow : RowOK g z) (hr : r.flat = true) (hg : hget s.h n = some ⟨ver, rowF g l, gr, el⟩) (hm : m = l.length) (hK : RW P Q nx bf nn ops (k + 1) (s.upd d (.v r) []) (trU bf k [n] [] tr) K) :
  CR P Q nx bf nn nm (.v (.fn (.func f))) [.v x, .rs n ver 0 m z] d ops k s tr K := by
 refine CR_view he ?_ hr ?_
 ·simp [mapO, view_rowF hrow hm hg]; rfl
 ·have : [AV.v x, AV.rs n ver 0 m z].flatMap (viewN (hget s.h) 9) = [n] := by simp [viewN_rowF hrow hm hg]; rfl
  rw [this]; exact hK
theorem rNew_ok (l : Bytes) (hl : l.length ≤ 100000) : EvP Tryz.prog 122 [.s l] (.s (trNew l)) := by
 have h := rHashK 78 (kd := [78]) rfl [l] (by simp) (by simp; omega)
 simp only [List.map_cons, List.map_nil] at h
 refine eW Tryz.call122 Tryz.func122 ?_
 repeat' (first | simp only [go_sem, seval] | refine cP h ?_ | simp (disch := first | assumption | omega) only [bP, bW] | (first | apply pX | apply bX) <;> intro hc | refine ⟨oD, ?_⟩ | exact oD | fail)
 all_goals rfl
theorem rAdd12_ok (st l d : Bytes) (h1 : st.length ≤ 100000) (h2 : l.length ≤ 100000) (h3 : d.length ≤ 100000) : EvP Tryz.prog 121 [.s st, .s l, .s d] (.s (trAdd st l d)) := by
 have h := rHashK 65 (kd := [65]) rfl [st, l, d] (by simp) (by intro s hs; simp at hs; rcases hs with rfl | rfl | rfl <;> assumption)
 simp only [List.map_cons, List.map_nil] at h
 refine eW Tryz.call121 Tryz.func121 ?_
 repeat' (first | simp only [go_sem, seval] | refine cP h ?_ | simp (disch := first | assumption | omega) only [bP, bW] | (first | apply pX | apply bX) <;> intro hc | refine ⟨oD, ?_⟩ | exact oD | fail)
 all_goals rfl
theorem rInts12_ok (st l : Bytes) (n : Bool) (a : Bytes) (h1 : st.length ≤ 100000) (h2 : l.length ≤ 100000) (h3 : a.length ≤ 99999) : EvP Tryz.prog 206 [.s st, .s l, .sl [.agg [.b n, .s a]]] (.s (trInts st l [(n, a)])) := by
 have h := rHashK 73 (kd := [73]) rfl [st, l, intS (n, a)] (by simp) (by intro s hs; simp at hs; rcases hs with rfl | rfl | rfl <;> first | assumption | (simp [intS]; omega))
 cases n
 all_goals simp only [intS, List.map_cons, List.map_nil] at h
 refine eW Tryz.call206 Tryz.func206 ?_
 repeat' (first | simp only [go_sem, seval] | refine cV h ?_ | (refine loop_unroll' ?_) | simp (disch := first | assumption | omega) only [bP, bW] | (first | apply pX | apply bX) <;> intro hc | refine ⟨oD, ?_⟩ | exact oD | fail)
 all_goals try rfl
 refine eW Tryz.call206 Tryz.func206 ?_
 repeat' (first | simp only [go_sem, seval] | refine cV h ?_ | (refine loop_unroll' ?_) | simp (disch := first | assumption | omega) only [bP, bW] | (first | apply pX | apply bX) <;> intro hc | refine ⟨oD, ?_⟩ | exact oD | fail)
 all_goals try rfl
theorem rNats12_ok (st l : Bytes) (xs : List Bytes) (h1 : st.length ≤ 100000) (h2 : l.length ≤ 100000) (h0 : xs ≠ []) (hn : xs.length ≤ 900) (h3 : ∀ x ∈ xs, x.length ≤ 100000) : EvP Tryz.prog 125 [.s st, .s l, .sl (xs.map .s)] (.s (trNats st l xs)) := by
 have h := rHashK 76 (kd := [76]) rfl (st :: l :: xs) (by simp; omega) (by intro s hs; simp at hs; rcases hs with rfl | rfl | hs <;> first | assumption | exact h3 s hs)
 obtain ⟨m0, mr, hmr⟩ : ∃ m0 mr, xs = m0 :: mr := by cases xs with
  | nil => exact absurd rfl h0
  | cons a b => exact ⟨a, b, rfl⟩
 have hml : xs.length = mr.length + 1 := by rw [hmr]; rfl
 have hpos : ∀ _ : True, (0 : Int) < (xs.length : Int) := fun _ => by omega
 have g0 : (xs.map PV.s).getD 0 .fn0 = .s m0 := by rw [hmr]; rfl
 refine eW Tryz.call125 Tryz.func125 ?_
 repeat' (first | simp only [go_sem, seval] | simp (disch := first | assumption | omega) only [bP, bW] | (first | apply pX | apply bX) <;> intro hc | refine ⟨oD, ?_⟩ | exact oD | fail)
 refine loop_unroll' ?_
 repeat' (first | simp only [go_sem, seval, g0, hpos trivial] | simp (disch := first | assumption | omega) only [bP, bW] | (first | apply pX | apply bX) <;> intro hc | refine ⟨oD, ?_⟩ | exact oD | fail)
 have hro : [AV.v (PV.s st), AV.v (PV.s l), AV.v (PV.s m0)] = rowF PV.s (st :: l :: xs.take 1) := by rw [hmr]; rfl
 rw [hro]
 clear hro g0 h1 h2 h3
 refine loop_run (α := Nat) (fun j => xs.length - j) (fun j => ⟨[(2, .v (.sl (xs.map .s))), (7, .rs 1016 j 0 (3 + j) 1), (8, E' (j + 1))], [(1016, ⟨j, rowF PV.s (st :: l :: xs.take (j + 1)), true, some 9⟩)], 1021⟩) (fun j => j + 1 ≤ xs.length) 0 (fun _ => Nat.le_of_ble_eq_true rfl) (by omega) ?_ ?_
 ·(refine AS.Le.of (by first | decide | omega) ?_ ?_ <;> simp [LeT, LeH, tget, hget, AV.bd, AV.bd.bdL, u8, bd_cellsOf, bcells_bd, icells_bd])
  all_goals exact fun c hc => bd_row hc
 ·intro j hj R hR
  have hlr : (st :: l :: xs.take (j + 1)).length = 3 + j := by rw [List.length_cons, List.length_cons, List.length_take]; omega
  have q0 : (rowF PV.s (st :: l :: xs.take (j + 1))).length = 3 + j := by rw [rowF_len RowOK.s, hlr, Nat.mul_one]
  have q1 : List.take (3 + j) (rowF PV.s (st :: l :: xs.take (j + 1))) = rowF PV.s (st :: l :: xs.take (j + 1)) := List.take_of_length_le (by omega)
  by_cases hjt : j + 1 < xs.length
  ·have e2 := getD_map PV.s xs ([] : Bytes) hjt
   have hgo := hR (j + 1) (by omega) (by omega)
   rw [take_succ_getD ([] : Bytes) hjt, ← List.cons_append, ← List.cons_append, rowF_snoc] at hgo
   generalize xs.getD (j + 1) [] = y at e2 hgo
   have e3 : ∀ _ : True, ((j : Int) + 1).toNat = j + 1 := fun _ => by omega
   clear hR hlr h
   repeat' (first | simp only [go_sem, seval, q0, q1, e2, e3 trivial] | simp (disch := first | assumption | omega) only [bP, bW] | (first | apply pX | apply bX) <;> intro hc | refine ⟨oD, ?_⟩ | exact oD | fail)
   refine hgo _ ?_
   (refine AS.Le.of (by first | decide | omega) ?_ ?_ <;> simp [LeT, LeH, tget, hget, AV.bd, AV.bd.bdL, u8, bd_cellsOf, bcells_bd, icells_bd])
   all_goals first | omega | exact ⟨rfl, fun c hc => by rcases hc with hc | ⟨a, ha, rfl⟩; exact bd_row hc; rfl⟩ | skip
  ·have hj2 : j + 1 = xs.length := by omega
   rw [hj2, List.take_length] at hlr q0 q1 ⊢
   repeat' (first | simp only [go_sem, seval, q0, q1] | (refine CR_vrow (l := st :: l :: xs) (g := PV.s) (ver := j) (gr := true) (el := some 9) h RowOK.s rfl (by simp [hget]) hlr.symm ?_) | simp (disch := first | assumption | omega) only [bP, bW] | (first | apply pX | apply bX) <;> intro hc | refine ⟨oD, ?_⟩ | exact oD | fail)
   all_goals rfl
theorem rChallenge12_ok (st b : Bytes) (hs : st.length ≤ 100000) (vb : validN b = true) (b0 : b ≠ []) (lb : b.length ≤ 8) : EvP Tryz.prog 126 [.s st, .s b] (.tup [N (trChal st b), E 0]) := by
 have hv := rValid_ok b
 rw [vb] at hv
 have hbb : (b == ([] : Bytes)) = false := by simpa using b0
 have he : EvP Tryz.prog 209 [.i .i64 0] (.s (be 8 0)) := rEight_ok 0 (by decide)
 have hp := rHashK 67 (kd := [67]) rfl [st, be 8 0] (by simp) (by intro s hs'; simp at hs'; rcases hs' with rfl | rfl; exact hs; simp [be_len])
 simp only [List.map_cons, List.map_nil] at hp
 have hp : EvP Tryz.prog 204 [.s [67], .sl [.s st, .s (be 8 0)]] (.s (trCode st)) := hp
 have hcl := trCode_len st
 have htr : trChal st b = num ((trCode st).take (b.length + 8)) % num b := rfl
 rw [htr]
 generalize trCode st = code at *
 have hd1 : ∀ _ : True, decide ((0 : Int) < (b.length : Int) + 8) = true := fun _ => by simp; omega
 have hd2 : ∀ _ : True, decide ((32 : Int) < (b.length : Int) + 8) = false := fun _ => by simp; omega
 have ht8 : ∀ _ : True, ((b.length : Int) + 8).toNat = b.length + 8 := fun _ => by omega
 refine eW Tryz.call126 Tryz.func126 ?_
 repeat' (first | simp only [go_sem, seval, hbb] | refine cP hv ?_ | simp (disch := first | assumption | omega) only [bP, bW] | (first | apply pX | apply bX) <;> intro hc | refine ⟨oD, ?_⟩ | exact oD | fail)
 refine loop_unroll' ?_
 repeat' (first | simp only [go_sem, seval, hbb, hd1 trivial, hcl] | refine cP he ?_ | refine cP hp ?_ | simp (disch := first | assumption | omega) only [bP, bW] | (first | apply pX | apply bX) <;> intro hc | refine ⟨oD, ?_⟩ | exact oD | fail)
 refine loop_unroll' ?_
 repeat' (first | simp only [go_sem, seval, hbb, hd2 trivial, hcl, ht8 trivial] | refine cP he ?_ | refine cP hp ?_ | simp (disch := first | assumption | omega) only [bP, bW] | (first | apply pX | apply bX) <;> intro hc | refine ⟨oD, ?_⟩ | exact oD | fail)
 have hll : (code.take (b.length + 8)).length ≤ 32 := by rw [List.length_take]; omega
 generalize code.take (b.length + 8) = l0 at hll ⊢
 have hm0 : 0 < num b := by
  rcases Nat.eq_zero_or_pos (num b) with h | h
  ·exact absurd (by have := N_of vb; rw [h] at this; injection this with h1; exact h1.symm) b0
  ·exact h
 have hov := rOver_ok (a := trimB l0) (b := b) (trim_canon l0) (canon_of vb) hm0 (by have := trim_len l0; omega) (by omega)
 rw [num_trim] at hov
 clear hp he hd1 hd2 ht8 hv
 refine loop_run (α := Bytes) (fun l => l.length) (fun l => ⟨[(1, .v (.s b)), (6, .v (.s l))], [], _⟩) (fun l => trimB l = trimB l0) l0 (fun _ => Nat.le_refl _) rfl ?_ ?_
 ·exact lE
 ·intro l hl R hR
  match l, hl with
  | [], hl =>
   have hl : trimB l0 = [] := hl.symm
   rw [hl] at hov
   clear hR
   repeat' (first | simp only [go_sem, seval] | refine cP hov ?_ | simp (disch := first | assumption | omega) only [bP, bW] | (first | apply pX | apply bX) <;> intro hc | refine ⟨oD, ?_⟩ | exact oD | fail)
  | x :: r, hl =>
   by_cases hx : x = 0
   ·subst hx
    have hgo := hR r (by rw [← hl]; rfl) (by simp)
    clear hR
    repeat' (first | simp only [go_sem, seval] | simp (disch := first | assumption | omega) only [bP, bW] | (first | apply pX | apply bX) <;> intro hc | refine ⟨oD, ?_⟩ | exact oD | fail)
    refine hgo _ ?_
    (refine AS.Le.of (by first | decide | omega) ?_ ?_ <;> simp [LeT, LeH, tget, hget, AV.bd, AV.bd.bdL, u8, bd_cellsOf, bcells_bd, icells_bd])
    all_goals first | omega | skip
   ·have hl : trimB l0 = x :: r := by rw [← hl, trimB, if_neg hx]
    rw [hl] at hov
    have hx2 : ∀ _ : True, ((x.toNat : Int) == 0) = false := fun _ => by
     simp only [beq_eq_false_iff_ne, ne_eq]
     intro h
     exact hx (UInt8.toNat.inj (by simp; omega))
    clear hR
    repeat' (first | simp only [go_sem, seval, hx2 trivial] | refine cP hov ?_ | simp (disch := first | assumption | omega) only [bP, bW] | (first | apply pX | apply bX) <;> intro hc | refine ⟨oD, ?_⟩ | exact oD | fail)
end Go.Proofs.YthbognfeadopjaaGreatDoor
