/-
  Part of the proof, part 34. Own work.
-/
import Derived.Test.YthbognfeadopjaaGreatDoorM20
set_option linter.all false
namespace Go.Proofs.YthbognfeadopjaaGreatDoor
open Go Go.Dom
set_option maxRecDepth 100000
set_option maxHeartbeats 16000000
def wl (l : List Nat) : List PV := l.map fun n : Nat => PV.i .u32 n
theorem wl_v (l : List Nat) : List.map AV.v (wl l) = icells .u32 l := by simp [wl, icells]
theorem wl_len (l : List Nat) : (wl l).length = l.length := List.length_map ..
theorem mapO_icells {g : AV → Option PV} (hg : ∀ n : Nat, g (.v (.i .u32 (n : Int))) = some (.i .u32 n)) (l : List Nat) : mapO g (icells .u32 l) = some (wl l) := by
 unfold icells wl
 induction l with
 | nil => rfl
 | cons x l ih => rw [List.map_cons, List.map_cons, mapO, hg, ih]
theorem neg31 : ∀ n : Fin 32, 0 < n.val → iAnd .u64 (IntKind.u64.wrap (-(n.val : Int))) 31 = ((32 - n.val : Nat) : Int) := by decide +kernel
theorem Rot_ok (x n : Nat) (h0 : 0 < n) (h : n < 32) : EvP Tryz.prog 381 [.i .u32 x, E (-(n : Int))] (.i .u32 (rr x n)) := by
 have e1 := neg31 ⟨n, h⟩ h0
 simp only at e1
 have e2 : ∀ _ : True, (if 32 - n ≤ 32 then 32 - n else 32) = 32 - n := fun _ => if_pos (by omega)
 have e3 : ∀ _ : True, (32 : Int) - ((32 - n : Nat) : Int) = (n : Int) := fun _ => by omega
 have e4 : ∀ _ : True, (if n ≤ 32 then n else 32) = n := fun _ => if_pos (by omega)
 refine eW Tryz.call381 Tryz.func381 ?_
 repeat' (first | simp only [go_sem, seval, e1, e2 trivial, e3 trivial, e4 trivial, l_r, o_r] | simp (disch := first | assumption | omega) only [bP, bW] | (first | apply pX | apply bX) <;> intro hc | refine ⟨oD, ?_⟩ | exact oD | fail)
 rw [rr, o32_comm]
theorem turn_ok (x n : Nat) (h0 : 0 < n) (h : n < 32) : EvP Tryz.prog 352 [.i .u32 x, E n] (.i .u32 (rr x n)) := by
 have hr := Rot_ok x n h0 h
 have e : (0 : Int) - (n : Int) = -(n : Int) := by omega
 refine eW Tryz.call352 Tryz.func352 ?_
 repeat' (first | simp only [go_sem, seval, e] | refine cP hr ?_ | simp (disch := first | assumption | omega) only [bP, bW] | (first | apply pX | apply bX) <;> intro hc | refine ⟨oD, ?_⟩ | exact oD | fail)
theorem first_ok : EvP Tryz.prog 312 [] (.agg (wl shaI)) := by
 refine eW Tryz.call312 Tryz.func312 ?_
 repeat' (first | simp only [go_sem, seval] | simp (disch := first | assumption | omega) only [bP, bW] | (first | apply pX | apply bX) <;> intro hc | refine ⟨oD, ?_⟩ | exact oD | fail)
 all_goals rfl
theorem constants_ok : EvP Tryz.prog 350 [] (.agg (wl shaK)) := by
 refine eW Tryz.call350 Tryz.func350 ?_
 repeat' (first | simp only [go_sem, seval] | simp (disch := first | assumption | omega) only [bP, bW] | (first | apply pX | apply bX) <;> intro hc | refine ⟨oD, ?_⟩ | exact oD | fail)
 all_goals rfl
theorem word4 (a b c d : UInt8) : o32 (o32 (o32 (l32 a.toNat 24) (l32 b.toNat 16)) (l32 c.toNat 8)) d.toNat = num [a, b, c, d] := by
 have ha := a.toNat_lt
 have hb := b.toNat_lt
 have hc := c.toNat_lt
 have hd := d.toNat_lt
 have e1 : l32 a.toNat 24 = a.toNat * 2 ^ 24 := by unfold l32; omega
 have e2 : l32 b.toNat 16 = b.toNat * 2 ^ 16 := by unfold l32; omega
 have e3 : l32 c.toNat 8 = c.toNat * 2 ^ 8 := by unfold l32; omega
 have f1 : o32 (l32 a.toNat 24) (l32 b.toNat 16) = a.toNat * 2 ^ 24 + b.toNat * 2 ^ 16 := by
  rw [o32, e1, e2, Nat.mod_eq_of_lt (by omega), Nat.mod_eq_of_lt (by omega), orAdd (by omega)]
 have f2 : o32 (o32 (l32 a.toNat 24) (l32 b.toNat 16)) (l32 c.toNat 8) = (a.toNat * 2 ^ 8 + b.toNat) * 2 ^ 16 + c.toNat * 2 ^ 8 := by
  rw [o32, f1, e3, Nat.mod_eq_of_lt (by omega), Nat.mod_eq_of_lt (by omega), show a.toNat * 2 ^ 24 + b.toNat * 2 ^ 16 = (a.toNat * 2 ^ 8 + b.toNat) * 2 ^ 16 by omega, orAdd (by omega)]
 rw [o32, f2, Nat.mod_eq_of_lt (by omega), Nat.mod_eq_of_lt (by omega), show (a.toNat * 2 ^ 8 + b.toNat) * 2 ^ 16 + c.toNat * 2 ^ 8 = ((a.toNat * 2 ^ 8 + b.toNat) * 2 ^ 8 + c.toNat) * 2 ^ 8 by omega, orAdd (by omega)]
 simp [num]; omega
theorem four (l : Bytes) {i : Nat} (h : 4 * i + 4 ≤ l.length) : ∃ a b c d, (l.drop (4 * i)).take 4 = [a, b, c, d] ∧ ((l.map u8).take (4 * i + 4)).drop (4 * i) = [u8 a, u8 b, u8 c, u8 d] := by
 have hl : ((l.drop (4 * i)).take 4).length = 4 := by simp; omega
 have e : ((l.map u8).take (4 * i + 4)).drop (4 * i) = ((l.drop (4 * i)).take 4).map u8 := by
  rw [← List.map_take, ← List.map_drop, List.drop_take]; congr 2; omega
 generalize (l.drop (4 * i)).take 4 = m at hl e
 match m, hl with
 | [a, b, c, d], _ => exact ⟨a, b, c, d, rfl, e⟩
theorem mk24 (a : Nat) : IntKind.u32.wrap ((a : Int) * 16777216) = ((l32 a 24 : Nat) : Int) := l_r a 24
theorem mk16 (a : Nat) : IntKind.u32.wrap ((a : Int) * 65536) = ((l32 a 16 : Nat) : Int) := l_r a 16
theorem mk8 (a : Nat) : IntKind.u32.wrap ((a : Int) * 256) = ((l32 a 8 : Nat) : Int) := l_r a 8
theorem u32b (c : UInt8) : IntKind.u32.wrap ((c.toNat : Nat) : Int) = ((c.toNat : Nat) : Int) := by
 have := c.toNat_lt
 rw [wu32]; omega
theorem set_end (l : List Nat) (n x : Nat) (h : l.length < n) : (l ++ List.replicate (n - l.length) 0).set l.length x = (l ++ [x]) ++ List.replicate (n - (l ++ [x]).length) 0 := by
 obtain ⟨k, hk⟩ : ∃ k, n - l.length = k + 1 := ⟨n - l.length - 1, by omega⟩
 rw [hk, List.replicate_succ, List.set_append_right _ _ (Nat.le_refl _), Nat.sub_self, List.set_cons_zero]
 have : n - (l ++ [x]).length = k := by simp; omega
 rw [this]; simp
theorem getD_end (l : List Nat) (k i : Nat) (h : i < l.length) : (l ++ List.replicate k 0).getD i 0 = l.getD i 0 := by
 simp [List.getD_eq_getElem?_getD, List.getElem?_append_left h]
def zz (n : Nat) : List Nat := List.replicate n 0
theorem zeros64 : (icells .u32 (zz 64)).length = 64 := by rw [icells_len]; rfl
theorem schedule_ok {blk : Bytes} (hb : blk.length = 64) : EvP Tryz.prog 351 [.sl (blk.map u8)] (.agg (wl (sched blk))) := by
 have lb : (blk.map u8).length = 64 := by rw [List.length_map, hb]
 refine eW Tryz.call351 Tryz.func351 ?_
 repeat' (first | simp only [go_sem, seval] | simp (disch := first | assumption | omega) only [bP, bW] | (first | apply pX | apply bX) <;> intro hc | refine ⟨oD, ?_⟩ | exact oD | fail)
 refine loop_run (α := List Nat) (fun l => 16 - l.length) (fun l => ⟨[(0, .v (.sl (blk.map u8))), (2, .p 1000 0 0), (3, .p 1001 0 0), (9, E' l.length)], [(1000, ⟨0, icells .u32 (zz 64), false, some 367⟩), (1001, ⟨0, icells .u32 (l ++ List.replicate (64 - l.length) 0), false, some 367⟩)], _⟩) (fun l => l.length ≤ 16 ∧ l = (List.range l.length).map (shaV blk)) [] (fun _ => Nat.le_refl _) ⟨by decide, rfl⟩ ?_ ?_
 ·(refine AS.Le.of (by first | decide | omega) ?_ ?_ <;> simp [LeT, LeH, tget, hget, AV.bd, AV.bd.bdL, u8, bd_cellsOf, bcells_bd, icells_bd])
  all_goals exact ⟨rfl, rfl⟩
 ·rintro l ⟨hl, he⟩ R hR
  have hL : (icells .u32 (l ++ List.replicate (64 - l.length) 0)).length = 64 := by rw [icells_len]; simp; omega
  obtain ⟨i, hi⟩ : ∃ i, i = l.length := ⟨_, rfl⟩
  by_cases hlt : l.length < 16
  ·obtain ⟨a, b, c, d, h4, h5⟩ := four blk (i := i) (by omega)
   have hV : shaV blk i = o32 (o32 (o32 (l32 a.toNat 24) (l32 b.toNat 16)) (l32 c.toNat 8)) d.toNat := by rw [word4, shaV, h4]
   have hgo := hR (l ++ [shaV blk i]) ⟨by simp; omega, by
    rw [List.length_append, List.length_singleton, List.range_succ, List.map_append, ← he, ← hi]; rfl⟩ (by simp; omega)
   have hse := set_end l 64 (shaV blk i) (by omega)
   rw [hV] at hgo hse
   have t1 : ∀ _ : True, ((4 : Int) * (i : Int)).toNat = 4 * i := fun _ => by omega
   have t2 : ∀ _ : True, ((4 : Int) * (i : Int) + 4).toNat = 4 * i + 4 := fun _ => by omega
   have hcl : ∀ x ∈ blk.map u8, x.cells.length = 1 := fun x hx => by obtain ⟨c, -, rfl⟩ := List.mem_map.1 hx; rfl
   rw [← hi] at hL ⊢
   clear hR he h4 hV
   repeat' (first | simp only [go_sem, seval, lb, hL, t1 trivial, t2 trivial, h5, mk24, mk16, mk8, u32b, o_r] | simp (disch := first | assumption | omega) only [bP, bW] | (first | apply pX | apply bX) <;> intro hc | refine ⟨oD, ?_⟩ | exact oD | fail)
   refine ⟨⟨by omega, hcl⟩, by omega, by omega, ?_⟩
   repeat' (first | simp only [go_sem, seval] | simp (disch := first | assumption | omega) only [bP, bW] | (first | apply pX | apply bX) <;> intro hc | refine ⟨oD, ?_⟩ | exact oD | fail)
   refine hgo _ ?_
   rw [← hi] at hse
   rw [icells_put (x := o32 (o32 (o32 (l32 a.toNat 24) (l32 b.toNat 16)) (l32 c.toNat 8)) d.toNat) (by rw [icells_len] at hL; omega) rfl, hse]
   (refine AS.Le.of (by first | decide | omega) ?_ ?_ <;> simp [LeT, LeH, tget, hget, AV.bd, AV.bd.bdL, u8, bd_cellsOf, bcells_bd, icells_bd])
   all_goals first | omega | skip
  ·have hl16 : l.length = 16 := by omega
   have hs0 : l = (List.range 16).map (shaV blk) := by rw [← hl16]; exact he
   rw [hl16]
   rw [hl16] at hL
   clear hR he hlt hl hi
   repeat' (first | simp only [go_sem, seval] | simp (disch := first | assumption | omega) only [bP, bW] | (first | apply pX | apply bX) <;> intro hc | refine ⟨oD, ?_⟩ | exact oD | fail)
   refine loop_run (α := List Nat) (fun l => 64 - l.length) (fun l => ⟨[(2, .p 1000 0 0), (3, .p 1001 0 0), (6, E' l.length)], [(1000, ⟨0, icells .u32 (zz 64), false, some 367⟩), (1001, ⟨0, icells .u32 (l ++ List.replicate (64 - l.length) 0), false, some 367⟩)], _⟩) (fun l => 16 ≤ l.length ∧ l.length ≤ 64 ∧ shaX (64 - l.length) l = sched blk) l (fun _ => Nat.le_refl _) ⟨by omega, by omega, by rw [hl16, hs0]; rfl⟩ ?_ ?_
   ·rw [hl16]
    exact lE
   ·clear hs0 hL hl16 i l
    rintro l ⟨hl1, hl2, he⟩ R hR
    have hL : (icells .u32 (l ++ List.replicate (64 - l.length) 0)).length = 64 := by rw [icells_len]; simp; omega
    obtain ⟨i, hi⟩ : ∃ i, i = l.length := ⟨_, rfl⟩
    by_cases hlt : l.length < 64
    ·have hgo := hR (l ++ [shaN l]) ⟨by simp; omega, by simp; omega, by
      have : 64 - l.length = (64 - (l ++ [shaN l]).length) + 1 := by simp; omega
      rw [this] at he; exact he⟩ (by simp; omega)
     have hse := set_end l 64 (shaN l) hlt
     have hg : ∀ k : Nat, 0 < k → k ≤ 16 → (icells .u32 (l ++ List.replicate (64 - l.length) 0)).getD ((i : Int) - (k : Int)).toNat .u = .v (.i .u32 (l.getD (i - k) 0 : Nat)) := fun k h0 h1 => by
      rw [show ((i : Int) - (k : Int)).toNat = i - k by omega, icells_get (by simp; omega), getD_end l _ _ (by omega)]
     have g15 : (icells .u32 (l ++ List.replicate (64 - l.length) 0)).getD ((i : Int) - 15).toNat .u = _ := hg 15 (by decide) (by decide)
     have g2 : (icells .u32 (l ++ List.replicate (64 - l.length) 0)).getD ((i : Int) - 2).toNat .u = _ := hg 2 (by decide) (by decide)
     have g16 : (icells .u32 (l ++ List.replicate (64 - l.length) 0)).getD ((i : Int) - 16).toNat .u = _ := hg 16 (by decide) (by decide)
     have g7 : (icells .u32 (l ++ List.replicate (64 - l.length) 0)).getD ((i : Int) - 7).toNat .u = _ := hg 7 (by decide) (by decide)
     have hN : shaN l = ad (ad (ad (l.getD (i - 16) 0) (x32 (x32 (rr (l.getD (i - 15) 0) 7) (rr (l.getD (i - 15) 0) 18)) (l.getD (i - 15) 0 / 8))) (l.getD (i - 7) 0)) (x32 (x32 (rr (l.getD (i - 2) 0) 17) (rr (l.getD (i - 2) 0) 19)) (l.getD (i - 2) 0 / 1024)) := by rw [hi]; rfl
     rw [hN] at hgo hse
     rw [← hi] at hL hse g15 g2 g16 g7 ⊢
     clear hR he hN hg
     generalize l.getD (i - 16) 0 = w16 at *
     generalize l.getD (i - 15) 0 = w15 at *
     generalize l.getD (i - 7) 0 = w7 at *
     generalize l.getD (i - 2) 0 = w2 at *
     have r7 := turn_ok w15 7 (by decide) (by decide)
     have r18 := turn_ok w15 18 (by decide) (by decide)
     have r17 := turn_ok w2 17 (by decide) (by decide)
     have r19 := turn_ok w2 19 (by decide) (by decide)
     repeat' (first | simp only [go_sem, seval, hL, g15, g2, g16, g7, ad_r, x_r] | refine cP r7 ?_ | refine cP r18 ?_ | refine cP r17 ?_ | refine cP r19 ?_ | simp (disch := first | assumption | omega) only [bP, bW] | (first | apply pX | apply bX) <;> intro hc | refine ⟨oD, ?_⟩ | exact oD | fail)
     refine hgo _ ?_
     rw [icells_put (x := ad (ad (ad w16 (x32 (x32 (rr w15 7) (rr w15 18)) (w15 / 8))) w7) (x32 (x32 (rr w2 17) (rr w2 19)) (w2 / 1024))) (by rw [icells_len] at hL; omega) rfl, hse]
     (refine AS.Le.of (by first | decide | omega) ?_ ?_ <;> simp [LeT, LeH, tget, hget, AV.bd, AV.bd.bdL, u8, bd_cellsOf, bcells_bd, icells_bd])
     all_goals first | omega | skip
    ·have hl64 : l.length = 64 := by omega
     rw [hl64] at he hi hL ⊢
     have he : l = sched blk := he
     rw [Nat.sub_self, List.replicate_zero, List.append_nil] at hL ⊢
     rw [← he]
     have k1 : List.take 64 (icells .u32 l) = icells .u32 l := List.take_of_length_le (by rw [icells_len]; omega)
     have k2 : List.drop 64 (icells .u32 (zz 64)) = [] := List.drop_of_length_le (by rw [zeros64]; decide)
     have k3 : (wl l).length = 64 := by rw [wl_len, hl64]
     repeat' (first | simp only [go_sem, seval, hL, k1, k2, k3, mapO_icells, wl_v, zeros64] | simp (disch := first | assumption | omega) only [bP, bW] | (first | apply pX | apply bX) <;> intro hc | refine ⟨oD, ?_⟩ | exact oD | fail)
     all_goals skip
theorem ex8 {l : List Nat} (h : l.length = 8) : ∃ a b c d e f g i, l = [a, b, c, d, e, f, g, i] := by
 match l, h with
 | [a, b, c, d, e, f, g, i], _ => exact ⟨_, _, _, _, _, _, _, _, rfl⟩
theorem ic8 (a b c d e f g h : Nat) : icells .u32 [a, b, c, d, e, f, g, h] = [.v (.i .u32 (a : Int)), .v (.i .u32 (b : Int)), .v (.i .u32 (c : Int)), .v (.i .u32 (d : Int)), .v (.i .u32 (e : Int)), .v (.i .u32 (f : Int)), .v (.i .u32 (g : Int)), .v (.i .u32 (h : Int))] := rfl
theorem shaR8 (k w a b c d e f g h : Nat) : shaR k w [a, b, c, d, e, f, g, h] = [ad (shaT k w [a, b, c, d, e, f, g, h]) (shaU [a, b, c, d, e, f, g, h]), a, b, c, ad d (shaT k w [a, b, c, d, e, f, g, h]), e, f, g] := rfl
theorem shaT8 (k w a b c d e f g h : Nat) : shaT k w [a, b, c, d, e, f, g, h] = ad (ad (ad (ad h (x32 (x32 (rr e 6) (rr e 11)) (rr e 25))) (x32 (a32 e f) (a32 (n32 e) g))) k) w := rfl
theorem shaU8 (a b c d e f g h : Nat) : shaU [a, b, c, d, e, f, g, h] = ad (x32 (x32 (rr a 2) (rr a 13)) (rr a 22)) (x32 (x32 (a32 a b) (a32 a c)) (a32 b c)) := rfl
theorem n_r2 (e : Nat) : IntKind.u32.wrap ((@BitVec.toNat 32 (@HXor.hXor (BitVec 32) (BitVec 32) (BitVec 32) (@instHXorOfXorOp (BitVec (IntKind.bits .u32)) (@BitVec.instXorOp (IntKind.bits .u32))) (BitVec.ofInt 32 (if IntKind.u32.signed = true then -1 else IntKind.u32.max)) (BitVec.ofNat 32 e)) : Nat) : Int) = ((n32 e : Nat) : Int) := by
 have h := n_r e
 rw [ofIntNat] at h; exact h
theorem after_ok {st : List Nat} (hs : st.length = 8) {blk : Bytes} (hb : blk.length = 64) : EvP Tryz.prog 313 [.agg (wl st), .sl (blk.map u8)] (.agg (wl (shaC st blk))) := by
 have hc := constants_ok
 have hd := schedule_ok hb
 have k0 : (wl st).length = 8 := by rw [wl_len, hs]
 have k1 : (wl shaK).length = 64 := rfl
 have k2 : (wl (sched blk)).length = 64 := by rw [wl_len, sched_len]
 have k3 : (icells .u32 st).length = 8 := by rw [icells_len, hs]
 have k4 : List.take 64 (icells .u32 (sched blk)) = icells .u32 (sched blk) := List.take_of_length_le (by rw [icells_len, sched_len]; omega)
 have k5 : List.take 64 (icells .u32 shaK) = icells .u32 shaK := List.take_of_length_le (by rw [icells_len]; decide)
 have k6 : List.take 8 (icells .u32 st) = icells .u32 st := List.take_of_length_le (by rw [icells_len]; omega)
 have k7 : (icells .u32 (sched blk)).length = 64 := by rw [icells_len, sched_len]
 have k8 : (icells .u32 shaK).length = 64 := by rw [icells_len]; rfl
 refine eW Tryz.call313 Tryz.func313 ?_
 repeat' (first | simp only [go_sem, seval, k0, k1, k2, k3, k4, k5, k6, k7, k8, wl_v, mapO_icells] | refine cP hc ?_ | refine cP hd ?_ | simp (disch := first | assumption | omega) only [bP, bW] | (first | apply pX | apply bX) <;> intro hc | refine ⟨oD, ?_⟩ | exact oD | fail)
 refine loop_run (α := List Nat × Nat) (fun p => 64 - p.2) (fun p => ⟨[(2, .p 1000 0 0), (4, .p 1001 0 0), (5, .p 1005 0 0), (6, .p 1006 0 0), (7, .p 1010 0 0), (22, E' p.2)], [(1000, ⟨0, icells .u32 st, false, none⟩), (1001, ⟨0, [.v (.i .u32 0), .v (.i .u32 0), .v (.i .u32 0), .v (.i .u32 0), .v (.i .u32 0), .v (.i .u32 0), .v (.i .u32 0), .v (.i .u32 0)], false, some 341⟩), (1005, ⟨0, icells .u32 shaK, false, some 367⟩), (1006, ⟨0, icells .u32 (sched blk), false, some 367⟩), (1010, ⟨0, icells .u32 p.1, false, some 341⟩)], _⟩) (fun p => p.1.length = 8 ∧ p.2 ≤ 64 ∧ shaF (sched blk) (64 - p.2) p.1 = shaF (sched blk) 64 st) (st, 0) (fun _ => Nat.le_refl _) ⟨hs, Nat.zero_le _, rfl⟩ ?_ ?_
 ·exact lE
 ·rintro ⟨v, i⟩ ⟨hv, hi, he⟩ R hR
  obtain ⟨a, b, c, d, e, f, g, h, rfl⟩ := ex8 hv
  by_cases hlt : i < 64
  ·have hgo := hR (shaR (shaK.getD i 0) ((sched blk).getD i 0) [a, b, c, d, e, f, g, h], i + 1) ⟨rfl, hlt, by
    rw [show 64 - i = (64 - (i + 1)) + 1 by omega, shaF, show 63 - (64 - (i + 1)) = i by omega] at he; exact he⟩ (by simp; omega)
   have gk : (icells .u32 shaK).getD i .u = .v (.i .u32 (shaK.getD i 0 : Nat)) := icells_get (by exact hlt)
   have gw : (icells .u32 (sched blk)).getD i .u = .v (.i .u32 ((sched blk).getD i 0 : Nat)) := icells_get (by rw [sched_len]; exact hlt)
   have r6 := turn_ok e 6 (by decide) (by decide)
   have r11 := turn_ok e 11 (by decide) (by decide)
   have r25 := turn_ok e 25 (by decide) (by decide)
   have r2 := turn_ok a 2 (by decide) (by decide)
   have r13 := turn_ok a 13 (by decide) (by decide)
   have r22 := turn_ok a 22 (by decide) (by decide)
   simp only [shaR8, shaT8, shaU8, ic8] at hgo ⊢
   generalize shaK.getD i 0 = ki at hgo gk
   generalize (sched blk).getD i 0 = wi at hgo gw
   clear hR he hv
   repeat' (first | simp only [go_sem, seval, k7, k8, gk, gw, ad_r, x_r, a_r, n_r2] | refine cP r6 ?_ | refine cP r11 ?_ | refine cP r25 ?_ | refine cP r2 ?_ | refine cP r13 ?_ | refine cP r22 ?_ | simp (disch := first | assumption | omega) only [bP, bW] | (first | apply pX | apply bX) <;> intro hc | refine ⟨oD, ?_⟩ | exact oD | fail)
   refine hgo _ ?_
   (refine AS.Le.of (by first | decide | omega) ?_ ?_ <;> simp [LeT, LeH, tget, hget, AV.bd, AV.bd.bdL, u8, bd_cellsOf, bcells_bd, icells_bd])
   all_goals first | omega | (erw [n_r2 e]; simp only [a_r, x_r, ad_r, and_self])
  ·have hl : i = 64 := by omega
   subst hl
   have he : [a, b, c, d, e, f, g, h] = shaF (sched blk) 64 st := he
   have hw : shaC st blk = List.zipWith ad [a, b, c, d, e, f, g, h] st := by rw [shaC, ← he]
   rw [hw]
   clear hR he hv hw
   obtain ⟨s0, s1, s2, s3, s4, s5, s6, s7, rfl⟩ := ex8 hs
   simp only [ic8]
   repeat' (first | simp only [go_sem, seval, k7, k8, ad_r] | simp (disch := first | assumption | omega) only [bP, bW] | (first | apply pX | apply bX) <;> intro hc | refine ⟨oD, ?_⟩ | exact oD | fail)
   all_goals refine loop_unroll' ?_
   repeat' (first | simp only [go_sem, seval, k7, k8, ad_r] | simp (disch := first | assumption | omega) only [bP, bW] | (first | apply pX | apply bX) <;> intro hc | refine ⟨oD, ?_⟩ | exact oD | fail)
   all_goals refine loop_unroll' ?_
   repeat' (first | simp only [go_sem, seval, k7, k8, ad_r] | simp (disch := first | assumption | omega) only [bP, bW] | (first | apply pX | apply bX) <;> intro hc | refine ⟨oD, ?_⟩ | exact oD | fail)
   all_goals refine loop_unroll' ?_
   repeat' (first | simp only [go_sem, seval, k7, k8, ad_r] | simp (disch := first | assumption | omega) only [bP, bW] | (first | apply pX | apply bX) <;> intro hc | refine ⟨oD, ?_⟩ | exact oD | fail)
   all_goals refine loop_unroll' ?_
   repeat' (first | simp only [go_sem, seval, k7, k8, ad_r] | simp (disch := first | assumption | omega) only [bP, bW] | (first | apply pX | apply bX) <;> intro hc | refine ⟨oD, ?_⟩ | exact oD | fail)
   all_goals refine loop_unroll' ?_
   repeat' (first | simp only [go_sem, seval, k7, k8, ad_r] | simp (disch := first | assumption | omega) only [bP, bW] | (first | apply pX | apply bX) <;> intro hc | refine ⟨oD, ?_⟩ | exact oD | fail)
   all_goals refine loop_unroll' ?_
   repeat' (first | simp only [go_sem, seval, k7, k8, ad_r] | simp (disch := first | assumption | omega) only [bP, bW] | (first | apply pX | apply bX) <;> intro hc | refine ⟨oD, ?_⟩ | exact oD | fail)
   all_goals refine loop_unroll' ?_
   repeat' (first | simp only [go_sem, seval, k7, k8, ad_r] | simp (disch := first | assumption | omega) only [bP, bW] | (first | apply pX | apply bX) <;> intro hc | refine ⟨oD, ?_⟩ | exact oD | fail)
   all_goals refine loop_unroll' ?_
   repeat' (first | simp only [go_sem, seval, k7, k8, ad_r] | simp (disch := first | assumption | omega) only [bP, bW] | (first | apply pX | apply bX) <;> intro hc | refine ⟨oD, ?_⟩ | exact oD | fail)
   all_goals refine loop_unroll' ?_
   repeat' (first | simp only [go_sem, seval, k7, k8, ad_r] | simp (disch := first | assumption | omega) only [bP, bW] | (first | apply pX | apply bX) <;> intro hc | refine ⟨oD, ?_⟩ | exact oD | fail)
   all_goals rfl
def zy (n : Nat) : Bytes := List.replicate n 0
theorem zy_len (n : Nat) : (zy n).length = n := List.length_replicate
theorem mk0 (n : Nat) : (List.replicate n [AV.v (.i .u8 0)]).flatten = bcells (zy n) := by
 unfold zy
 induction n with
 | zero => rfl
 | succ n ih => rw [List.replicate_succ, List.flatten_cons, ih, List.replicate_succ]; rfl
theorem bcells_all (l : Bytes) : (bcells l).all AV.one = true := by
 unfold bcells
 induction l with
 | nil => rfl
 | cons c l ih => rw [List.map_cons, List.all_cons, ih]; rfl
theorem bdrop (l : Bytes) (n : Nat) : List.drop n (bcells l) = bcells (l.drop n) := by unfold bcells; exact (List.map_drop ..).symm
theorem btake (l : Bytes) (n : Nat) : List.take n (bcells l) = bcells (l.take n) := by unfold bcells; exact (List.map_take ..).symm
theorem bsnoc (l : Bytes) (n : Nat) : bcells l ++ [AV.v (.i .u8 (IntKind.u8.wrap (n : Int)))] = bcells (l ++ [UInt8.ofNat n]) := by
 rw [← bcells_app]; congr 1
theorem bsnoc0 (l : Bytes) : bcells l ++ [AV.v (.i .u8 0)] = bcells (l ++ [0]) := by rw [← bcells_app]; rfl
theorem bsnoc128 (l : Bytes) : bcells l ++ [AV.v (.i .u8 128)] = bcells (l ++ [128]) := by rw [← bcells_app]; rfl
theorem view_part {hf : Nat → Option AObj} {f n ver o m : Nat} {l : Bytes} {gr : Bool} {el : Option TypeId} (hm : o + m ≤ l.length) (h : hf n = some ⟨ver, bcells l, gr, el⟩) :
  view hf (f + 2) (.rs n ver o m 1) = some (.sl (((l.drop o).take m).map u8)) := by
 have h1 : mapO (view hf (f + 1)) (bcells ((l.drop o).take m)) = some (((l.drop o).take m).map u8) := by
  have := mapO_view_v hf f (((l.drop o).take m).map u8)
  rw [List.map_map] at this; exact this
 have h2 : (bcells ((l.drop o).take m)).all AV.one = true := bcells_all _
 have h3 : chunk 1 m (((l.drop o).take m).map u8) = ((l.drop o).take m).map u8 := by
  have := chunk1 (((l.drop o).take m).map u8)
  rwa [List.length_map, List.length_take, List.length_drop, Nat.min_eq_left (by omega)] at this
 simp only [view, h, bdrop, btake, bcells_len, Nat.mul_one, h1, h2, h3, hm, Option.map_some]
 simp
theorem viewN_part {hf : Nat → Option AObj} {f n ver o m : Nat} {l : Bytes} {gr : Bool} {el : Option TypeId} (h : hf n = some ⟨ver, bcells l, gr, el⟩) :
  viewN hf (f + 2) (.rs n ver o m 1) = [n] := by
 have h1 : ∀ l : Bytes, (bcells l).flatMap (viewN hf (f + 1)) = [] := fun l => by
  unfold bcells
  induction l with
  | nil => rfl
  | cons x r ih => simp_all [viewN]
 simp only [viewN, h, bdrop, btake, h1]
theorem byteW (n : Nat) : AV.byte (.v (.i .u8 (IntKind.u8.wrap (n : Int)))) = UInt8.ofNat n := by
 simp [AV.byte, PV.byte, IntKind.wrap_u8]
 apply UInt8.toNat.inj; simp; omega
theorem isbW (n : Nat) : AV.isByte (.v (.i .u8 (IntKind.u8.wrap (n : Int)))) = True := by
 simp [AV.isByte, PV.isByte, IntKind.wrap_u8]
theorem flat_wl (l : List Nat) : (PV.agg (wl l)).flat = true := by
 unfold wl
 induction l with
 | nil => rfl
 | cons x l ih => simp_all [PV.flat, PV.flat.flatL]
theorem CR_blk {P : Program} [Tabs P] {Q : AX → AS → Prop} {nx : Nat} {bf : Option (List Nat)} {nn : Nat} {d : Option Nat} {ops : List SOp} {k : Nat} {s : AS} {tr : List (Nat × List Nat × List Nat)} {K : List Fr} {nm : Nat} {f : FuncId} {n ver o m : Nat} {l : Bytes} {gr : Bool} {el : Option TypeId} {x r : PV}
  (he : EvP P f [x, .sl (((l.drop o).take m).map u8)] r) (hr : r.flat = true) (hg : hget s.h n = some ⟨ver, bcells l, gr, el⟩) (hm : o + m ≤ l.length) (hK : RW P Q nx bf nn ops (k + 1) (s.upd d (.v r) []) (trU bf k [n] [] tr) K) :
  CR P Q nx bf nn nm (.v (.fn (.func f))) [.v x, .rs n ver o m 1] d ops k s tr K := by
 refine CR_view he ?_ hr ?_
 ·simp [mapO, view_part hm hg]; rfl
 ·have : [AV.v x, AV.rs n ver o m 1].flatMap (viewN (hget s.h) 9) = [n] := by simp [viewN_part hg]; rfl
  rw [this]; exact hK
theorem Sum_ok {s : Bytes} (hs : s.length < 1000000000) : EvP Tryz.prog 253 [.s s] (.s (sumB s)) := by
 have hf := first_ok
 have t1 : ∀ _ : True, ((s.length : Int) + 72) = ((s.length + 72 : Nat) : Int) := fun _ => by omega
 have e1 : List.drop s.length (zy (s.length + 72)) = zy 72 := by
  unfold zy; rw [List.drop_replicate, Nat.add_sub_cancel_left]
 have e2 : List.take s.length (s ++ zy 72) = s := List.take_left' rfl
 have e3 : s.length ≤ (s ++ zy 72).length := by simp
 have k1 : (wl shaI).length = 8 := rfl
 have k2 : (icells .u32 shaI).length = 8 := rfl
 have k3 : List.take 8 (icells .u32 shaI) = icells .u32 shaI := List.take_of_length_le (by rw [icells_len]; decide)
 have k4 : List.drop 8 (icells .u32 shaI) = [] := List.drop_of_length_le (by rw [icells_len]; decide)
 refine eW Tryz.call253 Tryz.func253 ?_
 repeat' (first | simp only [go_sem, seval, t1 trivial, mk0, bdrop, btake, bfold, bcells_app, bsnoc128, zy_len, e1, e2] | simp (disch := first | assumption | omega) only [bP, bW] | (first | apply pX | apply bX) <;> intro hc | refine ⟨oD, ?_⟩ | exact oD | fail)
 refine loop_run (α := Nat) (fun c => 64 - c) (fun c => ⟨[(0, .v (.s s)), (3, .rs 1006 (1 + c) 0 (s.length + 1 + c) 1)], [(1006, ⟨1 + c, bcells (s ++ 128 :: zy c), true, none⟩)], 1015⟩) (fun c => c ≤ (119 - s.length % 64) % 64) 0 (fun _ => Nat.le_refl _) (Nat.zero_le _) ?_ ?_
 ·(refine AS.Le.of (by first | decide | omega) ?_ ?_ <;> simp [LeT, LeH, tget, hget, AV.bd, AV.bd.bdL, u8, bd_cellsOf, bcells_bd, icells_bd])
  all_goals rfl
 ·intro c hc R hR
  have hl : (s ++ 128 :: zy c).length = s.length + 1 + c := by simp [zy_len]; omega
  have hT : List.take (s.length + 1 + c) (s ++ 128 :: zy c) = s ++ 128 :: zy c := by rw [← hl]; exact List.take_length
  have hz : s ++ 128 :: zy c ++ [0] = s ++ 128 :: zy (c + 1) := by
   rw [List.append_assoc]; congr 1; unfold zy; rw [List.replicate_succ']; rfl
  by_cases hlt : c = (119 - s.length % 64) % 64
  ·have h5 : ∀ _ : True, (((s.length + 1 + c) % 64 : Nat) : Int) = 56 := fun _ => by omega
   have w1 : ∀ _ : True, IntKind.u64.wrap (s.length : Int) = (s.length : Int) := fun _ => by rw [wu64]; omega
   have w2 : ∀ _ : True, IntKind.u64.wrap ((s.length : Int) * 8) = ((s.length * 8 : Nat) : Int) := fun _ => by rw [wu64]; omega
   clear hR
   repeat' (first | simp only [go_sem, seval, hl, hT, bsnoc0, bdrop, btake, h5 trivial, w1 trivial, w2 trivial] | simp (disch := first | assumption | omega) only [bP, bW] | (first | apply pX | apply bX) <;> intro hc | refine ⟨oD, ?_⟩ | exact oD | fail)
   obtain ⟨N, hN⟩ : ∃ N, N = s.length * 8 := ⟨_, rfl⟩
   obtain ⟨M0, hM0⟩ : ∃ M, M = s ++ 128 :: zy c := ⟨_, rfl⟩
   rw [← hN, ← hM0]
   obtain ⟨m0, hm0⟩ : ∃ m, m = s.length + 1 + c := ⟨_, rfl⟩
   rw [← hm0]
   have hL0 : M0.length = m0 := by rw [hM0, hm0, hl]
   have hT0 : List.take m0 M0 = M0 := by rw [hm0, hM0, hT]
   obtain ⟨v0, hv0⟩ : ∃ v, v = 1 + c := ⟨_, rfl⟩
   rw [← hv0]
   have hb1 : m0 < 2000000000 := by omega
   clear hl hT hc h5 w1 w2
   refine loop_unroll' ?_
   repeat' (first | simp only [go_sem, seval, hL0, hT0, bsnoc, bdrop, btake] | simp (disch := first | assumption | omega) only [bP, bW] | (first | apply pX | apply bX) <;> intro hc | refine ⟨oD, ?_⟩ | exact oD | fail)
   all_goals try refine ⟨by omega, ?_⟩
   obtain ⟨M1, hM1⟩ : ∃ x, x = M0 ++ [UInt8.ofNat (N / 72057594037927936)] := ⟨_, rfl⟩
   obtain ⟨m1, hm1⟩ : ∃ x, x = m0 + 1 := ⟨_, rfl⟩
   obtain ⟨v1, hv1⟩ : ∃ x, x = v0 + 1 := ⟨_, rfl⟩
   rw [← hM1, ← hm1, ← hv1]
   have hL1 : M1.length = m1 := by rw [hM1, hm1, List.length_append, hL0]; rfl
   have hT1 : List.take m1 M1 = M1 := by rw [← hL1]; exact List.take_length
   refine loop_unroll' ?_
   repeat' (first | simp only [go_sem, seval, hL1, hT1, bsnoc, bdrop, btake] | simp (disch := first | assumption | omega) only [bP, bW] | (first | apply pX | apply bX) <;> intro hc | refine ⟨oD, ?_⟩ | exact oD | fail)
   all_goals try refine ⟨by omega, ?_⟩
   obtain ⟨M2, hM2⟩ : ∃ x, x = M1 ++ [UInt8.ofNat (N / 281474976710656)] := ⟨_, rfl⟩
   obtain ⟨m2, hm2⟩ : ∃ x, x = m1 + 1 := ⟨_, rfl⟩
   obtain ⟨v2, hv2⟩ : ∃ x, x = v1 + 1 := ⟨_, rfl⟩
   rw [← hM2, ← hm2, ← hv2]
   have hL2 : M2.length = m2 := by rw [hM2, hm2, List.length_append, hL1]; rfl
   have hT2 : List.take m2 M2 = M2 := by rw [← hL2]; exact List.take_length
   refine loop_unroll' ?_
   repeat' (first | simp only [go_sem, seval, hL2, hT2, bsnoc, bdrop, btake] | simp (disch := first | assumption | omega) only [bP, bW] | (first | apply pX | apply bX) <;> intro hc | refine ⟨oD, ?_⟩ | exact oD | fail)
   all_goals try refine ⟨by omega, ?_⟩
   obtain ⟨M3, hM3⟩ : ∃ x, x = M2 ++ [UInt8.ofNat (N / 1099511627776)] := ⟨_, rfl⟩
   obtain ⟨m3, hm3⟩ : ∃ x, x = m2 + 1 := ⟨_, rfl⟩
   obtain ⟨v3, hv3⟩ : ∃ x, x = v2 + 1 := ⟨_, rfl⟩
   rw [← hM3, ← hm3, ← hv3]
   have hL3 : M3.length = m3 := by rw [hM3, hm3, List.length_append, hL2]; rfl
   have hT3 : List.take m3 M3 = M3 := by rw [← hL3]; exact List.take_length
   refine loop_unroll' ?_
   repeat' (first | simp only [go_sem, seval, hL3, hT3, bsnoc, bdrop, btake] | simp (disch := first | assumption | omega) only [bP, bW] | (first | apply pX | apply bX) <;> intro hc | refine ⟨oD, ?_⟩ | exact oD | fail)
   all_goals try refine ⟨by omega, ?_⟩
   obtain ⟨M4, hM4⟩ : ∃ x, x = M3 ++ [UInt8.ofNat (N / 4294967296)] := ⟨_, rfl⟩
   obtain ⟨m4, hm4⟩ : ∃ x, x = m3 + 1 := ⟨_, rfl⟩
   obtain ⟨v4, hv4⟩ : ∃ x, x = v3 + 1 := ⟨_, rfl⟩
   rw [← hM4, ← hm4, ← hv4]
   have hL4 : M4.length = m4 := by rw [hM4, hm4, List.length_append, hL3]; rfl
   have hT4 : List.take m4 M4 = M4 := by rw [← hL4]; exact List.take_length
   refine loop_unroll' ?_
   repeat' (first | simp only [go_sem, seval, hL4, hT4, bsnoc, bdrop, btake] | simp (disch := first | assumption | omega) only [bP, bW] | (first | apply pX | apply bX) <;> intro hc | refine ⟨oD, ?_⟩ | exact oD | fail)
   all_goals try refine ⟨by omega, ?_⟩
   obtain ⟨M5, hM5⟩ : ∃ x, x = M4 ++ [UInt8.ofNat (N / 16777216)] := ⟨_, rfl⟩
   obtain ⟨m5, hm5⟩ : ∃ x, x = m4 + 1 := ⟨_, rfl⟩
   obtain ⟨v5, hv5⟩ : ∃ x, x = v4 + 1 := ⟨_, rfl⟩
   rw [← hM5, ← hm5, ← hv5]
   have hL5 : M5.length = m5 := by rw [hM5, hm5, List.length_append, hL4]; rfl
   have hT5 : List.take m5 M5 = M5 := by rw [← hL5]; exact List.take_length
   refine loop_unroll' ?_
   repeat' (first | simp only [go_sem, seval, hL5, hT5, bsnoc, bdrop, btake] | simp (disch := first | assumption | omega) only [bP, bW] | (first | apply pX | apply bX) <;> intro hc | refine ⟨oD, ?_⟩ | exact oD | fail)
   all_goals try refine ⟨by omega, ?_⟩
   obtain ⟨M6, hM6⟩ : ∃ x, x = M5 ++ [UInt8.ofNat (N / 65536)] := ⟨_, rfl⟩
   obtain ⟨m6, hm6⟩ : ∃ x, x = m5 + 1 := ⟨_, rfl⟩
   obtain ⟨v6, hv6⟩ : ∃ x, x = v5 + 1 := ⟨_, rfl⟩
   rw [← hM6, ← hm6, ← hv6]
   have hL6 : M6.length = m6 := by rw [hM6, hm6, List.length_append, hL5]; rfl
   have hT6 : List.take m6 M6 = M6 := by rw [← hL6]; exact List.take_length
   refine loop_unroll' ?_
   repeat' (first | simp only [go_sem, seval, hL6, hT6, bsnoc, bdrop, btake] | simp (disch := first | assumption | omega) only [bP, bW] | (first | apply pX | apply bX) <;> intro hc | refine ⟨oD, ?_⟩ | exact oD | fail)
   all_goals try refine ⟨by omega, ?_⟩
   obtain ⟨M7, hM7⟩ : ∃ x, x = M6 ++ [UInt8.ofNat (N / 256)] := ⟨_, rfl⟩
   obtain ⟨m7, hm7⟩ : ∃ x, x = m6 + 1 := ⟨_, rfl⟩
   obtain ⟨v7, hv7⟩ : ∃ x, x = v6 + 1 := ⟨_, rfl⟩
   rw [← hM7, ← hm7, ← hv7]
   have hL7 : M7.length = m7 := by rw [hM7, hm7, List.length_append, hL6]; rfl
   have hT7 : List.take m7 M7 = M7 := by rw [← hL7]; exact List.take_length
   refine loop_unroll' ?_
   repeat' (first | simp only [go_sem, seval, hL7, hT7, bsnoc, bdrop, btake] | simp (disch := first | assumption | omega) only [bP, bW] | (first | apply pX | apply bX) <;> intro hc | refine ⟨oD, ?_⟩ | exact oD | fail)
   all_goals try refine ⟨by omega, ?_⟩
   obtain ⟨M8, hM8⟩ : ∃ x, x = M7 ++ [UInt8.ofNat (N / 1)] := ⟨_, rfl⟩
   obtain ⟨m8, hm8⟩ : ∃ x, x = m7 + 1 := ⟨_, rfl⟩
   obtain ⟨v8, hv8⟩ : ∃ x, x = v7 + 1 := ⟨_, rfl⟩
   rw [← hM8, ← hm8, ← hv8]
   have hL8 : M8.length = m8 := by rw [hM8, hm8, List.length_append, hL7]; rfl
   have hT8 : List.take m8 M8 = M8 := by rw [← hL8]; exact List.take_length
   have hP : M8 = pad s := by
    rw [hM8, hM7, hM6, hM5, hM4, hM3, hM2, hM1, hM0, hlt, hN, pad]
    simp only [be, zy, List.append_assoc, List.cons_append, List.nil_append, Nat.reducePow, Nat.pow_zero, Nat.div_one]
   clear hM8 hM7 hM6 hM5 hM4 hM3 hM2 hM1 hM0 hT0 hT1 hT2 hT3 hT4 hT5 hT6 hT7 hL0 hL1 hL2 hL3 hL4 hL5 hL6 hL7
   subst hP
   refine loop_unroll' ?_
   repeat' (first | simp only [go_sem, seval, k1, k2, k3, k4, wl_v] | refine cP hf ?_ | simp (disch := first | assumption | omega) only [bP, bW] | (first | apply pX | apply bX) <;> intro hc | refine ⟨oD, ?_⟩ | exact oD | fail)
   clear hT8
   obtain ⟨l, hl⟩ : ∃ l, l = pad s := ⟨_, rfl⟩
   have hm6 : l.length = l.length / 64 * 64 := by rw [hl]; exact pad_64 s
   have hsum : sumB s = (shaB (l.length / 64) l shaI).flatMap outW := by rw [hl]; rfl
   rw [hsum]
   rw [← hl] at hL8 ⊢
   clear hsum hl hv1 hv2 hv3 hv4 hv5 hv6 hv7 hv8 hv0 hlt hN e1 e2 e3 t1
   have hb8 : m8 < 2000000008 := by omega
   have hm8 : m8 = m8 / 64 * 64 := by omega
   clear hb1 hm0 hm1 hm2 hm3 hm4 hm5 hm6 hm7
   rw [hL8]
   refine loop_run (α := Nat × Nat × List Nat) (fun p => p.2.1) (fun p => ⟨[(3, .rs 1006 v8 p.1 p.2.1 1), (6, .p 1132 0 0)], [(1006, ⟨v8, bcells l, true, none⟩), (1132, ⟨0, icells .u32 p.2.2, false, some 341⟩)], _⟩) (fun p => p.1 + p.2.1 = m8 ∧ p.2.1 = p.2.1 / 64 * 64 ∧ p.2.2.length = 8 ∧ shaB (p.2.1 / 64) (l.drop p.1) p.2.2 = shaB (m8 / 64) l shaI) (0, m8, shaI) (fun _ => Nat.le_refl _) ⟨Nat.zero_add _, hm8, rfl, rfl⟩ ?_ ?_
   ·exact lE
   ·rintro ⟨o, r, st⟩ ⟨ho, hr, hst, he⟩ R hR
    have ho : o + r = m8 := ho
    have hr : r = r / 64 * 64 := hr
    have hst : st.length = 8 := hst
    have he : shaB (r / 64) (l.drop o) st = shaB (m8 / 64) l shaI := he
    have q1 : (icells .u32 st).length = 8 := by rw [icells_len, hst]
    have q2 : List.take 8 (icells .u32 st) = icells .u32 st := List.take_of_length_le (by omega)
    rcases Nat.eq_zero_or_pos (r / 64) with h0 | h0
    ·have hr0 : r = 0 := by omega
     subst hr0
     have he : st = shaB (m8 / 64) l shaI := by rw [← he]; rfl
     rw [← he]
     clear hR he h0 hr
     obtain ⟨a, b, c, d, e, f, g, i, rfl⟩ := ex8 hst
     have w8 : wl [a, b, c, d, e, f, g, i] = [.i .u32 (a : Int), .i .u32 (b : Int), .i .u32 (c : Int), .i .u32 (d : Int), .i .u32 (e : Int), .i .u32 (f : Int), .i .u32 (g : Int), .i .u32 (i : Int)] := rfl
     repeat' (first | simp only [go_sem, seval, q1, q2, mapO_icells, k1] | simp (disch := first | assumption | omega) only [bP, bW] | (first | apply pX | apply bX) <;> intro hc | refine ⟨oD, ?_⟩ | exact oD | fail)
     rw [w8]
     refine loop_unroll' ?_
     repeat' (first | simp only [go_sem, seval, isbW, byteW] | simp (disch := first | assumption | omega) only [bP, bW] | (first | apply pX | apply bX) <;> intro hc | refine ⟨oD, ?_⟩ | exact oD | fail)
     refine loop_unroll' ?_
     repeat' (first | simp only [go_sem, seval, isbW, byteW] | simp (disch := first | assumption | omega) only [bP, bW] | (first | apply pX | apply bX) <;> intro hc | refine ⟨oD, ?_⟩ | exact oD | fail)
     refine loop_unroll' ?_
     repeat' (first | simp only [go_sem, seval, isbW, byteW] | simp (disch := first | assumption | omega) only [bP, bW] | (first | apply pX | apply bX) <;> intro hc | refine ⟨oD, ?_⟩ | exact oD | fail)
     refine loop_unroll' ?_
     repeat' (first | simp only [go_sem, seval, isbW, byteW] | simp (disch := first | assumption | omega) only [bP, bW] | (first | apply pX | apply bX) <;> intro hc | refine ⟨oD, ?_⟩ | exact oD | fail)
     refine loop_unroll' ?_
     repeat' (first | simp only [go_sem, seval, isbW, byteW] | simp (disch := first | assumption | omega) only [bP, bW] | (first | apply pX | apply bX) <;> intro hc | refine ⟨oD, ?_⟩ | exact oD | fail)
     refine loop_unroll' ?_
     repeat' (first | simp only [go_sem, seval, isbW, byteW] | simp (disch := first | assumption | omega) only [bP, bW] | (first | apply pX | apply bX) <;> intro hc | refine ⟨oD, ?_⟩ | exact oD | fail)
     refine loop_unroll' ?_
     repeat' (first | simp only [go_sem, seval, isbW, byteW] | simp (disch := first | assumption | omega) only [bP, bW] | (first | apply pX | apply bX) <;> intro hc | refine ⟨oD, ?_⟩ | exact oD | fail)
     refine loop_unroll' ?_
     repeat' (first | simp only [go_sem, seval, isbW, byteW] | simp (disch := first | assumption | omega) only [bP, bW] | (first | apply pX | apply bX) <;> intro hc | refine ⟨oD, ?_⟩ | exact oD | fail)
     refine loop_unroll' ?_
     repeat' (first | simp only [go_sem, seval, isbW, byteW] | simp (disch := first | assumption | omega) only [bP, bW] | (first | apply pX | apply bX) <;> intro hc | refine ⟨oD, ?_⟩ | exact oD | fail)
     all_goals rfl
    ·obtain ⟨r', rfl⟩ : ∃ r', r = r' + 64 := ⟨r - 64, by omega⟩
     have f1 : o + 64 + r' = m8 := by omega
     have f2 : r' = r' / 64 * 64 := by omega
     have hgo := hR (o + 64, r', shaC st ((l.drop o).take 64)) ⟨f1, f2, shaC_len _ hst, by
      rw [show (r' + 64) / 64 = r' / 64 + 1 by omega, shaB, List.drop_drop] at he
      rw [Nat.add_comm o 64]; rw [Nat.add_comm o 64] at he; exact he⟩ (by simp)
     have hblk : ((l.drop o).take 64).length = 64 := by rw [List.length_take, List.length_drop]; omega
     have ha := after_ok hst hblk
     have q3 : (wl (shaC st ((l.drop o).take 64))).length = 8 := by rw [wl_len, shaC_len _ hst]
     have q4 : List.drop 8 (icells .u32 st) = [] := List.drop_of_length_le (by omega)
     have hfl := flat_wl (shaC st ((l.drop o).take 64))
     clear hR he h0
     repeat' (first | simp only [go_sem, seval, q1, q2, q3, q4, mapO_icells, wl_v] | (refine CR_blk (gr := true) (el := none) (ver := v8) (l := l) ha hfl (by simp [hget]) (by omega) ?_) | simp (disch := first | assumption | omega) only [bP, bW] | (first | apply pX | apply bX) <;> intro hc | refine ⟨oD, ?_⟩ | exact oD | fail)
     refine ⟨by rw [icells_len]; exact shaC_len _ hst, rfl, by omega, hgo _ ?_⟩
     (refine AS.Le.of (by first | decide | omega) ?_ ?_ <;> simp [LeT, LeH, tget, hget, AV.bd, AV.bd.bdL, u8, bd_cellsOf, bcells_bd, icells_bd])
     all_goals first | omega | skip
  ·have h5 : ∀ _ : True, ¬ (((s.length + 1 + c) % 64 : Nat) : Int) = 56 := fun _ => by omega
   have hgo := hR (c + 1) (by omega) (by omega)
   clear hR
   repeat' (first | simp only [go_sem, seval, hl, hT, bsnoc0, bdrop, btake, hz, h5 trivial] | simp (disch := first | assumption | omega) only [bP, bW] | (first | apply pX | apply bX) <;> intro hc | refine ⟨oD, ?_⟩ | exact oD | fail)
   refine hgo _ ?_
   (refine AS.Le.of (by first | decide | omega) ?_ ?_ <;> simp [LeT, LeH, tget, hget, AV.bd, AV.bd.bdL, u8, bd_cellsOf, bcells_bd, icells_bd])
   all_goals first | omega | skip
end Go.Proofs.YthbognfeadopjaaGreatDoor
