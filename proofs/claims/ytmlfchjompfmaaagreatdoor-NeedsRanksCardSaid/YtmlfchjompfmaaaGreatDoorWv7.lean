/- Package version: Compare (printed by gen/gen_wv7.py out of XWv7.src). -/
import Derived.Test.YtmlfchjompfmaaaGreatDoorWvB
import Derived.Test.YtmlfchjompfmaaaGreatDoorRegs
import Derived.Test.YtmlfchjompfmaaaGreatDoorOrA
import Derived.Deep.DeepCutAuto
import Derived.BigFrame
set_option linter.unusedVariables false
namespace Go.Proofs.YtmlfchjompfmaaaGreatDoor
open Go.RowKit
open Vn (partB rankOf numOf wordOf plt cmpTo okP)
def cmpV (a b : List UInt8) : Int :=
 if mayB a = true then (if mayB b = true then cmpTo (cutB 46 a) (cutB 46 b) (max (cutB 46 a).length (cutB 46 b).length) 0 else 1) else if mayB b = true then -1 else 0
theorem partOf_nil : partOf [] = endP := by
 unfold partOf endP
 rfl
theorem getD_partOf (l : List (List UInt8)) (i : Nat) : (l.map partOf).getD i endP = partOf (l.getD i []) := by
 rw [List.getD_eq_getElem?_getD, List.getD_eq_getElem?_getD, List.getElem?_map]
 cases l[i]? with
 | none => exact partOf_nil.symm
 | some x => rfl
theorem cmpI_lt {a b : Nat} (h : a < b) : Lib.compareInt (a : Int) (b : Int) = -1 := by unfold Lib.compareInt; rw [if_pos (by omega)]
theorem cmpI_gt {a b : Nat} (h : b < a) : Lib.compareInt (a : Int) (b : Int) = 1 := by unfold Lib.compareInt; rw [if_neg (by omega), if_pos (by omega)]
theorem cmpI_eq {a b : Nat} (h : a = b) : Lib.compareInt (a : Int) (b : Int) = 0 := by unfold Lib.compareInt; rw [if_neg (by omega), if_neg (by omega)]
theorem or_plt (x y : List UInt8) : orL [Lib.compareInt (rankOf x : Int) (rankOf y : Int), Lib.compareInt (numOf x : Int) (numOf y : Int), cmpS (wordOf x) (wordOf y)] = if plt x y then -1 else if plt y x then 1 else 0 := by
 rcases Nat.lt_trichotomy (rankOf x) (rankOf y) with h | h | h
 ·rw [cmpI_lt h, if_pos (show plt x y from .inl h)]; simp [orL]
 ·rw [cmpI_eq h]
  rcases Nat.lt_trichotomy (numOf x) (numOf y) with g | g | g
  ·rw [cmpI_lt g, if_pos (show plt x y from .inr ⟨h, .inl g⟩)]; simp [orL]
  ·rw [cmpI_eq g]
   by_cases c1 : wordOf x < wordOf y
   ·rw [show cmpS (wordOf x) (wordOf y) = -1 from if_pos c1, if_pos (show plt x y from .inr ⟨h, .inr ⟨g, c1⟩⟩)]; simp [orL]
   ·have n1 : ¬ plt x y := fun hh => by
     rcases hh with hh | ⟨_, hh | ⟨_, hh⟩⟩
     ·omega
     ·omega
     ·exact c1 hh
    rw [if_neg n1]
    by_cases c2 : wordOf y < wordOf x
    ·rw [show cmpS (wordOf x) (wordOf y) = 1 from (if_neg c1).trans (if_pos c2), if_pos (show plt y x from .inr ⟨h.symm, .inr ⟨g.symm, c2⟩⟩)]; simp [orL]
    ·have n2 : ¬ plt y x := fun hh => by
      rcases hh with hh | ⟨_, hh | ⟨_, hh⟩⟩
      ·omega
      ·omega
      ·exact c2 hh
     rw [show cmpS (wordOf x) (wordOf y) = 0 from (if_neg c1).trans (if_neg c2), if_neg n2]; simp [orL]
  ·have n1 : ¬ plt x y := fun hh => by rcases hh with hh | ⟨_, hh | ⟨_, hh⟩⟩ <;> omega
   rw [cmpI_gt g, if_neg n1, if_pos (show plt y x from .inr ⟨h.symm, .inl g⟩)]; simp [orL]
 ·have n1 : ¬ plt x y := fun hh => by rcases hh with hh | ⟨hh, _⟩ <;> omega
  rw [cmpI_gt h, if_neg n1, if_pos (show plt y x from .inl h)]; simp [orL]
section
variable {w w' : World} {B : Nat}
set_option maxRecDepth 100000 in
set_option maxHeartbeats 4000000 in
theorem Compare_x (a b : Str) (ha : okS a) (hb : okS b) (hL : Laid w) : Calls Tryz.prog 19 #[.string a, .string b] w (fun e w' => e = .returned (.int .i64 (cmpV a.toList b.toList)) ∧ Only (fun _ => False) w w') := by
 obtain ⟨r, hr⟩ : ∃ r, cmpV a.toList b.toList = r := ⟨_, rfl⟩
 rw [hr]
 have HA := Lib.hid (parts_x a ha hL)
 have HB : Hid (∀ W, Only (fun _ => False) w W → Calls Tryz.prog 30 #[.string b] W (fun e w' => PartsEnd b W w' e)) := fun W ho => parts_x b hb (hL.only ho)
 have HRes := Lib.hid hr
 clear hr ha hb hL
 go_enter Tryz.func19, Tryz.ntmps19
 go_wp2_with fail
 refine HA.out.mono ?_
 rintro e w1 ⟨va, ma, rfl, hma, hra, O1⟩
 have HO1 := Lib.hid O1
 have HMA := Lib.hid hma
 have HRA := Lib.hid hra
 clear O1 hma hra HA
 go_wp2_with fail
 refine (HB.out _ HO1.out).mono ?_
 rintro e w2 ⟨vb, mb, rfl, hmb, hrb, O2⟩
 have HO2 := Lib.hid (HO1.out.same O2)
 have HMB := Lib.hid hmb
 have HRB := Lib.hid hrb
 have HO12 := Lib.hid O2
 clear O2 hmb hrb HB
 have hres := HRes.out
 unfold cmpV at hres
 rw [HMA.out, HMB.out] at hres
 clear HRes
 cases ma with
 | false =>
  cases mb with
  | false =>
   have h : (0 : Int) = r := hres
   subst h
   clear hres
   go_wp2_with fail
   go_ret
   exact ⟨rfl, HO2.out⟩
  | true =>
   have h : (-1 : Int) = r := hres
   subst h
   clear hres
   go_wp2_with fail
   go_ret
   exact ⟨rfl, HO2.out⟩
 | true =>
  cases mb with
  | false =>
   have h : (1 : Int) = r := hres
   subst h
   clear hres
   go_wp2_with fail
   go_ret
   exact ⟨rfl, HO2.out⟩
  | true =>
   have h : cmpTo (cutB 46 a.toList) (cutB 46 b.toList) (max (cutB 46 a.toList).length (cutB 46 b.toList).length) 0 = r := hres
   clear hres
   have rowA := HRA.out (by first | rfl | trivial)
   have rowB := HRB.out (by first | rfl | trivial)
   have la := mayB_len HMA.out
   have lb := mayB_len HMB.out
   obtain ⟨X, hX⟩ : ∃ X, cutB 46 a.toList = X := ⟨_, rfl⟩
   obtain ⟨Y, hY⟩ : ∃ Y, cutB 46 b.toList = Y := ⟨_, rfl⟩
   rw [hX] at rowA la h
   rw [hY] at rowB lb h
   clear HRA HRB HMA HMB hX hY
   obtain ⟨aa, ca, rfl, ka1, ka2⟩ := rowA.shape
   obtain ⟨ab, cb, rfl, kb1, kb2⟩ := rowB.shape
   obtain ⟨na, hna⟩ : ∃ n, X.length = n := ⟨_, rfl⟩
   obtain ⟨nb, hnb⟩ : ∃ n, Y.length = n := ⟨_, rfl⟩
   simp only [List.length_map, hna, hnb] at rowA rowB ka1 kb1 ⊢
   rw [hna] at la h
   rw [hnb] at lb h
   obtain ⟨m, hm⟩ : ∃ m, max na nb = m := ⟨_, rfl⟩
   rw [hm] at h
   have hm8 : m ≤ 8 := by omega
   have HAt : Hid (∀ W (i : Nat), i ≤ 8 → Only (fun _ => False) w2 W → Calls Tryz.prog 31 #[.slice aa na ca, .int .i64 (i : Int)] W (fun e w' => e = .returned (.agg (partOf (X.getD i [])).val) ∧ Only (fun _ => False) W w')) := fun W i hi ho => at_p (rowA.keep PartC.keep (Kp.of0 (HO12.out.same ho))) i (by omega) _ (getD_partOf X i)
   have HBt : Hid (∀ W (i : Nat), i ≤ 8 → Only (fun _ => False) w2 W → Calls Tryz.prog 31 #[.slice ab nb cb, .int .i64 (i : Int)] W (fun e w' => e = .returned (.agg (partOf (Y.getD i [])).val) ∧ Only (fun _ => False) W w')) := fun W i hi ho => at_p (rowB.keep PartC.keep (Kp.of0 ho)) i (by omega) _ (getD_partOf Y i)
   have HM := Lib.hid hm
   have HR0 : Hid (cmpTo X Y m 0 = r) := h
   have HOC : Hid (Only (fun _ => False) w2 w2) := Only.refl _ _
   clear h rowA rowB hm hna hnb la lb HO12
   go_wp2_with fail
   go_loopw [41] (fun vi wri => Hid (Only (fun _ => False) w2 wri) ∧ ∃ i : Nat, vi = .int .i64 i ∧ i ≤ m ∧ Hid (cmpTo X Y (m - i) i = r)) (fun v _ => m - (RowKit.intOf v).toNat)
   case atStart => exact ⟨HOC, 0, rfl, Nat.zero_le _, HR0⟩
   case round =>
    obtain ⟨wri, rfl⟩ : ∃ W, W = wr := ⟨_, rfl⟩
    clear HOC HR0
    obtain ⟨HOi, i, rfl, hi, HRi⟩ := hrel
    by_cases ci : i < m
    ·have ewi : IntKind.i64.wrap ((i : Int) + 1) = (i : Int) + 1 := by rw [IntKind.wrap_i64]; omega
     have hci : (i : Int) < max (na : Int) (nb : Int) := by have := HM.out; omega
     have H1 := Lib.hid (HAt.out wri i (by omega) HOi.out)
     have H2 : Hid (∀ W, Only (fun _ => False) wri W → _) := fun W ho => HBt.out W i (by omega) (HOi.out.same ho)
     obtain ⟨p, hp⟩ : ∃ p, X.getD i [] = p := ⟨_, rfl⟩
     obtain ⟨q, hq⟩ : ∃ q, Y.getD i [] = q := ⟨_, rfl⟩
     rw [hp] at H1
     rw [hq] at H2
     obtain ⟨c1, h1⟩ : ∃ c, Lib.compareInt (rankOf p : Int) (rankOf q : Int) = c := ⟨_, rfl⟩
     obtain ⟨c2, h2⟩ : ∃ c, Lib.compareInt (numOf p : Int) (numOf q : Int) = c := ⟨_, rfl⟩
     obtain ⟨c3, h3⟩ : ∃ c, cmpS (wordOf p) (wordOf q) = c := ⟨_, rfl⟩
     obtain ⟨c, hc⟩ : ∃ c, orL [c1, c2, c3] = c := ⟨_, rfl⟩
     have HRj : Hid ((if c = 0 then cmpTo X Y (m - (i + 1)) (i + 1) else c) = r) := by
      show (if c = 0 then cmpTo X Y (m - (i + 1)) (i + 1) else c) = r
      have h := HRi.out
      obtain ⟨k, hk⟩ : ∃ k, m - i = k + 1 := ⟨m - i - 1, by omega⟩
      have hk2 : m - (i + 1) = k := by omega
      have hor := or_plt p q
      rw [h1, h2, h3, hc] at hor
      rw [hk, cmpTo, Vn.atP, Vn.atP, hp, hq] at h
      rw [hk2, ← h, hor]
      by_cases g1 : plt p q
      ·rw [if_pos g1, if_pos g1]; simp
      ·rw [if_neg g1, if_neg g1]
       by_cases g2 : plt q p
       ·rw [if_pos g2, if_pos g2]; simp
       ·rw [if_neg g2, if_neg g2]; simp
     have r1 : InI64 c1 := by rw [← h1]; unfold Lib.compareInt InI64; split <;> (try split) <;> omega
     have r2 : InI64 c2 := by rw [← h2]; unfold Lib.compareInt InI64; split <;> (try split) <;> omega
     have r3 : InI64 c3 := by rw [← h3]; unfold cmpS InI64; split <;> (try split) <;> omega
     have RR := Lib.hid (And.intro r1 (And.intro r2 r3))
     unfold partOf Part.val at H1 H2
     dsimp only at H1 H2
     obtain ⟨pr, epr⟩ : ∃ x : Int, (rankOf p : Int) = x := ⟨_, rfl⟩
     obtain ⟨pn, epn⟩ : ∃ x : Int, (numOf p : Int) = x := ⟨_, rfl⟩
     obtain ⟨pw, epw⟩ : ∃ x : Str, (⟨(wordOf p).toArray⟩ : Str) = x := ⟨_, rfl⟩
     obtain ⟨qr, eqr⟩ : ∃ x : Int, (rankOf q : Int) = x := ⟨_, rfl⟩
     obtain ⟨qn, eqn⟩ : ∃ x : Int, (numOf q : Int) = x := ⟨_, rfl⟩
     obtain ⟨qw, eqw⟩ : ∃ x : Str, (⟨(wordOf q).toArray⟩ : Str) = x := ⟨_, rfl⟩
     have K1 : Hid (∀ W : World, Calls Tryz.prog 33 #[.int .i64 pr, .int .i64 qr] W fun e w' => e = .returned (.int .i64 c1) ∧ W = w') := fun W => by rw [← h1, epr, eqr]; exact (Sv.cmp_Compare_int _ _ W).mono fun _ _ h => ⟨h.1, h.2.symm⟩
     have K2 : Hid (∀ W : World, Calls Tryz.prog 33 #[.int .i64 pn, .int .i64 qn] W fun e w' => e = .returned (.int .i64 c2) ∧ W = w') := fun W => by rw [← h2, epn, eqn]; exact (Sv.cmp_Compare_int _ _ W).mono fun _ _ h => ⟨h.1, h.2.symm⟩
     have K3 : Hid (∀ W : World, Calls Tryz.prog 34 #[.string pw, .string qw] W fun e w' => e = .returned (.int .i64 c3) ∧ W = w') := fun W => by
      have := CmpS_any (w := W) pw qw
      rw [← epw, ← eqw] at this ⊢
      rw [ByteArray.toList_eq, ByteArray.toList_eq] at this
      rw [← h3]
      exact this.mono fun _ _ h => ⟨h.1, h.2.symm⟩
     rw [epr, epn, epw] at H1
     have H2' : Hid (∀ W, Only (fun _ => False) wri W → Calls Tryz.prog 31 #[.slice ab nb cb, .int .i64 (i : Int)] W (fun e w' => e = .returned (.agg #[.int .i64 qr, .int .i64 qn, .string qw]) ∧ Only (fun _ => False) W w')) := fun W ho => by rw [← eqr, ← eqn, ← eqw]; exact H2.out W ho
     have HC := Lib.hid hc
     clear HRi h1 h2 h3 hc r1 r2 r3 H2 epr epn epw eqr eqn eqw hp hq
     go_wp2_with fail
     refine H1.out.mono ?_
     rintro e w3 ⟨rfl, O3⟩
     have HO3 := Lib.hid O3
     clear O3
     go_wp2_with fail
     refine (H2'.out _ HO3.out).mono ?_
     rintro e w4 ⟨rfl, O4⟩
     have HO4 := Lib.hid (HOi.out.same (HO3.out.same O4))
     clear O4 H1 H2' HO3
     obtain ⟨w5, hw5⟩ : ∃ x, (w4.alloc (.cells #[.int .i64 pr, .int .i64 pn, .string pw] 82)).alloc (.cells #[.int .i64 qr, .int .i64 qn, .string qw] 82) = x := ⟨_, rfl⟩
     obtain ⟨A, hA⟩ : ∃ x, w4.heap.size = x := ⟨_, rfl⟩
     have bA : w5.heap[A]? = some (.cells #[.int .i64 pr, .int .i64 pn, .string pw] 82 (0, 0)) := by rw [← hw5, ← hA]; exact alloc_block (heap_alloc_new _ _) _
     have bB : w5.heap[A + 1]? = some (.cells #[.int .i64 qr, .int .i64 qn, .string qw] 82 (0, 0)) := by
      rw [← hw5, ← hA]
      have := heap_alloc_new (w4.alloc (.cells #[.int .i64 pr, .int .i64 pn, .string pw] 82)) (.cells #[.int .i64 qr, .int .i64 qn, .string qw] 82)
      rwa [World.size_alloc] at this
     have HO5 : Hid (Only (fun _ => False) w2 w5) := by rw [← hw5]; exact (HO4.out.alloc _).alloc _
     have a0 : w5.cell? ⟨A, 0, none⟩ = some (.int .i64 pr) := by rw [cell_block bA]; rfl
     have a1 : w5.cell? ⟨A, 1, none⟩ = some (.int .i64 pn) := by rw [cell_block bA]; rfl
     have a2 : w5.cell? ⟨A, 2, none⟩ = some (.string pw) := by rw [cell_block bA]; rfl
     have b0 : w5.cell? ⟨A + 1, 0, none⟩ = some (.int .i64 qr) := by rw [cell_block bB]; rfl
     have b1 : w5.cell? ⟨A + 1, 1, none⟩ = some (.int .i64 qn) := by rw [cell_block bB]; rfl
     have b2 : w5.cell? ⟨A + 1, 2, none⟩ = some (.string qw) := by rw [cell_block bB]; rfl
     have HS0 := Lib.hid (show w5.cell? ⟨A, 0, none⟩ = some (.int .i64 pr) ∧ w5.cell? ⟨A, 1, none⟩ = some (.int .i64 pn) ∧ w5.cell? ⟨A, 2, none⟩ = some (.string pw) ∧ w5.cell? ⟨A + 1, 0, none⟩ = some (.int .i64 qr) ∧ w5.cell? ⟨A + 1, 1, none⟩ = some (.int .i64 qn) ∧ w5.cell? ⟨A + 1, 2, none⟩ = some (.string qw) from ⟨a0, a1, a2, b0, b1, b2⟩)
     have HS5 := Lib.hid (show ∀ w' : World, Only (fun _ => False) w5 w' → w'.cell? ⟨A, 0, none⟩ = some (.int .i64 pr) ∧ w'.cell? ⟨A, 1, none⟩ = some (.int .i64 pn) ∧ w'.cell? ⟨A, 2, none⟩ = some (.string pw) ∧ w'.cell? ⟨A + 1, 0, none⟩ = some (.int .i64 qr) ∧ w'.cell? ⟨A + 1, 1, none⟩ = some (.int .i64 qn) ∧ w'.cell? ⟨A + 1, 2, none⟩ = some (.string qw) from fun w' ho => ⟨by rw [cell_block ((ho.block _ (lt_block bA) (fun f => f)).trans bA)]; rfl, by rw [cell_block ((ho.block _ (lt_block bA) (fun f => f)).trans bA)]; rfl, by rw [cell_block ((ho.block _ (lt_block bA) (fun f => f)).trans bA)]; rfl,
      by rw [cell_block ((ho.block _ (lt_block bB) (fun f => f)).trans bB)]; rfl, by rw [cell_block ((ho.block _ (lt_block bB) (fun f => f)).trans bB)]; rfl, by rw [cell_block ((ho.block _ (lt_block bB) (fun f => f)).trans bB)]; rfl⟩)
     have HI3 := Lib.hid (show ∀ W : World, Ints (W.alloc (.cells #[.int .i64 c1, .int .i64 c2, .int .i64 c3] 3)) (.slice (some ⟨W.heap.size, 0, none⟩) 3 3) [c1, c2, c3] from fun W => ints_mk W [c1, c2, c3] 3 _ rfl (fun y hy => by
      obtain ⟨r1, r2, r3⟩ := RR.out
      simp at hy
      rcases hy with rfl | rfl | rfl
      ·exact r1
      ·exact r2
      ·exact r3) (by simp))
     clear bA bB a0 a1 a2 b0 b1 b2
     go_upto_region 13 with fail
     try rw [hA]
     try rw [hw5]
     clear hA hw5
     refine wp_region_G (n := 18) (E := fun _ => false) (S := fun w' : World => w'.cell? ⟨A, 0, none⟩ = some (.int .i64 pr) ∧ w'.cell? ⟨A, 1, none⟩ = some (.int .i64 pn) ∧ w'.cell? ⟨A, 2, none⟩ = some (.string pw) ∧ w'.cell? ⟨A + 1, 0, none⟩ = some (.int .i64 qr) ∧ w'.cell? ⟨A + 1, 1, none⟩ = some (.int .i64 qn) ∧ w'.cell? ⟨A + 1, 2, none⟩ = some (.string qw)) (by kernel_rfl) rfl HS0.out (fun hHeld => ?_)
     refine tqW (i := 0) (v := ?_) rfl (.inr (by assumption)) ?_ ?_
     rotate_left
     ·(intro w; go_simp <;> (try with_reducible rfl))
     try simp only [Act.put, zq1, zq3, zq4, zq5, zq6]
     refine tqK (i := 1) (v := ?_) rfl ?_ ?_
     rotate_left
     ·(intro w hSw; (try dsimp only at hSw); go_simp <;> (try with_reducible rfl))
     try simp only [Act.put, zq1, zq2, zq3, zq4, zq5, zq6]
     refine tqW (i := 2) (v := ?_) rfl (.inr (by assumption)) ?_ ?_
     rotate_left
     ·(intro w; go_simp <;> (try with_reducible rfl))
     try simp only [Act.put, zq1, zq2, zq3, zq4, zq5, zq6]
     refine tqK (i := 3) (v := ?_) rfl ?_ ?_
     rotate_left
     ·(intro w hSw; (try dsimp only at hSw); go_simp <;> (try with_reducible rfl))
     try simp only [Act.put, zq1, zq2, zq3, zq4, zq5, zq6]
     refine wpAnyG_takeC (i := 4) (v := ?_) (f := 33) (args := #[.int .i64 pr, .int .i64 qr]) rfl (by kernel_rfl) (by kernel_rfl) (by kernel_rfl) rfl (by kernel_rfl) (by kernel_rfl) (fun _ _ _ h => h) (by assumption) (by rfl) ?_ ?_ ?_
     rotate_left
     ·(intro w; go_simp <;> (try with_reducible rfl))
     ·(intro w hSw; exact K1.out w)
     try simp only [Act.put, zq1, zq2, zq3, zq4, zq5, zq6]
     refine tqW (i := 5) (v := ?_) rfl (.inr (by assumption)) ?_ ?_
     rotate_left
     ·(intro w; go_simp <;> (try with_reducible rfl))
     try simp only [Act.put, zq1, zq2, zq3, zq4, zq5, zq6]
     refine tqK (i := 6) (v := ?_) rfl ?_ ?_
     rotate_left
     ·(intro w hSw; (try dsimp only at hSw); go_simp <;> (try with_reducible rfl))
     try simp only [Act.put, zq1, zq2, zq3, zq4, zq5, zq6]
     refine tqW (i := 7) (v := ?_) rfl (.inr (by assumption)) ?_ ?_
     rotate_left
     ·(intro w; go_simp <;> (try with_reducible rfl))
     try simp only [Act.put, zq1, zq2, zq3, zq4, zq5, zq6]
     refine tqK (i := 8) (v := ?_) rfl ?_ ?_
     rotate_left
     ·(intro w hSw; (try dsimp only at hSw); go_simp <;> (try with_reducible rfl))
     try simp only [Act.put, zq1, zq2, zq3, zq4, zq5, zq6]
     refine wpAnyG_takeC (i := 9) (v := ?_) (f := 33) (args := #[.int .i64 pn, .int .i64 qn]) rfl (by kernel_rfl) (by kernel_rfl) (by kernel_rfl) rfl (by kernel_rfl) (by kernel_rfl) (fun _ _ _ h => h) (by assumption) (by rfl) ?_ ?_ ?_
     rotate_left
     ·(intro w; go_simp <;> (try with_reducible rfl))
     ·(intro w hSw; exact K2.out w)
     try simp only [Act.put, zq1, zq2, zq3, zq4, zq5, zq6]
     refine tqW (i := 10) (v := ?_) rfl (.inr (by assumption)) ?_ ?_
     rotate_left
     ·(intro w; go_simp <;> (try with_reducible rfl))
     try simp only [Act.put, zq1, zq2, zq3, zq4, zq5, zq6]
     refine tqK (i := 11) (v := ?_) rfl ?_ ?_
     rotate_left
     ·(intro w hSw; (try dsimp only at hSw); go_simp <;> (try with_reducible rfl))
     try simp only [Act.put, zq1, zq2, zq3, zq4, zq5, zq6]
     refine tqW (i := 12) (v := ?_) rfl (.inr (by assumption)) ?_ ?_
     rotate_left
     ·(intro w; go_simp <;> (try with_reducible rfl))
     try simp only [Act.put, zq1, zq2, zq3, zq4, zq5, zq6]
     refine tqK (i := 13) (v := ?_) rfl ?_ ?_
     rotate_left
     ·(intro w hSw; (try dsimp only at hSw); go_simp <;> (try with_reducible rfl))
     try simp only [Act.put, zq1, zq2, zq3, zq4, zq5, zq6]
     refine wpAnyG_takeC (i := 14) (v := ?_) (f := 34) (args := #[.string pw, .string qw]) rfl (by kernel_rfl) (by kernel_rfl) (by kernel_rfl) rfl (by kernel_rfl) (by kernel_rfl) (fun _ _ _ h => h) (by assumption) (by rfl) ?_ ?_ ?_
     rotate_left
     ·(intro w; go_simp <;> (try with_reducible rfl))
     ·(intro w hSw; exact K3.out w)
     try simp only [Act.put, zq1, zq2, zq3, zq4, zq5, zq6]
     refine wpAnyG_ready (rs := [15]) (by kernel_rfl) (by simp) ?_
     refine AllReadyG.cons (i := 15) rfl (fun K hK => ?_) ?_
     ·go_simp
      refine hK.out _ _ ?_ (fun hHeld => ?_)
      ·(try dsimp only) <;> (exact HS5.out _ (by repeat (first | exact Only.refl _ _ | apply Only.drew | apply Only.alloc | apply Only.drewN)))
      clear hK K
      try simp only [Act.put, zq1, zq2, zq3, zq4, zq5, zq6]
      refine wpAnyG_ready (rs := [16]) (by kernel_rfl) (by simp) ?_
      refine AllReadyG.cons (i := 16) rfl (fun K hK => ?_) ?_
      ·(go_simp; refine (Or_any (xs := [c1, c2, c3]) (HI3.out w5.drew)).mono ?_; rw [HC.out]; rintro e w6 ⟨rfl, h6⟩; subst h6; try go_wp2_with fail)
       refine hK.out _ _ ?_ (fun hHeld => ?_)
       ·(try dsimp only) <;> (exact HS5.out _ (by repeat (first | exact Only.refl _ _ | apply Only.drew | apply Only.alloc | apply Only.drewN)))
       clear hK K
       try simp only [Act.put, zq1, zq2, zq3, zq4, zq5, zq6]
       refine tqW (i := 17) (v := ?_) rfl (.inr (by assumption)) ?_ ?_
       rotate_left
       ·(intro w; go_simp <;> (try with_reducible rfl))
       try simp only [Act.put, zq1, zq2, zq3, zq4, zq5, zq6]
       refine wpAnyG_done (by kernel_rfl) ?_ _
       have HO6 := Lib.hid (Only.same HO5.out (show Only (fun _ => False) w5 ((w5.drew).alloc (.cells #[.int .i64 c1, .int .i64 c2, .int .i64 c3] 3)) from ((Only.refl _ _).drew).alloc _))
       by_cases c0 : c = 0
       ·subst c0
        have HRk : Hid (cmpTo X Y (m - (i + 1)) (i + 1) = r) := HRj.out
        go_wp2_with fail
        go_roundw
        case rel => exact ⟨HO6, i + 1, by first | rfl | go_num, by omega, HRk⟩
        case measure => simp [RowKit.intOf] <;> omega
       ·have hcr : c = r := by have h := HRj.out; rw [if_neg c0] at h; exact h
        subst hcr
        clear HRj
        go_wp2_with fail
        go_ret
        exact ⟨rfl, HO2.out.same HO6.out⟩
      exact AllReadyG.nil
     exact AllReadyG.nil
    ·have hci : ¬ (i : Int) < max (na : Int) (nb : Int) := by have := HM.out; omega
     have hr2 : (0 : Int) = r := by
      have h := HRi.out
      rw [show m - i = 0 by omega] at h
      exact h
     subst hr2
     clear HRi
     go_wp2_with fail
     go_ret
     exact ⟨rfl, HO2.out.same HOi.out⟩
end
end Go.Proofs.YtmlfchjompfmaaaGreatDoor
