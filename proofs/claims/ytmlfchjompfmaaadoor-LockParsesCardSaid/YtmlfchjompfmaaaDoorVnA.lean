/- VnP1 VnP2 VnP3, in one text. -/
import Derived.Lib.AtoiAll
import Derived.Lib.ItoaNum
set_option linter.unusedVariables false
namespace Go.Proofs.YtmlfchjompfmaaaDoor
namespace Vn
open Go.Lib
def isDg (c : UInt8) : Bool := decide (48 ≤ c.toNat ∧ c.toNat ≤ 57)
def isLt (c : UInt8) : Bool := decide (97 ≤ c.toNat ∧ c.toNat ≤ 122)
def dgs (l : List UInt8) : Bool := l.all isDg && !l.isEmpty
def lts (l : List UInt8) : Bool := l.all isLt && !l.isEmpty
def numB (l : List UInt8) : Bool := dgs l && decide (l.length ≤ 9) && (l == [48] || l.head? != some 48)
def partB (l : List UInt8) : Bool := lts l || numB l
def val (acc : Nat) (l : List UInt8) : Nat := l.foldl (fun a c => a * 10 + (c.toNat - 48)) acc
theorem isDg_iff {c : UInt8} : isDg c = true ↔ 48 ≤ c.toNat ∧ c.toNat ≤ 57 := by unfold isDg; rw [decide_eq_true_eq]
theorem isLt_iff {c : UInt8} : isLt c = true ↔ 97 ≤ c.toNat ∧ c.toNat ≤ 122 := by unfold isLt; rw [decide_eq_true_eq]
theorem val_lt : ∀ (l : List UInt8) (acc k : Nat), (∀ c ∈ l, isDg c = true) → acc < 10 ^ k → val acc l < 10 ^ (k + l.length)
 | [], acc, k, _, h => by simpa [val] using h
 | c :: r, acc, k, hd, h => by
  have hc := isDg_iff.1 (hd c List.mem_cons_self)
  have := val_lt r (acc * 10 + (c.toNat - 48)) (k + 1) (fun d hd' => hd d (List.mem_cons_of_mem _ hd')) (by rw [Nat.pow_succ]; omega)
  show val (acc * 10 + (c.toNat - 48)) r < _
  rw [List.length_cons, show k + (r.length + 1) = k + 1 + r.length by omega]
  exact this
theorem parse_dgs : ∀ (l : List UInt8) (acc k : Nat), (∀ c ∈ l, isDg c = true) → acc < 10 ^ k → k + l.length ≤ 18 → parseUint10 acc l = .ok (val acc l)
 | [], acc, k, _, _, _ => rfl
 | c :: r, acc, k, hd, h, hk => by
  have hc := isDg_iff.1 (hd c List.mem_cons_self)
  simp only [List.length_cons] at hk
  have h17 : acc < 10 ^ 17 := Nat.lt_of_lt_of_le h (Nat.pow_le_pow_right (by decide) (by omega))
  have e17 : (10 : Nat) ^ 17 = 100000000000000000 := by decide
  rw [e17] at h17
  simp only [parseUint10]
  rw [if_pos hc, if_neg (by omega), if_neg (by omega)]
  exact parse_dgs r (acc * 10 + (c.toNat - 48)) (k + 1) (fun d hd' => hd d (List.mem_cons_of_mem _ hd')) (by rw [Nat.pow_succ]; omega) (by omega)
theorem val_snoc (acc : Nat) (l : List UInt8) (c : UInt8) : val acc (l ++ [c]) = val acc l * 10 + (c.toNat - 48) := by
 unfold val; rw [List.foldl_append]; rfl
theorem val_ge : ∀ (l : List UInt8) (acc : Nat), acc ≤ val acc l
 | [], _ => Nat.le_refl _
 | c :: r, acc => Nat.le_trans (by omega) (val_ge r (acc * 10 + (c.toNat - 48)))
theorem byte_of {c : UInt8} (h : isDg c = true) : UInt8.ofNat (48 + (c.toNat - 48)) = c := by
 have := isDg_iff.1 h
 rw [show 48 + (c.toNat - 48) = c.toNat by omega, UInt8.ofNat_toNat]
theorem dec_val : ∀ (n : Nat) (l : List UInt8), l.length = n → (∀ c ∈ l, isDg c = true) → l ≠ [] → (l = [48] ∨ l.head? ≠ some 48) → decDigits (val 0 l) = l
 | 0, l, hn, _, hne, _ => absurd (List.eq_nil_of_length_eq_zero hn) hne
 | n + 1, l, hn, hd, hne, hz => by
  obtain ⟨l', c, rfl⟩ : ∃ l' c, l = l' ++ [c] := ⟨l.dropLast, l.getLast hne, (List.dropLast_concat_getLast hne).symm⟩
  have hc := hd c (by simp)
  have hc' := isDg_iff.1 hc
  rw [val_snoc]
  cases l' with
  | nil =>
   have hv : val 0 ([] : List UInt8) = 0 := rfl
   rw [hv, decDigits, dif_pos (by omega), Nat.zero_mul, Nat.zero_add, byte_of hc]
   rfl
  | cons a r =>
   have hz2 : (a :: r).head? ≠ some 48 := by
    rcases hz with h | h
    ·have := congrArg List.length h
     simp at this
    ·simpa using h
   have ha := isDg_iff.1 (hd a (by simp))
   have ha2 : a.toNat ≠ 48 := fun e => hz2 (by
    show some a = some 48
    congr 1
    exact UInt8.toNat_inj.1 e)
   have hge : 1 ≤ val 0 (a :: r) := by
    refine Nat.le_trans ?_ (val_ge r (0 * 10 + (a.toNat - 48)))
    omega
   have hl : (a :: r).length = n := by simpa using hn
   have ih := dec_val n (a :: r) hl (fun d hd' => hd d (by rw [List.mem_append]; exact .inl hd')) (by simp) (.inr hz2)
   rw [decDigits, dif_neg (by omega)]
   rw [show (val 0 (a :: r) * 10 + (c.toNat - 48)) / 10 = val 0 (a :: r) by omega, show (val 0 (a :: r) * 10 + (c.toNat - 48)) % 10 = c.toNat - 48 by omega, ih, byte_of hc]
theorem ofNat_dg {d : Nat} (h : d < 10) : isDg (UInt8.ofNat (48 + d)) = true := by
 rw [isDg_iff, UInt8.toNat_ofNat']
 omega
theorem dec_dgs (u : Nat) : (∀ c ∈ decDigits u, isDg c = true) ∧ decDigits u ≠ [] ∧ (decDigits u = [48] ∨ (decDigits u).head? ≠ some 48) := by
 induction u using Nat.strongRecOn with
 | _ u ih =>
  by_cases h : u < 10
  ·rw [decDigits, dif_pos h]
   refine ⟨fun c hc => by rw [List.mem_singleton.1 hc]; exact ofNat_dg h, by simp, ?_⟩
   by_cases h0 : u = 0
   ·subst h0; exact .inl rfl
   ·refine .inr fun e => ?_
    have e' : UInt8.ofNat (48 + u) = 48 := by simpa using e
    have := congrArg UInt8.toNat e'
    rw [UInt8.toNat_ofNat'] at this
    have h48 : (48 : UInt8).toNat = 48 := rfl
    omega
  ·rw [decDigits, dif_neg h]
   obtain ⟨h1, h2, h3⟩ := ih (u / 10) (by omega)
   refine ⟨fun c hc => ?_, by simp, .inr ?_⟩
   ·rcases List.mem_append.1 hc with hc | hc
    ·exact h1 c hc
    ·rw [List.mem_singleton.1 hc]; exact ofNat_dg (by omega)
   ·rcases h3 with h3 | h3
    ·-- the number above is 0: not so
     exfalso
     have : u / 10 = 0 := by
      by_cases hb : u / 10 < 10
      ·rw [decDigits, dif_pos hb] at h3
       have e' : UInt8.ofNat (48 + u / 10) = 48 := by simpa using h3
       have := congrArg UInt8.toNat e'
       rw [UInt8.toNat_ofNat'] at this
       have h48 : (48 : UInt8).toNat = 48 := rfl
       omega
      ·rw [decDigits, dif_neg hb] at h3
       have h6 := congrArg List.length h3
       have h4 := (ih (u / 10 / 10) (by omega)).2.1
       have h5 : 0 < (decDigits (u / 10 / 10)).length := List.length_pos_iff.2 h4
       rw [List.length_append] at h6
       simp at h6
       exact absurd h6 h4
     omega
    ·intro e
     refine h3 ?_
     cases hh : decDigits (u / 10) with
     | nil => exact absurd hh h2
     | cons a r => rw [hh] at e; simpa using e
theorem nDigits_le : ∀ (k u : Nat), 1 ≤ k → u < 10 ^ k → nDigits u ≤ k
 | 0, _, h, _ => by omega
 | k + 1, u, _, h => by
  by_cases hu : u < 10
  ·rw [nDigits_small hu]; omega
  ·rw [nDigits_big hu]
   rw [Nat.pow_succ] at h
   have h1 : 1 ≤ k := by
    rcases Nat.eq_zero_or_pos k with rfl | h'
    ·simp at h; omega
    ·exact h'
   have := nDigits_le k (u / 10) h1 (by omega)
   omega
theorem num_read {l : List UInt8} (h : numB l = true) : atoiAll l = .ok (val 0 l : Int) ∧ (val 0 l : Int) ≤ 999999999 ∧ itoa (val 0 l : Int) = l := by
 unfold numB dgs at h
 simp only [Bool.and_eq_true, Bool.or_eq_true, List.all_eq_true, decide_eq_true_eq, beq_iff_eq, bne_iff_ne, Bool.not_eq_true', List.isEmpty_eq_false_iff] at h
 obtain ⟨⟨⟨h1, h2⟩, h3⟩, h4⟩ := h
 have hv := val_lt l 0 0 h1 (by decide)
 have hv9 : val 0 l < 10 ^ 9 := Nat.lt_of_lt_of_le hv (Nat.pow_le_pow_right (by decide) (by omega))
 have e9 : (10 : Nat) ^ 9 = 1000000000 := by decide
 rw [e9] at hv9
 have hp := parse_dgs l 0 0 h1 (by decide) (by omega)
 refine ⟨?_, by omega, ?_⟩
 ·cases l with
  | nil => exact absurd rfl h2
  | cons c r =>
   have hc := isDg_iff.1 (h1 c List.mem_cons_self)
   have hm : parseMag (c :: r) = .ok (val 0 (c :: r)) := by unfold parseMag; rw [if_neg (by simp)]; exact hp
   unfold atoiAll
   simp only
   rw [if_neg (by omega), hm]
   simp only
   rw [if_neg (by omega), if_neg (by omega), if_neg (by omega)]
 ·unfold itoa
  rw [if_neg (by omega), Int.toNat_natCast]
  exact dec_val _ l rfl h1 h2 h4
theorem read_num {l : List UInt8} {n : Int} (h0 : 0 ≤ n) (h9 : n ≤ 999999999) (hi : itoa n = l) : numB l = true := by
 unfold itoa at hi
 rw [if_neg (by omega)] at hi
 obtain ⟨h1, h2, h3⟩ := dec_dgs n.toNat
 rw [hi] at h1 h2 h3
 have hl : l.length ≤ 9 := by
  rw [← hi, decDigits_length]
  refine nDigits_le 9 _ (by decide) ?_
  have e9 : (10 : Nat) ^ 9 = 1000000000 := by decide
  rw [e9]; omega
 unfold numB dgs
 simp only [Bool.and_eq_true, Bool.or_eq_true, List.all_eq_true, decide_eq_true_eq, beq_iff_eq, bne_iff_ne, Bool.not_eq_true', List.isEmpty_eq_false_iff]
 exact ⟨⟨⟨h1, h2⟩, hl⟩, h3⟩
theorem lts_bad {l : List UInt8} (h : lts l = true) : atoiAll l = atoiAll [] := by
 unfold lts at h
 simp only [Bool.and_eq_true, List.all_eq_true, Bool.not_eq_true', List.isEmpty_eq_false_iff] at h
 obtain ⟨h1, h2⟩ := h
 cases l with
 | nil => exact absurd rfl h2
 | cons c r =>
  have hc := isLt_iff.1 (h1 c List.mem_cons_self)
  have hm : parseMag (c :: r) = parseMag [] := by
   show (if c :: r = [] then _ else parseUint10 0 (c :: r)) = _
   rw [if_neg (by simp)]
   simp only [parseUint10]
   rw [if_neg (by omega)]
   rfl
  unfold atoiAll
  simp only
  rw [if_neg (by omega), hm]
  rfl
end Vn
namespace Vn
open Go.Lib
abbrev By := List UInt8
def rankOf (a : By) : Nat := if a = [] then 1 else if lts a = true then 0 else 2
def numOf (a : By) : Nat := if a = [] then 0 else if lts a = true then 0 else val 0 a
def wordOf (a : By) : By := if lts a = true then a else []
theorem part_ne {a : By} (h : partB a = true) : a ≠ [] := by rintro rfl; revert h; decide
end Vn
namespace Vn
open Go.Lib
theorem partB_num {l : List UInt8} {v : Int} (h : atoiAll l = .ok v) : partB l = (decide (0 ≤ v) && decide (v ≤ 999999999) && decide (itoa v = l)) := by
 have hl : lts l = false := by
  cases hh : lts l with
  | false => rfl
  | true => rw [lts_bad hh] at h; exact nomatch h
 unfold partB
 rw [hl, Bool.false_or]
 cases hn : numB l with
 | true =>
  obtain ⟨h1, h2, h3⟩ := num_read hn
  rw [h1] at h
  cases h
  rw [h3, decide_eq_true (by omega), decide_eq_true h2, decide_eq_true rfl]
  rfl
 | false =>
  symm
  by_cases c1 : 0 ≤ v
  ·by_cases c2 : v ≤ 999999999
   ·rw [decide_eq_false (p := itoa v = l) (fun e => by rw [read_num c1 c2 e] at hn; cases hn), Bool.and_false]
   ·rw [decide_eq_false c2, Bool.and_false, Bool.false_and]
  ·rw [decide_eq_false c1, Bool.false_and, Bool.false_and]
theorem part_num {l : List UInt8} {v : Int} (h : atoiAll l = .ok v) (hp : partB l = true) : rankOf l = 2 ∧ (numOf l : Int) = v ∧ wordOf l = [] := by
 have hl : lts l = false := by
  cases hh : lts l with
  | false => rfl
  | true => rw [lts_bad hh] at h; exact nomatch h
 have hn : numB l = true := by
  unfold partB at hp
  rw [hl, Bool.false_or] at hp
  exact hp
 have hne : l ≠ [] := part_ne hp
 have h1 := (num_read hn).1
 rw [h] at h1
 unfold rankOf numOf wordOf
 rw [if_neg hne, if_neg hne, hl]
 simp only [Bool.false_eq_true, if_false]
 refine ⟨trivial, ?_, trivial⟩
 cases h1
 rfl
theorem partB_word {l : List UInt8} (h : ∀ v, atoiAll l ≠ .ok v) : partB l = lts l := by
 unfold partB
 cases hn : numB l with
 | true => exact absurd (num_read hn).1 (h _)
 | false => rw [Bool.or_false]
theorem part_word {l : List UInt8} (hp : lts l = true) : rankOf l = 0 ∧ numOf l = 0 ∧ wordOf l = l := by
 have hne : l ≠ [] := by rintro rfl; revert hp; decide
 unfold rankOf numOf wordOf
 rw [if_neg hne, if_neg hne, if_pos hp, if_pos hp, if_pos hp]
 exact ⟨rfl, rfl, rfl⟩
end Vn
end Go.Proofs.YtmlfchjompfmaaaDoor
