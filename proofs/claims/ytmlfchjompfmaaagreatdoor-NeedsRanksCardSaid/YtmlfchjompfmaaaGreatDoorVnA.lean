/- VnP1 VnP2 VnP3, in one text. -/
import Derived.Lib.AtoiAll
import Derived.Lib.ItoaNum
set_option linter.unusedVariables false
namespace Go.Proofs.YtmlfchjompfmaaaGreatDoor
namespace Vn
open Go.Lib
def isDg (c : UInt8) : Bool := decide (48 ≤ c.toNat ∧ c.toNat ≤ 57)
def isLt (c : UInt8) : Bool := decide (97 ≤ c.toNat ∧ c.toNat ≤ 122)
def dgs (l : List UInt8) : Bool := l.all isDg && !l.isEmpty
def lts (l : List UInt8) : Bool := l.all isLt && !l.isEmpty
def numB (l : List UInt8) : Bool := dgs l && decide (l.length ≤ 9) && (l == [48] || l.head? != some 48)
def partB (l : List UInt8) : Bool := lts l || numB l
def val (acc : Nat) (l : List UInt8) : Nat := l.foldl (fun a c => a * 10 + (c.toNat - 48)) acc
theorem isDg_iff {c : UInt8} : isDg c = true ↔ 48 ≤ c.toNat ∧ c.toNat ≤ 57 := by unfold isDg; rw [decide_eq_true_eq]
theorem isLt_iff {c : UInt8} : isLt c = true ↔ 97 ≤ c.toNat ∧ c.toNat ≤ 122 := by unfold isLt; rw [decide_eq_true_eq]
theorem val_lt : ∀ (l : List UInt8) (acc k : Nat), (∀ c ∈ l, isDg c = true) → acc < 10 ^ k → val acc l < 10 ^ (k + l.length)
 | [], acc, k, _, h => by simpa [val] using h
 | c :: r, acc, k, hd, h => by
  have hc := isDg_iff.1 (hd c List.mem_cons_self)
  have := val_lt r (acc * 10 + (c.toNat - 48)) (k + 1) (fun d hd' => hd d (List.mem_cons_of_mem _ hd')) (by rw [Nat.pow_succ]; omega)
  show val (acc * 10 + (c.toNat - 48)) r < _
  rw [List.length_cons, show k + (r.length + 1) = k + 1 + r.length by omega]
  exact this
theorem parse_dgs : ∀ (l : List UInt8) (acc k : Nat), (∀ c ∈ l, isDg c = true) → acc < 10 ^ k → k + l.length ≤ 18 → parseUint10 acc l = .ok (val acc l)
 | [], acc, k, _, _, _ => rfl
 | c :: r, acc, k, hd, h, hk => by
  have hc := isDg_iff.1 (hd c List.mem_cons_self)
  simp only [List.length_cons] at hk
  have h17 : acc < 10 ^ 17 := Nat.lt_of_lt_of_le h (Nat.pow_le_pow_right (by decide) (by omega))
  have e17 : (10 : Nat) ^ 17 = 100000000000000000 := by decide
  rw [e17] at h17
  simp only [parseUint10]
  rw [if_pos hc, if_neg (by omega), if_neg (by omega)]
  exact parse_dgs r (acc * 10 + (c.toNat - 48)) (k + 1) (fun d hd' => hd d (List.mem_cons_of_mem _ hd')) (by rw [Nat.pow_succ]; omega) (by omega)
theorem val_snoc (acc : Nat) (l : List UInt8) (c : UInt8) : val acc (l ++ [c]) = val acc l * 10 + (c.toNat - 48) := by
 unfold val; rw [List.foldl_append]; rfl
theorem val_ge : ∀ (l : List UInt8) (acc : Nat), acc ≤ val acc l
 | [], _ => Nat.le_refl _
 | c :: r, acc => Nat.le_trans (by omega) (val_ge r (acc * 10 + (c.toNat - 48)))
theorem byte_of {c : UInt8} (h : isDg c = true) : UInt8.ofNat (48 + (c.toNat - 48)) = c := by
 have := isDg_iff.1 h
 rw [show 48 + (c.toNat - 48) = c.toNat by omega, UInt8.ofNat_toNat]
theorem dec_val : ∀ (n : Nat) (l : List UInt8), l.length = n → (∀ c ∈ l, isDg c = true) → l ≠ [] → (l = [48] ∨ l.head? ≠ some 48) → decDigits (val 0 l) = l
 | 0, l, hn, _, hne, _ => absurd (List.eq_nil_of_length_eq_zero hn) hne
 | n + 1, l, hn, hd, hne, hz => by
  obtain ⟨l', c, rfl⟩ : ∃ l' c, l = l' ++ [c] := ⟨l.dropLast, l.getLast hne, (List.dropLast_concat_getLast hne).symm⟩
  have hc := hd c (by simp)
  have hc' := isDg_iff.1 hc
  rw [val_snoc]
  cases l' with
  | nil =>
   have hv : val 0 ([] : List UInt8) = 0 := rfl
   rw [hv, decDigits, dif_pos (by omega), Nat.zero_mul, Nat.zero_add, byte_of hc]
   rfl
  | cons a r =>
   have hz2 : (a :: r).head? ≠ some 48 := by
    rcases hz with h | h
    ·have := congrArg List.length h
     simp at this
    ·simpa using h
   have ha := isDg_iff.1 (hd a (by simp))
   have ha2 : a.toNat ≠ 48 := fun e => hz2 (by
    show some a = some 48
    congr 1
    exact UInt8.toNat_inj.1 e)
   have hge : 1 ≤ val 0 (a :: r) := by
    refine Nat.le_trans ?_ (val_ge r (0 * 10 + (a.toNat - 48)))
    omega
   have hl : (a :: r).length = n := by simpa using hn
   have ih := dec_val n (a :: r) hl (fun d hd' => hd d (by rw [List.mem_append]; exact .inl hd')) (by simp) (.inr hz2)
   rw [decDigits, dif_neg (by omega)]
   rw [show (val 0 (a :: r) * 10 + (c.toNat - 48)) / 10 = val 0 (a :: r) by omega, show (val 0 (a :: r) * 10 + (c.toNat - 48)) % 10 = c.toNat - 48 by omega, ih, byte_of hc]
theorem ofNat_dg {d : Nat} (h : d < 10) : isDg (UInt8.ofNat (48 + d)) = true := by
 rw [isDg_iff, UInt8.toNat_ofNat']
 omega
theorem dec_dgs (u : Nat) : (∀ c ∈ decDigits u, isDg c = true) ∧ decDigits u ≠ [] ∧ (decDigits u = [48] ∨ (decDigits u).head? ≠ some 48) := by
 induction u using Nat.strongRecOn with
 | _ u ih =>
  by_cases h : u < 10
  ·rw [decDigits, dif_pos h]
   refine ⟨fun c hc => by rw [List.mem_singleton.1 hc]; exact ofNat_dg h, by simp, ?_⟩
   by_cases h0 : u = 0
   ·subst h0; exact .inl rfl
   ·refine .inr fun e => ?_
    have e' : UInt8.ofNat (48 + u) = 48 := by simpa using e
    have := congrArg UInt8.toNat e'
    rw [UInt8.toNat_ofNat'] at this
    have h48 : (48 : UInt8).toNat = 48 := rfl
    omega
  ·rw [decDigits, dif_neg h]
   obtain ⟨h1, h2, h3⟩ := ih (u / 10) (by omega)
   refine ⟨fun c hc => ?_, by simp, .inr ?_⟩
   ·rcases List.mem_append.1 hc with hc | hc
    ·exact h1 c hc
    ·rw [List.mem_singleton.1 hc]; exact ofNat_dg (by omega)
   ·rcases h3 with h3 | h3
    ·-- the number above is 0: not so
     exfalso
     have : u / 10 = 0 := by
      by_cases hb : u / 10 < 10
      ·rw [decDigits, dif_pos hb] at h3
       have e' : UInt8.ofNat (48 + u / 10) = 48 := by simpa using h3
       have := congrArg UInt8.toNat e'
       rw [UInt8.toNat_ofNat'] at this
       have h48 : (48 : UInt8).toNat = 48 := rfl
       omega
      ·rw [decDigits, dif_neg hb] at h3
       have h6 := congrArg List.length h3
       have h4 := (ih (u / 10 / 10) (by omega)).2.1
       have h5 : 0 < (decDigits (u / 10 / 10)).length := List.length_pos_iff.2 h4
       rw [List.length_append] at h6
       simp at h6
       exact absurd h6 h4
     omega
    ·intro e
     refine h3 ?_
     cases hh : decDigits (u / 10) with
     | nil => exact absurd hh h2
     | cons a r => rw [hh] at e; simpa using e
theorem nDigits_le : ∀ (k u : Nat), 1 ≤ k → u < 10 ^ k → nDigits u ≤ k
 | 0, _, h, _ => by omega
 | k + 1, u, _, h => by
  by_cases hu : u < 10
  ·rw [nDigits_small hu]; omega
  ·rw [nDigits_big hu]
   rw [Nat.pow_succ] at h
   have h1 : 1 ≤ k := by
    rcases Nat.eq_zero_or_pos k with rfl | h'
    ·simp at h; omega
    ·exact h'
   have := nDigits_le k (u / 10) h1 (by omega)
   omega
theorem num_read {l : List UInt8} (h : numB l = true) : atoiAll l = .ok (val 0 l : Int) ∧ (val 0 l : Int) ≤ 999999999 ∧ itoa (val 0 l : Int) = l := by
 unfold numB dgs at h
 simp only [Bool.and_eq_true, Bool.or_eq_true, List.all_eq_true, decide_eq_true_eq, beq_iff_eq, bne_iff_ne, Bool.not_eq_true', List.isEmpty_eq_false_iff] at h
 obtain ⟨⟨⟨h1, h2⟩, h3⟩, h4⟩ := h
 have hv := val_lt l 0 0 h1 (by decide)
 have hv9 : val 0 l < 10 ^ 9 := Nat.lt_of_lt_of_le hv (Nat.pow_le_pow_right (by decide) (by omega))
 have e9 : (10 : Nat) ^ 9 = 1000000000 := by decide
 rw [e9] at hv9
 have hp := parse_dgs l 0 0 h1 (by decide) (by omega)
 refine ⟨?_, by omega, ?_⟩
 ·cases l with
  | nil => exact absurd rfl h2
  | cons c r =>
   have hc := isDg_iff.1 (h1 c List.mem_cons_self)
   have hm : parseMag (c :: r) = .ok (val 0 (c :: r)) := by unfold parseMag; rw [if_neg (by simp)]; exact hp
   unfold atoiAll
   simp only
   rw [if_neg (by omega), hm]
   simp only
   rw [if_neg (by omega), if_neg (by omega), if_neg (by omega)]
 ·unfold itoa
  rw [if_neg (by omega), Int.toNat_natCast]
  exact dec_val _ l rfl h1 h2 h4
theorem read_num {l : List UInt8} {n : Int} (h0 : 0 ≤ n) (h9 : n ≤ 999999999) (hi : itoa n = l) : numB l = true := by
 unfold itoa at hi
 rw [if_neg (by omega)] at hi
 obtain ⟨h1, h2, h3⟩ := dec_dgs n.toNat
 rw [hi] at h1 h2 h3
 have hl : l.length ≤ 9 := by
  rw [← hi, decDigits_length]
  refine nDigits_le 9 _ (by decide) ?_
  have e9 : (10 : Nat) ^ 9 = 1000000000 := by decide
  rw [e9]; omega
 unfold numB dgs
 simp only [Bool.and_eq_true, Bool.or_eq_true, List.all_eq_true, decide_eq_true_eq, beq_iff_eq, bne_iff_ne, Bool.not_eq_true', List.isEmpty_eq_false_iff]
 exact ⟨⟨⟨h1, h2⟩, hl⟩, h3⟩
theorem lts_bad {l : List UInt8} (h : lts l = true) : atoiAll l = atoiAll [] := by
 unfold lts at h
 simp only [Bool.and_eq_true, List.all_eq_true, Bool.not_eq_true', List.isEmpty_eq_false_iff] at h
 obtain ⟨h1, h2⟩ := h
 cases l with
 | nil => exact absurd rfl h2
 | cons c r =>
  have hc := isLt_iff.1 (h1 c List.mem_cons_self)
  have hm : parseMag (c :: r) = parseMag [] := by
   show (if c :: r = [] then _ else parseUint10 0 (c :: r)) = _
   rw [if_neg (by simp)]
   simp only [parseUint10]
   rw [if_neg (by omega)]
   rfl
  unfold atoiAll
  simp only
  rw [if_neg (by omega), hm]
  rfl
end Vn
namespace Vn
open Go.Lib
abbrev By := List UInt8
def rankOf (a : By) : Nat := if a = [] then 1 else if lts a = true then 0 else 2
def numOf (a : By) : Nat := if a = [] then 0 else if lts a = true then 0 else val 0 a
def wordOf (a : By) : By := if lts a = true then a else []
def okP (a : By) : Prop := a = [] ∨ partB a = true
def plt (a b : By) : Prop := rankOf a < rankOf b ∨ (rankOf a = rankOf b ∧ (numOf a < numOf b ∨ (numOf a = numOf b ∧ wordOf a < wordOf b)))
instance (a b : By) : Decidable (plt a b) := by unfold plt; infer_instance
theorem bl_irrefl (a : By) : ¬ a < a := List.lt_irrefl a
theorem bl_trans {a b c : By} (h1 : a < b) (h2 : b < c) : a < c := List.lt_trans h1 h2
theorem bl_total {a b : By} (h : a ≠ b) : a < b ∨ b < a := by
 rcases Decidable.em (a < b) with h1 | h1
 ·exact .inl h1
 ·rcases Decidable.em (b < a) with h2 | h2
  ·exact .inr h2
  ·exact absurd (List.le_antisymm (List.not_lt.1 h2) (List.not_lt.1 h1)) h
theorem plt_irrefl (a : By) : ¬ plt a a := by
 unfold plt
 have := bl_irrefl (wordOf a)
 rintro (h | ⟨-, h | ⟨-, h⟩⟩)
 ·omega
 ·omega
 ·exact this h
theorem plt_trans {a b c : By} (h1 : plt a b) (h2 : plt b c) : plt a c := by
 unfold plt at *
 rcases h1 with h1 | ⟨e1, h1 | ⟨f1, h1⟩⟩ <;> rcases h2 with h2 | ⟨e2, h2 | ⟨f2, h2⟩⟩
 ·exact .inl (by omega)
 ·exact .inl (by omega)
 ·exact .inl (by omega)
 ·exact .inl (by omega)
 ·exact .inr ⟨by omega, .inl (by omega)⟩
 ·exact .inr ⟨by omega, .inl (by omega)⟩
 ·exact .inl (by omega)
 ·exact .inr ⟨by omega, .inl (by omega)⟩
 ·exact .inr ⟨by omega, .inr ⟨by omega, bl_trans h1 h2⟩⟩
theorem lts_not_dgs {a : By} (h : lts a = true) : dgs a = false := by
 unfold lts at h
 unfold dgs
 simp only [Bool.and_eq_true, List.all_eq_true, Bool.not_eq_true', List.isEmpty_eq_false_iff] at h
 obtain ⟨h1, h2⟩ := h
 cases a with
 | nil => exact absurd rfl h2
 | cons c r =>
  have hc := isLt_iff.1 (h1 c List.mem_cons_self)
  have : isDg c = false := by
   cases hh : isDg c
   ·rfl
   ·have := isDg_iff.1 hh; omega
  simp [this]
theorem num_parts {a : By} (h : numB a = true) : (∀ c ∈ a, isDg c = true) ∧ a ≠ [] ∧ a.length ≤ 9 ∧ (a = [48] ∨ a.head? ≠ some 48) := by
 unfold numB dgs at h
 simp only [Bool.and_eq_true, Bool.or_eq_true, List.all_eq_true, decide_eq_true_eq, beq_iff_eq, bne_iff_ne, Bool.not_eq_true', List.isEmpty_eq_false_iff] at h
 exact ⟨h.1.1.1, h.1.1.2, h.1.2, h.2⟩
theorem key_inj {a b : By} (ha : okP a) (hb : okP b) (h1 : rankOf a = rankOf b) (h2 : numOf a = numOf b) (h3 : wordOf a = wordOf b) : a = b := by
 unfold rankOf at h1
 unfold numOf at h2
 unfold wordOf at h3
 rcases ha with rfl | ha
 ·rcases hb with rfl | hb
  ·rfl
  ·rw [if_pos rfl] at h1
   split at h1
   ·rename_i e; exact e.symm
   ·split at h1 <;> omega
 ·rcases hb with rfl | hb
  ·rw [if_pos rfl] at h1
   split at h1
   ·assumption
   ·split at h1 <;> omega
  ·unfold partB at ha hb
   rw [Bool.or_eq_true] at ha hb
   by_cases la : lts a = true
   ·by_cases lb : lts b = true
    ·rw [if_pos la, if_pos lb] at h3; exact h3
    ·exfalso
     have nb := hb.resolve_left lb
     have na : a ≠ [] := by rintro rfl; simp [lts] at la
     rw [if_neg na, if_pos la, if_neg (num_parts nb).2.1, if_neg lb] at h1
     omega
   ·have na := ha.resolve_left la
    by_cases lb : lts b = true
    ·exfalso
     have nb : b ≠ [] := by rintro rfl; simp [lts] at lb
     rw [if_neg (num_parts na).2.1, if_neg la, if_neg nb, if_pos lb] at h1
     omega
    ·have nb := hb.resolve_left lb
     rw [if_neg (num_parts na).2.1, if_neg la, if_neg (num_parts nb).2.1, if_neg lb] at h2
     obtain ⟨a1, a2, a3, a4⟩ := num_parts na
     obtain ⟨b1, b2, b3, b4⟩ := num_parts nb
     have ea := dec_val _ a rfl a1 a2 a4
     have eb := dec_val _ b rfl b1 b2 b4
     rw [← ea, ← eb, h2]
theorem plt_total {a b : By} (ha : okP a) (hb : okP b) (h : a ≠ b) : plt a b ∨ plt b a := by
 unfold plt
 rcases Nat.lt_trichotomy (rankOf a) (rankOf b) with h1 | h1 | h1
 ·exact .inl (.inl h1)
 ·rcases Nat.lt_trichotomy (numOf a) (numOf b) with h2 | h2 | h2
  ·exact .inl (.inr ⟨h1, .inl h2⟩)
  ·by_cases h3 : wordOf a = wordOf b
   ·exact absurd (key_inj ha hb h1 h2 h3) h
   ·rcases bl_total h3 with h4 | h4
    ·exact .inl (.inr ⟨h1, .inr ⟨h2, h4⟩⟩)
    ·exact .inr (.inr ⟨h1.symm, .inr ⟨h2.symm, h4⟩⟩)
  ·exact .inr (.inr ⟨h1.symm, .inl h2⟩)
 ·exact .inr (.inl h1)
theorem val_acc : ∀ (a b : By) (m n : Nat), a.length = b.length → (∀ c ∈ a, isDg c = true) → (∀ c ∈ b, isDg c = true) → m < n → val m a < val n b
 | [], [], m, n, _, _, _, h => h
 | [], _ :: _, _, _, hl, _, _, _ => by simp at hl
 | _ :: _, [], _, _, hl, _, _, _ => by simp at hl
 | c :: a, d :: b, m, n, hl, ha, hb, h => by
  have hc := isDg_iff.1 (ha c List.mem_cons_self)
  have hd := isDg_iff.1 (hb d List.mem_cons_self)
  show val (m * 10 + (c.toNat - 48)) a < val (n * 10 + (d.toNat - 48)) b
  exact val_acc a b _ _ (by simpa using hl) (fun x hx => ha x (List.mem_cons_of_mem _ hx)) (fun x hx => hb x (List.mem_cons_of_mem _ hx)) (by omega)
theorem val_lex : ∀ (a b : By) (m : Nat), a.length = b.length → (∀ c ∈ a, isDg c = true) → (∀ c ∈ b, isDg c = true) → (val m a < val m b ↔ a < b)
 | [], [], m, _, _, _ => by simp []
 | [], _ :: _, _, hl, _, _ => by simp at hl
 | _ :: _, [], _, hl, _, _ => by simp at hl
 | c :: a, d :: b, m, hl, ha, hb => by
  have hc := isDg_iff.1 (ha c List.mem_cons_self)
  have hd := isDg_iff.1 (hb d List.mem_cons_self)
  have hl' : a.length = b.length := by simpa using hl
  have ha' : ∀ x ∈ a, isDg x = true := fun x hx => ha x (List.mem_cons_of_mem _ hx)
  have hb' : ∀ x ∈ b, isDg x = true := fun x hx => hb x (List.mem_cons_of_mem _ hx)
  show val (m * 10 + (c.toNat - 48)) a < val (m * 10 + (d.toNat - 48)) b ↔ _
  rw [List.cons_lt_cons_iff]
  rcases Nat.lt_trichotomy c.toNat d.toNat with h | h | h
  ·have := val_acc a b (m * 10 + (c.toNat - 48)) (m * 10 + (d.toNat - 48)) hl' ha' hb' (by omega)
   exact ⟨fun _ => .inl (UInt8.lt_iff_toNat_lt.2 h), fun _ => this⟩
  ·have e : c = d := UInt8.toNat_inj.1 h
   subst e
   rw [val_lex a b _ hl' ha' hb']
   exact ⟨fun h2 => .inr ⟨rfl, h2⟩, fun h2 => h2.elim (fun h3 => by have := UInt8.lt_iff_toNat_lt.1 h3; omega) (fun h3 => h3.2)⟩
  ·have := val_acc b a (m * 10 + (d.toNat - 48)) (m * 10 + (c.toNat - 48)) hl'.symm hb' ha' (by omega)
   refine ⟨fun h2 => by omega, fun h2 => h2.elim (fun h3 => by have := UInt8.lt_iff_toNat_lt.1 h3; omega) (fun h3 => by rw [h3.1] at h; omega)⟩
theorem val_lo : ∀ (a : By) (m : Nat), (∀ c ∈ a, isDg c = true) → m * 10 ^ a.length ≤ val m a
 | [], m, _ => by simp [val]
 | c :: a, m, h => by
  have := val_lo a (m * 10 + (c.toNat - 48)) (fun x hx => h x (List.mem_cons_of_mem _ hx))
  show _ ≤ val (m * 10 + (c.toNat - 48)) a
  refine Nat.le_trans ?_ this
  rw [List.length_cons, Nat.pow_succ, Nat.mul_comm (10 ^ a.length), ← Nat.mul_assoc]
  exact Nat.mul_le_mul_right _ (by omega)
theorem num_len {a b : By} (ha : numB a = true) (hb : numB b = true) (h : a.length < b.length) : val 0 a < val 0 b := by
 obtain ⟨a1, a2, a3, a4⟩ := num_parts ha
 obtain ⟨b1, b2, b3, b4⟩ := num_parts hb
 have h1 := val_lt a 0 0 a1 (by decide)
 rw [Nat.zero_add] at h1
 have hal : 1 ≤ a.length := List.length_pos_iff.2 a2
 cases b with
 | nil => exact absurd rfl b2
 | cons d r =>
  have hd := isDg_iff.1 (b1 d List.mem_cons_self)
  have hne : (d :: r).head? ≠ some 48 := by
   rcases b4 with e | e
   ·rw [e] at h
    have h' : a.length < 1 := h
    omega
   ·exact e
  have hd2 : d.toNat ≠ 48 := fun e => hne (by
   show some d = some 48
   congr 1
   exact UInt8.toNat_inj.1 e)
  have h2 := val_lo r (0 * 10 + (d.toNat - 48)) (fun x hx => b1 x (List.mem_cons_of_mem _ hx))
  have h3 : 10 ^ a.length ≤ 10 ^ r.length := Nat.pow_le_pow_right (by decide) (by simp at h; omega)
  have h4 : 10 ^ r.length ≤ (0 * 10 + (d.toNat - 48)) * 10 ^ r.length := Nat.le_mul_of_pos_left _ (by omega)
  show val 0 a < val (0 * 10 + (d.toNat - 48)) r
  exact Nat.lt_of_lt_of_le h1 (Nat.le_trans h3 (Nat.le_trans h4 h2))
theorem num_lt {a b : By} (ha : numB a = true) (hb : numB b = true) : val 0 a < val 0 b ↔ (a.length < b.length ∨ (a.length = b.length ∧ a < b)) := by
 rcases Nat.lt_trichotomy a.length b.length with h | h | h
 ·exact ⟨fun _ => .inl h, fun _ => num_len ha hb h⟩
 ·rw [val_lex a b 0 h (num_parts ha).1 (num_parts hb).1]
  exact ⟨fun h2 => .inr ⟨h, h2⟩, fun h2 => h2.elim (fun h3 => by omega) (fun h3 => h3.2)⟩
 ·have := num_len hb ha h
  exact ⟨fun h2 => by omega, fun h2 => by omega⟩
def beB (a b : By) : Bool :=
 if a = b then false else if a = [] then dgs b else if b = [] then lts a else
 if (lts a != lts b) = true then lts a else if (dgs a && (a.length != b.length)) = true then decide (a.length < b.length) else decide (a < b)
theorem beB_plt {a b : By} (ha : okP a) (hb : okP b) : beB a b = true ↔ plt a b := by
 unfold beB
 by_cases e : a = b
 ·subst e; rw [if_pos rfl]; exact ⟨fun h => by simp at h, fun h => absurd h (plt_irrefl a)⟩
 ·rw [if_neg e]
  by_cases na : a = []
  ·subst na
   rw [if_pos rfl]
   have nb : b ≠ [] := fun h => e h.symm
   have pb := hb.resolve_left nb
   unfold plt rankOf
   rw [if_pos rfl, if_neg nb]
   unfold partB at pb
   rw [Bool.or_eq_true] at pb
   by_cases lb : lts b = true
   ·rw [lts_not_dgs lb, if_pos lb]
    exact ⟨fun h => (by cases h), fun h => (by omega)⟩
   ·rw [if_neg lb]
    have := pb.resolve_left lb
    unfold numB at this
    simp only [Bool.and_eq_true] at this
    exact ⟨fun _ => .inl (by omega), fun _ => this.1.1⟩
  ·rw [if_neg na]
   have pa := ha.resolve_left na
   unfold partB at pa
   rw [Bool.or_eq_true] at pa
   by_cases nb : b = []
   ·subst nb
    rw [if_pos rfl]
    unfold plt rankOf
    rw [if_neg na, if_pos rfl]
    by_cases la : lts a = true
    ·rw [if_pos la]; exact ⟨fun _ => .inl (by omega), fun _ => la⟩
    ·rw [if_neg la]; exact ⟨fun h => absurd h la, fun h => by omega⟩
   ·rw [if_neg nb]
    have pb := hb.resolve_left nb
    unfold partB at pb
    rw [Bool.or_eq_true] at pb
    unfold plt rankOf numOf wordOf
    rw [if_neg na, if_neg nb]
    by_cases la : lts a = true
    ·by_cases lb : lts b = true
     ·rw [la, lb, lts_not_dgs la]
      simp only [if_true, bne_self_eq_false, Bool.false_eq_true, if_false, Bool.false_and, decide_eq_true_eq, if_neg na, if_neg nb]
      constructor
      ·intro h; exact .inr ⟨trivial, .inr ⟨trivial, h⟩⟩
      ·rintro (h | ⟨-, h | ⟨-, h⟩⟩)
       ·omega
       ·omega
       ·exact h
     ·have lb' : lts b = false := by simpa using lb
      rw [la, lb']
      simp
    ·have la' : lts a = false := by simpa using la
     have na' := pa.resolve_left la
     by_cases lb : lts b = true
     ·rw [la', lb]
      simp
     ·have lb' : lts b = false := by simpa using lb
      have nb' := pb.resolve_left lb
      have da : dgs a = true := by
       unfold numB at na'
       simp only [Bool.and_eq_true] at na'
       exact na'.1.1
      rw [la', lb', da]
      simp only [bne_self_eq_false, Bool.false_eq_true, if_false, Bool.true_and, bne_iff_ne, if_neg na, if_neg nb]
      have hn := num_lt na' nb'
      constructor
      ·intro h
       refine .inr ⟨trivial, .inl (hn.2 ?_)⟩
       split at h
       ·exact .inl (of_decide_eq_true h)
       ·rename_i hl
        exact .inr ⟨by omega, of_decide_eq_true h⟩
      ·rintro (h | ⟨-, h | ⟨-, h⟩⟩)
       ·omega
       ·have h2 := hn.1 h
        split
        ·rename_i hl
         exact decide_eq_true (h2.elim id (fun h3 => absurd h3.1 hl))
        ·rename_i hl
         exact decide_eq_true (h2.elim (fun h3 => by omega) (fun h3 => h3.2))
       ·exact absurd h (bl_irrefl _)
abbrev atP (x : List By) (i : Nat) : By := x.getD i []
def vlt (x y : List By) : Prop := ∃ i, (∀ j, j < i → atP x j = atP y j) ∧ plt (atP x i) (atP y i)
theorem vlt_irrefl (x : List By) : ¬ vlt x x := fun ⟨_, _, h⟩ => plt_irrefl _ h
theorem vlt_trans {x y z : List By} (h1 : vlt x y) (h2 : vlt y z) : vlt x z := by
 obtain ⟨i, a1, b1⟩ := h1
 obtain ⟨k, a2, b2⟩ := h2
 rcases Nat.lt_trichotomy i k with h | h | h
 ·exact ⟨i, fun j hj => (a1 j hj).trans (a2 j (by omega)), by rw [← a2 i h]; exact b1⟩
 ·subst h; exact ⟨i, fun j hj => (a1 j hj).trans (a2 j hj), plt_trans b1 b2⟩
 ·exact ⟨k, fun j hj => (a1 j (by omega)).trans (a2 j hj), by rw [a1 k h]; exact b2⟩
theorem okP_at {x : List By} (h : ∀ a ∈ x, partB a = true) (i : Nat) : okP (atP x i) := by
 by_cases hi : i < x.length
 ·refine .inr (h _ ?_)
  rw [atP, List.getD_eq_getElem?_getD, List.getElem?_eq_getElem hi]
  exact List.getElem_mem hi
 ·refine .inl ?_
  rw [atP, List.getD_eq_getElem?_getD, List.getElem?_eq_none (by omega)]
  rfl
theorem part_ne {a : By} (h : partB a = true) : a ≠ [] := by rintro rfl; revert h; decide
def cmpTo (x y : List By) : Nat → Nat → Int
 | 0, _ => 0
 | k + 1, i => if plt (atP x i) (atP y i) then -1 else if plt (atP y i) (atP x i) then 1 else cmpTo x y k (i + 1)
theorem cmpTo_neg {x y : List By} : ∀ (k i : Nat), (∀ j, j < i → atP x j = atP y j) → (∀ j, i + k ≤ j → atP x j = atP y j) → (∀ j, okP (atP x j) ∧ okP (atP y j)) → (cmpTo x y k i < 0 ↔ vlt x y)
 | 0, i, h1, h2, _ => by
  refine ⟨fun h => by simp [cmpTo] at h, fun ⟨j, _, h⟩ => ?_⟩
  exfalso
  rcases Nat.lt_or_ge j i with hj | hj
  ·rw [h1 j hj] at h; exact plt_irrefl _ h
  ·rw [h2 j (by omega)] at h; exact plt_irrefl _ h
 | k + 1, i, h1, h2, ok => by
  unfold cmpTo
  by_cases c1 : plt (atP x i) (atP y i)
  ·rw [if_pos c1]; exact ⟨fun _ => ⟨i, h1, c1⟩, fun _ => by omega⟩
  ·rw [if_neg c1]
   by_cases c2 : plt (atP y i) (atP x i)
   ·rw [if_pos c2]
    refine ⟨fun h => by omega, fun h => absurd (vlt_trans h ⟨i, fun j hj => (h1 j hj).symm, c2⟩) (vlt_irrefl x)⟩
   ·rw [if_neg c2]
    have e : atP x i = atP y i := by
     by_cases e : atP x i = atP y i
     ·exact e
     ·rcases plt_total (ok i).1 (ok i).2 e with h | h
      ·exact absurd h c1
      ·exact absurd h c2
    exact cmpTo_neg k (i + 1) (fun j hj => by
     rcases Nat.lt_or_ge j i with h | h
     ·exact h1 j h
     ·have e2 : j = i := by omega
      rw [e2]; exact e) (fun j hj => h2 j (by omega)) ok
end Vn
namespace Vn
open Go.Lib
theorem partB_num {l : List UInt8} {v : Int} (h : atoiAll l = .ok v) : partB l = (decide (0 ≤ v) && decide (v ≤ 999999999) && decide (itoa v = l)) := by
 have hl : lts l = false := by
  cases hh : lts l with
  | false => rfl
  | true => rw [lts_bad hh] at h; exact nomatch h
 unfold partB
 rw [hl, Bool.false_or]
 cases hn : numB l with
 | true =>
  obtain ⟨h1, h2, h3⟩ := num_read hn
  rw [h1] at h
  cases h
  rw [h3, decide_eq_true (by omega), decide_eq_true h2, decide_eq_true rfl]
  rfl
 | false =>
  symm
  by_cases c1 : 0 ≤ v
  ·by_cases c2 : v ≤ 999999999
   ·rw [decide_eq_false (p := itoa v = l) (fun e => by rw [read_num c1 c2 e] at hn; cases hn), Bool.and_false]
   ·rw [decide_eq_false c2, Bool.and_false, Bool.false_and]
  ·rw [decide_eq_false c1, Bool.false_and, Bool.false_and]
theorem part_num {l : List UInt8} {v : Int} (h : atoiAll l = .ok v) (hp : partB l = true) : rankOf l = 2 ∧ (numOf l : Int) = v ∧ wordOf l = [] := by
 have hl : lts l = false := by
  cases hh : lts l with
  | false => rfl
  | true => rw [lts_bad hh] at h; exact nomatch h
 have hn : numB l = true := by
  unfold partB at hp
  rw [hl, Bool.false_or] at hp
  exact hp
 have hne : l ≠ [] := part_ne hp
 have h1 := (num_read hn).1
 rw [h] at h1
 unfold rankOf numOf wordOf
 rw [if_neg hne, if_neg hne, hl]
 simp only [Bool.false_eq_true, if_false]
 refine ⟨trivial, ?_, trivial⟩
 cases h1
 rfl
theorem partB_word {l : List UInt8} (h : ∀ v, atoiAll l ≠ .ok v) : partB l = lts l := by
 unfold partB
 cases hn : numB l with
 | true => exact absurd (num_read hn).1 (h _)
 | false => rw [Bool.or_false]
theorem part_word {l : List UInt8} (hp : lts l = true) : rankOf l = 0 ∧ numOf l = 0 ∧ wordOf l = l := by
 have hne : l ≠ [] := by rintro rfl; revert hp; decide
 unfold rankOf numOf wordOf
 rw [if_neg hne, if_neg hne, if_pos hp, if_pos hp, if_pos hp]
 exact ⟨rfl, rfl, rfl⟩
end Vn
end Go.Proofs.YtmlfchjompfmaaaGreatDoor
