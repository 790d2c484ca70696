/- What the clauses of a count say: there is a model for whatever is so of the row; they tell all at once. Plain Lean. -/
import Derived.Test.YtjedgdamommgeaaGreatTot7
import Derived.Test.YtjedgdamommgeaaGreatSvA
set_option linter.unusedVariables false
namespace Go.Proofs.YtjedgdamommgeaaGreat
open Go.RowKit
namespace Tot
open Cnf Up
def T (s : Nat → Bool) (x : Int) : Bool := decide (0 < x) == s x.natAbs
theorem T_neg (s : Nat → Bool) {x : Int} (h : x ≠ 0) : T s (-x) = !T s x := by
 unfold T
 rw [Int.natAbs_neg]
 by_cases c : 0 < x
 ·rw [decide_eq_true c, decide_eq_false (show ¬ 0 < -x by omega)]; cases s x.natAbs <;> rfl
 ·rw [decide_eq_false c, decide_eq_true (show 0 < -x by omega)]; cases s x.natAbs <;> rfl
theorem T_pos (s : Nat → Bool) {a : Nat} (h : 0 < a) : T s (a : Int) = s a := by
 unfold T
 rw [decide_eq_true (by omega), Int.natAbs_natCast]; cases s a <;> rfl
theorem T_congr {s s' : Nat → Bool} {x : Int} (h : s' x.natAbs = s x.natAbs) : T s' x = T s x := by unfold T; rw [h]
def cnt (s : Nat → Bool) (row : List Int) : Nat := (row.filter (T s)).length
theorem cnt_split (s : Nat → Bool) (row : List Int) (k : Nat) : cnt s row = cnt s (row.take k) + cnt s (row.drop k) := by
 unfold cnt; rw [← List.length_append, ← List.filter_append, List.take_append_drop]
theorem cnt_le (s : Nat → Bool) (row : List Int) : cnt s row ≤ row.length := List.length_filter_le _ _
theorem cnt_congr {s s' : Nat → Bool} {row : List Int} (h : ∀ x ∈ row, s' x.natAbs = s x.natAbs) : cnt s' row = cnt s row := by
 unfold cnt; rw [List.filter_congr fun x hx => T_congr (h x hx)]
def Vd (n : Nat) (x : Int) : Prop := x ≠ 0 ∧ x.natAbs ≤ n
theorem form_plain {c : List Int} (hl : ∀ x ∈ c, Vd 65536 x) (hne : ∀ x ∈ c, -x ∉ c) : form c = some (formL c) ∧ AbsStrict (formL c) := by
 have hlit : ∀ x ∈ c, Cnf.Lit x := fun x hx => Tr.lit_of (hl x hx).1 (hl x hx).2
 have hl2 : ∀ x ∈ formL c, Cnf.Lit x := fun x hx => hlit x ((mem_formL c x).1 hx)
 have hs := formL_strict c
 have habs : AbsStrict (formL c) := by
  unfold Strict at hs
  unfold AbsStrict
  refine hs.imp_of_mem fun {x y} hx hy hxy => ?_
  rw [lt_iff, (hl2 x hx).abs, (hl2 y hy).abs] at hxy
  rcases hxy with h1 | ⟨h1, h2⟩
  ·omega
  ·exfalso
   have : y = -x := by omega
   rw [this] at hy
   exact hne x ((mem_formL c x).1 hx) ((mem_formL c (-x)).1 hy)
 refine ⟨?_, habs⟩
 unfold form
 rw [any_wr hlit]
 simp only [Bool.false_eq_true, if_false]
 rw [clash_false_of habs hl2]
 rfl
theorem form_is {c f : List Int} (hl : ∀ x ∈ c, Vd 65536 x) (h : form c = some f) : AbsStrict f ∧ ∀ x, x ∈ f ↔ x ∈ c := by
 have hne : ∀ x ∈ c, -x ∉ c := fun x hx hx2 => by
  rw [form_opp (fun y hy => by have := hl y hy; unfold Vd at this; unfold InI64; omega) hx hx2] at h; cases h
 obtain ⟨h1, h2⟩ := form_plain hl hne
 rw [h1] at h
 simp only [Option.some.injEq] at h
 subst h
 exact ⟨h2, mem_formL c⟩
theorem adds_room : ∀ (l : List (List Int)) (B : Bld), (∀ c ∈ l, ∀ x ∈ c, Vd 65536 x) → B.cls.length + l.length ≤ 262144 → (adds B l).cls = B.cls ++ l.filterMap form ∧ (adds B l).bad = B.bad ∧ (adds B l).full = B.full
 | [], B, _, _ => ⟨by simp [adds], rfl, rfl⟩
 | c :: l, B, hl, hb => by
  have hlit : ∀ x ∈ c, Cnf.Lit x := fun x hx => Tr.lit_of (hl c (by simp) x hx).1 (hl c (by simp) x hx).2
  simp only [List.length_cons] at hb
  have e : adds B (c :: l) = adds (B.add c) l := rfl
  rw [e]
  have hadd : (B.add c).cls = B.cls ++ [c].filterMap form ∧ (B.add c).bad = B.bad ∧ (B.add c).full = B.full := by
   unfold Bld.add
   rw [if_neg (by rw [any_wr hlit]; decide)]
   cases hf : form c with
   | none => simp [hf]
   | some f =>
    simp only []
    rw [if_neg (by omega)]
    exact ⟨by simp [hf], rfl, rfl⟩
  have hlen : (B.add c).cls.length ≤ B.cls.length + 1 := by
   rw [hadd.1, List.length_append]
   have := List.length_filterMap_le form [c]
   simp only [List.length_singleton] at this
   omega
  obtain ⟨i1, i2, i3⟩ := adds_room l (B.add c) (fun d hd => hl d (by simp [hd])) (by omega)
  refine ⟨?_, i2.trans hadd.2.1, i3.trans hadd.2.2⟩
  rw [i1, hadd.1, List.append_assoc, ← List.filterMap_append]
  rfl
theorem mem_allC {x y out : List Int} {n : Nat} {c : List Int} : c ∈ allC x y out n (x.length + 1) ↔ ∃ i j, i ≤ x.length ∧ j ≤ y.length ∧ (c ∈ upC x y out n i j ∨ c ∈ dnC x y out n i j) := by
 unfold allC rowC cellC
 simp only [List.mem_flatMap, List.mem_range, List.mem_append]
 constructor
 ·rintro ⟨i, hi, j, hj, h⟩; exact ⟨i, j, by omega, by omega, h⟩
 ·rintro ⟨i, j, hi, hj, h⟩; exact ⟨i, by omega, j, by omega, h⟩
theorem nums_getD {n m i : Nat} (h : i < m) : (nums n m).getD i 0 = ((n + i + 1 : Nat) : Int) := by
 simp [nums, List.getD_eq_getElem?_getD, h]
theorem forced {L c : List Int} {z : Int} (hl : ∀ x ∈ c, Vd 65536 x) (hcons : ∀ x ∈ L, -x ∉ L) (hz : z ∈ c) (hzn : -z ∉ c) (ho : ∀ y ∈ c, y ≠ z → -y ∈ L) (hF : ∀ f, form c = some f → Fine L L f) : z ∈ L := by
 have hne : ∀ x ∈ c, -x ∉ c := fun x hx hx2 => by
  by_cases e1 : x = z
  ·subst e1; exact hzn hx2
  ·by_cases e2 : -x = z
   ·exact hzn (by rw [← e2, Int.neg_neg]; exact hx)
   ·have h1 := ho x hx e1
    have h2 := ho (-x) hx2 e2
    exact hcons (-x) h1 h2
 obtain ⟨h1, h2⟩ := form_plain hl hne
 rcases hF _ h1 with ⟨y, hy, hyL⟩ | ⟨y, hy, u, hu, hyu, hy2, hu2⟩
 ·have hyc := (mem_formL c y).1 hy
  by_cases e : y = z
  ·rw [← e]; exact hyL
  ·exact absurd (ho y hyc e) (hcons y hyL)
 ·have hyc := (mem_formL c y).1 hy
  have huc := (mem_formL c u).1 hu
  by_cases e : y = z
  ·by_cases e2 : u = z
   ·exact absurd (e.trans e2.symm) hyu
   ·exact absurd (ho u huc e2) hu2
  ·exact absurd (ho y hyc e) hy2
section
variable {x y : List Int} {n1 n p q : Nat} {cap : Int}
theorem up_mem {out : List Int} {i j : Nat} (hk : 0 < min (i + j) n) {c : List Int} (hc : c ∈ upC x y out n i j) : ∀ z, z ∈ c ↔ z = out.getD (min (i + j) n - 1) 0 ∨ (0 < i ∧ z = -(x.getD (i - 1) 0)) ∨ (0 < j ∧ z = -(y.getD (j - 1) 0)) := by
 unfold upC at hc
 rw [if_pos hk, List.mem_singleton] at hc
 subst hc
 intro z
 by_cases h1 : 0 < i <;> by_cases h2 : 0 < j <;> simp [h1, h2]
theorem dn_mem {out : List Int} {i j : Nat} (hk : i + j < n) {c : List Int} (hc : c ∈ dnC x y out n i j) : ∀ z, z ∈ c ↔ z = -(out.getD (i + j) 0) ∨ (i < x.length ∧ z = x.getD i 0) ∨ (j < y.length ∧ z = y.getD j 0) := by
 unfold dnC at hc
 rw [if_pos hk, List.mem_singleton] at hc
 subst hc
 intro z
 by_cases h1 : i < x.length <;> by_cases h2 : j < y.length <;> simp [h1, h2]
theorem up_some {out : List Int} {i j : Nat} (hk : 0 < min (i + j) n) : ∃ c, c ∈ upC x y out n i j := by
 unfold upC; rw [if_pos hk]; exact ⟨_, List.mem_singleton.2 rfl⟩
theorem dn_some {out : List Int} {i j : Nat} (hk : i + j < n) : ∃ c, c ∈ dnC x y out n i j := by
 unfold dnC; rw [if_pos hk]; exact ⟨_, List.mem_singleton.2 rfl⟩
theorem up_none {out : List Int} {i j : Nat} (hk : ¬ 0 < min (i + j) n) {c : List Int} (hc : c ∈ upC x y out n i j) : False := by
 unfold upC at hc; rw [if_neg hk] at hc; cases hc
theorem dn_none {out : List Int} {i j : Nat} (hk : ¬ i + j < n) {c : List Int} (hc : c ∈ dnC x y out n i j) : False := by
 unfold dnC at hc; rw [if_neg hk] at hc; cases hc
theorem merge_lits (hx : ∀ z ∈ x, Vd n1 z) (hy : ∀ z ∈ y, Vd n1 z) {c : List Int} (hc : c ∈ allC x y (nums n1 n) n (x.length + 1)) : ∀ z ∈ c, Vd (n1 + n) z := by
 obtain ⟨i, j, hi, hj, h⟩ := mem_allC.1 hc
 intro z hz
 have hxv : ∀ k, k < x.length → Vd (n1 + n) (x.getD k 0) := fun k hk => by have := hx _ (getD_mem' 0 hk); unfold Vd at *; omega
 have hyv : ∀ k, k < y.length → Vd (n1 + n) (y.getD k 0) := fun k hk => by have := hy _ (getD_mem' 0 hk); unfold Vd at *; omega
 rcases h with h | h
 ·by_cases hk : 0 < min (i + j) n
  ·rcases (up_mem hk h z).1 hz with e | ⟨h1, e⟩ | ⟨h1, e⟩
   ·rw [e, nums_getD (by omega)]; unfold Vd; omega
   ·rw [e]; have := hxv (i - 1) (by omega); unfold Vd at *; omega
   ·rw [e]; have := hyv (j - 1) (by omega); unfold Vd at *; omega
  ·exact (up_none hk h).elim
 ·by_cases hk : i + j < n
  ·rcases (dn_mem hk h z).1 hz with e | ⟨h1, e⟩ | ⟨h1, e⟩
   ·rw [e, nums_getD hk]; unfold Vd; omega
   ·rw [e]; exact hxv i h1
   ·rw [e]; exact hyv j h1
  ·exact (dn_none hk h).elim
theorem merge_model {s s' : Nat → Bool} (hx : ∀ z ∈ x, Vd n1 z) (hy : ∀ z ∈ y, Vd n1 z) (hn : (n : Int) ≤ cap) (hs : ∀ a, a ≤ n1 → s' a = s a) (ho : ∀ i, i < n → s' (n1 + i + 1) = decide (i < p + q))
  (tx : ∀ i, i < x.length → T s (x.getD i 0) = decide (i < p)) (ty : ∀ j, j < y.length → T s (y.getD j 0) = decide (j < q)) (cx : (x.length : Int) < cap → p ≤ x.length) (cy : (y.length : Int) < cap → q ≤ y.length)
  {c : List Int} (hc : c ∈ allC x y (nums n1 n) n (x.length + 1)) : ∃ z ∈ c, T s' z = true := by
 obtain ⟨i, j, hi, hj, h⟩ := mem_allC.1 hc
 have tx' : ∀ i, i < x.length → T s' (x.getD i 0) = decide (i < p) := fun i hi => by rw [← tx i hi]; exact T_congr (hs _ (hx _ (getD_mem' 0 hi)).2)
 have ty' : ∀ i, i < y.length → T s' (y.getD i 0) = decide (i < q) := fun i hi => by rw [← ty i hi]; exact T_congr (hs _ (hy _ (getD_mem' 0 hi)).2)
 have hout : ∀ i, i < n → T s' ((nums n1 n).getD i 0) = decide (i < p + q) := fun i hi => by rw [nums_getD hi, T_pos _ (by omega), ho i hi]
 rcases h with h | h
 ·by_cases hk : 0 < min (i + j) n
  ·have hm := up_mem hk h
   by_cases h1 : 0 < i ∧ p < i
   ·refine ⟨_, (hm _).2 (.inr (.inl ⟨h1.1, rfl⟩)), ?_⟩
    rw [T_neg _ (hx _ (getD_mem' 0 (by omega))).1, tx' _ (by omega), decide_eq_false (by omega)]; rfl
   ·by_cases h2 : 0 < j ∧ q < j
    ·refine ⟨_, (hm _).2 (.inr (.inr ⟨h2.1, rfl⟩)), ?_⟩
     rw [T_neg _ (hy _ (getD_mem' 0 (by omega))).1, ty' _ (by omega), decide_eq_false (by omega)]; rfl
    ·refine ⟨_, (hm _).2 (.inl rfl), ?_⟩
     rw [hout _ (by omega), decide_eq_true (by omega)]
  ·exact (up_none hk h).elim
 ·by_cases hk : i + j < n
  ·have hm := dn_mem hk h
   by_cases h1 : i < x.length ∧ i < p
   ·exact ⟨_, (hm _).2 (.inr (.inl ⟨h1.1, rfl⟩)), by rw [tx' _ h1.1, decide_eq_true h1.2]⟩
   ·by_cases h2 : j < y.length ∧ j < q
    ·exact ⟨_, (hm _).2 (.inr (.inr ⟨h2.1, rfl⟩)), by rw [ty' _ h2.1, decide_eq_true h2.2]⟩
    ·refine ⟨_, (hm _).2 (.inl rfl), ?_⟩
     rw [T_neg _ (by rw [nums_getD hk]; omega), hout _ hk, decide_eq_false (by omega)]; rfl
  ·exact (dn_none hk h).elim
theorem merge_det {L : List Int} (hcons : ∀ x ∈ L, -x ∉ L) (hb : n1 + n ≤ 65536) (hx : ∀ z ∈ x, Vd n1 z) (hy : ∀ z ∈ y, Vd n1 z) (hn : (n : Int) ≤ cap) (hn2 : n ≤ x.length + y.length)
  (tx : ∀ i, i < x.length → if i < p then x.getD i 0 ∈ L else -(x.getD i 0) ∈ L) (ty : ∀ j, j < y.length → if j < q then y.getD j 0 ∈ L else -(y.getD j 0) ∈ L) (cx : (x.length : Int) < cap → p ≤ x.length) (cy : (y.length : Int) < cap → q ≤ y.length)
  (hF : ∀ f ∈ (allC x y (nums n1 n) n (x.length + 1)).filterMap form, Fine L L f) : ∀ i, i < n → if i < p + q then ((n1 + i + 1 : Nat) : Int) ∈ L else -((n1 + i + 1 : Nat) : Int) ∈ L := by
 intro i hi
 have hxv : ∀ k, k < x.length → (x.getD k 0).natAbs ≤ n1 := fun k hk => (hx _ (getD_mem' 0 hk)).2
 have hyv : ∀ k, k < y.length → (y.getD k 0).natAbs ≤ n1 := fun k hk => (hy _ (getD_mem' 0 hk)).2
 have key : ∀ c, c ∈ allC x y (nums n1 n) n (x.length + 1) → ∀ z, z ∈ c → (z.natAbs = n1 + i + 1) → (∀ y' ∈ c, y' ≠ z → -y' ∈ L) → z ∈ L := fun c hc z hz ha ho => by
  have hlc := merge_lits hx hy hc
  refine forced (fun u hu => ⟨(hlc u hu).1, Nat.le_trans (hlc u hu).2 hb⟩) hcons hz (fun hzn => ?_) ho (fun f hf => hF f (List.mem_filterMap.2 ⟨c, hc, hf⟩))
  obtain ⟨a, b, ha', hb', h⟩ := mem_allC.1 hc
  rcases h with h | h
  ·by_cases hk : 0 < min (a + b) n
   ·rcases (up_mem hk h _).1 hz with e | ⟨g1, e⟩ | ⟨g1, e⟩
    ·rcases (up_mem hk h _).1 hzn with e2 | ⟨g2, e2⟩ | ⟨g2, e2⟩
     ·rw [nums_getD (by omega)] at e e2; omega
     ·have := hxv (a - 1) (by omega); omega
     ·have := hyv (b - 1) (by omega); omega
    ·have := hxv (a - 1) (by omega); omega
    ·have := hyv (b - 1) (by omega); omega
   ·exact up_none hk h
  ·by_cases hk : a + b < n
   ·rcases (dn_mem hk h _).1 hz with e | ⟨g1, e⟩ | ⟨g1, e⟩
    ·rcases (dn_mem hk h _).1 hzn with e2 | ⟨g2, e2⟩ | ⟨g2, e2⟩
     ·rw [nums_getD hk] at e e2; omega
     ·have := hxv a g2; omega
     ·have := hyv b g2; omega
    ·have := hxv a g1; omega
    ·have := hyv b g1; omega
   ·exact dn_none hk h
 by_cases hlt : i < p + q
 ·rw [if_pos hlt]
  obtain ⟨a, ha⟩ : ∃ a, a = min (min p x.length) (i + 1) := ⟨_, rfl⟩
  obtain ⟨b, hb2⟩ : ∃ b, b = i + 1 - a := ⟨_, rfl⟩
  have hbq : b ≤ q ∧ b ≤ y.length := by omega
  have hk : 0 < min (a + b) n := by omega
  obtain ⟨c, hc⟩ := up_some (x := x) (y := y) (out := nums n1 n) hk
  have hm := up_mem hk hc
  have hki : min (a + b) n - 1 = i := by omega
  rw [hki, nums_getD hi] at hm
  refine key c (mem_allC.2 ⟨a, b, by omega, hbq.2, .inl hc⟩) _ ((hm _).2 (.inl rfl)) (by omega) fun u hu hne => ?_
  rcases (hm u).1 hu with e | ⟨g1, e⟩ | ⟨g1, e⟩
  ·exact absurd e hne
  ·rw [e, Int.neg_neg]
   have := tx (a - 1) (by omega)
   rw [if_pos (by omega)] at this; exact this
  ·rw [e, Int.neg_neg]
   have := ty (b - 1) (by omega)
   rw [if_pos (by omega)] at this; exact this
 ·rw [if_neg hlt]
  obtain ⟨a, ha⟩ : ∃ a, a = p + min (i - p - q) (x.length - p) := ⟨_, rfl⟩
  obtain ⟨b, hb2⟩ : ∃ b, b = i - a := ⟨_, rfl⟩
  have hpx : p ≤ x.length := by omega
  have hqy : q ≤ y.length := by omega
  have hbq : b ≤ y.length ∧ q ≤ b := by omega
  have hk : a + b < n := by omega
  obtain ⟨c, hc⟩ := dn_some (x := x) (y := y) (out := nums n1 n) hk
  have hm := dn_mem hk hc
  have hki : a + b = i := by omega
  rw [hki, nums_getD hi] at hm
  refine key c (mem_allC.2 ⟨a, b, by omega, hbq.1, .inr hc⟩) _ ((hm _).2 (.inl rfl)) (by omega) fun u hu hne => ?_
  rcases (hm u).1 hu with e | ⟨g1, e⟩ | ⟨g1, e⟩
  ·exact absurd e hne
  ·rw [e]
   have := tx a (by omega)
   rw [if_neg (by omega)] at this; exact this
  ·rw [e]
   have := ty b (by omega)
   rw [if_neg (by omega)] at this; exact this
end
theorem flat_le {α β : Type} (f : α → List β) (b : Nat) (h : ∀ a, (f a).length ≤ b) : ∀ l : List α, (l.flatMap f).length ≤ l.length * b
 | [] => by simp
 | a :: l => by
  have := flat_le f b h l
  have := h a
  rw [List.flatMap_cons, List.length_append, List.length_cons, Nat.succ_mul]
  omega
theorem allC_len (x y out : List Int) (n : Nat) : (allC x y out n (x.length + 1)).length ≤ (x.length + 1) * ((y.length + 1) * 2) := by
 have h1 : ∀ i j, (cellC x y out n i j).length ≤ 2 := fun i j => by
  have hu : (upC x y out n i j).length ≤ 1 := by
   unfold upC
   by_cases h : 0 < min (i + j) n
   ·rw [if_pos h]; exact Nat.le_refl _
   ·rw [if_neg h]; exact Nat.zero_le _
  have hd : (dnC x y out n i j).length ≤ 1 := by
   unfold dnC
   by_cases h : i + j < n
   ·rw [if_pos h]; exact Nat.le_refl _
   ·rw [if_neg h]; exact Nat.zero_le _
  unfold cellC
  rw [List.length_append]
  omega
 have h2 : ∀ i, (rowC x y out n i (y.length + 1)).length ≤ (y.length + 1) * 2 := fun i => by
  unfold rowC
  have := flat_le (cellC x y out n i) 2 (h1 i) (List.range (y.length + 1))
  rw [List.length_range] at this; exact this
 unfold allC
 have := flat_le (fun i => rowC x y out n i (y.length + 1)) ((y.length + 1) * 2) h2 (List.range (x.length + 1))
 rw [List.length_range] at this; exact this
structure SemC (n0 n1 : Nat) (row out : List Int) (CL : List (List Int)) : Prop where
 vd : ∀ f ∈ CL, AbsStrict f ∧ ∀ z ∈ f, Vd n1 z
 model : ∀ s, ∃ s' : Nat → Bool, (∀ a, a ≤ n0 → s' a = s a) ∧ (∀ f ∈ CL, ∃ z ∈ f, T s' z = true) ∧ ∀ i, i < out.length → T s' (out.getD i 0) = decide (i < cnt s row)
 det : ∀ s L, (∀ x ∈ L, -x ∉ L) → (∀ z ∈ row, if T s z then z ∈ L else -z ∈ L) → (∀ f ∈ CL, Fine L L f) → (∀ a : Nat, n0 < a → a ≤ n1 → (a : Int) ∈ L ∨ -(a : Int) ∈ L) ∧ ∀ i, i < out.length → if i < cnt s row then out.getD i 0 ∈ L else -(out.getD i 0) ∈ L
structure Sem (cap : Int) (n0 : Nat) (row : List Int) (B : Bld) (r : List Int × Nat × Bool × Bld) : Prop where
 cl : ∃ CL, r.2.2.2.cls = B.cls ++ CL ∧ CL.length ≤ 1000 * (row.length - 1) ∧ SemC n0 r.2.1 row r.1 CL
 bad : r.2.2.2.bad = B.bad
 full : r.2.2.2.full = B.full
 lits : ∀ z ∈ r.1, Vd r.2.1 z
 mono : n0 ≤ r.2.1
 short : (r.1.length : Int) < cap → r.1.length = row.length
 le : r.1.length ≤ row.length
 capd : (r.1.length : Int) ≤ cap
theorem cnt_one (s : Nat → Bool) (x : Int) : cnt s [x] = if T s x then 1 else 0 := by
 unfold cnt
 cases h : T s x <;> simp [h]
theorem count_sem {cap : Int} (hc : 1 ≤ cap) {lim : Nat} (hlim : lim ≤ 65536) : ∀ (L : Nat) (row : List Int) (n0 : Nat) (fl : Bool) (B : Bld), row.length = L → 1 ≤ L → L ≤ 20 → (∀ z ∈ row, Vd n0 z) → n0 + (nd cap L).2 ≤ lim → B.cls.length + 1000 * L ≤ 262144 →
  Sem cap n0 row B (count cap lim row n0 fl B) := by
 intro L
 induction L using Nat.strongRecOn with
 | ind L ih =>
  intro row n0 fl B hL h1 h20 hv hl hB
  by_cases h : row.length < 2
  ·rw [count_short cap lim n0 fl B h]
   have hr : ∃ x, row = [x] := by
    match row, hL with
    | [x], _ => exact ⟨x, rfl⟩
    | [], hL => simp at hL; omega
    | _ :: _ :: _, _ => simp at h; omega
   obtain ⟨x, rfl⟩ := hr
   refine ⟨⟨[], by simp, by simp, ⟨fun f hf => (by cases hf), fun s => ⟨s, fun _ _ => rfl, fun f hf => (by cases hf), fun i hi => ?_⟩, fun s L hcons hrow _ => ⟨fun a h1 h2 => absurd h2 (by simp only; omega), fun i hi => ?_⟩⟩⟩, rfl, rfl, hv, Nat.le_refl _, fun _ => rfl, Nat.le_refl _, by simpa using hc⟩
   ·obtain rfl : i = 0 := by simpa using hi
    rw [cnt_one]
    show T s x = _
    cases T s x <;> rfl
   ·obtain rfl : i = 0 := by simpa using hi
    rw [cnt_one]
    have := hrow x (by simp)
    show if 0 < (if T s x = true then 1 else 0) then x ∈ L else -x ∈ L
    cases hT : T s x
    ·rw [hT] at this; simpa using this
    ·rw [hT] at this; simpa using this
  ·obtain ⟨a, ha⟩ : ∃ a, nd cap (L / 2) = a := ⟨_, rfl⟩
   obtain ⟨b, hb⟩ : ∃ b, nd cap (L - L / 2) = b := ⟨_, rfl⟩
   have hh : row.length / 2 = L / 2 := by rw [hL]
   have hL2 : ¬ L < 2 := by omega
   have hnd := nd_long hL2 ha hb
   have nb1 := (nd_bound cap hc (L / 2)).2.1 (by omega)
   have nb2 := (nd_bound cap hc (L - L / 2)).2.1 (by omega)
   obtain ⟨o1, l1, hf1⟩ := count_fit hc (L / 2) (row.take (L / 2)) n0 (by simp; omega)
   obtain ⟨o2, l2, hf2⟩ := count_fit hc (L - L / 2) (row.drop (L / 2)) (n0 + a.2) (by simp; omega)
   rw [hnd] at hl
   simp only at hl
   rw [ha] at l1 hf1 nb1
   rw [hb] at l2 hf2 nb2
   obtain ⟨r1, hr1⟩ : ∃ r, count cap lim (row.take (row.length / 2)) n0 fl B = r := ⟨_, rfl⟩
   obtain ⟨r2, hr2⟩ : ∃ r, count cap lim (row.drop (row.length / 2)) r1.2.1 r1.2.2.1 r1.2.2.2 = r := ⟨_, rfl⟩
   have hr1' := hr1
   have hr2' := hr2
   rw [hh] at hr1' hr2'
   obtain ⟨e1, e2, e3⟩ := hf1 lim fl B (by omega)
   rw [hr1'] at e1 e2 e3
   have s1 := ih (L / 2) (by omega) (row.take (L / 2)) n0 fl B (by simp; omega) (by omega) (by omega) (fun z hz => hv z (List.mem_of_mem_take hz)) (by rw [ha]; omega) (by omega)
   rw [hr1'] at s1
   obtain ⟨CL1, c1, c2, S1⟩ := s1.cl
   have htl : (row.take (L / 2)).length = L / 2 := by simp; omega
   have hdl : (row.drop (L / 2)).length = L - L / 2 := by simp; omega
   rw [htl] at c2
   obtain ⟨g1, g2, g3⟩ := hf2 lim r1.2.2.1 r1.2.2.2 (by omega)
   rw [← e2, hr2'] at g1 g2 g3
   have s2 := ih (L - L / 2) (by omega) (row.drop (L / 2)) r1.2.1 r1.2.2.1 r1.2.2.2 hdl (by omega) (by omega) (fun z hz => by have := hv z (List.mem_of_mem_drop hz); have := s1.mono; unfold Vd at *; omega) (by rw [hb, e2]; omega) (by rw [c1, List.length_append]; omega)
   rw [hr2'] at s2
   obtain ⟨CL2, d1, d2, S2⟩ := s2.cl
   rw [hdl] at d2
   obtain ⟨m, hm⟩ : ∃ m, (min ((r1.1.length : Int) + (r2.1.length : Int)) cap).toNat = m := ⟨_, rfl⟩
   have hma : (min ((a.1 : Int) + (b.1 : Int)) cap).toNat = m := by rw [← hm, e1, g1, l1, l2]
   rw [hma] at hl
   rw [count_long h hr1 hr2 hm, if_neg (by rw [e1, g1, l1, l2]; omega), if_pos (by rw [g2, e2]; omega)]
   have sh1 := s1.short
   have sh2 := s2.short
   have le1 := s1.le
   have le2 := s2.le
   rw [htl] at sh1 le1
   rw [hdl] at sh2 le2
   have x1 : ∀ z ∈ r1.1, Vd r2.2.1 z := fun z hz => by have := s1.lits z hz; have := s2.mono; unfold Vd at *; omega
   have y1 := s2.lits
   have hn2b : r2.2.1 + m ≤ 65536 := by rw [g2, e2]; omega
   have hlit3 : ∀ c ∈ allC r1.1 r2.1 (nums r2.2.1 m) m (r1.1.length + 1), ∀ z ∈ c, Vd (r2.2.1 + m) z := fun c hc2 => merge_lits x1 y1 hc2
   have hlen3 := allC_len r1.1 r2.1 (nums r2.2.1 m) m
   have hlen4 : (r1.1.length + 1) * ((r2.1.length + 1) * 2) ≤ 21 * (20 * 2) := Nat.mul_le_mul (by omega) (Nat.mul_le_mul (by omega) (Nat.le_refl _))
   have hroom : r2.2.2.2.cls.length + (allC r1.1 r2.1 (nums r2.2.1 m) m (r1.1.length + 1)).length ≤ 262144 := by
    rw [d1, c1, List.length_append, List.length_append]; omega
   obtain ⟨k1, k2, k3⟩ := adds_room _ r2.2.2.2 (fun c hc2 z hz => by have := hlit3 c hc2 z hz; unfold Vd at *; omega) hroom
   have hcn := fun (s : Nat → Bool) => cnt_split s row (L / 2)
   have hmc : (m : Int) ≤ cap := by omega
   have hms : m ≤ r1.1.length + r2.1.length := by omega
   refine ⟨⟨CL1 ++ CL2 ++ (allC r1.1 r2.1 (nums r2.2.1 m) m (r1.1.length + 1)).filterMap form, ?_, ?_, ⟨fun f hf => ?_, fun s => ?_, fun s L' hcons hrow hF => ?_⟩⟩, ?_, ?_, ?_, ?_, ?_, ?_, ?_⟩
   ·show (adds _ _).cls = _
    rw [k1, d1, c1, List.append_assoc, List.append_assoc, List.append_assoc]
   ·have := List.length_filterMap_le form (allC r1.1 r2.1 (nums r2.2.1 m) m (r1.1.length + 1))
    rw [List.length_append, List.length_append, hL]
    omega
   ·show AbsStrict f ∧ ∀ z ∈ f, Vd (r2.2.1 + m) z
    rcases List.mem_append.1 hf with hf | hf
    ·rcases List.mem_append.1 hf with hf | hf
     ·obtain ⟨q1, q2⟩ := S1.vd f hf
      exact ⟨q1, fun z hz => by have := q2 z hz; have := s2.mono; unfold Vd at *; omega⟩
     ·obtain ⟨q1, q2⟩ := S2.vd f hf
      exact ⟨q1, fun z hz => by have := q2 z hz; unfold Vd at *; omega⟩
    ·obtain ⟨c, hcm, hcf⟩ := List.mem_filterMap.1 hf
     have hlc := hlit3 c hcm
     obtain ⟨q1, q2⟩ := form_is (fun z hz => by have := hlc z hz; unfold Vd at *; omega) hcf
     exact ⟨q1, fun z hz => hlc z ((q2 z).1 hz)⟩
   ·obtain ⟨t1, a1, a2, a3⟩ := S1.model s
    obtain ⟨t2, b1, b2, b3⟩ := S2.model t1
    obtain ⟨t3, ht3⟩ : ∃ t3 : Nat → Bool, t3 = fun k => if k ≤ r2.2.1 then t2 k else decide (k - r2.2.1 - 1 < cnt s (row.take (L / 2)) + cnt s (row.drop (L / 2))) := ⟨_, rfl⟩
    have u1 : ∀ k, k ≤ r2.2.1 → t3 k = t2 k := fun k hk => by rw [ht3]; simp only; rw [if_pos hk]
    have u2 : ∀ i, i < m → t3 (r2.2.1 + i + 1) = decide (i < cnt s (row.take (L / 2)) + cnt s (row.drop (L / 2))) := fun i hi => by
     rw [ht3]; simp only; rw [if_neg (by omega), show r2.2.1 + i + 1 - r2.2.1 - 1 = i by omega]
    have hcd : cnt t1 (row.drop (L / 2)) = cnt s (row.drop (L / 2)) := cnt_congr fun z hz => a1 _ (hv z (List.mem_of_mem_drop hz)).2
    have hvx : ∀ z ∈ r1.1, T t2 z = T t1 z := fun z hz => T_congr (b1 _ (s1.lits z hz).2)
    refine ⟨t3, fun k hk => ?_, fun f hf => ?_, fun i hi => ?_⟩
    ·rw [u1 k (by have := s1.mono; have := s2.mono; omega), b1 k (by have := s1.mono; omega), a1 k hk]
    ·rcases List.mem_append.1 hf with hf | hf
     ·rcases List.mem_append.1 hf with hf | hf
      ·obtain ⟨z, hz, hT⟩ := a2 f hf
       have hzv := (S1.vd f hf).2 z hz
       have hm2 := s2.mono
       exact ⟨z, hz, by rw [← hT, T_congr (u1 _ (by have := hzv.2; omega)), T_congr (b1 _ hzv.2)]⟩
      ·obtain ⟨z, hz, hT⟩ := b2 f hf
       have hzv := (S2.vd f hf).2 z hz
       exact ⟨z, hz, by rw [← hT, T_congr (u1 _ hzv.2)]⟩
     ·obtain ⟨c, hcm, hcf⟩ := List.mem_filterMap.1 hf
      have hlc := hlit3 c hcm
      obtain ⟨q1, q2⟩ := form_is (fun z hz => by have := hlc z hz; unfold Vd at *; omega) hcf
      obtain ⟨z, hz, hT⟩ := merge_model (s := t2) (s' := t3) (p := cnt s (row.take (L / 2))) (q := cnt s (row.drop (L / 2))) x1 y1 hmc u1 u2
       (fun i hi => by rw [hvx _ (getD_mem' 0 hi)]; exact a3 i hi) (fun i hi => by rw [← hcd]; exact b3 i hi)
       (fun hlt => by have := cnt_le s (row.take (L / 2)); rw [htl] at this; have := sh1 hlt; omega)
       (fun hlt => by have := cnt_le s (row.drop (L / 2)); rw [hdl] at this; have := sh2 hlt; omega) hcm
      exact ⟨z, (q2 z).2 hz, hT⟩
    ·have hi : i < (nums r2.2.1 m).length := hi
     rw [nums_len] at hi
     show T t3 ((nums r2.2.1 m).getD i 0) = _
     rw [nums_getD hi, T_pos _ (by omega), u2 i hi, hcn s]
   ·have hF1 : ∀ f ∈ CL1, Fine L' L' f := fun f hf => hF f (List.mem_append_left _ (List.mem_append_left _ hf))
    have hF2 : ∀ f ∈ CL2, Fine L' L' f := fun f hf => hF f (List.mem_append_left _ (List.mem_append_right _ hf))
    obtain ⟨a1, a2⟩ := S1.det s L' hcons (fun z hz => hrow z (List.mem_of_mem_take hz)) hF1
    obtain ⟨b1, b2⟩ := S2.det s L' hcons (fun z hz => hrow z (List.mem_of_mem_drop hz)) hF2
    have hd := merge_det (p := cnt s (row.take (L / 2))) (q := cnt s (row.drop (L / 2))) hcons hn2b x1 y1 hmc hms a2 b2
     (fun hlt => by have := cnt_le s (row.take (L / 2)); rw [htl] at this; have := sh1 hlt; omega)
     (fun hlt => by have := cnt_le s (row.drop (L / 2)); rw [hdl] at this; have := sh2 hlt; omega)
     (fun f hf => hF f (List.mem_append_right _ hf))
    refine ⟨fun k h1 h2 => ?_, fun i hi => ?_⟩
    ·have h2 : k ≤ r2.2.1 + m := h2
     by_cases c1 : k ≤ r1.2.1
     ·exact a1 k h1 c1
     ·by_cases c2 : k ≤ r2.2.1
      ·exact b1 k (by omega) c2
      ·have := hd (k - r2.2.1 - 1) (by omega)
       rw [show r2.2.1 + (k - r2.2.1 - 1) + 1 = k by omega] at this
       split at this
       ·exact .inl this
       ·exact .inr this
    ·have hi : i < (nums r2.2.1 m).length := hi
     rw [nums_len] at hi
     show if i < cnt s row then (nums r2.2.1 m).getD i 0 ∈ L' else -((nums r2.2.1 m).getD i 0) ∈ L'
     rw [nums_getD hi, hcn s]
     exact hd i hi
   ·show (adds _ _).bad = _
    rw [k2, s2.bad, s1.bad]
   ·show (adds _ _).full = _
    rw [k3, s2.full, s1.full]
   ·intro z hz
    have hz : z ∈ nums r2.2.1 m := hz
    obtain ⟨i, hi, rfl⟩ := List.mem_map.1 hz
    have := List.mem_range.1 hi
    show Vd (r2.2.1 + m) _
    unfold Vd; omega
   ·show n0 ≤ r2.2.1 + m
    have := s1.mono; have := s2.mono; omega
   ·intro hlt
    have hlt : ((nums r2.2.1 m).length : Int) < cap := hlt
    show (nums r2.2.1 m).length = _
    rw [nums_len] at hlt ⊢
    have := sh1 (by omega)
    have := sh2 (by omega)
    omega
   ·show (nums r2.2.1 m).length ≤ _
    rw [nums_len]; omega
   ·show ((nums r2.2.1 m).length : Int) ≤ cap
    rw [nums_len]; exact hmc
end Tot
end Go.Proofs.YtjedgdamommgeaaGreat
