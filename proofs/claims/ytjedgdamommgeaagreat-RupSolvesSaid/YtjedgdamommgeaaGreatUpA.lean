/- UpFn Up RupFn, in one text. -/
import Derived.Test.YtjedgdamommgeaaGreatBase
set_option linter.unusedVariables false
namespace Go.Proofs.YtjedgdamommgeaaGreat
namespace Cnf
def value (l : List Int) (x : Int) : Int :=
 match l with
 | [] => 0
 | y :: r => if y = x then 1 else if y = -x then -1 else value r x
theorem value_range (l : List Int) (x : Int) : value l x = 0 ∨ value l x = 1 ∨ value l x = -1 := by
 induction l with
 | nil => exact .inl rfl
 | cons y r ih =>
  unfold value
  split
  ·exact .inr (.inl rfl)
  ·split
   ·exact .inr (.inr rfl)
   ·exact ih
def folEnd (op : Int) (n : Nat) : Int × Int := if n = 0 then (0, -1) else if n = 1 then (op, 1) else (0, 0)
def fol (l : List Int) : List Int → Int → Nat → Int × Int
 | [], op, n => folEnd op n
 | x :: r, op, n => if value l x = 1 then (0, 0) else if value l x = 0 then fol l r x (n + 1) else fol l r op n
theorem fol_drop (l : List Int) {c : List Int} {k : Nat} (h : k < c.length) (op : Int) (n : Nat) : fol l (c.drop k) op n = if value l (c.getD k 0) = 1 then (0, 0) else if value l (c.getD k 0) = 0 then fol l (c.drop (k + 1)) (c.getD k 0) (n + 1) else fol l (c.drop (k + 1)) op n := by
 rw [List.drop_eq_getElem_cons h, fol]
 have e : c.getD k 0 = c[k] := by simp [List.getD_eq_getElem?_getD, h]
 rw [e]
end Cnf
namespace Cnf
def pass : List (List Int) → List Int → List Int × Bool
 | [], o => (o, false)
 | c :: r, o => if (fol o c 0 0).2 = -1 then (o, true) else if (fol o c 0 0).2 = 1 then pass r (o ++ [(fol o c 0 0).1]) else pass r o
def andThen (p : List Int × Bool) (f : List Int → List Int × Bool) : List Int × Bool := if p.2 then (p.1, true) else f p.1
end Cnf
namespace Up
open Cnf
def Der (l : List Int) (cs : List (List Int)) (x : Int) : Prop :=
 ∀ P : Int → Prop, (∀ y ∈ l, P y) → (∀ c ∈ cs, ∀ z ∈ c, (∀ y ∈ c, y ≠ z → P (-y)) → P z) → P x
def Conf (l : List Int) (cs : List (List Int)) : Prop := ∃ c ∈ cs, ∀ y ∈ c, Der l cs (-y)
theorem Der.base {l : List Int} {cs : List (List Int)} {x : Int} (h : x ∈ l) : Der l cs x := fun _ h1 _ => h1 x h
theorem Der.unit {l : List Int} {cs : List (List Int)} {x : Int} {c : List Int} (hc : c ∈ cs) (hx : x ∈ c) (h : ∀ y ∈ c, y ≠ x → Der l cs (-y)) : Der l cs x :=
 fun P h1 h2 => h2 c hc x hx fun y hy hn => h y hy hn P h1 h2
theorem Der.mono {l l' : List Int} {cs cs' : List (List Int)} {x : Int} (h : Der l cs x) (hl : ∀ y ∈ l, y ∈ l') (hc : ∀ c ∈ cs, c ∈ cs') : Der l' cs' x :=
 fun P h1 h2 => h P (fun y hy => h1 y (hl y hy)) (fun c hcm => h2 c (hc c hcm))
theorem Conf.mono {l l' : List Int} {cs cs' : List (List Int)} (h : Conf l cs) (hl : ∀ y ∈ l, y ∈ l') (hc : ∀ c ∈ cs, c ∈ cs') : Conf l' cs' := by
 obtain ⟨c, h1, h2⟩ := h
 exact ⟨c, hc c h1, fun y hy => (h2 y hy).mono hl hc⟩
structure Good (n : Nat) (S : List Int) : Prop where
 lit : ∀ x ∈ S, x ≠ 0 ∧ x.natAbs ≤ n
 nod : (S.map Int.natAbs).Nodup
structure Cls (n : Nat) (c : List Int) : Prop where
 lit : ∀ x ∈ c, x ≠ 0 ∧ x.natAbs ≤ n
 nod : c.Nodup
theorem Good.cons {n : Nat} {S : List Int} (h : Good n S) {x : Int} (h1 : x ∈ S) (h2 : -x ∈ S) : False := by
 have hP := (List.pairwise_map.1 h.nod)
 have hx := (h.lit x h1).1
 obtain ⟨i, hi, ei⟩ := List.getElem_of_mem h1
 obtain ⟨j, hj, ej⟩ := List.getElem_of_mem h2
 rcases Nat.lt_trichotomy i j with c | c | c
 ·have := List.pairwise_iff_getElem.1 hP i j hi hj c
  rw [ei, ej] at this; omega
 ·subst c; rw [ei] at ej; omega
 ·have := List.pairwise_iff_getElem.1 hP j i hj hi c
  rw [ei, ej] at this; omega
theorem nodup_le : ∀ (n : Nat) (l : List Nat), l.Nodup → (∀ x ∈ l, 1 ≤ x ∧ x ≤ n) → l.length ≤ n
 | 0, [], _, _ => Nat.le_refl _
 | 0, x :: r, _, h => by have := h x List.mem_cons_self; omega
 | n + 1, l, hd, h => by
  have h1 := nodup_le n (l.erase (n + 1)) (hd.erase _) (fun x hx => by
   have h2 := (hd.mem_erase_iff).1 hx
   have := h x h2.2
   have := h2.1
   omega)
  have h2 := List.length_erase (a := n + 1) (l := l)
  split at h2 <;> omega
theorem Good.len {n : Nat} {S : List Int} (h : Good n S) : S.length ≤ n := by
 have := nodup_le n (S.map Int.natAbs) h.nod (fun x hx => by
  obtain ⟨y, hy, rfl⟩ := List.mem_map.1 hx
  have := h.lit y hy
  omega)
 simpa using this
theorem value_one {S : List Int} {x : Int} : value S x = 1 → x ∈ S := by
 induction S with
 | nil => intro h; simp [value] at h
 | cons y r ih =>
  intro h
  unfold value at h
  split at h
  ·rename_i e; rw [← e]; exact List.mem_cons_self
  ·split at h
   ·simp at h
   ·exact List.mem_cons_of_mem _ (ih h)
theorem value_neg {S : List Int} {x : Int} : value S x = -1 → -x ∈ S := by
 induction S with
 | nil => intro h; simp [value] at h
 | cons y r ih =>
  intro h
  unfold value at h
  split at h
  ·simp at h
  ·split at h
   ·rename_i e; rw [← e]; exact List.mem_cons_self
   ·exact List.mem_cons_of_mem _ (ih h)
theorem value_zero {S : List Int} {x : Int} : value S x = 0 ↔ x ∉ S ∧ -x ∉ S := by
 induction S with
 | nil => simp [value]
 | cons y r ih =>
  unfold value
  simp only [List.mem_cons]
  split
  ·rename_i e; subst e; simp
  ·split
   ·rename_i e; subst e; simp
   ·rename_i e1 e2
    rw [ih]
    constructor
    ·rintro ⟨h1, h2⟩; exact ⟨fun h => h.elim (fun e => e1 e.symm) h1, fun h => h.elim (fun e => e2 e.symm) h2⟩
    ·rintro ⟨h1, h2⟩; exact ⟨fun h => h1 (.inr h), fun h => h2 (.inr h)⟩
theorem Good.one {n : Nat} {S : List Int} (h : Good n S) {x : Int} : value S x = 1 ↔ x ∈ S := by
 refine ⟨value_one, fun hx => ?_⟩
 rcases value_range S x with h0 | h0 | h0
 ·exact absurd hx (value_zero.1 h0).1
 ·exact h0
 ·exact (h.cons hx (value_neg h0)).elim
theorem Good.neg {n : Nat} {S : List Int} (h : Good n S) {x : Int} : value S x = -1 ↔ -x ∈ S := by
 refine ⟨value_neg, fun hx => ?_⟩
 rcases value_range S x with h0 | h0 | h0
 ·exact absurd hx (value_zero.1 h0).2
 ·exact (h.cons (value_one h0) hx).elim
 ·exact h0
theorem Good.snoc {n : Nat} {S : List Int} (h : Good n S) {x : Int} (hx : x ≠ 0 ∧ x.natAbs ≤ n) (hv : value S x = 0) : Good n (S ++ [x]) := by
 obtain ⟨h1, h2⟩ := value_zero.1 hv
 refine ⟨fun y hy => ?_, ?_⟩
 ·rcases List.mem_append.1 hy with hy | hy
  ·exact h.lit y hy
  ·simp at hy; subst hy; exact hx
 ·rw [List.map_append, List.nodup_append]
  refine ⟨h.nod, by simp, ?_⟩
  intro a ha b hb e
  obtain ⟨y, hy, rfl⟩ := List.mem_map.1 ha
  simp at hb
  subst hb
  have : y = x ∨ y = -x := by omega
  rcases this with e | e
  ·subst e; exact h1 hy
  ·subst e; exact h2 hy
def opens (S c : List Int) : List Int := c.filter fun y => value S y == 0
theorem fol_sat (S : List Int) : ∀ (c : List Int) (op : Int) (n : Nat), (∃ y ∈ c, value S y = 1) → fol S c op n = (0, 0)
 | [], _, _, h => by obtain ⟨y, hy, _⟩ := h; cases hy
 | x :: r, op, n, h => by
  unfold fol
  by_cases h1 : value S x = 1
  ·rw [if_pos h1]
  ·rw [if_neg h1]
   have h' : ∃ y ∈ r, value S y = 1 := by
    obtain ⟨y, hy, hv⟩ := h
    rcases List.mem_cons.1 hy with e | e
    ·subst e; exact absurd hv h1
    ·exact ⟨y, e, hv⟩
   split
   ·exact fol_sat S r _ _ h'
   ·exact fol_sat S r _ _ h'
theorem fol_uns (S : List Int) : ∀ (c : List Int) (op : Int) (n : Nat), (∀ y ∈ c, value S y ≠ 1) → fol S c op n = folEnd (((opens S c).getLast?).getD op) (n + (opens S c).length)
 | [], op, n, _ => by simp [fol, opens]
 | x :: r, op, n, h => by
  unfold fol
  rw [if_neg (h x List.mem_cons_self)]
  have h' : ∀ y ∈ r, value S y ≠ 1 := fun y hy => h y (List.mem_cons_of_mem _ hy)
  by_cases h0 : value S x = 0
  ·rw [if_pos h0, fol_uns S r _ _ h']
   have e : opens S (x :: r) = x :: opens S r := by simp [opens, h0]
   rw [e, List.getLast?_cons, List.length_cons]
   congr 1
   omega
  ·rw [if_neg h0, fol_uns S r _ _ h']
   have e : opens S (x :: r) = opens S r := by simp [opens, h0]
   rw [e]
theorem mem_opens {S c : List Int} {y : Int} : y ∈ opens S c ↔ y ∈ c ∧ value S y = 0 := by simp [opens]
theorem fol_conf {n : Nat} {S c : List Int} (hS : Good n S) (h : (fol S c 0 0).2 = -1) : ∀ y ∈ c, -y ∈ S := by
 by_cases hs : ∃ y ∈ c, value S y = 1
 ·rw [fol_sat S c 0 0 hs] at h; simp at h
 ·have hn : ∀ y ∈ c, value S y ≠ 1 := fun y hy e => hs ⟨y, hy, e⟩
  rw [fol_uns S c 0 0 hn] at h
  unfold folEnd at h
  by_cases h0 : 0 + (opens S c).length = 0
  ·intro y hy
   have hno : opens S c = [] := List.eq_nil_of_length_eq_zero (by omega)
   rcases value_range S y with e | e | e
   ·have := mem_opens.2 ⟨hy, e⟩; rw [hno] at this; cases this
   ·exact absurd e (hn y hy)
   ·exact value_neg e
  ·rw [if_neg h0] at h
   split at h <;> simp at h
theorem fol_unit {n : Nat} {S c : List Int} (hS : Good n S) (h : (fol S c 0 0).2 = 1) : (fol S c 0 0).1 ∈ c ∧ value S (fol S c 0 0).1 = 0 ∧ ∀ y ∈ c, y ≠ (fol S c 0 0).1 → -y ∈ S := by
 by_cases hs : ∃ y ∈ c, value S y = 1
 ·rw [fol_sat S c 0 0 hs] at h; simp at h
 ·have hn : ∀ y ∈ c, value S y ≠ 1 := fun y hy e => hs ⟨y, hy, e⟩
  rw [fol_uns S c 0 0 hn] at h ⊢
  unfold folEnd at h ⊢
  by_cases h0 : 0 + (opens S c).length = 0
  ·rw [if_pos h0] at h; simp at h
  ·rw [if_neg h0] at h ⊢
   by_cases h1 : 0 + (opens S c).length = 1
   ·rw [if_pos h1]
    obtain ⟨x, hx⟩ : ∃ x, opens S c = [x] := List.length_eq_one_iff.1 (by omega)
    rw [hx]
    simp only [List.getLast?_singleton, Option.getD_some]
    have hm : x ∈ opens S c := by rw [hx]; exact List.mem_cons_self
    refine ⟨(mem_opens.1 hm).1, (mem_opens.1 hm).2, fun y hy hne => ?_⟩
    rcases value_range S y with e | e | e
    ·have := mem_opens.2 ⟨hy, e⟩; rw [hx] at this; simp at this; exact absurd this hne
    ·exact absurd e (hn y hy)
    ·exact value_neg e
   ·rw [if_neg h1] at h; simp at h
theorem fol_none {n : Nat} {S c : List Int} (hS : Good n S) (hc : c.Nodup) (h1 : (fol S c 0 0).2 ≠ -1) (h2 : (fol S c 0 0).2 ≠ 1) : (∃ y ∈ c, y ∈ S) ∨ ∃ y ∈ c, ∃ z ∈ c, y ≠ z ∧ -y ∉ S ∧ -z ∉ S := by
 by_cases hs : ∃ y ∈ c, value S y = 1
 ·obtain ⟨y, hy, e⟩ := hs
  exact .inl ⟨y, hy, value_one e⟩
 ·have hn : ∀ y ∈ c, value S y ≠ 1 := fun y hy e => hs ⟨y, hy, e⟩
  rw [fol_uns S c 0 0 hn] at h1 h2
  unfold folEnd at h1 h2
  have hd : (opens S c).Nodup := hc.filter _
  match ho : opens S c, hd with
  | [], _ => rw [ho] at h1; simp at h1
  | [x], _ => rw [ho] at h2; simp at h2
  | x :: y :: r, hd =>
   have hx := mem_opens.1 (show x ∈ opens S c by rw [ho]; simp)
   have hy := mem_opens.1 (show y ∈ opens S c by rw [ho]; simp)
   refine .inr ⟨x, hx.1, y, hy.1, ?_, (value_zero.1 hx.2).2, (value_zero.1 hy.2).2⟩
   intro e
   subst e
   simp at hd
def Fine (T S c : List Int) : Prop := (∃ y ∈ c, y ∈ S) ∨ ∃ y ∈ c, ∃ z ∈ c, y ≠ z ∧ -y ∉ T ∧ -z ∉ T
theorem Fine.more {T T' S S' c : List Int} (h : Fine T S c) (hT : ∀ x ∈ T', x ∈ T) (hS : ∀ x ∈ S, x ∈ S') : Fine T' S' c := by
 rcases h with ⟨y, h1, h2⟩ | ⟨y, h1, z, h2, h3, h4, h5⟩
 ·exact .inl ⟨y, h1, hS y h2⟩
 ·exact .inr ⟨y, h1, z, h2, h3, fun h => h4 (hT _ h), fun h => h5 (hT _ h)⟩
theorem closed {n : Nat} {l S : List Int} {cs : List (List Int)} (hS : Good n S) (hl : ∀ x ∈ l, x ∈ S) (hF : ∀ c ∈ cs, Fine S S c) : ¬ Conf l cs := by
 have hD : ∀ x, Der l cs x → x ∈ S := fun x h => h (fun x => x ∈ S) hl (fun c hc z hz h => by
  rcases hF c hc with ⟨y, hy, hyS⟩ | ⟨a, ha, b, hb, hab, h1, h2⟩
  ·by_cases e : y = z
   ·subst e; exact hyS
   ·exact (hS.cons hyS (h y hy e)).elim
  ·by_cases e : a = z
   ·exact absurd (h b hb (fun e' => hab (e.trans e'.symm))) h2
   ·exact absurd (h a ha e) h1)
 rintro ⟨c, hc, h⟩
 rcases hF c hc with ⟨y, hy, hyS⟩ | ⟨a, ha, b, hb, hab, h1, h2⟩
 ·exact hS.cons hyS (hD _ (h y hy))
 ·exact h1 (hD _ (h a ha))
structure Went (n : Nat) (l : List Int) (D : List (List Int)) (S S' : List Int) : Prop where
 good : Good n S'
 pre : ∃ r, S' = S ++ r
 der : ∀ x ∈ S', Der l D x
theorem Went.sub {n : Nat} {l : List Int} {D : List (List Int)} {S S' : List Int} (h : Went n l D S S') : ∀ x ∈ S, x ∈ S' := by
 obtain ⟨r, rfl⟩ := h.pre
 exact fun x hx => List.mem_append_left _ hx
theorem pass_went {n : Nat} {l : List Int} {D : List (List Int)} : ∀ (cs : List (List Int)) (S : List Int), Good n S → (∀ x ∈ S, Der l D x) → (∀ c ∈ cs, c ∈ D) → (∀ c ∈ cs, Cls n c) →
  Went n l D S (pass cs S).1 ∧ ((pass cs S).2 = true → Conf l D) ∧ ((pass cs S).2 = false → ∀ c ∈ cs, Fine S (pass cs S).1 c)
 | [], S, hS, hd, _, _ => ⟨⟨hS, ⟨[], by simp [pass]⟩, hd⟩, by simp [pass], fun _ c hc => by cases hc⟩
 | c :: r, S, hS, hd, hD, hC => by
  have hDr : ∀ c ∈ r, c ∈ D := fun c hc => hD c (List.mem_cons_of_mem _ hc)
  have hCr : ∀ c ∈ r, Cls n c := fun c hc => hC c (List.mem_cons_of_mem _ hc)
  have hc := hD c List.mem_cons_self
  have hcl := hC c List.mem_cons_self
  unfold pass
  by_cases h1 : (fol S c 0 0).2 = -1
  ·rw [if_pos h1]
   refine ⟨⟨hS, ⟨[], by simp⟩, hd⟩, fun _ => ⟨c, hc, fun y hy => hd _ (fol_conf hS h1 y hy)⟩, fun h => by simp at h⟩
  ·rw [if_neg h1]
   by_cases h2 : (fol S c 0 0).2 = 1
   ·rw [if_pos h2]
    obtain ⟨u1, u2, u3⟩ := fol_unit hS h2
    generalize (fol S c 0 0).1 = x at *
    have hS' : Good n (S ++ [x]) := hS.snoc (hcl.lit x u1) u2
    have hd' : ∀ y ∈ S ++ [x], Der l D y := fun y hy => by
     rcases List.mem_append.1 hy with hy | hy
     ·exact hd y hy
     ·simp at hy; subst hy; exact Der.unit hc u1 fun z hz hne => hd _ (u3 z hz hne)
    obtain ⟨w1, w2, w3⟩ := pass_went r (S ++ [x]) hS' hd' hDr hCr
    refine ⟨⟨w1.good, ?_, w1.der⟩, w2, fun h => ?_⟩
    ·obtain ⟨q, hq⟩ := w1.pre
     exact ⟨x :: q, by rw [hq]; simp⟩
    ·intro c' hc'
     rcases List.mem_cons.1 hc' with e | e
     ·subst e
      exact .inl ⟨x, u1, w1.sub x (by simp)⟩
     ·exact (w3 h c' e).more (fun y hy => List.mem_append_left _ hy) (fun _ h => h)
   ·rw [if_neg h2]
    obtain ⟨w1, w2, w3⟩ := pass_went r S hS hd hDr hCr
    refine ⟨w1, w2, fun h => ?_⟩
    intro c' hc'
    rcases List.mem_cons.1 hc' with e | e
    ·subst e
     exact Fine.more (fol_none hS hcl.nod h1 h2) (fun _ h => h) w1.sub
    ·exact w3 h c' e
def work (cs : List (List Int)) : Nat → Nat → List Int → List Int × Bool
 | 0, _, S => (S, false)
 | f + 1, i, S => if i < S.length then andThen (pass (cs.filter fun c => c.contains (-(S.getD i 0))) S) (work cs f (i + 1)) else (S, false)
def conf (n : Nat) (cs : List (List Int)) (S : List Int) : List Int × Bool := andThen (pass cs S) (work cs (n + 1) 0)
theorem work_iff {n : Nat} {l : List Int} {cs : List (List Int)} (hC : ∀ c ∈ cs, Cls n c) : ∀ (f i : Nat) (S : List Int), Good n S → (∀ x ∈ l, x ∈ S) → (∀ x ∈ S, Der l cs x) → (∀ c ∈ cs, Fine (S.take i) S c) → n < f + i →
  ((work cs f i S).2 = true ↔ Conf l cs)
 | 0, i, S, hS, hl, hd, hF, hm => by
  have := hS.len
  rw [List.take_of_length_le (by omega)] at hF
  have := closed hS hl hF
  simp [work, this]
 | f + 1, i, S, hS, hl, hd, hF, hm => by
  unfold work
  by_cases hi : i < S.length
  ·rw [if_pos hi]
   have hsub : ∀ c ∈ cs.filter (fun c => c.contains (-(S.getD i 0))), c ∈ cs := fun c hc => (List.mem_filter.1 hc).1
   obtain ⟨w1, w2, w3⟩ := pass_went (l := l) (D := cs) (cs.filter fun c => c.contains (-(S.getD i 0))) S hS hd hsub (fun c hc => hC c (hsub c hc))
   unfold andThen
   cases hp : (pass (cs.filter fun c => c.contains (-(S.getD i 0))) S).2
   ·simp only [Bool.false_eq_true, if_false]
    refine work_iff hC f (i + 1) _ w1.good (fun x hx => w1.sub x (hl x hx)) w1.der ?_ (by omega)
    intro c hc
    have e : S.getD i 0 = S[i] := by simp [List.getD_eq_getElem?_getD, hi]
    obtain ⟨r, hr⟩ := w1.pre
    have ht : ((pass (cs.filter fun c => c.contains (-(S.getD i 0))) S).1).take (i + 1) = S.take i ++ [S.getD i 0] := by
     rw [hr, List.take_append_of_le_length (by omega), List.take_succ_eq_append_getElem hi, e]
    rw [ht]
    by_cases hm : c.contains (-(S.getD i 0)) = true
    ·refine (w3 hp c (List.mem_filter.2 ⟨hc, hm⟩)).more ?_ (fun _ h => h)
     intro x hx
     rcases List.mem_append.1 hx with hx | hx
     ·exact List.mem_of_mem_take hx
     ·simp only [List.mem_singleton] at hx; rw [hx, e]; exact List.getElem_mem hi
    ·rcases hF c hc with ⟨y, h1, h2⟩ | ⟨y, h1, z, h2, h3, h4, h5⟩
     ·exact .inl ⟨y, h1, w1.sub y h2⟩
     ·have hm' : -(S.getD i 0) ∉ c := by simpa using hm
      refine .inr ⟨y, h1, z, h2, h3, ?_, ?_⟩
      ·intro h
       rcases List.mem_append.1 h with h | h
       ·exact h4 h
       ·simp only [List.mem_singleton] at h; exact hm' (by rw [← h]; simpa using h1)
      ·intro h
       rcases List.mem_append.1 h with h | h
       ·exact h5 h
       ·simp only [List.mem_singleton] at h; exact hm' (by rw [← h]; simpa using h2)
   ·simp only [if_true]
    exact ⟨fun _ => w2 hp, fun _ => trivial⟩
  ·rw [if_neg hi]
   rw [List.take_of_length_le (by omega)] at hF
   have := closed hS hl hF
   simp [this]
theorem conf_iff {n : Nat} {cs : List (List Int)} (hC : ∀ c ∈ cs, Cls n c) {S : List Int} (hS : Good n S) : (conf n cs S).2 = true ↔ Conf S cs := by
 obtain ⟨w1, w2, w3⟩ := pass_went (l := S) (D := cs) cs S hS (fun x hx => Der.base hx) (fun _ h => h) hC
 unfold conf andThen
 cases hp : (pass cs S).2
 ·simp only [Bool.false_eq_true, if_false]
  refine work_iff hC _ _ _ w1.good w1.sub w1.der (fun c hc => ?_) (by omega)
  refine (w3 hp c hc).more ?_ (fun _ h => h)
  intro x hx; simp at hx
 ·simp only [if_true]
  exact ⟨fun _ => w2 hp, fun _ => trivial⟩
end Up
namespace Rup
open Cnf
structure Chk where
 n : Nat
 cls : List (List Int)
 gone : List Bool
 of : Nat → List Int
 set : List Int
def place (x : Int) : Nat := if x < 0 then (-2 * x - 1).toNat else (2 * x - 2).toNat
def valL (n : Nat) (S : List Int) : List Int := (List.range n).map fun (i : Nat) => value S ((i : Int) + 1)
def ofN (cls : List (List Int)) (p : Nat) : List Nat := (List.range cls.length).filter fun k => (cls.getD k []).any fun l => place (-l) == p
def ofL (cls : List (List Int)) (p : Nat) : List Int := (ofN cls p).map fun k => ((k : Nat) : Int)
structure Chk.Ok (C : Chk) : Prop where
 n : C.n ≤ 65536
 len : C.gone.length = C.cls.length
 cls : ∀ c ∈ C.cls, Up.Cls C.n c
 set : Up.Good C.n C.set
 few : C.cls.length ≤ 1000000
 of_ : ∀ p, p < 2 * C.n → C.of p = ofL C.cls p
def Chk.liveOf (C : Chk) (ks : List Nat) : List (List Int) := ks.filterMap fun k => if C.gone.getD k false then none else some (C.cls.getD k [])
def Chk.live (C : Chk) : List (List Int) := C.liveOf (List.range C.cls.length)
def Chk.lookF (C : Chk) (S : List Int) (k : Nat) : List Int × Bool :=
 if C.gone.getD k false then (S, true) else if (fol S (C.cls.getD k []) 0 0).2 = -1 then (S, false)
 else if (fol S (C.cls.getD k []) 0 0).2 = 1 then (S ++ [(fol S (C.cls.getD k []) 0 0).1], true) else (S, true)
theorem pass_look (C : Chk) (k : Nat) (ks : List Nat) (S : List Int) : pass (C.liveOf (k :: ks)) S = if (C.lookF S k).2 then pass (C.liveOf ks) (C.lookF S k).1 else ((C.lookF S k).1, true) := by
 unfold Chk.liveOf Chk.lookF
 rw [List.filterMap_cons]
 cases hg : C.gone.getD k false
 ·simp only [Bool.false_eq_true, if_false]
  rw [pass]
  split
  ·simp
  ·split <;> simp
 ·simp
theorem value_negx (S : List Int) {x : Int} (hx : x ≠ 0) : value S (-x) = -value S x := by
 induction S with
 | nil => simp [value]
 | cons y r ih =>
  unfold value
  by_cases h1 : y = x
  ·subst h1
   rw [if_neg (by omega), if_pos (by omega), if_pos rfl]
  ·by_cases h2 : y = -x
   ·rw [if_pos h2, if_neg h1, if_pos h2]; rfl
   ·rw [if_neg h2, if_neg (by omega), if_neg h1, if_neg h2, ih]
theorem value_snoc (S : List Int) (x y : Int) : value (S ++ [x]) y = if value S y = 0 then (if x = y then 1 else if x = -y then -1 else 0) else value S y := by
 induction S with
 | nil => simp [value]
 | cons z r ih =>
  rw [List.cons_append, value, value]
  by_cases h1 : z = y
  ·rw [if_pos h1, if_pos h1, if_neg (by omega)]
  ·rw [if_neg h1, if_neg h1]
   by_cases h2 : z = -y
   ·rw [if_pos h2, if_pos h2, if_neg (by omega)]
   ·rw [if_neg h2, if_neg h2, ih]
theorem valL_len (n : Nat) (S : List Int) : (valL n S).length = n := by simp [valL]
theorem valL_get (n : Nat) (S : List Int) {i : Nat} (h : i < n) : (valL n S).getD i 0 = value S ((i : Int) + 1) := by
 simp [valL, List.getD_eq_getElem?_getD, h]
theorem valL_lit (n : Nat) (S : List Int) {x : Int} (h0 : x ≠ 0) (h : x.natAbs ≤ n) : value S x = if x < 0 then -((valL n S).getD (x.natAbs - 1) 0) else (valL n S).getD (x.natAbs - 1) 0 := by
 rw [valL_get n S (by omega)]
 by_cases hx : x < 0
 ·rw [if_pos hx, show (((x.natAbs - 1 : Nat) : Int) + 1) = -x by omega, value_negx S h0]; omega
 ·rw [if_neg hx, show (((x.natAbs - 1 : Nat) : Int) + 1) = x by omega]
theorem list_set_ext {l m : List Int} {i : Nat} {z : Int} (hl : l.length = m.length) (hi : i < l.length) (hz : l.getD i 0 = z) (h : ∀ j, j < l.length → j ≠ i → l.getD j 0 = m.getD j 0) : l = m.set i z := by
 apply List.ext_getElem
 ·simpa using hl
 ·intro j h1 h2
  rw [List.getElem_set]
  by_cases e : i = j
  ·subst e
   rw [if_pos rfl, ← hz]; simp [List.getD_eq_getElem?_getD, h1]
  ·rw [if_neg e]
   have := h j h1 (fun e' => e e'.symm)
   simpa [List.getD_eq_getElem?_getD, h1, show j < m.length by omega] using this
theorem valL_put (n : Nat) (S : List Int) {x : Int} (h0 : x ≠ 0) (h : x.natAbs ≤ n) (hv : value S x = 0) : valL n (S ++ [x]) = (valL n S).set (x.natAbs - 1) (if x < 0 then -1 else 1) := by
 have hz := valL_lit n S h0 h
 rw [hv] at hz
 refine list_set_ext (by simp [valL_len]) (by rw [valL_len]; omega) ?_ ?_
 ·rw [valL_get n _ (by omega), value_snoc]
  rw [valL_get n S (by omega)] at hz
  by_cases hx : x < 0
  ·rw [if_pos hx] at hz
   rw [if_pos (by omega), if_neg (by omega), if_pos (by omega), if_pos hx]
  ·rw [if_neg hx] at hz
   rw [if_pos (by omega), if_pos (by omega), if_neg hx]
 ·intro j hj hne
  rw [valL_len] at hj
  rw [valL_get n _ hj, valL_get n S hj, value_snoc, if_neg (show ¬ x = (j : Int) + 1 by omega), if_neg (show ¬ x = -((j : Int) + 1) by omega)]
  split
  ·rename_i e; rw [e]
  ·rfl
def valBack (n : Nat) (S : List Int) (j : Nat) : List Int := (List.range n).map fun (i : Nat) => if (S.take j).any (fun x => x.natAbs == i + 1) then 0 else value S ((i : Int) + 1)
theorem valBack_len (n : Nat) (S : List Int) (j : Nat) : (valBack n S j).length = n := by simp [valBack]
theorem valBack_zero (n : Nat) (S : List Int) : valBack n S 0 = valL n S := by simp [valBack, valL]
theorem valBack_succ (n : Nat) (S : List Int) {j : Nat} (hj : j < S.length) (hx : S.getD j 0 ≠ 0 ∧ (S.getD j 0).natAbs ≤ n) : valBack n S (j + 1) = (valBack n S j).set ((S.getD j 0).natAbs - 1) 0 := by
 have e : S.take (j + 1) = S.take j ++ [S.getD j 0] := by
  rw [List.take_succ_eq_append_getElem hj]; simp [List.getD_eq_getElem?_getD, hj]
 generalize S.getD j 0 = y at *
 refine list_set_ext (by simp [valBack_len]) (by rw [valBack_len]; omega) ?_ ?_
 ·unfold valBack
  rw [List.getD_eq_getElem?_getD, List.getElem?_map, List.getElem?_range (by omega)]
  simp only [Option.map_some, Option.getD_some]
  rw [e, if_pos]
  rw [List.any_append]
  have : ([y].any fun x => x.natAbs == y.natAbs - 1 + 1) = true := by
   simp; omega
  rw [this, Bool.or_true]
 ·intro i hi hne
  rw [valBack_len] at hi
  unfold valBack
  rw [List.getD_eq_getElem?_getD, List.getD_eq_getElem?_getD, List.getElem?_map, List.getElem?_map, List.getElem?_range hi]
  simp only [Option.map_some, Option.getD_some]
  rw [e, List.any_append]
  have : ([y].any fun x => x.natAbs == i + 1) = false := by
   simp; omega
  rw [this, Bool.or_false]
theorem valBack_all (n : Nat) (S : List Int) : valBack n S S.length = valL n [] := by
 unfold valBack valL
 apply List.map_congr_left
 intro i _
 rw [List.take_of_length_le (Nat.le_refl _)]
 split
 ·rfl
 ·rename_i h
  simp only [value]
  rw [Up.value_zero]
  simp only [Bool.not_eq_true, List.any_eq_false, beq_iff_eq] at h
  constructor
  ·intro hm; exact h _ hm (by omega)
  ·intro hm; exact h _ hm (by omega)
theorem place_inj {x y : Int} (hx : x ≠ 0) (hy : y ≠ 0) (h : place x = place y) : x = y := by
 unfold place at h
 split at h <;> split at h <;> omega
theorem place_lt {n : Nat} {x : Int} (hx : x ≠ 0 ∧ x.natAbs ≤ n) : place x < 2 * n := by
 unfold place
 split <;> omega
theorem live_of (C : Chk) (o : C.Ok) {x : Int} (hx : x ≠ 0) : C.liveOf (ofN C.cls (place x)) = C.live.filter fun c => c.contains (-x) := by
 unfold Chk.live Chk.liveOf ofN
 have hr : ∀ k ∈ List.range C.cls.length, k < C.cls.length := fun k hk => List.mem_range.1 hk
 revert hr
 generalize List.range C.cls.length = ks
 intro hr
 induction ks with
 | nil => rfl
 | cons k r ih =>
  have ih' := ih (fun k hk => hr k (List.mem_cons_of_mem _ hk))
  have hk := hr k List.mem_cons_self
  have hc := o.cls _ (getD_mem' [] hk)
  have hiff : ((C.cls.getD k []).any fun l => place (-l) == place x) = (C.cls.getD k []).contains (-x) := by
   rw [Bool.eq_iff_iff, List.any_eq_true, List.contains_iff_mem]
   constructor
   ·rintro ⟨l, hl, he⟩
    have := place_inj (x := -l) (y := x) (by have := (hc.lit l hl).1; omega) hx (by simpa using he)
    rw [← this]; simpa using hl
   ·intro hm
    exact ⟨-x, hm, by simp⟩
  rw [List.filter_cons, List.filterMap_cons]
  cases hg : C.gone.getD k false
  ·simp only [Bool.false_eq_true, if_false]
   rw [List.filter_cons, hiff]
   split
   ·rw [List.filterMap_cons, hg]
    simp only [Bool.false_eq_true, if_false]
    rw [ih']
   ·exact ih'
  ·simp only [if_true]
   split
   ·rw [List.filterMap_cons, hg]
    simp only [if_true]
    exact ih'
   ·exact ih'
theorem live_cls (C : Chk) (o : C.Ok) : ∀ c ∈ C.live, Up.Cls C.n c := by
 intro c hc
 unfold Chk.live Chk.liveOf at hc
 obtain ⟨k, hk, he⟩ := List.mem_filterMap.1 hc
 split at he
 ·cases he
 ·simp at he
  subst he
  exact o.cls _ (getD_mem' [] (List.mem_range.1 hk))
end Rup
end Go.Proofs.YtjedgdamommgeaaGreat
