/- LrnP1 LrnP2 LrnP3 LrnP4 Ref18 ListsA Ref12S SatB LrnP5 PropP9, in one text. -/
import Derived.Test.YtjedgdamommgeaaGreatLrnC
import Derived.Test.YtjedgdamommgeaaGreatUpA
import Derived.Test.YtjedgdamommgeaaGreatCnfA
import Derived.Test.YtjedgdamommgeaaGreatBase
import Derived.Deep.CutBlock
import Derived.Deep.DeepCutAuto
import Derived.Test.YtjedgdamommgeaaGreatPrP
set_option linter.unusedVariables false
namespace Go.Proofs.YtjedgdamommgeaaGreat
open Go.RowKit
open Tr
namespace Tr
open Cnf Up
def Trail.held (T : Trail) : Prop := ∀ i, i < T.ents.length → 0 ≤ (T.ent i).2.2 → T.live (T.ent i).2.2.toNat
def Trail.among (T : Trail) (D : List (List Int)) : Prop := ∀ k, T.live k → T.cl k ≠ [] → ∃ d ∈ D, (T.cl k).Perm d
theorem lits_at {T : Trail} {x : Int} (hx : x ∈ T.lits) : ∃ i, i < T.ents.length ∧ T.lits.getD i 0 = x := by
 obtain ⟨i, hi, e⟩ := List.getElem_of_mem hx
 exact ⟨i, by rw [lits_len] at hi; exact hi, by rw [List.getD_eq_getElem?_getD, List.getElem?_eq_getElem hi]; exact e⟩
theorem mem_takeI {T : Trail} {x : Int} {i : Nat} (hi : i ≤ T.ents.length) : x ∈ T.lits.take i ↔ ∃ j, j < i ∧ T.lits.getD j 0 = x := by
 constructor
 ·intro h
  obtain ⟨j, hj, e⟩ := List.getElem_of_mem h
  rw [List.length_take] at hj
  rw [List.getElem_take] at e
  exact ⟨j, by omega, by rw [List.getD_eq_getElem?_getD, List.getElem?_eq_getElem (by omega)]; exact e⟩
 ·rintro ⟨j, hj, e⟩
  rw [← e]
  have hl := lits_len T
  have : (T.lits.take i).getD j 0 = T.lits.getD j 0 := by
   simp only [List.getD_eq_getElem?_getD, List.getElem?_take, if_pos hj]
  rw [← this]
  exact getD_mem' 0 (by rw [List.length_take]; omega)
theorem at_pos {T : Trail} (h : Inv T) {i : Nat} (hi : i < T.ents.length) {y : Int} (hy : y.natAbs = (T.lits.getD i 0).natAbs) : T.lvl y = ((T.ent i).2.1 : Int) ∧ T.why y = (T.ent i).2.2 := by
 have hm := h.ok.litAt hi
 have hn := h.ok.n
 have ha : absW y = (y.natAbs : Int) := absW_lit (n := T.n) (by omega) hn
 have hv : T.val ((y.natAbs : Nat) : Int) ≠ 0 := by
  have hin : T.lits.getD i 0 ∈ T.lits := getD_mem' 0 (by rw [lits_len]; exact hi)
  intro h0
  unfold Trail.val at h0
  obtain ⟨h1, h2⟩ := Up.value_zero.1 h0
  rw [hy] at h1 h2
  rcases Int.natAbs_eq (T.lits.getD i 0) with e | e
  ·rw [← e] at h1; exact h1 hin
  ·rw [← e] at h2; exact h2 hin
 have hme : T.ent i ∈ T.ents := getD_mem' _ hi
 have he := atomOf_mem (Nod.of_good h.ok.good) hme
 have hnat : ((y.natAbs : Nat) : Int).natAbs = (T.ent i).1.natAbs := by rw [ent_lit]; omega
 unfold Trail.lvl Trail.why Trail.at
 rw [ha, if_pos ⟨by omega, hv⟩, hnat, he]
 exact ⟨rfl, rfl⟩
theorem lvl_mono {T : Trail} (h : Inv T) {i j : Nat} (hij : i ≤ j) (hj : j < T.ents.length) : (T.ent i).2.1 ≤ (T.ent j).2.1 := by
 rw [h.lvl i (by omega), h.lvl j hj]
 refine List.Sublist.length_le ?_
 have : (T.levels.filter fun x => decide (x.1 ≤ i)) = (T.levels.filter fun x => decide (x.1 ≤ j)).filter fun x => decide (x.1 ≤ i) := by
  rw [List.filter_filter]
  refine List.filter_congr fun x _ => ?_
  by_cases c : x.1 ≤ i
  ·simp [c, show x.1 ≤ j by omega]
  ·simp [c]
 rw [this]
 exact List.filter_sublist
theorem lvl_dec {T : Trail} (h : Inv T) {i j : Nat} (hij : i < j) (hj : j < T.ents.length) (hd : (T.ent j).2.2 = -1) : (T.ent i).2.1 < (T.ent j).2.1 := by
 obtain ⟨z, hz, e⟩ := (h.dec j hj).1 hd
 rw [h.lvl i (by omega), h.lvl j hj]
 have hs : ((T.levels.filter fun x => decide (x.1 ≤ i)) ++ (T.levels.filter fun x => decide (x.1 = j))).length ≤ (T.levels.filter fun x => decide (x.1 ≤ j)).length := by
  rw [List.length_append, ← List.countP_eq_length_filter, ← List.countP_eq_length_filter, ← List.countP_eq_length_filter]
  clear hz
  induction T.levels with
  | nil => simp
  | cons a r ih =>
   simp only [List.countP_cons, decide_eq_true_eq]
   split <;> split <;> split <;> omega
 have h1 : 0 < (T.levels.filter fun x => decide (x.1 = j)).length := List.length_pos_of_mem (List.mem_filter.2 ⟨hz, by simpa using e⟩)
 rw [List.length_append] at hs
 omega
theorem lvl_pos {T : Trail} (h : Inv T) {j : Nat} (hj : j < T.ents.length) (hd : (T.ent j).2.2 = -1) : 0 < (T.ent j).2.1 := by
 obtain ⟨z, hz, e⟩ := (h.dec j hj).1 hd
 rw [h.lvl j hj]
 exact List.length_pos_of_mem (List.mem_filter.2 ⟨hz, by simp [e]⟩)
theorem same_lit {T : Trail} (h : Inv T) {x y : Int} (hx : x ∈ T.lits) (hy : y ∈ T.lits) (e : x.natAbs = y.natAbs) : x = y := by
 rcases Int.natAbs_eq_natAbs_iff.1 e with e | e
 ·exact e
 ·subst e
  exact absurd (h.ok.good.cons hy hx) id
structure Why (T : Trail) (i : Nat) (x : Int) (l : List Int) : Prop where
 r0 : 0 ≤ (T.ent i).2.2
 live : T.live (T.ent i).2.2.toNat
 cause : Cause T.lits (T.cl (T.ent i).2.2.toNat) x i
 oth : ∀ y ∈ T.cl (T.ent i).2.2.toNat, y ≠ x → -y ∈ T.lits.take i ∧ (T.lvl y = 0 ∨ y ∈ l)
 mem : ∀ y ∈ l, -y ∈ T.lits.take i ∧ T.lvl y ≠ 0
theorem reason_of {T : Trail} (h : Inv T) (hh : T.held) {i : Nat} (hi : i < T.ents.length) {x : Int} (hx : T.lits.getD i 0 = x) {z : Int} (hz : z.natAbs = x.natAbs) :
  ((T.ent i).2.2 = -1 ∧ T.reasonL z = none) ∨ ∃ l, T.reasonL z = some l ∧ Why T i x l := by
 have hm := h.ok.litAt hi
 have hn := h.ok.n
 obtain ⟨hl, hw⟩ := at_pos h hi (y := z) (by rw [hz, hx])
 rcases h.rea i hi with h1 | ⟨h0, hk, hc⟩
 ·refine .inl ⟨h1, ?_⟩
  unfold Trail.reasonL
  rw [hw, h1]; rfl
 ·have hlv := hh i hi h0
  have hth : T.there (T.ent i).2.2 = true := by
   have := there_iff.2 hlv
   rwa [Int.toNat_of_nonneg h0] at this
  rw [ent_lit, hx] at hc
  have hg := h.ok.cls _ (getD_mem' [] hk : T.cl (T.ent i).2.2.toNat ∈ T.cls)
  refine .inr ⟨(formL (T.cl (T.ent i).2.2.toNat)).filter fun y => !T.rsP z y, ?_, h0, hlv, hc, fun y hy hne => ⟨hc.oth y hy hne, ?_⟩, fun y hy => ?_⟩
  ·unfold Trail.reasonL
   rw [hw, if_neg (by omega)]
   unfold Trail.clauseL
   rw [hth]; rfl
  ·by_cases h0 : T.lvl y = 0
   ·exact .inl h0
   ·refine .inr (List.mem_filter.2 ⟨(mem_formL _ _).2 hy, ?_⟩)
    unfold Trail.rsP
    rw [absW_lit (hg.lit y hy) hn, absW_lit (n := T.n) (x := z) (by rw [hx] at hm; omega) hn]
    have hne2 : y.natAbs ≠ x.natAbs := by
     intro e
     rcases Int.natAbs_eq_natAbs_iff.1 e with e | e
     ·exact hne e
     ·subst e
      exact absurd (hg.cons hc.mem hy) id
    simp only [Bool.not_or, Bool.and_eq_true, Bool.not_eq_true', beq_eq_false_iff_ne]
    exact ⟨by omega, h0⟩
  ·obtain ⟨h1, h2⟩ := List.mem_filter.1 hy
   have hy1 := (mem_formL _ _).1 h1
   unfold Trail.rsP at h2
   simp only [Bool.not_or, Bool.and_eq_true, Bool.not_eq_true', beq_eq_false_iff_ne] at h2
   refine ⟨hc.oth y hy1 fun e => ?_, h2.2⟩
   subst e
   apply h2.1
   rw [absW_lit (hg.lit y hy1) hn, absW_lit (n := T.n) (x := z) (by rw [hx] at hm; omega) hn]
   omega
theorem der_zero {T : Trail} (h : Inv T) (hh : T.held) {D : List (List Int)} (hD : T.among D) {A : List Int} : ∀ (m i : Nat), i < m → i < T.ents.length → (T.ent i).2.1 = 0 → Der A D (T.lits.getD i 0)
 | 0, _, hm, _, _ => by omega
 | m + 1, i, hm, hi, h0 => by
  rcases reason_of h hh hi rfl rfl with ⟨h1, _⟩ | ⟨l, _, W⟩
  ·have := lvl_pos h hi h1; omega
  ·obtain ⟨d, hd, p⟩ := hD _ W.live (fun e => by have := W.cause.mem; rw [e] at this; cases this)
   refine Der.unit hd (p.mem_iff.1 W.cause.mem) fun y hy hne => ?_
   obtain ⟨j, hj, e⟩ := (mem_takeI (Nat.le_of_lt hi)).1 (W.oth y (p.mem_iff.2 hy) hne).1
   rw [← e]
   exact der_zero h hh hD m j (by omega) (by omega) (by have := lvl_mono h (Nat.le_of_lt hj) hi; omega)
theorem der_zero' {T : Trail} (h : Inv T) (hh : T.held) {D : List (List Int)} (hD : T.among D) {A : List Int} {y : Int} (hy : -y ∈ T.lits) (h0 : T.lvl y = 0) : Der A D (-y) := by
 obtain ⟨i, hi, e⟩ := lits_at hy
 have := (at_pos h hi (y := y) (by rw [e]; omega)).1
 rw [← e]
 exact der_zero h hh hD (i + 1) i (by omega) hi (by omega)
theorem Why.der {T : Trail} (h : Inv T) (hh : T.held) {D : List (List Int)} (hD : T.among D) {A : List Int} {i : Nat} {x : Int} {l : List Int} (W : Why T i x l) (hl : ∀ y ∈ l, Der A D (-y)) : Der A D x := by
 obtain ⟨d, hd, p⟩ := hD _ W.live (fun e => by have := W.cause.mem; rw [e] at this; cases this)
 refine Der.unit hd (p.mem_iff.1 W.cause.mem) fun y hy hne => ?_
 obtain ⟨h1, h2⟩ := W.oth y (p.mem_iff.2 hy) hne
 rcases h2 with h2 | h2
 ·exact der_zero' h hh hD (List.mem_of_mem_take h1) h2
 ·exact hl y h2
structure StuAt (T : Trail) (top : Int) (s : Stu) (i : Nat) : Prop where
 nd : s.ks.Nodup
 off : ∀ a, a ∉ s.ks → s.f a = 0
 on : ∀ a ∈ s.ks, s.f a ≠ 0 ∧ ((s.f a).natAbs : Int) = a ∧ -(s.f a) ∈ T.lits ∧ 0 < T.lvl (s.f a) ∧ T.lvl (s.f a) ≤ top
 pos : ∀ a ∈ s.ks, T.lvl (s.f a) = top → -(s.f a) ∈ T.lits.take i
 many : s.many = ((s.ks.filter fun a => T.lvl (s.f a) == top).length : Int)
theorem StuAt.new (T : Trail) (top : Int) (i : Nat) : StuAt T top Stu.new i :=
 ⟨List.nodup_nil, fun _ _ => rfl, (fun a ha => by cases ha), (fun a ha => by cases ha), rfl⟩
theorem StuAt.eq {T : Trail} (h : Inv T) {top : Int} {s : Stu} {i : Nat} (S : StuAt T top s i) {x : Int} (hx : -x ∈ T.lits) (hf : s.f (absW x) ≠ 0) : absW x ∈ s.ks ∧ s.f (absW x) = x := by
 have hk : absW x ∈ s.ks := by
  by_cases c : absW x ∈ s.ks
  ·exact c
  ·exact absurd (S.off _ c) hf
 obtain ⟨_, h2, h3, _⟩ := S.on _ hk
 have hxn : x ≠ 0 ∧ x.natAbs ≤ T.n := by have := h.ok.good.lit _ hx; omega
 rw [absW_lit hxn h.ok.n] at h2 h3 hk ⊢
 refine ⟨hk, ?_⟩
 have := same_lit h h3 hx (by omega)
 omega
theorem StuAt.len {T : Trail} (h : Inv T) {top : Int} {s : Stu} {i : Nat} (S : StuAt T top s i) : s.ks.length ≤ 65536 := by
 have := keys_len (n := T.n) (fun x hx => by
  obtain ⟨h1, h2, h3, _⟩ := S.on x hx
  have := h.ok.good.lit _ h3
  omega) S.nd
 have := h.ok.n
 omega
theorem w64_small {x : Int} (h : -100000 ≤ x ∧ x ≤ 100000) : w64 x = x := IntWalk.i64_in _ (by omega)
theorem StuAt.lit {T : Trail} (h : Inv T) {x : Int} (hx : -x ∈ T.lits) : x ≠ 0 ∧ x.natAbs ≤ T.n ∧ absW x = (x.natAbs : Int) := by
 have := h.ok.good.lit _ hx
 exact ⟨by omega, by omega, absW_lit (n := T.n) (by omega) h.ok.n⟩
structure Took (T : Trail) (top : Int) (s : Stu) (x : Int) (i : Nat) (s' : Stu) : Prop where
 at_ : StuAt T top s' i
 keep : ∀ a ∈ s.ks, a ∈ s'.ks ∧ s'.f a = s.f a
 got : T.lvl x = 0 ∨ (absW x ∈ s'.ks ∧ s'.f (absW x) = x)
theorem StuAt.take1 {T : Trail} (h : Inv T) {top : Int} {s : Stu} {i : Nat} (S : StuAt T top s i) {x : Int} (hx : -x ∈ T.lits) (hl : T.lvl x ≤ top) (hp : T.lvl x = top → -x ∈ T.lits.take i) : Took T top s x i (T.take1 top s x) := by
 obtain ⟨x0, xn, xa⟩ := StuAt.lit h hx
 unfold Trail.take1
 split
 ·rename_i hc
  refine ⟨S, fun a ha => ⟨ha, rfl⟩, ?_⟩
  rcases hc with hc | hc
  ·exact .inl hc
  ·exact .inr (S.eq h hx hc)
 ·rename_i hc
  rw [not_or] at hc
  obtain ⟨hc1, hc2⟩ := hc
  have hf0 : s.f (absW x) = 0 := by by_cases c : s.f (absW x) = 0; exact c; exact absurd c hc2
  have hnk : absW x ∉ s.ks := fun hk => (S.on _ hk).1 hf0
  have hadd : addK s.ks (absW x) = s.ks ++ [absW x] := by unfold addK; rw [if_neg hnk]
  have hlv : 0 < T.lvl x := by
   obtain ⟨j, hj, e⟩ := lits_at hx
   have := (at_pos h hj (y := x) (by rw [e]; omega)).1
   omega
  have hu : ∀ a ∈ s.ks, upd s.f (absW x) x a = s.f a := fun a ha => by
   have hne : a ≠ absW x := fun e => by rw [e] at ha; exact hnk ha
   unfold upd; rw [if_neg hne]
  have hux : upd s.f (absW x) x (absW x) = x := by unfold upd; rw [if_pos rfl]
  have hlen := S.len h
  have hfl := List.length_filter_le (fun a => T.lvl (s.f a) == top) s.ks
  refine ⟨⟨?_, fun a ha => ?_, fun a ha => ?_, fun a ha => ?_, ?_⟩, fun a ha => ⟨?_, hu a ha⟩, .inr ⟨?_, hux⟩⟩
  ·show (addK s.ks (absW x)).Nodup
   rw [hadd, List.nodup_append]
   exact ⟨S.nd, by simp, fun a ha b hb e => by
    rw [List.mem_singleton] at hb
    rw [e, hb] at ha; exact hnk ha⟩
  ·have ha : a ∉ addK s.ks (absW x) := ha
   rw [hadd] at ha
   simp only [List.mem_append, List.mem_singleton, not_or] at ha
   show upd s.f (absW x) x a = 0
   unfold upd
   rw [if_neg ha.2]
   exact S.off a ha.1
  ·have ha : a ∈ addK s.ks (absW x) := ha
   show upd s.f (absW x) x a ≠ 0 ∧ ((upd s.f (absW x) x a).natAbs : Int) = a ∧ -(upd s.f (absW x) x a) ∈ T.lits ∧ 0 < T.lvl (upd s.f (absW x) x a) ∧ T.lvl (upd s.f (absW x) x a) ≤ top
   rw [hadd] at ha
   rcases List.mem_append.1 ha with ha | ha
   ·rw [hu a ha]; exact S.on a ha
   ·simp at ha; subst ha
    rw [hux]
    exact ⟨x0, xa.symm, hx, hlv, hl⟩
  ·have ha : a ∈ addK s.ks (absW x) := ha
   show T.lvl (upd s.f (absW x) x a) = top → -(upd s.f (absW x) x a) ∈ T.lits.take i
   rw [hadd] at ha
   rcases List.mem_append.1 ha with ha | ha
   ·rw [hu a ha]; exact S.pos a ha
   ·simp at ha; subst ha
    rw [hux]
    exact hp
  ·show (if T.lvl x = top then w64 (s.many + 1) else s.many) = (((addK s.ks (absW x)).filter fun a => T.lvl (upd s.f (absW x) x a) == top).length : Int)
   rw [hadd, List.filter_append, List.length_append]
   have e1 : (s.ks.filter fun a => T.lvl (upd s.f (absW x) x a) == top) = s.ks.filter fun a => T.lvl (s.f a) == top := List.filter_congr fun a ha => by rw [hu a ha]
   rw [e1]
   have hm := S.many
   by_cases c : T.lvl x = top
   ·rw [if_pos c, w64_small (by omega)]
    have : (([absW x] : List Int).filter fun a => T.lvl (upd s.f (absW x) x a) == top) = [absW x] := by
     rw [List.filter_cons, hux]; simp [c]
    rw [this]
    simp only [List.length_singleton]
    omega
   ·rw [if_neg c]
    have : (([absW x] : List Int).filter fun a => T.lvl (upd s.f (absW x) x a) == top) = [] := by
     rw [List.filter_cons, hux]; simp [c]
    rw [this]
    simp only [List.length_nil]
    omega
  ·show a ∈ addK s.ks (absW x)
   rw [hadd]; exact List.mem_append_left _ ha
  ·show absW x ∈ addK s.ks (absW x)
   rw [hadd]; simp
structure TookAll (T : Trail) (top : Int) (s : Stu) (l : List Int) (i : Nat) (s' : Stu) : Prop where
 at_ : StuAt T top s' i
 keep : ∀ a ∈ s.ks, a ∈ s'.ks ∧ s'.f a = s.f a
 got : ∀ x ∈ l, T.lvl x = 0 ∨ (absW x ∈ s'.ks ∧ s'.f (absW x) = x)
theorem StuAt.takes {T : Trail} (h : Inv T) {top : Int} {i : Nat} : ∀ (l : List Int) {s : Stu}, StuAt T top s i → (∀ x ∈ l, -x ∈ T.lits ∧ T.lvl x ≤ top ∧ (T.lvl x = top → -x ∈ T.lits.take i)) → TookAll T top s l i (T.takes top s l)
 | [], s, S, _ => ⟨S, fun a ha => ⟨ha, rfl⟩, fun x hx => by cases hx⟩
 | x :: r, s, S, hl => by
  obtain ⟨h1, h2, h3⟩ := hl x (by simp)
  have K := S.take1 h h1 h2 h3
  have R := StuAt.takes h r K.at_ (fun y hy => hl y (by simp [hy]))
  have e : T.takes top s (x :: r) = T.takes top (T.take1 top s x) r := rfl
  rw [e]
  refine ⟨R.at_, fun a ha => ?_, fun y hy => ?_⟩
  ·obtain ⟨k1, k2⟩ := K.keep a ha
   obtain ⟨r1, r2⟩ := R.keep a k1
   exact ⟨r1, r2.trans k2⟩
  ·rcases List.mem_cons.1 hy with rfl | hy
   ·rcases K.got with g | ⟨g1, g2⟩
    ·exact .inl g
    ·obtain ⟨r1, r2⟩ := R.keep _ g1
     exact .inr ⟨r1, r2.trans g2⟩
   ·exact R.got y hy
end Tr
namespace Tr
open Cnf Up
theorem absW_idem {T : Trail} (h : Inv T) {x : Int} (hx : x ∈ T.lits) : absW x = (x.natAbs : Int) ∧ absW (absW x) = absW x := by
 have := h.ok.good.lit _ hx
 have e := absW_lit (n := T.n) this h.ok.n
 refine ⟨e, ?_⟩
 rw [e, absW_lit (n := T.n) (by omega) h.ok.n]
 omega
theorem StuAt.some_top {T : Trail} {top : Int} {s : Stu} {i : Nat} (S : StuAt T top s i) (hm : 1 ≤ s.many) : ∃ a ∈ s.ks, T.lvl (s.f a) = top := by
 have h1 := S.many
 have h2 : 0 < (s.ks.filter fun a => T.lvl (s.f a) == top).length := by omega
 obtain ⟨a, ha⟩ := List.exists_mem_of_length_pos h2
 obtain ⟨h3, h4⟩ := List.mem_filter.1 ha
 exact ⟨a, h3, by simpa using h4⟩
theorem StuAt.two_top {T : Trail} {top : Int} {s : Stu} {i : Nat} (S : StuAt T top s i) (hm : 2 ≤ s.many) (b : Int) : ∃ a ∈ s.ks, a ≠ b ∧ T.lvl (s.f a) = top := by
 have h1 := S.many
 have h2 : 1 < (s.ks.filter fun a => T.lvl (s.f a) == top).length := by omega
 have hnd : (s.ks.filter fun a => T.lvl (s.f a) == top).Nodup := S.nd.filter _
 match hq : s.ks.filter (fun a => T.lvl (s.f a) == top), h2, hnd with
 | x :: y :: r, _, hnd =>
  have hx : x ∈ s.ks.filter (fun a => T.lvl (s.f a) == top) := by rw [hq]; simp
  have hy : y ∈ s.ks.filter (fun a => T.lvl (s.f a) == top) := by rw [hq]; simp
  obtain ⟨x1, x2⟩ := List.mem_filter.1 hx
  obtain ⟨y1, y2⟩ := List.mem_filter.1 hy
  by_cases e : x = b
  ·refine ⟨y, y1, fun e2 => ?_, by simpa using y2⟩
   rw [List.nodup_cons] at hnd
   exact hnd.1 (by rw [e, ← e2]; simp)
  ·exact ⟨x, x1, e, by simpa using x2⟩
theorem StuAt.back {T : Trail} (h : Inv T) {top : Int} {s : Stu} {i : Nat} (S : StuAt T top s (i + 1)) (hi : i < T.ents.length) (hc : s.f (absW (T.lits.getD i 0)) = 0 ∨ T.lvl (absW (T.lits.getD i 0)) ≠ top) : StuAt T top s i := by
 refine ⟨S.nd, S.off, S.on, fun a ha ht => ?_, S.many⟩
 obtain ⟨j, hj, e⟩ := (mem_takeI hi).1 (S.pos a ha ht)
 refine (mem_takeI (Nat.le_of_lt hi)).2 ⟨j, ?_, e⟩
 rcases Nat.lt_or_ge j i with c | c
 ·exact c
 ·exfalso
  obtain rfl : j = i := by omega
  obtain ⟨h1, h2, h3, _⟩ := S.on a ha
  have hin : T.lits.getD j 0 ∈ T.lits := getD_mem' 0 (by rw [lits_len]; exact hi)
  obtain ⟨e1, e2⟩ := absW_idem h hin
  have ea : absW (T.lits.getD j 0) = a := by rw [e1, e]; omega
  rcases hc with hc | hc
  ·rw [ea] at hc; exact h1 hc
  ·apply hc
   rw [← ht]
   rw [(at_pos h hi (y := absW (T.lits.getD j 0)) (by rw [e1]; omega)).1, (at_pos h hi (y := s.f a) (by rw [e]; omega)).1]
theorem StuAt.del {T : Trail} (h : Inv T) {top : Int} {s : Stu} {i : Nat} (S : StuAt T top s (i + 1)) (hi : i < T.ents.length) (hc : s.f (absW (T.lits.getD i 0)) ≠ 0) (ht : T.lvl (absW (T.lits.getD i 0)) = top) :
  s.f (absW (T.lits.getD i 0)) = -(T.lits.getD i 0) ∧ absW (T.lits.getD i 0) ∈ s.ks ∧ StuAt T top (s.del (absW (T.lits.getD i 0))) i ∧ (s.del (absW (T.lits.getD i 0))).many = s.many - 1 := by
 have hin : T.lits.getD i 0 ∈ T.lits := getD_mem' 0 (by rw [lits_len]; exact hi)
 obtain ⟨e1, e2⟩ := absW_idem h hin
 generalize hxe : T.lits.getD i 0 = x at *
 have hk : absW x ∈ s.ks := by
  by_cases c : absW x ∈ s.ks
  ·exact c
  ·exact absurd (S.off _ c) hc
 have hfx : s.f (absW x) = -x := by
  obtain ⟨_, h2, h3, _⟩ := S.on _ hk
  have := same_lit h h3 hin (by omega)
  omega
 have hlx : T.lvl (-x) = top := by
  rw [← ht, (at_pos h hi (y := absW x) (by rw [e1, hxe]; omega)).1, (at_pos h hi (y := -x) (by rw [hxe]; omega)).1]
 have hu : ∀ a, a ≠ absW x → upd s.f (absW x) 0 a = s.f a := fun a ha => by unfold upd; rw [if_neg ha]
 have hme : ∀ a, a ∈ s.ks.erase (absW x) ↔ a ≠ absW x ∧ a ∈ s.ks := fun a => S.nd.mem_erase_iff
 have hlen := S.len h
 have hfl := List.length_filter_le (fun a => T.lvl (s.f a) == top) s.ks
 have hcount : ((s.ks.erase (absW x)).filter fun a => T.lvl (s.f a) == top).length + 1 = (s.ks.filter fun a => T.lvl (s.f a) == top).length := by
  have hp := (List.perm_cons_erase hk).filter (fun a => T.lvl (s.f a) == top)
  rw [hp.length_eq, List.filter_cons, hfx, hlx]
  simp
 have e3 : ((s.ks.erase (absW x)).filter fun a => T.lvl (upd s.f (absW x) 0 a) == top) = (s.ks.erase (absW x)).filter fun a => T.lvl (s.f a) == top :=
  List.filter_congr fun a ha => by rw [hu a ((hme a).1 ha).1]
 have hmany : w64 (s.many - 1) = s.many - 1 := w64_small (by have := S.many; omega)
 refine ⟨hfx, hk, ⟨S.nd.erase _, fun a ha => ?_, fun a ha => ?_, fun a ha => ?_, ?_⟩, hmany⟩
 ·have ha : a ∉ s.ks.erase (absW x) := ha
  show upd s.f (absW x) 0 a = 0
  by_cases c : a = absW x
  ·unfold upd; rw [if_pos c]
  ·rw [hu a c]; exact S.off a fun h2 => ha ((hme a).2 ⟨c, h2⟩)
 ·obtain ⟨h1, h2⟩ := (hme a).1 ha
  show upd s.f (absW x) 0 a ≠ 0 ∧ ((upd s.f (absW x) 0 a).natAbs : Int) = a ∧ -(upd s.f (absW x) 0 a) ∈ T.lits ∧ 0 < T.lvl (upd s.f (absW x) 0 a) ∧ T.lvl (upd s.f (absW x) 0 a) ≤ top
  rw [hu a h1]; exact S.on a h2
 ·obtain ⟨h1, h2⟩ := (hme a).1 ha
  show T.lvl (upd s.f (absW x) 0 a) = top → -(upd s.f (absW x) 0 a) ∈ T.lits.take i
  rw [hu a h1]
  intro h3
  obtain ⟨j, hj, e⟩ := (mem_takeI hi).1 (S.pos a h2 h3)
  refine (mem_takeI (Nat.le_of_lt hi)).2 ⟨j, ?_, e⟩
  rcases Nat.lt_or_ge j i with c | c
  ·exact c
  ·exfalso
   obtain rfl : j = i := by omega
   obtain ⟨_, h4, _⟩ := S.on a h2
   rw [hxe] at e
   apply h1
   rw [e1, e]; omega
 ·show w64 (s.many - 1) = (((s.ks.erase (absW x)).filter fun a => T.lvl (upd s.f (absW x) 0 a) == top).length : Int)
  rw [hmany, e3]
  have := S.many
  omega
structure Gone (T : Trail) (D : List (List Int)) (top : Int) (s s' : Stu) (a : Int) : Prop where
 mem : a ∈ s'.ks
 lvl : T.lvl (s'.f a) = top
 at_ : ∃ j, StuAt T top s' j
 one : s'.many = 1
 der : ∀ A, (∀ a ∈ s'.ks, Der A D (-(s'.f a))) → ∀ a ∈ s.ks, Der A D (-(s.f a))
theorem goes_law {T : Trail} (h : Inv T) (hh : T.held) {D : List (List Int)} (hD : T.among D) {top : Int} : ∀ (i : Nat) (s : Stu), StuAt T top s i → 1 ≤ s.many → i ≤ T.ents.length →
  ∃ s' a, T.goes top s (T.lits.take i).reverse = (s', some (s'.f a)) ∧ Gone T D top s s' a
 | 0, s, S, hm, _ => by
  obtain ⟨a, ha, ht⟩ := S.some_top hm
  have := S.pos a ha ht
  simp at this
 | i + 1, s, S, hm, hi => by
  have hi' : i < T.ents.length := by omega
  have hin : T.lits.getD i 0 ∈ T.lits := getD_mem' 0 (by rw [lits_len]; exact hi')
  obtain ⟨e1, e2⟩ := absW_idem h hin
  rw [goes_snoc T top s (by rw [lits_len]; exact hi')]
  by_cases hc : s.f (absW (T.lits.getD i 0)) = 0 ∨ T.lvl (absW (T.lits.getD i 0)) ≠ top
  ·rw [goes_skip hc]
   exact goes_law h hh hD i s (S.back h hi' hc) hm (by omega)
  ·have hc' := hc
   rw [not_or, Decidable.not_not] at hc'
   obtain ⟨hf, ht⟩ := hc'
   obtain ⟨hfx, hk, S1, hm1⟩ := S.del h hi' hf ht
   have hlx : T.lvl (-(T.lits.getD i 0)) = top := by
    rw [← ht, (at_pos h hi' (y := absW (T.lits.getD i 0)) (by rw [e1]; omega)).1, (at_pos h hi' (y := -(T.lits.getD i 0)) (by omega)).1]
   by_cases h1 : s.many = 1
   ·rw [goes_one hc h1]
    exact ⟨s, absW (T.lits.getD i 0), rfl, hk, by rw [hfx]; exact hlx, ⟨_, S⟩, h1, fun A hA => hA⟩
   ·obtain ⟨x, hxe⟩ : ∃ x, T.lits.getD i 0 = x := ⟨_, rfl⟩
    have htop : ((T.ent i).2.1 : Int) = top := by rw [← hlx, (at_pos h hi' (y := -(T.lits.getD i 0)) (by omega)).1]
    rcases reason_of h hh hi' hxe (z := x) rfl with ⟨hd, _⟩ | ⟨l, hr, W⟩
    ·exfalso
     obtain ⟨a, ha, hne, ht2⟩ := S.two_top (by omega) (absW (T.lits.getD i 0))
     obtain ⟨j, hj, e⟩ := (mem_takeI hi).1 (S.pos a ha ht2)
     obtain ⟨_, h4, _⟩ := S.on a ha
     have hji : j ≠ i := fun e3 => by
      subst e3
      apply hne
      rw [e1, e]; omega
     have h5 := lvl_dec h (show j < i by omega) hi' hd
     have h6 := (at_pos h (show j < T.ents.length by omega) (y := s.f a) (by rw [e]; omega)).1
     omega
    ·rw [hxe] at hc S1 hm1 hfx hk
     have hmem : ∀ y ∈ l, -y ∈ T.lits ∧ T.lvl y ≤ top ∧ (T.lvl y = top → -y ∈ T.lits.take i) := fun y hy => by
      obtain ⟨w1, w2⟩ := W.mem y hy
      obtain ⟨j, hj, e⟩ := (mem_takeI (Nat.le_of_lt hi')).1 w1
      have h6 := (at_pos h (show j < T.ents.length by omega) (y := y) (by rw [e]; omega)).1
      have h7 := lvl_mono h (Nat.le_of_lt hj) hi'
      exact ⟨List.mem_of_mem_take w1, by omega, fun _ => w1⟩
     have K := S1.takes h l hmem
     have hm2 : 1 ≤ (T.takes top (s.del (absW x)) l).many := by
      obtain ⟨a, ha, ht2⟩ := S1.some_top (by omega)
      obtain ⟨k1, k2⟩ := K.keep a ha
      have h8 : 0 < ((T.takes top (s.del (absW x)) l).ks.filter fun a => T.lvl ((T.takes top (s.del (absW x)) l).f a) == top).length :=
       List.length_pos_of_mem (List.mem_filter.2 ⟨k1, by rw [k2, ht2]; simp⟩)
      have := K.at_.many
      omega
     obtain ⟨s', a, hg, G⟩ := goes_law h hh hD i _ K.at_ hm2 (by omega)
     rw [hxe, goes_some hc h1 hr]
     refine ⟨s', a, hg, G.mem, G.lvl, G.at_, G.one, fun A hA b hb => ?_⟩
     have hall := G.der A hA
     by_cases hbx : b = absW x
     ·subst hbx
      rw [hfx, Int.neg_neg]
      refine W.der h hh hD fun y hy => ?_
      rcases K.got y hy with g | ⟨g1, g2⟩
      ·exact absurd g (W.mem y hy).2
      ·have := hall _ g1
       rw [g2] at this; exact this
     ·have hb1 : b ∈ (s.del (absW x)).ks := S.nd.mem_erase_iff.2 ⟨hbx, hb⟩
      obtain ⟨k1, k2⟩ := K.keep b hb1
      have h9 := hall b k1
      rw [k2] at h9
      have : (s.del (absW x)).f b = s.f b := by show upd s.f (absW x) 0 b = s.f b; unfold upd; rw [if_neg hbx]
      rw [this] at h9; exact h9
theorem cover_law {T : Trail} (h : Inv T) (hh : T.held) {D : List (List Int)} (hD : T.among D) {top : Int} {s : Stu} {i0 : Nat} (S : StuAt T top s i0) {A : List Int}
  (hf : ∀ a ∈ s.ks, T.covers s (s.f a) = true ∨ Der A D (-(s.f a))) : ∀ (m j : Nat) (a : Int), j < m → j < T.ents.length → a ∈ s.ks → T.lits.getD j 0 = -(s.f a) → Der A D (-(s.f a))
 | 0, _, _, hm, _, _, _ => by omega
 | m + 1, j, a, hm, hj, ha, e => by
  rcases hf a ha with hc | hd
  ·have hlit := h.ok.litAt hj
   have hn := h.ok.n
   have hw : w64 (-(s.f a)) = -(s.f a) := w64_small (by omega)
   unfold Trail.covers at hc
   rw [hw] at hc
   rcases reason_of h hh hj e (z := -(s.f a)) rfl with ⟨_, hr⟩ | ⟨l, hr, W⟩
   ·rw [hr] at hc; simp at hc
   ·rw [hr] at hc
    simp only [Bool.not_eq_true', List.any_eq_false, beq_iff_eq] at hc
    refine W.der h hh hD fun y hy => ?_
    obtain ⟨w1, w2⟩ := W.mem y hy
    obtain ⟨g1, g2⟩ := S.eq h (List.mem_of_mem_take w1) (hc y hy)
    obtain ⟨q, hq, eq⟩ := (mem_takeI (Nat.le_of_lt hj)).1 w1
    have := cover_law h hh hD S hf m q (absW y) (by omega) (by omega) g1 (by rw [g2]; exact eq)
    rw [g2] at this; exact this
  ·exact hd
theorem top_fold (T : Trail) : ∀ (c : List Int) (b : Int), b ≤ c.foldl (fun t l => max t (T.lvl l)) b ∧ (∀ y ∈ c, T.lvl y ≤ c.foldl (fun t l => max t (T.lvl l)) b) ∧ (c.foldl (fun t l => max t (T.lvl l)) b = b ∨ ∃ y ∈ c, T.lvl y = c.foldl (fun t l => max t (T.lvl l)) b)
 | [], b => ⟨Int.le_refl _, (fun y hy => by cases hy), .inl rfl⟩
 | x :: r, b => by
  obtain ⟨h1, h2, h3⟩ := top_fold T r (max b (T.lvl x))
  simp only [List.foldl_cons]
  refine ⟨by omega, fun y hy => ?_, ?_⟩
  ·rcases List.mem_cons.1 hy with rfl | hy
   ·omega
   ·exact h2 y hy
  ·rcases h3 with h3 | ⟨y, hy, h3⟩
   ·by_cases c : b ≤ T.lvl x
    ·exact .inr ⟨x, by simp, by rw [h3]; omega⟩
    ·exact .inl (by rw [h3]; omega)
   ·exact .inr ⟨y, by simp [hy], h3⟩
structure Taught (T : Trail) (D : List (List Int)) (top first : Int) (rest : List Int) : Prop where
 neg : ∀ y ∈ first :: rest, -y ∈ T.lits
 ltop : T.lvl first = top
 lrest : ∀ y ∈ rest, 0 < T.lvl y ∧ T.lvl y < top
 srt : rest.Pairwise fun x y => x.natAbs < y.natAbs
 conf : Conf ((first :: rest).map fun y => -y) D
theorem taught {T : Trail} (h : Inv T) (hh : T.held) {D : List (List Int)} (hD : T.among D) {top : Int} {s : Stu} {j : Nat} (S : StuAt T top s j) {a : Int} (ha : a ∈ s.ks) (hl : T.lvl (s.f a) = top) (h1 : s.many = 1)
  (hconf : ∀ A, (∀ b ∈ s.ks, Der A D (-(s.f b))) → Conf A D) : Taught T D top (s.f a) (T.others s (s.f a)) := by
 have hinj : ∀ b ∈ s.ks, ∀ c ∈ s.ks, s.f b = s.f c → b = c := fun b hb c hc e => by
  have h2 := (S.on b hb).2.1
  have h3 := (S.on c hc).2.1
  rw [e] at h2; omega
 have honly : ∀ b ∈ s.ks, b ≠ a → T.lvl (s.f b) < top := fun b hb hne => by
  have hle := (S.on b hb).2.2.2.2
  rcases Int.lt_or_eq_of_le hle with h2 | h2
  ·exact h2
  ·exfalso
   have h3 := S.many
   have hnd : (s.ks.filter fun a => T.lvl (s.f a) == top).Nodup := S.nd.filter _
   have m1 : a ∈ s.ks.filter fun a => T.lvl (s.f a) == top := List.mem_filter.2 ⟨ha, by simp [hl]⟩
   have m2 : b ∈ s.ks.filter fun a => T.lvl (s.f a) == top := List.mem_filter.2 ⟨hb, by simp [h2]⟩
   have hlen : (s.ks.filter fun a => T.lvl (s.f a) == top).length = 1 := by omega
   obtain ⟨z, hz⟩ := List.length_eq_one_iff.1 hlen
   rw [hz] at m1 m2
   simp at m1 m2
   exact hne (m2.trans m1.symm)
 have hoth : ∀ y, y ∈ T.others s (s.f a) ↔ ∃ b ∈ s.ks, s.f b = y ∧ b ≠ a ∧ T.covers s y = false := fun y => by
  unfold Trail.others
  rw [List.mem_filter, List.mem_map]
  constructor
  ·rintro ⟨⟨b, hb, rfl⟩, h2⟩
   simp only [Bool.not_or, Bool.and_eq_true, Bool.not_eq_true', beq_eq_false_iff_ne] at h2
   exact ⟨b, mem_sortI.1 hb, rfl, fun e => h2.1 (by rw [e]), h2.2⟩
  ·rintro ⟨b, hb, rfl, hne, h2⟩
   refine ⟨⟨b, mem_sortI.2 hb, rfl⟩, ?_⟩
   simp only [Bool.not_or, Bool.and_eq_true, Bool.not_eq_true', beq_eq_false_iff_ne]
   exact ⟨fun e => hne (hinj b hb a ha e), h2⟩
 refine ⟨fun y hy => ?_, hl, fun y hy => ?_, ?_, ?_⟩
 ·rcases List.mem_cons.1 hy with rfl | hy
  ·exact (S.on a ha).2.2.1
  ·obtain ⟨b, hb, rfl, _, _⟩ := (hoth y).1 hy
   exact (S.on b hb).2.2.1
 ·obtain ⟨b, hb, rfl, hne, _⟩ := (hoth y).1 hy
  exact ⟨(S.on b hb).2.2.2.1, honly b hb hne⟩
 ·unfold Trail.others
  refine List.Pairwise.filter _ (List.pairwise_map.2 ?_)
  have hs := sortI_sorted s.ks
  have hnd : (sortI s.ks).Nodup := (sortI_perm s.ks).nodup_iff.2 S.nd
  refine (hs.and hnd).imp_of_mem fun {x y} hx hy hxy => ?_
  have h2 := (S.on x (mem_sortI.1 hx)).2.1
  have h3 := (S.on y (mem_sortI.1 hy)).2.1
  obtain ⟨h4, h5⟩ := hxy
  omega
 ·refine hconf _ fun b hb => ?_
  obtain ⟨q, hq, e⟩ := lits_at (S.on b hb).2.2.1
  refine cover_law h hh hD S (fun c hc => ?_) (q + 1) q b (by omega) hq hb e
  by_cases hca : c = a
  ·subst hca; exact .inr (Der.base (List.mem_map.2 ⟨s.f c, by simp, rfl⟩))
  ·cases hcv : T.covers s (s.f c)
   ·exact .inr (Der.base (List.mem_map.2 ⟨s.f c, List.mem_cons_of_mem _ ((hoth _).2 ⟨c, hc, rfl, hca, hcv⟩), rfl⟩))
   ·exact .inl rfl
theorem lesson_law {T : Trail} (h : Inv T) (hh : T.held) {D : List (List Int)} (hD : T.among D) {k : Nat} (hk : T.live k) (hn : ∀ y ∈ T.cl k, -y ∈ T.lits) :
  T.clauseL k = some (formL (T.cl k)) ∧ ((T.top (formL (T.cl k)) = 0 ∧ T.lesson k = some none ∧ (T.cl k ≠ [] → Conf [] D)) ∨
  (0 < T.top (formL (T.cl k)) ∧ ∃ first rest atoms, T.lesson k = some (some ⟨first :: rest, rest.foldl (fun b l => max b (T.lvl l)) 0, atoms⟩) ∧ Taught T D (T.top (formL (T.cl k))) first rest)) := by
 have hcl : T.clauseL (k : Int) = some (formL (T.cl k)) := by
  unfold Trail.clauseL
  rw [there_iff.2 hk]; simp
 refine ⟨hcl, ?_⟩
 have hn' : ∀ y ∈ formL (T.cl k), -y ∈ T.lits := fun y hy => hn y ((mem_formL _ _).1 hy)
 have hany : (formL (T.cl k)).any (fun l => decide (0 ≤ T.val l)) = false := by
  rw [List.any_eq_false]
  intro y hy
  have := h.ok.neg1.2 (hn' y hy)
  simp [this]
 obtain ⟨t1, t2, t3⟩ := top_fold T (formL (T.cl k)) 0
 have hunf : T.lesson (k : Int) = if T.top (formL (T.cl k)) = 0 then some none else match T.goes (T.top (formL (T.cl k))) (T.takes (T.top (formL (T.cl k))) Stu.new (formL (T.cl k))) T.lits.reverse with
   | (_, none) => none
   | (s, some first) => some (some ⟨first :: T.others s first, (T.others s first).foldl (fun b l => max b (T.lvl l)) 0, sortI s.ms⟩) := by
  unfold Trail.lesson
  rw [hcl]
  simp only [hany]
  rfl
 rw [hunf]
 by_cases h0 : T.top (formL (T.cl k)) = 0
 ·rw [if_pos h0]
  refine .inl ⟨h0, rfl, fun hne => ?_⟩
  obtain ⟨d, hd, p⟩ := hD k hk hne
  refine ⟨d, hd, fun y hy => ?_⟩
  have hy' := p.mem_iff.2 hy
  have hyl := hn y hy'
  have hle := t2 y ((mem_formL _ _).2 hy')
  obtain ⟨j, hj, e⟩ := lits_at hyl
  have h2 := (at_pos h hj (y := y) (by rw [e]; omega)).1
  unfold Trail.top at h0
  exact der_zero' h hh hD hyl (by omega)
 ·rw [if_neg h0]
  have htop : 0 < T.top (formL (T.cl k)) := by unfold Trail.top at h0 ⊢; omega
  refine .inr ⟨htop, ?_⟩
  generalize hte : T.top (formL (T.cl k)) = top at *
  have htl : T.lits.take T.ents.length = T.lits := List.take_of_length_le (by rw [lits_len]; exact Nat.le_refl _)
  have hmem : ∀ y ∈ formL (T.cl k), -y ∈ T.lits ∧ T.lvl y ≤ top ∧ (T.lvl y = top → -y ∈ T.lits.take T.ents.length) := fun y hy =>
   ⟨hn' y hy, by rw [← hte]; exact t2 y hy, fun _ => by rw [htl]; exact hn' y hy⟩
  have K := (StuAt.new T top T.ents.length).takes h _ hmem
  have hm : 1 ≤ (T.takes top Stu.new (formL (T.cl k))).many := by
   rcases t3 with t3 | ⟨y, hy, t3⟩
   ·exfalso; unfold Trail.top at hte; omega
   ·have hly : T.lvl y = top := by rw [t3]; exact hte
    rcases K.got y hy with g | ⟨g1, g2⟩
    ·omega
    ·have h8 : 0 < ((T.takes top Stu.new (formL (T.cl k))).ks.filter fun a => T.lvl ((T.takes top Stu.new (formL (T.cl k))).f a) == top).length :=
      List.length_pos_of_mem (List.mem_filter.2 ⟨g1, by rw [g2, hly]; simp⟩)
     have := K.at_.many
     omega
  obtain ⟨s', a, hg, G⟩ := goes_law h hh hD T.ents.length _ K.at_ hm (Nat.le_refl _)
  rw [htl] at hg
  rw [hg]
  obtain ⟨j, S'⟩ := G.at_
  refine ⟨_, _, _, rfl, taught h hh hD S' G.mem G.lvl G.one fun A hA => ?_⟩
  have hall := G.der A hA
  have hne : T.cl k ≠ [] := fun e => by
   have : formL (T.cl k) = [] := by
    refine List.eq_nil_iff_forall_not_mem.2 fun y hy => ?_
    have := (mem_formL _ _).1 hy
    rw [e] at this; cases this
   rw [this] at hte
   unfold Trail.top at hte
   simp at hte; omega
  obtain ⟨d, hd, p⟩ := hD k hk hne
  refine ⟨d, hd, fun y hy => ?_⟩
  have hy' := p.mem_iff.2 hy
  rcases K.got y ((mem_formL _ _).2 hy') with g | ⟨g1, g2⟩
  ·exact der_zero' h hh hD (hn y hy') g
  ·have := hall _ g1
   rw [g2] at this; exact this
end Tr
namespace Tr
open Cnf Up
theorem needs_sub (l : List Int) : ∀ (ks : List Int) (a : Int), a ∈ ks ∨ (∃ y ∈ l, absW y = a) → a ∈ needs ks l := by
 induction l with
 | nil => intro ks a h; rcases h with h | ⟨y, hy, _⟩; exact h; cases hy
 | cons x r ih =>
  intro ks a h
  show a ∈ needs (addK ks (absW x)) r
  apply ih
  rcases h with h | ⟨y, hy, e⟩
  ·exact .inl (mem_addK.2 (.inl h))
  ·rcases List.mem_cons.1 hy with rfl | hy
   ·exact .inl (mem_addK.2 (.inr e.symm))
   ·exact .inr ⟨y, hy, e⟩
theorem why_law {T : Trail} (h : Inv T) (hh : T.held) {D : List (List Int)} (hD : T.among D) : ∀ (i : Nat) (ks us : List Int), i ≤ T.ents.length →
  ∃ r, (T.whyTo (T.lits.take i) (ks, us)).2 = us ++ r ∧ r.Sublist (T.lits.take i).reverse ∧ (∀ u ∈ r, T.lvl u ≠ 0 ∧ T.why u = -1) ∧ ∀ j, j < i → absW (T.lits.getD j 0) ∈ ks → Der (us ++ r) D (T.lits.getD j 0)
 | 0, ks, us, _ => ⟨[], by simp [Trail.whyTo], by simp, (fun u hu => by cases hu), fun j hj => by omega⟩
 | i + 1, ks, us, hi => by
  have hi' : i < T.ents.length := by omega
  have hlen := lits_len T
  rw [whyTo_snoc T _ (by omega)]
  have htk : (T.lits.take (i + 1)).reverse = T.lits.getD i 0 :: (T.lits.take i).reverse := by
   rw [take_snocI T.lits i (by omega), List.reverse_append]; rfl
  rw [htk]
  obtain ⟨x, hx⟩ : ∃ x, T.lits.getD i 0 = x := ⟨_, rfl⟩
  have hlx := at_pos h hi' (y := x) (by rw [hx])
  unfold Trail.whyStep
  rw [hx]
  split
  ·rename_i hc
   obtain ⟨r, h1, h2, h3, h4⟩ := why_law h hh hD i ks us (by omega)
   refine ⟨r, h1, h2.trans (List.sublist_cons_self _ _), h3, fun j hj hk => ?_⟩
   rcases Nat.lt_or_ge j i with c | c
   ·exact h4 j c hk
   ·obtain rfl : j = i := by omega
    rw [hx] at hk ⊢
    rcases hc with hc | hc
    ·exact absurd hk hc
    ·have := der_zero h hh hD (A := us ++ r) (j + 1) j (by omega) hi' (by omega)
     rw [hx] at this; exact this
  ·rename_i hc
   rw [not_or] at hc
   obtain ⟨hc1, hc2⟩ := hc
   rcases reason_of h hh hi' hx (z := x) rfl with ⟨hd, hr⟩ | ⟨l, hr, W⟩
   ·rw [hr]
    obtain ⟨r, h1, h2, h3, h4⟩ := why_law h hh hD i ks (us ++ [x]) (by omega)
    refine ⟨x :: r, by rw [h1]; simp, h2.cons_cons _, fun u hu => ?_, fun j hj hk => ?_⟩
    ·rcases List.mem_cons.1 hu with rfl | hu
     ·exact ⟨hc2, by rw [hlx.2, hd]⟩
     ·exact h3 u hu
    ·have e : us ++ x :: r = us ++ [x] ++ r := by simp
     rw [e]
     rcases Nat.lt_or_ge j i with c | c
     ·exact h4 j c hk
     ·obtain rfl : j = i := by omega
      rw [hx]
      exact Der.base (by simp)
   ·rw [hr]
    obtain ⟨r, h1, h2, h3, h4⟩ := why_law h hh hD i (needs ks l) us (by omega)
    refine ⟨r, h1, h2.trans (List.sublist_cons_self _ _), h3, fun j hj hk => ?_⟩
    rcases Nat.lt_or_ge j i with c | c
    ·exact h4 j c (needs_sub l ks _ (.inl hk))
    ·obtain rfl : j = i := by omega
     rw [hx]
     refine W.der h hh hD fun y hy => ?_
     obtain ⟨w1, w2⟩ := W.mem y hy
     obtain ⟨q, hq, e⟩ := (mem_takeI (Nat.le_of_lt hi')).1 w1
     have := h4 q hq (needs_sub l ks _ (.inr ⟨y, hy, by
      rw [e]
      have hl := h.ok.good.lit _ (List.mem_of_mem_take w1)
      rw [absW_lit (n := T.n) hl h.ok.n, absW_lit (n := T.n) (x := y) (by omega) h.ok.n]
      omega⟩))
     rw [e] at this; exact this
theorem sortA_perm (xs : List Int) : (sortA xs).Perm xs := List.mergeSort_perm _ _
theorem sortA_sorted (xs : List Int) : (sortA xs).Pairwise fun x y => absW x ≤ absW y := by
 have := List.pairwise_mergeSort (le := fun x y => !(ltOf cfA) y x) (by
  intro a b c h1 h2
  simp only [Bool.not_eq_true'] at h1 h2 ⊢
  exact swoA.ntrans c b a h2 h1) (by
  intro a b
  cases h : (ltOf cfA) b a with
  | false => simp
  | true =>
   have h1 := h
   rw [ltA, decide_eq_true_eq] at h1
   have h2 : (ltOf cfA) a b = false := by rw [ltA, decide_eq_false_iff_not]; omega
   simp [h2]) xs
 refine this.imp fun {x y} hxy => ?_
 simp only [Bool.not_eq_true', ltA, decide_eq_false_iff_not] at hxy
 omega
theorem whyL_law {T : Trail} (h : Inv T) (hh : T.held) {D : List (List Int)} (hD : T.among D) {x : Int} (hx : x ∈ T.lits) :
  (∀ u ∈ T.whyL x, u ∈ T.lits ∧ 0 < T.lvl u ∧ T.why u = -1) ∧ ((T.whyL x).Pairwise fun a b => a.natAbs < b.natAbs) ∧ Der (T.whyL x) D x := by
 have hv : T.val x = 1 := h.ok.one.2 hx
 obtain ⟨r, h1, h2, h3, h4⟩ := why_law h hh hD T.ents.length [absW x] [] (Nat.le_refl _)
 rw [List.take_of_length_le (by rw [lits_len]; exact Nat.le_refl _)] at h1 h2
 have hw : T.whyL x = sortA r := by
  unfold Trail.whyL
  rw [if_neg (by omega), h1]; rfl
 have hp := sortA_perm r
 have hin : ∀ u ∈ r, u ∈ T.lits := fun u hu => by simpa using h2.subset hu
 have hlv : ∀ u ∈ r, 0 < T.lvl u := fun u hu => by
  obtain ⟨i, hi, e⟩ := lits_at (hin u hu)
  have := (at_pos h hi (y := u) (by rw [e])).1
  have := (h3 u hu).1
  omega
 rw [hw]
 refine ⟨fun u hu => ?_, ?_, ?_⟩
 ·have hu' := hp.mem_iff.1 hu
  exact ⟨hin u hu', hlv u hu', (h3 u hu').2⟩
 ·have hnd : ((sortA r).map Int.natAbs).Nodup := by
   have hr : (r.map Int.natAbs).Nodup := by
    have hn2 := h.ok.good.nod
    have hsub := h2.map Int.natAbs
    refine hsub.nodup ?_
    rw [List.map_reverse]
    exact (List.reverse_perm _).nodup_iff.2 hn2
   exact ((hp.map Int.natAbs).nodup_iff).2 hr
  have hs := sortA_sorted r
  have hnd' : (sortA r).Pairwise fun a b => a.natAbs ≠ b.natAbs := List.pairwise_map.1 hnd
  refine (hs.and hnd').imp_of_mem fun {a b} ha hb hab => ?_
  have h5 := h.ok.good.lit _ (hin a (hp.mem_iff.1 ha))
  have h6 := h.ok.good.lit _ (hin b (hp.mem_iff.1 hb))
  obtain ⟨h7, h8⟩ := hab
  rw [absW_lit (n := T.n) h5 h.ok.n, absW_lit (n := T.n) h6 h.ok.n] at h7
  omega
 ·obtain ⟨i, hi, e⟩ := lits_at hx
  have := h4 i hi (by rw [e]; simp)
  rw [e] at this
  exact der_like this (fun y hy => hp.mem_iff.2 (by simpa using hy)) (Like.refl _)
end Tr
namespace Tr
open Cnf Up
def Trail.liveTo (T : Trail) (k : Nat) : List (List Int) := (List.range k).flatMap fun (i : Nat) => match T.clauseL (i : Int) with
 | some c => if 0 < c.length then [c] else []
 | none => []
theorem liveTo_succ (T : Trail) (k : Nat) : T.liveTo (k + 1) = T.liveTo k ++ (match T.clauseL (k : Int) with
 | some c => if 0 < c.length then [c] else []
 | none => []) := by
 unfold Trail.liveTo; rw [List.range_succ, List.flatMap_append]; simp
theorem mem_liveTo {T : Trail} {d : List Int} : ∀ {k : Nat}, d ∈ T.liveTo k ↔ ∃ i, i < k ∧ T.clauseL (i : Int) = some d ∧ 0 < d.length
 | 0 => by simp [Trail.liveTo]
 | k + 1 => by
  rw [liveTo_succ, List.mem_append, mem_liveTo]
  constructor
  ·rintro (⟨i, h1, h2, h3⟩ | h)
   ·exact ⟨i, by omega, h2, h3⟩
   ·split at h
    ·rename_i c hc
     split at h
     ·rename_i h0
      simp at h; subst h
      exact ⟨k, by omega, hc, h0⟩
     ·cases h
    ·cases h
  ·rintro ⟨i, h1, h2, h3⟩
   by_cases e : i = k
   ·subst e
    right
    rw [h2]
    simp [h3]
   ·exact .inl ⟨i, by omega, h2, h3⟩
theorem formL_perm {n : Nat} {c : List Int} (hn : n ≤ 65536) (h : Up.Good n c) : (formL c).Perm c := by
 have h1 : (formL c).Nodup := by
  have hs := formL_strict c
  unfold Strict at hs
  refine hs.imp fun {x y} hxy e => ?_
  subst e
  rw [lt_iff] at hxy
  omega
 have h2 : c.Nodup := (List.pairwise_map.1 h.nod).imp fun hx e => hx (by rw [e])
 exact (List.perm_ext_iff_of_nodup h1 h2).2 fun x => mem_formL c x
theorem clauseL_some {T : Trail} {i : Nat} {d : List Int} (h : T.clauseL (i : Int) = some d) : T.live i ∧ d = formL (T.cl i) := by
 unfold Trail.clauseL at h
 split at h
 ·rename_i ht
  exact ⟨there_iff.1 ht, by simpa using (Option.some.inj h).symm⟩
 ·cases h
theorem clauseL_live {T : Trail} {i : Nat} (h : T.live i) : T.clauseL (i : Int) = some (formL (T.cl i)) := by
 unfold Trail.clauseL
 rw [there_iff.2 h]; simp
theorem live_among {T : Trail} (o : Ok T) : T.among (T.liveTo T.cls.length) := fun k hk hne => by
 have hg : Up.Good T.n (T.cl k) := o.cls _ (getD_mem' [] hk.1 : T.cl k ∈ T.cls)
 have hp := formL_perm o.n hg
 refine ⟨formL (T.cl k), mem_liveTo.2 ⟨k, hk.1, clauseL_live hk, ?_⟩, hp.symm⟩
 rw [hp.length_eq]
 exact List.length_pos_iff.2 hne
theorem live_cls {T : Trail} (o : Ok T) {d : List Int} (hd : d ∈ T.liveTo T.cls.length) : Up.Good T.n d ∧ ∃ i, T.live i ∧ d = formL (T.cl i) := by
 obtain ⟨i, h1, h2, _⟩ := mem_liveTo.1 hd
 obtain ⟨h3, h4⟩ := clauseL_some h2
 have hg : Up.Good T.n (T.cl i) := o.cls _ (getD_mem' [] h3.1 : T.cl i ∈ T.cls)
 exact ⟨by rw [h4]; exact good_perm hg (formL_perm o.n hg), i, h3, h4⟩
theorem fine_mem {T S c d : List Int} (h : ∀ x, x ∈ c ↔ x ∈ d) (hf : Up.Fine T S c) : Up.Fine T S d := by
 rcases hf with ⟨y, h1, h2⟩ | ⟨y, h1, z, h2, h3⟩
 ·exact .inl ⟨y, (h y).1 h1, h2⟩
 ·exact .inr ⟨y, (h y).1 h1, z, (h z).1 h2, h3⟩
end Tr
end Go.Proofs.YtjedgdamommgeaaGreat
namespace Go.Proofs.YtjedgdamommgeaaGreat
open Go.RowKit
namespace Cnf
end Cnf
structure Bools (w : World) (v : Value) (bs : List Bool) : Prop where
 shape : ∃ ao cap, v = .slice ao bs.length cap ∧ bs.length ≤ cap ∧ cap ≤ 9223372036854775807
 cells : ∀ ao len cap, v = .slice ao len cap → 0 < bs.length → ∃ b off, ao = some ⟨b, off, none⟩ ∧ b < w.heap.size ∧ ∀ i, i < bs.length → w.cell? ⟨b, off + i, none⟩ = some (.bool (bs.getD i false))
theorem Bools.only0 {w w' : World} {v : Value} {bs : List Bool} (h : Bools w v bs) (ho : Only (fun _ => False) w w') : Bools w' v bs := by
 refine ⟨h.shape, fun ao len cap hv hp => ?_⟩
 obtain ⟨b, off, rfl, hb, hc⟩ := h.cells ao len cap hv hp
 refine ⟨b, off, rfl, Nat.lt_of_lt_of_le hb ho.size, fun i hi => ?_⟩
 rw [World.cell?_of_block (w := w) (ho.block b hb (fun f => f))]
 exact hc i hi
theorem Bools.of_own {w : World} {v : Value} {bs : List Bool} {t : TypeId} (h : w.ownsRow 0 t 1 v bs.length (bs.map Value.bool)) : Bools w v bs := by
 obtain ⟨ao, cap, rfl, h1, h2⟩ := own_slice h
 unfold maxLen at h2
 refine ⟨⟨ao, cap, rfl, h1, by omega⟩, fun ao' len' cap' hv hp => ?_⟩
 simp only [Value.slice.injEq] at hv
 obtain ⟨rfl, rfl, rfl⟩ := hv
 obtain ⟨g, cap', he, _, _⟩ := own_some h hp
 simp only [Value.slice.injEq] at he
 obtain ⟨rfl, -, rfl⟩ := he
 refine ⟨g, 0, rfl, own_lt h rfl, fun i hi => ?_⟩
 rw [Nat.zero_add, h.cellAt i (by omega)]
 simp [List.getD, List.getElem?_eq_getElem hi]
namespace Cnf
def soB (x : Int) (m : List Bool) : Bool := if wr x then false else if x < 0 then !(m.getD (x.natAbs - 1) false) else m.getD (x.natAbs - 1) false
def holdsB (css : List (List Int)) (m : List Bool) : Bool := css.all fun c => c.any fun x => soB x m
end Cnf
section
variable {w : World}
set_option maxHeartbeats 800000 in
theorem So_any {v : Value} {m : List Bool} (hm : Bools w v m) (x : Int) (hx : InI64 x) (r : Bool) (hr : Cnf.soB x m = r) :
  Calls Tryz.prog 26 #[.int .i64 x, v] w fun e w' => e = .returned (.bool r) ∧ w = w' := by
 obtain ⟨ao, cap, rfl, hc1, hc2⟩ := hm.shape
 subst hr
 unfold Cnf.soB
 cases hw : Cnf.wr x
 ·have HW := Lib.hid hw
  have hl : Cnf.Lit x := ⟨hx, hw⟩
  have hlo := hl.lo
  have hne := hl.ne0
  clear hw hl
  simp only [Bool.false_eq_true, if_false]
  by_cases hle : x.natAbs ≤ m.length
  ·obtain ⟨b, off, rfl, _, hcs⟩ := hm.cells _ _ _ rfl (by omega)
   have q := hcs (x.natAbs - 1) (by omega)
   have d1 : decide (x.natAbs ≤ m.length) = true := decide_eq_true hle
   have hp : 1 ≤ x.natAbs := by omega
   clear hcs
   generalize m.getD (x.natAbs - 1) false = y at *
   have hat := fun W => (Atom_any (w := W) x hx HW.out)
   have HAt := Lib.hid hat
   clear hat
   generalize hna : x.natAbs = na at *
   clear hna
   by_cases hneg : x < 0
   ·rw [if_pos hneg]
    have d2 : decide (x < 0) = true := decide_eq_true hneg
    go_enter Tryz.func26, Tryz.ntmps26
    go_wp2_with fail
    refine (None_any x hx false HW.out).mono ?_
    rintro e w' ⟨rfl, rfl⟩
    go_wp2_with fail
    refine (HAt.out _).mono ?_
    rintro e w' ⟨rfl, rfl⟩
    go_wp2_with fail
    refine (HAt.out _).mono ?_
    rintro e w' ⟨rfl, rfl⟩
    go_wp2_with fail
    go_ret
    exact ⟨rfl, rfl⟩
   ·rw [if_neg hneg]
    have d2 : decide (x < 0) = false := decide_eq_false hneg
    go_enter Tryz.func26, Tryz.ntmps26
    go_wp2_with fail
    refine (None_any x hx false HW.out).mono ?_
    rintro e w' ⟨rfl, rfl⟩
    go_wp2_with fail
    refine (HAt.out _).mono ?_
    rintro e w' ⟨rfl, rfl⟩
    go_wp2_with fail
    refine (HAt.out _).mono ?_
    rintro e w' ⟨rfl, rfl⟩
    go_wp2_with fail
    go_ret
    exact ⟨rfl, rfl⟩
  ·have d1 : decide (x.natAbs ≤ m.length) = false := decide_eq_false hle
   have hz : m.getD (x.natAbs - 1) false = false := by
    rw [List.getD_eq_getElem?_getD, List.getElem?_eq_none (by omega)]; rfl
   rw [hz]
   have hat := fun W => (Atom_any (w := W) x hx HW.out)
   have HAt := Lib.hid hat
   clear hat hz
   generalize hna : x.natAbs = na at *
   clear hna
   by_cases hneg : x < 0
   ·rw [if_pos hneg]
    have d2 : decide (x < 0) = true := decide_eq_true hneg
    go_enter Tryz.func26, Tryz.ntmps26
    go_wp2_with fail
    refine (None_any x hx false HW.out).mono ?_
    rintro e w' ⟨rfl, rfl⟩
    go_wp2_with fail
    refine (HAt.out _).mono ?_
    rintro e w' ⟨rfl, rfl⟩
    go_wp2_with fail
    go_ret
    exact ⟨rfl, rfl⟩
   ·rw [if_neg hneg]
    have d2 : decide (x < 0) = false := decide_eq_false hneg
    go_enter Tryz.func26, Tryz.ntmps26
    go_wp2_with fail
    refine (None_any x hx false HW.out).mono ?_
    rintro e w' ⟨rfl, rfl⟩
    go_wp2_with fail
    refine (HAt.out _).mono ?_
    rintro e w' ⟨rfl, rfl⟩
    go_wp2_with fail
    go_ret
    exact ⟨rfl, rfl⟩
 ·have HW := Lib.hid hw
  clear hw
  simp only [if_true]
  go_enter Tryz.func26, Tryz.ntmps26
  go_wp2_with fail
  refine (None_any x hx true HW.out).mono ?_
  rintro e w' ⟨rfl, rfl⟩
  go_wp2_with fail
  go_ret
  exact ⟨rfl, rfl⟩
end
end Go.Proofs.YtjedgdamommgeaaGreat
namespace Go.Proofs.YtjedgdamommgeaaGreat
namespace Rup
open Cnf
theorem so_neg {x : Int} (h : Cnf.Lit x) (m : List Bool) : soB (-x) m = !soB x m := by
 unfold soB
 rw [h.neg.w, h.w]
 simp only [Bool.false_eq_true, if_false, Int.natAbs_neg]
 have := h.ne0
 by_cases hx : x < 0
 ·rw [if_neg (by omega), if_pos hx]; simp
 ·rw [if_pos (by omega), if_neg hx]
theorem der_so {l : List Int} {cs : List (List Int)} {m : List Bool} (hlit : ∀ c ∈ cs, ∀ x ∈ c, Cnf.Lit x) (hl : ∀ x ∈ l, soB x m = true) (hc : ∀ c ∈ cs, ∃ x ∈ c, soB x m = true) {x : Int} (h : Up.Der l cs x) : soB x m = true :=
 h (fun x => soB x m = true) hl (fun c hcm z hz hy => by
  obtain ⟨y, hym, hys⟩ := hc c hcm
  by_cases e : y = z
  ·subst e; exact hys
  ·have h1 := hy y hym e
   rw [so_neg (hlit c hcm y hym), hys] at h1
   cases h1)
theorem conf_not {l : List Int} {cs : List (List Int)} {m : List Bool} (hlit : ∀ c ∈ cs, ∀ x ∈ c, Cnf.Lit x) (hl : ∀ x ∈ l, soB x m = true) (hc : ∀ c ∈ cs, ∃ x ∈ c, soB x m = true) : ¬ Up.Conf l cs := by
 rintro ⟨c, hcm, h⟩
 obtain ⟨y, hym, hys⟩ := hc c hcm
 have h1 := der_so hlit hl hc (h y hym)
 rw [so_neg (hlit c hcm y hym), hys] at h1
 cases h1
def Sat (cs : List (List Int)) (m : List Bool) : Prop := ∀ c ∈ cs, ∃ x ∈ c, soB x m = true
theorem holds_sat {cs : List (List Int)} {m : List Bool} (h : holdsB cs m = true) : Sat cs m := by
 intro c hc
 unfold holdsB at h
 rw [List.all_eq_true] at h
 have := h c hc
 rw [List.any_eq_true] at this
 exact this
end Rup
end Go.Proofs.YtjedgdamommgeaaGreat
namespace Go.Proofs.YtjedgdamommgeaaGreat
open Go.RowKit
open Tr
namespace Tr
open Cnf Up
theorem lvl_split {T : Trail} (h : Inv T) {k j : Nat} (hk : k < T.levels.length) (hj : j < T.ents.length) : (T.ent j).2.1 ≤ k ↔ j < (T.levels.getD k (0, 0)).1 := by
 rw [h.lvl j hj]
 have hs := h.ok.lev
 have hsplit : T.levels = T.levels.take k ++ T.levels.drop k := (List.take_append_drop k _).symm
 have hd : T.levels.drop k = T.levels.getD k (0, 0) :: T.levels.drop (k + 1) := by
  rw [List.drop_eq_getElem_cons hk]
  simp [List.getD_eq_getElem?_getD, hk]
 have hs2 : ((T.levels.take k ++ T.levels.drop k).map (·.1)).Pairwise (· < ·) := by rw [← hsplit]; exact hs
 rw [List.map_append, List.pairwise_append] at hs2
 obtain ⟨_, p2, p3⟩ := hs2
 have hlen : (T.levels.take k).length = k := by rw [List.length_take]; omega
 have hfl := List.length_filter_le (fun x : Nat × Nat => decide (x.1 ≤ j)) (T.levels.take k)
 conv => lhs; rw [hsplit, List.filter_append, List.length_append]
 rw [hd] at p2 p3 ⊢
 generalize T.levels.getD k (0, 0) = e at *
 constructor
 ·intro hle
  rcases Nat.lt_or_ge j e.1 with c | c
  ·exact c
  ·exfalso
   have h1 : (T.levels.take k).filter (fun x => decide (x.1 ≤ j)) = T.levels.take k := by
    refine List.filter_eq_self.2 fun x hx => ?_
    have := p3 x.1 (List.mem_map.2 ⟨x, hx, rfl⟩) e.1 (by simp)
    simp; omega
   rw [h1, hlen, List.filter_cons, if_pos (by simpa using c), List.length_cons] at hle
   omega
 ·intro hlt
  have h2 : (e :: T.levels.drop (k + 1)).filter (fun x => decide (x.1 ≤ j)) = [] := by
   refine List.filter_eq_nil_iff.2 fun x hx => ?_
   rcases List.mem_cons.1 hx with rfl | hx
   ·simp; omega
   ·rw [List.map_cons, List.pairwise_cons] at p2
    have := p2.1 x.1 (List.mem_map.2 ⟨x, hx, rfl⟩)
    simp; omega
  rw [h2]
  simp only [List.length_nil]
  omega
theorem backTo_lits (T : Trail) (k : Nat) : (T.backTo k).lits = T.lits.take (T.levels.getD k (0, 0)).1 := by
 unfold Trail.backTo Trail.lits
 rw [List.map_take]
theorem lvl_le {T : Trail} (h : Inv T) {y : Int} (hy : -y ∈ T.lits) : 0 ≤ T.lvl y ∧ T.lvl y ≤ T.levels.length := by
 obtain ⟨j, hj, e⟩ := lits_at hy
 have h1 := (at_pos h hj (y := y) (by rw [e]; omega)).1
 have h2 := h.lvl j hj
 have h3 := List.length_filter_le (fun x : Nat × Nat => decide (x.1 ≤ j)) T.levels
 omega
theorem back_val {T : Trail} (h : Inv T) {k : Nat} (hk : k < T.levels.length) {y : Int} (hy : -y ∈ T.lits) : (T.back (k : Int)).val y = if T.lvl y ≤ k then -1 else 0 := by
 have hb : T.back (k : Int) = T.backTo k := by unfold Trail.back; rw [if_pos (by simpa using hk)]; simp
 have hi := h.backTo hk
 obtain ⟨j, hj, e⟩ := lits_at hy
 have h1 := (at_pos h hj (y := y) (by rw [e]; omega)).1
 have h2 := lvl_split h hk hj
 have hx : (T.levels.getD k (0, 0)).1 ≤ T.ents.length := Nat.le_of_lt (h.ok.lin _ (getD_mem' _ hk))
 rw [hb]
 by_cases c : T.lvl y ≤ k
 ·rw [if_pos c, hi.ok.neg1, backTo_lits]
  exact (mem_takeI hx).2 ⟨j, h2.1 (by omega), e⟩
 ·rw [if_neg c]
  unfold Trail.val
  rw [Up.value_zero, backTo_lits]
  have hnm : ∀ z, z.natAbs = y.natAbs → z ∉ T.lits.take (T.levels.getD k (0, 0)).1 := fun z hz hm => by
   obtain ⟨q, hq, eq⟩ := (mem_takeI hx).1 hm
   have h3 := (at_pos h (show q < T.ents.length by omega) (y := y) (by rw [eq]; omega)).1
   have h4 := (lvl_split h hk (show q < T.ents.length by omega)).2 hq
   omega
  exact ⟨hnm y rfl, hnm (-y) (by omega)⟩
theorem Taught.good {T : Trail} {D : List (List Int)} {top first : Int} {rest : List Int} (h : Inv T) (W : Taught T D top first rest) : Up.Good T.n (first :: rest) := by
 refine ⟨fun y hy => by have := h.ok.good.lit _ (W.neg y hy); omega, ?_⟩
 rw [List.map_cons, List.nodup_cons]
 constructor
 ·intro hm
  obtain ⟨y, hy, e⟩ := List.mem_map.1 hm
  have h1 := W.lrest y hy
  obtain ⟨j, hj, ej⟩ := lits_at (W.neg y (by simp [hy]))
  have h2 := (at_pos h hj (y := y) (by rw [ej]; omega)).1
  have h3 := (at_pos h hj (y := first) (by rw [ej]; omega)).1
  have h4 := W.ltop
  omega
 ·unfold List.Nodup
  rw [List.pairwise_map]
  exact W.srt.imp fun h => Nat.ne_of_lt h
theorem rest_max (T : Trail) (rest : List Int) (top : Int) (h : ∀ y ∈ rest, 0 < T.lvl y ∧ T.lvl y < top) (ht : 0 < top) :
  0 ≤ rest.foldl (fun b l => max b (T.lvl l)) 0 ∧ rest.foldl (fun b l => max b (T.lvl l)) 0 < top ∧ ∀ y ∈ rest, T.lvl y ≤ rest.foldl (fun b l => max b (T.lvl l)) 0 := by
 obtain ⟨t1, t2, t3⟩ := top_fold T rest 0
 refine ⟨t1, ?_, t2⟩
 rcases t3 with t3 | ⟨y, hy, t3⟩
 ·omega
 ·rw [← t3]; exact (h y hy).2
theorem taught_model {T : Trail} (h : Inv T) {D : List (List Int)} {top first : Int} {rest : List Int} (W : Taught T D top first rest) (hlit : ∀ c ∈ D, ∀ x ∈ c, Cnf.Lit x) {m : List Bool} (hm : holdsB D m = true) : holdsB [first :: rest] m = true := by
 have hg := W.good h
 have hn := h.ok.n
 have hl : ∀ x ∈ first :: rest, Cnf.Lit x := fun x hx => lit_of (hg.lit x hx).1 (by have := (hg.lit x hx).2; omega)
 unfold holdsB
 simp only [List.all_cons, List.all_nil, Bool.and_true]
 cases hc : (first :: rest).any fun x => soB x m
 ·exfalso
  rw [List.any_eq_false] at hc
  refine Rup.conf_not (m := m) hlit (fun x hx => ?_) (Rup.holds_sat hm) W.conf
  obtain ⟨y, hy, rfl⟩ := List.mem_map.1 hx
  rw [Rup.so_neg (hl y hy)]
  have := hc y hy
  simp at this
  rw [this]; rfl
 ·rfl
end Tr
end Go.Proofs.YtjedgdamommgeaaGreat
namespace Go.Proofs.YtjedgdamommgeaaGreat
namespace Tr
open Cnf
theorem drop_live {T : Trail} (o : Ok T) {k m : Nat} (hk : T.live k) : (T.drop (k : Int)).live m ↔ T.live m ∧ m ≠ k := by
 have hth : T.there (k : Int) = true := there_iff.2 hk
 have hgl := o.gl
 have hk1 := hk.1
 unfold Trail.drop Trail.live
 rw [if_pos hth]
 simp only [Int.toNat_natCast]
 by_cases e : m = k
 ·subst e
  rw [getD_set1 (by omega)]
  simp
 ·rw [getD_set2 (fun h => e h.symm)]
  exact ⟨fun h => ⟨h, e⟩, fun h => h.1⟩
theorem drop_wt {T : Trail} (o : Ok T) {k : Nat} (hk : T.live k) (p : Nat) : (T.drop (k : Int)).wt p = if ∃ l ∈ (T.cl k).take 2, place l = p then (T.wt p).filter (· != k) else T.wt p := by
 have hth : T.there (k : Int) = true := there_iff.2 hk
 have hg := o.cls _ (getD_mem' [] hk.1 : T.cl k ∈ T.cls)
 unfold Trail.drop
 rw [if_pos hth]
 simp only [Int.toNat_natCast]
 exact delW_get k _ _ (fun l hl => by rw [o.wl]; exact Rup.place_lt (hg.lit l (List.mem_of_mem_take hl))) p
theorem Inv.drop {T : Trail} (h : Inv T) {k : Nat} (hk : T.live k) : Inv (T.drop (k : Int)) := by
 have o := h.ok
 have hth : T.there (k : Int) = true := there_iff.2 hk
 have hlive := fun m => drop_live o hk (m := m)
 have hwt := drop_wt o hk
 have hsub : ∀ p m, m ∈ (T.drop (k : Int)).wt p ↔ m ∈ T.wt p ∧ m ≠ k := fun p m => by
  rw [hwt]
  split
  ·rw [List.mem_filter]; simp
  ·rename_i hno
   constructor
   ·intro hm
    refine ⟨hm, fun e => ?_⟩
    subst e
    obtain ⟨_, _, i, hi, hi2, e⟩ := h.wat.snd p m hm
    exact hno ⟨_, mem_take2.2 ⟨i, hi, hi2, rfl⟩, e⟩
   ·exact fun hm => hm.1
 have hcls : (T.drop (k : Int)).cls = T.cls := by unfold Trail.drop; rw [if_pos hth]
 have hcl : ∀ m, (T.drop (k : Int)).cl m = T.cl m := fun m => by unfold Trail.cl; rw [hcls]
 have hent : (T.drop (k : Int)).ents = T.ents := by unfold Trail.drop; rw [if_pos hth]
 have hlev : (T.drop (k : Int)).levels = T.levels := by unfold Trail.drop; rw [if_pos hth]
 have hnx : (T.drop (k : Int)).next = T.next := by unfold Trail.drop; rw [if_pos hth]
 have hsh : (T.drop (k : Int)).short = T.short := by unfold Trail.drop; rw [if_pos hth]
 have hwk : (T.drop (k : Int)).weak = T.weak := by unfold Trail.drop; rw [if_pos hth]
 have hn : (T.drop (k : Int)).n = T.n := by unfold Trail.drop; rw [if_pos hth]
 have hgo : (T.drop (k : Int)).gone = T.gone.set k true := by unfold Trail.drop; rw [if_pos hth]; simp
 have hwa : (T.drop (k : Int)).watch = delW T.watch ((T.cl k).take 2) k := by unfold Trail.drop; rw [if_pos hth]; simp
 have hlits : (T.drop (k : Int)).lits = T.lits := by unfold Trail.lits; rw [hent]
 have hen : ∀ i, (T.drop (k : Int)).ent i = T.ent i := fun i => by unfold Trail.ent; rw [hent]
 refine ⟨⟨?_, ?_, ?_, ?_, ?_, ?_, ?_, ?_, ?_, ?_, ?_⟩, ⟨?_, ?_, ?_⟩, ?_, ?_, ?_, ?_, ?_, ?_, ?_, ?_, ?_⟩
 ·rw [hn]; exact o.n
 ·rw [hgo, hcls, List.length_set]; exact o.gl
 ·rw [hwa, hn, delW_len]; exact o.wl
 ·rw [hcls, hn]; exact o.cls
 ·rw [hcls]; exact o.cb
 ·rw [hn, hlits]; exact o.good
 ·rw [hsh, hwk, hcls]; exact o.sm
 ·rw [hnx, hent]; exact o.next
 ·rw [hlev]; exact o.lev
 ·rw [hlev, hent]; exact o.lin
 ·rw [hlev, hent]; exact o.rea
 ·intro p
  rw [hwt]
  split
  ·exact (h.wat.nd p).filter _
  ·exact h.wat.nd p
 ·intro p m hm
  obtain ⟨hm1, hm2⟩ := (hsub p m).1 hm
  obtain ⟨h1, h2, h3⟩ := h.wat.snd p m hm1
  rw [hcl]
  exact ⟨by rw [hcls]; exact h1, ((hlive m).2 ⟨⟨h1, h2⟩, hm2⟩).2, h3⟩
 ·intro m hm hg i hi hi2
  obtain ⟨h1, h2⟩ := (hlive m).1 ⟨hm, hg⟩
  rw [hcl] at hi2 ⊢
  exact (hsub _ m).2 ⟨h.wat.cpl m h1.1 h1.2 i hi hi2, h2⟩
 ·intro m hm hs
  rw [hcl, hlits, hnx, hent]
  rw [hsh] at hs
  exact h.top m ((hlive m).1 hm).1 hs
 ·intro m hm hs hw
  rw [hcl]
  rw [hsh] at hs
  rw [hwk] at hw
  exact h.two m ((hlive m).1 hm).1 hs hw
 ·intro m hm hs hw x hx
  rw [hcl, hlits]
  rw [hsh] at hs
  rw [hwk] at hw
  rw [hlev] at hx
  exact h.lev m ((hlive m).1 hm).1 hs hw x hx
 ·intro x hx
  rw [hlev] at hx
  rw [hnx]
  exact h.nx x hx
 ·rw [hlev]; exact h.nm
 ·intro i hi
  rw [hent] at hi
  rw [hen, hcls, hcl, hlits]
  exact h.rea i hi
 ·intro i hi
  rw [hent] at hi
  rw [hen, hlev]
  exact h.dec i hi
 ·intro i hi
  rw [hent] at hi
  rw [hen, hlev]
  exact h.lvl i hi
 ·rw [hsh, hwk]; exact h.sn
end Tr
end Go.Proofs.YtjedgdamommgeaaGreat
