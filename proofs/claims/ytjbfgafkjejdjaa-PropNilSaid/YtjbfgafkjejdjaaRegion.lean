/- A region that draws its order and whose last operation waits for all the others: that one may be left to the end, walked as a plain one. -/
import Derived.WalkKit
import Derived.Deep.RegionHeld3
namespace Go.Proofs.Ytjbfgafkjejdjaa

section
variable {P : Program} {ops : Array Oper} {Q : Exit → Act → World → Prop} {o : Oper}

/-- what the region without its last operation must leave -/
def lastPost (P : Program) (ops : Array Oper) (o : Oper) (Q : Exit → Act → World → Prop) : Exit → Act → World → Prop
  | .normal, a, w => wpList P ops Q [o] a w
  | .panic _, _, _ => False
  | e, a, w => Q e a w

theorem lastPost_out (h : LetsOut (lastPost P ops o Q)) : LetsOut Q := h

theorem wp_swap {o' : Oper} {a : Act} {w : World} {K K' : Act → World → Prop} (h : ∀ a w, K a w → K' a w) (hh : o'.wp P a w K (lastPost P ops o Q)) : o'.wp P a w K' Q := by
  unfold Oper.wp at *
  generalize (execOp a.eval o').run P w = r at *
  cases r with
  | ok n w' =>
    cases n <;> simp only [Oper.upon] at hh ⊢
    case value => exact h _ _ hh
    case skip => exact h _ _ hh
    case defer => exact h _ _ hh
    case enter =>
      refine Calls.mono hh (fun e w'' he => ?_)
      cases e with
      | returned v => exact h _ _ he
      | panicked c => exact (he : False).elim
      | outgrown => exact lastPost_out he
    case row => exact Rows.mono hh (fun _ _ he => h _ _ he)
  | halt x w' =>
    cases x <;> simp only [Oper.upon] at hh ⊢
    case panic => exact (hh : False).elim

theorem wpOp_swap {i : Nat} {a : Act} {w : World} {K K' : Act → World → Prop} (h : ∀ a w, K a w → K' a w) (hh : wpOp P ops (lastPost P ops o Q) i K a w) : wpOp P ops Q i K' a w := by
  unfold wpOp at *
  split
  · exact h _ _ (by simpa [*] using hh)
  · rename_i o' ho
    simp only [ho] at hh
    split
    · rename_i hw
      simp only [hw, if_true] at hh
      exact hh.imp (wp_swap h) (fun ⟨h1, h2⟩ => ⟨h1, lastPost_out h2⟩)
    · rename_i hw
      simp only [hw] at hh
      exact h _ _ hh

/-- number n is the last one, has no guard and waits for all the others; each of these waits for earlier ones alone -/
def lastWaits (ops : Array Oper) (n : Nat) : Bool :=
  ops.size == n + 1 && ((ops[n]?).map fun o => o.guard.isNone && (List.range n).all fun j => o.after.any fun e => Region.binds .any e && e.on == j).getD false &&
    (List.range (n + 1)).all fun i => ((ops[i]?).map fun o => o.after.all fun e => decide (e.on < i)).getD false

structure LastOk (ops : Array Oper) (n : Nat) (o : Oper) : Prop where
  size : ops.size = n + 1
  at_ : ops[n]? = some o
  guard : o.guard = none
  waits : ∀ j, j < n → ∃ e ∈ o.after, Region.binds .any e = true ∧ e.on = j
  early : ∀ i oi, i < n + 1 → ops[i]? = some oi → ∀ e ∈ oi.after, e.on < i

theorem lastWaits_ok {n : Nat} (ho : ops[n]? = some o) (h : lastWaits ops n = true) : LastOk ops n o := by
  unfold lastWaits at h
  rw [ho] at h
  simp only [Option.map_some, Option.getD_some, Bool.and_eq_true, beq_iff_eq, List.all_eq_true, List.mem_range, Option.isNone_iff_eq_none] at h
  obtain ⟨⟨h1, h2, h3⟩, h4⟩ := h
  refine ⟨h1, ho, h2, fun j hj => ?_, fun i oi hi hoi e he => ?_⟩
  · have h5 := h3 j hj
    rw [Array.any_eq_true] at h5
    obtain ⟨k, hk, h6⟩ := h5
    simp only [Bool.and_eq_true, beq_iff_eq] at h6
    exact ⟨_, Array.getElem_mem hk, h6⟩
  · have h5 := h4 i hi
    rw [hoi] at h5
    simp only [Option.map_some, Option.getD_some, Array.all_eq_true_iff_forall_mem, decide_eq_true_eq] at h5
    exact h5 e he

theorem getD_set_self {listed : Array Bool} {i : Nat} (h : i < listed.size) (d : Bool) : (listed.setIfInBounds i true).getD i d = true := by
  simp [Array.getD, h]

/-- with the last one set aside the others come up as before -/
theorem ready_but {n : Nat} (L : LastOk ops n o) {listed : Array Bool} {i : Nat} (hi : i ∈ Region.ready .any ops listed) (hne : i ≠ n) : i ∈ Region.ready .any ops (listed.setIfInBounds n true) := ready_mono hi hne

theorem ready_back {n : Nat} (L : LastOk ops n o) {listed : Array Bool} {i : Nat} (hi : i ∈ Region.ready .any ops (listed.setIfInBounds n true)) (hs : n < listed.size) : i < n ∧ i ∈ Region.ready .any ops listed := by
  rw [mem_ready] at *
  obtain ⟨h0, oi, ho, hall⟩ := hi
  have hne : n ≠ i := by
    intro e; subst e
    rw [getD_set_self hs] at h0; cases h0
  have hlt : i < n := by
    have := (Array.getElem?_eq_some_iff.1 ho).1
    have := L.size
    omega
  refine ⟨hlt, by rw [getD_set_ne true hne] at h0; exact h0, oi, ho, fun e he hb => ?_⟩
  have h1 := hall e he hb
  have h2 := L.early i oi (by omega) ho e he
  rw [getD_set_ne false (by omega)] at h1
  exact h1

/-- if none comes up, all have -/
theorem ready_none {n : Nat} (L : LastOk ops n o) {listed : Array Bool} (hs : listed.size = ops.size) (h : Region.ready .any ops (listed.setIfInBounds n true) = []) : ∀ j, j < n → listed.getD j false = true := by
  intro j
  induction j using Nat.strongRecOn with
  | ind j ih =>
    intro hj
    cases hc : listed.getD j false with
    | true => rfl
    | false =>
      exfalso
      have hsz := L.size
      have hlt : j < ops.size := by omega
      obtain ⟨oj, hoj⟩ : ∃ oj, ops[j]? = some oj := ⟨ops[j], by simp [hlt]⟩
      have hm : j ∈ Region.ready .any ops (listed.setIfInBounds n true) := by
        rw [mem_ready]
        refine ⟨?_, oj, hoj, fun e he hb => ?_⟩
        · rw [getD_set_ne true (by omega)]
          have : j < listed.size := by omega
          simp [Array.getD, this] at hc ⊢
          exact hc
        · have he1 := L.early j oj (by omega) hoj e he
          exact getD_set_true (ih e.on he1 (by omega))
      rw [h] at hm
      cases hm

theorem wpAny_last {n : Nat} (L : LastOk ops n o) : ∀ (fuel : Nat) (listed : Array Bool) (a : Act) (w : World), listed.size = ops.size → listed.getD n true = false →
    wpAny P .any ops (lastPost P ops o Q) fuel (listed.setIfInBounds n true) a w → wpAny P .any ops Q (fuel + 1) listed a w := by
  have hsz := L.size
  -- where the others are through
  have fin : ∀ (fuel : Nat) (listed : Array Bool) (a : Act) (w : World), listed.size = ops.size → listed.getD n true = false → Region.ready .any ops (listed.setIfInBounds n true) = [] →
      lastPost P ops o Q .normal a w → wpAny P .any ops Q (fuel + 1) listed a w := by
    intro fuel listed a w hs hn hr hq
    have hall := ready_none L hs hr
    have hmem : n ∈ Region.ready .any ops listed := by
      rw [mem_ready]
      exact ⟨hn, o, L.at_, fun e he hb => by
        rcases Nat.lt_or_ge e.on n with h | h
        · exact hall _ h
        · have := L.early n o (by omega) L.at_ e he; omega⟩
    refine ⟨fun h => (by rw [h] at hmem; cases hmem), fun i hi => ?_⟩
    by_cases e : i = n
    · subst e
      unfold wpOp
      simp only [L.at_]
      unfold lastPost wpList at hq
      simp only [wpList] at hq
      split
      · rename_i hw
        rw [if_pos hw] at hq
        exact hq.imp (Oper.wp_mono fun a w h => wpAny_done hr h _) id
      · rename_i hw
        rw [if_neg hw] at hq
        exact wpAny_done hr hq _
    · have := ready_mono (i := n) hi e
      rw [hr] at this; cases this
  intro fuel
  induction fuel with
  | zero =>
    intro listed a w hs hn h
    exact fin 0 listed a w hs hn h.1 h.2
  | succ fuel ih =>
    intro listed a w hs hn h
    by_cases hr : Region.ready .any ops (listed.setIfInBounds n true) = []
    · exact fin _ listed a w hs hn hr (h.1 hr)
    · -- somebody is still to come
      obtain ⟨k, hk⟩ := List.exists_mem_of_ne_nil _ hr
      have hk' := ready_back L hk (by omega)
      refine ⟨fun h0 => (by rw [h0] at hk'; cases hk'.2), fun i hi => ?_⟩
      have hin : i ≠ n := by
        intro e
        subst e
        rw [mem_ready] at hi
        obtain ⟨_, oi, hoi, hall⟩ := hi
        rw [L.at_] at hoi
        obtain rfl := Option.some.inj hoi
        obtain ⟨e, he, hb, heo⟩ := L.waits k hk'.1
        have h1 := hall e he hb
        rw [heo] at h1
        have h2 := (mem_ready.1 hk'.2).1
        have h3 : k < listed.size := by omega
        simp [Array.getD, h3] at h1 h2
        rw [h2] at h1; cases h1
      refine wpOp_swap (fun a' w' h' => ih (listed.setIfInBounds i true) a' w' (by simpa using hs) ?_ ?_) (h.2 i (ready_mono hi hin))
      · rw [getD_set_ne true hin]; exact hn
      · rw [Array.setIfInBounds_comm _ _ hin]; exact h'

/-- THE REGION, its last operation left to the end. -/
theorem wp_region_last {id n : Nat} {a : Act} {w : World} {S : World → Prop} (hm : P.follows .mixedOrders = true) (ho : ops[n]? = some o) (hL : lastWaits ops n = true) (hS : S w.drew)
    (h : S w.drew → wpAnyH P .any ops (lastPost P ops o Q) S n ((Array.replicate (n + 1) false).setIfInBounds n true) a w.drew) : (Code.region id ops true).wp P Q a w := by
  have L := lastWaits_ok ho hL
  refine wp_region_any hm ?_
  rw [L.size]
  exact wpAny_last L n _ a _ (by simp [L.size]) (by simp [Array.getD]) (wpAny_of_held _ _ _ _ (h hS))

end
end Go.Proofs.Ytjbfgafkjejdjaa
