/- Slices of ints that are read; slices.IndexFunc, ContainsFunc at []int by a premise on the predicate. -/
import Derived.Test.YtjbfgafkjejdjaaRows
import Derived.Test.YtjbfgafkjejdjaaMem
namespace Go.Proofs.Ytjbfgafkjejdjaa
open Go.RowKit

abbrev cI (x : Int) : Value := .int .i64 x

def InI64 (x : Int) : Prop := -9223372036854775808 ≤ x ∧ x ≤ 9223372036854775807

/-- A slice that reads as these numbers. -/
structure Ints (w : World) (v : Value) (xs : List Int) : Prop where
  shape : ∃ ao cap, v = .slice ao xs.length cap ∧ xs.length ≤ cap ∧ cap ≤ 9223372036854775807
  cells : ∀ ao len cap, v = .slice ao len cap → 0 < xs.length → ∃ b off, ao = some ⟨b, off, none⟩ ∧ b < w.heap.size ∧ ∀ i, i < xs.length → w.cell? ⟨b, off + i, none⟩ = some (.int .i64 (xs.getD i 0))
  range : ∀ x ∈ xs, InI64 x
  nil : ∀ len cap, v = .slice none len cap → len = 0 ∧ cap = 0

theorem Ints.range' {w : World} {v : Value} {xs : List Int} (h : Ints w v xs) (i : Nat) : InI64 (xs.getD i 0) := by
  rw [List.getD_eq_getElem?_getD]
  cases hx : xs[i]? with
  | none => simp [InI64]
  | some x => exact h.range x (List.mem_of_getElem? hx)

/-- which block it leads into -/
def Value.blk : Value → Option Nat
  | .slice (some a) _ _ => some a.block
  | _ => none

theorem Ints.only {w w' : World} {v : Value} {xs : List Int} {F : Nat → Prop} (h : Ints w v xs) (ho : Only F w w') (hF : ∀ b, Value.blk v = some b → ¬ F b) : Ints w' v xs := by
  refine ⟨h.shape, fun ao len cap hv hp => ?_, h.range, h.nil⟩
  obtain ⟨b, off, rfl, hb, hc⟩ := h.cells ao len cap hv hp
  refine ⟨b, off, rfl, Nat.lt_of_lt_of_le hb ho.size, fun i hi => ?_⟩
  rw [World.cell?_of_block (w := w) (ho.block b hb (hF b (by rw [hv]; rfl)))]
  exact hc i hi

theorem Ints.only0 {w w' : World} {v : Value} {xs : List Int} (h : Ints w v xs) (ho : Only (fun _ => False) w w') : Ints w' v xs := h.only ho (fun _ _ f => f)

theorem own_nil {w : World} {e : TypeId} {size len cap n : Nat} {xs : List Value} (h : w.ownsRow 0 e size (.slice none len cap) n xs) : len = 0 ∧ cap = 0 := by
  rcases h.2 with ⟨h2, _⟩ | ⟨g, c, cur, h2, _⟩
  · simp only [Value.slice.injEq, true_and] at h2; exact h2
  · simp at h2

theorem Ints.of_own {w : World} {v : Value} {xs : List Int} (h : w.ownsRow 0 3 1 v xs.length (xs.map (Value.int .i64))) (hr : ∀ x ∈ xs, InI64 x) : Ints w v xs := by
  obtain ⟨ao, cap, rfl, h1, h2⟩ := own_slice h
  unfold maxLen at h2
  refine ⟨⟨ao, cap, rfl, h1, by omega⟩, fun ao' len' cap' hv hp => ?_, hr, fun len' cap' hv => by rw [hv] at h; exact own_nil h⟩
  simp only [Value.slice.injEq] at hv
  obtain ⟨rfl, rfl, rfl⟩ := hv
  obtain ⟨g, cap', he, _, _⟩ := own_some h hp
  simp only [Value.slice.injEq] at he
  obtain ⟨rfl, -, rfl⟩ := he
  refine ⟨g, 0, rfl, own_lt h rfl, fun i hi => ?_⟩
  rw [Nat.zero_add, h.cellAt i (by omega)]
  simp [List.getD, List.getElem?_eq_getElem hi]

/-- What is asked of a function value that is a predicate on ints: it may draw and make memory. -/
def PredI (w : World) (g : Nat) (cb : Array Value) (p : Int → Bool) (xs : List Int) : Prop :=
  ∀ x ∈ xs, ∀ W, Only (fun _ => False) w W → Calls Try.prog g (#[.int .i64 x] ++ cb) W fun e W' => e = .returned (.bool (p x)) ∧ Only (fun _ => False) W W'

/-- the place of the first that is so, or -1 -/
def idxI (p : Int → Bool) (xs : List Int) : Int := if xs.any p then (xs.findIdx p : Int) else -1

def NoneTo (p : Int → Bool) (xs : List Int) (k : Nat) : Prop := ∀ j, j < k → p (xs.getD j 0) = false

theorem idxI_hit {p : Int → Bool} {xs : List Int} {k : Nat} (h : NoneTo p xs k) (hk : k < xs.length) (hp : p (xs.getD k 0) = true) : idxI p xs = k := by
  have hg : xs.getD k 0 = xs[k] := by simp [List.getD_eq_getElem?_getD, hk]
  rw [hg] at hp
  unfold idxI
  rw [if_pos (List.any_eq_true.2 ⟨xs[k], List.getElem_mem hk, hp⟩)]
  congr 1
  rw [List.findIdx_eq hk]
  refine ⟨hp, fun j hj => ?_⟩
  have := h j hj
  simpa [List.getD_eq_getElem?_getD, show j < xs.length by omega] using this

theorem idxI_none {p : Int → Bool} {xs : List Int} (h : NoneTo p xs xs.length) : idxI p xs = -1 := by
  unfold idxI
  rw [if_neg]
  rw [List.any_eq_true]
  rintro ⟨x, hx, hp⟩
  obtain ⟨j, hj, rfl⟩ := List.getElem_of_mem hx
  have := h j hj
  simp [List.getD_eq_getElem?_getD, hj] at this
  rw [this] at hp; cases hp

set_option maxHeartbeats 800000 in
theorem IndexFunc_int {w : World} {v : Value} {xs : List Int} (hI : Ints w v xs) (g : Nat) (cb : Array Value) (p : Int → Bool)
    (eg : ∀ args w, (callFunc g args).run Try.prog w = .ok (.enter g args) w) (hp : PredI w g cb p xs) :
    Calls Try.prog 85 #[v, .func (.func g) #[] cb] w fun e w' => e = .returned (.int .i64 (idxI p xs)) ∧ Only (fun _ => False) w w' := by
  have HP := Lib.hid hp
  clear hp
  obtain ⟨ao, cap, rfl, hl, hm⟩ := hI.shape
  go_enter Try.func85, Try.ntmps85
  go_wp2_with fail
  go_loopw [8] (fun v wr => ∃ k : Nat, v = .int .i64 k ∧ k ≤ xs.length ∧ NoneTo p xs k ∧ Only (fun _ => False) w wr) (fun v _ => xs.length - (intOf v).toNat)
  case atStart => exact ⟨0, rfl, Nat.zero_le _, fun j hj => by omega, Only.refl _ _⟩
  case round =>
    obtain ⟨k, rfl, hk, hN, hO⟩ := hrel
    by_cases c : k < xs.length
    · obtain ⟨b, off, rfl, hb, hc⟩ := (hI.only0 hO).cells _ _ _ rfl (by omega)
      have hcell := hc k c
      have hmem : xs.getD k 0 ∈ xs := by rw [List.getD_eq_getElem?_getD, List.getElem?_eq_getElem c]; exact List.getElem_mem c
      have hcall := HP.out _ hmem wr hO
      have HC := Lib.hid hcall
      have HN := Lib.hid hN
      clear hc hcall hmem hN
      generalize hx : xs.getD k 0 = x at *
      have HX := Lib.hid hx
      clear hx
      cases hpx : p x
      · have HPX := Lib.hid hpx
        clear hpx
        go_wp2_with fail
        refine HC.out.mono ?_
        rintro e w2 ⟨rfl, O2⟩
        rw [HPX.out]
        go_wp2_with fail
        go_roundw
        case rel =>
          refine ⟨k + 1, by go_num, by omega, fun j hj => ?_, hO.same O2⟩
          rcases Nat.lt_or_ge j k with h1 | h1
          · exact HN.out j h1
          · rw [show j = k by omega, HX.out]; exact HPX.out
        case measure => simp [intOf]; omega
      · have HPX := Lib.hid hpx
        clear hpx
        go_wp2_with fail
        refine HC.out.mono ?_
        rintro e w2 ⟨rfl, O2⟩
        rw [HPX.out]
        go_wp2_with fail
        go_ret
        refine ⟨?_, hO.same O2⟩
        rw [idxI_hit HN.out c (by rw [HX.out]; exact HPX.out)]
        rfl
    · have hk' : k = xs.length := by omega
      subst hk'
      have HN := Lib.hid hN
      clear hN
      go_wp2_with fail
      go_ret
      refine ⟨?_, hO⟩
      rw [idxI_none HN.out]
      rfl

theorem idxI_ge (p : Int → Bool) (xs : List Int) : decide (0 ≤ idxI p xs) = xs.any p := by
  unfold idxI
  cases h : xs.any p
  · simp
  · simp

theorem ContainsFunc_int {w : World} {v : Value} {xs : List Int} (hI : Ints w v xs) (g : Nat) (cb : Array Value) (p : Int → Bool)
    (eg : ∀ args w, (callFunc g args).run Try.prog w = .ok (.enter g args) w) (hp : PredI w g cb p xs) (r : Bool) (hr : xs.any p = r) :
    Calls Try.prog 56 #[v, .func (.func g) #[] cb] w fun e w' => e = .returned (.bool r) ∧ Only (fun _ => False) w w' := by
  subst hr
  rw [← idxI_ge]
  have hcon := IndexFunc_int hI g cb p eg hp
  have HC := Lib.hid hcon
  clear hcon hp
  generalize idxI p xs = z at *
  go_enter Try.func56, Try.ntmps56
  go_wp2_with fail
  refine HC.out.mono ?_
  rintro e w2 ⟨rfl, O2⟩
  go_wp2_with fail
  go_ret
  exact ⟨rfl, O2⟩

end Go.Proofs.Ytjbfgafkjejdjaa
