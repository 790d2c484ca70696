/- Slices of slices of ints that are read; small facts on rows. -/
import Derived.Test.YtjbfgafkjejdjaaMem2
namespace Go.Proofs.Ytjbfgafkjejdjaa
open Go.RowKit

theorem slInt : SlT Try.prog 22 3 1 8 := SlT.mk' (z := .int .i64 0) Try.underlying22 (by kernel_rfl) rfl (by decide)

theorem own_lit0 (w : World) : (w.alloc (.cells #[] 3)).ownsRow 0 3 1 (.slice (some ⟨w.heap.size, 0, none⟩) 0 0) 0 [] :=
  World.ownsRow_lit (base := 0) (e := 3) (size := 1) w #[] 0 (Nat.zero_le _) (by unfold maxLen; omega) (by simp)

theorem cell_new0 (w : World) (u : Value) (t : TypeId) : (w.alloc (.cells #[u] t)).cell? ⟨w.heap.size, 0, none⟩ = some u := by simp

theorem take_snocI (xs : List Int) (k : Nat) (h : k < xs.length) : xs.take (k + 1) = xs.take k ++ [xs.getD k 0] := by
  rw [List.take_succ_eq_append_getElem h]
  simp [List.getD_eq_getElem?_getD, h]

abbrev nilS : Value := .slice none 0 0

/-- A slice whose cells hold these values. -/
structure Cells (w : World) (v : Value) (us : List Value) : Prop where
  shape : ∃ ao cap, v = .slice ao us.length cap ∧ us.length ≤ cap ∧ cap ≤ 9223372036854775807
  cells : ∀ ao len cap, v = .slice ao len cap → 0 < us.length → ∃ b off, ao = some ⟨b, off, none⟩ ∧ b < w.heap.size ∧ ∀ i, i < us.length → w.cell? ⟨b, off + i, none⟩ = some (us.getD i nilS)
  nil : ∀ len cap, v = .slice none len cap → len = 0 ∧ cap = 0

theorem Cells.only {w w' : World} {v : Value} {us : List Value} {F : Nat → Prop} (h : Cells w v us) (ho : Only F w w') (hF : ∀ b, Value.blk v = some b → ¬ F b) : Cells w' v us := by
  refine ⟨h.shape, fun ao len cap hv hp => ?_, h.nil⟩
  obtain ⟨b, off, rfl, hb, hc⟩ := h.cells ao len cap hv hp
  refine ⟨b, off, rfl, Nat.lt_of_lt_of_le hb ho.size, fun i hi => ?_⟩
  rw [World.cell?_of_block (w := w) (ho.block b hb (hF b (by rw [hv]; rfl)))]
  exact hc i hi

theorem Cells.only0 {w w' : World} {v : Value} {us : List Value} (h : Cells w v us) (ho : Only (fun _ => False) w w') : Cells w' v us := h.only ho (fun _ _ f => f)

theorem Cells.of_own {w : World} {v : Value} {us : List Value} {t : TypeId} (h : w.ownsRow 0 t 1 v us.length us) : Cells w v us := by
  obtain ⟨ao, cap, rfl, h1, h2⟩ := own_slice h
  unfold maxLen at h2
  refine ⟨⟨ao, cap, rfl, h1, by omega⟩, fun ao' len' cap' hv hp => ?_, fun len' cap' hv => by rw [hv] at h; exact own_nil h⟩
  simp only [Value.slice.injEq] at hv
  obtain ⟨rfl, rfl, rfl⟩ := hv
  obtain ⟨g, cap', he, _, _⟩ := own_some h hp
  simp only [Value.slice.injEq] at he
  obtain ⟨rfl, -, rfl⟩ := he
  refine ⟨g, 0, rfl, own_lt h rfl, fun i hi => ?_⟩
  rw [Nat.zero_add, h.cellAt i (by omega)]
  simp [List.getD, List.getElem?_eq_getElem hi]

/-- the cells, for wpAS -/
theorem Cells.news {w : World} {ao : Option Addr} {len cap : Nat} {us : List Value} (h : Cells w (.slice ao len cap) us) : ∀ ad, ao = some ad → ∀ j u, us[j]? = some u → w.cell? (ad.add j) = some u := by
  intro ad had j u hu
  have hj : j < us.length := (List.getElem?_eq_some_iff.1 hu).1
  obtain ⟨b, off, he, _, hc⟩ := h.cells _ _ _ rfl (by omega)
  rw [had] at he
  obtain rfl := Option.some.inj he
  rw [Go.WideShapes.add_plain, hc j hj]
  rw [← hu]
  simp [List.getD, hj]

/-- Values that are read as lists of ints -/
def AllInts (w : World) (us : List Value) (css : List (List Int)) : Prop := us.length = css.length ∧ ∀ i, i < css.length → Ints w (us.getD i nilS) (css.getD i [])

theorem AllInts.only0 {w w' : World} {us : List Value} {css : List (List Int)} (h : AllInts w us css) (ho : Only (fun _ => False) w w') : AllInts w' us css := ⟨h.1, fun i hi => (h.2 i hi).only0 ho⟩

theorem getD_app_l {α : Type} (xs ys : List α) (d : α) {i : Nat} (h : i < xs.length) : (xs ++ ys).getD i d = xs.getD i d := by
  simp only [List.getD_eq_getElem?_getD]; rw [List.getElem?_append_left h]
theorem getD_app_r {α : Type} (xs ys : List α) (d : α) {i : Nat} (h : xs.length ≤ i) : (xs ++ ys).getD i d = ys.getD (i - xs.length) d := by
  simp only [List.getD_eq_getElem?_getD]; rw [List.getElem?_append_right h]

theorem AllInts.snoc {w : World} {us : List Value} {css : List (List Int)} (h : AllInts w us css) {u : Value} {c : List Int} (hu : Ints w u c) : AllInts w (us ++ [u]) (css ++ [c]) := by
  refine ⟨by simp [h.1], fun i hi => ?_⟩
  have hl := h.1
  by_cases hi' : i < css.length
  · rw [getD_app_l _ _ _ (by omega), getD_app_l _ _ _ hi']
    exact h.2 i hi'
  · have : i = css.length := by simp at hi; omega
    subst this
    rw [getD_app_r _ _ _ (by omega), getD_app_r _ _ _ (by omega), hl]
    simpa using hu

theorem AllInts.one {w : World} {us : List Value} {css : List (List Int)} (h : AllInts w us css) : ∀ u ∈ us, u.oneCell' = true := by
  intro u hu
  obtain ⟨i, hi, rfl⟩ := List.getElem_of_mem hu
  have := h.2 i (by rw [← h.1]; exact hi)
  rw [List.getD_eq_getElem?_getD, List.getElem?_eq_getElem hi] at this
  obtain ⟨ao, cap, e, -⟩ := this.shape
  simp only [Option.getD_some] at e
  rw [e]; rfl

/-- A slice that reads as these lists. -/
def IntsS (w : World) (v : Value) (css : List (List Int)) : Prop := ∃ us, Cells w v us ∧ AllInts w us css

theorem IntsS.only0 {w w' : World} {v : Value} {css : List (List Int)} (h : IntsS w v css) (ho : Only (fun _ => False) w w') : IntsS w' v css := by
  obtain ⟨us, h1, h2⟩ := h
  exact ⟨us, h1.only0 ho, h2.only0 ho⟩

theorem IntsS.shape {w : World} {v : Value} {css : List (List Int)} (h : IntsS w v css) : ∃ ao cap, v = .slice ao css.length cap ∧ css.length ≤ cap ∧ cap ≤ 9223372036854775807 := by
  obtain ⟨us, h1, h2⟩ := h
  rw [← h2.1]
  exact h1.shape

theorem IntsS.at {w : World} {ao : Option Addr} {len cap : Nat} {css : List (List Int)} (h : IntsS w (.slice ao len cap) css) {k : Nat} (hk : k < css.length) :
    ∃ b off u, ao = some ⟨b, off, none⟩ ∧ b < w.heap.size ∧ w.cell? ⟨b, off + k, none⟩ = some u ∧ Ints w u (css.getD k []) := by
  obtain ⟨us, h1, h2⟩ := h
  obtain ⟨b, off, rfl, hb, hc⟩ := h1.cells _ _ _ rfl (by rw [h2.1]; omega)
  exact ⟨b, off, _, rfl, hb, hc k (by rw [h2.1]; exact hk), h2.2 k hk⟩

theorem slInts : SlT Try.prog 35 22 1 24 := SlT.mk' (z := nilS) Try.underlying35 (by kernel_rfl) rfl (by decide)

theorem getD_mem' {α : Type} {xs : List α} {k : Nat} (d : α) (h : k < xs.length) : xs.getD k d ∈ xs := by
  rw [List.getD_eq_getElem?_getD, List.getElem?_eq_getElem h]; exact List.getElem_mem h

end Go.Proofs.Ytjbfgafkjejdjaa
