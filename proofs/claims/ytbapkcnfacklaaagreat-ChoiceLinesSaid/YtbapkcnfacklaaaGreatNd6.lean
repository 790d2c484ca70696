/- ref10.Has; the chapter's example; NeedsMore. -/
import Derived.Test.YtbapkcnfacklaaaGreatNd5
import Derived.Test.YtbapkcnfacklaaaGreatAllocB
set_option linter.unusedVariables false
namespace Go.Proofs.YtbapkcnfacklaaaGreat
open Go.RowKit Go.Shelf
section
variable {w w' : World} {B : Nat}
theorem ints_of_nats {v : Value} {l : List Nat} (h : w.ownsRow 0 3 1 v l.length (natsV l)) (hl : ∀ i ∈ l, i ≤ 1000000) : Ints w v (intsOf l) := by
 have e1 : (intsOf l).map (Value.int .i64) = natsV l := by simp [intsOf, natsV]
 refine Ints.of_own ?_ fun z hz => ?_
 ·rw [e1]; simpa [intsOf] using h
 ·obtain ⟨i, hi, rfl⟩ := List.mem_map.1 hz
  have := hl i hi
  exact ⟨by omega, by omega⟩
set_option maxRecDepth 100000 in
theorem Has_any {v : Value} {zs : List Int} (h : Ints w v zs) (n : Int) :
  Calls Tryz.prog 24 #[v, .int .i64 n] w fun e w' => e = .returned (.bool (zs.contains n)) ∧ Only (fun _ => False) w w' := by
 obtain ⟨ao, cap, rfl, hc1, hc2⟩ := h.shape
 have HH := Lib.hid h
 obtain ⟨m, hm⟩ : ∃ m, zs.length = m := ⟨_, rfl⟩
 have HN := Lib.hid hm
 rw [hm] at hc1 ⊢
 obtain ⟨r, hr⟩ : ∃ r, zs.contains n = r := ⟨_, rfl⟩
 have HR := Lib.hid hr
 rw [hr]
 clear h hm hr
 go_enter Tryz.func24, Tryz.ntmps24
 go_wp2_with fail
 go_loopw [8] (fun vi wr => Hid (Only (fun _ => False) w wr) ∧ ∃ i : Nat, vi = .int .i64 i ∧ i ≤ m ∧ Hid (∀ z ∈ zs.take i, z ≠ n)) (fun v _ => m - (intOf v).toNat)
 case atStart => exact ⟨show Hid _ from Only.refl _ _, 0, rfl, Nat.zero_le _, show Hid _ from fun z hz => by simp at hz⟩
 case round =>
  obtain ⟨HO, i, rfl, hi, HZ⟩ := hrel
  by_cases ci : i < m
  ·have h2 := HH.out
   rw [HN.out] at h2
   obtain ⟨b, off, rfl, -, -⟩ := h2.cells _ _ _ rfl (by rw [HN.out]; omega)
   obtain ⟨z, hz⟩ : ∃ z, zs[i]? = some z := ⟨_, List.getElem?_eq_getElem (by rw [HN.out]; exact ci)⟩
   have h3 := h2.only0 HO.out
   obtain ⟨b', off', e2, -, hcell⟩ := h3.cells _ _ _ rfl (by rw [HN.out]; omega)
   simp only [Option.some.injEq, Addr.mk.injEq, and_true] at e2
   obtain ⟨rfl, rfl⟩ := e2
   have hc := hcell i (by rw [HN.out]; exact ci)
   rw [List.getD_eq_getElem?_getD, hz] at hc
   simp only [Option.getD_some] at hc
   have ewi : IntKind.i64.wrap ((i : Int) + 1) = (i : Int) + 1 := by rw [IntKind.wrap_i64]; omega
   have HZz := Lib.hid hz
   clear h2 h3 hcell hz
   by_cases hzn : z = n
   ·have HE := Lib.hid hzn
    subst hzn
    go_wp2_with fail
    go_ret
    refine ⟨?_, HO.out⟩
    rw [← HR.out, List.contains_iff_mem.2 (List.mem_of_getElem? HZz.out)]
    rfl
   ·go_wp2_with fail
    go_roundw
    case rel => exact ⟨HO, i + 1, by first | rfl | go_num, by omega, show Hid _ from fun y hy => by
     rcases mem_take_snoc HZz.out hy with h | rfl
     ·exact HZ.out y h
     ·exact hzn⟩
    case measure => simp [intOf] <;> omega
  ·obtain rfl : m = i := by omega
   go_wp2_with fail
   go_ret
   refine ⟨?_, HO.out⟩
   have h1 := HZ.out
   rw [List.take_of_length_le (Nat.le_of_eq HN.out)] at h1
   have h2 : zs.contains n = false := by
    rw [Bool.eq_false_iff]
    intro h
    exact h1 n (List.contains_iff_mem.1 h) rfl
   rw [← HR.out, h2]
   rfl
theorem rangeAt_block {b o : Nat} {arr : Array Value} {t : TypeId} {f : Nat × Nat} {cs : List Value} (h : w.heap[b]? = some (.cells arr t f)) (hs : (arr.toList.drop o).take cs.length = cs) : w.rangeAt b o cs := by
 intro j u hu
 rw [cell_block h]
 have hj := (List.getElem?_eq_some_iff.1 hu).1
 rw [← hs, List.getElem?_take, if_pos hj, List.getElem?_drop] at hu
 rw [← hu, Array.getElem?_toList]
theorem RowT.lit {α : Type} {n : Nat} {C : Nat → World → List Value → α → Prop} {b cap : Nat} {arr : Array Value} {t : TypeId} {f : Nat × Nat} {xs : List α} {m : Nat} (h : w.heap[b]? = some (.cells arr t f)) (hb : b < B) (hB : B ≤ w.heap.size) (hm : xs.length = m) (hc : m ≤ cap) (hc2 : cap ≤ 1000)
  (hx : ∀ i (hi : i < xs.length), ∃ cs, cs.length = n ∧ (arr.toList.drop (i * n)).take cs.length = cs ∧ C B w cs xs[i]) : RowT n C B w (.slice (some ⟨b, 0, none⟩) m cap) xs := by
 subst hm
 refine ⟨⟨_, cap, rfl, hc, by omega⟩, fun ao len cap' hv hp => ?_, fun len cap' hv => by simp at hv⟩
 simp only [Value.slice.injEq] at hv
 obtain ⟨rfl, -, -⟩ := hv
 refine ⟨b, 0, rfl, hb, hB, fun i hi => ?_⟩
 obtain ⟨cs, h1, h2, h3⟩ := hx i hi
 refine ⟨cs, h1, ?_, h3⟩
 rw [Nat.zero_add]
 exact rangeAt_block h h2
theorem z64 : InI64 0 := by constructor <;> decide
def bs (l : List UInt8) : Str := ⟨l.toArray⟩
theorem ok10 (l : List UInt8) (h : l.length ≤ 1000) : okS (bs l) := by
 show (bs l).size ≤ maxLen
 unfold maxLen
 have : (bs l).size = l.length := by simp [bs, ByteArray.size]
 omega
end
end Go.Proofs.YtbapkcnfacklaaaGreat
