/- cnf.Builder: Most. -/
import Derived.Test.YtbapkcnfacklaaaCh1
import Derived.Test.YtbapkcnfacklaaaNd2
import Derived.Carry
set_option linter.unusedVariables false
namespace Go.Proofs.Ytbapkcnfacklaaa
open Go.RowKit
def Bld.adds (B : Bld) (l : List (List Int)) : Bld := l.foldl Bld.add B
theorem Bld.adds_app (B : Bld) (l m : List (List Int)) : B.adds (l ++ m) = (B.adds l).adds m := by simp [Bld.adds]
theorem Bld.adds_one (B : Bld) (c : List Int) : B.adds [c] = B.add c := rfl
def pairsAt (row : List Int) (i : Nat) : List (List Int) := (row.drop (i + 1)).map fun y => [-(row.getD i 0), -y]
def mostTo (row : List Int) (i : Nat) : List (List Int) := (List.range i).flatMap (pairsAt row)
def mostC (row : List Int) : List (List Int) := mostTo row row.length
theorem mostTo_succ (row : List Int) (i : Nat) : mostTo row (i + 1) = mostTo row i ++ pairsAt row i := by
 unfold mostTo; rw [List.range_succ, List.flatMap_append]; simp
section
variable {w : World}
theorem run_slice_int {P : Program} {t e : TypeId} {i : TypeInfo} (ht : P.underlying t = some (.slice e)) (hi : P.info? e = some i) (hs : i.size = 1) (b o m k cap : Nat) (hm : k ≤ m) (hc : m ≤ cap) (W : World) (z : Int) (hz : z = k) :
  (Instr.slice t (.slice (some ⟨b, o, none⟩) m cap) (some (.int .i64 z)) none none).run P W = .ok (.slice (some ⟨b, if cap = k then o else o + k, none⟩) (m - k) (cap - k)) W := by
 subst hz
 have h1 : (0 : Int) ≤ (k : Int) ∧ (k : Int) ≤ (m : Int) := ⟨by omega, by omega⟩
 simp [Instr.slice, Instr.sliceBounds, Instr.sliceBound, run_underlying ht, sizeOf, typeInfo, hi, hs, asIntOf, Addr.add, hm]
 by_cases hcap : cap = k
 ·simp [hcap]
 ·simp [hcap]
theorem run_slice_ints (b o m k cap : Nat) (hm : k ≤ m) (hc : m ≤ cap) (W : World) (z : Int) (hz : z = k) :
  (Instr.slice 32 (.slice (some ⟨b, o, none⟩) m cap) (some (.int .i64 z)) none none).run Try.prog W = .ok (.slice (some ⟨b, if cap = k then o else o + k, none⟩) (m - k) (cap - k)) W := by
 obtain ⟨ii, zz, t1, t2, t3, -, -⟩ := slInt.info
 exact run_slice_int (P := Try.prog) slInt.und t1 t3 b o m k cap hm hc W z hz
theorem Ints.dropO {b o n cap : Nat} {xs : List Int} (h : Ints w (.slice (some ⟨b, o, none⟩) n cap) xs) {k : Nat} (hk : k ≤ xs.length) : Ints w (.slice (some ⟨b, if cap = k then o else o + k, none⟩) (n - k) (cap - k)) (xs.drop k) := by
 obtain ⟨ao, c, he, hc1, hc2⟩ := h.shape
 simp only [Value.slice.injEq] at he
 obtain ⟨rfl, rfl, rfl⟩ := he
 refine ⟨⟨some ⟨b, if cap = k then o else o + k, none⟩, cap - k, by simp, by simp; omega, by omega⟩, fun ao' len' cap' hv hp => ?_, fun x hx => h.range x (List.mem_of_mem_drop hx), fun len' cap' hv => by simp at hv⟩
 rw [List.length_drop] at hp
 simp only [Value.slice.injEq] at hv
 obtain ⟨rfl, -, -⟩ := hv
 obtain ⟨b', off, e2, hb, hc⟩ := h.cells _ _ _ rfl (by omega)
 simp only [Option.some.injEq, Addr.mk.injEq, and_true] at e2
 obtain ⟨rfl, rfl⟩ := e2
 refine ⟨b, _, rfl, hb, fun i hi => ?_⟩
 rw [List.length_drop] at hi
 rw [if_neg (by omega)]
 have := hc (k + i) (by omega)
 rw [show o + k + i = o + (k + i) by omega, this]
 simp [List.getD, List.getElem?_drop]
theorem Ints.cellA {ao : Option Addr} {n cap : Nat} {xs : List Int} (h : Ints w (.slice ao n cap) xs) {i : Nat} (hi : i < xs.length) : ∃ b off, ao = some ⟨b, off, none⟩ ∧ w.cell? ⟨b, off + i, none⟩ = some (.int .i64 (xs.getD i 0)) := by
 obtain ⟨b, off, e, _, hc⟩ := h.cells _ _ _ rfl (by omega)
 exact ⟨b, off, e, hc i hi⟩
theorem lit2 (w : World) (x y : Int) (hx : InI64 x) (hy : InI64 y) : Ints (w.alloc (.cells #[.int .i64 x, .int .i64 y] 3)) (.slice (some ⟨w.heap.size, 0, none⟩) 2 2) [x, y] := by
 refine Ints.of_own ?_ fun z hz => ?_
 ·have := World.ownsRow_lit (base := 0) (e := 3) (size := 1) w #[.int .i64 x, .int .i64 y] 2 (Nat.zero_le _) (by unfold maxLen; omega) (by simp)
  simpa using this
 ·simp at hz
  rcases hz with rfl | rfl
  ·exact hx
  ·exact hy
variable {g : Tag} {b : Nat} {V : BldV} {B : Bld}
theorem BldTo.after {w1 w2 : World} (o1 : Only (fun _ => False) w w1) {B2 : Bld} (h : BldTo w1 g b B2 w2) : BldTo w g b B2 w2 :=
 BldTo.trans (Agree.refl _ _) (o1.mono fun _ f => f.elim) h
set_option maxRecDepth 100000 in
set_option maxHeartbeats 2000000 in
theorem Most_any (H : BldAt w g b V B) {v : Value} {xs : List Int} (hI : Ints w v xs) (hN : NotMine g v xs) (hs : ∀ z ∈ xs, -1000000 ≤ z ∧ z ≤ 1000000) (hl : xs.length ≤ 1000000) :
  Calls Try.prog 41 #[.pointer (some ⟨b, 0, none⟩), v] w fun e w' => e = .returned (.tuple #[]) ∧ BldTo w g b (B.adds (mostC xs)) w' := by
 obtain ⟨ao, cap, rfl, hc1, hc2⟩ := hI.shape
 obtain ⟨n, hn⟩ : ∃ n, xs.length = n := ⟨_, rfl⟩
 have HN := Lib.hid hn
 rw [hn] at hc1 hl hI hN ⊢
 have HI := Lib.hid hI
 have HNm := Lib.hid hN
 have HS := Lib.hid hs
 have H0 := Lib.hid (BldTo.refl H)
 clear hI hN hs hn H
 go_enter Try.func41, Try.ntmps41
 go_wp2_with fail
 go_loopw [10] (fun vi wr => ∃ i : Nat, vi = .int .i64 i ∧ i ≤ n ∧ Hid (BldTo w g b (B.adds (mostTo xs i)) wr)) (fun v _ => n - (RowKit.intOf v).toNat)
 case atStart => exact ⟨0, rfl, Nat.zero_le _, H0⟩
 case round =>
  obtain ⟨i, rfl, hi, HR⟩ := hrel
  by_cases ci : i < n
  ·obtain ⟨g1, V1, H1, A1, O1⟩ := HR.out
   have hI1 := HI.out.mine HNm.out O1
   have hi2 : i < xs.length := by rw [HN.out]; exact ci
   obtain ⟨bb, off, rfl, hcell⟩ := hI1.cellA hi2
   obtain ⟨x, hx⟩ : ∃ x, xs.getD i 0 = x := ⟨_, rfl⟩
   have hxb := HS.out x (by rw [← hx]; exact getD_mem' 0 hi2)
   rw [hx] at hcell
   have ewi : IntKind.i64.wrap ((i : Int) + 1) = (i : Int) + 1 := by rw [IntKind.wrap_i64]; omega
   have ewx : IntKind.i64.wrap (-x) = -x := by rw [IntKind.wrap_i64]; omega
   have hsl := fun W => run_slice_ints bb off n (i + 1) cap (by omega) hc1 W ((i : Int) + 1) (by omega)
   obtain ⟨o', ho'⟩ : ∃ o', o' = if cap = i + 1 then off else off + (i + 1) := ⟨_, rfl⟩
   obtain ⟨m, hm⟩ : ∃ m, n - (i + 1) = m := ⟨_, rfl⟩
   obtain ⟨c2, hc2'⟩ : ∃ c2, cap - (i + 1) = c2 := ⟨_, rfl⟩
   have HD : Hid (∀ W, Only (Mine g) w W → Ints W (.slice (some ⟨bb, o', none⟩) m c2) (xs.drop (i + 1))) := fun W hW => by
    have := (HI.out.mine HNm.out hW).dropO (k := i + 1) (by omega)
    rw [← ho', hm, hc2'] at this; exact this
   rw [← ho', hm, hc2'] at hsl
   have HX := Lib.hid hx
   have hmn : m ≤ n := by omega
   have Hm := Lib.hid hm
   have HEx := Lib.hid ewx
   clear hI1 ho' hm hc2' hx ewx H1 A1 O1
   go_wp2_with fail
   generalize wr = wo at *
   have HR0 : Hid (BldTo w g b ((B.adds (mostTo xs i)).adds ((pairsAt xs i).take 0)) wo) := by simpa [Bld.adds, Hid] using HR.out
   go_loopw [20] (fun vk wr => ∃ k : Nat, vk = .int .i64 k ∧ k ≤ m ∧ Hid (BldTo w g b ((B.adds (mostTo xs i)).adds ((pairsAt xs i).take k)) wr)) (fun v _ => m - (RowKit.intOf v).toNat)
   case atStart => exact ⟨0, rfl, Nat.zero_le _, HR0⟩
   case round =>
    clear HR HR0 hcell
    obtain ⟨k, rfl, hk, HR⟩ := hrel
    have hdl : (xs.drop (i + 1)).length = m := by rw [List.length_drop, HN.out, Hm.out]
    by_cases ck : k < m
    ·obtain ⟨g1, V1, H1, A1, O1⟩ := HR.out
     obtain ⟨b2, off2, e2, hcell⟩ := (HD.out wr O1).cellA (i := k) (by rw [hdl]; exact ck)
     simp only [Option.some.injEq, Addr.mk.injEq, and_true] at e2
     obtain ⟨rfl, rfl⟩ := e2
     obtain ⟨y, hy⟩ : ∃ y, (xs.drop (i + 1)).getD k 0 = y := ⟨_, rfl⟩
     have hyb := HS.out y (by rw [← hy]; exact List.mem_of_mem_drop (getD_mem' 0 (by rw [hdl]; exact ck)))
     rw [hy] at hcell
     have hpk : (pairsAt xs i).take (k + 1) = (pairsAt xs i).take k ++ [[-x, -y]] := by
      have hlt : k < (xs.drop (i + 1)).length := by rw [hdl]; exact ck
      unfold pairsAt
      have hk2 : (xs.drop (i + 1))[k]'hlt = y := by rw [← hy, List.getD_eq_getElem?_getD, List.getElem?_eq_getElem hlt]; rfl
      rw [List.take_succ_eq_append_getElem (by simpa using hlt), List.getElem_map, hk2]
      simp only [HX.out]
     have hAdd := Add_any (H1.only0 ((Only.refl (fun _ => False) wr).alloc (.cells #[.int .i64 (-x), .int .i64 (-y)] 3))) (lit2 wr (-x) (-y) ⟨by omega, by omega⟩ ⟨by omega, by omega⟩) (by simp)
     have hfin : ∀ w', BldTo (wr.alloc (.cells #[.int .i64 (-x), .int .i64 (-y)] 3)) g1 b (((B.adds (mostTo xs i)).adds ((pairsAt xs i).take k)).add [-x, -y]) w' → BldTo w g b ((B.adds (mostTo xs i)).adds ((pairsAt xs i).take (k + 1))) w' := fun w' h => by
      rw [hpk, Bld.adds_app, Bld.adds_one]
      exact BldTo.trans A1 O1 (BldTo.after ((Only.refl _ wr).alloc _) h)
     have ewk : IntKind.i64.wrap ((k : Int) + 1) = (k : Int) + 1 := by rw [IntKind.wrap_i64]; omega
     have ewx := HEx.out
     have ewy : IntKind.i64.wrap (-y) = -y := by rw [IntKind.wrap_i64]; omega
     have HAdd := Lib.hid hAdd
     have HFin := Lib.hid hfin
     have HEk := Lib.hid ewk
     clear hpk hAdd hfin hy H1 A1 O1 ewk hdl
     go_wp2_with fail
     refine HAdd.out.mono ?_
     rintro e w2 ⟨rfl, h2⟩
     have HF := Lib.hid (HFin.out w2 h2)
     have ewk := HEk.out
     clear h2 ewx ewy
     go_wp2_with fail
     go_roundw
     case rel => exact ⟨k + 1, by first | rfl | go_num, by omega, HF⟩
     case measure => simp [RowKit.intOf] <;> omega
    ·obtain rfl : m = k := by omega
     have HR2 : Hid (BldTo w g b (B.adds (mostTo xs (i + 1))) wr) := by
      have := HR.out
      rw [List.take_of_length_le (by unfold pairsAt; rw [List.length_map, hdl]; exact Nat.le_refl _)] at this
      rw [mostTo_succ, Bld.adds_app]; exact this
     clear HR
     go_wp2_with fail
     go_roundw
     case rel => exact ⟨i + 1, by first | rfl | go_num, by omega, HR2⟩
     case measure => simp [RowKit.intOf] <;> omega
  ·obtain rfl : n = i := by omega
   go_wp2_with fail
   go_end0
   refine ⟨rfl, ?_⟩
   have := HR.out
   unfold mostC
   rw [HN.out]; exact this
end
end Go.Proofs.Ytbapkcnfacklaaa
