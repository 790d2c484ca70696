/- The guards Great of a recipe and of a request: walks. Printed by gen_nd4.py. -/
import Derived.Test.YtbapkcnfacklaaaGreatNd3
set_option linter.unusedVariables false
namespace Go.Proofs.YtbapkcnfacklaaaGreat
open Go.RowKit Go.Shelf
theorem rangeAt_left2 {w : World} {b o : Nat} {c1 c2 : List Value} (h : w.rangeAt b o (c1 ++ c2)) : w.rangeAt b o c1 := fun j u hu => h j u (by
 have hj := (List.getElem?_eq_some_iff.1 hu).1
 rw [List.getElem?_append_left hj]; exact hu)
structure SmallRec (x : RecD) : Prop where
 packs : x.packs.length ≤ 30
 prefs : x.prefs.length ≤ 20
 all : ∀ p ∈ x.packs, SmallPack p
section
variable {w w' : World} {B : Nat}
set_option maxRecDepth 100000 in
set_option maxHeartbeats 2000000 in
theorem Great7_any {cs : List Value} {x : RecD} (h : RecC B w cs x) :
  Calls Tryz.prog 29 #[.agg cs.toArray] w fun e w' => BoolEnd w w' e (SmallRec x) := by
 obtain ⟨v1, v2, rfl, h1, h2⟩ := h
 obtain ⟨o1, c1, rfl, g1, g1'⟩ := h1.shape
 obtain ⟨o2, c2, rfl, g2, g2'⟩ := h2.shape
 obtain ⟨n1, hn1⟩ : ∃ n, x.packs.length = n := ⟨_, rfl⟩
 obtain ⟨n2, hn2⟩ : ∃ n, x.prefs.length = n := ⟨_, rfl⟩
 rw [hn1] at h1 g1
 rw [hn2] at h2 g2
 have R1 := Lib.hid h1
 have R2 := Lib.hid h2
 have N1 := Lib.hid hn1
 have N2 := Lib.hid hn2
 rw [hn1, hn2]
 have HBox : Hid (∀ W, Only (fun _ => False) (w.alloc (.cells #[.slice o1 n1 c1, .slice o2 n2 c2] 25)) W → W.cell? ⟨w.heap.size, 0, none⟩ = some (.slice o1 n1 c1) ∧ W.cell? ⟨w.heap.size, 1, none⟩ = some (.slice o2 n2 c2)) := fun W ho => by
  have hb := ho.block w.heap.size (by simp) (fun f => f)
  refine ⟨?_, ?_⟩
  all_goals (rw [World.cell?_of_block (w := (w.alloc (.cells #[.slice o1 n1 c1, .slice o2 n2 c2] 25))) hb]; simp)
 clear h1 h2 hn1 hn2
 go_enter Tryz.func29, Tryz.ntmps29
 have HOB : Only (fun _ => False) w (w.alloc (.cells #[.slice o1 n1 c1, .slice o2 n2 c2] 25)) := (Only.refl _ _).alloc _
 have HO0 : Hid (Only (fun _ => False) (w.alloc (.cells #[.slice o1 n1 c1, .slice o2 n2 c2] 25)) (w.alloc (.cells #[.slice o1 n1 c1, .slice o2 n2 c2] 25))) := Only.refl _ _
 by_cases q0 : 30 < n1
 ·go_wp2_with fail
  go_ret
  exact BoolEnd.mk true rfl nofun (HOB)
 by_cases q1 : 20 < n2
 ·go_wp2_with fail
  go_ret
  exact BoolEnd.mk true rfl nofun (HOB)
 go_wp2_with fail
 go_loopw [18] (fun vi wr => Hid (Only (fun _ => False) (w.alloc (.cells #[.slice o1 n1 c1, .slice o2 n2 c2] 25)) wr) ∧ ∃ i : Nat, vi = .int .i64 i ∧ i ≤ n1 ∧ Hid (∀ p ∈ x.packs.take i, SmallPack p)) (fun v _ => n1 - (intOf v).toNat)
 case atStart => exact ⟨show Hid _ from HO0.out, 0, rfl, Nat.zero_le _, show Hid _ from fun z hz => by simp at hz⟩
 case round =>
  obtain ⟨HO, i, rfl, hi, HI⟩ := hrel
  obtain ⟨k0, k1⟩ := HBox.out wr HO.out
  by_cases ci : i < n1
  ·have h2 := R1.out
   try rw [N1.out] at h2
   obtain ⟨b, off, he, -, -⟩ := h2.at (by have := N1.out; omega)
   subst he
   obtain ⟨y, hx⟩ : ∃ y, x.packs[i]? = some y := ⟨_, List.getElem?_eq_getElem (by rw [N1.out]; exact ci)⟩
   obtain ⟨cs, hl, hr, hC⟩ := (h2.keep PackC.keep (Kp.of0 (HOB.trans HO.out fun _ f => .inl f))).get hx
   have ewi : IntKind.i64.wrap ((i : Int) + 1) = (i : Int) + 1 := by rw [IntKind.wrap_i64]; omega
   have HX := Lib.hid hx
   have HC := Lib.hid hC
   obtain ⟨p1, p2, p3, p4, p5, p6, d1, d2, d3, d4, d5, d6, rfl, -⟩ := hC.cells
   have HR := Lib.hid hr
   clear hx h2 hl hr hC
   go_wp2_with (refine wpList_load_mid rfl 43 (.tmp 24) rfl b (off + i * 8) rfl _ _ HR.out Tryz.underlying43 rfl (by kernel_rfl) ?_)
   refine (greatPackage_any HC.out).mono ?_
   rintro e w1 ⟨bb, rfl, hb, O1⟩
   have HO1 := Lib.hid (HO.out.same O1)
   have HB := Lib.hid hb
   clear O1 hb
   cases bb with
   | false =>
    go_wp2_with fail
    go_roundw
    case rel => exact ⟨HO1, i + 1, by first | rfl | go_num, by omega, show Hid _ from fun z hz => by
      rcases mem_take_snoc HX.out hz with h | rfl
      ·exact HI.out z h
      ·first | exact HB.out | exact HB.out trivial | exact HB.out rfl⟩
    case measure => simp [intOf] <;> omega
   | true =>
    go_wp2_with fail
    go_ret
    exact BoolEnd.mk true rfl nofun (HOB.same HO1.out)
  ·obtain rfl : n1 = i := by omega
   clear hi ci
   have HO0 := HO
   have HS : Hid (∀ p ∈ x.packs, SmallPack p) := by
    have := HI.out
    rw [List.take_of_length_le (Nat.le_of_eq N1.out)] at this
    exact this
   clear HI
   go_wp2_with fail
   go_loopw [31] (fun vi wr => Hid (Only (fun _ => False) (w.alloc (.cells #[.slice o1 n1 c1, .slice o2 n2 c2] 25)) wr) ∧ ∃ i : Nat, vi = .int .i64 i ∧ i ≤ n2) (fun v _ => n2 - (intOf v).toNat)
   case atStart => exact ⟨show Hid _ from HO0.out, 0, rfl, Nat.zero_le _⟩
   case round =>
    obtain ⟨HO, i, rfl, hi⟩ := hrel
    obtain ⟨k0, k1⟩ := HBox.out wr HO.out
    by_cases ci : i < n2
    ·have h2 := R2.out
     try rw [N2.out] at h2
     obtain ⟨b, off, he, -, -⟩ := h2.at (by have := N2.out; omega)
     subst he
     obtain ⟨y, hx⟩ : ∃ y, x.prefs[i]? = some y := ⟨_, List.getElem?_eq_getElem (by rw [N2.out]; exact ci)⟩
     obtain ⟨cs, hl, hr, hC⟩ := (h2.keep PrefC.keep (Kp.of0 (HOB.trans HO.out fun _ f => .inl f))).get hx
     have ewi : IntKind.i64.wrap ((i : Int) + 1) = (i : Int) + 1 := by rw [IntKind.wrap_i64]; omega
     obtain ⟨v1, rfl, -, -, hv⟩ := hC
     obtain ⟨p1, d1, rfl, -, -⟩ := hv.shape
     have hc0 := hr 0 _ rfl
     try simp only [Nat.add_zero] at hc0
     have hc1 := hr 1 _ rfl
     try simp only [Nat.add_zero] at hc1
     have HV := Lib.hid hv
     clear hx h2 hl hr hv
     by_cases q : 100 < y.virtual.size
     ·go_wp2_with fail
      go_ret
      exact BoolEnd.mk true rfl nofun (HOB.same HO.out)
     go_wp2_with fail
     refine (greatTexts_any HV.out).mono ?_
     rintro e w1 ⟨bb, rfl, hb, O1⟩
     have HO1 := Lib.hid (HO.out.same O1)
     clear O1
     cases bb with
     | false =>
      go_wp2_with fail
      go_roundw
      case rel => exact ⟨HO1, i + 1, by first | rfl | go_num, by omega⟩
      case measure => simp [intOf] <;> omega
     | true =>
      go_wp2_with fail
      go_ret
      exact BoolEnd.mk true rfl nofun (HOB.same HO1.out)
    ·obtain rfl : n2 = i := by omega
     clear hi ci
     go_wp2_with fail
     go_ret
     exact BoolEnd.mk false rfl (fun _ => ⟨by have := N1.out; omega, by have := N2.out; omega, HS.out⟩) (HOB.same HO.out)
set_option maxRecDepth 100000 in
set_option maxHeartbeats 2000000 in
theorem Great8_any {cs : List Value} {x : ReqD} (h : ReqC B w cs x) :
  Calls Tryz.prog 30 #[.agg cs.toArray] w fun e w' => BoolEnd w w' e (x.roots.length ≤ 40) := by
 obtain ⟨v1, rfl, h1⟩ := h
 obtain ⟨o1, c1, rfl, g1, g1'⟩ := h1.shape
 obtain ⟨n1, hn1⟩ : ∃ n, x.roots.length = n := ⟨_, rfl⟩
 rw [hn1] at h1 g1
 have R1 := Lib.hid h1
 have N1 := Lib.hid hn1
 rw [hn1]
 have HBox : Hid (∀ W, Only (fun _ => False) (w.alloc (.cells #[.slice o1 n1 c1] 28)) W → W.cell? ⟨w.heap.size, 0, none⟩ = some (.slice o1 n1 c1)) := fun W ho => by
  have hb := ho.block w.heap.size (by simp) (fun f => f)
  refine ?_
  all_goals (rw [World.cell?_of_block (w := (w.alloc (.cells #[.slice o1 n1 c1] 28))) hb]; simp)
 clear h1 hn1
 go_enter Tryz.func30, Tryz.ntmps30
 have HOB : Only (fun _ => False) w (w.alloc (.cells #[.slice o1 n1 c1] 28)) := (Only.refl _ _).alloc _
 have HO0 : Hid (Only (fun _ => False) (w.alloc (.cells #[.slice o1 n1 c1] 28)) (w.alloc (.cells #[.slice o1 n1 c1] 28))) := Only.refl _ _
 by_cases q0 : 40 < n1
 ·go_wp2_with fail
  go_ret
  exact BoolEnd.mk true rfl nofun (HOB)
 go_wp2_with fail
 go_loopw [11] (fun vi wr => Hid (Only (fun _ => False) (w.alloc (.cells #[.slice o1 n1 c1] 28)) wr) ∧ ∃ i : Nat, vi = .int .i64 i ∧ i ≤ n1) (fun v _ => n1 - (intOf v).toNat)
 case atStart => exact ⟨show Hid _ from HO0.out, 0, rfl, Nat.zero_le _⟩
 case round =>
  obtain ⟨HO, i, rfl, hi⟩ := hrel
  have k0 := HBox.out wr HO.out
  by_cases ci : i < n1
  ·have h2 := R1.out
   try rw [N1.out] at h2
   obtain ⟨b, off, he, -, -⟩ := h2.at (by have := N1.out; omega)
   subst he
   obtain ⟨y, hx⟩ : ∃ y, x.roots[i]? = some y := ⟨_, List.getElem?_eq_getElem (by rw [N1.out]; exact ci)⟩
   obtain ⟨cs, hl, hr, hC⟩ := (h2.keep RootC.keep (Kp.of0 (HOB.trans HO.out fun _ f => .inl f))).get hx
   have ewi : IntKind.i64.wrap ((i : Int) + 1) = (i : Int) + 1 := by rw [IntKind.wrap_i64]; omega
   obtain ⟨s1, rfl, hS1, -⟩ := hC
   have HS1 := Lib.hid hS1
   have HR1 := Lib.hid (rangeAt_left2 hr)
   obtain ⟨p1, p2, d1, d2, rfl, -, -, -⟩ := hS1.cells
   clear hx h2 hl hr hS1
   have e0 := HR1.out 0 _ rfl
   have e1 := HR1.out 1 _ rfl
   have e2 := HR1.out 2 _ rfl
   simp only [Nat.add_zero] at e0
   go_wp2_with fail
   refine (GreatSpec_any HS1.out).mono ?_
   rintro e w1 ⟨bb, rfl, hb, O1⟩
   have HO1 := Lib.hid (HO.out.same O1)
   clear O1
   cases bb with
   | false =>
    go_wp2_with fail
    go_roundw
    case rel => exact ⟨HO1, i + 1, by first | rfl | go_num, by omega⟩
    case measure => simp [intOf] <;> omega
   | true =>
    go_wp2_with fail
    go_ret
    exact BoolEnd.mk true rfl nofun (HOB.same HO1.out)
  ·obtain rfl : n1 = i := by omega
   clear hi ci
   go_wp2_with fail
   go_ret
   exact BoolEnd.mk false rfl (fun _ => by have := N1.out; omega) (HOB.same HO.out)
end
end Go.Proofs.YtbapkcnfacklaaaGreat
