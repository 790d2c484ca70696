/- Nd3 Nd4, in one text. -/
import Derived.Test.YtmlfchjompfmaaaGreatDoorNd2
set_option linter.unusedVariables false
namespace Go.Proofs.YtmlfchjompfmaaaGreatDoor
open Go.RowKit Go.Shelf
theorem rangeAt_left {w : World} {b o : Nat} {c1 c2 c3 : List Value} (h : w.rangeAt b o (c1 ++ c2 ++ c3)) : w.rangeAt b o c1 := fun j u hu => h j u (by
 have hj := (List.getElem?_eq_some_iff.1 hu).1
 rw [List.append_assoc, List.getElem?_append_left hj]; exact hu)
theorem rangeAt_left' {w : World} {b o : Nat} {c1 c2 c3 : List Value} (h : w.rangeAt b o (c1 ++ c2 ++ c3)) : w.rangeAt b o (c1 ++ c2) := fun j u hu => h j u (by
 have hj := (List.getElem?_eq_some_iff.1 hu).1
 rw [List.getElem?_append_left hj]; exact hu)
theorem rangeAt_right {w : World} {b o : Nat} {c1 c2 : List Value} (h : w.rangeAt b o (c1 ++ c2)) : w.rangeAt b (o + c1.length) c2 := fun j u hu => by
 have := h (c1.length + j) u (by rw [List.getElem?_append_right (by omega)]; simpa using hu)
 rwa [← Nat.add_assoc] at this
theorem rangeAt_keep0 {w w' : World} {b o : Nat} {cs : List Value} (h : w.rangeAt b o cs) (k : Only (fun _ => False) w w') : w'.rangeAt b o cs := by
 intro j u hu
 have hb := World.block_lt_of_cell? _ _ (h j u hu)
 rw [World.cell?_of_block (w := w) (k.block b hb (fun f => f))]
 exact h j u hu
structure SmallPack (x : PackD) : Prop where
 rels : x.rels.length ≤ 30
 vars : x.vars.length ≤ 20
 deps : x.deps.length ≤ 40
 cons : x.cons.length ≤ 40
 provs : x.provides.length ≤ 50
section
variable {w w' : World} {B : Nat}
def BoolEnd (w w' : World) (e : Ending) (p : Prop) : Prop := ∃ b, e = .returned (.bool b) ∧ (b = false → p) ∧ Only (fun _ => False) w w'
theorem BoolEnd.mk {w w' : World} {e : Ending} {p : Prop} (b : Bool) (he : e = .returned (.bool b)) (h : b = false → p) (o : Only (fun _ => False) w w') : BoolEnd w w' e p := ⟨b, he, h, o⟩
set_option maxRecDepth 100000 in
theorem greatTexts_any {v : Value} {zs : List Str} (h : RowT 1 StrC B w v zs) :
  Calls Tryz.prog 15 #[v] w fun e w' => BoolEnd w w' e (zs.length ≤ 50) := by
 obtain ⟨ao, cap, rfl, hc1, hc2⟩ := h.shape
 have HH := Lib.hid h
 obtain ⟨n, hn⟩ : ∃ n, zs.length = n := ⟨_, rfl⟩
 have HN := Lib.hid hn
 rw [hn] at hc1 ⊢
 clear h hn
 go_enter Tryz.func15, Tryz.ntmps15
 by_cases h50 : 50 < n
 ·go_wp2_with fail
  go_ret
  exact BoolEnd.mk true rfl nofun (Only.refl _ _)
 ·go_wp2_with fail
  go_loopw [9] (fun vi wr => Hid (Only (fun _ => False) w wr) ∧ ∃ i : Nat, vi = .int .i64 i ∧ i ≤ n) (fun v _ => n - (intOf v).toNat)
  case atStart => exact ⟨show Hid _ from Only.refl _ _, 0, rfl, Nat.zero_le _⟩
  case round =>
   obtain ⟨HO, i, rfl, hi⟩ := hrel
   by_cases ci : i < n
   ·have h2 := HH.out
    rw [HN.out] at h2
    obtain ⟨b, off, he, -, -⟩ := h2.at (by rw [HN.out]; omega)
    subst he
    obtain ⟨s, hx⟩ : ∃ s, zs[i]? = some s := ⟨_, List.getElem?_eq_getElem (by rw [HN.out]; exact ci)⟩
    obtain ⟨cs, hl, hr, rfl, hs⟩ := (h2.keep StrC.keep (Kp.of0 HO.out)).get hx
    have hcell := hr 0 _ rfl
    simp only [Nat.mul_one, Nat.add_zero] at hcell
    have ewi : IntKind.i64.wrap ((i : Int) + 1) = (i : Int) + 1 := by rw [IntKind.wrap_i64]; omega
    clear hx h2 hl hr
    by_cases hs : 100 < s.size
    ·go_wp2_with fail
     go_ret
     exact BoolEnd.mk true rfl nofun HO.out
    ·go_wp2_with fail
     go_roundw
     case rel => exact ⟨HO, i + 1, by first | rfl | go_num, by omega⟩
     case measure => simp [intOf] <;> omega
   ·have : i = n := by omega
    subst this
    go_wp2_with fail
    go_ret
    exact BoolEnd.mk false rfl (fun _ => by omega) HO.out
--GEN: printed by gen_nd3.py
set_option maxRecDepth 100000 in
set_option maxHeartbeats 2000000 in
theorem great3_any {v : Value} {zs : List SpanD} (h : RowT 2 SpanC B w v zs) :
  Calls Tryz.prog 43 #[v] w fun e w' => BoolEnd w w' e (zs.length ≤ 30) := by
 obtain ⟨ao, cap, rfl, hc1, hc2⟩ := h.shape
 have HH := Lib.hid h
 obtain ⟨n, hn⟩ : ∃ n, zs.length = n := ⟨_, rfl⟩
 have HN := Lib.hid hn
 rw [hn] at hc1 ⊢
 clear h hn
 go_enter Tryz.func43, Tryz.ntmps43
 by_cases q0 : 30 < n
 ·go_wp2_with fail
  go_ret
  exact BoolEnd.mk true rfl nofun (Only.refl _ _)
 have HO0 : Hid (Only (fun _ => False) w w) := Only.refl _ _
 have HOB : Only (fun _ => False) w w := Only.refl _ _
 go_wp2_with fail
 go_loopw [9] (fun vi wr => Hid (Only (fun _ => False) w wr) ∧ ∃ i : Nat, vi = .int .i64 i ∧ i ≤ n) (fun v _ => n - (intOf v).toNat)
 case atStart => exact ⟨show Hid _ from HO0.out, 0, rfl, Nat.zero_le _⟩
 case round =>
  obtain ⟨HO, i, rfl, hi⟩ := hrel
  by_cases ci : i < n
  ·have h2 := HH.out
   try rw [HN.out] at h2
   obtain ⟨b, off, he, -, -⟩ := h2.at (by have := HN.out; omega)
   subst he
   obtain ⟨y, hx⟩ : ∃ y, zs[i]? = some y := ⟨_, List.getElem?_eq_getElem (by rw [HN.out]; exact ci)⟩
   obtain ⟨cs, hl, hr, hC⟩ := (h2.keep SpanC.keep (Kp.of0 (HOB.trans HO.out fun _ f => .inl f))).get hx
   have ewi : IntKind.i64.wrap ((i : Int) + 1) = (i : Int) + 1 := by rw [IntKind.wrap_i64]; omega
   obtain ⟨rfl, -, -⟩ := hC
   have hc0 := hr 0 _ rfl
   try simp only [Nat.add_zero] at hc0
   have hc1 := hr 1 _ rfl
   try simp only [Nat.add_zero] at hc1
   clear hx h2 hl hr
   by_cases q0 : 100 < y.lo.size
   ·go_wp2_with fail
    go_ret
    exact BoolEnd.mk true rfl nofun ((HOB.trans HO.out fun _ f => .inl f))
   by_cases q1 : 100 < y.hi.size
   ·go_wp2_with fail
    go_ret
    exact BoolEnd.mk true rfl nofun ((HOB.trans HO.out fun _ f => .inl f))
   go_wp2_with fail
   go_roundw
   case rel => exact ⟨HO, i + 1, by first | rfl | go_num, by omega⟩
   case measure => simp [intOf] <;> omega
  ·obtain rfl : n = i := by omega
   clear hi ci
   go_wp2_with fail
   go_ret
   exact BoolEnd.mk false rfl (fun _ => by have := HN.out; omega) HO.out
set_option maxRecDepth 100000 in
set_option maxHeartbeats 2000000 in
theorem greatSpec_any {cs : List Value} {x : SpecD} (h : SpecC B w cs x) :
  Calls Tryz.prog 26 #[.agg cs.toArray] w fun e w' => BoolEnd w w' e (True) := by
 obtain ⟨o1, o2, c1, c2, rfl, hsz, h1, h2⟩ := h.cells
 obtain ⟨m1, hm1⟩ : ∃ n, x.spans.length = n := ⟨_, rfl⟩
 obtain ⟨n, hn⟩ : ∃ n, x.sets.length = n := ⟨_, rfl⟩
 obtain ⟨_, _, -, g1, g2⟩ := h1.shape
 obtain ⟨_, _, e2, g3, g4⟩ := h2.shape
 simp only [Value.slice.injEq] at e2
 obtain ⟨-, -, rfl⟩ := e2
 rw [hm1] at h1
 rw [hn] at h2 g3
 have H1 := Lib.hid h1
 have H2 := Lib.hid h2
 have HN := Lib.hid hn
 rw [hm1, hn]
 have HBox : Hid (∀ W, Only (fun _ => False) (w.alloc (.cells #[.string x.name, .slice o1 m1 c1, .slice o2 n c2] 48)) W → W.cell? ⟨w.heap.size, 0, none⟩ = some (.string x.name) ∧ W.cell? ⟨w.heap.size, 1, none⟩ = some (.slice o1 m1 c1) ∧ W.cell? ⟨w.heap.size, 2, none⟩ = some (.slice o2 n c2)) := fun W ho => by
  have hb := ho.block w.heap.size (by simp) (fun f => f)
  refine ⟨?_, ?_, ?_⟩
  all_goals (rw [World.cell?_of_block (w := (w.alloc (.cells #[.string x.name, .slice o1 m1 c1, .slice o2 n c2] 48))) hb]; simp)
 clear h h1 h2 hn hm1 g1 g2
 go_enter Tryz.func26, Tryz.ntmps26
 have HOB : Only (fun _ => False) w (w.alloc (.cells #[.string x.name, .slice o1 m1 c1, .slice o2 n c2] 48)) := (Only.refl _ _).alloc _
 by_cases q0 : 100 < x.name.size
 ·go_wp2_with fail
  go_ret
  exact BoolEnd.mk true rfl nofun (HOB)
 by_cases q1 : 20 < n
 ·go_wp2_with fail
  go_ret
  exact BoolEnd.mk true rfl nofun (HOB)
 go_wp2_with fail
 refine (great3_any (H1.out.keep SpanC.keep (Kp.of0 HOB))).mono ?_
 rintro e w1 ⟨bb, rfl, hb, O1⟩
 have HO1 := Lib.hid ((Only.refl (fun _ => False) (w.alloc (.cells #[.string x.name, .slice o1 m1 c1, .slice o2 n c2] 48))).same O1)
 clear O1
 cases bb with
 | false =>
  obtain ⟨k0, k1, k2⟩ := HBox.out w1 HO1.out
  have HO0 := HO1
  go_wp2_with fail
  go_loopw [22] (fun vi wr => Hid (Only (fun _ => False) (w.alloc (.cells #[.string x.name, .slice o1 m1 c1, .slice o2 n c2] 48)) wr) ∧ ∃ i : Nat, vi = .int .i64 i ∧ i ≤ n) (fun v _ => n - (intOf v).toNat)
  case atStart => exact ⟨show Hid _ from HO0.out, 0, rfl, Nat.zero_le _⟩
  case round =>
   obtain ⟨HO, i, rfl, hi⟩ := hrel
   obtain ⟨k0, k1, k2⟩ := HBox.out wr HO.out
   by_cases ci : i < n
   ·have h2 := H2.out
    try rw [HN.out] at h2
    obtain ⟨b, off, he, -, -⟩ := h2.at (by have := HN.out; omega)
    subst he
    obtain ⟨y, hx⟩ : ∃ y, x.sets[i]? = some y := ⟨_, List.getElem?_eq_getElem (by rw [HN.out]; exact ci)⟩
    obtain ⟨cs, hl, hr, hC⟩ := (h2.keep SetC.keep (Kp.of0 (HOB.trans HO.out fun _ f => .inl f))).get hx
    have ewi : IntKind.i64.wrap ((i : Int) + 1) = (i : Int) + 1 := by rw [IntKind.wrap_i64]; omega
    obtain ⟨rfl, -, -⟩ := hC
    have hc0 := hr 0 _ rfl
    try simp only [Nat.add_zero] at hc0
    have hc1 := hr 1 _ rfl
    try simp only [Nat.add_zero] at hc1
    clear hx h2 hl hr
    by_cases q0 : 100 < y.name.size
    ·go_wp2_with fail
     go_ret
     exact BoolEnd.mk true rfl nofun ((HOB.trans HO.out fun _ f => .inl f))
    by_cases q1 : 100 < y.value.size
    ·go_wp2_with fail
     go_ret
     exact BoolEnd.mk true rfl nofun ((HOB.trans HO.out fun _ f => .inl f))
    go_wp2_with fail
    go_roundw
    case rel => exact ⟨HO, i + 1, by first | rfl | go_num, by omega⟩
    case measure => simp [intOf] <;> omega
   ·obtain rfl : n = i := by omega
    clear hi ci
    go_wp2_with fail
    go_ret
    exact BoolEnd.mk false rfl (fun _ => trivial) (HOB.same HO.out)
 | true =>
  go_wp2_with fail
  go_ret
  exact BoolEnd.mk true rfl nofun (HOB.same HO1.out)
set_option maxRecDepth 100000 in
set_option maxHeartbeats 2000000 in
theorem greatPackage_any {cs : List Value} {x : PackD} (h : PackC B w cs x) :
  Calls Tryz.prog 14 #[.agg cs.toArray] w fun e w' => BoolEnd w w' e (SmallPack x) := by
 obtain ⟨o1, o2, o3, o4, o5, o6, c1, c2, c3, c4, c5, c6, rfl, -, -, h1, h2, h3, h4, h5, h6⟩ := h.cells
 obtain ⟨n1, hn1⟩ : ∃ n, x.rels.length = n := ⟨_, rfl⟩
 obtain ⟨n2, hn2⟩ : ∃ n, x.vars.length = n := ⟨_, rfl⟩
 obtain ⟨n3, hn3⟩ : ∃ n, x.provides.length = n := ⟨_, rfl⟩
 obtain ⟨n4, hn4⟩ : ∃ n, x.deps.length = n := ⟨_, rfl⟩
 obtain ⟨n5, hn5⟩ : ∃ n, x.cons.length = n := ⟨_, rfl⟩
 obtain ⟨n6, hn6⟩ : ∃ n, x.files.length = n := ⟨_, rfl⟩
 obtain ⟨_, _, e1, g1, g1'⟩ := h1.shape
 simp only [Value.slice.injEq] at e1
 obtain ⟨-, -, rfl⟩ := e1
 obtain ⟨_, _, e2, g2, g2'⟩ := h2.shape
 simp only [Value.slice.injEq] at e2
 obtain ⟨-, -, rfl⟩ := e2
 obtain ⟨_, _, e3, g3, g3'⟩ := h3.shape
 simp only [Value.slice.injEq] at e3
 obtain ⟨-, -, rfl⟩ := e3
 obtain ⟨_, _, e4, g4, g4'⟩ := h4.shape
 simp only [Value.slice.injEq] at e4
 obtain ⟨-, -, rfl⟩ := e4
 obtain ⟨_, _, e5, g5, g5'⟩ := h5.shape
 simp only [Value.slice.injEq] at e5
 obtain ⟨-, -, rfl⟩ := e5
 obtain ⟨_, _, e6, g6, g6'⟩ := h6.shape
 simp only [Value.slice.injEq] at e6
 obtain ⟨-, -, rfl⟩ := e6
 rw [hn1] at h1 g1
 have R1 := Lib.hid h1
 have N1 := Lib.hid hn1
 rw [hn2] at h2 g2
 have R2 := Lib.hid h2
 have N2 := Lib.hid hn2
 rw [hn3] at h3 g3
 have R3 := Lib.hid h3
 have N3 := Lib.hid hn3
 rw [hn4] at h4 g4
 have R4 := Lib.hid h4
 have N4 := Lib.hid hn4
 rw [hn5] at h5 g5
 have R5 := Lib.hid h5
 have N5 := Lib.hid hn5
 rw [hn6] at h6 g6
 have R6 := Lib.hid h6
 have N6 := Lib.hid hn6
 rw [hn1, hn2, hn3, hn4, hn5, hn6]
 have HBox : Hid (∀ W, Only (fun _ => False) (w.alloc (.cells #[.string x.name, .int .i64 x.line, .slice o1 n1 c1, .slice o2 n2 c2, .slice o3 n3 c3, .slice o4 n4 c4, .slice o5 n5 c5, .slice o6 n6 c6] 36)) W → W.cell? ⟨w.heap.size, 0, none⟩ = some (.string x.name) ∧ W.cell? ⟨w.heap.size, 1, none⟩ = some (.int .i64 x.line) ∧ W.cell? ⟨w.heap.size, 2, none⟩ = some (.slice o1 n1 c1) ∧ W.cell? ⟨w.heap.size, 3, none⟩ = some (.slice o2 n2 c2) ∧ W.cell? ⟨w.heap.size, 4, none⟩ = some (.slice o3 n3 c3) ∧ W.cell? ⟨w.heap.size, 5, none⟩ = some (.slice o4 n4 c4) ∧ W.cell? ⟨w.heap.size, 6, none⟩ = some (.slice o5 n5 c5) ∧ W.cell? ⟨w.heap.size, 7, none⟩ = some (.slice o6 n6 c6)) := fun W ho => by
  have hb := ho.block w.heap.size (by simp) (fun f => f)
  refine ⟨?_, ?_, ?_, ?_, ?_, ?_, ?_, ?_⟩
  all_goals (rw [World.cell?_of_block (w := (w.alloc (.cells #[.string x.name, .int .i64 x.line, .slice o1 n1 c1, .slice o2 n2 c2, .slice o3 n3 c3, .slice o4 n4 c4, .slice o5 n5 c5, .slice o6 n6 c6] 36))) hb]; simp)
 clear h h1 h2 h3 h4 h5 h6 hn1 hn2 hn3 hn4 hn5 hn6
 go_enter Tryz.func14, Tryz.ntmps14
 have HOB : Only (fun _ => False) w (w.alloc (.cells #[.string x.name, .int .i64 x.line, .slice o1 n1 c1, .slice o2 n2 c2, .slice o3 n3 c3, .slice o4 n4 c4, .slice o5 n5 c5, .slice o6 n6 c6] 36)) := (Only.refl _ _).alloc _
 by_cases q0 : 100 < x.name.size
 ·go_wp2_with fail
  go_ret
  exact BoolEnd.mk true rfl nofun (HOB)
 by_cases q1 : 30 < n1
 ·go_wp2_with fail
  go_ret
  exact BoolEnd.mk true rfl nofun (HOB)
 by_cases q2 : 20 < n2
 ·go_wp2_with fail
  go_ret
  exact BoolEnd.mk true rfl nofun (HOB)
 by_cases q3 : 40 < n4
 ·go_wp2_with fail
  go_ret
  exact BoolEnd.mk true rfl nofun (HOB)
 by_cases q4 : 40 < n5
 ·go_wp2_with fail
  go_ret
  exact BoolEnd.mk true rfl nofun (HOB)
 go_wp2_with fail
 refine (greatTexts_any (R3.out.keep StrC.keep (Kp.of0 HOB))).mono ?_
 rintro e w1 ⟨bb, rfl, hb, O1⟩
 have HO1 := Lib.hid O1
 have HT := Lib.hid hb
 clear O1 hb
 obtain ⟨k0, k1, k2, k3, k4, k5, k6, k7⟩ := HBox.out w1 HO1.out
 cases bb with
 | true =>
  go_wp2_with fail
  go_ret
  exact BoolEnd.mk true rfl nofun (HOB.same HO1.out)
 | false =>
  replace HT := Lib.hid (HT.out rfl)
  go_wp2_with fail
  refine (greatTexts_any (R6.out.keep StrC.keep (Kp.of0 (HOB.same HO1.out)))).mono ?_
  rintro e w2 ⟨bb, rfl, hb, O1⟩
  have HO0 := Lib.hid (HO1.out.same O1)
  clear O1
  cases bb with
  | false =>
   obtain ⟨k0, k1, k2, k3, k4, k5, k6, k7⟩ := HBox.out w2 HO0.out
   clear HO1
   go_wp2_with fail
   go_loopw [48] (fun vi wr => Hid (Only (fun _ => False) (w.alloc (.cells #[.string x.name, .int .i64 x.line, .slice o1 n1 c1, .slice o2 n2 c2, .slice o3 n3 c3, .slice o4 n4 c4, .slice o5 n5 c5, .slice o6 n6 c6] 36)) wr) ∧ ∃ i : Nat, vi = .int .i64 i ∧ i ≤ n1) (fun v _ => n1 - (intOf v).toNat)
   case atStart => exact ⟨show Hid _ from HO0.out, 0, rfl, Nat.zero_le _⟩
   case round =>
    obtain ⟨HO, i, rfl, hi⟩ := hrel
    obtain ⟨k0, k1, k2, k3, k4, k5, k6, k7⟩ := HBox.out wr HO.out
    by_cases ci : i < n1
    ·have h2 := R1.out
     try rw [N1.out] at h2
     obtain ⟨b, off, he, -, -⟩ := h2.at (by have := N1.out; omega)
     subst he
     obtain ⟨y, hx⟩ : ∃ y, x.rels[i]? = some y := ⟨_, List.getElem?_eq_getElem (by rw [N1.out]; exact ci)⟩
     obtain ⟨cs, hl, hr, hC⟩ := (h2.keep RelC.keep (Kp.of0 (HOB.trans HO.out fun _ f => .inl f))).get hx
     have ewi : IntKind.i64.wrap ((i : Int) + 1) = (i : Int) + 1 := by rw [IntKind.wrap_i64]; omega
     obtain ⟨rfl, -⟩ := hC
     have hc0 := hr 0 _ rfl
     try simp only [Nat.add_zero] at hc0
     clear hx h2 hl hr
     by_cases q : 100 < y.version.size
     ·go_wp2_with fail
      go_ret
      exact BoolEnd.mk true rfl nofun (HOB.same HO.out)
     go_wp2_with fail
     go_roundw
     case rel => exact ⟨HO, i + 1, by first | rfl | go_num, by omega⟩
     case measure => simp [intOf] <;> omega
    ·obtain rfl : n1 = i := by omega
     clear hi ci
     have HO0 := HO
     go_wp2_with fail
     go_loopw [63] (fun vi wr => Hid (Only (fun _ => False) (w.alloc (.cells #[.string x.name, .int .i64 x.line, .slice o1 n1 c1, .slice o2 n2 c2, .slice o3 n3 c3, .slice o4 n4 c4, .slice o5 n5 c5, .slice o6 n6 c6] 36)) wr) ∧ ∃ i : Nat, vi = .int .i64 i ∧ i ≤ n2) (fun v _ => n2 - (intOf v).toNat)
     case atStart => exact ⟨show Hid _ from HO0.out, 0, rfl, Nat.zero_le _⟩
     case round =>
      obtain ⟨HO, i, rfl, hi⟩ := hrel
      obtain ⟨k0, k1, k2, k3, k4, k5, k6, k7⟩ := HBox.out wr HO.out
      by_cases ci : i < n2
      ·have h2 := R2.out
       try rw [N2.out] at h2
       obtain ⟨b, off, he, -, -⟩ := h2.at (by have := N2.out; omega)
       subst he
       obtain ⟨y, hx⟩ : ∃ y, x.vars[i]? = some y := ⟨_, List.getElem?_eq_getElem (by rw [N2.out]; exact ci)⟩
       obtain ⟨cs, hl, hr, hC⟩ := (h2.keep VarC.keep (Kp.of0 (HOB.trans HO.out fun _ f => .inl f))).get hx
       have ewi : IntKind.i64.wrap ((i : Int) + 1) = (i : Int) + 1 := by rw [IntKind.wrap_i64]; omega
       obtain ⟨v1, rfl, -, hv⟩ := hC
       obtain ⟨p1, d1, rfl, -, -⟩ := hv.shape
       have hc0 := hr 0 _ rfl
       try simp only [Nat.add_zero] at hc0
       have hc1 := hr 1 _ rfl
       try simp only [Nat.add_zero] at hc1
       have HV := Lib.hid hv
       clear hx h2 hl hr hv
       by_cases q : 100 < y.name.size
       ·go_wp2_with fail
        go_ret
        exact BoolEnd.mk true rfl nofun (HOB.same HO.out)
       go_wp2_with fail
       refine (greatTexts_any HV.out).mono ?_
       rintro e w1 ⟨bb, rfl, hb, O1⟩
       have HO1 := Lib.hid (HO.out.same O1)
       clear O1
       cases bb with
       | false =>
        go_wp2_with fail
        go_roundw
        case rel => exact ⟨HO1, i + 1, by first | rfl | go_num, by omega⟩
        case measure => simp [intOf] <;> omega
       | true =>
        go_wp2_with fail
        go_ret
        exact BoolEnd.mk true rfl nofun (HOB.same HO1.out)
      ·obtain rfl : n2 = i := by omega
       clear hi ci
       have HO0 := HO
       go_wp2_with fail
       go_loopw [87] (fun vi wr => Hid (Only (fun _ => False) (w.alloc (.cells #[.string x.name, .int .i64 x.line, .slice o1 n1 c1, .slice o2 n2 c2, .slice o3 n3 c3, .slice o4 n4 c4, .slice o5 n5 c5, .slice o6 n6 c6] 36)) wr) ∧ ∃ i : Nat, vi = .int .i64 i ∧ i ≤ n4) (fun v _ => n4 - (intOf v).toNat)
       case atStart => exact ⟨show Hid _ from HO0.out, 0, rfl, Nat.zero_le _⟩
       case round =>
        obtain ⟨HO, i, rfl, hi⟩ := hrel
        obtain ⟨k0, k1, k2, k3, k4, k5, k6, k7⟩ := HBox.out wr HO.out
        by_cases ci : i < n4
        ·have h2 := R4.out
         try rw [N4.out] at h2
         obtain ⟨b, off, he, -, -⟩ := h2.at (by have := N4.out; omega)
         subst he
         obtain ⟨y, hx⟩ : ∃ y, x.deps[i]? = some y := ⟨_, List.getElem?_eq_getElem (by rw [N4.out]; exact ci)⟩
         obtain ⟨cs, hl, hr, hC⟩ := (h2.keep DepC.keep (Kp.of0 (HOB.trans HO.out fun _ f => .inl f))).get hx
         have ewi : IntKind.i64.wrap ((i : Int) + 1) = (i : Int) + 1 := by rw [IntKind.wrap_i64]; omega
         obtain ⟨s1, s2, rfl, hS1, hS2, -⟩ := hC
         have HS1 := Lib.hid hS1
         have HS2 := Lib.hid hS2
         obtain ⟨p1, p2, d1, d2, rfl, -, -, -⟩ := hS1.cells
         obtain ⟨p3, p4, d3, d4, rfl, -, -, -⟩ := hS2.cells
         have HR1 := Lib.hid (show wr.rangeAt b (off + i * 7) _ from rangeAt_left hr)
         have HR2 := Lib.hid (show wr.rangeAt b (off + i * 7 + 3) _ from rangeAt_right (rangeAt_left' hr))
         clear hx h2 hl hr hS1 hS2
         go_wp2_with (refine wpList_load_mid rfl 48 (.tmp 94) rfl b (off + i * 7) rfl _ _ HR1.out Tryz.underlying48 rfl (by kernel_rfl) ?_)
         refine (greatSpec_any HS1.out).mono ?_
         rintro e w1 ⟨bb, rfl, hb, O1⟩
         have HO1 := Lib.hid (HO.out.same O1)
         have HOx := Lib.hid O1
         clear O1
         cases bb with
         | false =>
          obtain ⟨k0, k1, k2, k3, k4, k5, k6, k7⟩ := HBox.out w1 HO1.out
          have HR3 := Lib.hid (rangeAt_keep0 HR2.out HOx.out)
          have e0 := HR3.out 0 _ rfl
          have e1 := HR3.out 1 _ rfl
          have e2 := HR3.out 2 _ rfl
          simp only [Nat.add_zero] at e0
          go_wp2_with fail
          refine (greatSpec_any (SpecC.keep HS2.out (Kp.of0 HOx.out))).mono ?_
          rintro e w2 ⟨bb, rfl, hb, O1⟩
          have HO2 := Lib.hid (HO1.out.same O1)
          clear O1
          cases bb with
          | false =>
           go_wp2_with fail
           go_roundw
           case rel => exact ⟨HO2, i + 1, by first | rfl | go_num, by omega⟩
           case measure => simp [intOf] <;> omega
          | true =>
           go_wp2_with fail
           go_ret
           exact BoolEnd.mk true rfl nofun (HOB.same HO2.out)
         | true =>
          go_wp2_with fail
          go_ret
          exact BoolEnd.mk true rfl nofun (HOB.same HO1.out)
        ·obtain rfl : n4 = i := by omega
         clear hi ci
         have HO0 := HO
         go_wp2_with fail
         go_loopw [110] (fun vi wr => Hid (Only (fun _ => False) (w.alloc (.cells #[.string x.name, .int .i64 x.line, .slice o1 n1 c1, .slice o2 n2 c2, .slice o3 n3 c3, .slice o4 n4 c4, .slice o5 n5 c5, .slice o6 n6 c6] 36)) wr) ∧ ∃ i : Nat, vi = .int .i64 i ∧ i ≤ n5) (fun v _ => n5 - (intOf v).toNat)
         case atStart => exact ⟨show Hid _ from HO0.out, 0, rfl, Nat.zero_le _⟩
         case round =>
          obtain ⟨HO, i, rfl, hi⟩ := hrel
          obtain ⟨k0, k1, k2, k3, k4, k5, k6, k7⟩ := HBox.out wr HO.out
          by_cases ci : i < n5
          ·have h2 := R5.out
           try rw [N5.out] at h2
           obtain ⟨b, off, he, -, -⟩ := h2.at (by have := N5.out; omega)
           subst he
           obtain ⟨y, hx⟩ : ∃ y, x.cons[i]? = some y := ⟨_, List.getElem?_eq_getElem (by rw [N5.out]; exact ci)⟩
           obtain ⟨cs, hl, hr, hC⟩ := (h2.keep ConC.keep (Kp.of0 (HOB.trans HO.out fun _ f => .inl f))).get hx
           have ewi : IntKind.i64.wrap ((i : Int) + 1) = (i : Int) + 1 := by rw [IntKind.wrap_i64]; omega
           obtain ⟨s1, s2, rfl, hS1, hS2, -⟩ := hC
           have HS1 := Lib.hid hS1
           have HS2 := Lib.hid hS2
           obtain ⟨p1, p2, d1, d2, rfl, -, -, -⟩ := hS1.cells
           obtain ⟨p3, p4, d3, d4, rfl, -, -, -⟩ := hS2.cells
           have HR1 := Lib.hid (show wr.rangeAt b (off + i * 7) _ from rangeAt_left hr)
           have HR2 := Lib.hid (show wr.rangeAt b (off + i * 7 + 3) _ from rangeAt_right (rangeAt_left' hr))
           clear hx h2 hl hr hS1 hS2
           go_wp2_with (refine wpList_load_mid rfl 48 (.tmp 117) rfl b (off + i * 7) rfl _ _ HR1.out Tryz.underlying48 rfl (by kernel_rfl) ?_)
           refine (greatSpec_any HS1.out).mono ?_
           rintro e w1 ⟨bb, rfl, hb, O1⟩
           have HO1 := Lib.hid (HO.out.same O1)
           have HOx := Lib.hid O1
           clear O1
           cases bb with
           | false =>
            obtain ⟨k0, k1, k2, k3, k4, k5, k6, k7⟩ := HBox.out w1 HO1.out
            have HR3 := Lib.hid (rangeAt_keep0 HR2.out HOx.out)
            have e0 := HR3.out 0 _ rfl
            have e1 := HR3.out 1 _ rfl
            have e2 := HR3.out 2 _ rfl
            simp only [Nat.add_zero] at e0
            go_wp2_with fail
            refine (greatSpec_any (SpecC.keep HS2.out (Kp.of0 HOx.out))).mono ?_
            rintro e w2 ⟨bb, rfl, hb, O1⟩
            have HO2 := Lib.hid (HO1.out.same O1)
            clear O1
            cases bb with
            | false =>
             go_wp2_with fail
             go_roundw
             case rel => exact ⟨HO2, i + 1, by first | rfl | go_num, by omega⟩
             case measure => simp [intOf] <;> omega
            | true =>
             go_wp2_with fail
             go_ret
             exact BoolEnd.mk true rfl nofun (HOB.same HO2.out)
           | true =>
            go_wp2_with fail
            go_ret
            exact BoolEnd.mk true rfl nofun (HOB.same HO1.out)
          ·obtain rfl : n5 = i := by omega
           clear hi ci
           go_wp2_with fail
           go_ret
           exact BoolEnd.mk false rfl (fun _ => ⟨by have := N1.out; omega, by have := N2.out; omega, by have := N4.out; omega, by have := N5.out; omega, by have := N3.out; have := HT.out; omega⟩) (HOB.same HO.out)
  | true =>
   go_wp2_with fail
   go_ret
   exact BoolEnd.mk true rfl nofun (HOB.same HO0.out)
end
structure SmallRec (x : RecD) : Prop where
 packs : x.packs.length ≤ 30
 prefs : x.prefs.length ≤ 20
 all : ∀ p ∈ x.packs, SmallPack p
section
variable {w w' : World} {B : Nat}
set_option maxRecDepth 100000 in
set_option maxHeartbeats 2000000 in
theorem Great7_any {cs : List Value} {x : RecD} (h : RecC B w cs x) :
  Calls Tryz.prog 4 #[.agg cs.toArray] w fun e w' => BoolEnd w w' e (SmallRec x) := by
 obtain ⟨v1, v2, rfl, h1, h2⟩ := h
 obtain ⟨o1, c1, rfl, g1, g1'⟩ := h1.shape
 obtain ⟨o2, c2, rfl, g2, g2'⟩ := h2.shape
 obtain ⟨n1, hn1⟩ : ∃ n, x.packs.length = n := ⟨_, rfl⟩
 obtain ⟨n2, hn2⟩ : ∃ n, x.prefs.length = n := ⟨_, rfl⟩
 rw [hn1] at h1 g1
 rw [hn2] at h2 g2
 have R1 := Lib.hid h1
 have R2 := Lib.hid h2
 have N1 := Lib.hid hn1
 have N2 := Lib.hid hn2
 rw [hn1, hn2]
 have HBox : Hid (∀ W, Only (fun _ => False) (w.alloc (.cells #[.slice o1 n1 c1, .slice o2 n2 c2] 25)) W → W.cell? ⟨w.heap.size, 0, none⟩ = some (.slice o1 n1 c1) ∧ W.cell? ⟨w.heap.size, 1, none⟩ = some (.slice o2 n2 c2)) := fun W ho => by
  have hb := ho.block w.heap.size (by simp) (fun f => f)
  refine ⟨?_, ?_⟩
  all_goals (rw [World.cell?_of_block (w := (w.alloc (.cells #[.slice o1 n1 c1, .slice o2 n2 c2] 25))) hb]; simp)
 clear h1 h2 hn1 hn2
 go_enter Tryz.func4, Tryz.ntmps4
 have HOB : Only (fun _ => False) w (w.alloc (.cells #[.slice o1 n1 c1, .slice o2 n2 c2] 25)) := (Only.refl _ _).alloc _
 have HO0 : Hid (Only (fun _ => False) (w.alloc (.cells #[.slice o1 n1 c1, .slice o2 n2 c2] 25)) (w.alloc (.cells #[.slice o1 n1 c1, .slice o2 n2 c2] 25))) := Only.refl _ _
 by_cases q0 : 30 < n1
 ·go_wp2_with fail
  go_ret
  exact BoolEnd.mk true rfl nofun (HOB)
 by_cases q1 : 20 < n2
 ·go_wp2_with fail
  go_ret
  exact BoolEnd.mk true rfl nofun (HOB)
 go_wp2_with fail
 go_loopw [18] (fun vi wr => Hid (Only (fun _ => False) (w.alloc (.cells #[.slice o1 n1 c1, .slice o2 n2 c2] 25)) wr) ∧ ∃ i : Nat, vi = .int .i64 i ∧ i ≤ n1 ∧ Hid (∀ p ∈ x.packs.take i, SmallPack p)) (fun v _ => n1 - (intOf v).toNat)
 case atStart => exact ⟨show Hid _ from HO0.out, 0, rfl, Nat.zero_le _, show Hid _ from fun z hz => by simp at hz⟩
 case round =>
  obtain ⟨HO, i, rfl, hi, HI⟩ := hrel
  obtain ⟨k0, k1⟩ := HBox.out wr HO.out
  by_cases ci : i < n1
  ·have h2 := R1.out
   try rw [N1.out] at h2
   obtain ⟨b, off, he, -, -⟩ := h2.at (by have := N1.out; omega)
   subst he
   obtain ⟨y, hx⟩ : ∃ y, x.packs[i]? = some y := ⟨_, List.getElem?_eq_getElem (by rw [N1.out]; exact ci)⟩
   obtain ⟨cs, hl, hr, hC⟩ := (h2.keep PackC.keep (Kp.of0 (HOB.trans HO.out fun _ f => .inl f))).get hx
   have ewi : IntKind.i64.wrap ((i : Int) + 1) = (i : Int) + 1 := by rw [IntKind.wrap_i64]; omega
   have HX := Lib.hid hx
   have HC := Lib.hid hC
   obtain ⟨p1, p2, p3, p4, p5, p6, d1, d2, d3, d4, d5, d6, rfl, -⟩ := hC.cells
   have HR := Lib.hid hr
   clear hx h2 hl hr hC
   go_wp2_with (refine wpList_load_mid rfl 36 (.tmp 24) rfl b (off + i * 8) rfl _ _ HR.out Tryz.underlying36 rfl (by kernel_rfl) ?_)
   refine (greatPackage_any HC.out).mono ?_
   rintro e w1 ⟨bb, rfl, hb, O1⟩
   have HO1 := Lib.hid (HO.out.same O1)
   have HB := Lib.hid hb
   clear O1 hb
   cases bb with
   | false =>
    go_wp2_with fail
    go_roundw
    case rel => exact ⟨HO1, i + 1, by first | rfl | go_num, by omega, show Hid _ from fun z hz => by
      rcases mem_take_snoc HX.out hz with h | rfl
      ·exact HI.out z h
      ·first | exact HB.out | exact HB.out trivial | exact HB.out rfl⟩
    case measure => simp [intOf] <;> omega
   | true =>
    go_wp2_with fail
    go_ret
    exact BoolEnd.mk true rfl nofun (HOB.same HO1.out)
  ·obtain rfl : n1 = i := by omega
   clear hi ci
   have HO0 := HO
   have HS : Hid (∀ p ∈ x.packs, SmallPack p) := by
    have := HI.out
    rw [List.take_of_length_le (Nat.le_of_eq N1.out)] at this
    exact this
   clear HI
   go_wp2_with fail
   go_loopw [31] (fun vi wr => Hid (Only (fun _ => False) (w.alloc (.cells #[.slice o1 n1 c1, .slice o2 n2 c2] 25)) wr) ∧ ∃ i : Nat, vi = .int .i64 i ∧ i ≤ n2) (fun v _ => n2 - (intOf v).toNat)
   case atStart => exact ⟨show Hid _ from HO0.out, 0, rfl, Nat.zero_le _⟩
   case round =>
    obtain ⟨HO, i, rfl, hi⟩ := hrel
    obtain ⟨k0, k1⟩ := HBox.out wr HO.out
    by_cases ci : i < n2
    ·have h2 := R2.out
     try rw [N2.out] at h2
     obtain ⟨b, off, he, -, -⟩ := h2.at (by have := N2.out; omega)
     subst he
     obtain ⟨y, hx⟩ : ∃ y, x.prefs[i]? = some y := ⟨_, List.getElem?_eq_getElem (by rw [N2.out]; exact ci)⟩
     obtain ⟨cs, hl, hr, hC⟩ := (h2.keep PrefC.keep (Kp.of0 (HOB.trans HO.out fun _ f => .inl f))).get hx
     have ewi : IntKind.i64.wrap ((i : Int) + 1) = (i : Int) + 1 := by rw [IntKind.wrap_i64]; omega
     obtain ⟨v1, rfl, -, -, hv⟩ := hC
     obtain ⟨p1, d1, rfl, -, -⟩ := hv.shape
     have hc0 := hr 0 _ rfl
     try simp only [Nat.add_zero] at hc0
     have hc1 := hr 1 _ rfl
     try simp only [Nat.add_zero] at hc1
     have HV := Lib.hid hv
     clear hx h2 hl hr hv
     by_cases q : 100 < y.virtual.size
     ·go_wp2_with fail
      go_ret
      exact BoolEnd.mk true rfl nofun (HOB.same HO.out)
     go_wp2_with fail
     refine (greatTexts_any HV.out).mono ?_
     rintro e w1 ⟨bb, rfl, hb, O1⟩
     have HO1 := Lib.hid (HO.out.same O1)
     clear O1
     cases bb with
     | false =>
      go_wp2_with fail
      go_roundw
      case rel => exact ⟨HO1, i + 1, by first | rfl | go_num, by omega⟩
      case measure => simp [intOf] <;> omega
     | true =>
      go_wp2_with fail
      go_ret
      exact BoolEnd.mk true rfl nofun (HOB.same HO1.out)
    ·obtain rfl : n2 = i := by omega
     clear hi ci
     go_wp2_with fail
     go_ret
     exact BoolEnd.mk false rfl (fun _ => ⟨by have := N1.out; omega, by have := N2.out; omega, HS.out⟩) (HOB.same HO.out)
end
end Go.Proofs.YtmlfchjompfmaaaGreatDoor
