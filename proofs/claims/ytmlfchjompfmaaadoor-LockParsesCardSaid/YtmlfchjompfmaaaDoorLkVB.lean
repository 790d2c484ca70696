/- LkWA LkWB, in one text. -/
import Derived.Test.YtmlfchjompfmaaaDoorLkW9
import Derived.Laws.Concat
import Derived.Test.YtmlfchjompfmaaaDoorRowB
import Derived.BigQuiet
set_option linter.unusedVariables false
namespace Go.Proofs.YtmlfchjompfmaaaDoor
open Go.RowKit
open Lk (nodeP needP headL nodeL needL nodeLs bodyG joinL textG setL)
section
variable {w w' : World} {B : Nat}
theorem node_at {W : World} {v : Value} {g : List NodeD} (h : RowT 4 NodC w.heap.size w v g) (o : Only (fun k => w.heap.size ≤ k) w W) {i : Nat} {x : NodeD} (hx : g[i]? = some x) :
  ∃ b off len cap a1 c1 a2 c2, v = .slice (some ⟨b, off, none⟩) len cap ∧ okS x.name ∧ okS x.version ∧ W.rangeAt b (off + i * 4) [.string x.name, .string x.version, .slice a1 x.sets.length c1, .slice a2 x.needs.length c2] ∧ RowT 2 SetC w.heap.size w (.slice a1 x.sets.length c1) x.sets ∧ RowT 1 StrC w.heap.size w (.slice a2 x.needs.length c2) x.needs ∧ x.sets.length ≤ c1 ∧ c1 ≤ 9223372036854775807 ∧ x.needs.length ≤ c2 ∧ c2 ≤ 9223372036854775807 := by
 obtain ⟨b, off, len, cap, a1, c1, a2, c2, e, k1, k2, g1, g2, g3, g4, hb, hE⟩ := NodC_at h hx
 obtain ⟨h1, h2, h3⟩ := hE w (Only.refl _ _)
 refine ⟨b, off, len, cap, a1, c1, a2, c2, e, k1, k2, ?_, h2, h3, g1, g2, g3, g4⟩
 intro j u hu
 rw [World.cell?_of_block (w := w) (o.block b hb (by omega))]
 exact h1 j u hu
set_option maxRecDepth 100000 in
set_option maxHeartbeats 8000000 in
theorem text_x {v : Value} {g : List NodeD} (hg : RowT 4 NodC w.heap.size w v g) (hs : SmallG g) : Calls Tryd.prog 34 #[.agg #[v]] w (fun e w' => ∃ t : Str, e = .returned (.string t) ∧ t.toList = textG (toG g) ∧ Only (fun _ => False) w w') := by
 obtain ⟨w0, hw0⟩ : ∃ x, (w.alloc (.cells #[v] 39)).alloc (.cells #[.pointer none, .slice none 0 0] 109) = x := ⟨_, rfl⟩
 have h0 : TI w [] w0 := by
  rw [← hw0]
  have hb := heap_alloc_new (w.alloc (.cells #[v] 39)) (.cells #[.pointer none, .slice none 0 0] 109)
  rw [World.size_alloc] at hb
  exact ⟨⟨_, ⟨Nat.le_refl _, .slice none 0 0, hb, World.ownsRow_nil _ _ _ _, by simp [Value.ownBlock]⟩, .inl rfl⟩, ((Only.refl _ _).alloc _).alloc _, by simp⟩
 have HW1 := Lib.hid (h0.write ⟨#[108, 111, 99, 107, 32, 49, 10]⟩ (by decide))
 have hbox0 : w0.cell? ⟨w.heap.size, 0, none⟩ = some v := by
  rw [← hw0]
  have hb := heap_alloc_new w (.cells #[v] 39)
  rw [cell_block (((Only.refl (fun _ => False) (w.alloc (.cells #[v] 39))).alloc (.cells #[.pointer none, .slice none 0 0] 109)).block w.heap.size (by simp) (fun f => f) |>.trans hb)]
  rfl
 have HBox := Lib.hid hbox0
 have HG := Lib.hid hg
 have HS := Lib.hid hs
 obtain ⟨ao, cap, hv, k1, k2⟩ := hg.shape
 obtain ⟨n, hn⟩ : ∃ n, g.length = n := ⟨_, rfl⟩
 have HN := Lib.hid hn
 rw [hn] at hv k1
 subst hv
 have hn30 : n ≤ 30 := by rw [← hn]; exact hs.1
 clear h0 hbox0 hg hs hn
 go_enter Tryd.func34, Tryd.ntmps34
 go_wp2_with fail
 refine HW1.out.mono ?_
 rintro e w1 ⟨rfl, h1, hk1, hz1⟩
 have hB1 : w1.cell? ⟨w.heap.size, 0, none⟩ = some (.slice ao n cap) := by
  rw [World.cell?_of_block (w := w0) (hk1 _ (World.block_lt_of_cell? _ _ HBox.out) (by simp) (fun c f e => by
   have := HBox.out
   have hb : w0.heap[w.heap.size]? = some (.cells #[.slice ao n cap] 39 (0, 0)) := by
    rw [← hw0]
    exact (((Only.refl (fun _ => False) (w.alloc (.cells #[.slice ao n cap] 39))).alloc (.cells #[.pointer none, .slice none 0 0] 109)).block w.heap.size (by simp) (fun f => f)).trans (heap_alloc_new w _)
   rw [hb] at e
   simp only [Option.some.injEq, Obj.cells.injEq] at e
   exact absurd e.2.1 (by decide)))]
  exact HBox.out
 have e1 : ([] : List UInt8) ++ (⟨#[108, 111, 99, 107, 32, 49, 10]⟩ : ByteArray).toList = txtTo g 0 := by rw [toList_data]; rfl
 rw [e1] at h1
 have H1 := Lib.hid h1
 clear h1 hk1 hz1 HW1 e1 hw0 HBox
 go_wp2_with fail
 go_loopw [14] (fun vi wr => ∃ i : Nat, vi = .int .i64 i ∧ i ≤ n ∧ Hid (TI w (txtTo g i) wr)) (fun v _ => n - (RowKit.intOf v).toNat)
 case atStart => exact ⟨0, rfl, Nat.zero_le _, H1⟩
 case round =>
  obtain ⟨i, rfl, hi, HT⟩ := hrel
  by_cases ci : i < n
  ·have ewi : IntKind.i64.wrap ((i : Int) + 1) = (i : Int) + 1 := by rw [IntKind.wrap_i64]; omega
   obtain ⟨x, hx⟩ : ∃ x, g[i]? = some x := ⟨_, List.getElem?_eq_getElem (by rw [HN.out]; exact ci)⟩
   obtain ⟨b, off, len', cap', a1, c1, a2, c2, he, kx1, kx2, hr, r1, r2, g1, g2, g3, g4⟩ := node_at HG.out HT.out.only hx
   cases he
   have q0 := hr 0 _ rfl
   have q1 := hr 1 _ rfl
   have q2 := hr 2 _ rfl
   have q3 := hr 3 _ rfl
   rw [Nat.add_zero] at q0
   obtain ⟨xn, xv, xs, xd⟩ := x
   dsimp only at kx1 kx2 q0 q1 q2 q3 r1 r2 g1 g3
   obtain ⟨ns, hns⟩ : ∃ k, xs.length = k := ⟨_, rfl⟩
   obtain ⟨nd, hnd⟩ : ∃ k, xd.length = k := ⟨_, rfl⟩
   have HNs := Lib.hid hns
   have HNd := Lib.hid hnd
   rw [hns] at q2 r1 g1
   rw [hnd] at q3 r2 g3
   have HX := Lib.hid hx
   have hsm := HS.out.2 _ (List.mem_of_getElem? hx)
   have HSm := Lib.hid hsm
   have hns50 : ns ≤ 50 := by rw [← hns]; exact hsm.2.2.1
   have hnd50 : nd ≤ 50 := by rw [← hnd]; exact hsm.2.2.2.2.1
   have hlen0 := txtTo_len HS.out i (by rw [HN.out]; exact hi)
   have HLen0 := Lib.hid hlen0
   have HR1 := Lib.hid r1
   have HR2 := Lib.hid r2
   have hin : i ≤ 30 := by omega
   clear hr hx hsm hlen0 r1 r2 hns hnd kx1 kx2
   obtain ⟨N5, hN5⟩ : ∃ k, wr.heap.size = k := ⟨_, rfl⟩
   obtain ⟨wn, hwn⟩ : ∃ W, wr.alloc (.cells #[.string xn, .string xv, .slice a1 ns c1, .slice a2 nd c2] 80) = W := ⟨_, rfl⟩
   have hbn : wn.heap[N5]? = some (.cells #[.string xn, .string xv, .slice a1 ns c1, .slice a2 nd c2] 80 (0, 0)) := by rw [← hwn, ← hN5]; exact heap_alloc_new _ _
   have hne : N5 ≠ w.heap.size + 1 := by have := HT.out.size; omega
   have HNe := Lib.hid hne
   have hTn : TI w (txtTo g i) wn := by rw [← hwn]; exact HT.out.alloc _
   have hl0 := lineTo_len HSm.out 0 (Nat.zero_le _)
   have et : (((⟨#[110, 111, 100, 101, 32]⟩ : ByteArray) ++ xn) ++ (⟨#[32]⟩ : ByteArray) ++ xv).toList = lineTo ⟨xn, xv, xs, xd⟩ 0 := by
    rw [toList_append, toList_append, toList_append, toList_data ⟨#[110, 111, 100, 101, 32]⟩, toList_data ⟨#[32]⟩]
    simp [lineTo, nodeP]
   have hsz : (((⟨#[110, 111, 100, 101, 32]⟩ : ByteArray) ++ xn) ++ (⟨#[32]⟩ : ByteArray) ++ xv).size ≤ 206 := by rw [← size_toList, et]; omega
   have HWr := Lib.hid (hTn.write (((⟨#[110, 111, 100, 101, 32]⟩ : ByteArray) ++ xn) ++ (⟨#[32]⟩ : ByteArray) ++ xv) (by have := HLen0.out; omega))
   have n0 : wn.cell? ⟨N5, 0, none⟩ = some (.string xn) := by rw [cell_block hbn]; rfl
   have n1 : wn.cell? ⟨N5, 1, none⟩ = some (.string xv) := by rw [cell_block hbn]; rfl
   have HBn := Lib.hid hbn
   have HEt := Lib.hid et
   have hx1 : xn.size ≤ 100 := HSm.out.1
   have hx2 : xv.size ≤ 100 := HSm.out.2.1
   have s1 : ¬ (9223372036854775807 < 5 + xn.size) := by omega
   have s2 : ¬ (9223372036854775807 < 5 + xn.size + 1) := by omega
   have s3 : ¬ (9223372036854775807 < 5 + xn.size + 1 + xv.size) := by omega
   clear hbn hTn hl0 hsz et hne hx1 hx2
   go_wp2_with fail
   refine HWr.out.mono ?_
   rintro e w2 ⟨rfl, h2, hk2, hz2⟩
   rw [HEt.out] at h2
   have H2 := Lib.hid h2
   have hb2 := hk2.blk HBn.out HNe.out (by decide)
   have HB2 := Lib.hid hb2
   have n2 : w2.cell? ⟨N5, 2, none⟩ = some (.slice a1 ns c1) := by rw [cell_block hb2]; rfl
   clear h2 hk2 hz2 hb2 HWr HEt n0 n1 q0 q1 q2 q3 s1 s2 s3 hwn hN5
   go_wp2_with fail
   generalize wr = wo at *
   go_loopw [29] (fun vk wr => ∃ k : Nat, vk = .int .i64 k ∧ k ≤ ns ∧ Hid (TI w (txtTo g i ++ lineTo ⟨xn, xv, xs, xd⟩ k) wr) ∧ Hid (wr.heap[N5]? = some (.cells #[.string xn, .string xv, .slice a1 ns c1, .slice a2 nd c2] 80 (0, 0)))) (fun v _ => ns - (RowKit.intOf v).toNat)
   case atStart => exact ⟨0, rfl, Nat.zero_le _, H2, HB2⟩
   case round =>
    obtain ⟨k, rfl, hk, HTk, HBk⟩ := hrel
    by_cases ck : k < ns
    ·have ewk : IntKind.i64.wrap ((k : Int) + 1) = (k : Int) + 1 := by rw [IntKind.wrap_i64]; omega
     obtain ⟨s, hsx⟩ : ∃ s, xs[k]? = some s := ⟨_, List.getElem?_eq_getElem (by rw [HNs.out]; exact ck)⟩
     obtain ⟨b', off', he', oks1, oks2, hE⟩ := SetC_at (HR1.out.keep SetC.keep HTk.out.only) hsx
     subst he'
     have hr' := (hE wr (Only.refl _ _)).1
     have p0 := hr' 0 _ rfl
     have p1 := hr' 1 _ rfl
     rw [Nat.add_zero] at p0
     obtain ⟨sn, sv⟩ := s
     dsimp only at p0 p1 oks1 oks2
     have hsm := HSm.out.2.2.2.1 _ (List.mem_of_getElem? hsx)
     dsimp only at hsm
     have hll := lineTo_len HSm.out k (by rw [HNs.out]; exact hk)
     have hnx := lineTo_next (x := ⟨xn, xv, xs, xd⟩) hsx
     obtain ⟨N6, hN6⟩ : ∃ q, wr.heap.size = q := ⟨_, rfl⟩
     obtain ⟨wm, hwm⟩ : ∃ W, wr.alloc (.cells #[.string sn, .string sv] 60) = W := ⟨_, rfl⟩
     have hbm : wm.heap[N6]? = some (.cells #[.string sn, .string sv] 60 (0, 0)) := by rw [← hwm, ← hN6]; exact heap_alloc_new _ _
     have hbn : wm.heap[N5]? = some (.cells #[.string xn, .string xv, .slice (some ⟨b', off', none⟩) ns c1, .slice a2 nd c2] 80 (0, 0)) := by rw [← hwm]; exact (((Only.refl (fun _ => False) wr).alloc _).block N5 (Array.getElem?_eq_some_iff.1 HBk.out).1 (fun f => f)).trans HBk.out
     have hTm : TI w (txtTo g i ++ lineTo ⟨xn, xv, xs, xd⟩ k) wm := by rw [← hwm]; exact HTk.out.alloc _
     have et : (((⟨#[32]⟩ : ByteArray) ++ sn) ++ (⟨#[61]⟩ : ByteArray) ++ sv).toList = 32 :: sn.toList ++ 61 :: sv.toList := by
      rw [toList_append, toList_append, toList_append, toList_data ⟨#[32]⟩, toList_data ⟨#[61]⟩]
      simp
     have hsz : (((⟨#[32]⟩ : ByteArray) ++ sn) ++ (⟨#[61]⟩ : ByteArray) ++ sv).size ≤ 202 := by
      rw [← size_toList, et]; simp only [List.length_append, List.length_cons, size_toList]; omega
     have HWr := Lib.hid (hTm.write (((⟨#[32]⟩ : ByteArray) ++ sn) ++ (⟨#[61]⟩ : ByteArray) ++ sv) (by have := HLen0.out; rw [List.length_append]; omega))
     rw [et, List.append_assoc, ← hnx] at HWr
     have m0 : wm.cell? ⟨N6, 0, none⟩ = some (.string sn) := by rw [cell_block hbm]; rfl
     have m1 : wm.cell? ⟨N6, 1, none⟩ = some (.string sv) := by rw [cell_block hbm]; rfl
     have HBn2 := Lib.hid hbn
     have s1 : ¬ (9223372036854775807 < 1 + sn.size) := by omega
     have s2 : ¬ (9223372036854775807 < 1 + sn.size + 1) := by omega
     have s3 : ¬ (9223372036854775807 < 1 + sn.size + 1 + sv.size) := by omega
     clear hsx hr' hE oks1 oks2 hsm hll hnx hbm hbn hTm et hsz
     go_wp2_with fail
     refine HWr.out.mono ?_
     rintro e w3 ⟨rfl, h3, hk3, hz3⟩
     have H3 := Lib.hid h3
     have HB3 := Lib.hid (hk3.blk HBn2.out HNe.out (by decide))
     clear h3 hk3 hz3 HWr m0 m1 p0 p1 s1 s2 s3 hwm hN6
     go_wp2_with fail
     go_roundw
     case rel => exact ⟨k + 1, by first | rfl | go_num, by omega, H3, HB3⟩
     case measure => simp [RowKit.intOf] <;> omega
    ·obtain rfl : k = ns := by omega
     have hla := lineTo_all (x := ⟨xn, xv, xs, xd⟩) (k := k) (Nat.le_of_eq HNs.out)
     have hll := lineTo_len HSm.out k (by rw [HNs.out]; exact Nat.le_refl _)
     have HWr := Lib.hid (HTk.out.write (⟨#[10]⟩ : ByteArray) (by have := HLen0.out; rw [List.length_append]; show _ + 1 ≤ _; omega))
     have et : (⟨#[10]⟩ : ByteArray).toList = [10] := by rw [toList_data]
     rw [et, hla] at HWr
     rw [hla] at hll
     have HLl := Lib.hid hll
     clear hla hll et
     go_wp2_with fail
     refine HWr.out.mono ?_
     rintro e w3 ⟨rfl, h3, hk3, hz3⟩
     have h3' : TI w (txtTo g i ++ nodeL (NodeD.toB ⟨xn, xv, xs, xd⟩) ++ [10] ++ needTo ⟨xn, xv, xs, xd⟩ 0) w3 := by
      have e : needTo ⟨xn, xv, xs, xd⟩ 0 = [] := rfl
      rw [e, List.append_nil]; exact h3
     have H3 := Lib.hid h3'
     have hb3 := hk3.blk HBk.out HNe.out (by decide)
     have HB3 := Lib.hid hb3
     have n3 : w3.cell? ⟨N5, 3, none⟩ = some (.slice a2 nd c2) := by rw [cell_block hb3]; rfl
     clear h3 h3' hk3 hz3 hb3 HWr
     go_wp2_with fail
     generalize wr = wo2 at *
     go_loopw [46] (fun vj wr => ∃ j : Nat, vj = .int .i64 j ∧ j ≤ nd ∧ Hid (TI w (txtTo g i ++ nodeL (NodeD.toB ⟨xn, xv, xs, xd⟩) ++ [10] ++ needTo ⟨xn, xv, xs, xd⟩ j) wr)) (fun v _ => nd - (RowKit.intOf v).toNat)
     case atStart => exact ⟨0, rfl, Nat.zero_le _, H3⟩
     case round =>
      obtain ⟨j, rfl, hj, HTj⟩ := hrel
      by_cases cj : j < nd
      ·have ewj : IntKind.i64.wrap ((j : Int) + 1) = (j : Int) + 1 := by rw [IntKind.wrap_i64]; omega
       obtain ⟨s, hsx⟩ : ∃ s, xd[j]? = some s := ⟨_, List.getElem?_eq_getElem (by rw [HNd.out]; exact cj)⟩
       obtain ⟨b', off', he', oks1, hE⟩ := StrC_at (HR2.out.keep StrC.keep HTj.out.only) hsx
       subst he'
       have p0 := (hE wr (Only.refl _ _)).1 0 _ rfl
       rw [Nat.add_zero, Nat.mul_one] at p0
       have hsm := HSm.out.2.2.2.2.2 _ (List.mem_of_getElem? hsx)
       have hll := needTo_len HSm.out j (by rw [HNd.out]; exact hj)
       have hnx := needTo_next (x := ⟨xn, xv, xs, xd⟩) hsx
       have et : (((⟨#[32, 32, 110, 101, 101, 100, 115, 32]⟩ : ByteArray) ++ s) ++ (⟨#[10]⟩ : ByteArray)).toList = needP ++ s.toList ++ [10] := by
        rw [toList_append, toList_append, toList_data ⟨#[32, 32, 110, 101, 101, 100, 115, 32]⟩, toList_data ⟨#[10]⟩]
        simp [needP]
       have hsz : (((⟨#[32, 32, 110, 101, 101, 100, 115, 32]⟩ : ByteArray) ++ s) ++ (⟨#[10]⟩ : ByteArray)).size ≤ 109 := by
        rw [← size_toList, et]; simp only [List.length_append, List.length_cons, List.length_nil, needP, size_toList]; omega
       have HWr := Lib.hid (HTj.out.write (((⟨#[32, 32, 110, 101, 101, 100, 115, 32]⟩ : ByteArray) ++ s) ++ (⟨#[10]⟩ : ByteArray)) (by have := HLen0.out; have := HLl.out; simp only [List.length_append, List.length_cons, List.length_nil]; omega))
       rw [et, List.append_assoc (txtTo g i ++ nodeL (NodeD.toB ⟨xn, xv, xs, xd⟩) ++ [10]), ← hnx] at HWr
       have s1 : ¬ (9223372036854775807 < 8 + s.size) := by omega
       have s2 : ¬ (9223372036854775807 < 8 + s.size + 1) := by omega
       clear hsx hE oks1 hsm hll hnx et hsz
       go_wp2_with fail
       refine HWr.out.mono ?_
       rintro e w4 ⟨rfl, h4, -, -⟩
       have H4 := Lib.hid h4
       clear h4 HWr p0 s1 s2
       go_wp2_with fail
       go_roundw
       case rel => exact ⟨j + 1, by first | rfl | go_num, by omega, H4⟩
       case measure => simp [RowKit.intOf] <;> omega
      ·obtain rfl : j = nd := by omega
       have hnx := txtTo_next HX.out
       rw [node_text] at hnx
       have H5 : Hid (TI w (txtTo g (i + 1)) wr) := by
        have h := HTj.out
        have e : (NodeD.needs ⟨xn, xv, xs, xd⟩).length = j := HNd.out
        rw [e] at hnx
        show TI _ _ _
        rw [hnx, ← List.append_assoc, ← List.append_assoc]
        exact h
       clear hnx
       go_wp2_with fail
       go_roundw
       case rel => exact ⟨i + 1, by first | rfl | go_num, by omega, H5⟩
       case measure => simp [RowKit.intOf] <;> omega
  ·obtain rfl : i = n := by omega
   have hfin : txtTo g i = textG (toG g) := by unfold txtTo textG; rw [List.take_of_length_le (Nat.le_of_eq HN.out)]
   obtain ⟨p, hp, hq⟩ := HT.out.at_
   have HStr := Lib.hid (Sl.Builder_String_any (w.heap.size + 1) (w.heap.size + 1) (txtTo g i) wr (by rcases hq with rfl | rfl; exact .inl hp; exact .inr hp) (by have := HT.out.size; omega))
   have HFin := Lib.hid hfin
   clear hfin hp hq
   go_wp2_with fail
   refine HStr.out.mono ?_
   rintro e w9 ⟨rfl, hb9⟩
   have HE : Hid (∃ t : Str, Ending.returned (.string ⟨(txtTo g i).toArray⟩) = .returned (.string t) ∧ t.toList = textG (toG g) ∧ Only (fun _ => False) w w9) := ⟨_, rfl, by rw [toList_data]; exact HFin.out, by
    have o := HT.out.only.trans (Only.of_below hb9) fun k hk => .inl (by omega)
    exact o.trans' fun k hk => hk⟩
   clear hb9 HStr
   go_wp2_with fail
   go_ret
   exact HE.out
end
end Go.Proofs.YtmlfchjompfmaaaDoor
