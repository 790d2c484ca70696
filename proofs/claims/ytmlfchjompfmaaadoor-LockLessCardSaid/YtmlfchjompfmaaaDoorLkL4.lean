/- LockLess, walked. -/
import Derived.Test.YtmlfchjompfmaaaDoorLkL3
set_option linter.unusedVariables false
namespace Go.Proofs.YtmlfchjompfmaaaDoor
open Go.RowKit
open Lk (textG graphB parseB headL bodyG nls begL nodesOf)
section
variable {w w' : World}
set_option maxRecDepth 100000 in
set_option maxHeartbeats 8000000 in
theorem LockLess_walk {c1 : List Value} {g : List NodeD} {z : Int} (h1 : GraC w.heap.size w c1 g) (hz : 0 ≤ z ∧ z ≤ 65535) (hL : Laid w) (hSh : w.ShapedOpen Tryd.prog) : Calls Tryd.prog 4 #[.agg c1.toArray, .int .u16 z] w (fun e w' => e = .returned (.bool true) ∧ Only (fun _ => False) w w') := by
 have hM : LaidM w := LaidM.of hL hSh
 obtain ⟨z', rfl, hz'⟩ := bounds_u16' hz
 clear hz
 obtain ⟨v1, rfl, r1⟩ := h1
 obtain ⟨a1, d1, rfl, k1, k2⟩ := r1.shape
 have HM := Lib.hid hM
 have HR1 : Hid (∀ W, Only (fun _ => False) w W → RowT 4 NodC W.heap.size W (.slice a1 g.length d1) g) := fun W o => (r1.keep NodC.keep (Kp.of0 o)).lift NodC.lift o.size (Nat.le_refl _)
 obtain ⟨n1, hn1⟩ : ∃ n, g.length = n := ⟨_, rfl⟩
 rw [hn1] at k1 HR1 ⊢
 obtain ⟨w0, hw0⟩ : ∃ W, w.alloc (.cells #[.slice a1 n1 d1] 39) = W := ⟨_, rfl⟩
 have hba : w0.heap[w.heap.size]? = some (.cells #[.slice a1 n1 d1] 39 (0, 0)) := by rw [← hw0]; exact heap_alloc_new _ _
 have oa : Only (fun _ => False) w w0 := by rw [← hw0]; exact (Only.refl _ _).alloc _
 have HBox : Hid (∀ W, Only (fun _ => False) w0 W → W.cell? ⟨w.heap.size, 0, none⟩ = some (.slice a1 n1 d1)) := fun W o => by rw [cell_block (only_block hba o (fun f => f))]; rfl
 have HO0 := Lib.hid oa
 have HFix : Hid (∀ W, Only (fun _ => False) w0 W → Calls Tryd.prog 15 #[] W (fun e w' => e = .returned (.bool true) ∧ Only (fun _ => False) W w')) := fun W o => fixed_x (hM.only (oa.same o))
 have bx0 := HBox.out w0 (Only.refl _ _)
 have HZ := Lib.hid hz'
 clear hba oa r1 hL hSh hM hn1 k1 k2 hz'
 go_enter Tryd.func4, Tryd.ntmps4
 go_wp2_with fail
 refine (GreatG_x (HR1.out _ HO0.out)).mono ?_
 rintro e w1 ⟨b1, rfl, O1, hs1⟩
 have HO1 := Lib.hid O1
 have HS1 := Lib.hid hs1
 have p0 := HBox.out w1 O1
 clear O1 hs1
 cases b1 with
 | true =>
  go_wp2_with fail
  refine (HFix.out w1 HO1.out).mono ?_
  rintro e w2 ⟨rfl, O2⟩
  have HO2 := Lib.hid (HO1.out.same O2)
  clear O2
  go_wp2_with fail
  go_ret
  exact ⟨rfl, HO0.out.same HO2.out⟩
 | false =>
  obtain ⟨gb, hgb⟩ : ∃ b, graphB (toG g) = b := ⟨_, rfl⟩
  have HGb := Lib.hid hgb
  clear hgb
  go_wp2_with fail
  refine (May28_x (HR1.out _ (HO0.out.same HO1.out)) gb HGb.out).mono ?_
  rintro e w4 ⟨rfl, O4⟩
  have HO4 := Lib.hid (HO1.out.same O4)
  have p6 := HBox.out w4 HO4.out
  clear O4
  cases gb with
  | false =>
   go_wp2_with fail
   refine (HFix.out w4 HO4.out).mono ?_
   rintro e w5 ⟨rfl, O5⟩
   have HO5 := Lib.hid (HO4.out.same O5)
   clear O5
   go_wp2_with fail
   go_ret
   exact ⟨rfl, HO0.out.same HO5.out⟩
  | true =>
   go_wp2_with fail
   refine (RText_x (HR1.out _ (HO0.out.same HO4.out)) (HS1.out (by trivial))).mono ?_
   rintro e w5 ⟨t, rfl, ht, O5⟩
   have HO5 := Lib.hid (HO4.out.same O5)
   obtain ⟨L, hLL⟩ : ∃ L, headL :: bodyG (toG g) = L := ⟨_, rfl⟩
   have HLn : Hid (LinesOf t L) := by rw [← hLL]; exact LinesOf.of (HS1.out (by trivial)) ht HGb.out
   have HLaw : Hid (∀ k, 0 < k → ∃ H, parseB (t.toList.take (begL L k)) = .ok H ∧ H.length = nodesOf (L.take k)) := fun k hk => by
    rw [← hLL, ht]; exact Lk.less_law HGb.out hk
   obtain ⟨N, hN⟩ : ∃ N, L.length = N := ⟨_, rfl⟩
   have HN := Lib.hid hN
   have hN0 : 0 < N := by rw [← hN]; exact HLn.out.pos
   have HNls : Hid (nls t.toList = N) := by rw [← hN]; exact HLn.out.len
   have hsz := HLn.out.size
   clear O5 hLL ht hN p6 p0 bx0
   go_wp2_with fail
   go_loopw [6, 7, 27] (fun vl _ vi wr => Hid (Only (fun _ => False) w5 wr) ∧ ∃ i k : Nat, vl = .int .i64 k ∧ vi = .int .i64 i ∧ i ≤ t.size ∧ k ≤ i ∧ Hid (nls (t.toList.take i) = k)) (fun _ _ v _ => t.size - (RowKit.intOf v).toNat)
   case atStart => exact ⟨Only.refl _ _, 0, 0, rfl, rfl, Nat.zero_le _, Nat.le_refl _, rfl⟩
   case round =>
    obtain ⟨HO, i, k, rfl, rfl, hi, hk, HK⟩ := hrel
    by_cases ci : i < t.size
    ·have ewi : IntKind.i64.wrap ((i : Int) + 1) = (i : Int) + 1 := by rw [IntKind.wrap_i64]; omega
     have ewk : IntKind.i64.wrap ((k : Int) + 1) = (k : Int) + 1 := by rw [IntKind.wrap_i64]; omega
     obtain ⟨b, hb⟩ : ∃ b : UInt8, t[i] = b := ⟨_, rfl⟩
     have HNx : Hid (nls (t.toList.take (i + 1)) = k + if b.toNat = 10 then 1 else 0) := by
      rw [Hid, Lk.nls_next (toList_at ci), HK.out, hb]
     by_cases c10 : b.toNat = 10
     ·have HK2 : Hid (nls (t.toList.take (i + 1)) = k + 1) := by rw [Hid, HNx.out, if_pos c10]
      clear HNx
      go_wp2_with fail
      go_roundw
      case rel => exact ⟨HO, i + 1, k + 1, by first | rfl | go_num, by first | rfl | go_num, by omega, by omega, HK2⟩
      case measure => simp [RowKit.intOf] <;> omega
     ·have HK2 : Hid (nls (t.toList.take (i + 1)) = k) := by rw [Hid, HNx.out, if_neg c10]; rfl
      have q2 : ((b.toNat : Int) == 10) = false := by rw [beq_eq_false_iff_ne]; omega
      clear HNx
      go_wp2_with fail
      go_roundw
      case rel => exact ⟨HO, i + 1, k, by first | rfl | go_num, by first | rfl | go_num, by omega, by omega, HK2⟩
      case measure => simp [RowKit.intOf] <;> omega
    ·obtain rfl : i = t.size := by omega
     obtain rfl : k = N := by rw [← HK.out, take_size]; exact HNls.out
     obtain ⟨m, hm⟩ : ∃ m, z' % k = m := ⟨_, rfl⟩
     have hmk : m < k := by rw [← hm]; exact Nat.mod_lt _ hN0
     obtain ⟨K, hK⟩ : ∃ K, m + 1 = K := ⟨_, rfl⟩
     have hzz := HZ.out
     have ewz : IntKind.i64.wrap (z' : Int) = z' := IntWalk.i64_in _ (by omega)
     have ewm : IntKind.i64.wrap (1 + (m : Int)) = (K : Int) := by rw [IntWalk.i64_in _ (by omega)]; omega
     have tm : Int.tmod (z' : Int) (k : Int) = (m : Int) := by
      rw [Int.tmod_eq_emod_of_nonneg (by omega), ← hm]
      rfl
     have HKN : Hid (0 < K ∧ K ≤ k ∧ k ≤ 700000) := ⟨by omega, by omega, by omega⟩
     clear HK HNls hi hk ci hmk hm hK hzz
     go_wp2_with fail
     clear tm ewz ewm
     go_loopw [9, 10, 11] (fun ve vn vi wq => Hid (Only (fun _ => False) w5 wq) ∧ ∃ n e d : Nat, ve = .int .i64 e ∧ vn = .int .i64 d ∧ vi = .int .i64 n ∧ n ≤ K ∧ Hid (begL L n = e ∧ nodesOf (L.take n) = d)) (fun _ _ v _ => K - (RowKit.intOf v).toNat)
     case atStart => exact ⟨HO, 0, 0, 0, rfl, rfl, rfl, Nat.zero_le _, ⟨rfl, rfl⟩⟩
     case round =>
      clear HO
      obtain ⟨HO, n, e, d, rfl, rfl, rfl, hn, HED⟩ := hrel
      have hKN := HKN.out
      by_cases cn : n < K
      ·obtain ⟨l, hl⟩ : ∃ l, L[n]? = some l := ⟨_, List.getElem?_eq_getElem (by rw [HN.out]; omega)⟩
       have hnx := HLn.out.next hl
       rw [HED.out.1] at hnx
       have he : e < t.size := by omega
       have hd0 : d ≤ n := by
        rw [← HED.out.2]
        unfold nodesOf
        refine Nat.le_trans (List.length_filter_le _ _) ?_
        rw [List.length_take]; omega
       obtain ⟨b0, hb0⟩ : ∃ b : UInt8, t[e] = b := ⟨_, rfl⟩
       have hin : Lk.isN l = decide (b0.toNat = 110) := by
        have h := HLn.out.isN hl (by rw [HED.out.1]; exact he)
        simp only [HED.out.1] at h
        rw [h, hb0]
       have HIn := Lib.hid hin
       have HLl := Lib.hid hl
       have HNx := Lib.hid hnx
       have ewn : IntKind.i64.wrap ((n : Int) + 1) = (n : Int) + 1 := by rw [IntKind.wrap_i64]; omega
       have ewd : IntKind.i64.wrap ((d : Int) + 1) = (d : Int) + 1 := by rw [IntKind.wrap_i64]; omega
       clear hin hl hKN
       have HBy : Hid (∀ x, e ≤ x → x < e + l.length → ∀ h : x < t.size, ¬ t[x].toNat = 10) := fun x h1 h2 h3 => by
        have h := HLn.out.byte HLl.out (j := x - e) (by omega) (by rw [HED.out.1]; omega)
        simp only [HED.out.1] at h
        have ex : e + (x - e) = x := by omega
        simp only [ex] at h
        exact h
       have HLa : Hid (∀ h : e + l.length < t.size, t[e + l.length].toNat = 10) := fun h3 => by
        have h := HLn.out.last HLl.out (by rw [HED.out.1]; exact h3)
        simp only [HED.out.1] at h
        exact h
       have HStep : ∀ d' : Nat, (if Lk.isN l = true then 1 else 0) + d = d' → Hid (begL L (n + 1) = e + l.length + 1 ∧ nodesOf (L.take (n + 1)) = d') := fun d' h => ⟨by rw [Lk.beg_next HLl.out, HED.out.1], by rw [Lk.nodes_next HLl.out, HED.out.2]; omega⟩
       have HStep2 := Lib.hid HStep
       clear HStep
       by_cases c110 : b0.toNat = 110
       ·have HS2 := HStep2.out (d + 1) (by rw [HIn.out, decide_eq_true c110, if_pos rfl]; omega)
        clear HStep2
        go_wp2_with fail
        go_loopw [9] (fun ve wz => Hid (Only (fun _ => False) w5 wz) ∧ ∃ x : Nat, ve = .int .i64 x ∧ e ≤ x ∧ x ≤ e + l.length) (fun v _ => (e + l.length) - (RowKit.intOf v).toNat)
        case atStart => exact ⟨HO, e, rfl, Nat.le_refl _, by omega⟩
        case round =>
         clear HO
         obtain ⟨HO, x, rfl, hx1, hx2⟩ := hrel
         have hnx := HNx.out
         have hxs : x < t.size := by omega
         have ewx : IntKind.i64.wrap ((x : Int) + 1) = (x : Int) + 1 := by rw [IntKind.wrap_i64]; omega
         by_cases cx : x < e + l.length
         ·obtain ⟨b, hb⟩ : ∃ b : UInt8, t[x] = b := ⟨_, rfl⟩
          have c10 : ¬ b.toNat = 10 := by rw [← hb]; exact HBy.out x hx1 cx hxs
          have q3 : ((b.toNat : Int) == 10) = false := by rw [beq_eq_false_iff_ne]; omega
          have q4 : ((b.toNat : Int) != 10) = true := by rw [bne, q3]; rfl
          go_wp2_with fail
          go_roundw
          case rel => exact ⟨HO, x + 1, by first | rfl | go_num, by omega, by omega⟩
          case measure => simp [RowKit.intOf] <;> omega
         ·obtain ⟨y, hy⟩ : ∃ y, x = y := ⟨_, rfl⟩
          obtain rfl : x = e + l.length := by omega
          have hla := HLa.out hxs
          have hey : e + l.length = y := hy
          simp only [hey] at hla hxs ewx ⊢
          obtain ⟨b, hb⟩ : ∃ b : UInt8, t[y] = b := ⟨_, rfl⟩
          have c10 : b.toNat = 10 := by rw [← hb]; exact hla
          have HS3 : Hid (begL L (n + 1) = y + 1 ∧ nodesOf (L.take (n + 1)) = (d + 1)) := by rw [← hey]; exact HS2
          go_wp2_with fail
          go_roundw
          case rel => exact ⟨HO, n + 1, y + 1, (d + 1), by first | rfl | go_num, by first | rfl | go_num, by first | rfl | go_num, by omega, HS3⟩
          case measure => simp [RowKit.intOf] <;> omega
       ·have HS2 := HStep2.out d (by rw [HIn.out, decide_eq_false c110, if_neg (by simp)]; omega)
        have q2 : ((b0.toNat : Int) == 110) = false := by rw [beq_eq_false_iff_ne]; omega
        clear HStep2
        go_wp2_with fail
        go_loopw [9] (fun ve wz => Hid (Only (fun _ => False) w5 wz) ∧ ∃ x : Nat, ve = .int .i64 x ∧ e ≤ x ∧ x ≤ e + l.length) (fun v _ => (e + l.length) - (RowKit.intOf v).toNat)
        case atStart => exact ⟨HO, e, rfl, Nat.le_refl _, by omega⟩
        case round =>
         clear HO
         obtain ⟨HO, x, rfl, hx1, hx2⟩ := hrel
         have hnx := HNx.out
         have hxs : x < t.size := by omega
         have ewx : IntKind.i64.wrap ((x : Int) + 1) = (x : Int) + 1 := by rw [IntKind.wrap_i64]; omega
         by_cases cx : x < e + l.length
         ·obtain ⟨b, hb⟩ : ∃ b : UInt8, t[x] = b := ⟨_, rfl⟩
          have c10 : ¬ b.toNat = 10 := by rw [← hb]; exact HBy.out x hx1 cx hxs
          have q3 : ((b.toNat : Int) == 10) = false := by rw [beq_eq_false_iff_ne]; omega
          have q4 : ((b.toNat : Int) != 10) = true := by rw [bne, q3]; rfl
          go_wp2_with fail
          go_roundw
          case rel => exact ⟨HO, x + 1, by first | rfl | go_num, by omega, by omega⟩
          case measure => simp [RowKit.intOf] <;> omega
         ·obtain ⟨y, hy⟩ : ∃ y, x = y := ⟨_, rfl⟩
          obtain rfl : x = e + l.length := by omega
          have hla := HLa.out hxs
          have hey : e + l.length = y := hy
          simp only [hey] at hla hxs ewx ⊢
          obtain ⟨b, hb⟩ : ∃ b : UInt8, t[y] = b := ⟨_, rfl⟩
          have c10 : b.toNat = 10 := by rw [← hb]; exact hla
          have HS3 : Hid (begL L (n + 1) = y + 1 ∧ nodesOf (L.take (n + 1)) = d) := by rw [← hey]; exact HS2
          go_wp2_with fail
          go_roundw
          case rel => exact ⟨HO, n + 1, y + 1, d, by first | rfl | go_num, by first | rfl | go_num, by first | rfl | go_num, by omega, HS3⟩
          case measure => simp [RowKit.intOf] <;> omega
      ·obtain rfl : n = K := by omega
       have he : e ≤ t.size := by rw [← HED.out.1]; exact HLn.out.beg _
       obtain ⟨H, hp, hlen⟩ := HLaw.out n HKN.out.1
       obtain ⟨t2, ht2⟩ : ∃ t2, t.extract 0 e = t2 := ⟨_, rfl⟩
       have het : t2.toList = t.toList.take e := by rw [← ht2, ext_toList]; simp
       have hp2 : parseB t2.toList = .ok H := by rw [het, ← HED.out.1]; exact hp
       have hH : H.length = d := by rw [hlen, HED.out.2]
       have hps : t2.size < 4294967281 := by
        rw [← size_toList, het, List.length_take, size_toList]
        omega
       have HP := Lib.hid (Parse_x (w := wr) t2 hps (HM.out.only (HO0.out.same (HO5.out.same HO.out))))
       have HP2 := Lib.hid hp2
       have HH := Lib.hid hH
       clear hp hlen het hp2 hH hps
       go_wp2_with fail
       refine HP.out.mono ?_
       rintro ee w6 ⟨gv, ln, er, rfl, O6, hmm⟩
       rw [HP2.out] at hmm
       obtain ⟨rfl, rfl, g2, hG, hr⟩ := hmm
       have hn2 : g2.length = d := by rw [← HH.out, ← hG]; simp [toG]
       obtain ⟨a2, c2, rfl, k3, k4⟩ := hr.shape
       rw [hn2] at k3 ⊢
       have HO6 := Lib.hid (HO5.out.same (HO.out.same O6))
       obtain ⟨wb, hwb⟩ : ∃ W, (w6.alloc (.cells #[.slice a2 d c2] 39)).alloc (.cells #[.int .i64 0, .int .i64 0] 44) = W := ⟨_, rfl⟩
       have ob : Only (fun _ => False) w6 wb := by rw [← hwb]; exact ((Only.refl _ _).alloc _).alloc _
       have hb5 : wb.heap[w6.heap.size]? = some (.cells #[.slice a2 d c2] 39 (0, 0)) := by rw [← hwb]; exact only_block (heap_alloc_new w6 _) ((Only.refl (fun _ => False) _).alloc _) (fun f => f)
       have HBx : Hid (∀ W, Only (fun _ => False) wb W → W.cell? ⟨w6.heap.size, 0, none⟩ = some (.slice a2 d c2)) := fun W o => by rw [cell_block (only_block hb5 o (fun f => f))]; rfl
       have HOb := Lib.hid (HO6.out.same ob)
       clear O6 hG hr hn2 ob hb5
       subst hwb
       go_wp2_with fail
       refine (HFix.out _ HOb.out).mono ?_
       rintro ee w7 ⟨rfl, O7⟩
       have HO7 := Lib.hid (HOb.out.same O7)
       have p7 := HBx.out w7 O7
       clear O7
       go_wp2_with fail
       go_ret
       exact ⟨rfl, HO0.out.same HO7.out⟩
end
end Go.Proofs.YtmlfchjompfmaaaDoor
