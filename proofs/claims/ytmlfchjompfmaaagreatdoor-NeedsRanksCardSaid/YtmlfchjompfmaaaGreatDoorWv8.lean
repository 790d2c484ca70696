/- needs.Rank (package version under it). -/
import Derived.Test.YtmlfchjompfmaaaGreatDoorWv7
import Derived.Test.YtmlfchjompfmaaaGreatDoorNd2
set_option linter.unusedVariables false
namespace Go.Proofs.YtmlfchjompfmaaaGreatDoor
open Go.RowKit Go.Shelf
section
variable {w w' : World} {B : Nat}
set_option maxRecDepth 100000 in
theorem IndexR_any {v : Value} {xs : List RelD} (h : RowT 2 RelC B w v xs) {g : Nat} {cb : Array Value} {p : RelD → Bool} (eg : ∀ args w, (callFunc g args).run Tryz.prog w = .ok (.enter g args) w) (hp : PredT RelC B g cb p w) :
  Calls Tryz.prog 29 #[v, .func (.func g) #[] cb] w fun e w' => e = .returned (.int .i64 (idxG p xs)) ∧ Only (fun _ => False) w w' := by
 obtain ⟨ao, cap, rfl, hc1, hc2⟩ := h.shape
 have HH := Lib.hid h
 have HPr := Lib.hid hp
 obtain ⟨n, hn⟩ : ∃ n, xs.length = n := ⟨_, rfl⟩
 have HN := Lib.hid hn
 rw [hn] at hc1 ⊢
 clear h hp hn
 go_enter Tryz.func29, Tryz.ntmps29
 go_wp2_with fail
 go_loopw [5, 8] (fun _ vi wr => Hid (Only (fun _ => False) w wr) ∧ ∃ i : Nat, vi = .int .i64 i ∧ i ≤ n ∧ Hid (∀ x ∈ xs.take i, p x = false)) (fun _ v _ => n - (intOf v).toNat)
 case atStart => exact ⟨show Hid _ from Only.refl _ _, 0, rfl, Nat.zero_le _, show Hid _ from fun x hx => by simp at hx⟩
 case round =>
  obtain ⟨HO, i, rfl, hi, HZ⟩ := hrel
  by_cases ci : i < n
  ·have h2 := HH.out
   rw [HN.out] at h2
   obtain ⟨b, off, he, -, -⟩ := h2.at (by rw [HN.out]; omega)
   subst he
   obtain ⟨x, hx⟩ : ∃ x, xs[i]? = some x := ⟨_, List.getElem?_eq_getElem (by rw [HN.out]; exact ci)⟩
   obtain ⟨cs, hl, hr, hC⟩ := (h2.keep RelC.keep (Kp.of0 HO.out)).get hx
   have ewi : IntKind.i64.wrap ((i : Int) + 1) = (i : Int) + 1 := by rw [IntKind.wrap_i64]; omega
   have HR := Lib.hid hr
   have HL := Lib.hid hl
   have HX := Lib.hid hx
   have HC := Lib.hid (HPr.out wr cs x HO.out hC)
   obtain ⟨y, hy⟩ : ∃ y, p x = y := ⟨_, rfl⟩
   rw [hy] at HC
   have HY := Lib.hid hy
   clear hr hx hy h2 hl hC
   cases y with
   | true =>
    go_wp2_with (refine wpList_load_mid rfl 61 (.tmp 14) rfl b (off + i * 2) rfl cs _ HR.out Tryz.underlying61 rfl (by rw [HL.out]; kernel_rfl) ?_)
    refine HC.out.mono ?_
    rintro e w1 ⟨rfl, O1⟩
    go_wp2_with fail
    go_ret
    exact ⟨by rw [idxG_hit HX.out HY.out HZ.out]; rfl, HO.out.same O1⟩
   | false =>
    go_wp2_with (refine wpList_load_mid rfl 61 (.tmp 14) rfl b (off + i * 2) rfl cs _ HR.out Tryz.underlying61 rfl (by rw [HL.out]; kernel_rfl) ?_)
    refine HC.out.mono ?_
    rintro e w1 ⟨rfl, O1⟩
    have HO1 := Lib.hid (HO.out.same O1)
    clear O1
    go_wp2_with fail
    go_roundw
    case rel => exact ⟨HO1, i + 1, by first | rfl | go_num, by omega, show Hid _ from fun z hz => by
     rcases mem_take_snoc HX.out hz with h | rfl
     ·exact HZ.out z h
     ·exact HY.out⟩
    case measure => simp [intOf] <;> omega
  ·have : i = n := by omega
   subst this
   go_wp2_with fail
   go_ret
   have := HZ.out
   rw [List.take_of_length_le (Nat.le_of_eq HN.out)] at this
   exact ⟨by rw [idxG_none this]; rfl, HO.out⟩
theorem ContainsR_any {v : Value} {xs : List RelD} (h : RowT 2 RelC B w v xs) {g : Nat} {cb : Array Value} {p : RelD → Bool} (eg : ∀ args w, (callFunc g args).run Tryz.prog w = .ok (.enter g args) w) (hp : PredT RelC B g cb p w) (r : Bool) (hr : decide (0 ≤ idxG p xs) = r) :
  Calls Tryz.prog 17 #[v, .func (.func g) #[] cb] w fun e w' => e = .returned (.bool r) ∧ Only (fun _ => False) w w' := by
 have H := Lib.hid (IndexR_any h eg hp)
 obtain ⟨i, hi⟩ : ∃ i, idxG p xs = i := ⟨_, rfl⟩
 rw [hi] at H hr
 clear h hp hi
 go_enter Tryz.func17, Tryz.ntmps17
 go_wp2_with fail
 refine H.out.mono ?_
 rintro e w1 ⟨rfl, O1⟩
 go_wp2_with fail
 go_ret
 refine ⟨?_, O1⟩
 first
  | rfl
  | (rw [← hr]; rfl)
  | (rw [← hr]; simp)
  | simp
set_option maxRecDepth 100000 in
theorem Rank1_any (s : Str) (gs : Nat) (hg : w.cell? ⟨gs, 0, none⟩ = some (.string s)) : PredT RelC B 18 #[.pointer (some ⟨gs, 0, none⟩)] (fun r => decide (r.version = s)) w := by
 intro W cs x hO hC
 obtain ⟨rfl, -⟩ := hC
 have hlt : gs < w.heap.size := World.block_lt_of_cell? _ _ hg
 have hg2 : W.cell? ⟨gs, 0, none⟩ = some (.string s) := by
  rw [World.cell?_of_block (w := w) (hO.block gs hlt (fun f => f))]; exact hg
 have hgW : gs < W.heap.size := World.block_lt_of_cell? _ _ hg2
 have hd := bytes_dec x.version s
 have hne : gs ≠ W.heap.size := by omega
 clear hg hlt
 go_enter Tryz.func18, Tryz.ntmps18
 go_wp2_with fail
 go_ret
 exact ⟨rfl, (Only.refl _ _).alloc _⟩
theorem enter_Rank1 : ∀ args w, (callFunc 18 args).run Tryz.prog w = .ok (.enter 18 args) w := enters_of Tryz.func18 (by kernel_rfl) rfl
def newerB (v : Str) (r : RelD) : Bool := decide (0 < cmpV r.version.toList v.toList)
def rankV (p : PackD) (v : Str) : Int := if decide (0 ≤ idxG (fun r : RelD => decide (r.version = v)) p.rels) = true then ((p.rels.filter (newerB v)).length : Int) else -1
set_option maxRecDepth 100000 in
set_option maxHeartbeats 4000000 in
theorem Rank_x {csp : List Value} {p : PackD} (hp : PackC B w csp p) (hB : B ≤ w.heap.size) (hlen : p.rels.length ≤ 1000000) (v : Str) (hv : okS v) (hL : Laid w) : Calls Tryz.prog 7 #[.agg csp.toArray, .string v] w (fun e w' => e = .returned (.int .i64 (rankV p v)) ∧ Only (fun _ => False) w w') := by
 obtain ⟨r, hr⟩ : ∃ r, rankV p v = r := ⟨_, rfl⟩
 rw [hr]
 obtain ⟨v1, v2, v3, v4, v5, v6, rfl, -, -, row, -⟩ := hp
 obtain ⟨wb, hwb⟩ : ∃ x, (w.alloc (.cells #[.string p.name, .int .i64 p.line, v1, v2, v3, v4, v5, v6] 36)).alloc (.cells #[.string v] 9) = x := ⟨_, rfl⟩
 have ob : Only (fun _ => False) w wb := by rw [← hwb]; exact ((Only.refl _ _).alloc _).alloc _
 have cv : wb.cell? ⟨w.heap.size + 1, 0, none⟩ = some (.string v) := by rw [← hwb]; simp
 have cr : wb.cell? ⟨w.heap.size, 2, none⟩ = some v1 := by rw [← hwb]; simp
 have rowb := row.keep RelC.keep (Kp.of0 ob)
 obtain ⟨cb, hcb⟩ : ∃ x, decide (0 ≤ idxG (fun r : RelD => decide (r.version = v)) p.rels) = x := ⟨_, rfl⟩
 have HC := Lib.hid (ContainsR_any rowb enter_Rank1 (Rank1_any v (w.heap.size + 1) cv) cb hcb)
 have hres := hr
 unfold rankV at hres
 rw [hcb] at hres
 have HRes := Lib.hid hres
 have HOB := Lib.hid ob
 have HRow := Lib.hid rowb
 have HL := Lib.hid (hL.only ob)
 have HCV := Lib.hid (show ∀ W, Only (fun _ => False) wb W → W.cell? ⟨w.heap.size + 1, 0, none⟩ = some (.string v) ∧ W.cell? ⟨w.heap.size, 2, none⟩ = some v1 from fun W ho => ⟨by rw [World.cell?_of_block (w := wb) (ho.block _ (World.block_lt_of_cell? _ _ cv) (fun f => f))]; exact cv, by rw [World.cell?_of_block (w := wb) (ho.block _ (World.block_lt_of_cell? _ _ cr) (fun f => f))]; exact cr⟩)
 have HV := Lib.hid hv
 have HLen := Lib.hid hlen
 obtain ⟨ao, cap, rfl, k1, k2⟩ := rowb.shape
 obtain ⟨n, hn⟩ : ∃ n, p.rels.length = n := ⟨_, rfl⟩
 have HN := Lib.hid hn
 rw [hn] at HC HRow cr k1 HCV hwb
 rw [hn]
 clear hr hres row rowb hL hv hlen hcb ob hn
 go_enter Tryz.func7, Tryz.ntmps7
 go_wp2_with fail
 refine HC.out.mono ?_
 rintro e w1 ⟨rfl, O1⟩
 have c1 := (HCV.out w1 O1).2
 have HO1 := Lib.hid O1
 clear O1 HC cr cv hwb
 cases cb with
 | false =>
  have h : (-1 : Int) = r := HRes.out
  subst h
  clear HRes
  go_wp2_with fail
  go_ret
  exact ⟨rfl, HOB.out.same HO1.out⟩
 | true =>
  have HR2 : Hid (((p.rels.filter (newerB v)).length : Int) = r) := HRes.out
  clear HRes
  have hn6 : n ≤ 1000000 := by rw [← HN.out]; exact HLen.out
  go_wp2_with fail
  go_loopw [5, 16] (fun ci vi wr => Hid (Only (fun _ => False) wb wr) ∧ ∃ i k : Nat, ci = .int .i64 k ∧ vi = .int .i64 i ∧ i ≤ n ∧ k ≤ i ∧ Hid (((p.rels.take i).filter (newerB v)).length = k)) (fun _ v _ => n - (RowKit.intOf v).toNat)
  case atStart => exact ⟨HO1, 0, 0, rfl, rfl, Nat.zero_le _, Nat.le_refl _, show Hid _ from by simp [Hid]⟩
  case round =>
   obtain ⟨HOi, i, k, rfl, rfl, hi, hk, HK⟩ := hrel
   by_cases ci : i < n
   ·have ewi : IntKind.i64.wrap ((i : Int) + 1) = (i : Int) + 1 := by rw [IntKind.wrap_i64]; omega
    have ewk : IntKind.i64.wrap ((k : Int) + 1) = (k : Int) + 1 := by rw [IntKind.wrap_i64]; omega
    obtain ⟨y, hx⟩ : ∃ y, p.rels[i]? = some y := ⟨_, List.getElem?_eq_getElem (by rw [HN.out]; exact ci)⟩
    obtain ⟨b, off, he, hok, hE⟩ := RelC_at (HRow.out.keep RelC.keep (Kp.of0 HOi.out)) hx
    subst he
    have hr2 := (hE wr (Only.refl _ _)).1
    have g0 := hr2 0 _ rfl
    have g1 := hr2 1 _ rfl
    rw [Nat.add_zero] at g0
    obtain ⟨yv, yo⟩ := y
    dsimp only at g0 g1 hok
    have oc : Only (fun _ => False) wb (wr.alloc (.cells #[.string yv, .bool yo] 61)) := HOi.out.alloc _
    have d1 := (HCV.out _ oc).1
    obtain ⟨c, hc⟩ : ∃ c, cmpV yv.toList v.toList = c := ⟨_, rfl⟩
    have hcmp := Compare_x yv v hok HV.out (HL.out.only oc)
    rw [hc] at hcmp
    have HCmp := Lib.hid hcmp
    have HOc := Lib.hid oc
    have HX := Lib.hid hx
    have HCc := Lib.hid hc
    clear hr2 hE hx hok oc hcmp hc
    go_wp2_with fail
    refine HCmp.out.mono ?_
    rintro e w2 ⟨rfl, O2⟩
    have HO2 := Lib.hid (HOc.out.same O2)
    clear O2 HCmp
    by_cases c0 : 0 < c
    ·have HK2 : Hid (((p.rels.take (i + 1)).filter (newerB v)).length = k + 1) := by
      rw [Hid, List.take_add_one, HX.out, List.filter_append, List.length_append, HK.out]
      simp only [Option.toList_some, List.filter_cons, newerB, HCc.out, decide_eq_true c0, if_true, List.filter_nil, List.length_cons, List.length_nil]
     go_wp2_with fail
     go_roundw
     case rel => exact ⟨HO2, i + 1, k + 1, by first | rfl | go_num, by first | rfl | go_num, by omega, by omega, HK2⟩
     case measure => simp [RowKit.intOf] <;> omega
    ·have HK2 : Hid (((p.rels.take (i + 1)).filter (newerB v)).length = k) := by
      rw [Hid, List.take_add_one, HX.out, List.filter_append, List.length_append, HK.out]
      simp only [Option.toList_some, List.filter_cons, newerB, HCc.out, decide_eq_false c0, Bool.false_eq_true, if_false, List.filter_nil, List.length_nil, Nat.add_zero]
     go_wp2_with fail
     go_roundw
     case rel => exact ⟨HO2, i + 1, k, by first | rfl | go_num, by first | rfl | go_num, by omega, by omega, HK2⟩
     case measure => simp [RowKit.intOf] <;> omega
   ·obtain rfl : i = n := by omega
    have hkr : (k : Int) = r := by
     rw [← HR2.out, ← HK.out, List.take_of_length_le (Nat.le_of_eq HN.out)]
    subst hkr
    clear HR2 HK
    go_wp2_with fail
    go_ret
    exact ⟨rfl, HOB.out.same HOi.out⟩
end
end Go.Proofs.YtmlfchjompfmaaaGreatDoor
