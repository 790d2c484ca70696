/- luby.Forget: which notes are forgotten: some that need not stay. -/
import Derived.Test.YtjedgdamommgeaaGreatFg6
set_option linter.unusedVariables false
namespace Go.Proofs.YtjedgdamommgeaaGreat
open Go.Shelf Go.RowKit Go.Lib Go.Sort
structure GoneOf (L : List NQ) (gone : List Int) : Prop where
 ord : gone.Pairwise (· ≤ ·)
 sub : ∃ m r : List NQ, (m ++ r).Perm (L.filter fun x => !staysN x) ∧ gone.Perm (m.map (·.num))
theorem sortI_ord (xs : List Int) : (xs.mergeSort fun x y => decide (x ≤ y)).Pairwise (· ≤ ·) := by
 have := List.pairwise_mergeSort (le := fun x y : Int => decide (x ≤ y)) (fun a b c h1 h2 => by simp at *; omega) (fun a b => by simp; omega) xs
 exact this.imp fun h => by simpa using h
section
variable {w w' : World}
set_option maxRecDepth 100000 in
set_option maxHeartbeats 3200000 in
theorem Forget_any {v : Value} {L : List NQ} (h : NRow w v L) (hn : L.length ≤ 1099511627776) :
  Calls Tryz.prog 82 #[v] w fun e w' => ∃ vo gone, e = .returned vo ∧ w'.ownsRow 0 3 1 vo gone.length (gone.map cI) ∧ (∀ k, vo.ownBlock = some k → w.heap.size ≤ k) ∧ Only (fun _ => False) w w' ∧ GoneOf L gone ∧ gone.length ≤ L.length := by
 have HC := Lib.hid (CloneN_any h hn)
 obtain ⟨ao, cap, rfl, hc1, hc2⟩ := own_slice h
 obtain ⟨n, hnn⟩ : ∃ n, L.length = n := ⟨_, rfl⟩
 have HN := Lib.hid hnn
 rw [hnn] at HC hc1 hn ⊢
 clear h hnn
 go_enter Tryz.func82, Tryz.ntmps82
 go_wp2_with fail
 refine HC.out.mono ?_
 rintro e w1 ⟨v1, rfl, h1, hb1, O1⟩
 have HD := Lib.hid (DeleteN_any (p := staysN) h1 (by rw [HN.out]; exact hn) enter_stays (cb := #[]) (fun W x _ => stays_any x W))
 have HB1 := Lib.hid hb1
 have HO1 := Lib.hid O1
 clear hb1 O1 HC
 obtain ⟨a1, c1, rfl, -, -⟩ := own_slice h1
 clear h1
 go_wp2_with fail
 refine HD.out.mono ?_
 rintro e w2 ⟨v2, rfl, h2, hb2, O2⟩
 have hle : (L.filter fun x => !staysN x).length ≤ n := by rw [← HN.out]; exact List.length_filter_le _ _
 have hlo2 : ∀ k, v2.ownBlock = some k → w.heap.size ≤ k := fun k hk => HB1.out k (by rw [← hb2]; exact hk)
 have hO2 : Only (fun _ => False) w w2 := HO1.out.trans O2 fun k hk => .inr (HB1.out k hk)
 have HS := Lib.hid (SortStable_any h2 (by omega))
 have HLo2 := Lib.hid hlo2
 have HO2 := Lib.hid hO2
 obtain ⟨M0, hM0⟩ : ∃ M0, (L.filter fun x => !staysN x) = M0 := ⟨_, rfl⟩
 rw [hM0] at HS hle h2
 have HM0 := Lib.hid hM0
 obtain ⟨L0, hL0⟩ : ∃ L0, M0.length = L0 := ⟨_, rfl⟩
 obtain ⟨a2, c2, hv2, hcap2, hcm2⟩ := own_slice h2
 rw [hL0] at hle hv2 hcap2
 subst hv2
 have HL0 := Lib.hid hL0
 clear HD O2 hlo2 hO2 hb2 hM0 h2 hL0
 go_wp2_with fail
 refine HS.out.mono ?_
 rintro e w3 ⟨rfl, M, hperm, h3, O3⟩
 have hl3 : M.length = L0 := by rw [← HL0.out]; exact hperm.length_eq
 have hO3 : Only (fun _ => False) w w3 := HO2.out.trans O3 fun k hk => .inr (HLo2.out k hk)
 have HPm := Lib.hid hperm
 have HR3 := Lib.hid h3
 have HO3 := Lib.hid hO3
 obtain ⟨m, hm⟩ : ∃ m : Nat, L0 / 2 = m := ⟨_, rfl⟩
 have hmz : wrap64 ((L0 : Int) / 2) = (m : Int) := by
  rw [show (L0 : Int) / 2 = (m : Int) by omega]
  rw [← IntWalk.i64_left]; exact IntWalk.i64_in _ (by omega)
 have hmd : (L0 : Int) / 2 = (m : Int) := by omega
 have hm1 : m ≤ L0 := by omega
 have hm2 : m ≤ c2 := by omega
 have hm3 : (m : Int) ≤ (c2 : Int) := by omega
 have HL3 := Lib.hid hl3
 clear HS O3 hO3 hperm h3 hl3
 go_wp2_with fail
 clear hmz hmd hm
 go_loopw [4, 6, 18] (fun v4 _ vi wr => ∃ (i : Nat) (aa : Option Addr) (ca : Nat), vi = .int .i64 i ∧ i ≤ m ∧ v4 = .slice aa i ca ∧ Hid (wr.ownsRow 0 3 1 v4 i (((M.take i).map (·.num)).map cI)) ∧ Hid (∀ q, v4.ownBlock = some q → w3.heap.size ≤ q) ∧ Hid (Only (fun _ => False) w3 wr)) (fun _ _ v _ => m - (intOf v).toNat)
 case atStart => exact ⟨0, none, 0, rfl, Nat.zero_le _, rfl, show Hid _ from World.ownsRow_nil _ _ _ _, show Hid _ from fun k hk => by simp [Value.ownBlock] at hk, show Hid _ from Only.refl _ _⟩
 case round =>
  obtain ⟨i, aa, ca, rfl, hi, rfl, HR, HNw, HO⟩ := hrel
  by_cases ci : i < m
  ·obtain ⟨b, cap', he, -, -⟩ := own_some HR3.out (by rw [HL3.out]; omega)
   simp only [Value.slice.injEq] at he
   obtain ⟨rfl, -, rfl⟩ := he
   have hiM : i < M.length := by rw [HL3.out]; omega
   obtain ⟨x, hx⟩ : ∃ x, M.getD i default = x := ⟨_, rfl⟩
   have hr := (HR3.out.only HO.out (fun _ _ f => f)).range hiM
   rw [hx] at hr
   obtain ⟨Bk, hBk⟩ : ∃ Bk, wr.heap.size = Bk := ⟨_, rfl⟩
   obtain ⟨wA, hwA⟩ : ∃ wA, wr.alloc (.cells #[.int .i64 0, .int .i64 0, .int .i64 0, .bool false] 116) = wA := ⟨_, rfl⟩
   have hbA : wA.heap[Bk]? = some (.cells #[.int .i64 0, .int .i64 0, .int .i64 0, .bool false] 116 (0, 0)) := by rw [← hwA, ← hBk]; exact heap_alloc_new _ _
   obtain ⟨w9, hw9⟩ : ∃ w9, wA.setCells Bk 0 (encN x) = w9 := ⟨_, rfl⟩
   have htA : wA.there Bk 0 4 := there_blk hbA rfl
   have hb9 : w9.rangeAt Bk 0 (encN x) := by rw [← hw9]; exact World.rangeAt_setCells_same _ _ _ _ htA
   have o9 : Only (fun _ => False) wr w9 := by rw [← hw9, ← hwA]; exact ((Only.refl _ _).alloc _).trans (only_setCells _ _ _ _) (fun k hk => .inr (by omega))
   have st9 : (storeCells ⟨Bk, 0, none⟩ (encN x) 0).run Tryz.prog wA = .ok () w9 := by rw [← hw9]; exact store_there htA x
   have q9 : w9.cell? ⟨Bk, 0, none⟩ = some (.int .i64 x.num) := hb9 0 _ rfl
   have hrow9 := own_only HR.out o9 (fun _ _ f => f)
   have hsn : ((M.take (i + 1)).map (·.num)).map cI = ((M.take i).map (·.num)).map cI ++ [cI x.num] := by rw [take_snocN M hiM, hx, List.map_append, List.map_append]; rfl
   have HSn := Lib.hid hsn
   have HRg := Lib.hid hr
   have HRow9 := Lib.hid hrow9
   have HO9 := Lib.hid (HO.out.same o9)
   have ewi : IntKind.i64.wrap ((i : Int) + 1) = (i : Int) + 1 := by rw [IntKind.wrap_i64]; omega
   have hil : i + 1 ≤ 1099511627776 := by omega
   clear hr hbA hb9 o9 hx hw9 htA hrow9 hsn
   generalize x.num = xn at *
   go_wp2_with (first | (refine wpList_load_mid rfl 116 (.tmp 20) rfl b (i * 4) rfl (encN x) _ HRg.out Tryz.underlying116 rfl (by kernel_rfl) ?_) | (at_builtin; go_must (refine wpA1 (u := .int .i64 xn) slInt rfl (.tmp 22) (.tmp 25) rfl rfl rfl (cell_new0 _ _ _) rfl (own_only HRow9.out ((Only.refl (fun _ => False) _).alloc _) (fun _ _ f => f)) hil (by decide) ?_)))
   intro v7 w7 r7 o7 t7
   obtain ⟨g7, c7, rfl, -, -, hg7⟩ := t7
   have ho7 : Only (fun _ => False) w3 w7 := (HO9.out.alloc (.cells #[.int .i64 xn] 3)).trans o7 (fun k hk => .inr (HNw.out k hk))
   have hn7 : ∀ q, (Value.slice (some ⟨g7, 0, none⟩) (i + 1) c7).ownBlock = some q → w3.heap.size ≤ q := fun q hq => by
    simp [Value.ownBlock] at hq
    subst hq
    rcases hg7 with h | h
    ·exact HNw.out _ h
    ·exact Nat.le_trans (HO9.out.alloc (.cells #[.int .i64 xn] 3)).size h
   have hz : w7.ownsRow 0 3 1 (.slice (some ⟨g7, 0, none⟩) (i + 1) c7) (i + 1) (((M.take (i + 1)).map (·.num)).map cI) := by rw [HSn.out]; simpa [cI] using r7
   have HZ := Lib.hid hz
   have HN7 := Lib.hid hn7
   have HO7 := Lib.hid ho7
   clear hz hn7 ho7 r7 o7 hg7
   go_wp2_with fail
   go_roundw
   case rel => exact ⟨i + 1, some ⟨g7, 0, none⟩, c7, by first | rfl | go_num, by omega, rfl, HZ, HN7, HO7⟩
   case measure => simp [intOf] <;> omega
  ·obtain rfl : m = i := by omega
   have hlm : ((M.take m).map (·.num)).length = m := by rw [List.length_map, List.length_take, HL3.out]; omega
   have hso := SortI_any (w := wr) (v := .slice aa m ca) (xs := (M.take m).map (·.num)) (by rw [hlm]; exact HR.out) (by rw [hlm]; omega)
   rw [hlm] at hso
   have HSo := Lib.hid hso
   have HLm := Lib.hid hlm
   clear hso hlm
   go_wp2_with fail
   refine HSo.out.mono ?_
   rintro e w5 ⟨rfl, r5, o5⟩
   have R5 := Lib.hid r5
   have O5 := Lib.hid o5
   clear r5 o5
   go_wp2_with fail
   go_ret
   have hp := List.mergeSort_perm ((M.take m).map (·.num)) (fun x y => decide (x ≤ y))
   have hlg : (((M.take m).map (·.num)).mergeSort fun x y => decide (x ≤ y)).length = m := by rw [hp.length_eq, HLm.out]
   refine ⟨_, _, rfl, by rw [hlg]; exact R5.out, fun k hk => Nat.le_trans HO3.out.size (HNw.out k hk), (HO3.out.same HO.out).trans O5.out fun k hk => .inr (Nat.le_trans HO3.out.size (HNw.out k hk)), ⟨sortI_ord _, M.take m, M.drop m, ?_, hp⟩, by rw [hlg]; omega⟩
   rw [List.take_append_drop, HM0.out]
   exact HPm.out
end
end Go.Proofs.YtjedgdamommgeaaGreat
