/- The document's versions, exact: Cut. Printed by gen_ve2.py out of Vr1. -/
import Derived.Test.YtmlfchjompfmaaaDoorVe1
set_option linter.unusedVariables false
namespace Go.Proofs.YtmlfchjompfmaaaDoor
open Go.RowKit
section
variable {w w' : World} {B : Nat}
def Texts (w w' : World) (v : Value) (L : List (List UInt8)) : Prop := ∃ l : List Str, l.map ByteArray.toList = L ∧ w'.ownsRow 0 9 1 v l.length (strs9 l) ∧ (∀ s ∈ l, okS s) ∧ (∀ k, v.ownBlock = some k → w.heap.size ≤ k)
theorem Texts.row {w0 : World} {v : Value} {L : List (List UInt8)} (h : Texts w0 w v L) : ∃ l : List Str, l.map ByteArray.toList = L ∧ RowT 1 StrC w.heap.size w v l := by
 obtain ⟨l, h0, h1, h2, h3⟩ := h
 exact ⟨l, h0, strs_read rfl h1 h2⟩
def CutS (s : Str) (d : UInt8) (f i : Nat) (l : List Str) : Prop :=
 (i ≤ s.size → (l.map ByteArray.toList ++ cutB d (s.toList.drop f) = cutB d s.toList ∧ ∀ b ∈ (s.toList.drop f).take (i - f), b ≠ d)) ∧ (s.size < i → l.map ByteArray.toList = cutB d s.toList)
theorem drop_split {s : Str} {f i : Nat} (hf : f ≤ i) (hi : i < s.size) : s.toList.drop f = (s.toList.drop f).take (i - f) ++ s[i] :: s.toList.drop (i + 1) := by
 conv => lhs; rw [← List.take_append_drop (i - f) (s.toList.drop f)]
 congr 1
 rw [List.drop_drop, show f + (i - f) = i by omega]
 have hl : i < s.toList.length := by rw [size_toList]; exact hi
 rw [List.drop_eq_getElem_cons hl, toList_get hl hi]
theorem CutS.cut {s : Str} {d : UInt8} {f i : Nat} {l : List Str} (h : CutS s d f i l) (hf : f ≤ i) (hi : i < s.size) (hb : s[i] = d) : CutS s d (i + 1) (i + 1) (l ++ [s.extract f i]) := by
 obtain ⟨h1, h2⟩ := h.1 (by omega)
 refine ⟨fun _ => ⟨?_, fun b hb' => by simp at hb'⟩, fun h => by omega⟩
 rw [drop_split hf hi, hb, cutB_at h2] at h1
 rw [List.map_append, List.append_assoc, List.map_cons, List.map_nil, ext_toList]
 exact h1
theorem CutS.last {s : Str} {d : UInt8} {f : Nat} {l : List Str} (h : CutS s d f s.size l) (hf : f ≤ s.size) : CutS s d (s.size + 1) (s.size + 1) (l ++ [s.extract f s.size]) := by
 obtain ⟨h1, h2⟩ := h.1 (Nat.le_refl _)
 refine ⟨fun h => by omega, fun _ => ?_⟩
 have ht : (s.toList.drop f).take (s.size - f) = s.toList.drop f := List.take_of_length_le (by rw [List.length_drop, size_toList]; exact Nat.le_refl _)
 rw [ht] at h2
 rw [cutB_none h2] at h1
 rw [List.map_append, List.map_cons, List.map_nil, ext_toList, ht]
 exact h1
theorem CutS.go {s : Str} {d : UInt8} {f i : Nat} {l : List Str} (h : CutS s d f i l) (hf : f ≤ i) (hi : i < s.size) (hb : s[i] ≠ d) : CutS s d f (i + 1) l := by
 obtain ⟨h1, h2⟩ := h.1 (by omega)
 refine ⟨fun _ => ⟨h1, fun b hb' => ?_⟩, fun h => by omega⟩
 have e : (s.toList.drop f).take (i + 1 - f) = (s.toList.drop f).take (i - f) ++ [s[i]] := by
  rw [show i + 1 - f = (i - f) + 1 by omega, List.take_add_one, List.getElem?_drop, show f + (i - f) = i by omega, toList_at hi]
  rfl
 rw [e] at hb'
 rcases List.mem_append.1 hb' with hb' | hb'
 ·exact h2 b hb'
 ·rw [List.mem_singleton.1 hb']; exact hb
set_option maxRecDepth 100000 in
set_option maxHeartbeats 2000000 in
theorem Cut_x (s : Str) (hs : s.size ≤ 1000000) (d : UInt8) (c : Int) (hc : (d.toNat : Int) = c) : Calls Tryd.prog 22 #[.string s, .int .u8 c] w (fun e w' => ∃ v, e = .returned v ∧ Texts w w' v (cutB d s.toList) ∧ Only (fun _ => False) w w') := by
 have HD := Lib.hid hc
 have HS0 : Hid (CutS s d 0 0 []) := ⟨fun _ => ⟨rfl, fun b hb => by simp at hb⟩, fun h => by omega⟩
 clear hc
 go_enter Tryd.func22, Tryd.ntmps22
 go_wp2_with fail
 go_loopw [5, 6, 7] (fun vo vf vi wr => Hid (Only (fun _ => False) w wr) ∧ ∃ (f i : Nat) (l : List Str), vf = .int .i64 f ∧ vi = .int .i64 i ∧ f ≤ i ∧ i ≤ s.size + 1 ∧ l.length ≤ i ∧ Hid (wr.ownsRow 0 9 1 vo l.length (strs9 l)) ∧ Hid (∀ s ∈ l, okS s) ∧ Hid (∀ k, vo.ownBlock = some k → w.heap.size ≤ k) ∧ Hid (CutS s d f i l)) (fun _ _ v _ => s.size + 1 - (RowKit.intOf v).toNat)
 case atStart => exact ⟨show Hid _ from (Only.refl _ _).alloc _, 0, 0, [], rfl, rfl, Nat.le_refl _, Nat.zero_le _, Nat.le_refl _, show Hid _ from own_litS w, show Hid _ from fun s hs => (by cases hs), show Hid _ from fun k hk => (by simp [Value.ownBlock] at hk; omega), HS0⟩
 case round =>
  clear HS0
  obtain ⟨wri, rfl⟩ : ∃ W, W = wr := ⟨_, rfl⟩
  obtain ⟨HO, f, i, l, rfl, rfl, hfi, hi, hl, HV, Hk, HB, HC⟩ := hrel
  obtain ⟨n, hn⟩ : ∃ n, l.length = n := ⟨_, rfl⟩
  rw [hn] at HV hl
  obtain ⟨au, cu, rfl, -, -⟩ := own_slice HV.out
  have HN := Lib.hid hn
  clear hn
  by_cases ci : i ≤ s.size
  ·have ewi : IntKind.i64.wrap ((i : Int) + 1) = (i : Int) + 1 := by rw [IntKind.wrap_i64]; omega
   have hle : (i : Int) ≤ (s.size : Int) := by omega
   have hsl : ∀ W, (Instr.slice 9 (.string s) (some (.int .i64 (f : Int))) (some (.int .i64 (i : Int))) none).run Tryd.prog W = .ok (.string (s.extract f i)) W := fun W => by
    rw [Go.run_slice_string_if W 9 s .i64 .i64 f i Tryd.underlying9, if_pos (by omega), if_pos (by omega)]
    simp
   have app : ∀ (P : Prop), P → P := fun _ h => h
   by_cases ce : i = s.size
   ·have HC2 : Hid (CutS s d (s.size + 1) (s.size + 1) (l ++ [s.extract f s.size])) := by rw [ce] at HC; exact HC.out.last (by omega)
    subst ce
    go_wp2_with (at_builtin; go_must (refine wpA1 (u := .string (s.extract f s.size)) slStr9 rfl (.tmp 26) (.tmp 31) rfl rfl rfl (cell_new0 _ _ _) rfl (own_only HV.out ((Only.refl (fun _ => False) _).alloc _) (fun _ _ f => f)) (by omega) (by decide) ?_))
    intro v' w2 r1 r2 r3
    have HV2 : Hid (w2.ownsRow 0 9 1 v' (l ++ [s.extract f s.size]).length (strs9 (l ++ [s.extract f s.size]))) := by
     rw [List.length_append, HN.out]
     simpa [strs9, Hid] using r1
    have HO2 := Lib.hid (((HO.out.alloc _).trans r2 fun k hk => .inr (HB.out k hk)))
    have Hk2 : Hid (∀ t ∈ l ++ [s.extract f s.size], okS t) := fun t ht => by
     rcases List.mem_append.1 ht with h | h
     ·exact Hk.out t h
     ·obtain rfl := List.mem_singleton.1 h
      exact okS_slice (by unfold okS maxLen; omega) _ _
    have HB2 : Hid (∀ k, v'.ownBlock = some k → w.heap.size ≤ k) := by
     intro k hk
     obtain ⟨g, cap', rfl, -, -, h | h⟩ := r3
     ·simp [Value.ownBlock] at hk; subst hk; exact HB.out _ h
     ·simp [Value.ownBlock] at hk; subst hk
      have := HO.out.size
      simp at h; omega
    obtain ⟨g, cap', rfl, -, -, -⟩ := r3
    clear r1 r2
    go_wp2_with fail
    go_roundw
    case rel => exact ⟨HO2, s.size + 1, s.size + 1, l ++ [s.extract f s.size], by first | rfl | go_num, by first | rfl | go_num, Nat.le_refl _, Nat.le_refl _, by rw [List.length_append, HN.out]; simp; omega, HV2, Hk2, HB2, HC2⟩
    case measure => simp [RowKit.intOf] <;> omega
   ·have hlt : i < s.size := by omega
    have hne : ((i : Int) == (s.size : Int)) = false := by rw [beq_eq_false_iff_ne]; omega
    obtain ⟨b, hb⟩ : ∃ b : UInt8, s[i] = b := ⟨_, rfl⟩
    by_cases cb : ((b.toNat : Int) = c)
    ·have hbd : b = d := UInt8.toNat_inj.1 (by have := HD.out; omega)
     have HC2 : Hid (CutS s d (i + 1) (i + 1) (l ++ [s.extract f i])) := HC.out.cut hfi hlt (by rw [hb]; exact hbd)
     clear hbd
     have cb2 : (((b.toNat : Nat) : Int) == c) = true := by rw [cb]; simp
     go_wp2_with (at_builtin; go_must (refine wpA1 (u := .string (s.extract f i)) slStr9 rfl (.tmp 26) (.tmp 31) rfl rfl rfl (cell_new0 _ _ _) rfl (own_only HV.out ((Only.refl (fun _ => False) _).alloc _) (fun _ _ f => f)) (by omega) (by decide) ?_))
     intro v' w2 r1 r2 r3
     have HV2 : Hid (w2.ownsRow 0 9 1 v' (l ++ [s.extract f i]).length (strs9 (l ++ [s.extract f i]))) := by
      rw [List.length_append, HN.out]
      simpa [strs9, Hid] using r1
     have HO2 := Lib.hid (((HO.out.alloc _).trans r2 fun k hk => .inr (HB.out k hk)))
     have Hk2 : Hid (∀ t ∈ l ++ [s.extract f i], okS t) := fun t ht => by
      rcases List.mem_append.1 ht with h | h
      ·exact Hk.out t h
      ·obtain rfl := List.mem_singleton.1 h
       exact okS_slice (by unfold okS maxLen; omega) _ _
     have HB2 : Hid (∀ k, v'.ownBlock = some k → w.heap.size ≤ k) := by
      intro k hk
      obtain ⟨g, cap', rfl, -, -, h | h⟩ := r3
      ·simp [Value.ownBlock] at hk; subst hk; exact HB.out _ h
      ·simp [Value.ownBlock] at hk; subst hk
       have := HO.out.size
       simp at h; omega
     obtain ⟨g, cap', rfl, -, -, -⟩ := r3
     clear r1 r2
     go_wp2_with fail
     go_roundw
     case rel => exact ⟨HO2, i + 1, i + 1, l ++ [s.extract f i], by first | rfl | go_num, by first | rfl | go_num, Nat.le_refl _, by omega, by rw [List.length_append, HN.out]; simp; omega, HV2, Hk2, HB2, HC2⟩
     case measure => simp [RowKit.intOf] <;> omega
    ·have hbd : b ≠ d := fun e => cb (by rw [e]; exact HD.out)
     have HC2 : Hid (CutS s d f (i + 1) l) := HC.out.go hfi hlt (by rw [hb]; exact hbd)
     clear hbd
     have cb2 : (((b.toNat : Nat) : Int) == c) = false := by rw [beq_eq_false_iff_ne]; exact cb
     have HV2 : Hid (wri.ownsRow 0 9 1 (.slice au n cu) l.length (strs9 l)) := by rw [HN.out]; exact HV.out
     go_wp2_with fail
     go_roundw
     case rel => exact ⟨HO, f, i + 1, l, by first | rfl | go_num, by first | rfl | go_num, by omega, by omega, by rw [HN.out]; omega, HV2, Hk, HB, HC2⟩
     case measure => simp [RowKit.intOf] <;> omega
  ·have hnle : ¬ ((i : Int) ≤ (s.size : Int)) := by omega
   go_wp2_with fail
   go_ret
   exact ⟨_, rfl, ⟨l, HC.out.2 (by omega), by rw [HN.out]; exact HV.out, Hk.out, HB.out⟩, HO.out⟩
end
end Go.Proofs.YtmlfchjompfmaaaDoor
