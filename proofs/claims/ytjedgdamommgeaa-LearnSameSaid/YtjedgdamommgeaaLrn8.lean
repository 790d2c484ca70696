/- The walks of learn.Levels, learn.From$1. -/
import Derived.Test.YtjedgdamommgeaaLrn7
import Derived.Carry
set_option linter.unusedVariables false
namespace Go.Proofs.Ytjedgdamommgeaa
open Go.RowKit
open Tr

namespace Tr
theorem Ok.lvl_rng {T : Trail} (o : Ok T) (l : Int) : -1 ≤ T.lvl l ∧ T.lvl l ≤ 65536 := by
  have hl : T.levels.length ≤ 65536 := by
    have h1 := o.levn
    have h2 := lits_len T
    have h3 := o.good.len
    have h4 := o.n
    omega
  unfold Trail.lvl Trail.at
  split
  · unfold atomOf
    split
    · rename_i x hx
      have hm := List.mem_of_find?_eq_some hx
      have h5 := (o.rea x hm).2.2
      exact ⟨by show (-1 : Int) ≤ (x.2.1 : Int); omega, by show (x.2.1 : Int) ≤ 65536; omega⟩
    · exact ⟨by show (-1 : Int) ≤ 0; omega, by show (0 : Int) ≤ 65536; omega⟩
  · exact ⟨by show (-1 : Int) ≤ -1; omega, by show (-1 : Int) ≤ 65536; omega⟩

def Trail.lev1 (T : Trail) (ks : List Int) (x : Int) : List Int := if 0 ≤ T.lvl x then addK ks (T.lvl x) else ks
/-- the levels of a clause, each once -/
def Trail.levs (T : Trail) (l : List Int) : List Int := l.foldl T.lev1 []
theorem levs_snoc (T : Trail) (l : List Int) (x : Int) : T.levs (l ++ [x]) = T.lev1 (T.levs l) x := by
  unfold Trail.levs; rw [List.foldl_append]; rfl
theorem lev1_len (T : Trail) (ks : List Int) (x : Int) : (T.lev1 ks x).length ≤ ks.length + 1 := by
  unfold Trail.lev1; split
  · unfold addK; split <;> simp
  · omega
theorem levs_len (T : Trail) : ∀ (k : Nat) (l : List Int), (T.levs (l.take k)).length ≤ k
  | 0, l => by simp [Trail.levs]
  | k + 1, l => by
    by_cases hk : k < l.length
    · rw [take_snocI l k hk, levs_snoc]
      have h1 := levs_len T k l
      have h2 := lev1_len T (T.levs (l.take k)) (l.getD k 0)
      omega
    · have h1 := levs_len T k l
      rw [List.take_of_length_le (by omega)] at h1 ⊢
      omega
end Tr

section
variable {w : World} {g : Tag} {b : Nat} {V : TrV} {T : Trail}

set_option maxRecDepth 100000 in
set_option maxHeartbeats 3200000 in
theorem Levels_any (H : TrAt w g b V T) (o : Ok T) {v : Value} {l : List Int} (hI : Ints w v l) (hlen : l.length ≤ 1099511627776) :
    Calls Try.prog 20 #[.pointer (some ⟨b, 0, none⟩), v] w fun e w' => e = .returned (.int .i64 ((T.levs l).length : Int)) ∧ Only (fun _ => False) w w' := by
  obtain ⟨ai, ci, rfl, -, -⟩ := hI.shape
  obtain ⟨w0, hw0⟩ : ∃ w0, w.alloc (.map #[] 0) = w0 := ⟨_, rfl⟩
  obtain ⟨B, hB⟩ : ∃ B, w.heap.size = B := ⟨_, rfl⟩
  have o0 : Only (fun _ => False) w w0 := by rw [← hw0]; exact (Only.refl _ _).alloc _
  have hm : IMap w0 B [] (fun _ => 0) := by rw [← hw0, ← hB]; exact IMap.made w
  have hmm : (Instr.makeMap 62 none).run Try.prog w = .ok (.map (some B)) w0 := by rw [run_makeMap, hw0, hB]
  have hlt : ∀ W, Only (fun k => k = B) w0 W → Only (fun _ => False) w W := fun W oW => o0.trans oW fun k hk => .inr (by omega)
  have HLt := Lib.hid hlt
  have HH := Lib.hid H
  have HOk := Lib.hid o
  have HI := Lib.hid hI
  have HM := Lib.hid hm
  clear H o hI hm o0 hlt
  go_enter Try.func20, Try.ntmps20
  go_wp2_with fail
  go_loopw [12] (fun v wr => ∃ (j : Nat) (f : Int → Int), v = .int .i64 j ∧ j ≤ l.length ∧ IMap wr B (T.levs (l.take j)) f ∧ Only (fun k => k = B) w0 wr) (fun v _ => l.length - (intOf v).toNat)
  case atStart => exact ⟨0, _, rfl, Nat.zero_le _, HM.out, Only.refl _ _⟩
  case round =>
    clear HM
    obtain ⟨j, f, rfl, hj, hm, hO⟩ := hrel
    have HM := Lib.hid hm
    have HO := Lib.hid hO
    clear hm hO
    by_cases cj : j < l.length
    · obtain ⟨bl, ol, rfl, _, hcs⟩ := (HI.out.only0 (HLt.out _ HO.out)).cells _ _ _ rfl (by omega)
      have qx := hcs j cj
      have hx := HI.out.range' j
      have hsn := levs_snoc T (l.take j) (l.getD j 0)
      rw [← take_snocI l j cj] at hsn
      have hln := levs_len T j l
      obtain ⟨x, hxe⟩ : ∃ x, l.getD j 0 = x := ⟨_, rfl⟩
      rw [hxe] at qx hx hsn
      obtain ⟨q, hq⟩ : ∃ q, T.lvl x = q := ⟨_, rfl⟩
      have hrq := HOk.out.lvl_rng x
      unfold Trail.lev1 at hsn
      rw [hq] at hrq hsn
      have hqi : InI64 q := by unfold InI64; omega
      have hlv := learn_level_any (HH.out.only0 (HLt.out _ HO.out)) HOk.out x hx q hq
      have HLv := Lib.hid hlv
      have HSn := Lib.hid hsn
      have ewj : IntKind.i64.wrap ((j : Int) + 1) = ((j + 1 : Nat) : Int) := by rw [IntWalk.i64_in _ (by omega)]; rfl
      obtain ⟨L, hL⟩ : ∃ L, T.levs (l.take j) = L := ⟨_, rfl⟩
      rw [hL] at HM HSn hln
      clear hcs hxe hlv hsn hq hL hrq
      go_wp2_with fail
      refine HLv.out.mono ?_
      rintro e w1 ⟨rfl, O1⟩
      have hM1 := HM.out.only0 O1
      have hO1 := HO.out.same (O1.mono fun _ f => f.elim)
      have HO1 := Lib.hid hO1
      clear O1 qx hO1
      by_cases hq0 : 0 ≤ q
      · have dq : decide (0 ≤ q) = true := decide_eq_true hq0
        have hlk := hM1.look hqi
        obtain ⟨y, hy⟩ : ∃ y, f q = y := ⟨_, rfl⟩
        rw [hy] at hlk
        obtain ⟨w2, hst, hM2, hO2⟩ := hM1.store (v := w64 (y + 1)) hqi (w64_in _) (by unfold maxLen; omega)
        have hz : IMap w2 B (T.levs (l.take (j + 1))) (upd f q (w64 (y + 1))) := by rw [HSn.out, if_pos hq0]; exact hM2
        have HZ := Lib.hid hz
        have hOz := HO1.out.trans hO2 fun k hk => .inl hk
        have HOz := Lib.hid hOz
        unfold w64 at hst
        have hst2 := hst
        rw [IntWalk.i64_left] at hst2
        clear hM2 hO2 hz hOz hM1
        go_wp2_with fail
        go_roundw
        case rel => exact ⟨j + 1, _, by first | rfl | go_num, by omega, HZ.out, HOz.out⟩
        case measure => simp [intOf] <;> omega
      · have dq : decide (0 ≤ q) = false := decide_eq_false hq0
        have hz : IMap w1 B (T.levs (l.take (j + 1))) f := by rw [HSn.out, if_neg hq0]; exact hM1
        have HZ := Lib.hid hz
        clear hz hM1
        go_wp2_with fail
        go_roundw
        case rel => exact ⟨j + 1, _, by first | rfl | go_num, by omega, HZ.out, HO1.out⟩
        case measure => simp [intOf] <;> omega
    · have hjl : j = l.length := by omega
      have hm := HM.out
      rw [hjl, List.take_of_length_le (Nat.le_refl _)] at hm
      have hlen2 := fun ty => hm.len ty
      have hfin := HLt.out _ HO.out
      have HFin := Lib.hid hfin
      clear hm HM hfin
      subst hjl
      go_wp2_with fail
      go_ret
      exact ⟨rfl, HFin.out⟩

theorem enter_From1 : ∀ args w, (callFunc 36 args).run Try.prog w = .ok (.enter 36 args) w := enters_of Try.func36 (by kernel_rfl) rfl

theorem From1_any (H : TrAt w g b V T) (o : Ok T) (bt : Nat) (hbt : w.cell? ⟨bt, 0, none⟩ = some (.pointer (some ⟨b, 0, none⟩))) (x : Int) (hx : InI64 x) :
    Calls Try.prog 36 #[.int .i64 x, .pointer (some ⟨bt, 0, none⟩)] w fun e w' => e = .returned (.bool (decide (0 ≤ T.val x))) ∧ w = w' := by
  obtain ⟨r, hr⟩ : ∃ r, T.val x = r := ⟨_, rfl⟩
  have hv := prop_Value_any H o x hx r hr
  have HV := Lib.hid hv
  rw [hr]
  clear hv hr H o
  go_enter Try.func36, Try.ntmps36
  go_wp2_with fail
  refine HV.out.mono ?_
  rintro e w1 ⟨rfl, rfl⟩
  go_wp2_with fail
  go_ret
  exact ⟨rfl, rfl⟩
end
end Go.Proofs.Ytjedgdamommgeaa
