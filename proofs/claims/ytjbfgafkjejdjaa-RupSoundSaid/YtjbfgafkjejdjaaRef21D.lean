/- The walks of cooperref21: Model, Any. -/
import Derived.Test.YtjbfgafkjejdjaaRef12S
import Derived.Test.YtjbfgafkjejdjaaRup4
namespace Go.Proofs.Ytjbfgafkjejdjaa
open Go.RowKit

section
variable {w : World}

theorem own_litB (w : World) : (w.alloc (.cells #[] 4)).ownsRow 0 4 1 (.slice (some ⟨w.heap.size, 0, none⟩) 0 0) 0 [] :=
  World.ownsRow_lit (base := 0) (e := 4) (size := 1) w #[] 0 (Nat.zero_le _) (by unfold maxLen; omega) (by simp)

set_option maxHeartbeats 800000 in
theorem Model_any (k : Nat) (hk : k ≤ 1000) (z : Int) (hz : 0 ≤ z ∧ z ≤ 1000000) (kI : Int) (hkI : kI = k) :
    Calls Try.prog 65 #[.int .i64 kI, .int .i64 z] w fun e w' => ∃ v bs, e = .returned v ∧ Bools w' v bs ∧ bs.length = k ∧ Only (fun _ => False) w w' := by
  subst hkI
  go_enter Try.func65, Try.ntmps65
  go_wp2_with fail
  go_loopw [1, 5, 6] (fun vz vo v wr => ∃ (i : Nat) (y : Int) (bs : List Bool), v = .int .i64 i ∧ i ≤ k ∧ vz = .int .i64 y ∧ 0 ≤ y ∧ y ≤ 1000000 ∧ bs.length = i ∧ wr.ownsRow 0 4 1 vo i (bs.map Value.bool) ∧ (∀ j, vo.ownBlock = some j → w.heap.size ≤ j) ∧ Only (fun _ => False) w wr) (fun _ _ v _ => k - (intOf v).toNat)
  case atStart => exact ⟨0, z, [], rfl, Nat.zero_le _, rfl, hz.1, hz.2, rfl, own_litB w, fun j hj => by simp [Value.ownBlock] at hj; omega, (Only.refl _ _).alloc _⟩
  case round =>
    obtain ⟨i, y, bs, rfl, hi, rfl, hy1, hy2, hbl, ro, rb, hO⟩ := hrel
    have HB := Lib.hid rb
    have HBL := Lib.hid hbl
    clear rb hbl
    by_cases ci : i < k
    · have d1 : decide (i < k) = true := decide_eq_true ci
      go_wp2_with (at_builtin; go_must (refine wpA1 (u := .bool (y % 2 == 1)) slBool rfl (.tmp 13) (.tmp 17) rfl rfl rfl (cell_newE _ _ _ _ rfl) rfl (own_only ro ((Only.refl (fun _ => False) _).alloc _) (fun _ _ f => f)) (by omega) (by decide) ?n3))
      intro v2 w2 s1 s2 s3
      have O2 : Only (fun _ => False) w w2 := (hO.alloc _).trans s2 (fun k hk => .inr (HB.out k hk))
      have hb2 : ∀ k, v2.ownBlock = some k → w.heap.size ≤ k := by
        obtain ⟨g, cap, rfl, _, _, h⟩ := s3
        intro k hk
        simp [Value.ownBlock] at hk
        subst hk
        rcases h with h | h
        · exact HB.out _ h
        · have := hO.size; simp at h; omega
      have HB2 := Lib.hid hb2
      have s1' : w2.ownsRow 0 4 1 v2 (i + 1) ((bs ++ [y % 2 == 1]).map Value.bool) := by simpa using s1
      clear hb2 s1 s2 s3 ro
      go_wp2_with fail
      go_roundw
      case rel => exact ⟨i + 1, y / 2, bs ++ [y % 2 == 1], by go_num, by omega, rfl, by omega, by omega, by simp [HBL.out], s1', HB2.out, O2⟩
      case measure => simp [intOf]; omega
    · have d1 : decide (i < k) = false := decide_eq_false ci
      have hik : i = k := by omega
      have hbo : Bools wr u5 bs := Bools.of_own (t := 4) (by rw [HBL.out]; exact ro)
      have hbk : bs.length = k := by rw [HBL.out]; exact hik
      have HBK := Lib.hid hbk
      clear hbk hik
      go_wp2_with fail
      go_ret
      exact ⟨_, bs, rfl, hbo, HBK.out, hO⟩

/-- What Any says: if it says yes, there is a model. -/
def AnyPost (w : World) (k : Nat) (css : List (List Int)) (ls : List Int) (e : Ending) (w' : World) : Prop :=
  ∃ r, e = .returned (.bool r) ∧ (r = true → ∃ m : List Bool, m.length = k ∧ Cnf.holdsB css m = true ∧ ls.all (fun x => Cnf.soB x m) = true) ∧ Only (fun _ => False) w w'

theorem all_take {α : Type} (p : α → Bool) {c : List α} {k : Nat} (d : α) (h : k < c.length) : (c.take (k + 1)).all p = ((c.take k).all p && p (c.getD k d)) := by
  rw [List.take_succ_eq_append_getElem h, List.all_append]
  have e : c.getD k d = c[k] := by simp [List.getD_eq_getElem?_getD, h]
  rw [e]; simp

theorem pow_le10 {i : Nat} (h : i ≤ 10) : 2 ^ i ≤ 1024 := Nat.pow_le_pow_right (by decide) h

set_option maxHeartbeats 3200000 in
theorem Any_any {vcs vl : Value} {css : List (List Int)} {ls : List Int} (hI : IntsS w vcs css) (hl : Ints w vl ls) (k : Nat) (hk : k ≤ 10) (kI : Int) (hkI : kI = k) :
    Calls Try.prog 31 #[.int .i64 kI, vcs, vl] w (AnyPost w k css ls) := by
  subst hkI
  obtain ⟨ac, cc, rfl, hc1, hc2⟩ := hI.shape
  obtain ⟨al, cl, rfl, hl1, hl2⟩ := hl.shape
  go_enter Try.func31, Try.ntmps31
  go_wp2_with fail
  go_loop [7, 8] (fun va v => ∃ (i a : Nat), v = .int .i64 i ∧ i ≤ k ∧ va = .int .i64 a ∧ a = 2 ^ i) (fun _ v => k - (intOf v).toNat)
  case atStart => exact ⟨0, 1, rfl, Nat.zero_le _, rfl, rfl⟩
  case round =>
    obtain ⟨i, a, rfl, hi, rfl, ha⟩ := hrel
    have hp := pow_le10 (Nat.le_trans hi hk)
    have ha2 : a ≤ 1024 := by omega
    have HA := Lib.hid ha
    clear ha hp
    by_cases ci : i < k
    · have d1 : decide (i < k) = true := decide_eq_true ci
      go_wp2_with fail
      go_round
      case rel => exact ⟨i + 1, 2 * a, by go_num, by omega, by go_num, by rw [HA.out, Nat.pow_succ]; omega⟩
      case measure => simp [intOf]; omega
    · have d1 : decide (i < k) = false := decide_eq_false ci
      go_wp2_with fail
      go_loopw [9] (fun v wr => ∃ n : Nat, v = .int .i64 n ∧ n ≤ a ∧ Only (fun _ => False) w wr) (fun v _ => a - (intOf v).toNat)
      case atStart => exact ⟨0, rfl, Nat.zero_le _, Only.refl _ _⟩
      case round =>
        obtain ⟨n, rfl, hn, hO⟩ := hrel
        by_cases cn : n < a
        · have d2 : decide (n < a) = true := decide_eq_true cn
          go_wp2_with fail
          refine (Model_any k (by omega) n ⟨by omega, by omega⟩ _ rfl).mono ?_
          rintro e w1 ⟨vm, m, rfl, hm, hml, O1⟩
          have HML := Lib.hid hml
          have hO1 := hO.same O1
          clear hml
          have hms := hm.shape
          obtain ⟨am, cm, rfl, _, _⟩ := hms
          cases hh : Cnf.holdsB css m
          · have HH := Lib.hid hh
            clear hh
            go_wp2_with fail
            refine (Holds_any (hI.only0 hO1) hm false HH.out).mono ?_
            rintro e w' ⟨rfl, rfl⟩
            go_wp2_with fail
            go_loop [33, 11] (fun v vo => ∃ j : Nat, v = .int .i64 j ∧ j ≤ ls.length ∧ vo = .bool false) (fun v _ => ls.length - (intOf v).toNat)
            case atStart => exact ⟨0, rfl, Nat.zero_le _, rfl⟩
            case round =>
              obtain ⟨j, rfl, hj, rfl⟩ := hrel
              by_cases cj : j < ls.length
              · have d3 : decide (j < ls.length) = true := decide_eq_true cj
                go_wp2_with fail
                go_round
                case rel => exact ⟨j + 1, by go_num, by omega, rfl⟩
                case measure => simp [intOf]; omega
              · have d3 : decide (j < ls.length) = false := decide_eq_false cj
                go_wp2_with fail
                go_roundw
                case rel => exact ⟨n + 1, by go_num, by omega, hO1⟩
                case measure => simp [intOf]; omega
          · have HH := Lib.hid hh
            clear hh
            go_wp2_with fail
            refine (Holds_any (hI.only0 hO1) hm true HH.out).mono ?_
            rintro e w' ⟨rfl, rfl⟩
            go_wp2_with fail
            go_loop [33, 11] (fun v vo => ∃ j : Nat, v = .int .i64 j ∧ j ≤ ls.length ∧ vo = .bool ((ls.take j).all fun x => Cnf.soB x m)) (fun v _ => ls.length - (intOf v).toNat)
            case atStart => exact ⟨0, rfl, Nat.zero_le _, rfl⟩
            case round =>
              obtain ⟨j, rfl, hj, rfl⟩ := hrel
              by_cases cj : j < ls.length
              · obtain ⟨b2, off2, rfl, _, hcs⟩ := (hl.only0 hO1).cells _ _ _ rfl (by omega)
                have q2 := hcs j cj
                have hx := hl.range' j
                have hat := all_take (fun x => Cnf.soB x m) 0 cj
                have jb : (j : Int) < (ls.length : Int) := by omega
                clear hcs
                generalize ls.getD j 0 = x at *
                have HAT := Lib.hid hat
                have HX := Lib.hid hx
                clear hat hx
                cases hf : (ls.take j).all fun x => Cnf.soB x m
                · have HF := Lib.hid hf
                  clear hf
                  go_wp2_with fail
                  go_round
                  case rel => exact ⟨j + 1, by go_num, by omega, by rw [HAT.out, HF.out]; rfl⟩
                  case measure => simp [intOf]; omega
                · have HF := Lib.hid hf
                  clear hf
                  cases hs : Cnf.soB x m
                  · have HS := Lib.hid hs
                    clear hs
                    go_wp2_with fail
                    refine (So_any hm x HX.out false HS.out).mono ?_
                    rintro e w' ⟨rfl, rfl⟩
                    go_wp2_with fail
                    go_round
                    case rel => exact ⟨j + 1, by go_num, by omega, by rw [HAT.out, HF.out, HS.out]; rfl⟩
                    case measure => simp [intOf]; omega
                  · have HS := Lib.hid hs
                    clear hs
                    go_wp2_with fail
                    refine (So_any hm x HX.out true HS.out).mono ?_
                    rintro e w' ⟨rfl, rfl⟩
                    go_wp2_with fail
                    go_round
                    case rel => exact ⟨j + 1, by go_num, by omega, by rw [HAT.out, HF.out, HS.out]; rfl⟩
                    case measure => simp [intOf]; omega
              · have hj' : j = ls.length := by omega
                have hte : ls.take j = ls := by rw [hj']; exact List.take_of_length_le (Nat.le_refl _)
                rw [hte]
                cases hf : ls.all fun x => Cnf.soB x m
                · clear hf hte
                  go_wp2_with fail
                  go_roundw
                  case rel => exact ⟨n + 1, by go_num, by omega, hO1⟩
                  case measure => simp [intOf]; omega
                · have HF := Lib.hid hf
                  clear hf hte
                  go_wp2_with fail
                  go_ret
                  exact ⟨true, rfl, fun _ => ⟨m, HML.out, HH.out, HF.out⟩, hO1⟩
        · have d2 : decide (n < a) = false := decide_eq_false cn
          go_wp2_with fail
          go_ret
          exact ⟨false, rfl, (fun h => by cases h), hO⟩
end
end Go.Proofs.Ytjbfgafkjejdjaa
