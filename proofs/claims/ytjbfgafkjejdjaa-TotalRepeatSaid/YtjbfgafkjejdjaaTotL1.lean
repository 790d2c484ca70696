/- Law 23: TotalRepeat. -/
import Derived.Test.YtjbfgafkjejdjaaTot2
namespace Go.Proofs.Ytjbfgafkjejdjaa
open Go.RowKit

section
variable {w : World}

/-- the literal that stands next -/
theorem Tot.at_next {pre rest full : List Int} {x : Int} (h : pre ++ x :: rest = full) (hl : pre.length < 100000) : pre.length < (full.take 100000).length ∧ (full.take 100000).getD pre.length 0 = x := by
  subst h
  refine ⟨by simp; omega, ?_⟩
  rw [List.getD_eq_getElem?_getD, List.getElem?_take_of_lt hl]
  simp

set_option maxRecDepth 100000 in
set_option maxHeartbeats 3200000 in
theorem TotalRepeat_walk {v v2 : Value} {row ws : List Int} (hI : Ints w v row) (hJ : Ints w v2 ws) :
    Calls Try.prog 4 #[v, v2] w fun e w' => e = .returned (.bool true) ∧ Only (fun _ => False) w w' := by
  obtain ⟨ao, ca, rfl, hl1, hl2⟩ := hI.shape
  obtain ⟨bo, cb, rfl, hl3, hl4⟩ := hJ.shape
  by_cases c1 : row.length ≤ 100
  · by_cases c2 : ws.length ≤ 100
    · have hR := Repeat_any hI hJ (by omega) (by omega)
      have HR := Lib.hid hR
      clear hR
      go_enter Try.func4, Try.ntmps4
      go_wp2_with fail
      refine HR.out.mono ?_
      rintro e w1 ⟨vl, rfl, hL, O1⟩
      obtain ⟨al, cl, rfl, _, _⟩ := hL.shape
      have hll : (Tot.repeat_ row ws).length = min 100000 (Tot.rep row ws).length := by simp [Tot.repeat_]
      have hdef : Tot.repeat_ row ws = (Tot.rep row ws).take 100000 := rfl
      have hI1 := hI.only0 O1
      have hJ1 := hJ.only0 O1
      have HLL := Lib.hid hll
      have HDef := Lib.hid hdef
      have hlb : (Tot.repeat_ row ws).length ≤ 100000 := by omega
      clear hll hdef HR hI hJ
      generalize Tot.repeat_ row ws = l at *
      go_wp2_with fail
      go_loopw [6, 24] (fun va vi wr => ∃ (i : Nat) (pre : List Int), vi = .int .i64 i ∧ va = .int .i64 pre.length ∧ i ≤ row.length ∧ pre.length ≤ 1000 * i ∧ w1 = wr ∧ pre ++ Tot.rep (row.drop i) (ws.drop i) = Tot.rep row ws) (fun _ v _ => row.length - (intOf v).toNat)
      case atStart => exact ⟨0, [], rfl, rfl, Nat.zero_le _, by simp, rfl, rfl⟩
      case round =>
        obtain ⟨i, pre, rfl, rfl, hi, hp, rfl, hE⟩ := hrel
        by_cases ci : i < row.length
        · obtain ⟨rb, ro, rfl, _, hc⟩ := hI1.cells _ _ _ rfl (by omega)
          have q1 := hc i (by omega)
          by_cases cw : i < ws.length
          · obtain ⟨wb, wo, rfl, _, hd⟩ := hJ1.cells _ _ _ rfl (by omega)
            have q2 := hd i (by omega)
            have hE2 := hE
            rw [Tot.rep_drop (by omega) (by omega)] at hE2
            obtain ⟨rest, hrest⟩ : ∃ rest, rest = Tot.rep (row.drop (i + 1)) (ws.drop (i + 1)) := ⟨_, rfl⟩
            rw [← hrest] at hE2
            have HRest := Lib.hid hrest
            have htd : (Tot.times ws i : Int) = min (max (ws.getD i 0) 0) 1000 := by unfold Tot.times; omega
            clear hrest hE
            generalize Tot.times ws i = t at *
            generalize ws.getD i 0 = y at *
            generalize row.getD i 0 = x at *
            by_cases cy : 0 < y
            · have ht : min y 1000 = (t : Int) := by omega
              have htb : t ≤ 1000 := by omega
              have HE2 := Lib.hid hE2
              clear hE2 htd hc hd
              go_wp2_with fail
              go_loopw [6, 46] (fun va vj wr => ∃ (j : Nat) (pre' : List Int), vj = .int .i64 j ∧ va = .int .i64 pre'.length ∧ j ≤ t ∧ pre'.length = pre.length + j ∧ w1 = wr ∧ pre' ++ (List.replicate (t - j) x ++ rest) = Tot.rep row ws) (fun _ v _ => t - (intOf v).toNat)
              case atStart => exact ⟨0, pre, rfl, rfl, Nat.zero_le _, rfl, rfl, HE2.out⟩
              case round =>
                obtain ⟨j, pre', rfl, rfl, hj, hpl, rfl, hE'⟩ := hrel
                by_cases cj : j < t
                · rw [Tot.repl_succ cj] at hE'
                  have hE4 : (pre' ++ [x]) ++ (List.replicate (t - (j + 1)) x ++ rest) = Tot.rep row ws := by rw [← hE']; simp
                  have HE4 := Lib.hid hE4
                  have hpb : pre'.length ≤ 1000000 := by omega
                  have hrel2 : ∃ (j' : Nat) (pre'' : List Int), Value.int .i64 ((j : Int) + 1) = .int .i64 j' ∧ Value.int .i64 ((pre'.length : Int) + 1) = .int .i64 pre''.length ∧ j' ≤ t ∧ pre''.length = pre.length + j' ∧ w1 = w1 ∧ pre'' ++ (List.replicate (t - j') x ++ rest) = Tot.rep row ws := ⟨j + 1, pre' ++ [x], by simp, by simp, by omega, by simp; omega, rfl, HE4.out⟩
                  have HRel := Lib.hid hrel2
                  by_cases cp : pre'.length < 100000
                  · obtain ⟨n1, n2⟩ := Tot.at_next hE' cp
                    rw [← HDef.out] at n1 n2
                    obtain ⟨lb, lo, rfl, _, hcl⟩ := hL.cells _ _ _ rfl (by omega)
                    have q3 := hcl pre'.length n1
                    rw [n2] at q3
                    clear hE' hE4 hrel2 HE2 hcl n2 hpl HE4
                    generalize pre'.length = a at *
                    have d1 : decide ((a : Int) < 100000) = true := decide_eq_true (by omega)
                    have d2 : decide (a < 100000) = true := decide_eq_true cp
                    have d4 : decide (l.length ≤ a) = false := decide_eq_false (by omega)
                    have d3 : decide ((l.length : Int) ≤ (a : Int)) = false := decide_eq_false (by omega)
                    have ea : IntKind.i64.wrap ((a : Int) + 1) = (a : Int) + 1 := IntWalk.i64_in _ (by omega)
                    clear cp hlb hpb
                    go_wp2_with fail
                    go_roundw
                    case rel =>
                      obtain ⟨j', p', e1, e2, e3, e4, _, e5⟩ := HRel.out
                      exact ⟨j', p', e1, e2, e3, e4, by first | rfl | trivial, e5⟩
                    case measure => simp [intOf]; omega
                  · clear hE' hE4 hrel2 HE2 hpl HE4
                    generalize pre'.length = a at *
                    have d1 : decide ((a : Int) < 100000) = false := decide_eq_false (by omega)
                    have ea : IntKind.i64.wrap ((a : Int) + 1) = (a : Int) + 1 := IntWalk.i64_in _ (by omega)
                    clear cp hlb hpb
                    go_wp2_with fail
                    go_roundw
                    case rel =>
                      obtain ⟨j', p', e1, e2, e3, e4, _, e5⟩ := HRel.out
                      exact ⟨j', p', e1, e2, e3, e4, by first | rfl | trivial, e5⟩
                    case measure => simp [intOf]; omega
                · have hj' : j = t := by omega
                  have hE3 : pre' ++ Tot.rep (row.drop (i + 1)) (ws.drop (i + 1)) = Tot.rep row ws := by
                    rw [← HRest.out, ← hE', hj']; simp
                  have HE3 := Lib.hid hE3
                  clear hE' hE3 HE2
                  go_wp2_with fail
                  go_roundw
                  case rel => exact ⟨i + 1, pre', by go_num, rfl, by omega, by omega, by first | rfl | trivial, HE3.out⟩
                  case measure => simp [intOf]; omega
            · have ht : t = 0 := by omega
              have hZ : pre ++ Tot.rep (row.drop (i + 1)) (ws.drop (i + 1)) = Tot.rep row ws := by
                rw [← HRest.out, ← hE2, ht]; simp
              have HZ := Lib.hid hZ
              clear hZ hE2 htd ht hc hd
              go_wp2_with fail
              go_loopw [6, 46] (fun va vj wr => va = .int .i64 pre.length ∧ vj = .int .i64 0 ∧ w1 = wr) (fun _ _ _ => 0)
              case atStart => exact ⟨rfl, rfl, rfl⟩
              case round =>
                obtain ⟨rfl, rfl, rfl⟩ := hrel
                go_wp2_with fail
                go_roundw
                case rel => exact ⟨i + 1, pre, by go_num, rfl, by omega, by omega, by first | rfl | trivial, HZ.out⟩
                case measure => simp [intOf]; omega
          · have hZ : pre ++ Tot.rep (row.drop (i + 1)) (ws.drop (i + 1)) = Tot.rep row ws := by
              rw [Tot.rep_end (.inr (by omega))] at hE ⊢
              exact hE
            have HZ := Lib.hid hZ
            clear hZ hE hc
            go_wp2_with fail
            go_loopw [6, 46] (fun va vj wr => va = .int .i64 pre.length ∧ vj = .int .i64 0 ∧ w1 = wr) (fun _ _ _ => 0)
            case atStart => exact ⟨rfl, rfl, rfl⟩
            case round =>
              obtain ⟨rfl, rfl, rfl⟩ := hrel
              go_wp2_with fail
              go_roundw
              case rel => exact ⟨i + 1, pre, by go_num, rfl, by omega, by omega, by first | rfl | trivial, HZ.out⟩
              case measure => simp [intOf]; omega
        · have hE3 : pre = Tot.rep row ws := by
            rw [← hE, Tot.rep_end (.inl (by omega)), List.append_nil]
          have hlen : min (pre.length : Int) 100000 = (l.length : Int) := by rw [HLL.out, ← hE3]; omega
          clear hE hE3
          go_wp2_with fail
          refine law23_fixed.mono ?_
          rintro e w2 ⟨rfl, O2⟩
          have hO2 := O1.same O2
          clear O2
          go_wp2_with fail
          go_ret
          exact ⟨rfl, hO2⟩
    · go_enter Try.func4, Try.ntmps4
      go_wp2_with fail
      refine law23_fixed.mono ?_
      rintro e w1 ⟨rfl, O1⟩
      go_wp2_with fail
      go_ret
      exact ⟨rfl, O1⟩
  · go_enter Try.func4, Try.ntmps4
    go_wp2_with fail
    refine law23_fixed.mono ?_
    rintro e w1 ⟨rfl, O1⟩
    go_wp2_with fail
    go_ret
    exact ⟨rfl, O1⟩
end
end Go.Proofs.Ytjbfgafkjejdjaa
