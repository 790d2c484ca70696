/- total.Repeat. -/
import Derived.Test.YtjbfgafkjejdjaaTot1
import Derived.Lib.MinMax
namespace Go.Proofs.Ytjbfgafkjejdjaa
open Go.RowKit

namespace Tot
theorem rep_drop {row ws : List Int} {i : Nat} (h1 : i < row.length) (h2 : i < ws.length) : rep (row.drop i) (ws.drop i) = List.replicate (times ws i) (row.getD i 0) ++ rep (row.drop (i + 1)) (ws.drop (i + 1)) := by
  rw [List.drop_eq_getElem_cons h1, List.drop_eq_getElem_cons h2, rep]
  simp [times, List.getD_eq_getElem?_getD, h1, h2]
theorem rep_end {row ws : List Int} {i : Nat} (h : row.length ≤ i ∨ ws.length ≤ i) : rep (row.drop i) (ws.drop i) = [] := by
  rcases h with h | h
  · rw [List.drop_eq_nil_of_le h]; rfl
  · rw [List.drop_eq_nil_of_le h]
    cases row.drop i <;> rfl
theorem repl_succ {t j : Nat} (h : j < t) (x : Int) : List.replicate (t - j) x = x :: List.replicate (t - (j + 1)) x := by
  rw [show t - j = (t - (j + 1)) + 1 by omega]; rfl
end Tot

/-- what Repeat has so far -/
structure RepAt (w wr : World) (vo : Value) (cur : List Int) : Prop where
  own : wr.ownsRow 0 3 1 vo cur.length (cur.map cI)
  new : ∀ k, vo.ownBlock = some k → w.heap.size ≤ k
  only : Only (fun _ => False) w wr
  len : cur.length ≤ 100000

theorem Tot.rep_mem {x : Int} : ∀ {row ws : List Int}, x ∈ Tot.rep row ws → x ∈ row
  | [], _, h => by simp [Tot.rep] at h
  | _ :: _, [], h => by simp [Tot.rep] at h
  | y :: r, z :: s, h => by
    simp only [Tot.rep, List.mem_append, List.mem_replicate] at h
    rcases h with h | h
    · simp [h.2]
    · exact List.mem_cons_of_mem _ (Tot.rep_mem h)

section
variable {w : World}

set_option maxHeartbeats 3200000 in
theorem Repeat_any {v v2 : Value} {row ws : List Int} (hI : Ints w v row) (hJ : Ints w v2 ws) (hb1 : row.length ≤ 1099511627) (hb2 : ws.length ≤ 1099511627) :
    Calls Try.prog 21 #[v, v2] w fun e w' => ∃ v', e = .returned v' ∧ Ints w' v' (Tot.repeat_ row ws) ∧ Only (fun _ => False) w w' := by
  obtain ⟨ao, ca, rfl, hl1, hl2⟩ := hI.shape
  obtain ⟨bo, cb, rfl, hl3, hl4⟩ := hJ.shape
  obtain ⟨m, hm⟩ : ∃ m : Nat, m = min row.length ws.length := ⟨_, rfl⟩
  have hmn : min (row.length : Int) (ws.length : Int) = (m : Int) := by omega
  have hm1 : m ≤ row.length := by omega
  have hm2 : m ≤ ws.length := by omega
  have HM := Lib.hid hm
  clear hm
  go_enter Try.func21, Try.ntmps21
  go_wp2_with fail
  have HI := Lib.hid hI.range
  go_loopw [5, 16] (fun vo vi wr => ∃ (i : Nat) (cur : List Int), vi = .int .i64 i ∧ i ≤ m ∧ RepAt w wr vo cur ∧ cur ++ Tot.rep (row.drop i) (ws.drop i) = Tot.rep row ws) (fun _ v _ => m - (intOf v).toNat)
  case atStart => exact ⟨0, [], rfl, Nat.zero_le _, ⟨World.ownsRow_nil _ _ _ _, fun k hk => by simp [Value.ownBlock] at hk, Only.refl _ _, by simp⟩, rfl⟩
  case round =>
    obtain ⟨i, cur, rfl, hi, hA, hE⟩ := hrel
    by_cases ci : i < m
    · obtain ⟨rb, ro, rfl, _, hc⟩ := (hI.only0 hA.only).cells _ _ _ rfl (by omega)
      obtain ⟨wb, wo, rfl, _, hd⟩ := (hJ.only0 hA.only).cells _ _ _ rfl (by omega)
      have q1 := hc i (by omega)
      have q2 := hd i (by omega)
      have hE2 := hE
      rw [Tot.rep_drop (by omega) (by omega)] at hE2
      have ht : min (max (ws.getD i 0) 0) 1000 = (Tot.times ws i : Int) := by unfold Tot.times; omega
      have htb : Tot.times ws i ≤ 1000 := by unfold Tot.times; omega
      obtain ⟨rest, hrest⟩ : ∃ rest, rest = Tot.rep (row.drop (i + 1)) (ws.drop (i + 1)) := ⟨_, rfl⟩
      rw [← hrest] at hE2
      have HRest := Lib.hid hrest
      clear hrest
      generalize Tot.times ws i = t at *
      generalize ws.getD i 0 = y at *
      generalize row.getD i 0 = x at *
      obtain ⟨ac, cc, rfl, _, _⟩ := own_slice hA.own
      have HE2 := Lib.hid hE2
      have HA := Lib.hid hA
      clear hE hE2 hc hd hA
      go_wp2_with fail
      go_loopw [5, 27] (fun vo vj wr => ∃ (j : Nat) (cur : List Int), vj = .int .i64 j ∧ j ≤ t ∧ RepAt w wr vo cur ∧ cur ++ (List.replicate (t - j) x ++ rest) = Tot.rep row ws) (fun _ v _ => t - (intOf v).toNat)
      case atStart => exact ⟨0, cur, rfl, Nat.zero_le _, HA.out, HE2.out⟩
      case round =>
        rename_i wr0
        obtain ⟨j, cur2, rfl, hj, hA, hE⟩ := hrel
        by_cases cj : j < t
        · by_cases cl : cur2.length = 100000
          · have hres : cur2 = Tot.repeat_ row ws := by
              unfold Tot.repeat_
              rw [← hE, List.take_left' cl]
            have hfin : Ints wr u5 (Tot.repeat_ row ws) := by
              rw [← hres]
              refine Ints.of_own hA.own (fun z hz => HI.out z (Tot.rep_mem (ws := ws) ?_))
              rw [← hE]; exact List.mem_append_left _ hz
            obtain ⟨ac2, cc2, rfl, _, _⟩ := own_slice hA.own
            have hO := hA.only
            have HF := Lib.hid hfin
            rw [cl] at HF ⊢
            clear hA hE hres hfin HE2 HA
            go_wp2_with fail
            go_ret
            exact ⟨_, rfl, HF.out, hO⟩
          · obtain ⟨ac2, cc2, rfl, _, _⟩ := own_slice hA.own
            rw [Tot.repl_succ cj] at hE
            have hlen := hA.len
            have hl2 : ¬ ((cur2.length : Int) = 100000) := by omega
            have d1 : decide ((cur2.length : Int) = 100000) = false := decide_eq_false hl2
            have d2 : decide (cur2.length = 100000) = false := decide_eq_false cl
            have HE := Lib.hid hE
            have HA2 := Lib.hid hA
            have ro := hA.own
            clear hE hA HE2 HA
            go_wp2_with (at_builtin; go_must (refine wpA1 (u := .int .i64 x) slInt rfl (.tmp 33) (.tmp 35) rfl rfl rfl (cell_new0 _ _ _) rfl (own_only ro ((Only.refl (fun _ => False) _).alloc _) (fun _ _ f => f)) (by omega) (by decide) ?n3))
            intro v2 w3 s1 s2 s3
            have hA3 : RepAt w w3 v2 (cur2 ++ [x]) := by
              have hO := HA2.out.only
              refine ⟨by simpa using s1, fun k hk => ?_, (hO.alloc _).trans s2 (fun k hk => .inr (HA2.out.new k hk)), by simp; omega⟩
              obtain ⟨gg, cap, rfl, _, _, hg⟩ := s3
              simp [Value.ownBlock] at hk
              subst hk
              rcases hg with hg | hg
              · exact HA2.out.new _ hg
              · have := hO.size; simp at hg; omega
            have HA3 := Lib.hid hA3
            clear s1 s2 s3 hA3 ro
            go_wp2_with fail
            go_roundw
            case rel => exact ⟨j + 1, cur2 ++ [x], by go_num, by omega, HA3.out, by rw [← HE.out]; simp⟩
            case measure => simp [intOf]; omega
        · have hj' : j = t := by omega
          have hE3 : cur2 ++ rest = Tot.rep row ws := by
            rw [hj'] at hE
            simpa using hE
          have HE3 := Lib.hid hE3
          have HA3 := Lib.hid hA
          clear hE hE3 hA HE2 HA
          go_wp2_with fail
          go_roundw
          case rel => exact ⟨i + 1, cur2, by go_num, by omega, HA3.out, by rw [← HE3.out, ← HRest.out]⟩
          case measure => simp [intOf]; omega
    · have hi' : i = m := by omega
      have hE3 : cur = Tot.rep row ws := by
        rw [← hE, Tot.rep_end (by rw [hi', HM.out]; omega), List.append_nil]
      have hfin : Ints wr u5 (Tot.repeat_ row ws) := by
        have : Tot.repeat_ row ws = cur := by
          unfold Tot.repeat_
          rw [← hE3, List.take_of_length_le hA.len]
        rw [this]
        refine Ints.of_own hA.own (fun z hz => HI.out z (Tot.rep_mem (ws := ws) ?_))
        rw [← hE3]; exact hz
      have hO := hA.only
      have HF := Lib.hid hfin
      clear hE hE3 hfin hA
      go_wp2_with fail
      go_ret
      exact ⟨_, rfl, HF.out, hO⟩
end
end Go.Proofs.Ytjbfgafkjejdjaa
