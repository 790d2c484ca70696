/- The walk of cooperref18.All. -/
import Derived.Test.YtjedgdamommgeaaListsA
set_option linter.unusedVariables false
namespace Go.Proofs.Ytjedgdamommgeaa
open Go.RowKit

section
variable {w : World}

/-- What All hands back. -/
def AllPost (w : World) (p : List Int × Bool) (e : Ending) (w' : World) : Prop :=
  ∃ v, e = .returned (.tuple #[v, .bool p.2]) ∧ w'.ownsRow 0 3 1 v p.1.length (p.1.map cI) ∧ (∀ k, v.ownBlock = some k → w.heap.size ≤ k) ∧ Only (fun _ => False) w w'

set_option maxHeartbeats 3200000 in
theorem All_any {vl vc : Value} {l : List Int} {cs : List (List Int)} (hl : Ints w vl l) (hc : IntsS w vc cs) (hlit : ∀ c ∈ cs, ∀ x ∈ c, Cnf.Lit x) (n : Nat) (hb : l.length + (n + 1) * cs.length ≤ 1099511627) (hn : n ≤ 1099511627) (nI : Int) (hnI : nI = n) :
    Calls Try.prog 23 #[vl, vc, .int .i64 nI] w (AllPost w (Cnf.allR cs (n + 1) l)) := by
  subst hnI
  obtain ⟨al, cl, rfl, hl1, hl2⟩ := hl.shape
  obtain ⟨ac, cc, rfl, hc1, hc2⟩ := hc.shape
  have HLit := Lib.hid hlit
  clear hlit
  generalize hR : Cnf.allR cs (n + 1) l = R at *
  have HR := Lib.hid hR
  clear hR
  go_enter Try.func23, Try.ntmps23
  go_wp2_with (at_builtin; go_must (refine wpAS slInt rfl (.tmp 14) (.tmp 15) rfl (v := .slice (some ⟨w.heap.size, 0, none⟩) 0 0) (n := 0) (xs := []) rfl (own_lit0 w) rfl (news := l.map cI) (by simp) ?n1 (by exact (hl.only0 ((Only.refl _ w).alloc _)).news) (ints_one l) (by omega) (by decide) ?n2))
  case n1 =>
    intro e; exact hl.nil _ _ (by rw [e])
  case n2 =>
    intro v1 w1 r1 r2 r3
    have hv1 : ∀ k, v1.ownBlock = some k → w.heap.size ≤ k := by
      intro k hk
      rcases r3 k hk with h | h
      · simp [Value.ownBlock] at h; omega
      · simp at h; omega
    have O1 : Only (fun _ => False) w w1 := ((Only.refl _ w).alloc _).trans r2 (by intro i hi; simp [Value.ownBlock] at hi; exact .inr (by omega))
    have r1 : w1.ownsRow 0 3 1 v1 l.length (l.map cI) := by simpa using r1
    have hrg := hl.range
    have HRG := Lib.hid hrg
    have HV1 := Lib.hid hv1
    clear hrg r2 r3 hv1 hl
    go_wp2_with fail
    go_loopw [8, 9] (fun vo v wr => ∃ (i : Nat) (o : List Int), v = .int .i64 i ∧ i ≤ n + 1 ∧ R = Cnf.allR cs (n + 1 - i) o ∧ wr.ownsRow 0 3 1 vo o.length (o.map cI) ∧ (∀ k, vo.ownBlock = some k → w.heap.size ≤ k) ∧ (∀ x ∈ o, InI64 x) ∧ o.length ≤ l.length + i * cs.length ∧ Only (fun _ => False) w wr) (fun _ v _ => n + 1 - (intOf v).toNat)
    case atStart => exact ⟨0, l, rfl, Nat.zero_le _, HR.out.symm, r1, HV1.out, HRG.out, by omega, O1⟩
    case round =>
      obtain ⟨i, o, rfl, hi, hV, ro, rb, rr, rl, hO⟩ := hrel
      have HV := Lib.hid hV
      have HB := Lib.hid rb
      have HRR := Lib.hid rr
      clear hV rb rr
      have hmul : i * cs.length ≤ (n + 1) * cs.length := Nat.mul_le_mul_right _ hi
      by_cases ci : i ≤ n
      · have g1 : decide ((i : Int) ≤ (n : Int)) = true := decide_eq_true (by omega)
        have hmul1 : (i + 1) * cs.length ≤ (n + 1) * cs.length := Nat.mul_le_mul_right _ (by omega)
        have hs1 : (i + 1) * cs.length = i * cs.length + cs.length := Nat.succ_mul _ _
        go_wp2_with fail
        go_loopw [8, 24] (fun vo v wr => ∃ (j : Nat) (o : List Int), v = .int .i64 j ∧ j ≤ cs.length ∧ R = Cnf.andThen (Cnf.pass (cs.drop j) o) (Cnf.allR cs (n - i)) ∧ wr.ownsRow 0 3 1 vo o.length (o.map cI) ∧ (∀ k, vo.ownBlock = some k → w.heap.size ≤ k) ∧ (∀ x ∈ o, InI64 x) ∧ o.length ≤ l.length + i * cs.length + j ∧ Only (fun _ => False) w wr) (fun _ v _ => cs.length - (intOf v).toNat)
        case atStart =>
          refine ⟨0, o, rfl, Nat.zero_le _, ?_, ro, HB.out, HRR.out, by omega, hO⟩
          rw [HV.out, show n + 1 - i = (n - i) + 1 by omega]
          rfl
        case round =>
          obtain ⟨j, o, rfl, hj, hV, ro, rb, rr, rl, hO⟩ := hrel
          by_cases cj : j < cs.length
          · rw [Cnf.pass_drop cj] at hV
            have HV := Lib.hid hV
            have HB := Lib.hid rb
            have HRR := Lib.hid rr
            have hcj := (hc.only0 hO)
            obtain ⟨b, off, u, rfl, hbs, q, hu⟩ := hcj.at cj
            have hlit := HLit.out _ (getD_mem' [] cj)
            have HL := Lib.hid hlit
            have hout := Ints.of_own ro rr
            have HO := Lib.hid hO
            clear hV rb rr hcj hlit
            generalize cs.getD j [] = c at *
            rcases Cnf.fol_three o c with ⟨z, h3⟩ | h3 | ⟨x, hx, h3⟩
            · have H3 := Lib.hid h3
              clear h3
              go_wp2_with fail
              refine (Follows_any hout hu HL.out z 0 H3.out).mono ?_
              rintro e w' ⟨rfl, rfl⟩
              go_wp2_with fail
              go_roundw
              case rel => exact ⟨j + 1, o, by go_num, by omega, by rw [HV.out, H3.out]; simp, ro, HB.out, HRR.out, by omega, HO.out⟩
              case measure => simp [intOf]; omega
            · have H3 := Lib.hid h3
              clear h3
              go_wp2_with fail
              refine (Follows_any hout hu HL.out 0 (-1) H3.out).mono ?_
              rintro e w' ⟨rfl, rfl⟩
              go_wp2_with fail
              go_ret2
              have hfin : R = (o, true) := by rw [HV.out, H3.out]; simp [Cnf.andThen]
              rw [hfin]
              exact ⟨_, rfl, ro, HB.out, HO.out⟩
            · have H3 := Lib.hid h3
              have hxl := (HL.out x hx).r
              have HXL := Lib.hid hxl
              clear h3 hx hxl
              go_wp2_with fail
              refine (Follows_any hout hu HL.out x 1 H3.out).mono ?_
              rintro e w' ⟨rfl, rfl⟩
              go_wp2_with (at_builtin; go_must (refine wpA1 slInt rfl (.tmp 41) (.tmp 43) rfl rfl rfl (cell_new0 _ _ _) rfl (own_only ro ((Only.refl (fun _ => False) _).alloc _) (fun _ _ f => f)) (by omega) (by decide) ?n3))
              intro v2 w2 s1 s2 s3
              have O2 : Only (fun _ => False) w w2 := (HO.out.alloc _).trans s2 (fun k hk => .inr (HB.out k hk))
              have hb2 : ∀ k, v2.ownBlock = some k → w.heap.size ≤ k := by
                obtain ⟨g, cap, rfl, _, _, h⟩ := s3
                intro k hk
                simp [Value.ownBlock] at hk
                subst hk
                rcases h with h | h
                · exact HB.out _ h
                · have := HO.out.size; simp at h; omega
              have HB2 := Lib.hid hb2
              have s1' : w2.ownsRow 0 3 1 v2 (o ++ [x]).length ((o ++ [x]).map cI) := by simpa [cI] using s1
              clear hb2 s1 s2 s3 ro
              go_wp2_with fail
              go_roundw
              case rel =>
                refine ⟨j + 1, o ++ [x], by go_num, by omega, by rw [HV.out, H3.out]; simp, s1', HB2.out, ?_, by simp; omega, O2⟩
                intro y hy
                rcases List.mem_append.1 hy with h | h
                · exact HRR.out y h
                · simp at h; subst h; exact HXL.out
              case measure => simp [intOf]; omega
          · have hj' : j = cs.length := by omega
            have HV := Lib.hid hV
            have HB := Lib.hid rb
            have HRR := Lib.hid rr
            clear hV rb rr
            go_wp2_with fail
            go_roundw
            case rel =>
              refine ⟨i + 1, o, by go_num, by omega, ?_, ro, HB.out, HRR.out, by omega, hO⟩
              rw [HV.out, hj', List.drop_length, show n + 1 - (i + 1) = n - i by omega]
              simp [Cnf.pass, Cnf.andThen]
            case measure => simp [intOf]; omega
      · have g1 : decide ((i : Int) ≤ (n : Int)) = false := decide_eq_false (by omega)
        have hi' : i = n + 1 := by omega
        have hfin : R = (o, false) := by rw [HV.out, hi', Nat.sub_self]; rfl
        go_wp2_with fail
        go_ret2
        rw [hfin]
        exact ⟨_, rfl, ro, HB.out, hO⟩

end
end Go.Proofs.Ytjedgdamommgeaa
