/- HeapPlays: the walk of the law. -/
import Derived.Test.YtgbdmembacjooaaHeapPlays4
namespace Go.Proofs.Ytgbdmembacjooaa
open Go.RowKit

set_option maxHeartbeats 64000000 in
set_option maxRecDepth 1000000 in
theorem plays_round_any {w wr : World} {b k gi gs len cap i : Nat} {ao : Option Addr} {f : Nat → Int × Int × Nat} {va vs : Value} {Q : Exit → Act → World → Prop}
    (hk2 : k ≤ 300) (hI : OpsAt w ao len f) (a : Act) (h : PlaysInv w b va vs gi gs k ao len cap i a wr)
    (hQ : ∀ a' w', PlaysInv w b va vs gi gs k ao len cap len a' w' → Q (.exit 2) a' w') :
    playsRound.wp Try.prog (Exit.then (fun a' w' => (∃ i', PlaysInv w b va vs gi gs k ao len cap i' a' w') ∧ len - (intOf (a'.tmps.getD 47 undef)).toNat < len - (intOf (a.tmps.getD 47 undef)).toNat) Q) a wr := by
  have e : a = ⟨((List.range 211).map (fun i => a.tmps.getD i undef)).toArray, []⟩ := by
    obtain ⟨t, d⟩ := a
    have hd : d = [] := h.d
    subst hd
    exact congrArg (fun x => (⟨x, []⟩ : Act)) (arr_eq t 211 h.n)
  rw [h.s47]
  generalize hX : (Exit.then (fun a' w' => (∃ i', PlaysInv w b va vs gi gs k ao len cap i' a' w') ∧ len - (intOf (a'.tmps.getD 47 undef)).toNat < len - (intOf (.int .i64 (i : Int))).toNat) Q) = X
  rw [e, ← hX]
  have h5 := h.s5
  have h6 := h.s6
  have h7 := h.s7
  have h8 := h.s8
  have h45 := h.s45
  have h46 := h.s46
  have h47 := h.s47
  have key := fun v5 v6 v7 v8 v45 v46 v47 (e5 : v5 = Value.pointer (some ⟨b, 0, none⟩)) (e6 : v6 = Value.int .i64 (k : Int)) (e7 : v7 = Value.slice (some ⟨gi, 0, none⟩) k k) (e8 : v8 = Value.slice (some ⟨gs, 0, none⟩) k k) (e45 : v45 = Value.slice ao len cap) (e46 : v46 = Value.int .i64 (len : Int)) (e47 : v47 = Value.int .i64 (i : Int)) =>
    show playsRound.wp Try.prog (Exit.then (fun a' w' => (∃ i', PlaysInv w b va vs gi gs k ao len cap i' a' w') ∧ len - (intOf (a'.tmps.getD 47 undef)).toNat < len - (intOf (.int .i64 (i : Int))).toNat) Q) ⟨#[a.tmps.getD 0 undef, a.tmps.getD 1 undef, a.tmps.getD 2 undef, a.tmps.getD 3 undef, a.tmps.getD 4 undef, v5, v6, v7, v8, a.tmps.getD 9 undef, a.tmps.getD 10 undef, a.tmps.getD 11 undef, a.tmps.getD 12 undef, a.tmps.getD 13 undef, a.tmps.getD 14 undef, a.tmps.getD 15 undef, a.tmps.getD 16 undef, a.tmps.getD 17 undef, a.tmps.getD 18 undef, a.tmps.getD 19 undef, a.tmps.getD 20 undef, a.tmps.getD 21 undef, a.tmps.getD 22 undef, a.tmps.getD 23 undef, a.tmps.getD 24 undef, a.tmps.getD 25 undef, a.tmps.getD 26 undef, a.tmps.getD 27 undef, a.tmps.getD 28 undef, a.tmps.getD 29 undef, a.tmps.getD 30 undef, a.tmps.getD 31 undef, a.tmps.getD 32 undef, a.tmps.getD 33 undef, a.tmps.getD 34 undef, a.tmps.getD 35 undef, a.tmps.getD 36 undef, a.tmps.getD 37 undef, a.tmps.getD 38 undef, a.tmps.getD 39 undef, a.tmps.getD 40 undef, a.tmps.getD 41 undef, a.tmps.getD 42 undef, a.tmps.getD 43 undef, a.tmps.getD 44 undef, v45, v46, v47, a.tmps.getD 48 undef, a.tmps.getD 49 undef, a.tmps.getD 50 undef, a.tmps.getD 51 undef, a.tmps.getD 52 undef, a.tmps.getD 53 undef, a.tmps.getD 54 undef, a.tmps.getD 55 undef, a.tmps.getD 56 undef, a.tmps.getD 57 undef, a.tmps.getD 58 undef, a.tmps.getD 59 undef, a.tmps.getD 60 undef, a.tmps.getD 61 undef, a.tmps.getD 62 undef, a.tmps.getD 63 undef, a.tmps.getD 64 undef, a.tmps.getD 65 undef, a.tmps.getD 66 undef, a.tmps.getD 67 undef, a.tmps.getD 68 undef, a.tmps.getD 69 undef, a.tmps.getD 70 undef, a.tmps.getD 71 undef, a.tmps.getD 72 undef, a.tmps.getD 73 undef, a.tmps.getD 74 undef, a.tmps.getD 75 undef, a.tmps.getD 76 undef, a.tmps.getD 77 undef, a.tmps.getD 78 undef, a.tmps.getD 79 undef, a.tmps.getD 80 undef, a.tmps.getD 81 undef, a.tmps.getD 82 undef, a.tmps.getD 83 undef, a.tmps.getD 84 undef, a.tmps.getD 85 undef, a.tmps.getD 86 undef, a.tmps.getD 87 undef, a.tmps.getD 88 undef, a.tmps.getD 89 undef, a.tmps.getD 90 undef, a.tmps.getD 91 undef, a.tmps.getD 92 undef, a.tmps.getD 93 undef, a.tmps.getD 94 undef, a.tmps.getD 95 undef, a.tmps.getD 96 undef, a.tmps.getD 97 undef, a.tmps.getD 98 undef, a.tmps.getD 99 undef, a.tmps.getD 100 undef, a.tmps.getD 101 undef, a.tmps.getD 102 undef, a.tmps.getD 103 undef, a.tmps.getD 104 undef, a.tmps.getD 105 undef, a.tmps.getD 106 undef, a.tmps.getD 107 undef, a.tmps.getD 108 undef, a.tmps.getD 109 undef, a.tmps.getD 110 undef, a.tmps.getD 111 undef, a.tmps.getD 112 undef, a.tmps.getD 113 undef, a.tmps.getD 114 undef, a.tmps.getD 115 undef, a.tmps.getD 116 undef, a.tmps.getD 117 undef, a.tmps.getD 118 undef, a.tmps.getD 119 undef, a.tmps.getD 120 undef, a.tmps.getD 121 undef, a.tmps.getD 122 undef, a.tmps.getD 123 undef, a.tmps.getD 124 undef, a.tmps.getD 125 undef, a.tmps.getD 126 undef, a.tmps.getD 127 undef, a.tmps.getD 128 undef, a.tmps.getD 129 undef, a.tmps.getD 130 undef, a.tmps.getD 131 undef, a.tmps.getD 132 undef, a.tmps.getD 133 undef, a.tmps.getD 134 undef, a.tmps.getD 135 undef, a.tmps.getD 136 undef, a.tmps.getD 137 undef, a.tmps.getD 138 undef, a.tmps.getD 139 undef, a.tmps.getD 140 undef, a.tmps.getD 141 undef, a.tmps.getD 142 undef, a.tmps.getD 143 undef, a.tmps.getD 144 undef, a.tmps.getD 145 undef, a.tmps.getD 146 undef, a.tmps.getD 147 undef, a.tmps.getD 148 undef, a.tmps.getD 149 undef, a.tmps.getD 150 undef, a.tmps.getD 151 undef, a.tmps.getD 152 undef, a.tmps.getD 153 undef, a.tmps.getD 154 undef, a.tmps.getD 155 undef, a.tmps.getD 156 undef, a.tmps.getD 157 undef, a.tmps.getD 158 undef, a.tmps.getD 159 undef, a.tmps.getD 160 undef, a.tmps.getD 161 undef, a.tmps.getD 162 undef, a.tmps.getD 163 undef, a.tmps.getD 164 undef, a.tmps.getD 165 undef, a.tmps.getD 166 undef, a.tmps.getD 167 undef, a.tmps.getD 168 undef, a.tmps.getD 169 undef, a.tmps.getD 170 undef, a.tmps.getD 171 undef, a.tmps.getD 172 undef, a.tmps.getD 173 undef, a.tmps.getD 174 undef, a.tmps.getD 175 undef, a.tmps.getD 176 undef, a.tmps.getD 177 undef, a.tmps.getD 178 undef, a.tmps.getD 179 undef, a.tmps.getD 180 undef, a.tmps.getD 181 undef, a.tmps.getD 182 undef, a.tmps.getD 183 undef, a.tmps.getD 184 undef, a.tmps.getD 185 undef, a.tmps.getD 186 undef, a.tmps.getD 187 undef, a.tmps.getD 188 undef, a.tmps.getD 189 undef, a.tmps.getD 190 undef, a.tmps.getD 191 undef, a.tmps.getD 192 undef, a.tmps.getD 193 undef, a.tmps.getD 194 undef, a.tmps.getD 195 undef, a.tmps.getD 196 undef, a.tmps.getD 197 undef, a.tmps.getD 198 undef, a.tmps.getD 199 undef, a.tmps.getD 200 undef, a.tmps.getD 201 undef, a.tmps.getD 202 undef, a.tmps.getD 203 undef, a.tmps.getD 204 undef, a.tmps.getD 205 undef, a.tmps.getD 206 undef, a.tmps.getD 207 undef, a.tmps.getD 208 undef, a.tmps.getD 209 undef, a.tmps.getD 210 undef], []⟩ wr from by
      subst e5 e6 e7 e8 e45 e46 e47
      exact plays_round hk2 hI h.le h.play hQ
  exact key _ _ _ _ _ _ _ h5 h6 h7 h8 h45 h46 h47

set_option maxHeartbeats 64000000 in
set_option maxRecDepth 1000000 in
theorem HeapPlays_walk {w : World} {ao : Option Addr} {len cap : Nat} {z : Int} {f : Nat → Int × Int × Nat} (hI : OpsAt w ao len f) :
    Calls Try.prog 5 #[.int .i64 z, .slice ao len cap] w fun e w' => e = .returned (.bool true) ∧ Only (fun _ => False) w w' := by
  have hm := hI.1
  by_cases hbig : 300 < z ∨ 500 < len
  · by_cases hb1 : 300 < z
    · clear hbig
      go_enter Try.func5, Try.ntmps5
      go_wp2_with fail
      refine fixed_any.mono ?_
      rintro e w1 ⟨rfl, O1⟩
      go_wp2_with fail
      go_ret
      exact ⟨rfl, O1⟩
    · have hb2 : 500 < len := by omega
      clear hbig
      go_enter Try.func5, Try.ntmps5
      go_wp2_with fail
      refine fixed_any.mono ?_
      rintro e w1 ⟨rfl, O1⟩
      go_wp2_with fail
      go_ret
      exact ⟨rfl, O1⟩
  · obtain ⟨k, hk⟩ : ∃ k : Nat, (k : Int) = max 0 z := ⟨(max 0 z).toNat, by omega⟩
    have mk1 := fun W => run_make1 (P := Try.prog) W 35 4 (.bool false) 1 Try.underlying35 infoB rfl k (by omega) (by omega)
    have mk2 := fun W => run_make1 (P := Try.prog) W 36 28 (.int .u64 0) 8 Try.underlying36 info64 rfl k (by omega) (by omega)
    have hk2 : k ≤ 300 := by omega
    have hk3 : z = k ∨ z < 0 ∧ k = 0 := by omega
    have d1 : decide (300 < z) = false := decide_eq_false (by omega)
    have d2 : decide ((500 : Int) < len) = false := decide_eq_false (by omega)
    have HK := Lib.hid hk3
    have hmax : (if 0 < z then z else 0) = (k : Int) := by split <;> omega
    clear hk hk3 hbig
    go_enter Try.func5, Try.ntmps5
    go_wp2_with fail
    refine (New_any _ k (by omega) HK.out).mono ?_
    rintro e w1 ⟨b, vl, va, vs, rfl, H, hF, O⟩
    go_upto_region 5 with fail
    go_cut [7, 8] (fun v7 v8 wx => ∃ gi gs, v7 = .slice (some ⟨gi, 0, none⟩) k k ∧ v8 = .slice (some ⟨gs, 0, none⟩) k k ∧ PlayAt w wx b vl va vs gi gs k (Hp.new k) (inTo 0 k) (List.replicate k 0))
    case first =>
      go_region
      · go_wp2_with fail
        go_meet
        exact ⟨_, _, rfl, rfl, (play_new1 hk2 H hF O).drew⟩
      · go_wp2_with fail
        go_meet
        exact ⟨_, _, rfl, rfl, (play_new2 hk2 H hF O).drew⟩
    case rest =>
      obtain ⟨gi, gs, rfl, rfl, P0⟩ := hcut
      clear mk1 mk2 hmax H hF O
      go_wp2_with fail
      go_loopw [38] (fun v wr => ∃ j : Nat, v = .int .i64 j ∧ j ≤ k ∧ PlayAt w wr b vl va vs gi gs k (Hp.new k) (inTo j k) (List.replicate k 0)) (fun v _ => k - (intOf v).toNat)
      case atStart => exact ⟨0, rfl, Nat.zero_le _, P0⟩
      case round =>
        clear P0
        obtain ⟨j, rfl, hj, P1⟩ := hrel
        by_cases c : j < k
        · have hc := P1.cellI c
          have hf := P1.ri.frozenAt j
          have P2 := P1.setIn j true
          rw [inTo_succ c] at P2
          have HP2 := Lib.hid P2
          clear P2
          generalize (inTo j k).getD j false = x at *
          go_wp2_with fail
          go_roundw
          case rel => exact ⟨j + 1, by go_num, by omega, HP2.out⟩
          case measure => simp [intOf]; omega
        · have hj' : k = j := by omega
          subst hj'
          have A1 := agree_new k
          go_wp2_with fail
          refine wp_loop (fun a wr => ∃ i, PlaysInv w b va vs gi gs k ao len cap i a wr) (fun a _ => len - (intOf (a.tmps.getD 47 undef)).toNat) ?_ ?_
          · exact ⟨0, rfl, rfl, rfl, rfl, rfl, rfl, rfl, rfl, rfl, Nat.zero_le _, vl, _, _, _, P1, A1⟩
          · rintro a' w' ⟨i, hinv⟩
            refine plays_round_any hk2 hI a' hinv ?_
            intro a2 w2 h2
            simp only [Exit.inBlock, if_true]
            obtain ⟨vl2, h2', In2, Sc2, P2, A2⟩ := h2.play
            have e : a2 = ⟨((List.range 211).map (fun i => a2.tmps.getD i undef)).toArray, []⟩ := by
              obtain ⟨t, d⟩ := a2
              have hd : d = [] := h2.d
              subst hd
              exact congrArg (fun x => (⟨x, []⟩ : Act)) (arr_eq t 211 h2.n)
            clear hinv
            rw [e, show ((List.range 211).map (fun i => a2.tmps.getD i undef)) = [a2.tmps.getD 0 undef, a2.tmps.getD 1 undef, a2.tmps.getD 2 undef, a2.tmps.getD 3 undef, a2.tmps.getD 4 undef, a2.tmps.getD 5 undef, a2.tmps.getD 6 undef, a2.tmps.getD 7 undef, a2.tmps.getD 8 undef, a2.tmps.getD 9 undef, a2.tmps.getD 10 undef, a2.tmps.getD 11 undef, a2.tmps.getD 12 undef, a2.tmps.getD 13 undef, a2.tmps.getD 14 undef, a2.tmps.getD 15 undef, a2.tmps.getD 16 undef, a2.tmps.getD 17 undef, a2.tmps.getD 18 undef, a2.tmps.getD 19 undef, a2.tmps.getD 20 undef, a2.tmps.getD 21 undef, a2.tmps.getD 22 undef, a2.tmps.getD 23 undef, a2.tmps.getD 24 undef, a2.tmps.getD 25 undef, a2.tmps.getD 26 undef, a2.tmps.getD 27 undef, a2.tmps.getD 28 undef, a2.tmps.getD 29 undef, a2.tmps.getD 30 undef, a2.tmps.getD 31 undef, a2.tmps.getD 32 undef, a2.tmps.getD 33 undef, a2.tmps.getD 34 undef, a2.tmps.getD 35 undef, a2.tmps.getD 36 undef, a2.tmps.getD 37 undef, a2.tmps.getD 38 undef, a2.tmps.getD 39 undef, a2.tmps.getD 40 undef, a2.tmps.getD 41 undef, a2.tmps.getD 42 undef, a2.tmps.getD 43 undef, a2.tmps.getD 44 undef, a2.tmps.getD 45 undef, a2.tmps.getD 46 undef, a2.tmps.getD 47 undef, a2.tmps.getD 48 undef, a2.tmps.getD 49 undef, a2.tmps.getD 50 undef, a2.tmps.getD 51 undef, a2.tmps.getD 52 undef, a2.tmps.getD 53 undef, a2.tmps.getD 54 undef, a2.tmps.getD 55 undef, a2.tmps.getD 56 undef, a2.tmps.getD 57 undef, a2.tmps.getD 58 undef, a2.tmps.getD 59 undef, a2.tmps.getD 60 undef, a2.tmps.getD 61 undef, a2.tmps.getD 62 undef, a2.tmps.getD 63 undef, a2.tmps.getD 64 undef, a2.tmps.getD 65 undef, a2.tmps.getD 66 undef, a2.tmps.getD 67 undef, a2.tmps.getD 68 undef, a2.tmps.getD 69 undef, a2.tmps.getD 70 undef, a2.tmps.getD 71 undef, a2.tmps.getD 72 undef, a2.tmps.getD 73 undef, a2.tmps.getD 74 undef, a2.tmps.getD 75 undef, a2.tmps.getD 76 undef, a2.tmps.getD 77 undef, a2.tmps.getD 78 undef, a2.tmps.getD 79 undef, a2.tmps.getD 80 undef, a2.tmps.getD 81 undef, a2.tmps.getD 82 undef, a2.tmps.getD 83 undef, a2.tmps.getD 84 undef, a2.tmps.getD 85 undef, a2.tmps.getD 86 undef, a2.tmps.getD 87 undef, a2.tmps.getD 88 undef, a2.tmps.getD 89 undef, a2.tmps.getD 90 undef, a2.tmps.getD 91 undef, a2.tmps.getD 92 undef, a2.tmps.getD 93 undef, a2.tmps.getD 94 undef, a2.tmps.getD 95 undef, a2.tmps.getD 96 undef, a2.tmps.getD 97 undef, a2.tmps.getD 98 undef, a2.tmps.getD 99 undef, a2.tmps.getD 100 undef, a2.tmps.getD 101 undef, a2.tmps.getD 102 undef, a2.tmps.getD 103 undef, a2.tmps.getD 104 undef, a2.tmps.getD 105 undef, a2.tmps.getD 106 undef, a2.tmps.getD 107 undef, a2.tmps.getD 108 undef, a2.tmps.getD 109 undef, a2.tmps.getD 110 undef, a2.tmps.getD 111 undef, a2.tmps.getD 112 undef, a2.tmps.getD 113 undef, a2.tmps.getD 114 undef, a2.tmps.getD 115 undef, a2.tmps.getD 116 undef, a2.tmps.getD 117 undef, a2.tmps.getD 118 undef, a2.tmps.getD 119 undef, a2.tmps.getD 120 undef, a2.tmps.getD 121 undef, a2.tmps.getD 122 undef, a2.tmps.getD 123 undef, a2.tmps.getD 124 undef, a2.tmps.getD 125 undef, a2.tmps.getD 126 undef, a2.tmps.getD 127 undef, a2.tmps.getD 128 undef, a2.tmps.getD 129 undef, a2.tmps.getD 130 undef, a2.tmps.getD 131 undef, a2.tmps.getD 132 undef, a2.tmps.getD 133 undef, a2.tmps.getD 134 undef, a2.tmps.getD 135 undef, a2.tmps.getD 136 undef, a2.tmps.getD 137 undef, a2.tmps.getD 138 undef, a2.tmps.getD 139 undef, a2.tmps.getD 140 undef, a2.tmps.getD 141 undef, a2.tmps.getD 142 undef, a2.tmps.getD 143 undef, a2.tmps.getD 144 undef, a2.tmps.getD 145 undef, a2.tmps.getD 146 undef, a2.tmps.getD 147 undef, a2.tmps.getD 148 undef, a2.tmps.getD 149 undef, a2.tmps.getD 150 undef, a2.tmps.getD 151 undef, a2.tmps.getD 152 undef, a2.tmps.getD 153 undef, a2.tmps.getD 154 undef, a2.tmps.getD 155 undef, a2.tmps.getD 156 undef, a2.tmps.getD 157 undef, a2.tmps.getD 158 undef, a2.tmps.getD 159 undef, a2.tmps.getD 160 undef, a2.tmps.getD 161 undef, a2.tmps.getD 162 undef, a2.tmps.getD 163 undef, a2.tmps.getD 164 undef, a2.tmps.getD 165 undef, a2.tmps.getD 166 undef, a2.tmps.getD 167 undef, a2.tmps.getD 168 undef, a2.tmps.getD 169 undef, a2.tmps.getD 170 undef, a2.tmps.getD 171 undef, a2.tmps.getD 172 undef, a2.tmps.getD 173 undef, a2.tmps.getD 174 undef, a2.tmps.getD 175 undef, a2.tmps.getD 176 undef, a2.tmps.getD 177 undef, a2.tmps.getD 178 undef, a2.tmps.getD 179 undef, a2.tmps.getD 180 undef, a2.tmps.getD 181 undef, a2.tmps.getD 182 undef, a2.tmps.getD 183 undef, a2.tmps.getD 184 undef, a2.tmps.getD 185 undef, a2.tmps.getD 186 undef, a2.tmps.getD 187 undef, a2.tmps.getD 188 undef, a2.tmps.getD 189 undef, a2.tmps.getD 190 undef, a2.tmps.getD 191 undef, a2.tmps.getD 192 undef, a2.tmps.getD 193 undef, a2.tmps.getD 194 undef, a2.tmps.getD 195 undef, a2.tmps.getD 196 undef, a2.tmps.getD 197 undef, a2.tmps.getD 198 undef, a2.tmps.getD 199 undef, a2.tmps.getD 200 undef, a2.tmps.getD 201 undef, a2.tmps.getD 202 undef, a2.tmps.getD 203 undef, a2.tmps.getD 204 undef, a2.tmps.getD 205 undef, a2.tmps.getD 206 undef, a2.tmps.getD 207 undef, a2.tmps.getD 208 undef, a2.tmps.getD 209 undef, a2.tmps.getD 210 undef] from rfl]
            clear e h2
            generalize a2.tmps = t2
            go_wp2_with fail
            refine fixed_any.mono ?_
            rintro e w3 ⟨rfl, O3⟩
            go_wp2_with fail
            go_ret
            exact ⟨rfl, P2.only.same O3⟩

end Go.Proofs.Ytgbdmembacjooaa
