/- HeapPlays: the helper first, and the plain side of the law. -/
import Derived.Test.YtgbdmembacjooaaHeapLaw2
namespace Go.Proofs.Ytgbdmembacjooaa
open Go.RowKit

def cB (x : Bool) : Value := .bool x

/-- which one of the first k that are in comes first -/
def FirstOf (In : List Bool) (Sc : List Nat) (k : Nat) (at_ : Option Nat) : Prop :=
  match at_ with
  | none => ∀ j, j < k → In.getD j false = false
  | some a => a < k ∧ In.getD a false = true ∧ ∀ j, j < k → In.getD j false = true → j ≠ a → Hp.ahead Sc a j = true

def zOf : Option Nat → Int
  | none => -1
  | some a => a

theorem FirstOf.skip {In : List Bool} {Sc : List Nat} {k : Nat} {at_ : Option Nat} (h : FirstOf In Sc k at_) (hk : In.getD k false = false) : FirstOf In Sc (k + 1) at_ := by
  cases at_ with
  | none =>
    intro j hj
    rcases Nat.lt_or_ge j k with c | c
    · exact h j c
    · rw [show j = k by omega]; exact hk
  | some a =>
    refine ⟨by have := h.1; omega, h.2.1, fun j hj hin hne => ?_⟩
    rcases Nat.lt_or_ge j k with c | c
    · exact h.2.2 j c hin hne
    · rw [show j = k by omega, hk] at hin; cases hin

theorem FirstOf.start {In : List Bool} {Sc : List Nat} {k : Nat} (h : FirstOf In Sc k none) (hk : In.getD k false = true) : FirstOf In Sc (k + 1) (some k) := by
  refine ⟨by omega, hk, fun j hj hin hne => ?_⟩
  have := h j (by omega)
  rw [hin] at this; cases this

theorem FirstOf.take {In : List Bool} {Sc : List Nat} {k a : Nat} (h : FirstOf In Sc k (some a)) (hk : In.getD k false = true) (hs : Sc.getD a 0 < Sc.getD k 0) : FirstOf In Sc (k + 1) (some k) := by
  refine ⟨by omega, hk, fun j hj hin hne => ?_⟩
  by_cases e : j = a
  · subst e
    rw [Hp.ahead_iff]; omega
  · have := h.2.2 j (by omega) hin e
    rw [Hp.ahead_iff] at this
    rw [Hp.ahead_iff]; omega

theorem FirstOf.leave {In : List Bool} {Sc : List Nat} {k a : Nat} (h : FirstOf In Sc k (some a)) (hs : ¬ Sc.getD a 0 < Sc.getD k 0) : FirstOf In Sc (k + 1) (some a) := by
  refine ⟨by have := h.1; omega, h.2.1, fun j hj hin hne => ?_⟩
  rcases Nat.lt_or_ge j k with c | c
  · exact h.2.2 j c hin hne
  · have e : j = k := by omega
    subst e
    have := h.1
    rw [Hp.ahead_iff]; omega

def FirstPost (In : List Bool) (Sc : List Nat) (n : Nat) (w : World) (e : Ending) (w' : World) : Prop :=
  ∃ at_ : Option Nat, FirstOf In Sc n at_ ∧ e = .returned (.int .i64 (zOf at_ + 1)) ∧ ∃ m, w' = w.drewN m

set_option maxHeartbeats 1600000 in
theorem first_any {w : World} {In : List Bool} {Sc : List Nat} {n gi ci gs cs : Nat} (hn : n ≤ 65536) (hIn : In.length = n) (hSc : Sc.length = n)
    (hi : w.ownsRow 0 4 1 (.slice (some ⟨gi, 0, none⟩) n ci) n (In.map cB)) (hs : w.ownsRow 0 28 1 (.slice (some ⟨gs, 0, none⟩) n cs) n (Sc.map cS)) :
    Calls Try.prog 14 #[.slice (some ⟨gi, 0, none⟩) n ci, .slice (some ⟨gs, 0, none⟩) n cs] w (FirstPost In Sc n w) := by
  have HIn := Lib.hid hIn
  have HSc := Lib.hid hSc
  clear hIn hSc
  go_enter Try.func14, Try.ntmps14
  go_wp2_with fail
  go_loopw [5, 9] (fun vat v wr => ∃ (k : Nat) (at_ : Option Nat), v = .int .i64 k ∧ vat = .int .i64 (zOf at_) ∧ k ≤ n ∧ FirstOf In Sc k at_ ∧ ∃ m, wr = w.drewN m) (fun _ v _ => n - (intOf v).toNat)
  case atStart => exact ⟨0, none, rfl, rfl, Nat.zero_le _, fun j hj => by omega, 0, rfl⟩
  case round =>
    obtain ⟨k, at_, rfl, rfl, hk, hF, m, rfl⟩ := hrel
    by_cases c : k < n
    · have hci : w.cell? ⟨gi, k, none⟩ = some (.bool (In.getD k false)) := row_cell hi false (by rw [HIn.out]; exact c)
      have hcs : w.cell? ⟨gs, k, none⟩ = some (.int .u64 (Sc.getD k 0 : Nat)) := row_cell hs 0 (by rw [HSc.out]; exact c)
      have c' : (k : Int) < (n : Int) := by omega
      cases hx : In.getD k false
      · have h2 := hF.skip hx
        rw [hx] at hci
        have HX := Lib.hid hx
        clear hx
        go_wp2_with fail
        go_quiet (fail)
        go_wp2_with fail
        go_roundw
        case rel => exact ⟨k + 1, at_, by go_num, rfl, by omega, h2, _, rfl⟩
        case measure => simp [intOf]; omega
      · rw [hx] at hci
        have HX := Lib.hid hx
        clear hx
        cases at_ with
        | none =>
          simp only [zOf]
          go_wp2_with fail
          go_quiet (fail)
          go_wp2_with fail
          go_roundw
          case rel => exact ⟨k + 1, some k, by go_num, rfl, by omega, hF.start HX.out, _, rfl⟩
          case measure => simp [intOf]; omega
        | some a =>
          have ha : a < k := hF.1
          have hca : w.cell? ⟨gs, a, none⟩ = some (.int .u64 (Sc.getD a 0 : Nat)) := row_cell hs 0 (by rw [HSc.out]; omega)
          have a1 : decide ((a : Int) < 0) = false := decide_eq_false (by omega)
          have a2 : (a : Int) < (n : Int) := by omega
          simp only [zOf]
          by_cases d : Sc.getD a 0 < Sc.getD k 0
          · have h2 := hF.take HX.out d
            have H2 := Lib.hid h2
            clear h2 hF
            have d1 : decide (Sc.getD a 0 < Sc.getD k 0) = true := decide_eq_true d
            generalize Sc.getD a 0 = xa at *
            generalize Sc.getD k 0 = xk at *
            go_wp2_with fail
            go_quiet (fail)
            go_wp2_with fail
            go_roundw
            case rel => exact ⟨k + 1, some k, by go_num, rfl, by omega, H2.out, _, rfl⟩
            case measure => simp [intOf]; omega
          · have h2 := hF.leave d
            have H2 := Lib.hid h2
            clear h2 hF
            have d1 : decide (Sc.getD a 0 < Sc.getD k 0) = false := decide_eq_false d
            generalize Sc.getD a 0 = xa at *
            generalize Sc.getD k 0 = xk at *
            go_wp2_with fail
            go_quiet (fail)
            go_wp2_with fail
            go_roundw
            case rel => exact ⟨k + 1, some a, by go_num, rfl, by omega, H2.out, _, rfl⟩
            case measure => simp [intOf]; omega
    · have hk' : k = n := by omega
      subst hk'
      have hz : -1 ≤ zOf at_ ∧ zOf at_ ≤ 65536 := by
        cases at_ with
        | none => simp [zOf]
        | some a => have := hF.1; simp [zOf]; omega
      generalize hzz : zOf at_ = z at *
      have HZ := Lib.hid hzz
      clear hzz
      go_wp2_with fail
      go_ret
      exact ⟨at_, hF, by rw [HZ.out]; rfl, _, rfl⟩

theorem or_dec {p q : Prop} [Decidable p] [Decidable q] : (decide p || decide q) = true ↔ p ∨ q := by simp

/-- the loop ahead of a bump, on the scores alone -/
def roomL : Nat → List Nat → Nat → Nat → List Nat × Nat
  | 0, S, _, y => (S, y)
  | f + 1, S, a, y => if decide (Hp.most < y) || decide (Hp.most < S.getD a 0 + y) then roomL f (S.map (· / 2)) a (y / 2) else (S, y)

theorem room_roomL : ∀ (f : Nat) (h : Hp) (a y : Nat), ((Hp.room f h a y).1.S, (Hp.room f h a y).2) = roomL f h.S a y
  | 0, _, _, _ => rfl
  | f + 1, h, a, y => by
    rw [Hp.room, roomL]
    show (((if _ then _ else _ : Hp × Nat)).1.S, _) = _
    unfold Hp.sc
    split
    · rw [room_roomL f, Hp.halve_S]
    · rfl

theorem getD_half (S : List Nat) (a : Nat) : (S.map (· / 2)).getD a 0 = S.getD a 0 / 2 := by
  simp only [List.getD_eq_getElem?_getD, List.getElem?_map]
  cases S[a]? <;> simp

theorem roomL_fuel : ∀ (f g : Nat) (S : List Nat) (a y : Nat), S.getD a 0 ≤ Hp.most → y ≤ f → y ≤ g → roomL f S a y = roomL g S a y
  | 0, 0, _, _, _, _, _, _ => rfl
  | 0, g + 1, S, a, y, hm, hf, _ => by
    have : y = 0 := by omega
    subst this
    rw [roomL, roomL, if_neg (by rw [or_dec]; omega)]
  | f + 1, 0, S, a, y, hm, _, hg => by
    have : y = 0 := by omega
    subst this
    rw [roomL, roomL, if_neg (by rw [or_dec]; omega)]
  | f + 1, g + 1, S, a, y, hm, hf, hg => by
    simp only [roomL]
    split
    · rename_i hc
      have : 0 < y := by
        rcases Nat.eq_zero_or_pos y with rfl | h0
        · rw [or_dec] at hc; omega
        · exact h0
      exact roomL_fuel f g _ _ _ (by rw [getD_half]; omega) (by omega) (by omega)
    · rfl

theorem roomL_eq (S : List Nat) (a y : Nat) (hm : S.getD a 0 ≤ Hp.most) : roomL y S a y = if decide (Hp.most < y) || decide (Hp.most < S.getD a 0 + y) then roomL (y / 2) (S.map (· / 2)) a (y / 2) else (S, y) := by
  cases y with
  | zero => rw [roomL, if_neg (by rw [or_dec]; omega)]
  | succ y =>
    rw [roomL]
    split
    · exact roomL_fuel _ _ _ _ _ (by rw [getD_half]; omega) (by omega) (by omega)
    · rfl

theorem roomL_sum : ∀ (f : Nat) (S : List Nat) (a y : Nat), S.getD a 0 ≤ Hp.most → y ≤ f → (roomL f S a y).1.getD a 0 + (roomL f S a y).2 ≤ Hp.most
  | 0, S, a, y, hm, hf => by rw [roomL]; simp only; omega
  | f + 1, S, a, y, hm, hf => by
    rw [roomL]
    split
    · rename_i hc
      have : 0 < y := by
        rcases Nat.eq_zero_or_pos y with rfl | h0
        · rw [or_dec] at hc; omega
        · exact h0
      exact roomL_sum f _ _ _ (by rw [getD_half]; omega) (by omega)
    · rename_i hc
      rw [or_dec] at hc
      simp only; omega

/-- what a bump leaves, by the scores alone -/
theorem bump_play (h : Hp) (o : h.Ok) (ho : h.HOrd) {a : Nat} (ha : a < h.S.length) (y : Nat) (S' : List Nat) (y' : Nat) (hr : roomL y h.S a y = (S', y')) :
    (h.bump a y).Ok ∧ (h.bump a y).HOrd ∧ (h.bump a y).S = S'.set a (S'.getD a 0 + y') ∧ ∀ b, (h.bump a y).has b ↔ h.has b := by
  have h1 := room_roomL y h a y
  rw [hr] at h1
  simp only [Prod.mk.injEq] at h1
  obtain ⟨e1, e2⟩ := h1
  have hs := roomL_sum y h.S a y (o.sc_le a) (Nat.le_refl _)
  rw [hr] at hs
  have := Hp.bump_all h o ho ha y (by unfold Hp.sc; rw [e1, e2]; exact hs)
  unfold Hp.sc at this
  rw [e1, e2] at this
  exact this

def cnt (In : List Bool) (j : Nat) : Nat := ((List.range j).filter (fun a => In.getD a false)).length
theorem cnt_succ (In : List Bool) (j : Nat) : cnt In (j + 1) = cnt In j + if In.getD j false then 1 else 0 := by
  unfold cnt
  rw [List.range_succ, List.filter_append, List.length_append]
  simp only [List.filter_cons, List.filter_nil]
  split <;> simp
theorem cnt_le (In : List Bool) (j : Nat) : cnt In j ≤ j := by
  have := List.length_filter_le (fun a => In.getD a false) (List.range j)
  simpa [cnt] using this

theorem cnt_all {h : Hp} (o : h.Ok) {k : Nat} (hk : h.S.length = k) {In : List Bool} (hh : ∀ a, a < k → (h.has a ↔ In.getD a false = true)) : h.L.length = cnt In k := by
  have hmem : ∀ a, a ∈ h.L ↔ a ∈ (List.range k).filter (fun a => In.getD a false) := by
    intro a
    rw [List.mem_filter, List.mem_range]
    constructor
    · intro hm
      have hlt : a < k := by rw [← hk]; exact o.mem a hm
      refine ⟨hlt, (hh a hlt).1 ?_⟩
      obtain ⟨j, hj, e⟩ := List.getElem_of_mem hm
      exact ⟨j, hj, by unfold Hp.at1; simp [List.getD_eq_getElem?_getD, hj, e]⟩
    · rintro ⟨hlt, hin⟩
      obtain ⟨j, hj, rfl⟩ := (hh a hlt).2 hin
      exact Hp.at1_mem hj
  have n2 : ((List.range k).filter (fun a => In.getD a false)).Nodup := List.nodup_range.filter _
  have h1 := o.nodup.length_le_of_subset (fun a ha => (hmem a).1 ha)
  have h2 := n2.length_le_of_subset (fun a ha => (hmem a).2 ha)
  unfold cnt
  omega

/-- what a pop is, by what is in -/
theorem pop_first {h : Hp} (o : h.Ok) (ho : h.HOrd) {k : Nat} (hk : h.S.length = k) {In : List Bool} (hh : ∀ a, a < k → (h.has a ↔ In.getD a false = true)) {at_ : Option Nat} (hf : FirstOf In h.S k at_) :
    match at_ with | none => h.L.length = 0 | some a => 0 < h.L.length ∧ h.at1 0 = a := by
  cases at_ with
  | none =>
    rcases Nat.eq_zero_or_pos h.L.length with h0 | h0
    · exact h0
    · have hlt := o.lt h0
      rw [hk] at hlt
      have := (hh _ hlt).1 ⟨0, h0, rfl⟩
      rw [hf _ hlt] at this; cases this
  | some a =>
    obtain ⟨h1, h2, h3⟩ := hf
    obtain ⟨j, hj, hja⟩ := (hh a h1).2 h2
    have h0 : 0 < h.L.length := by omega
    refine ⟨h0, ?_⟩
    have hlt := o.lt h0
    rw [hk] at hlt
    apply Classical.byContradiction
    intro hne
    have h4 := h3 (h.at1 0) hlt ((hh _ hlt).1 ⟨0, h0, rfl⟩) hne
    have hj0 : 0 < j := by
      rcases Nat.eq_zero_or_pos j with rfl | hp
      · exact (hne hja).elim
      · exact hp
    have h5 := Hp.first_ahead h o ho j hj hj0
    rw [hja, Hp.ahead_iff] at h5
    rw [Hp.ahead_iff] at h4
    omega

end Go.Proofs.Ytgbdmembacjooaa
