/- The walks of cooperref21: Kept, Follows. -/
import Derived.Test.YtjbfgafkjejdjaaRef18A
import Derived.Test.YtjbfgafkjejdjaaRup3
namespace Go.Proofs.Ytjbfgafkjejdjaa
open Go.RowKit

/-- A slice of one's own whose elements read as these lists; none of them lies in the slice's own block. -/
structure OwnS (w0 w : World) (v : Value) (us : List Value) (css : List (List Int)) : Prop where
  row : w.ownsRow 0 22 1 v us.length us
  ints : AllInts w us css
  new : ∀ k, v.ownBlock = some k → w0.heap.size ≤ k
  apart : ∀ i, i < css.length → 0 < (css.getD i []).length → ∀ k, Value.blk (us.getD i nilS) = some k → v.ownBlock ≠ some k

theorem OwnS.intsS {w0 w : World} {v : Value} {us : List Value} {css : List (List Int)} (h : OwnS w0 w v us css) : IntsS w v css := ⟨us, Cells.of_own h.row, h.ints⟩

theorem OwnS.only0 {w0 w w' : World} {v : Value} {us : List Value} {css : List (List Int)} (h : OwnS w0 w v us css) (ho : Only (fun _ => False) w w') : OwnS w0 w' v us css :=
  ⟨own_only h.row ho (fun _ _ f => f), h.ints.only0 ho, h.new, h.apart⟩

theorem OwnS.lit0 (w0 w : World) (hw : w0.heap.size ≤ w.heap.size) : OwnS w0 (w.alloc (.cells #[] 22)) (.slice (some ⟨w.heap.size, 0, none⟩) 0 0) [] [] :=
  ⟨World.ownsRow_lit (base := 0) (e := 22) (size := 1) w #[] 0 (Nat.zero_le _) (by unfold maxLen; omega) (by simp), ⟨rfl, fun i hi => by simp at hi⟩, fun k hk => by simp [Value.ownBlock] at hk; omega, fun i hi => by simp at hi⟩

/-- a list more -/
theorem OwnS.snoc {w0 w w' : World} {v v' : Value} {us : List Value} {css : List (List Int)} (h : OwnS w0 w v us css) (hw : w0.heap.size ≤ w.heap.size) {u : Value} {f : List Int} (hu : Ints w u f) (hua : 0 < f.length → ∀ k, Value.blk u = some k → v.ownBlock ≠ some k)
    (s1 : w'.ownsRow 0 22 1 v' (us.length + 1) (us ++ [u])) (s2 : Only (fun k => v.ownBlock = some k) w w') (s3 : AppTo w v v' (us.length + 1)) : OwnS w0 w' v' (us ++ [u]) (css ++ [f]) := by
  have hl := h.ints.1
  have hold : ∀ i, i < css.length → Ints w' (us.getD i nilS) (css.getD i []) := fun i hi => (h.ints.2 i hi).only' s2 (fun hp b hb => h.apart i hi hp b hb)
  have hnew : Ints w' u f := hu.only' s2 hua
  have hall : AllInts w' (us ++ [u]) (css ++ [f]) := AllInts.snoc ⟨hl, hold⟩ hnew
  obtain ⟨g, cap, rfl, _, _, hg⟩ := s3
  refine ⟨by simpa using s1, hall, fun k hk => ?_, fun i hi hp k hk hF => ?_⟩
  · simp [Value.ownBlock] at hk
    subst hk
    rcases hg with hg | hg
    · exact h.new _ hg
    · omega
  · simp only [Value.ownBlock, Option.some.injEq] at hF
    subst hF
    by_cases hi' : i < css.length
    · rw [getD_app_l _ _ _ (by omega)] at hk
      rw [getD_app_l _ _ _ hi'] at hp
      rcases hg with hg | hg
      · exact h.apart i hi' hp _ hk hg
      · have := (h.ints.2 i hi').lt hp hk; omega
    · have : i = css.length := by simp at hi; omega
      subst this
      rw [getD_app_r _ _ _ (by omega), hl] at hk
      rw [getD_app_r _ _ _ (by omega)] at hp
      simp at hk hp
      rcases hg with hg | hg
      · exact hua (by simpa using hp) _ hk hg
      · have := hu.lt (by simpa using hp) hk; omega

section
variable {w : World}

theorem take_snocL (xs : List (List Int)) (k : Nat) (h : k < xs.length) : xs.take (k + 1) = xs.take k ++ [xs.getD k []] := by
  rw [List.take_succ_eq_append_getElem h]
  simp [List.getD_eq_getElem?_getD, h]

set_option maxHeartbeats 1600000 in
theorem Kept_any {vcs : Value} {css : List (List Int)} (hI : IntsS w vcs css) (hb : css.length ≤ 100000) (hb2 : ∀ c ∈ css, c.length ≤ 1099511627) (n : Int) :
    Calls Try.prog 25 #[.int .i64 n, vcs] w fun e w' => ∃ v us, e = .returned v ∧ OwnS w w' v us (css.filterMap (Rup.formR n)) ∧ Only (fun _ => False) w w' := by
  obtain ⟨ac, cc, rfl, hc1, hc2⟩ := hI.shape
  have HB2 := Lib.hid hb2
  clear hb2
  go_enter Try.func25, Try.ntmps25
  go_wp2_with fail
  go_loopw [5, 12] (fun vo v wr => ∃ (k : Nat) (us : List Value), v = .int .i64 k ∧ k ≤ css.length ∧ us.length ≤ k ∧ OwnS w wr vo us ((css.take k).filterMap (Rup.formR n)) ∧ Only (fun _ => False) w wr) (fun _ v _ => css.length - (intOf v).toNat)
  case atStart => exact ⟨0, [], rfl, Nat.zero_le _, Nat.zero_le _, OwnS.lit0 w w (Nat.le_refl _), (Only.refl _ _).alloc _⟩
  case round =>
    obtain ⟨k, us, rfl, hk, hus, hS, hO⟩ := hrel
    by_cases ck : k < css.length
    · obtain ⟨b, off, u, rfl, _, q, hu⟩ := (hI.only0 hO).at ck
      have hcb := HB2.out _ (getD_mem' [] ck)
      have hts := take_snocL css k ck
      obtain ⟨au, cu, rfl, _, _⟩ := hu.shape
      have HTS := Lib.hid hts
      clear hts
      generalize css.getD k [] = c at *
      have hfr : Rup.formR n c = if Cnf.right n c then Cnf.form c else none := rfl
      have HFR := Lib.hid hfr
      clear hfr
      cases hr : Cnf.right n c
      · have HR := Lib.hid hr
        clear hr
        go_wp2_with fail
        refine (Right_any hu (by omega) n false HR.out).mono ?_
        rintro e w1 ⟨rfl, O1⟩
        go_wp2_with fail
        go_roundw
        case rel =>
          refine ⟨k + 1, us, by go_num, by omega, by omega, ?_, hO.same O1⟩
          rw [HTS.out, List.filterMap_append]
          have e : [c].filterMap (Rup.formR n) = [] := by simp [HFR.out, HR.out]
          rw [e, List.append_nil]
          exact hS.only0 O1
        case measure => simp [intOf]; omega
      · have HR := Lib.hid hr
        clear hr
        go_wp2_with fail
        refine (Right_any hu (by omega) n true HR.out).mono ?_
        rintro e w1 ⟨rfl, O1⟩
        have q1 := cell_keep q O1 (fun f => f)
        have hF := RForm_any (hu.only0 O1) (by omega)
        have HF := Lib.hid hF
        clear hF
        go_wp2_with fail
        refine HF.out.mono ?_
        intro e w2 hp
        unfold RFormPost at hp
        have hsome : ∃ f, Cnf.form c = some f := by
          have := HR.out
          unfold Cnf.right at this
          simp only [Bool.and_eq_true] at this
          exact Option.isSome_iff_exists.1 this.2
        obtain ⟨f, hf⟩ := hsome
        rw [hf] at hp
        obtain ⟨vf, rfl, R1, N1, O2⟩ := hp
        have hrf := form_range hu.range hf
        have hIf := Ints.of_own R1 hrf
        have hS2 := (hS.only0 O1).only0 O2
        have hO2 := (hO.same O1).same O2
        have hfm : [c].filterMap (Rup.formR n) = [f] := by simp [HFR.out, HR.out, hf]
        have HFM := Lib.hid hfm
        have hap : 0 < f.length → ∀ j, Value.blk vf = some j → u5.ownBlock ≠ some j := by
          intro _ j hj hF
          have hj1 : vf.ownBlock = some j := by
            rcases R1.2 with ⟨h', _⟩ | ⟨g', cap', cur, h', _⟩
            · rw [h'] at hj; simp [Value.blk] at hj
            · rw [h'] at hj ⊢; simpa [Value.blk, Value.ownBlock] using hj
          have h1 := N1 j hj1
          have h2 := own_lt (hS.only0 O1).row hF
          omega
        have HAp := Lib.hid hap
        clear hfm hf hrf hap
        obtain ⟨af, cf, rfl, _, _⟩ := hIf.shape
        go_wp2_with (at_builtin; go_must (refine wpA1 (u := .slice af f.length cf) slInts rfl (.tmp 29) (.tmp 31) rfl rfl rfl (cell_newE _ _ _ _ rfl) rfl (own_only hS2.row ((Only.refl (fun _ => False) _).alloc _) (fun _ _ f => f)) (by omega) (by decide) ?n3))
        intro v2 w3 s1 s2 s3
        have hsz := hO2.size
        have hS3 := (hS2.only0 ((Only.refl (fun _ => False) _).alloc (.cells #[.slice af f.length cf] 22))).snoc (by simp; omega) (hIf.only0 ((Only.refl (fun _ => False) _).alloc _)) HAp.out s1 s2 s3
        have hO3 : Only (fun _ => False) w w3 := (hO2.alloc _).trans s2 (fun k hk => .inr (hS2.new k hk))
        clear s1 s2 s3 hS2
        go_wp2_with fail
        go_roundw
        case rel =>
          refine ⟨k + 1, us ++ [.slice af f.length cf], by go_num, by omega, by simp; omega, ?_, hO3⟩
          rw [HTS.out, List.filterMap_append, HFM.out]
          exact hS3
        case measure => simp [intOf]; omega
    · have hk' : k = css.length := by omega
      have hfin : OwnS w wr u5 us (css.filterMap (Rup.formR n)) := by rw [hk', List.take_of_length_le (Nat.le_refl _)] at hS; exact hS
      have HFin := Lib.hid hfin
      clear hS hfin
      go_wp2_with fail
      go_ret
      exact ⟨_, us, rfl, HFin.out, hO⟩

/-- whether a clause follows at once, as the document says it -/
def refFollows (n : Nat) (css : List (List Int)) (c : List Int) : Bool := match Cnf.form c with | none => true | some f => (Cnf.allR css (n + 1) (f.map fun x => -x)).2

set_option maxHeartbeats 1600000 in
theorem RFollows_any {vcs vc : Value} {css : List (List Int)} {c : List Int} (hI : IntsS w vcs css) (hlit : ∀ c ∈ css, ∀ x ∈ c, Cnf.Lit x) (hc : Ints w vc c) (n : Nat) (hb : c.length + (n + 1) * css.length ≤ 1099511627) (hn : n ≤ 1099511627) (nI : Int) (hnI : nI = n) (r : Bool) (hr : refFollows n css c = r) :
    Calls Try.prog 28 #[.int .i64 nI, vcs, vc] w fun e w' => e = .returned (.bool r) ∧ Only (fun _ => False) w w' := by
  subst hnI
  have HR := Lib.hid hr
  have HLit := Lib.hid hlit
  clear hr hlit
  obtain ⟨ac, cc, rfl, _, _⟩ := hI.shape
  obtain ⟨al, cl, rfl, hl1, _⟩ := hc.shape
  have hmul : 0 ≤ (n + 1) * css.length := Nat.zero_le _
  have hF := RForm_any hc (by omega)
  have HF := Lib.hid hF
  clear hF
  go_enter Try.func28, Try.ntmps28
  go_wp2_with fail
  refine HF.out.mono ?_
  intro e w1 hp
  unfold RFormPost at hp
  cases hf : Cnf.form c with
  | none =>
    rw [hf] at hp
    obtain ⟨vf, rfl, -, -, O1⟩ := hp
    have hres : r = true := by rw [← HR.out]; unfold refFollows; rw [hf]
    have HRes := Lib.hid hres
    clear hf hres
    go_wp2_with fail
    go_ret
    rw [HRes.out]
    exact ⟨rfl, O1⟩
  | some f =>
    rw [hf] at hp
    obtain ⟨vf, rfl, R1, N1, O1⟩ := hp
    have hrf := form_range hc.range hf
    have hIf := Ints.of_own R1 hrf
    have hflit : ∀ x ∈ f, Cnf.Lit x := by
      intro x hx
      refine ⟨hrf x hx, ?_⟩
      unfold Cnf.form at hf
      split at hf
      · cases hf
      · rename_i hany
        have hxm : x ∈ c := (Rup.form_mem (by unfold Cnf.form; rw [if_neg hany]; exact hf) x).1 hx
        cases hw : Cnf.wr x
        · rfl
        · exact (hany (List.any_eq_true.2 ⟨x, hxm, hw⟩)).elim
    have hfl : f.length ≤ c.length := by
      unfold Cnf.form at hf
      split at hf
      · cases hf
      · split at hf
        · cases hf
        · simp at hf; subst hf
          have h1 := compact_le (Cnf.sortL c)
          have h2 : (Cnf.sortL c).length = c.length := List.length_mergeSort c
          have h3 : Cnf.formL c = Lib.compact (Cnf.sortL c) := rfl
          rw [h3]; omega
    have hres : r = (Cnf.allR css (n + 1) (f.map fun x => -x)).2 := by rw [← HR.out]; unfold refFollows; rw [hf]
    have HRes := Lib.hid hres
    have HFL := Lib.hid hflit
    clear hf hres hflit hrf
    obtain ⟨af, cf, rfl, hf1, _⟩ := hIf.shape
    have hI1 := hI.only0 O1
    go_wp2_with fail
    go_loopw [9, 23] (fun vo v wr => ∃ k : Nat, v = .int .i64 k ∧ k ≤ f.length ∧ wr.ownsRow 0 3 1 vo k (((f.take k).map fun x => -x).map cI) ∧ (∀ j, vo.ownBlock = some j → w1.heap.size ≤ j) ∧ Only (fun _ => False) w1 wr) (fun _ v _ => f.length - (intOf v).toNat)
    case atStart => exact ⟨0, rfl, Nat.zero_le _, own_lit0 w1, fun j hj => by simp [Value.ownBlock] at hj; omega, (Only.refl _ _).alloc _⟩
    case round =>
      obtain ⟨k, rfl, hk, ro, rb, hO⟩ := hrel
      have HB := Lib.hid rb
      clear rb
      by_cases ck : k < f.length
      · obtain ⟨bf, of_, rfl, _, hcs⟩ := (hIf.only0 hO).cells _ _ _ rfl (by omega)
        have q := hcs k ck
        have hx := (HFL.out _ (getD_mem' 0 ck))
        have hts := take_snocI f k ck
        have HTS := Lib.hid hts
        clear hcs hts
        generalize f.getD k 0 = x at *
        have ew := hx.wrap
        obtain ⟨nx, hnx⟩ : ∃ nx, nx = -x := ⟨_, rfl⟩
        rw [← hnx] at ew
        have ew' : IntKind.i64.wrap (-x) = nx := by rw [← hnx]; exact ew
        have HNX := Lib.hid hnx
        clear hnx ew hx
        go_wp2_with (at_builtin; go_must (refine wpA1 (u := .int .i64 nx) slInt rfl (.tmp 26) (.tmp 32) rfl rfl rfl (cell_new0 _ _ _) rfl (own_only ro ((Only.refl (fun _ => False) _).alloc _) (fun _ _ f => f)) (by omega) (by decide) ?n3))
        intro v2 w2 s1 s2 s3
        have O2 : Only (fun _ => False) w1 w2 := (hO.alloc _).trans s2 (fun k hk => .inr (HB.out k hk))
        have hb2 : ∀ k, v2.ownBlock = some k → w1.heap.size ≤ k := by
          obtain ⟨g, cap, rfl, _, _, h⟩ := s3
          intro k hk
          simp [Value.ownBlock] at hk
          subst hk
          rcases h with h | h
          · exact HB.out _ h
          · have := hO.size; simp at h; omega
        have HB2 := Lib.hid hb2
        have s1' : w2.ownsRow 0 3 1 v2 (k + 1) (((f.take (k + 1)).map fun x => -x).map cI) := by
          rw [HTS.out, List.map_append, List.map_append]
          simpa [cI, HNX.out] using s1
        clear hb2 s1 s2 s3 ro
        go_wp2_with fail
        go_roundw
        case rel => exact ⟨k + 1, by go_num, by omega, s1', HB2.out, O2⟩
        case measure => simp [intOf]; omega
      · have hk' : k = f.length := by omega
        subst hk'
        have ro' : wr.ownsRow 0 3 1 u9 (f.map fun x => -x).length ((f.map fun x => -x).map cI) := by
          rw [List.take_of_length_le (Nat.le_refl _)] at ro
          simpa using ro
        have hIl : Ints wr u9 (f.map fun x => -x) := Ints.of_own ro' (fun x hx => by
          obtain ⟨y, hy, rfl⟩ := List.mem_map.1 hx
          exact ((HFL.out y hy).neg).r)
        have hcon := All_any hIl (hI1.only0 hO) HLit.out n (by simp; omega) hn _ rfl
        have HCn := Lib.hid hcon
        clear hcon hIl ro ro'
        go_wp2_with fail
        refine HCn.out.mono ?_
        intro e w2 hp2
        obtain ⟨v2, rfl, -, -, O2⟩ := hp2
        rw [← HRes.out]
        go_wp2_with fail
        go_ret
        exact ⟨rfl, (O1.same hO).same O2⟩
end
end Go.Proofs.Ytjbfgafkjejdjaa
