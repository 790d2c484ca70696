/- The walks of package heap, fifth part: Push, Pop, New. -/
import Derived.Test.YtgbdmembacjooaaHeapW4
namespace Go.Proofs.Ytgbdmembacjooaa
open Go.RowKit

theorem slInt : SlT Try.prog 31 3 1 8 := SlT.mk' (z := .int .i64 0) Try.underlying31 (by kernel_rfl) rfl (by decide)

theorem cell_alloc0 (w : World) (c : Array Value) (t : TypeId) (n : Nat) (h : n = w.heap.size) : (w.alloc (.cells c t)).cell? ⟨n, 0, none⟩ = c[0]? := by subst h; simp

section
variable {w : World} {b : Nat} {vl va vs : Value} {h : Hp}

theorem Push_nil (n : Int) : Calls Try.prog 12 #[.pointer none, .int .i64 n] w fun e w' => e = .returned (.bool false) ∧ w = w' := by
  go_enter Try.func12, Try.ntmps12
  go_wp2_with fail
  refine (is_nil n).mono ?_
  rintro e w' ⟨rfl, rfl⟩
  go_wp2_with fail
  go_ret
  exact ⟨rfl, rfl⟩

theorem Push_no (H : HeapAt w b vl va vs h) (o : h.Ok) (z : Int) (hz : z < 1 ∨ h.S.length < z) : Calls Try.prog 12 #[.pointer (some ⟨b, 0, none⟩), .int .i64 z] w fun e w' =>
    e = .returned (.bool false) ∧ w = w' := by
  go_enter Try.func12, Try.ntmps12
  go_wp2_with fail
  refine (is_no H o _ hz).mono ?_
  rintro e w' ⟨rfl, rfl⟩
  go_wp2_with fail
  go_ret
  exact ⟨rfl, rfl⟩

theorem Push_has (H : HeapAt w b vl va vs h) (o : h.Ok) (a : Nat) (ha : a < h.S.length) (z : Int) (hz : z = a + 1) (hA : 0 ≤ h.A.getD a 0) : Calls Try.prog 12 #[.pointer (some ⟨b, 0, none⟩), .int .i64 z] w fun e w' =>
    e = .returned (.bool false) ∧ w = w' := by
  subst hz
  go_enter Try.func12, Try.ntmps12
  go_wp2_with fail
  refine (is_yes H o a ha _ rfl).mono ?_
  rintro e w' ⟨rfl, rfl⟩
  go_wp2_with fail
  refine (Has_at H o a ha _ rfl _ (decide_eq_true hA)).mono ?_
  rintro e w' ⟨rfl, rfl⟩
  go_wp2_with fail
  go_ret
  exact ⟨rfl, rfl⟩

set_option maxHeartbeats 1600000 in
theorem Push_any (H : HeapAt w b vl va vs h) (o : h.Ok) (a : Nat) (ha : a < h.S.length) (z : Int) (hz : z = a + 1) (hA : h.A.getD a 0 < 0) : Calls Try.prog 12 #[.pointer (some ⟨b, 0, none⟩), .int .i64 z] w fun e w' =>
    e = .returned (.bool true) ∧ (∃ vl', HeapAt w' b vl' va vs (h.push a) ∧ ∀ k, HFoot b vl' va vs k → HFoot b vl va vs k ∨ w.heap.size ≤ k) ∧ (h.push a).Ok ∧ Only (HFoot b vl va vs) w w' := by
  subst hz
  have hn := o.n
  have hle := o.le
  have hla : a < h.A.length := by have := o.len; omega
  obtain ⟨al, cl, rfl, hcl, hclm⟩ := own_slice H.l
  obtain ⟨ga, ca, rfl, hca, hcam⟩ := own_some H.a (by omega)
  unfold maxLen at hcam hclm
  have oM := o.more ha hA
  have hup : h.push a = Hp.upI { h with A := h.A.set a (h.L.length : Int), L := h.L ++ [a] } h.L.length := rfl
  have HUP := Lib.hid hup
  clear hup
  have h0 := H.c0
  have h1 := H.c1
  have hcell : w.cell? ⟨ga, a, none⟩ = some (.int .i64 (h.A.getD a 0)) := row_cell H.a 0 hla
  have hf := H.a.frozenAt a
  have e1 : IntKind.i64.wrap (a : Int) = a := IntWalk.i64_in _ (by omega)
  have e2 : ga ≠ b := by simpa [Value.ownBlock] using H.apart.a
  have sd : ∀ (W : World) n a v, (W.drewN n).setCell a v = (W.setCell a v).drewN n := fun _ _ _ _ => rfl
  go_enter Try.func12, Try.ntmps12
  go_wp2_with fail
  refine (is_yes H o a ha _ rfl).mono ?_
  rintro e w' ⟨rfl, rfl⟩
  go_wp2_with fail
  refine (Has_at H o a ha _ rfl _ (decide_eq_false (by omega))).mono ?_
  rintro e w' ⟨rfl, rfl⟩
  go_wp2_with fail
  go_region
  clear e1
  go_wp2_with (at_builtin; go_must (refine wpA1 slInt (u := .int .i64 ((a : Int) + 1)) (n := h.L.length) (xs := h.L.map cL) rfl (.tmp 30) (.tmp 32) rfl rfl rfl ?hc rfl ?hown (by omega) (by omega) ?hK))
  case hc => simp [cell_alloc0]
  case hown => exact ((H.setA a h.L.length).alloc _).drew.l
  case hK =>
    intro v' w' hown' hO hS
    have H0 := ((H.setA a h.L.length).alloc (.cells #[.int .i64 ((a : Int) + 1)] 3)).drew
    obtain ⟨g, cap, rfl, hg1, hg2, hg3⟩ := hS
    have hgr := H0.grow (L' := h.L ++ [a]) (vl' := .slice (some ⟨g, 0, none⟩) (h.L.length + 1) cap) hO (by simpa [cL] using hown') (by intro k hk; simp [Value.ownBlock] at hk; subst hk; simpa using hg3)
    have hO0 : Only (HFoot b (.slice al h.L.length cl) (.slice (some ⟨ga, 0, none⟩) h.A.length ca) vs) w w' := by
      refine Only.same (b := ((w.setCell ⟨ga, a, none⟩ (cA h.L.length)).alloc (.cells #[.int .i64 ((a : Int) + 1)] 3)).drew) ?_ (hO.mono fun k hk => .inr (.inl hk))
      exact (((Only.refl _ _).setCell (p := ⟨ga, a, none⟩) (.inl (.inr (.inr (.inl rfl)))) _).alloc _).drew
    have hblk := only_block H0.blk hO H0.apart.l
    have hb0 : w'.cell? ⟨b, 0, none⟩ = some (.slice al h.L.length cl) := by rw [cell_block hblk]; rfl
    have hbf := free_block hblk 0
    have hft : ∀ k, HFoot b (.slice (some ⟨g, 0, none⟩) (h.L.length + 1) cap) (.slice (some ⟨ga, 0, none⟩) h.A.length ca) vs k → HFoot b (.slice al h.L.length cl) (.slice (some ⟨ga, 0, none⟩) h.A.length ca) vs k ∨ w.heap.size ≤ k := by
      intro k hk
      rcases hk with hk | hk | hk
      · exact .inl (.inl hk)
      · simp [Value.ownBlock] at hk
        subst hk
        rcases hg3 with h' | h'
        · exact .inl (.inr (.inl h'))
        · simp at h'; exact .inr (by omega)
      · exact .inl (.inr (.inr hk))
    clear hO hown' hblk H0 hg3 hcell hf h0 h1
    have HG := Lib.hid hgr
    clear hgr sd
    go_wp2_with fail
    refine (up_any HG.out oM h.L.length (by simp) _ (by omega)).mono ?_
    rintro e w2 ⟨rfl, H2, o2, O2⟩
    go_wp2_with fail
    go_ret
    refine ⟨rfl, ?_⟩
    rw [HUP.out]
    refine ⟨⟨_, H2, hft⟩, o2, ?_⟩
    exact (hO0.setCell (p := ⟨b, 0, none⟩) (.inl (.inl rfl)) _).trans O2 hft
end
end Go.Proofs.Ytgbdmembacjooaa
