/- The walks of package heap, sixth part: Pop, New. -/
import Derived.Test.YtgbdmembacjooaaHeapW5
namespace Go.Proofs.Ytgbdmembacjooaa
open Go.RowKit

section
variable {w : World} {b : Nat} {vl va vs : Value} {h : Hp}

theorem Pop_nil : Calls Try.prog 10 #[.pointer none] w fun e w' => e = .returned (.int .i64 0) ∧ w = w' := by
  go_enter Try.func10, Try.ntmps10
  go_wp2_with fail
  refine Len_nil.mono ?_
  rintro e w' ⟨rfl, rfl⟩
  go_wp2_with fail
  go_ret
  exact ⟨rfl, rfl⟩

theorem Len_at (H : HeapAt w b vl va vs h) (n : Int) (hn : (h.L.length : Int) = n) : Calls Try.prog 11 #[.pointer (some ⟨b, 0, none⟩)] w fun e w' => e = .returned (.int .i64 n) ∧ w = w' := by
  subst hn
  exact Len_any H

theorem Pop_none (H : HeapAt w b vl va vs h) (hL : h.L.length = 0) : Calls Try.prog 10 #[.pointer (some ⟨b, 0, none⟩)] w fun e w' => e = .returned (.int .i64 0) ∧ w = w' := by
  have HL := Lib.hid hL
  clear hL
  go_enter Try.func10, Try.ntmps10
  go_wp2_with fail
  refine (Len_at H 0 (by rw [HL.out]; rfl)).mono ?_
  rintro e w' ⟨rfl, rfl⟩
  go_wp2_with fail
  go_ret
  exact ⟨rfl, rfl⟩

/-- l cut by its last one -/
theorem HeapAt.cut {gl cl nl : Nat} (H : HeapAt w b (.slice (some ⟨gl, 0, none⟩) nl cl) va vs h) (m : Nat) (hm : m ≤ nl) :
    HeapAt (w.setCell ⟨b, 0, none⟩ (.slice (some ⟨gl, 0, none⟩) m cl)) b (.slice (some ⟨gl, 0, none⟩) m cl) va vs { h with L := h.L.take m } := by
  have ap : HApart b (.slice (some ⟨gl, 0, none⟩) m cl) va vs := ⟨H.apart.l, H.apart.a, H.apart.s, H.apart.la, H.apart.ls, H.apart.as_⟩
  refine ⟨?_, ownsRow_setCell_other (v := .slice (some ⟨gl, 0, none⟩) m cl) ?_ ap.l _, ownsRow_setCell_other H.a ap.a _, ownsRow_setCell_other H.s ap.s _, ap⟩
  · rw [set_block H.blk]; rfl
  · have hn : nl = h.L.length := by obtain ⟨_, _, he, _⟩ := own_slice H.l; simp at he; omega
    subst hn
    rcases H.l.2 with ⟨h', _⟩ | ⟨g', cap', cur, h', _, hg, h1, h2, h3, htake⟩
    · simp at h'
    · simp only [Value.slice.injEq, Option.some.injEq, Addr.mk.injEq, and_true, true_and] at h'
      obtain ⟨rfl, rfl⟩ := h'
      have hlen : (h.L.take m).length = m := by simp; omega
      refine ⟨by simp, .inr ⟨gl, cl, cur, by simp; omega, Nat.zero_le _, hg, by simp; omega, h2, h3, ?_⟩⟩
      simp only [Nat.mul_one] at htake ⊢
      show cur.toList.take (h.L.take m).length = (h.L.take m).map cL
      rw [hlen, List.map_take, ← htake, List.take_take, Nat.min_eq_left hm]

set_option maxHeartbeats 1600000 in
theorem Pop_any (H : HeapAt w b vl va vs h) (o : h.Ok) (hL : 0 < h.L.length) : Calls Try.prog 10 #[.pointer (some ⟨b, 0, none⟩)] w fun e w' =>
    e = .returned (.int .i64 ((h.at1 0 : Int) + 1)) ∧ (∃ vl', HeapAt w' b vl' va vs h.pop ∧ ∀ k, HFoot b vl' va vs k → HFoot b vl va vs k) ∧ h.pop.Ok ∧ Only (HFoot b vl va vs) w w' := by
  have hn := o.n
  have hle := o.le
  have hlt := o.lt hL
  have hla : h.at1 0 < h.A.length := by have := o.len; omega
  obtain ⟨gl, cl, rfl, hcl, hclm⟩ := own_some H.l hL
  obtain ⟨ga, ca, rfl, hca, hcam⟩ := own_some H.a (by omega)
  unfold maxLen at hcam hclm
  have o1 := o.swp hL (k := h.L.length - 1) (by omega)
  have oless := o1.less (by simpa using hL)
  have hat : (h.swp 0 (h.L.length - 1)).at1 (h.L.length - 1) = h.at1 0 := by rw [Hp.at1_swp h hL (by omega)]; simp
  simp only [Hp.swp_len, hat] at oless
  have hpop : h.pop = Hp.dn { h.swp 0 (h.L.length - 1) with L := (h.swp 0 (h.L.length - 1)).L.take (h.L.length - 1), A := (h.swp 0 (h.L.length - 1)).A.set (h.at1 0) (-1) } 0 := rfl
  have HP := Lib.hid hpop
  clear hpop hat
  have h0 := H.c0
  have hcell : w.cell? ⟨gl, 0, none⟩ = some (.int .i64 ((h.at1 0 : Int) + 1)) := row_cell H.l 0 hL
  have hf := H.a.frozenAt (h.at1 0)
  have e2 : ga ≠ b := by simpa [Value.ownBlock] using H.apart.a
  go_enter Try.func10, Try.ntmps10
  go_wp2_with fail
  refine (Len_any H).mono ?_
  rintro e w' ⟨rfl, rfl⟩
  have hL1 : ((h.L.length : Int) == 0) = false := beq_eq_false_iff_ne.2 (by omega)
  go_wp2_with fail
  refine (swap_at H o 0 (h.L.length - 1) hL (by omega) _ _ rfl (by omega)).mono ?_
  rintro e w1 ⟨rfl, H1, O1⟩
  have hA1 : (h.swp 0 (h.L.length - 1)).A.length = h.A.length := by simp
  have hL2 : (h.swp 0 (h.L.length - 1)).L.length = h.L.length := by simp
  have hS2 : (h.swp 0 (h.L.length - 1)).S = h.S := rfl
  generalize hh : h.swp 0 (h.L.length - 1) = h1 at *
  clear hh
  generalize hx : h.at1 0 = x at *
  have HX := Lib.hid hx
  clear hx
  have k0 := H1.c0
  have k1 := H1.c1
  have f0 := free_block H1.blk 0
  have hf1 : w1.frozen? ⟨ga, x, none⟩ = false := by have := H1.a; rw [hA1] at this; exact this.frozenAt x
  have hc1 : w1.cell? ⟨ga, x, none⟩ = some (.int .i64 (h1.A.getD x 0)) := by
    have := H1.a
    rw [hA1] at this
    exact row_cell this 0 (by omega)
  have HA1 := Lib.hid hA1
  have HL2 := Lib.hid hL2
  clear hA1 hL2 hS2 h0 hcell hf hL1
  have e1 : IntKind.i64.wrap ((h.L.length : Int) - 1) = (h.L.length : Int) - 1 := IntWalk.i64_in _ (by omega)
  have e3 : (0 : Int) ≤ (h.L.length : Int) - 1 := by omega
  have e4 : ((h.L.length : Int) - 1).toNat = h.L.length - 1 := by omega
  go_wp2_with fail
  go_region
  clear e1 e4
  go_wp2_with fail
  have H3 := ((H1.cut (h.L.length - 1) (by omega)).setA x (-1)).drew
  have O3 : Only (HFoot b (.slice (some ⟨gl, 0, none⟩) h.L.length cl) (.slice (some ⟨ga, 0, none⟩) h.A.length ca) vs) w ((w1.setCell ⟨b, 0, none⟩ (.slice (some ⟨gl, 0, none⟩) (h.L.length - 1) cl)).setCell ⟨ga, x, none⟩ (cA (-1))).drew :=
    ((O1.setCell (p := ⟨b, 0, none⟩) (.inl (.inl rfl)) _).setCell (p := ⟨ga, x, none⟩) (.inl (.inr (.inr (.inl rfl)))) _).drew
  refine (down_any H3 oless 0 _ rfl (by omega)).mono ?_
  rintro e w2 ⟨rfl, H4, o4, O4⟩
  clear k0 k1 f0 hf1 hc1
  go_wp2_with fail
  go_ret
  rw [HP.out, HX.out]
  exact ⟨rfl, ⟨_, H4, fun k hk => hk⟩, o4, O3.same O4⟩

theorem info64 : (Try.prog.info? 28).map (fun i => (i.zero, i.size, i.bytes)) = some (some (.int .u64 0), 1, 8) := by kernel_rfl

def NewPost (n : Nat) (w : World) (e : Ending) (w' : World) : Prop :=
  ∃ b vl va vs, e = .returned (.pointer (some ⟨b, 0, none⟩)) ∧ HeapAt w' b vl va vs (Hp.new n) ∧ (∀ k, HFoot b vl va vs k → w.heap.size ≤ k) ∧ Only (fun _ => False) w w'

def newTo (k n : Nat) : Hp := { L := List.range k, A := (List.range k).map (fun (i : Nat) => (i : Int)), S := List.replicate n 0 }

/-- at replaced by a row that append has made. -/
theorem HeapAt.growA (H : HeapAt w b vl va vs h) {w' : World} {va' : Value} {A' : List Int} (ho : Only (fun k => va.ownBlock = some k) w w') (hl : w'.ownsRow 0 3 1 va' A'.length (A'.map cA))
    (hb : ∀ k, va'.ownBlock = some k → va.ownBlock = some k ∨ w.heap.size ≤ k) : HeapAt (w'.setCell ⟨b, 1, none⟩ va') b vl va' vs { h with A := A' } := by
  have h1 := only_block H.blk ho H.apart.a
  have h2 := own_only H.l ho (fun k hk hk' => H.apart.la k hk hk')
  have h3 := own_only H.s ho (fun k hk hk' => H.apart.as_ k hk' hk)
  have ap : HApart b vl va' vs := by
    refine ⟨H.apart.l, ?_, H.apart.s, ?_, H.apart.ls, ?_⟩
    · intro e
      rcases hb _ e with e' | e'
      · exact H.apart.a e'
      · have := lt_block H.blk; omega
    · intro k el e
      rcases hb _ e with e' | e'
      · exact H.apart.la k el e'
      · have := own_lt H.l el; omega
    · intro k e ea
      rcases hb _ e with e' | e'
      · exact H.apart.as_ k e' ea
      · have := own_lt H.s ea; omega
  refine ⟨?_, ownsRow_setCell_other h2 ap.l _, ownsRow_setCell_other hl ap.a _, ownsRow_setCell_other h3 ap.s _, ap⟩
  rw [set_block h1]
  rfl

set_option maxHeartbeats 1600000 in
theorem New_any (z : Int) (n : Nat) (hn : n ≤ 65536) (hz : z = n ∨ z < 0 ∧ n = 0) : Calls Try.prog 8 #[.int .i64 z] w fun e w' =>
    NewPost n w e w' := by
  rcases hz with hz | ⟨hz, hn0⟩
  · subst hz
    go_enter Try.func8, Try.ntmps8
    go_wp2_with (at_make; go_must (refine wpM Try.underlying36 info64 rfl rfl _ _ rfl n rfl rfl rfl rfl (by omega) (by omega) ?_))
    intro w1 hown1 hO1 hsz1
    go_wp2_with fail
    have H0 : HeapAt (w1.alloc (.cells #[.slice none 0 0, .slice none 0 0, .slice (some ⟨w.heap.size, 0, none⟩) n n] 44)) w1.heap.size (.slice none 0 0) (.slice none 0 0) (.slice (some ⟨w.heap.size, 0, none⟩) n n) (newTo 0 n) := by
      refine ⟨heap_alloc_new w1 _, World.ownsRow_nil _ _ _ _, World.ownsRow_nil _ _ _ _, ?_, ?_⟩
      · have := hown1.alloc (.cells #[.slice none 0 0, .slice none 0 0, .slice (some ⟨w.heap.size, 0, none⟩) n n] 44)
        simpa [newTo, cS] using this
      · refine ⟨by simp [Value.ownBlock], by simp [Value.ownBlock], ?_, by simp [Value.ownBlock], by simp [Value.ownBlock], by simp [Value.ownBlock]⟩
        simp [Value.ownBlock]; omega
    go_loopw [13] (fun v wr => ∃ (k : Nat) (vl va : Value), v = .int .i64 k ∧ k ≤ n ∧ HeapAt wr w1.heap.size vl va (.slice (some ⟨w.heap.size, 0, none⟩) n n) (newTo k n) ∧ (∀ i, HFoot w1.heap.size vl va (.slice (some ⟨w.heap.size, 0, none⟩) n n) i → w.heap.size ≤ i) ∧ Only (fun _ => False) w wr) (fun v _ => n - (intOf v).toNat)
    case atStart =>
      refine ⟨0, _, _, rfl, Nat.zero_le _, H0, ?_, hO1.alloc _⟩
      intro i hi
      rcases hi with rfl | hi | hi | hi
      · omega
      · simp [Value.ownBlock] at hi
      · simp [Value.ownBlock] at hi
      · simp [Value.ownBlock] at hi; omega
    case round =>
      obtain ⟨k, vl, va, rfl, hk, H', hfoot, hO⟩ := hrel
      clear H0
      by_cases c : k < n
      · have k0 := H'.c0
        have k1 := H'.c1
        have f0 := free_block H'.blk 0
        have f1 := free_block H'.blk 1
        have hbs := lt_block H'.blk
        go_wp2_with (at_builtin; go_must (refine wpA1 slInt (u := .int .i64 ((k : Int) + 1)) (n := k) (v := vl) (xs := (List.range k).map cL) rfl (.tmp 20) (.tmp 23) rfl rfl rfl ?hc rfl ?hown (by omega) (by omega) ?hK))
        case hc => simp
        case hown => have := (H'.alloc (.cells #[.int .i64 ((k : Int) + 1)] 3)).l; simpa [newTo] using this
        case hK =>
          intro v' w' hown' hO' hS
          obtain ⟨g, cap, rfl, hg1, hg2, hg3⟩ := hS
          have H1 := (H'.alloc (.cells #[.int .i64 ((k : Int) + 1)] 3)).grow (L' := List.range (k + 1)) (vl' := .slice (some ⟨g, 0, none⟩) (k + 1) cap) hO' (by simpa [List.range_succ, cL] using hown') (by intro i hi; simp [Value.ownBlock] at hi; subst hi; exact hg3)
          have hO1' : Only (fun _ => False) w (w'.setCell ⟨w1.heap.size, 0, none⟩ (.slice (some ⟨g, 0, none⟩) (k + 1) cap)) :=
            ((hO.alloc _).trans hO' fun i hi => .inr (hfoot i (.inr (.inl hi)))).setCell (p := ⟨w1.heap.size, 0, none⟩) (.inr (hfoot _ (.inl rfl))) _
          have hfoot1 : ∀ i, HFoot w1.heap.size (.slice (some ⟨g, 0, none⟩) (k + 1) cap) va (.slice (some ⟨w.heap.size, 0, none⟩) n n) i → w.heap.size ≤ i := by
            intro i hi
            rcases hi with hi | hi | hi
            · exact hfoot i (.inl hi)
            · simp [Value.ownBlock] at hi
              subst hi
              rcases hg3 with h' | h'
              · exact hfoot _ (.inr (.inl h'))
              · have := hO.size; simp at h'; omega
            · exact hfoot i (.inr (.inr hi))
          have hblk := only_block (H'.alloc (.cells #[.int .i64 ((k : Int) + 1)] 3)).blk hO' H'.apart.l
          have q0 : w'.cell? ⟨w1.heap.size, 0, none⟩ = some vl := by rw [cell_block hblk]; rfl
          have q1 : w'.cell? ⟨w1.heap.size, 1, none⟩ = some va := by rw [cell_block hblk]; rfl
          have qf0 := free_block hblk 0
          have qf1 := free_block hblk 1
          clear k0 k1 f0 f1 hbs hO' hown' hfoot hblk H' hg3
          have H1' := Lib.hid H1
          clear H1
          go_wp2_with (at_builtin; go_must (refine wpA1 slInt (u := .int .i64 (k : Int)) (n := k) (v := va) (xs := ((List.range k).map (fun (i : Nat) => (i : Int))).map cA) rfl (.tmp 31) (.tmp 33) rfl rfl rfl ?hc2 rfl ?hown2 (by omega) (by omega) ?hK2))
          case hc2 => exact cell_alloc0 _ _ _ _ (by simp)
          case hown2 => have := (H1'.out.alloc (.cells #[.int .i64 (k : Int)] 3)).a; simpa [newTo] using this
          case hK2 =>
            intro v2 w2 hown2 hO2 hS2
            obtain ⟨g2, cap2, rfl, hg4, hg5, hg6⟩ := hS2
            have H2 := (H1'.out.alloc (.cells #[.int .i64 (k : Int)] 3)).growA (A' := (List.range (k + 1)).map (fun (i : Nat) => (i : Int))) (va' := .slice (some ⟨g2, 0, none⟩) (k + 1) cap2) hO2 (by simpa [List.range_succ, cA] using hown2) (by intro i hi; simp [Value.ownBlock] at hi; subst hi; exact hg6)
            have hO2' : Only (fun _ => False) w (w2.setCell ⟨w1.heap.size, 1, none⟩ (.slice (some ⟨g2, 0, none⟩) (k + 1) cap2)) :=
              ((hO1'.alloc _).trans hO2 fun i hi => .inr (hfoot1 i (.inr (.inr (.inl hi))))).setCell (p := ⟨w1.heap.size, 1, none⟩) (.inr (hfoot1 _ (.inl rfl))) _
            have hfoot2 : ∀ i, HFoot w1.heap.size (.slice (some ⟨g, 0, none⟩) (k + 1) cap) (.slice (some ⟨g2, 0, none⟩) (k + 1) cap2) (.slice (some ⟨w.heap.size, 0, none⟩) n n) i → w.heap.size ≤ i := by
              intro i hi
              rcases hi with hi | hi | hi | hi
              · exact hfoot1 i (.inl hi)
              · exact hfoot1 i (.inr (.inl hi))
              · simp [Value.ownBlock] at hi
                subst hi
                rcases hg6 with h' | h'
                · exact hfoot1 _ (.inr (.inr (.inl h')))
                · have := hO1'.size; simp at h' this; omega
              · exact hfoot1 i (.inr (.inr (.inr hi)))
            have hblk2 := only_block (H1'.out.alloc (.cells #[.int .i64 (k : Int)] 3)).blk hO2 H1'.out.apart.a
            have r1 : w2.cell? ⟨w1.heap.size, 1, none⟩ = some va := by rw [cell_block hblk2]; rfl
            have rf1 := free_block hblk2 1
            clear q0 q1 qf0 qf1 hO2 hown2 hblk2
            have H2' := Lib.hid H2
            clear H2
            go_wp2_with fail
            go_roundw
            case rel => exact ⟨k + 1, _, _, by go_num, by omega, H2'.out, hfoot2, hO2'⟩
            case measure => simp [intOf]; omega
      · have hkn : k = n := by omega
        subst hkn
        go_wp2_with fail
        go_ret
        exact ⟨_, _, _, _, rfl, H', hfoot, hO⟩
  · have HN := Lib.hid hn0
    clear hn0
    go_enter Try.func8, Try.ntmps8
    go_wp2_with (at_make; go_must (refine wpM Try.underlying36 info64 rfl rfl _ _ rfl n rfl rfl (by rw [HN.out]; rfl) (by rw [HN.out]; rfl) (by omega) (by omega) ?_))
    intro w1 hown1 hO1 hsz1
    go_wp2_with fail
    have H0 : HeapAt (w1.alloc (.cells #[.slice none 0 0, .slice none 0 0, .slice (some ⟨w.heap.size, 0, none⟩) n n] 44)) w1.heap.size (.slice none 0 0) (.slice none 0 0) (.slice (some ⟨w.heap.size, 0, none⟩) n n) (newTo 0 n) := by
      refine ⟨heap_alloc_new w1 _, World.ownsRow_nil _ _ _ _, World.ownsRow_nil _ _ _ _, ?_, ?_⟩
      · have := hown1.alloc (.cells #[.slice none 0 0, .slice none 0 0, .slice (some ⟨w.heap.size, 0, none⟩) n n] 44)
        simpa [newTo, cS] using this
      · refine ⟨by simp [Value.ownBlock], by simp [Value.ownBlock], ?_, by simp [Value.ownBlock], by simp [Value.ownBlock], by simp [Value.ownBlock]⟩
        simp [Value.ownBlock]; omega
    refine wp_loop_rounds 1 ?_
    rw [rounds_succ]
    go_wp2_with fail
    go_ret
    have hN : newTo 0 n = Hp.new n := by rw [HN.out]; rfl
    refine ⟨_, _, _, _, rfl, hN ▸ H0, ?_, hO1.alloc _⟩
    intro i hi
    rcases hi with rfl | hi | hi | hi
    · omega
    · simp [Value.ownBlock] at hi
    · simp [Value.ownBlock] at hi
    · simp [Value.ownBlock] at hi; omega
end
end Go.Proofs.Ytgbdmembacjooaa
