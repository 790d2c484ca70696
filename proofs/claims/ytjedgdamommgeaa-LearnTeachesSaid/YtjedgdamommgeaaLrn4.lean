/- The walk of (*learn.student).takes. (Printed by gen_lrn4.py.) -/
import Derived.Test.YtjedgdamommgeaaLrnF
import Derived.Test.YtjedgdamommgeaaLrn3
set_option linter.unusedVariables false
namespace Go.Proofs.Ytjedgdamommgeaa
open Go.RowKit
open Tr

/-- a student in memory -/
structure StAt (w : World) (bs bi bm b : Nat) (top : Int) (s : Stu) : Prop where
  blk : w.heap[bs]? = some (.cells #[.pointer (some ⟨b, 0, none⟩), cI top, .map (some bi), cI s.many, .map (some bm)] 64 (0, 0))
  in_ : IMap w bi s.ks s.f
  met : IMap w bm s.ms s.mf
  ne : bi ≠ bm
def StF (bs bi bm : Nat) : Nat → Prop := fun k => k = bs ∨ k = bi ∨ k = bm

section
variable {w w' : World} {bs bi bm b : Nat} {top : Int} {s : Stu}

theorem StAt.c0 (h : StAt w bs bi bm b top s) : w.cell? ⟨bs, 0, none⟩ = some (.pointer (some ⟨b, 0, none⟩)) := by rw [cell_block h.blk]; rfl
theorem StAt.c1 (h : StAt w bs bi bm b top s) : w.cell? ⟨bs, 1, none⟩ = some (cI top) := by rw [cell_block h.blk]; rfl
theorem StAt.c2 (h : StAt w bs bi bm b top s) : w.cell? ⟨bs, 2, none⟩ = some (.map (some bi)) := by rw [cell_block h.blk]; rfl
theorem StAt.c3 (h : StAt w bs bi bm b top s) : w.cell? ⟨bs, 3, none⟩ = some (cI s.many) := by rw [cell_block h.blk]; rfl
theorem StAt.c4 (h : StAt w bs bi bm b top s) : w.cell? ⟨bs, 4, none⟩ = some (.map (some bm)) := by rw [cell_block h.blk]; rfl
theorem StAt.free (h : StAt w bs bi bm b top s) (i : Nat) : w.frozen? ⟨bs, i, none⟩ = false := free_block h.blk i

theorem StAt.only0 (h : StAt w bs bi bm b top s) (ho : Only (fun _ => False) w w') : StAt w' bs bi bm b top s :=
  ⟨only_block h.blk ho (fun f => f), h.in_.only0 ho, h.met.only0 ho, h.ne⟩

theorem IMap.notCells {bs : Nat} {ks : List Int} {f : Int → Int} {c : Array Value} {t : TypeId} {z : Nat × Nat} (h : IMap w bi ks f) (hb : w.heap[bs]? = some (.cells c t z)) : bs ≠ bi := by
  rintro rfl
  obtain ⟨D, ⟨es, clock, hm, _⟩, _⟩ := h.own
  rw [hb] at hm
  cases hm

/-- a literal taken in -/
theorem StAt.putIn (h : StAt w bs bi bm b top s) {a x : Int} (ha : InI64 a) (hx : InI64 x) (hl : s.ks.length < maxLen) :
    ∀ W, Only (fun _ => False) w W → ∃ w6, (Instr.mapUpdate 62 (.map (some bi)) (cI a) (cI x)).run Try.prog W = .ok () w6 ∧ StAt w6 bs bi bm b top { s with ks := addK s.ks a, f := upd s.f a x } ∧ Only (StF bs bi bm) w w6 := by
  intro W oW
  have h0 := h.only0 oW
  obtain ⟨w6, hr, hI, ho⟩ := h0.in_.store ha hx hl
  have hne := h0.in_.notCells h0.blk
  refine ⟨w6, hr, ⟨only_block h0.blk ho hne, hI, h0.met.only ho (fun e => h.ne e.symm), h.ne⟩, (oW.mono fun _ f => f.elim).same (ho.mono fun k hk => .inr (.inl hk))⟩
theorem StAt.putMet (h : StAt w bs bi bm b top s) {a x : Int} (ha : InI64 a) (hx : InI64 x) (hl : s.ms.length < maxLen) :
    ∀ W, Only (fun _ => False) w W → ∃ w6, (Instr.mapUpdate 62 (.map (some bm)) (cI a) (cI x)).run Try.prog W = .ok () w6 ∧ StAt w6 bs bi bm b top { s with ms := addK s.ms a, mf := upd s.mf a x } ∧ Only (StF bs bi bm) w w6 := by
  intro W oW
  have h0 := h.only0 oW
  obtain ⟨w6, hr, hI, ho⟩ := h0.met.store ha hx hl
  have hne := h0.met.notCells h0.blk
  refine ⟨w6, hr, ⟨only_block h0.blk ho hne, h0.in_.only ho h.ne, hI, h.ne⟩, (oW.mono fun _ f => f.elim).same (ho.mono fun k hk => .inr (.inr hk))⟩
theorem StAt.setMany (h : StAt w bs bi bm b top s) (m : Int) : StAt (w.setCell ⟨bs, 3, none⟩ (cI m)) bs bi bm b top { s with many := m } ∧ Only (StF bs bi bm) w (w.setCell ⟨bs, 3, none⟩ (cI m)) := by
  have ho : Only (fun k => k = bs) w (w.setCell ⟨bs, 3, none⟩ (cI m)) := Only.setCell (Only.refl (fun k => k = bs) w) (p := ⟨bs, 3, none⟩) (.inl rfl) _
  exact ⟨⟨by rw [set_block h.blk]; rfl, h.in_.only ho (fun e => h.in_.notCells h.blk e.symm), h.met.only ho (fun e => h.met.notCells h.blk e.symm), h.ne⟩, ho.mono fun k hk => .inl hk⟩
theorem StAt.dropIn (h : StAt w bs bi bm b top s) {a : Int} (ha : InI64 a) (ty : TypeId) :
    ∀ W, Only (fun _ => False) w W → ∃ w6, (Builtin.delete_ #[62, 3] ty #[.map (some bi), cI a]).run Try.prog W = .ok (.tuple #[]) w6 ∧ StAt w6 bs bi bm b top { s with ks := s.ks.erase a, f := upd s.f a 0 } ∧ Only (StF bs bi bm) w w6 := by
  intro W oW
  have h0 := h.only0 oW
  obtain ⟨w6, hr, hI, ho⟩ := h0.in_.drop ha ty
  have hne := h0.in_.notCells h0.blk
  refine ⟨w6, hr, ⟨only_block h0.blk ho hne, hI, h0.met.only ho (fun e => h.ne e.symm), h.ne⟩, (oW.mono fun _ f => f.elim).same (ho.mono fun k hk => .inr (.inl hk))⟩
end

theorem addK_len (ks : List Int) (x : Int) : (addK ks x).length ≤ ks.length + 1 := by unfold addK; split <;> simp
theorem w64_in (x : Int) : InI64 (w64 x) := by unfold w64 InI64; rw [IntKind.wrap_i64]; omega

theorem take1_len (T : Trail) (top : Int) (s : Stu) (x : Int) : (T.take1 top s x).ks.length ≤ s.ks.length + 1 ∧ (T.take1 top s x).ms.length ≤ s.ms.length + 1 := by
  unfold Trail.take1
  split
  · exact ⟨Nat.le_succ _, Nat.le_succ _⟩
  · exact ⟨addK_len _ _, addK_len _ _⟩
theorem takes_snoc (T : Trail) (top : Int) (s : Stu) (l : List Int) (x : Int) : T.takes top s (l ++ [x]) = T.take1 top (T.takes top s l) x := by
  unfold Trail.takes; rw [List.foldl_append]; rfl
theorem takes_len (T : Trail) (top : Int) (s : Stu) : ∀ (k : Nat) (l : List Int), (T.takes top s (l.take k)).ks.length ≤ s.ks.length + k ∧ (T.takes top s (l.take k)).ms.length ≤ s.ms.length + k
  | 0, l => by simp [Trail.takes]
  | k + 1, l => by
    by_cases hk : k < l.length
    · rw [take_snocI l k hk, takes_snoc]
      have h1 := takes_len T top s k l
      have h2 := take1_len T top (T.takes top s (l.take k)) (l.getD k 0)
      omega
    · have h1 := takes_len T top s k l
      rw [List.take_of_length_le (by omega)] at h1 ⊢
      omega

section
variable {w : World} {g : Tag} {b : Nat} {V : TrV} {T : Trail} {bs bi bm : Nat} {top : Int} {s : Stu}

/-- blocks that are not the trail's -/
def Off (g : Tag) (bs bi bm : Nat) : Prop := (g bs).1 = 0 ∧ (g bi).1 = 0 ∧ (g bm).1 = 0
theorem TrAt.off {w' : World} (H : TrAt w g b V T) (hf : Off g bs bi bm) (ho : Only (StF bs bi bm) w w') : TrAt w' g b V T :=
  H.only ho fun k hk h => by
    rcases h with rfl | rfl | rfl
    · exact hk hf.1
    · exact hk hf.2.1
    · exact hk hf.2.2

/-- in the midst of takes -/
structure TkAt (w : World) (bs bi bm b : Nat) (T : Trail) (top : Int) (s : Stu) (wr : World) : Prop where
  st : StAt wr bs bi bm b top s
  on : Only (StF bs bi bm) w wr

set_option maxRecDepth 100000 in
set_option maxHeartbeats 3200000 in
theorem takes_any (H : TrAt w g b V T) (o : Ok T) (hf : Off g bs bi bm) (hS : StAt w bs bi bm b top s) {v : Value} {l : List Int} (hI : Ints w v l) (hN : 0 < l.length → ∀ k, Value.blk v = some k → ¬ StF bs bi bm k) (hlen : l.length ≤ 1099511627776) (hk : s.ks.length ≤ 1099511627776) (hm : s.ms.length ≤ 1099511627776) :
    Calls Try.prog 38 #[.pointer (some ⟨bs, 0, none⟩), v] w fun e w' => e = .returned (.tuple #[]) ∧ StAt w' bs bi bm b top (T.takes top s l) ∧ Only (StF bs bi bm) w w' := by
  obtain ⟨ai, ci, rfl, -, -⟩ := hI.shape
  have hst : TkAt w bs bi bm b T top (T.takes top s (l.take 0)) w := ⟨hS, Only.refl _ _⟩
  have HSt := Lib.hid hst
  have HH := Lib.hid H
  have HOk := Lib.hid o
  have HI := Lib.hid hI
  have HN := Lib.hid hN
  clear hst H o hI hN hS
  go_enter Try.func38, Try.ntmps38
  go_wp2_with fail
  go_loopw [9] (fun v wr => ∃ j : Nat, v = .int .i64 j ∧ j ≤ l.length ∧ TkAt w bs bi bm b T top (T.takes top s (l.take j)) wr) (fun v _ => l.length - (intOf v).toNat)
  case atStart => exact ⟨0, rfl, Nat.zero_le _, HSt.out⟩
  case round =>
    clear HSt
    obtain ⟨j, rfl, hj, hT⟩ := hrel
    have HT := Lib.hid hT
    clear hT
    by_cases cj : j < l.length
    · have hIw := HI.out.only' HT.out.on (fun hp k hk => HN.out hp k hk)
      obtain ⟨bl, ol, rfl, _, hcs⟩ := hIw.cells _ _ _ rfl (by omega)
      have qx := hcs j cj
      have hx := HI.out.range' j
      have hsn := takes_snoc T top s (l.take j) (l.getD j 0)
      rw [← take_snocI l j cj] at hsn
      have hln := takes_len T top s j l
      obtain ⟨x, hxe⟩ : ∃ x, l.getD j 0 = x := ⟨_, rfl⟩
      rw [hxe] at qx hx hsn
      obtain ⟨s1, hs1⟩ : ∃ s1, T.takes top s (l.take j) = s1 := ⟨_, rfl⟩
      rw [hs1] at HT hsn hln
      obtain ⟨a, ha⟩ : ∃ a, Cnf.absW x = a := ⟨_, rfl⟩
      obtain ⟨q, hq⟩ : ∃ q, T.lvl x = q := ⟨_, rfl⟩
      have hai : InI64 a := by rw [← ha]; exact absW_in hx
      have c0 := HT.out.st.c0
      have hlv := learn_level_any (HH.out.off hf HT.out.on) HOk.out x hx q hq
      have HLv := Lib.hid hlv
      have hab := fun W : World => learn_abs_any (w := W) x a ha
      have HAb := Lib.hid hab
      have HSn := Lib.hid hsn
      have HA := Lib.hid ha
      have HQ := Lib.hid hq
      have ewj : IntKind.i64.wrap ((j : Int) + 1) = ((j + 1 : Nat) : Int) := by rw [IntWalk.i64_in _ (by omega)]; rfl
      clear hcs hxe hs1 hlv hab hsn ha hq hIw
      go_wp2_with fail
      refine HLv.out.mono ?_
      rintro e w1 ⟨rfl, O1⟩
      have hS1 := HT.out.st.only0 O1
      have HT1 : Hid (TkAt w bs bi bm b T top s1 w1) := Lib.hid ⟨hS1, HT.out.on.same (O1.mono fun _ f => f.elim)⟩
      have HS1 := Lib.hid hS1
      have hC : ∀ W, Only (fun _ => False) w1 W → W.cell? ⟨bs, 2, none⟩ = some (.map (some bi)) ∧ (Instr.lookup 62 (.map (some bi)) (cI a) false).run Try.prog W = .ok (cI (s1.f a)) W := fun W oW => ⟨(hS1.only0 oW).c2, (hS1.only0 oW).in_.look hai⟩
      have HC := Lib.hid hC
      have o0 : Only (fun _ => False) w1 w1.drew := (Only.refl _ _).drew
      clear hC c0 qx hS1
      by_cases hq0 : q = 0
      · skip
        subst hq0
        have hnext : T.takes top s (l.take (j + 1)) = s1 := by rw [HSn.out]; unfold Trail.take1; rw [if_pos (.inl HQ.out)]
        have hfin : ∀ W, Only (fun _ => False) w1 W → TkAt w bs bi bm b T top (T.takes top s (l.take (j + 1))) W := fun W oW => by rw [hnext]; exact ⟨HT1.out.st.only0 oW, HT1.out.on.same (oW.mono fun _ f => f.elim)⟩
        have HFin := Lib.hid hfin
        clear hnext hfin
        go_wp2_with fail
        go_quiet (fail)
        have hz := HFin.out (w1.drewN nq) ((Only.refl _ _).drewN _)
        have HZ := Lib.hid hz
        clear hz
        go_wp2_with fail
        go_roundw
        case rel => exact ⟨j + 1, by first | rfl | go_num, by omega, HZ.out⟩
        case measure => simp [intOf]; omega
        
      · have dq : (q == 0) = false := by rw [beq_eq_false_iff_ne]; exact hq0
        obtain ⟨y, hy⟩ : ∃ y, s1.f a = y := ⟨_, rfl⟩
        rw [hy] at HC
        by_cases hy0 : y = 0
        · skip
          subst hy0
          have hnext : T.takes top s (l.take (j + 1)) = { ks := addK s1.ks a, f := upd s1.f a x, ms := addK s1.ms a, mf := upd s1.mf a (w64 (s1.mf a + 1)), many := if q = top then w64 (s1.many + 1) else s1.many } := by
            rw [HSn.out]; unfold Trail.take1; rw [if_neg (by rw [HQ.out, HA.out]; rintro (h | h); exact hq0 h; exact h hy), HA.out, HQ.out]
          have HNext := Lib.hid hnext
          clear hnext hy
          go_wp2_with fail
          refine wp_region_Q (fun w' => Only (fun _ => False) w1 w') (by kernel_rfl) (by kernel_rfl) (by assumption) ?_
          refine wpQ_val (v := ?_) (by rfl) ?_ ?_
          rotate_left
          · (intro w hSw; (try dsimp only at hSw); have hcc := HC.out w hSw; obtain ⟨hc1, hc2⟩ := hcc; go_simp <;> (try with_reducible rfl))
          try simp only [Act.put, List.setIfInBounds_toArray, List.set_cons_zero, List.set_cons_succ]
          refine wpQ_val (v := ?_) (by rfl) ?_ ?_
          rotate_left
          · (intro w hSw; (try dsimp only at hSw); have hcc := HC.out w hSw; obtain ⟨hc1, hc2⟩ := hcc; go_simp <;> (try with_reducible rfl))
          try simp only [Act.put, List.setIfInBounds_toArray, List.set_cons_zero, List.set_cons_succ]
          refine wpQ_val (v := ?_) (by rfl) ?_ ?_
          rotate_left
          · (intro w hSw; (try dsimp only at hSw); have hcc := HC.out w hSw; obtain ⟨hc1, hc2⟩ := hcc; go_simp <;> (try with_reducible rfl))
          try simp only [Act.put, List.setIfInBounds_toArray, List.set_cons_zero, List.set_cons_succ]
          refine wpQ_val (v := ?_) (by rfl) ?_ ?_
          rotate_left
          · (intro w hSw; (try dsimp only at hSw); have hcc := HC.out w hSw; obtain ⟨hc1, hc2⟩ := hcc; go_simp <;> (try with_reducible rfl))
          try simp only [Act.put, List.setIfInBounds_toArray, List.set_cons_zero, List.set_cons_succ]
          refine wpQ_val (v := ?_) (by rfl) ?_ ?_
          rotate_left
          · (intro w hSw; (try dsimp only at hSw); have hcc := HC.out w hSw; obtain ⟨hc1, hc2⟩ := hcc; go_simp <;> (try with_reducible rfl))
          try simp only [Act.put, List.setIfInBounds_toArray, List.set_cons_zero, List.set_cons_succ]
          refine wpQ_val (v := ?_) (by rfl) ?_ ?_
          rotate_left
          · (intro w hSw; (try dsimp only at hSw); have hcc := HC.out w hSw; obtain ⟨hc1, hc2⟩ := hcc; go_simp <;> (try with_reducible rfl))
          try simp only [Act.put, List.setIfInBounds_toArray, List.set_cons_zero, List.set_cons_succ]
          refine wpQ_val (v := ?_) (by rfl) ?_ ?_
          rotate_left
          · (intro w hSw; (try dsimp only at hSw); have hcc := HC.out w hSw; obtain ⟨hc1, hc2⟩ := hcc; go_simp <;> (try with_reducible rfl))
          try simp only [Act.put, List.setIfInBounds_toArray, List.set_cons_zero, List.set_cons_succ]
          refine wpQ_val (v := ?_) (by rfl) ?_ ?_
          rotate_left
          · (intro w hSw; (try dsimp only at hSw); have hcc := HC.out w hSw; obtain ⟨hc1, hc2⟩ := hcc; go_simp <;> (try with_reducible rfl))
          try simp only [Act.put, List.setIfInBounds_toArray, List.set_cons_zero, List.set_cons_succ]
          refine wpQ_call (v := cI a) (f := 48) (args := #[.int .i64 x]) (by rfl) ?_ ?_ ?_
          · (intro w; go_simp <;> (try with_reducible rfl))
          · (intro w hSw; exact (HAb.out w).mono fun _ _ ⟨he, hw⟩ => ⟨he, by rw [← hw]; exact hSw⟩)
          try simp only [Act.put, List.setIfInBounds_toArray, List.set_cons_zero, List.set_cons_succ]
          refine wpQ_val (v := ?_) (by rfl) ?_ ?_
          rotate_left
          · (intro w hSw; (try dsimp only at hSw); have hcc := HC.out w hSw; obtain ⟨hc1, hc2⟩ := hcc; go_simp <;> (try with_reducible rfl))
          try simp only [Act.put, List.setIfInBounds_toArray, List.set_cons_zero, List.set_cons_succ]
          refine wpQ_val (v := ?_) (by rfl) ?_ ?_
          rotate_left
          · (intro w hSw; (try dsimp only at hSw); have hcc := HC.out w hSw; obtain ⟨hc1, hc2⟩ := hcc; go_simp <;> (try with_reducible rfl))
          try simp only [Act.put, List.setIfInBounds_toArray, List.set_cons_zero, List.set_cons_succ]
          refine wpQ_val (v := ?_) (by rfl) ?_ ?_
          rotate_left
          · (intro w hSw; (try dsimp only at hSw); have hcc := HC.out w hSw; obtain ⟨hc1, hc2⟩ := hcc; go_simp <;> (try with_reducible rfl))
          try simp only [Act.put, List.setIfInBounds_toArray, List.set_cons_zero, List.set_cons_succ]
          refine wpQuiet_nil ?_
          intro w2 O2
          have hS2 := HS1.out.only0 O2
          have HT2 : Hid (TkAt w bs bi bm b T top s1 w2) := Lib.hid ⟨hS2, HT1.out.on.same (O2.mono fun _ f => f.elim)⟩
          have hst5 := hS2.putIn hai hx (by unfold maxLen; omega)
          have HSt5 := Lib.hid hst5
          have hc0 : w2.drew.cell? ⟨bs, 2, none⟩ = some (.map (some bi)) := (hS2.only0 ((Only.refl _ _).drew)).c2
          clear hS2 hst5 O2
          go_wp2_with fail
          refine wp_region_G (n := 8) (E := fun i => i == 7) (S := fun w' => w'.cell? ⟨bs, 2, none⟩ = some (.map (some bi))) (by kernel_rfl) rfl hc0 (fun hHeld => ?_)
          refine wpAnyG_takeW (i := 0) (v := ?_) rfl (by kernel_rfl) (by kernel_rfl) (by kernel_rfl) rfl (fun _ _ _ h => h) (Or.inr (by assumption)) (by rfl) ?_ ?_
          rotate_left
          · (intro w; go_simp <;> (try with_reducible rfl))
          try simp only [Act.put, List.getElem_toArray, List.getElem_cons_zero, List.setIfInBounds_toArray, List.set_cons_zero, List.set_cons_succ]
          refine wpAnyG_takeW (i := 1) (v := ?_) rfl (by kernel_rfl) (by kernel_rfl) (by kernel_rfl) rfl (fun _ _ _ h => h) (Or.inr (by assumption)) (by rfl) ?_ ?_
          rotate_left
          · (intro w; go_simp <;> (try with_reducible rfl))
          try simp only [Act.put, List.getElem_toArray, List.getElem_cons_succ, List.getElem_cons_zero, List.setIfInBounds_toArray, List.set_cons_zero, List.set_cons_succ]
          refine wpAnyG_takeW (i := 2) (v := ?_) rfl (by kernel_rfl) (by kernel_rfl) (by kernel_rfl) rfl (fun _ _ _ h => h) (Or.inr (by assumption)) (by rfl) ?_ ?_
          rotate_left
          · (intro w; go_simp <;> (try with_reducible rfl))
          try simp only [Act.put, List.getElem_toArray, List.getElem_cons_succ, List.getElem_cons_zero, List.setIfInBounds_toArray, List.set_cons_zero, List.set_cons_succ]
          refine wpAnyG_take (i := 3) (v := ?_) rfl (by kernel_rfl) (by kernel_rfl) (by kernel_rfl) rfl (by kernel_rfl) (by kernel_rfl) (fun _ _ _ h => h) (by assumption) (by rfl) ?_ ?_
          rotate_left
          · (intro w hSw; (try dsimp only at hSw); go_simp <;> (try with_reducible rfl))
          try simp only [Act.put, List.getElem_toArray, List.getElem_cons_succ, List.getElem_cons_zero, List.setIfInBounds_toArray, List.set_cons_zero, List.set_cons_succ]
          refine wpAnyG_takeW (i := 4) (v := ?_) rfl (by kernel_rfl) (by kernel_rfl) (by kernel_rfl) rfl (fun _ _ _ h => h) (Or.inr (by assumption)) (by rfl) ?_ ?_
          rotate_left
          · (intro w; go_simp <;> (try with_reducible rfl))
          try simp only [Act.put, List.getElem_toArray, List.getElem_cons_succ, List.getElem_cons_zero, List.setIfInBounds_toArray, List.set_cons_zero, List.set_cons_succ]
          refine wpAnyG_takeC (i := 5) (v := ?_) (f := 48) (args := #[.int .i64 x]) rfl (by kernel_rfl) (by kernel_rfl) (by kernel_rfl) rfl (by kernel_rfl) (by kernel_rfl) (fun _ _ _ h => h) (by assumption) (by rfl) ?_ ?_ ?_
          rotate_left
          · (intro w; go_simp <;> (try with_reducible rfl))
          · (intro w hSw; exact HAb.out w)
          try simp only [Act.put, List.getElem_toArray, List.getElem_cons_succ, List.getElem_cons_zero, List.setIfInBounds_toArray, List.set_cons_zero, List.set_cons_succ]
          refine wpAnyG_takeW (i := 6) (v := ?_) rfl (by kernel_rfl) (by kernel_rfl) (by kernel_rfl) rfl (fun _ _ _ h => h) (Or.inr (by assumption)) (by rfl) ?_ ?_
          rotate_left
          · (intro w; go_simp <;> (try with_reducible rfl))
          try simp only [Act.put, List.getElem_toArray, List.getElem_cons_succ, List.getElem_cons_zero, List.setIfInBounds_toArray, List.set_cons_zero, List.set_cons_succ]
          refine wpAnyG_ready (rs := [7]) (by kernel_rfl) (by simp) ?_
          refine AllReadyG.late (i := 7) rfl (by kernel_rfl) (fun K hK => ?_) ?_
          · (obtain ⟨w5, hmu, h5⟩ := HSt5.out w2.drew ((Only.refl _ _).drew); go_simp)
            refine hK.out _ _ ?_
            clear hK K
            try simp only [Act.put, List.getElem_toArray, List.getElem_cons_succ, List.getElem_cons_zero, List.setIfInBounds_toArray, List.set_cons_zero, List.set_cons_succ]
            refine wpAnyG_done (by kernel_rfl) ?_ _
            obtain ⟨hS3, hO3⟩ := h5
            have HT3 : Hid (TkAt w bs bi bm b T top { s1 with ks := addK s1.ks a, f := upd s1.f a x } w5) := Lib.hid ⟨hS3, HT2.out.on.same hO3⟩
            have hst6 := hS3.putMet (a := a) (x := w64 (s1.mf a + 1)) hai (w64_in _) (by simp only; unfold maxLen; omega)
            have HSt6 := Lib.hid hst6
            have hC6 : ∀ W, Only (fun _ => False) w5 W → W.cell? ⟨bs, 4, none⟩ = some (.map (some bm)) ∧ (Instr.lookup 62 (.map (some bm)) (cI a) false).run Try.prog W = .ok (cI (s1.mf a)) W := fun W oW => ⟨(hS3.only0 oW).c4, (hS3.only0 oW).met.look hai⟩
            have hc0 := hC6 w5.drew ((Only.refl _ _).drew)
            unfold w64 at HSt6
            clear hS3 hO3 hst6 hmu hC6
            go_wp2_with fail
            refine wp_region_G (n := 9) (E := fun i => i == 8) (S := fun w' => w'.cell? ⟨bs, 4, none⟩ = some (.map (some bm)) ∧ (Instr.lookup 62 (.map (some bm)) (cI a) false).run Try.prog w' = .ok (cI (s1.mf a)) w') (by kernel_rfl) rfl hc0 (fun hHeld => ?_)
            refine wpAnyG_takeW (i := 0) (v := ?_) rfl (by kernel_rfl) (by kernel_rfl) (by kernel_rfl) rfl (fun _ _ _ h => h) (Or.inr (by assumption)) (by rfl) ?_ ?_
            rotate_left
            · (intro w; go_simp <;> (try with_reducible rfl))
            try simp only [Act.put, List.getElem_toArray, List.getElem_cons_zero, List.setIfInBounds_toArray, List.set_cons_zero, List.set_cons_succ]
            refine wpAnyG_takeW (i := 1) (v := ?_) rfl (by kernel_rfl) (by kernel_rfl) (by kernel_rfl) rfl (fun _ _ _ h => h) (Or.inr (by assumption)) (by rfl) ?_ ?_
            rotate_left
            · (intro w; go_simp <;> (try with_reducible rfl))
            try simp only [Act.put, List.getElem_toArray, List.getElem_cons_succ, List.getElem_cons_zero, List.setIfInBounds_toArray, List.set_cons_zero, List.set_cons_succ]
            refine wpAnyG_takeW (i := 2) (v := ?_) rfl (by kernel_rfl) (by kernel_rfl) (by kernel_rfl) rfl (fun _ _ _ h => h) (Or.inr (by assumption)) (by rfl) ?_ ?_
            rotate_left
            · (intro w; go_simp <;> (try with_reducible rfl))
            try simp only [Act.put, List.getElem_toArray, List.getElem_cons_succ, List.getElem_cons_zero, List.setIfInBounds_toArray, List.set_cons_zero, List.set_cons_succ]
            refine wpAnyG_take (i := 3) (v := ?_) rfl (by kernel_rfl) (by kernel_rfl) (by kernel_rfl) rfl (by kernel_rfl) (by kernel_rfl) (fun _ _ _ h => h) (by assumption) (by rfl) ?_ ?_
            rotate_left
            · (intro w hSw; (try dsimp only at hSw); go_simp <;> (try with_reducible rfl))
            try simp only [Act.put, List.getElem_toArray, List.getElem_cons_succ, List.getElem_cons_zero, List.setIfInBounds_toArray, List.set_cons_zero, List.set_cons_succ]
            refine wpAnyG_takeW (i := 4) (v := ?_) rfl (by kernel_rfl) (by kernel_rfl) (by kernel_rfl) rfl (fun _ _ _ h => h) (Or.inr (by assumption)) (by rfl) ?_ ?_
            rotate_left
            · (intro w; go_simp <;> (try with_reducible rfl))
            try simp only [Act.put, List.getElem_toArray, List.getElem_cons_succ, List.getElem_cons_zero, List.setIfInBounds_toArray, List.set_cons_zero, List.set_cons_succ]
            refine wpAnyG_takeC (i := 5) (v := ?_) (f := 48) (args := #[.int .i64 x]) rfl (by kernel_rfl) (by kernel_rfl) (by kernel_rfl) rfl (by kernel_rfl) (by kernel_rfl) (fun _ _ _ h => h) (by assumption) (by rfl) ?_ ?_ ?_
            rotate_left
            · (intro w; go_simp <;> (try with_reducible rfl))
            · (intro w hSw; exact HAb.out w)
            try simp only [Act.put, List.getElem_toArray, List.getElem_cons_succ, List.getElem_cons_zero, List.setIfInBounds_toArray, List.set_cons_zero, List.set_cons_succ]
            refine wpAnyG_ready (rs := [6]) (by kernel_rfl) (by simp) ?_
            refine AllReadyG.cons (i := 6) rfl (fun K hK => ?_) ?_
            · go_simp
              refine hK.out _ _ ?_ (fun hHeld => ?_)
              · (try dsimp only) <;> (go_keep)
              clear hK K
              try simp only [Act.put, List.getElem_toArray, List.getElem_cons_succ, List.getElem_cons_zero, List.setIfInBounds_toArray, List.set_cons_zero, List.set_cons_succ]
              refine wpAnyG_takeW (i := 7) (v := ?_) rfl (by kernel_rfl) (by kernel_rfl) (by kernel_rfl) rfl (fun _ _ _ h => h) (Or.inr (by assumption)) (by rfl) ?_ ?_
              rotate_left
              · (intro w; go_simp <;> (try with_reducible rfl))
              try simp only [Act.put, List.getElem_toArray, List.getElem_cons_succ, List.getElem_cons_zero, List.setIfInBounds_toArray, List.set_cons_zero, List.set_cons_succ]
              refine wpAnyG_ready (rs := [8]) (by kernel_rfl) (by simp) ?_
              refine AllReadyG.late (i := 8) rfl (by kernel_rfl) (fun K hK => ?_) ?_
              · (obtain ⟨w6, hmu, h6⟩ := HSt6.out w5.drew ((Only.refl _ _).drew); go_simp)
                refine hK.out _ _ ?_
                clear hK K
                try simp only [Act.put, List.getElem_toArray, List.getElem_cons_succ, List.getElem_cons_zero, List.setIfInBounds_toArray, List.set_cons_zero, List.set_cons_succ]
                refine wpAnyG_done (by kernel_rfl) ?_ _
                obtain ⟨hS4, hO4⟩ := h6
                have hO3b : Only (StF bs bi bm) w w6 := (HT3.out.on.same hO4)
                have HS4 := Lib.hid hS4
                have HO3b := Lib.hid hO3b
                have t1 := hS4.c1
                have t3 := hS4.c3
                have f3 := hS4.free 3
                clear hS4 hO4 hO3b hmu
                by_cases hqt : q = top
                · subst hqt
                  have hfm := HS4.out.setMany (w64 (s1.many + 1))
                  have hz : TkAt w bs bi bm b T q (T.takes q s (l.take (j + 1))) (w6.setCell ⟨bs, 3, none⟩ (cI (w64 (s1.many + 1)))) := by
                    rw [HNext.out, if_pos rfl]
                    exact ⟨hfm.1, HO3b.out.same hfm.2⟩
                  obtain ⟨m2, hm2⟩ : ∃ m2, w64 (s1.many + 1) = m2 := ⟨_, rfl⟩
                  rw [hm2] at hz
                  have HZ := Lib.hid hz
                  have hm3 : IntKind.i64.wrap (s1.many + 1) = m2 := hm2
                  have hm4 : wrap64 (s1.many + 1) = m2 := by rw [← hm3, IntWalk.i64_left]
                  clear hfm hz hm2
                  go_wp2_with fail
                  go_wp2_with fail
                  go_roundw
                  case rel => exact ⟨j + 1, by first | rfl | go_num, by omega, HZ.out⟩
                  case measure => simp [intOf]; omega
                · have dt : (q == top) = false := by rw [beq_eq_false_iff_ne]; exact hqt
                  have hz : TkAt w bs bi bm b T top (T.takes top s (l.take (j + 1))) w6 := by
                    rw [HNext.out, if_neg hqt]
                    exact ⟨HS4.out, HO3b.out⟩
                  have HZ := Lib.hid hz
                  clear hz
                  go_wp2_with fail
                  go_roundw
                  case rel => exact ⟨j + 1, by first | rfl | go_num, by omega, HZ.out⟩
                  case measure => simp [intOf]; omega
              exact AllReadyG.nil
            exact AllReadyG.nil
          exact AllReadyG.nil
          
        · skip
          have dy : (y != 0) = true := by rw [bne_iff_ne]; exact hy0
          have hnext : T.takes top s (l.take (j + 1)) = s1 := by rw [HSn.out]; unfold Trail.take1; rw [if_pos (.inr (by rw [HA.out, hy]; exact hy0))]
          have hfin : ∀ W, Only (fun _ => False) w1 W → TkAt w bs bi bm b T top (T.takes top s (l.take (j + 1))) W := fun W oW => by rw [hnext]; exact ⟨HT1.out.st.only0 oW, HT1.out.on.same (oW.mono fun _ f => f.elim)⟩
          have HFin := Lib.hid hfin
          clear hnext hfin hy
          go_wp2_with fail
          refine wp_region_Q (fun w' => Only (fun _ => False) w1 w') (by kernel_rfl) (by kernel_rfl) (by assumption) ?_
          refine wpQ_val (v := ?_) (by rfl) ?_ ?_
          rotate_left
          · (intro w hSw; (try dsimp only at hSw); have hcc := HC.out w hSw; obtain ⟨hc1, hc2⟩ := hcc; go_simp <;> (try with_reducible rfl))
          try simp only [Act.put, List.setIfInBounds_toArray, List.set_cons_zero, List.set_cons_succ]
          refine wpQ_val (v := ?_) (by rfl) ?_ ?_
          rotate_left
          · (intro w hSw; (try dsimp only at hSw); have hcc := HC.out w hSw; obtain ⟨hc1, hc2⟩ := hcc; go_simp <;> (try with_reducible rfl))
          try simp only [Act.put, List.setIfInBounds_toArray, List.set_cons_zero, List.set_cons_succ]
          refine wpQ_val (v := ?_) (by rfl) ?_ ?_
          rotate_left
          · (intro w hSw; (try dsimp only at hSw); have hcc := HC.out w hSw; obtain ⟨hc1, hc2⟩ := hcc; go_simp <;> (try with_reducible rfl))
          try simp only [Act.put, List.setIfInBounds_toArray, List.set_cons_zero, List.set_cons_succ]
          refine wpQ_val (v := ?_) (by rfl) ?_ ?_
          rotate_left
          · (intro w hSw; (try dsimp only at hSw); have hcc := HC.out w hSw; obtain ⟨hc1, hc2⟩ := hcc; go_simp <;> (try with_reducible rfl))
          try simp only [Act.put, List.setIfInBounds_toArray, List.set_cons_zero, List.set_cons_succ]
          refine wpQ_val (v := ?_) (by rfl) ?_ ?_
          rotate_left
          · (intro w hSw; (try dsimp only at hSw); have hcc := HC.out w hSw; obtain ⟨hc1, hc2⟩ := hcc; go_simp <;> (try with_reducible rfl))
          try simp only [Act.put, List.setIfInBounds_toArray, List.set_cons_zero, List.set_cons_succ]
          refine wpQ_val (v := ?_) (by rfl) ?_ ?_
          rotate_left
          · (intro w hSw; (try dsimp only at hSw); have hcc := HC.out w hSw; obtain ⟨hc1, hc2⟩ := hcc; go_simp <;> (try with_reducible rfl))
          try simp only [Act.put, List.setIfInBounds_toArray, List.set_cons_zero, List.set_cons_succ]
          refine wpQ_val (v := ?_) (by rfl) ?_ ?_
          rotate_left
          · (intro w hSw; (try dsimp only at hSw); have hcc := HC.out w hSw; obtain ⟨hc1, hc2⟩ := hcc; go_simp <;> (try with_reducible rfl))
          try simp only [Act.put, List.setIfInBounds_toArray, List.set_cons_zero, List.set_cons_succ]
          refine wpQ_val (v := ?_) (by rfl) ?_ ?_
          rotate_left
          · (intro w hSw; (try dsimp only at hSw); have hcc := HC.out w hSw; obtain ⟨hc1, hc2⟩ := hcc; go_simp <;> (try with_reducible rfl))
          try simp only [Act.put, List.setIfInBounds_toArray, List.set_cons_zero, List.set_cons_succ]
          refine wpQ_call (v := cI a) (f := 48) (args := #[.int .i64 x]) (by rfl) ?_ ?_ ?_
          · (intro w; go_simp <;> (try with_reducible rfl))
          · (intro w hSw; exact (HAb.out w).mono fun _ _ ⟨he, hw⟩ => ⟨he, by rw [← hw]; exact hSw⟩)
          try simp only [Act.put, List.setIfInBounds_toArray, List.set_cons_zero, List.set_cons_succ]
          refine wpQ_val (v := ?_) (by rfl) ?_ ?_
          rotate_left
          · (intro w hSw; (try dsimp only at hSw); have hcc := HC.out w hSw; obtain ⟨hc1, hc2⟩ := hcc; go_simp <;> (try with_reducible rfl))
          try simp only [Act.put, List.setIfInBounds_toArray, List.set_cons_zero, List.set_cons_succ]
          refine wpQ_val (v := ?_) (by rfl) ?_ ?_
          rotate_left
          · (intro w hSw; (try dsimp only at hSw); have hcc := HC.out w hSw; obtain ⟨hc1, hc2⟩ := hcc; go_simp <;> (try with_reducible rfl))
          try simp only [Act.put, List.setIfInBounds_toArray, List.set_cons_zero, List.set_cons_succ]
          refine wpQ_val (v := ?_) (by rfl) ?_ ?_
          rotate_left
          · (intro w hSw; (try dsimp only at hSw); have hcc := HC.out w hSw; obtain ⟨hc1, hc2⟩ := hcc; go_simp <;> (try with_reducible rfl))
          try simp only [Act.put, List.setIfInBounds_toArray, List.set_cons_zero, List.set_cons_succ]
          refine wpQuiet_nil ?_
          intro w2 O2
          have hz := HFin.out w2 O2
          have HZ := Lib.hid hz
          clear hz O2
          go_wp2_with fail
          go_roundw
          case rel => exact ⟨j + 1, by first | rfl | go_num, by omega, HZ.out⟩
          case measure => simp [intOf]; omega
          
    · skip
      have hjl : j = l.length := by omega
      have hT := HT.out
      rw [hjl, List.take_of_length_le (Nat.le_refl _)] at hT
      have HT2 := Lib.hid hT
      clear hT HT
      subst hjl
      go_wp2_with fail
      go_end0
      exact ⟨rfl, HT2.out.st, HT2.out.on⟩
      
end
end Go.Proofs.Ytjedgdamommgeaa
