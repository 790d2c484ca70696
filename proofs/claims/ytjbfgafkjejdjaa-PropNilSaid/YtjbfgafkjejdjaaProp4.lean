/- The walk of (*prop.Trail).put. -/
import Derived.Test.YtjbfgafkjejdjaaProp3
namespace Go.Proofs.Ytjbfgafkjejdjaa
open Go.RowKit
open Tr

theorem RowZ.store {w : World} {g : Tag} {t : Nat × Nat} {e : TypeId} {size b n cap : Nat} {xs : List Value} (h : RowZ w g t e size (.slice (some ⟨b, 0, none⟩) n cap) n xs) (i : Nat) (u : Value) :
    RowZ (w.setCell ⟨b, i, none⟩ u) g t e size (.slice (some ⟨b, 0, none⟩) n cap) n (xs.set i u) := ⟨(h.own.stored i u).1, h.tg⟩

namespace Tr
theorem Ok.put {T : Trail} (o : Ok T) {l : Int} (hl : l ≠ 0 ∧ l.natAbs ≤ T.n) (hv : T.val l = 0) {r : Int} (hr : -1 ≤ r ∧ r < 2147483648) : Ok (T.put l r) := by
  have e : (T.put l r).lits = T.lits ++ [l] := by simp [Trail.put, Trail.lits]
  refine ⟨o.n, o.gl, o.wl, o.cls, o.cb, ?_, o.sm, ?_, o.lev, ?_, ?_⟩
  · rw [e]; exact o.good.snoc hl hv
  · have := o.next; simp [Trail.put]; omega
  · intro x hx; have := o.lin x hx; simp [Trail.put]; omega
  · intro x hx
    simp only [Trail.put, List.mem_append, List.mem_singleton] at hx
    rcases hx with hx | rfl
    · exact o.rea x hx
    · exact ⟨hr.1, hr.2, Nat.le_refl _⟩

theorem put_cells {T : Trail} {l : Int} (hl : l ≠ 0 ∧ l.natAbs ≤ T.n) (hv : T.val l = 0) (r : Int) (z : Int) (hz : (if l < 0 then -1 else 1) = z) :
    (((atomCells T.n T.ents).set ((l.natAbs - 1) * 3) (cI z)).set ((l.natAbs - 1) * 3 + 1) (cN T.levels.length)).set ((l.natAbs - 1) * 3 + 2) (cI r) = atomCells T.n (T.put l r).ents := by
  subst hz
  have h0 := lits_open (n := T.n) hl.1 hv
  refine atomCells_set (y := (T.levels.length : Int)) (by omega) (fun i hi => ?_) ?_
  · exact atomOf_snoc (by simp only; omega)
  · rw [show l.natAbs - 1 + 1 = l.natAbs by omega]
    exact atomOf_new (x := (l, T.levels.length, r)) h0
end Tr

section
variable {w : World} {g : Tag} {b : Nat} {V : TrV} {T : Trail}

/-- the blocks that putting a literal touches -/
def T3 (n : Nat) : Prop := n = 31 ∨ n = 32 ∨ n = 38

/-- what put leaves -/
def PutTo (w : World) (g : Tag) (b : Nat) (V : TrV) (T : Trail) (w' : World) : Prop := ∃ g' vl', TrAt w' g' b { V with vl := vl' } T ∧ Agree w g g' ∧ Only (fun k => T3 (g k).1) w w'

theorem PutTo.to {w' : World} (h : PutTo w g b V T w') : TrTo w g b T w' := by
  obtain ⟨g', vl', h1, h2, h3⟩ := h
  exact ⟨g', _, h1, h2, h3.mono fun k hk => by unfold T3 at hk; unfold Mine; omega⟩

set_option maxRecDepth 100000 in
set_option maxHeartbeats 1600000 in
theorem prop_put_any (H : TrAt w g b V T) (hn : T.n ≤ 65536) (hg : Up.Good T.n T.lits) (l : Int) (hl : l ≠ 0 ∧ l.natAbs ≤ T.n) (hv : T.val l = 0) (r : Int) :
    Calls Try.prog 74 #[.pointer (some ⟨b, 0, none⟩), .int .i64 l, .int .i64 r] w fun e w' => e = .returned (.tuple #[]) ∧ PutTo w g b V (T.put l r) w' := by
  obtain ⟨ga, ca, hva, hc1, hc2⟩ := own_some H.a.own (by omega)
  have q0 := H.f0
  have hrow := H.a
  rw [hva] at q0 hrow
  obtain ⟨m, hmm⟩ : ∃ m : Nat, m = l.natAbs - 1 := ⟨_, rfl⟩
  have b1 : m < T.n := by omega
  have e0 : (atomCells T.n T.ents)[m * 3 + 0]? = some _ := atomCells_get T.ents (n := T.n) (i := m) (j := 0) (by omega) (by decide)
  have e1 : (atomCells T.n T.ents)[m * 3 + 1]? = some _ := atomCells_get T.ents (n := T.n) (i := m) (j := 1) (by omega) (by decide)
  have e2 : (atomCells T.n T.ents)[m * 3 + 2]? = some _ := atomCells_get T.ents (n := T.n) (i := m) (j := 2) (by omega) (by decide)
  have k0 := (hrow.own.cellAt (m * 3) (by omega)).trans e0
  have k1 := (hrow.own.cellAt (m * 3 + 1) (by omega)).trans e1
  have k2 := (hrow.own.cellAt (m * 3 + 2) (by omega)).trans e2
  have f0 := hrow.own.frozenAt (m * 3)
  have f1 := hrow.own.frozenAt (m * 3 + 1)
  have f2 := hrow.own.frozenAt (m * 3 + 2)
  have q5 := H.f5
  obtain ⟨aL, cL, hvL, _, _⟩ := own_slice H.L.own
  rw [hvL] at q5
  have q4 := H.f4
  obtain ⟨al, cl, hvl, _, _⟩ := H.l.shape
  have hrl := H.l
  rw [hvl] at q4 hrl
  have hll : (T.lits.map cI).length = T.ents.length := by simp [lits_len]
  rw [hll] at q4 hrl
  have hel : T.ents.length ≤ T.n := by have := hg.len; rwa [lits_len] at this
  have hta : g ga = (32, 0) := hrow.tg ga rfl
  have hne : ga ≠ b := fun e => by rw [e, H.tb] at hta; simp at hta
  have lb := lt_block H.blk
  have htb := H.tb
  have fr4 := H.free 4
  have hpc := fun z hz => put_cells hl hv r z hz
  rw [← hmm] at hpc
  have hfin : ∀ wA w5 v' s, Only (fun k => g k = (38, 0)) wA w5 → wA.heap.size = s → Row w5 (Tag.put g s w5.heap.size (38, 0)) (38, 0) 3 v' (T.lits.map cI ++ [.int .i64 l]) → RowZ wA g (32, 0) 96 3 (.slice (some ⟨ga, 0, none⟩) T.n ca) T.n (atomCells T.n (T.put l r).ents) → Only (fun k => g k = (32, 0)) w wA → PutTo w g b V (T.put l r) (w5.setCell ⟨b, 4, none⟩ v') := by
    intro wA w5 v' s o2 hs r2 r1 o1
    subst hs
    have ag : Agree w g (Tag.put g wA.heap.size w5.heap.size (38, 0)) := Agree.put g _ o1.size
    have o5 : Only (fun k => g k = (32, 0) ∨ g k = (38, 0)) w w5 := (o1.mono fun k hk => .inl hk).same (o2.mono fun k hk => .inr hk)
    have ha := r1.keep o2 (fun k hk hF => by rw [hk] at hF; simp at hF) (Agree.put (w := wA) g (lo := wA.heap.size) (hi := w5.heap.size) (38, 0) (Nat.le_refl _))
    have := H.setL (ents := (T.put l r).ents) (v := v') ag (Fresh.put (w := wA) (38, 0) (H.fresh.more o1.size) o2.size) o5 (by rw [hva]; exact ha) (by
      have e : ((T.put l r).ents.map (·.1)).map cI = T.lits.map cI ++ [.int .i64 l] := by simp [Trail.put, Trail.lits]
      rw [e]; exact r2)
    refine ⟨_, v', this, ag, (o5.mono fun k hk => ?_).setCell (.inl ?_) _⟩
    · unfold T3; rcases hk with hk | hk <;> rw [hk] <;> simp
    · unfold T3; rw [H.tb]; simp
  have HFin := Lib.hid hfin
  have HPC := Lib.hid hpc
  have HRow := Lib.hid hrow
  have HRl := Lib.hid hrl
  have hOa : ∀ (u0 u1 u2 : Value), Only (fun k => g k = (32, 0)) w (((w.setCell ⟨ga, m * 3, none⟩ u0).setCell ⟨ga, m * 3 + 1, none⟩ u1).setCell ⟨ga, m * 3 + 2, none⟩ u2) := fun u0 u1 u2 =>
    (((Only.refl _ w).setCell (.inl hta) _).setCell (.inl hta) _).setCell (.inl hta) _
  have HOa := Lib.hid hOa
  clear hfin hpc hrow hrl hOa hv hvl hvL hva H hg
  have ewl : IntKind.i64.wrap (-l) = -l := IntWalk.i64_in _ (by omega)
  have hm : max l (-l) = (m : Int) + 1 := by omega
  have ewm : IntKind.i64.wrap ((m : Int) + 1 - 1) = m := by rw [IntWalk.i64_in _ (by omega)]; omega
  generalize (atomOf T.ents (m + 1)).1 = y0 at *
  generalize (atomOf T.ents (m + 1)).2.1 = y1 at *
  generalize (atomOf T.ents (m + 1)).2.2 = y2 at *
  generalize T.levels.length = lv at *
  have elb : T.ents.length + 1 ≤ 1099511627776 := by omega
  have HMM := Lib.hid hmm
  have HL := Lib.hid hl
  clear e0 e1 e2 hel hmm hl
  have hne' : b ≠ ga := fun e => hne e.symm
  by_cases hneg : l < 0
  · have d1 : decide (l < 0) = true := decide_eq_true hneg
    have hAt := HPC.out (-1) (by rw [if_pos hneg])
    have hrz := ((((HRow.out.store (m * 3) (cI 1)).store (m * 3 + 1) (cN lv)).store (m * 3 + 2) (cI r)).store (m * 3) (cI (-1)))
    rw [List.set_comm (i := m * 3 + 2) (j := m * 3) _ _ (by omega), List.set_comm (i := m * 3 + 1) (j := m * 3) _ _ (by omega), List.set_set] at hrz
    rw [hAt] at hrz
    have hOA := (HOa.out (cI 1) (cN lv) (cI r)).setCell (p := ⟨ga, m * 3, none⟩) (.inl hta) (cI (-1))
    have hrl := HRl.out.keep hOA (fun k hk hF => by rw [hk] at hF; simp at hF) (Agree.refl _ _)
    have HRZ := Lib.hid hrz
    have HOA := Lib.hid hOA
    have HRl2 := Lib.hid hrl
    clear hAt hrz hOA hrl HPC HOa
    go_enter Try.func74, Try.ntmps74
    go_wp2_with (at_builtin; go_must (refine Row.app (u := .int .i64 l) slInt rfl (.tmp 41) (.tmp 43) rfl rfl rfl (cell_newE _ _ _ _ (by simp [World.setCell])) rfl (by exact Row.alloc HRl2.out _) (by simp [lits_len]; omega) (by decide) ?hK1))
    case hK1 =>
      intro v5 w5 r5 o5
      obtain ⟨b5, c5, rfl, -, -, -, -⟩ := r5.pos (by simp)
      have hz := HFin.out _ w5 _ _ o5 (by simp [World.setCell]) r5 (HRZ.out.alloc _) (HOA.out.alloc _)
      have hl5 : (T.lits.map cI ++ [Value.int .i64 l]).length = T.ents.length + 1 := by simp [lits_len]
      rw [hl5] at hz ⊢
      have p4 : w5.cell? ⟨b, 4, none⟩ = some (.slice al T.ents.length cl) := by
        have h1 := cell_keep q4 (HOA.out.alloc (.cells #[.int .i64 l] 3)) (by rw [htb]; simp)
        exact cell_keep h1 o5 (by rw [htb]; simp)
      have p5 : w5.frozen? ⟨b, 4, none⟩ = false := by
        have h1 := cell_keep q4 (HOA.out.alloc (.cells #[.int .i64 l] 3)) (by rw [htb]; simp)
        exact free_keep h1 (free_keep q4 fr4 (HOA.out.alloc _) (by rw [htb]; simp)) o5 (by rw [htb]; simp)
      have HZ := Lib.hid hz
      clear hz r5 o5 HRZ HOA HRl2 HFin HRl HRow
      go_wp2_with fail
      go_end0
      exact ⟨rfl, HZ.out⟩
  · have d1 : decide (l < 0) = false := decide_eq_false hneg
    have hAt := HPC.out 1 (by rw [if_neg hneg])
    have hrz := (((HRow.out.store (m * 3) (cI 1)).store (m * 3 + 1) (cN lv)).store (m * 3 + 2) (cI r))
    rw [hAt] at hrz
    have hOA := HOa.out (cI 1) (cN lv) (cI r)
    have hrl := HRl.out.keep hOA (fun k hk hF => by rw [hk] at hF; simp at hF) (Agree.refl _ _)
    have HRZ := Lib.hid hrz
    have HOA := Lib.hid hOA
    have HRl2 := Lib.hid hrl
    clear hAt hrz hOA hrl HPC HOa
    go_enter Try.func74, Try.ntmps74
    go_wp2_with (at_builtin; go_must (refine Row.app (u := .int .i64 l) slInt rfl (.tmp 41) (.tmp 43) rfl rfl rfl (cell_newE _ _ _ _ (by simp [World.setCell])) rfl (by exact Row.alloc HRl2.out _) (by simp [lits_len]; omega) (by decide) ?hK1))
    case hK1 =>
      intro v5 w5 r5 o5
      obtain ⟨b5, c5, rfl, -, -, -, -⟩ := r5.pos (by simp)
      have hz := HFin.out _ w5 _ _ o5 (by simp [World.setCell]) r5 (HRZ.out.alloc _) (HOA.out.alloc _)
      have hl5 : (T.lits.map cI ++ [Value.int .i64 l]).length = T.ents.length + 1 := by simp [lits_len]
      rw [hl5] at hz ⊢
      have p4 : w5.cell? ⟨b, 4, none⟩ = some (.slice al T.ents.length cl) := by
        have h1 := cell_keep q4 (HOA.out.alloc (.cells #[.int .i64 l] 3)) (by rw [htb]; simp)
        exact cell_keep h1 o5 (by rw [htb]; simp)
      have p5 : w5.frozen? ⟨b, 4, none⟩ = false := by
        have h1 := cell_keep q4 (HOA.out.alloc (.cells #[.int .i64 l] 3)) (by rw [htb]; simp)
        exact free_keep h1 (free_keep q4 fr4 (HOA.out.alloc _) (by rw [htb]; simp)) o5 (by rw [htb]; simp)
      have HZ := Lib.hid hz
      clear hz r5 o5 HRZ HOA HRl2 HFin HRl HRow
      go_wp2_with fail
      go_end0
      exact ⟨rfl, HZ.out⟩
end
end Go.Proofs.Ytjbfgafkjejdjaa
