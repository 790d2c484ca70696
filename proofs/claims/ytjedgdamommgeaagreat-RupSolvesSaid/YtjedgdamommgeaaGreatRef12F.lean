/- The walk of cooperref12.Form: it is the form that package cnf makes. -/
import Derived.Test.YtjedgdamommgeaaGreatCnfA
import Derived.Test.YtjedgdamommgeaaGreatBase
import Derived.Deep.CutBlock
import Derived.Deep.DeepCutAuto
set_option linter.unusedVariables false
namespace Go.Proofs.YtjedgdamommgeaaGreat
open Go.RowKit
namespace Cnf
structure Gath (xs o : List Int) : Prop where
 lit : ∀ x ∈ xs, Lit x
 ord : AbsStrict o
 mem : ∀ y, y ∈ o ↔ y ∈ xs
def Less (o : List Int) (x : Int) (k : Nat) : Prop := k ≤ o.length ∧ ∀ j, j < k → (o.getD j 0).natAbs < x.natAbs
theorem Gath.same {xs o : List Int} {x : Int} (G : Gath xs o) (hx : Lit x) (hm : x ∈ o) : Gath (xs ++ [x]) o := by
 refine ⟨fun y hy => ?_, G.ord, fun y => ?_⟩
 ·rcases List.mem_append.1 hy with h | h
  ·exact G.lit y h
  ·simp at h; subst h; exact hx
 ·rw [G.mem, List.mem_append]
  simp only [List.mem_singleton]
  exact ⟨.inl, fun h => h.elim id (fun e => by subst e; exact (G.mem _).1 hm)⟩
theorem Gath.put {xs o : List Int} {x : Int} (G : Gath xs o) (hx : Lit x) {k : Nat} (hL : Less o x k) (hk : k < o.length → x.natAbs < (o.getD k 0).natAbs) : Gath (xs ++ [x]) (o.take k ++ [x] ++ o.drop k) := by
 have hsplit : ∀ y, y ∈ o ↔ y ∈ o.take k ∨ y ∈ o.drop k := fun y => by rw [← List.mem_append, List.take_append_drop]
 refine ⟨fun y hy => ?_, ?_, fun y => ?_⟩
 ·rcases List.mem_append.1 hy with h | h
  ·exact G.lit y h
  ·simp at h; subst h; exact hx
 ·have hP := G.ord
  unfold AbsStrict at *
  have h1 : ∀ y ∈ o.take k, y.natAbs < x.natAbs := by
   intro y hy
   obtain ⟨j, hj, rfl⟩ := List.getElem_of_mem hy
   have hj' : j < k := by simp at hj; omega
   have := hL.2 j hj'
   have hlen := hL.1
   simpa [List.getD_eq_getElem?_getD, show j < o.length by omega] using this
  have h2 : ∀ y ∈ o.drop k, x.natAbs < y.natAbs := by
   intro y hy
   obtain ⟨j, hj, rfl⟩ := List.getElem_of_mem hy
   simp at hj
   have hk1 : k < o.length := by omega
   have h3 := hk hk1
   have e : o.getD k 0 = o[k] := by simp [List.getD_eq_getElem?_getD, hk1]
   rw [e] at h3
   rw [List.getElem_drop]
   rcases Nat.eq_zero_or_pos j with rfl | hj0
   ·simpa using h3
   ·have := (List.pairwise_iff_getElem.1 hP) k (k + j) hk1 (by omega) (by omega)
    omega
  rw [List.append_assoc, List.pairwise_append]
  refine ⟨hP.sublist (List.take_sublist _ _), ?_, ?_⟩
  ·rw [List.singleton_append, List.pairwise_cons]
   exact ⟨h2, hP.sublist (List.drop_sublist _ _)⟩
  ·intro a ha b hb
   rw [List.singleton_append, List.mem_cons] at hb
   rcases hb with rfl | hb
   ·exact h1 a ha
   ·have := h1 a ha; have := h2 b hb; omega
 ·rw [List.mem_append, List.mem_append, List.mem_append, List.mem_singleton, ← G.mem, hsplit]
  constructor
  ·rintro ((h | h) | h)
   ·exact .inl (.inl h)
   ·exact .inr h
   ·exact .inl (.inr h)
  ·rintro ((h | h) | h)
   ·exact .inl (.inl h)
   ·exact .inr h
   ·exact .inl (.inr h)
theorem natAbs_eq {x y : Int} (h1 : ¬ y.natAbs < x.natAbs) (h2 : y ≠ -x) (h3 : y ≠ x) : x.natAbs < y.natAbs := by omega
end Cnf
def RFormPost (w : World) (xs : List Int) (e : Ending) (w' : World) : Prop :=
 match Cnf.form xs with
 | none => ∃ v, e = .returned (.tuple #[v, .bool false]) ∧ w'.ownsRow 0 3 1 v 0 [] ∧ (∀ k, v.ownBlock = some k → w.heap.size ≤ k) ∧ Only (fun _ => False) w w'
 | some l => ∃ v, e = .returned (.tuple #[v, .bool true]) ∧ w'.ownsRow 0 3 1 v l.length (l.map cI) ∧ (∀ k, v.ownBlock = some k → w.heap.size ≤ k) ∧ Only (fun _ => False) w w'
set_option maxHeartbeats 3200000 in
set_option maxRecDepth 100000 in
theorem RForm_any {w : World} {v : Value} {xs : List Int} (hI : Ints w v xs) (hb : xs.length ≤ 1099511627) :
  Calls Tryz.prog 32 #[v] w (RFormPost w xs) := by
 obtain ⟨ao, cap, rfl, hl, hm⟩ := hI.shape
 go_enter Tryz.func32, Tryz.ntmps32
 go_wp2_with fail
 go_loopw [4, 11] (fun vo v wr => ∃ (k g c0 : Nat) (o : List Int), v = .int .i64 k ∧ k ≤ xs.length ∧ vo = .slice (some ⟨g, 0, none⟩) o.length c0 ∧ o.length ≤ k ∧ Cnf.Gath (xs.take k) o ∧ wr.ownsRow 0 3 1 (.slice (some ⟨g, 0, none⟩) o.length c0) o.length (o.map cI) ∧ w.heap.size ≤ g ∧ Only (fun _ => False) w wr) (fun _ v _ => xs.length - (intOf v).toNat)
 case atStart =>
  refine ⟨0, w.heap.size, 0, [], rfl, Nat.zero_le _, rfl, Nat.le_refl _, ⟨by simp, by simp [Cnf.AbsStrict], by simp⟩, own_lit0 w, Nat.le_refl _, (Only.refl _ _).alloc _⟩
 case round =>
  obtain ⟨k, g, c0, o, rfl, hk, rfl, hok, G1, R1, hg, O1⟩ := hrel
  by_cases c : k < xs.length
  ·obtain ⟨b, off, rfl, hbb, hc⟩ := (hI.only0 O1).cells _ _ _ rfl (by omega)
   have hcell := hc k c
   have hts := take_snocI xs k c
   have hmem : xs.getD k 0 ∈ xs := by rw [List.getD_eq_getElem?_getD, List.getElem?_eq_getElem c]; exact List.getElem_mem c
   have hr := hI.range' k
   clear hc
   generalize hx : xs.getD k 0 = x at *
   have HX := Lib.hid hx
   have HTS := Lib.hid hts
   clear hx hts
   cases hw : Cnf.wr x
   ·have hLit : Cnf.Lit x := ⟨hr, hw⟩
    have HW := Lib.hid hw
    clear hw
    go_wp2_with fail
    refine (None_any x hr false HW.out).mono ?_
    rintro e w' ⟨rfl, rfl⟩
    have hoL : ∀ i, i < o.length → Cnf.Lit (o.getD i 0) := fun i hi => G1.lit _ ((G1.mem _).1 (by rw [List.getD_eq_getElem?_getD, List.getElem?_eq_getElem hi]; exact List.getElem_mem hi))
    have HOL := Lib.hid hoL
    clear hoL
    go_upto_block 2 with fail
    go_cut [6] (fun v wx => ∃ j : Nat, v = .int .i64 j ∧ Cnf.Less o x j ∧ (j < o.length → ¬ (o.getD j 0).natAbs < x.natAbs) ∧ wx.ownsRow 0 3 1 (.slice (some ⟨g, 0, none⟩) o.length c0) o.length (o.map cI) ∧ Only (fun _ => False) w wx)
    case first =>
     go_wp2_with fail
     go_loopw [6] (fun v wr => ∃ j : Nat, v = .int .i64 j ∧ j ≤ o.length ∧ Cnf.Less o x j ∧ wr.ownsRow 0 3 1 (.slice (some ⟨g, 0, none⟩) o.length c0) o.length (o.map cI) ∧ Only (fun _ => False) w wr) (fun v _ => o.length - (intOf v).toNat)
     case atStart => exact ⟨0, rfl, Nat.zero_le _, ⟨Nat.zero_le _, fun j hj => by omega⟩, R1, O1⟩
     case round =>
      clear R1 O1 hcell
      obtain ⟨j, rfl, hj, hL, R2, O2⟩ := hrel
      have HL := Lib.hid hL
      clear hL
      by_cases cj : j < o.length
      ·obtain ⟨b', off', he, _, hc'⟩ := (hI.only0 O2).cells _ _ _ rfl (by omega)
       simp only [Option.some.injEq, Addr.mk.injEq, and_true] at he
       obtain ⟨rfl, rfl⟩ := he
       have q1 := hc' k c
       rw [HX.out] at q1
       have q2 : wr.cell? ⟨g, j, none⟩ = some (.int .i64 (o.getD j 0)) := row_cell' R2 cj
       have hy := HOL.out j cj
       have e1 : (j : Int) < (o.length : Int) := by omega
       have e2 : (k : Int) < (xs.length : Int) := by omega
       have e3 : decide ((j : Int) < (o.length : Int)) = true := decide_eq_true e1
       clear hc'
       have ax := fun W => (Atom_any (w := W) x hr HW.out).mono fun _ _ h => (⟨h.1, h.2.symm⟩ : _ ∧ _ = W)
       have ay := fun W => (Atom_any (w := W) (o.getD j 0) hy.r hy.w).mono fun _ _ h => (⟨h.1, h.2.symm⟩ : _ ∧ _ = W)
       have HAX := Lib.hid ax
       have HAY := Lib.hid ay
       clear ax ay
       generalize hyy : o.getD j 0 = y at *
       have HYY := Lib.hid hyy
       clear hyy
       by_cases hlt : y.natAbs < x.natAbs
       ·have e4 : decide (y.natAbs < x.natAbs) = true := decide_eq_true hlt
        generalize hxa : x.natAbs = xa at *
        generalize hya : y.natAbs = ya at *
        have HXA := Lib.hid hxa
        have HYA := Lib.hid hya
        clear hxa hya
        go_wp2_with fail
        go_quiet (first
         | (go_at_call_of 12 (Value.int IntKind.i64 y); exact Calls.quiet_of_same (HAY.out _))
         | (go_at_call_of 12 (Value.int IntKind.i64 x); exact Calls.quiet_of_same (HAX.out _)))
        go_wp2_with fail
        go_roundw
        case rel =>
         refine ⟨j + 1, by go_num, by omega, ⟨by omega, fun i hi => ?_⟩, R2, O2.drewN _⟩
         rcases Nat.lt_or_ge i j with h1 | h1
         ·exact HL.out.2 i h1
         ·rw [show i = j by omega, HYY.out, HXA.out, HYA.out]; exact hlt
        case measure => simp [intOf]; omega
       ·have e4 : decide (y.natAbs < x.natAbs) = false := decide_eq_false hlt
        generalize hxa : x.natAbs = xa at *
        generalize hya : y.natAbs = ya at *
        have HXA := Lib.hid hxa
        have HYA := Lib.hid hya
        clear hxa hya
        go_wp2_with fail
        go_quiet (first
         | (go_at_call_of 12 (Value.int IntKind.i64 y); exact Calls.quiet_of_same (HAY.out _))
         | (go_at_call_of 12 (Value.int IntKind.i64 x); exact Calls.quiet_of_same (HAX.out _)))
        go_wp2_with fail
        go_meet
        exact ⟨j, rfl, HL.out, fun _ => by rw [HYY.out, HYA.out]; exact hlt, R2, O2.drewN _⟩
      ·have e1 : decide ((j : Int) < (o.length : Int)) = false := decide_eq_false (by omega)
       go_wp2_with fail
       go_quiet (fail)
       go_wp2_with fail
       go_meet
       exact ⟨j, rfl, HL.out, fun h => absurd h cj, R2, O2.drewN _⟩
    case rest =>
     clear R1 O1 hcell
     obtain ⟨j, rfl, hL, hN, R2, O2⟩ := hcut
     have HL := Lib.hid hL
     have HN := Lib.hid hN
     clear hL hN
     obtain ⟨b', off', he, hbb', hc'⟩ := (hI.only0 O2).cells _ _ _ rfl (by omega)
     simp only [Option.some.injEq, Addr.mk.injEq, and_true] at he
     obtain ⟨rfl, rfl⟩ := he
     have q1 := hc' k c
     rw [HX.out] at q1
     have e2 : (k : Int) < (xs.length : Int) := by omega
     obtain ⟨nx, hnx0⟩ : ∃ nx, nx = -x := ⟨_, rfl⟩
     have hnx : IntKind.i64.wrap (-x) = nx := by rw [hnx0]; exact hLit.wrap
     have HNX := Lib.hid hnx0
     clear hnx0
     clear hc'
     by_cases cj : j < o.length
     ·have q2 : wc.cell? ⟨g, j, none⟩ = some (.int .i64 (o.getD j 0)) := row_cell' R2 cj
      have e1 : (j : Int) < (o.length : Int) := by omega
      have e3 : decide ((j : Int) < (o.length : Int)) = true := decide_eq_true e1
      have hmo : o.getD j 0 ∈ o := by rw [List.getD_eq_getElem?_getD, List.getElem?_eq_getElem cj]; exact List.getElem_mem cj
      by_cases y1 : o.getD j 0 = nx
      ·have hform : Cnf.form xs = none := by
        refine Cnf.form_opp hI.range hmem ?_
        have := (G1.mem _).1 hmo
        rw [y1, HNX.out] at this
        exact List.mem_of_mem_take this
       have HF := Lib.hid hform
       clear hform
       have e4 : (o.getD j 0 == nx) = true := beq_iff_eq.2 y1
       have Y1 := Lib.hid y1
       clear y1 hmo
       generalize o.getD j 0 = y at *
       go_wp2_with fail
       go_quiet (fail)
       go_wp2_with fail
       go_ret2
       unfold RFormPost
       rw [HF.out]
       exact ⟨_, rfl, own_lit0 _, fun k hk => by simp [Value.ownBlock] at hk; have := O2.size; simp at hk ⊢; omega, (O2.drewN _).alloc _⟩
      ·by_cases y2 : o.getD j 0 = x
       ·have hgr := G1.same hLit (by rw [← y2]; exact hmo)
        rw [← HTS.out] at hgr
        have HG := Lib.hid hgr
        have e4 : (o.getD j 0 == nx) = false := beq_eq_false_iff_ne.2 y1
        have e5 : (o.getD j 0 == x) = true := beq_iff_eq.2 y2
        clear hgr y1 y2 hmo
        generalize o.getD j 0 = y at *
        go_wp2_with fail
        go_quiet (fail)
        go_wp2_with fail
        go_quiet (fail)
        go_wp2_with fail
        go_roundw
        case rel => exact ⟨k + 1, g, c0, o, by go_num, by omega, rfl, by omega, HG.out, R2, hg, O2.drewN _⟩
        case measure => simp [intOf]; omega
       ·have hK : j < o.length → x.natAbs < (o.getD j 0).natAbs := fun h => Cnf.natAbs_eq (HN.out h) (by rw [← HNX.out]; exact y1) y2
        have hgr := G1.put hLit HL.out hK
        rw [← HTS.out] at hgr
        have HG := Lib.hid hgr
        clear hgr
        have e4 : (o.getD j 0 == nx) = false := beq_eq_false_iff_ne.2 y1
        have e5 : (o.getD j 0 == x) = false := beq_eq_false_iff_ne.2 y2
        clear y1 y2 hmo hK
        generalize hyy : o.getD j 0 = y at *
        clear hyy
        go_wp2_with fail
        go_quiet (fail)
        go_wp2_with fail
        go_quiet (fail)
        have hjl := HL.out.1
        have hlt2 := own_lt R2 (k := g) rfl
        obtain ⟨_, _, hec, hoc, _⟩ := own_slice R2
        simp only [Value.slice.injEq] at hec
        obtain ⟨-, -, rfl⟩ := hec
        go_wp2_with (at_builtin; go_must (refine wpAS slInt (n := 0) (v := .slice (some ⟨wc.heap.size, 0, none⟩) 0 0) (xs := []) (ao := some ⟨g, 0, none⟩) (m := j) (c := c0) (news := (o.take j).map cI) rfl (.tmp 72) (.tmp 75) rfl rfl ?aown rfl ?al (by simp) ?anews (ints_one _) (by omega) (by omega) ?aK))
        case aown => exact own_lit0 wc
        case al => simp; omega
        case anews =>
         intro ad had t u hu
         obtain rfl := Option.some.inj had
         have htj : t < j := by
          have := (List.getElem?_eq_some_iff.1 hu).1
          simp at this; omega
         show (wc.alloc (.cells #[] 3)).cell? _ = _
         rw [Go.WideShapes.add_plain, Nat.zero_add, World.cell?_alloc_past _ _ _ hlt2, row_cell' R2 (by omega), ← hu]
         simp [List.getD_eq_getElem?_getD, htj, show t < o.length by omega, cI]
        case aK =>
         intro v3 w3 R3 O3 N3
         have R3b : w3.ownsRow 0 3 1 v3 j ((o.take j).map cI) := by simpa using R3
         have hn3 : ∀ k, v3.ownBlock = some k → wc.heap.size ≤ k := by
          intro k hk
          rcases N3 k hk with h | h
          ·simp [Value.ownBlock] at h; omega
          ·simp at h; omega
         have OW3 : Only (fun _ => False) wc w3 := Only.trans (by first | exact ((Only.refl _ wc).alloc _).drewN _ | exact ((Only.refl _ wc).drewN _).alloc _) O3 (fun i hi => by simp [Value.ownBlock] at hi; exact .inr (by omega))
         have R2c := own_only R2 OW3 (fun _ _ f => f)
         have q3 := q1
         rw [← World.cell?_of_block (w := wc) (OW3.block b hbb' (fun f => f))] at q3
         obtain ⟨a3, c3, rfl, _, _⟩ := own_slice R3b
         have hlt3 := own_lt R2c (k := g) rfl
         clear R3 O3 N3 q1
         go_wp2_with (at_builtin; go_must (refine wpA1 slInt (u := .int .i64 x) (n := j) (v := .slice a3 j c3) (xs := (o.take j).map cI) rfl (.tmp 77) (.tmp 82) rfl rfl rfl ?bc rfl ?bown (by omega) (by omega) ?bK))
         case bc => exact cell_new0 w3 _ _
         case bown => exact R3b.alloc _
         case bK =>
          intro v4 w4 R4 O4 S4
          have R4b : w4.ownsRow 0 3 1 v4 (j + 1) ((o.take j ++ [x]).map cI) := by simpa [cI] using R4
          obtain ⟨g4, c4, rfl, _, _, h4⟩ := S4
          have hn4 : wc.heap.size ≤ g4 := by
           rcases h4 with h | h
           ·exact hn3 _ h
           ·have := OW3.size; simp at h; omega
          have OW4 : Only (fun _ => False) wc w4 := (OW3.alloc _).trans O4 fun i hi => .inr (hn3 i hi)
          have R2d := own_only R2 OW4 (fun _ _ f => f)
          have hlt4 := own_lt R2d (k := g) rfl
          clear R4 O4 h4 q3
          go_wp2_with (at_builtin; go_must (refine wpAS slInt (n := j + 1) (v := .slice (some ⟨g4, 0, none⟩) (j + 1) c4) (xs := (o.take j ++ [x]).map cI) (ao := some ⟨g, j, none⟩) (m := o.length - j) (c := c0 - j) (news := (o.drop j).map cI) rfl (.tmp 84) (.tmp 87) rfl rfl ?cown rfl ?cl (by simp) ?cnews (ints_one _) (by omega) (by omega) ?cK))
          case cown => exact R4b
          case cl => simp
          case cnews =>
           intro ad had t u hu
           obtain rfl := Option.some.inj had
           have htj : t < o.length - j := by
            have := (List.getElem?_eq_some_iff.1 hu).1
            simpa using this
           rw [Go.WideShapes.add_plain, row_cell' R2d (by omega), ← hu]
           simp [List.getD_eq_getElem?_getD, show j + t < o.length by omega, cI]
          case cK =>
           intro v5 w5 R5 O5 N5
           have hle : j + 1 + (o.length - j) = (o.take j ++ [x] ++ o.drop j).length := by simp; omega
           have R5b : w5.ownsRow 0 3 1 v5 (o.take j ++ [x] ++ o.drop j).length ((o.take j ++ [x] ++ o.drop j).map cI) := by rw [← hle]; simpa using R5
           have hn5 : ∀ k, v5.ownBlock = some k → wc.heap.size ≤ k := by
            intro k hk
            rcases N5 k hk with h | h
            ·simp [Value.ownBlock] at h; omega
            ·have := OW4.size; omega
           have OW5 : Only (fun _ => False) w w5 := (O2.same OW4).trans O5 fun i hi => by simp [Value.ownBlock] at hi; have := O2.size; exact .inr (by omega)
           obtain ⟨g5, c5, rfl, _, _⟩ := own_some R5b (by simp; omega)
           have hlen5 : (o.take j ++ [x] ++ o.drop j).length ≤ k + 1 := by simp; omega
           have hn6 := hn5 g5 rfl
           clear R5 O5 N5 hn5
           go_wp2_with fail
           go_roundw
           case rel => exact ⟨k + 1, g5, c5, _, by go_num, by omega, rfl, hlen5, HG.out, R5b, by have := O2.size; omega, OW5⟩
           case measure => simp [intOf]; omega
     ·have e1 : decide ((j : Int) < (o.length : Int)) = false := decide_eq_false (by omega)
      go_wp2_with fail
      go_quiet (fail)
      go_wp2_with fail
      go_quiet (fail)
      have hK : j < o.length → x.natAbs < (o.getD j 0).natAbs := fun h => absurd h cj
      have hgr := G1.put hLit HL.out hK
      rw [← HTS.out] at hgr
      have HG := Lib.hid hgr
      clear hK hgr
      have hjl := HL.out.1
      have hlt2 := own_lt R2 (k := g) rfl
      obtain ⟨_, _, hec, hoc, _⟩ := own_slice R2
      simp only [Value.slice.injEq] at hec
      obtain ⟨-, -, rfl⟩ := hec
      go_wp2_with (at_builtin; go_must (refine wpAS slInt (n := 0) (v := .slice (some ⟨wc.heap.size, 0, none⟩) 0 0) (xs := []) (ao := some ⟨g, 0, none⟩) (m := j) (c := c0) (news := (o.take j).map cI) rfl (.tmp 72) (.tmp 75) rfl rfl ?aown rfl ?al (by simp) ?anews (ints_one _) (by omega) (by omega) ?aK))
      case aown => exact own_lit0 wc
      case al => simp; omega
      case anews =>
       intro ad had t u hu
       obtain rfl := Option.some.inj had
       have htj : t < j := by
        have := (List.getElem?_eq_some_iff.1 hu).1
        simp at this; omega
       show (wc.alloc (.cells #[] 3)).cell? _ = _
       rw [Go.WideShapes.add_plain, Nat.zero_add, World.cell?_alloc_past _ _ _ hlt2, row_cell' R2 (by omega), ← hu]
       simp [List.getD_eq_getElem?_getD, htj, show t < o.length by omega, cI]
      case aK =>
       intro v3 w3 R3 O3 N3
       have R3b : w3.ownsRow 0 3 1 v3 j ((o.take j).map cI) := by simpa using R3
       have hn3 : ∀ k, v3.ownBlock = some k → wc.heap.size ≤ k := by
        intro k hk
        rcases N3 k hk with h | h
        ·simp [Value.ownBlock] at h; omega
        ·simp at h; omega
       have OW3 : Only (fun _ => False) wc w3 := Only.trans (by first | exact ((Only.refl _ wc).alloc _).drewN _ | exact ((Only.refl _ wc).drewN _).alloc _) O3 (fun i hi => by simp [Value.ownBlock] at hi; exact .inr (by omega))
       have R2c := own_only R2 OW3 (fun _ _ f => f)
       have q3 := q1
       rw [← World.cell?_of_block (w := wc) (OW3.block b hbb' (fun f => f))] at q3
       obtain ⟨a3, c3, rfl, _, _⟩ := own_slice R3b
       have hlt3 := own_lt R2c (k := g) rfl
       clear R3 O3 N3 q1
       go_wp2_with (at_builtin; go_must (refine wpA1 slInt (u := .int .i64 x) (n := j) (v := .slice a3 j c3) (xs := (o.take j).map cI) rfl (.tmp 77) (.tmp 82) rfl rfl rfl ?bc rfl ?bown (by omega) (by omega) ?bK))
       case bc => exact cell_new0 w3 _ _
       case bown => exact R3b.alloc _
       case bK =>
        intro v4 w4 R4 O4 S4
        have R4b : w4.ownsRow 0 3 1 v4 (j + 1) ((o.take j ++ [x]).map cI) := by simpa [cI] using R4
        obtain ⟨g4, c4, rfl, _, _, h4⟩ := S4
        have hn4 : wc.heap.size ≤ g4 := by
         rcases h4 with h | h
         ·exact hn3 _ h
         ·have := OW3.size; simp at h; omega
        have OW4 : Only (fun _ => False) wc w4 := (OW3.alloc _).trans O4 fun i hi => .inr (hn3 i hi)
        have R2d := own_only R2 OW4 (fun _ _ f => f)
        have hlt4 := own_lt R2d (k := g) rfl
        clear R4 O4 h4 q3
        by_cases hcj : c0 = j
        ·have hjo : j = o.length := by omega
         subst hjo
         subst hcj
         go_wp2_with (at_builtin; go_must (refine wpAS slInt (n := o.length + 1) (v := .slice (some ⟨g4, 0, none⟩) (o.length + 1) c4) (xs := (o.take o.length ++ [x]).map cI) (ao := some ⟨g, 0, none⟩) (m := 0) (c := 0) (news := []) rfl (.tmp 84) (.tmp 87) rfl rfl ?down rfl ?dl (by simp) ?dnews (by simp) (by omega) (by omega) ?dK))
         case down => exact R4b
         case dl => rfl
         case dnews =>
          intro ad had t u hu
          obtain rfl := Option.some.inj had
          simp at hu
         case dK =>
          intro v5 w5 R5 O5 N5
          have hle : o.length + 1 + 0 = (o.take o.length ++ [x] ++ o.drop o.length).length := by simp
          have R5b : w5.ownsRow 0 3 1 v5 (o.take o.length ++ [x] ++ o.drop o.length).length ((o.take o.length ++ [x] ++ o.drop o.length).map cI) := by rw [← hle]; simpa using R5
          have hn5 : ∀ k, v5.ownBlock = some k → wc.heap.size ≤ k := by
           intro k hk
           rcases N5 k hk with h | h
           ·simp [Value.ownBlock] at h; omega
           ·have := OW4.size; omega
          have OW5 : Only (fun _ => False) w w5 := (O2.same OW4).trans O5 fun i hi => by simp [Value.ownBlock] at hi; have := O2.size; exact .inr (by omega)
          obtain ⟨g5, c5, rfl, _, _⟩ := own_some R5b (by simp)
          have hlen5 : (o.take o.length ++ [x] ++ o.drop o.length).length ≤ k + 1 := by simp; omega
          have hn6 := hn5 g5 rfl
          clear R5 O5 N5 hn5
          go_wp2_with fail
          go_roundw
          case rel => exact ⟨k + 1, g5, c5, _, by go_num, by omega, rfl, hlen5, HG.out, R5b, by have := O2.size; omega, OW5⟩
          case measure => simp [intOf]; omega
        ·go_wp2_with (at_builtin; go_must (refine wpAS slInt (n := j + 1) (v := .slice (some ⟨g4, 0, none⟩) (j + 1) c4) (xs := (o.take j ++ [x]).map cI) (ao := some ⟨g, j, none⟩) (m := o.length - j) (c := c0 - j) (news := (o.drop j).map cI) rfl (.tmp 84) (.tmp 87) rfl rfl ?cown rfl ?cl (by simp) ?cnews (ints_one _) (by omega) (by omega) ?cK))
         case cown => exact R4b
         case cl => simp
         case cnews =>
          intro ad had t u hu
          obtain rfl := Option.some.inj had
          have htj : t < o.length - j := by
           have := (List.getElem?_eq_some_iff.1 hu).1
           simpa using this
          rw [Go.WideShapes.add_plain, row_cell' R2d (by omega), ← hu]
          simp [List.getD_eq_getElem?_getD, show j + t < o.length by omega, cI]
         case cK =>
          intro v5 w5 R5 O5 N5
          have hle : j + 1 + (o.length - j) = (o.take j ++ [x] ++ o.drop j).length := by simp; omega
          have R5b : w5.ownsRow 0 3 1 v5 (o.take j ++ [x] ++ o.drop j).length ((o.take j ++ [x] ++ o.drop j).map cI) := by rw [← hle]; simpa using R5
          have hn5 : ∀ k, v5.ownBlock = some k → wc.heap.size ≤ k := by
           intro k hk
           rcases N5 k hk with h | h
           ·simp [Value.ownBlock] at h; omega
           ·have := OW4.size; omega
          have OW5 : Only (fun _ => False) w w5 := (O2.same OW4).trans O5 fun i hi => by simp [Value.ownBlock] at hi; have := O2.size; exact .inr (by omega)
          obtain ⟨g5, c5, rfl, _, _⟩ := own_some R5b (by simp; omega)
          have hlen5 : (o.take j ++ [x] ++ o.drop j).length ≤ k + 1 := by simp; omega
          have hn6 := hn5 g5 rfl
          clear R5 O5 N5 hn5
          go_wp2_with fail
          go_roundw
          case rel => exact ⟨k + 1, g5, c5, _, by go_num, by omega, rfl, hlen5, HG.out, R5b, by have := O2.size; omega, OW5⟩
          case measure => simp [intOf]; omega
   ·have HW := Lib.hid hw
    clear hw
    have hform := Cnf.form_wrong hmem HW.out
    have HF := Lib.hid hform
    clear hform
    go_wp2_with fail
    refine (None_any x hr true HW.out).mono ?_
    rintro e w' ⟨rfl, rfl⟩
    go_wp2_with fail
    go_ret2
    unfold RFormPost
    rw [HF.out]
    exact ⟨_, rfl, own_lit0 wr, fun k hk => by simp [Value.ownBlock] at hk; have := O1.size; omega, O1.alloc _⟩
  ·have hk' : k = xs.length := by omega
   subst hk'
   have hform : Cnf.form xs = some o := by
    have := G1
    rw [List.take_length] at this
    exact Cnf.form_some this.lit this.ord this.mem
   have HF := Lib.hid hform
   clear hform
   go_wp2_with fail
   go_ret2
   unfold RFormPost
   rw [HF.out]
   exact ⟨_, rfl, R1, fun k hk => by simp [Value.ownBlock] at hk; omega, O1⟩
end Go.Proofs.YtjedgdamommgeaaGreat
