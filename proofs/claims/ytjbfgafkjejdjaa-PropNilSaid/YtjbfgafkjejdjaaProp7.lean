/- The walk of (*prop.Trail).rewatch. (Printed by gen_prop7.py.) -/
import Derived.Test.YtjbfgafkjejdjaaProp6
import Derived.Test.YtjbfgafkjejdjaaPropP5
namespace Go.Proofs.Ytjbfgafkjejdjaa
open Go.RowKit
open Tr

namespace Tr
theorem best_drop (T : Trail) {c : List Int} {k : Nat} (h : k < c.length) (b : Nat) : T.best c ((List.range c.length).drop k) b = T.best c ((List.range c.length).drop (k + 1)) (if T.rank (c.getD b 0) < T.rank (c.getD k 0) then k else b) := by
  rw [range_dropP h, Trail.best]
theorem best_end (T : Trail) {c : List Int} {k : Nat} (h : c.length ≤ k) (b : Nat) : T.best c ((List.range c.length).drop k) b = b := by
  rw [List.drop_of_length_le (by simpa using h), Trail.best]
/-- the first steps of rewatch -/
def Trail.rewTo (T : Trail) (c : List Int) (i : Nat) : List Int := (List.range i).foldl T.rew1 c
theorem rewTo_succ (T : Trail) (c : List Int) (i : Nat) : T.rewTo c (i + 1) = T.rew1 (T.rewTo c i) i := by
  unfold Trail.rewTo; rw [List.range_succ, List.foldl_append]; rfl
theorem rewTo_len (T : Trail) (c : List Int) : ∀ i, (T.rewTo c i).length = c.length
  | 0 => rfl
  | i + 1 => by rw [rewTo_succ, Trail.rew1, swapL_len, rewTo_len T c i]
theorem rewTo_perm (T : Trail) (c : List Int) : ∀ i, i ≤ c.length → (T.rewTo c i).Perm c
  | 0, _ => List.Perm.refl _
  | i + 1, h => by
    rw [rewTo_succ]
    exact (rew1_perm T (by rw [rewTo_len]; omega)).trans (rewTo_perm T c i (by omega))
theorem setC_setC (T : Trail) (k : Nat) (a b : List Int) : (T.setC k a).setC k b = T.setC k b := by simp [Trail.setC]
end Tr

section
variable {w : World} {g : Tag} {b : Nat} {V : TrV} {T : Trail}

set_option maxRecDepth 100000 in
set_option maxHeartbeats 3200000 in
theorem prop_rewatch_any (H : TrAt w g b V T) (o : Ok T) (n : Nat) (hn : n < T.cls.length) :
    Calls Try.prog 97 #[.pointer (some ⟨b, 0, none⟩), cN n] w fun e w' => e = .returned (.tuple #[]) ∧ TrAt w' g b V (T.setC n (T.rewatch (T.cl n))) ∧ Only (fun q => g q = (34, n)) w w' := by
  have hTn := o.n
  have q1 := H.f1
  obtain ⟨bcs, cc, hvc, -, -, -, -⟩ := H.c.pos (by rw [H.ul]; omega)
  have hrc := H.c
  rw [hvc, H.ul] at q1 hrc
  have q2 := hrc.cell nilS (i := n) (by rw [H.ul]; exact hn)
  have hrk := H.ci n hn
  rw [show T.cls.getD n [] = T.cl n from rfl] at hrk
  obtain ⟨au, cu, hvu, hu1, -⟩ := hrk.shape
  simp only [List.length_map] at hvu hu1
  rw [hvu] at q2
  have hcl := o.cll hn
  have hgood := o.cl hn
  have hcb := o.cb
  obtain ⟨c, hc⟩ : ∃ c, T.cl n = c := ⟨_, rfl⟩
  have hstart : TrAt w g b V (T.setC n (T.rewTo c 0)) := by
    show TrAt w g b V (T.setC n c)
    rw [← hc, setC_self]; exact H
  have hrw : T.rewatch (T.cl n) = T.rewTo c (min c.length 2) := by rw [hc]; rfl
  have hbc : 0 < c.length → ∃ bc, au = some ⟨bc, 0, none⟩ ∧ g bc = (34, n) := by
    intro hp
    have hh := hrk
    rw [hc, hvu] at hh
    obtain ⟨bc, _, he, _, _, ht, _⟩ := hh.pos (by simpa using hp)
    simp at he; exact ⟨bc, he.1, ht⟩
  rw [hc] at q2 hvu hu1 hcl hgood
  have HH := Lib.hid H
  have HOk := Lib.hid o
  have HSt := Lib.hid hstart
  have HRw := Lib.hid hrw
  have HBc := Lib.hid hbc
  have HVu := Lib.hid hvu
  have HGood := Lib.hid hgood
  obtain ⟨mm, hmm⟩ : ∃ mm : Nat, mm = min c.length 2 := ⟨_, rfl⟩
  have hmm2 : min (c.length : Int) 2 = (mm : Int) := by omega
  have hmb : mm ≤ 2 ∧ mm ≤ c.length := by omega
  have HMm := Lib.hid hmm
  obtain ⟨hmb1, hmb2⟩ := hmb
  clear H o hstart hrw hbc hrk hrc hvc hgood hmm hvu
  go_enter Try.func97, Try.ntmps97
  go_wp2_with fail
  go_loopw [18] (fun v wr => ∃ i : Nat, v = .int .i64 i ∧ i ≤ mm ∧ TrAt wr g b V (T.setC n (T.rewTo c i)) ∧ Only (fun q => g q = (34, n)) w wr) (fun v _ => mm - (intOf v).toNat)
  case atStart => exact ⟨0, rfl, Nat.zero_le _, HSt.out, Only.refl _ _⟩
  case round =>
    clear HSt q1 q2
    obtain ⟨i, rfl, hi, hT, hO⟩ := hrel
    generalize wr = wo at *
    by_cases ci : i < mm
    · obtain ⟨bc, rfl, htb⟩ := HBc.out (by omega)
      obtain ⟨d, hd⟩ : ∃ d, T.rewTo c i = d := ⟨_, rfl⟩
      have hdl : d.length = c.length := by rw [← hd]; exact rewTo_len T c i
      have hdp : d.Perm c := by rw [← hd]; exact rewTo_perm T c i (by omega)
      have hdg := good_perm HGood.out hdp
      rw [hd] at hT
      have HT := Lib.hid hT
      have hok : Ok (T.setC n d) := HOk.out.setC hdg
      have HOk2 := Lib.hid hok
      have hck : (T.setC n d).cl n = d := by rw [setC_cl hn, if_pos rfl]
      have HCk := Lib.hid hck
      have HD := Lib.hid hd
      have HDg := Lib.hid hdg
      have hrowk : ∀ W, Only (fun _ => False) wo W → Row W g (34, n) 3 (.slice (some ⟨bc, 0, none⟩) c.length cu) (d.map cI) := by
        intro W oW
        have h1 := (HT.out.only0 oW).ci n (by simpa [Trail.setC] using hn)
        rwa [show (T.setC n d).cls.getD n [] = (T.setC n d).cl n from rfl, HCk.out, HVu.out] at h1
      have HRowk := Lib.hid hrowk
      have hrank : ∀ W j, Only (fun _ => False) wo W → j < d.length → Calls Try.prog 109 #[.pointer (some ⟨b, 0, none⟩), .int .i64 (d.getD j 0)] W fun e w' => e = .returned (.int .i64 (T.rank (d.getD j 0))) ∧ Only (fun _ => False) W w' := by
        intro W j oW hj
        exact prop_rank_any (HT.out.only0 oW) HOk2.out _ (hdg.lit _ (getD_mem' 0 hj)) _ rfl
      have HRank := Lib.hid hrank
      clear hT hd hdp hdg hok hck hrowk hrank
      have ewi : IntKind.i64.wrap ((i : Int) + 1) = ((i + 1 : Nat) : Int) := by rw [IntWalk.i64_in _ (by omega)]; rfl
      go_wp2_with fail
      go_loopw [6, 7] (fun v6 v7 W_ => ∃ (bst k : Nat), v6 = .int .i64 bst ∧ v7 = .int .i64 k ∧ i + 1 ≤ k ∧ k ≤ c.length ∧ i ≤ bst ∧ bst < c.length ∧ T.best d ((List.range d.length).drop k) bst = T.bestAt d i ∧ Only (fun _ => False) wo W_) (fun _ v _ => c.length - (intOf v).toNat)
      case atStart => exact ⟨i, i + 1, rfl, rfl, Nat.le_refl _, by omega, Nat.le_refl _, by omega, rfl, Only.refl _ _⟩
      case round =>
        obtain ⟨bst, k, rfl, rfl, k1, k2, b1, b2, hB, oX⟩ := hrel
        by_cases ck : k < c.length
        · have hbd := best_drop T (c := d) (k := k) (by omega) bst
          rw [hB] at hbd
          have HB := Lib.hid hbd
          have hx := (HRowk.out wr oX).cellM (f := cI) 0 (i := k) (by omega)
          have hy := (HRowk.out wr oX).cellM (f := cI) 0 (i := bst) (by omega)
          obtain ⟨x, hxe⟩ : ∃ x, d.getD k 0 = x := ⟨_, rfl⟩
          obtain ⟨y, hye⟩ : ∃ y, d.getD bst 0 = y := ⟨_, rfl⟩
          have rx := fun W oW => HRank.out W k oW (by omega)
          have ry := fun W oW => HRank.out W bst oW (by omega)
          rw [hxe] at hx rx
          rw [hye] at hy ry
          rw [hxe, hye] at HB
          obtain ⟨vx, hvx⟩ : ∃ vx, T.rank x = vx := ⟨_, rfl⟩
          obtain ⟨vy, hvy⟩ : ∃ vy, T.rank y = vy := ⟨_, rfl⟩
          rw [hvx] at rx
          rw [hvy] at ry
          rw [hvx, hvy] at HB
          have HRx := Lib.hid rx
          have HRy := Lib.hid ry
          have hS5 : ∀ w', Only (fun _ => False) wr w' → Only (fun _ => False) wo w' ∧ w'.cell? ⟨bc, k, none⟩ = some (cI x) ∧ w'.cell? ⟨bc, bst, none⟩ = some (cI y) := fun w' h => ⟨oX.same h, cell_keep hx h (fun f => f), cell_keep hy h (fun f => f)⟩
          have HS5 := Lib.hid hS5
          have ewk : IntKind.i64.wrap ((k : Int) + 1) = ((k + 1 : Nat) : Int) := by rw [IntWalk.i64_in _ (by omega)]; rfl
          have kb : (k : Int) < (c.length : Int) := by omega
          have bb : (bst : Int) < (c.length : Int) := by omega
          clear rx ry hxe hye hvx hvy hB hbd hS5
          go_wp2_with fail
          refine wp_region_G (n := 13) (E := fun _ => false) (S := fun w' => Only (fun _ => False) wo w' ∧ w'.cell? ⟨bc, k, none⟩ = some (cI x) ∧ w'.cell? ⟨bc, bst, none⟩ = some (cI y)) (by kernel_rfl) rfl (HS5.out _ ((Only.refl _ _).drew)) (fun hHeld => ?_)
          refine wpAnyG_takeW (i := 0) (v := ?_) rfl (by kernel_rfl) (by kernel_rfl) (by kernel_rfl) rfl (fun _ _ _ h => h) (Or.inr (by assumption)) (by rfl) ?_ ?_
          rotate_left
          · (intro w; go_simp <;> (try with_reducible rfl))
          try simp only [Act.put, List.getElem_toArray, List.getElem_cons_succ, List.getElem_cons_zero, List.setIfInBounds_toArray, List.set_cons_zero, List.set_cons_succ]
          refine wpAnyG_takeW (i := 1) (v := ?_) rfl (by kernel_rfl) (by kernel_rfl) (by kernel_rfl) rfl (fun _ _ _ h => h) (Or.inr (by assumption)) (by rfl) ?_ ?_
          rotate_left
          · (intro w; go_simp <;> (try with_reducible rfl))
          try simp only [Act.put, List.getElem_toArray, List.getElem_cons_succ, List.getElem_cons_zero, List.setIfInBounds_toArray, List.set_cons_zero, List.set_cons_succ]
          refine wpAnyG_takeW (i := 2) (v := ?_) rfl (by kernel_rfl) (by kernel_rfl) (by kernel_rfl) rfl (fun _ _ _ h => h) (Or.inr (by assumption)) (by rfl) ?_ ?_
          rotate_left
          · (intro w; go_simp <;> (try with_reducible rfl))
          try simp only [Act.put, List.getElem_toArray, List.getElem_cons_succ, List.getElem_cons_zero, List.setIfInBounds_toArray, List.set_cons_zero, List.set_cons_succ]
          refine wpAnyG_takeW (i := 3) (v := ?_) rfl (by kernel_rfl) (by kernel_rfl) (by kernel_rfl) rfl (fun _ _ _ h => h) (Or.inr (by assumption)) (by rfl) ?_ ?_
          rotate_left
          · (intro w; go_simp <;> (try with_reducible rfl))
          try simp only [Act.put, List.getElem_toArray, List.getElem_cons_succ, List.getElem_cons_zero, List.setIfInBounds_toArray, List.set_cons_zero, List.set_cons_succ]
          refine wpAnyG_take (i := 4) (v := ?_) rfl (by kernel_rfl) (by kernel_rfl) (by kernel_rfl) rfl (by kernel_rfl) (by kernel_rfl) (fun _ _ _ h => h) (by assumption) (by rfl) ?_ ?_
          rotate_left
          · (intro w hSw; (try dsimp only at hSw); go_simp <;> (try with_reducible rfl))
          try simp only [Act.put, List.getElem_toArray, List.getElem_cons_succ, List.getElem_cons_zero, List.setIfInBounds_toArray, List.set_cons_zero, List.set_cons_succ]
          refine wpAnyG_takeW (i := 6) (v := ?_) rfl (by kernel_rfl) (by kernel_rfl) (by kernel_rfl) rfl (fun _ _ _ h => h) (Or.inr (by assumption)) (by rfl) ?_ ?_
          rotate_left
          · (intro w; go_simp <;> (try with_reducible rfl))
          try simp only [Act.put, List.getElem_toArray, List.getElem_cons_succ, List.getElem_cons_zero, List.setIfInBounds_toArray, List.set_cons_zero, List.set_cons_succ]
          refine wpAnyG_takeW (i := 7) (v := ?_) rfl (by kernel_rfl) (by kernel_rfl) (by kernel_rfl) rfl (fun _ _ _ h => h) (Or.inr (by assumption)) (by rfl) ?_ ?_
          rotate_left
          · (intro w; go_simp <;> (try with_reducible rfl))
          try simp only [Act.put, List.getElem_toArray, List.getElem_cons_succ, List.getElem_cons_zero, List.setIfInBounds_toArray, List.set_cons_zero, List.set_cons_succ]
          refine wpAnyG_takeW (i := 8) (v := ?_) rfl (by kernel_rfl) (by kernel_rfl) (by kernel_rfl) rfl (fun _ _ _ h => h) (Or.inr (by assumption)) (by rfl) ?_ ?_
          rotate_left
          · (intro w; go_simp <;> (try with_reducible rfl))
          try simp only [Act.put, List.getElem_toArray, List.getElem_cons_succ, List.getElem_cons_zero, List.setIfInBounds_toArray, List.set_cons_zero, List.set_cons_succ]
          refine wpAnyG_takeW (i := 9) (v := ?_) rfl (by kernel_rfl) (by kernel_rfl) (by kernel_rfl) rfl (fun _ _ _ h => h) (Or.inr (by assumption)) (by rfl) ?_ ?_
          rotate_left
          · (intro w; go_simp <;> (try with_reducible rfl))
          try simp only [Act.put, List.getElem_toArray, List.getElem_cons_succ, List.getElem_cons_zero, List.setIfInBounds_toArray, List.set_cons_zero, List.set_cons_succ]
          refine wpAnyG_take (i := 10) (v := ?_) rfl (by kernel_rfl) (by kernel_rfl) (by kernel_rfl) rfl (by kernel_rfl) (by kernel_rfl) (fun _ _ _ h => h) (by assumption) (by rfl) ?_ ?_
          rotate_left
          · (intro w hSw; (try dsimp only at hSw); go_simp <;> (try with_reducible rfl))
          try simp only [Act.put, List.getElem_toArray, List.getElem_cons_succ, List.getElem_cons_zero, List.setIfInBounds_toArray, List.set_cons_zero, List.set_cons_succ]
          refine wpAnyG_ready (rs := [5]) (by kernel_rfl) (by simp) ?_
          refine AllReadyG.cons (i := 5) rfl (fun K hK => ?_) ?_
          · (go_simp; refine (HRx.out _ hHeld.1).mono ?_; rintro e w9 ⟨rfl, O9⟩; try go_wp2_with fail)
            refine hK.out _ _ ?_ (fun hHeld => ?_)
            · (try dsimp only) <;> (exact ⟨hHeld.1.same O9, cell_keep hHeld.2.1 O9 (fun f => f), cell_keep hHeld.2.2 O9 (fun f => f)⟩)
            clear hK K
            try simp only [Act.put, List.getElem_toArray, List.getElem_cons_succ, List.getElem_cons_zero, List.setIfInBounds_toArray, List.set_cons_zero, List.set_cons_succ]
            refine wpAnyG_ready (rs := [11]) (by kernel_rfl) (by simp) ?_
            refine AllReadyG.cons (i := 11) rfl (fun K hK => ?_) ?_
            · (go_simp; refine (HRy.out _ hHeld.1).mono ?_; rintro e w9 ⟨rfl, O9⟩; try go_wp2_with fail)
              refine hK.out _ _ ?_ (fun hHeld => ?_)
              · (try dsimp only) <;> (exact ⟨hHeld.1.same O9, cell_keep hHeld.2.1 O9 (fun f => f), cell_keep hHeld.2.2 O9 (fun f => f)⟩)
              clear hK K
              try simp only [Act.put, List.getElem_toArray, List.getElem_cons_succ, List.getElem_cons_zero, List.setIfInBounds_toArray, List.set_cons_zero, List.set_cons_succ]
              refine wpAnyG_takeW (i := 12) (v := ?_) rfl (by kernel_rfl) (by kernel_rfl) (by kernel_rfl) rfl (fun _ _ _ h => h) (Or.inr (by assumption)) (by rfl) ?_ ?_
              rotate_left
              · (intro w; go_simp <;> (try with_reducible rfl))
              try simp only [Act.put, List.getElem_toArray, List.getElem_cons_succ, List.getElem_cons_zero, List.setIfInBounds_toArray, List.set_cons_zero, List.set_cons_succ]
              refine wpAnyG_done (by kernel_rfl) ?_ _
              obtain ⟨oY, -, -⟩ := hHeld
              by_cases cg : vy < vx
              · have hb2 := HB.out
                rw [if_pos cg] at hb2
                have HB2 := Lib.hid hb2
                have dg : decide (vy < vx) = true := decide_eq_true cg
                clear hb2
                go_wp2_with fail
                go_roundw
                case rel => exact ⟨k, k + 1, rfl, by first | rfl | go_num, by omega, by omega, by omega, by omega, HB2.out.symm, oY⟩
                case measure => simp [intOf]; omega
              · have hb2 := HB.out
                rw [if_neg cg] at hb2
                have HB2 := Lib.hid hb2
                have dg : decide (vy < vx) = false := decide_eq_false cg
                clear hb2
                go_wp2_with fail
                go_roundw
                case rel => exact ⟨bst, k + 1, rfl, by first | rfl | go_num, by omega, by omega, by omega, by omega, HB2.out.symm, oY⟩
                case measure => simp [intOf]; omega
            exact AllReadyG.nil
          exact AllReadyG.nil
        · have hk' : d.length ≤ k := by omega
          rw [best_end T hk'] at hB
          have hbs : bst = T.bestAt d i := hB
          have hx := (HRowk.out wr oX).cellM (f := cI) 0 (i := i) (by omega)
          have hy := (HRowk.out wr oX).cellM (f := cI) 0 (i := bst) (by omega)
          have fx := (HRowk.out wr oX).free i
          have fy := (HRowk.out wr oX).free bst
          have hsw := (HT.out.only0 oX).swap (k := n) (i := i) (j := bst) (by simpa [Trail.setC] using hn) HVu.out
          rw [HCk.out, setC_setC] at hsw
          have hrs : swapL d i bst = T.rewTo c (i + 1) := by rw [rewTo_succ, HD.out, hbs]; rfl
          rw [hrs] at hsw
          obtain ⟨x, hxe⟩ : ∃ x, d.getD i 0 = x := ⟨_, rfl⟩
          obtain ⟨y, hye⟩ : ∃ y, d.getD bst 0 = y := ⟨_, rfl⟩
          rw [hxe] at hx hsw
          rw [hye] at hy hsw
          have hsw2 : TrAt ((wr.setCell ⟨bc, i, none⟩ (.int .i64 y)).setCell ⟨bc, bst, none⟩ (.int .i64 x)).drew g b V (T.setC n (T.rewTo c (i + 1))) ∧ Only (fun q => g q = (34, n)) w ((wr.setCell ⟨bc, i, none⟩ (.int .i64 y)).setCell ⟨bc, bst, none⟩ (.int .i64 x)).drew := ⟨hsw.1.drew, (hO.same ((oX.mono fun _ f => f.elim).same hsw.2)).drew⟩
          have HSw := Lib.hid hsw2
          have kb : (i : Int) < (c.length : Int) := by omega
          have bb : (bst : Int) < (c.length : Int) := by omega
          clear hsw hsw2 hrs hbs hB
          by_cases eib : i = bst
          · subst eib
            obtain rfl : x = y := by rw [← hxe, ← hye]
            clear hxe hye
            go_wp2_with fail
            refine wp_region_G (n := 16) (E := fun j => j == 13 || j == 15) (S := fun w' => w'.cell? ⟨bc, i, none⟩ = some (cI x) ∧ w'.frozen? ⟨bc, i, none⟩ = false) (by kernel_rfl) rfl ⟨hx, fx⟩ (fun hHeld => ?_)
            refine wpAnyG_takeW (i := 0) (v := ?_) rfl (by kernel_rfl) (by kernel_rfl) (by kernel_rfl) rfl (fun _ _ _ h => h) (Or.inr (by assumption)) (by rfl) ?_ ?_
            rotate_left
            · (intro w; go_simp <;> (try with_reducible rfl))
            try simp only [Act.put, List.getElem_toArray, List.getElem_cons_succ, List.getElem_cons_zero, List.setIfInBounds_toArray, List.set_cons_zero, List.set_cons_succ]
            refine wpAnyG_takeW (i := 1) (v := ?_) rfl (by kernel_rfl) (by kernel_rfl) (by kernel_rfl) rfl (fun _ _ _ h => h) (Or.inr (by assumption)) (by rfl) ?_ ?_
            rotate_left
            · (intro w; go_simp <;> (try with_reducible rfl))
            try simp only [Act.put, List.getElem_toArray, List.getElem_cons_succ, List.getElem_cons_zero, List.setIfInBounds_toArray, List.set_cons_zero, List.set_cons_succ]
            refine wpAnyG_takeW (i := 2) (v := ?_) rfl (by kernel_rfl) (by kernel_rfl) (by kernel_rfl) rfl (fun _ _ _ h => h) (Or.inr (by assumption)) (by rfl) ?_ ?_
            rotate_left
            · (intro w; go_simp <;> (try with_reducible rfl))
            try simp only [Act.put, List.getElem_toArray, List.getElem_cons_succ, List.getElem_cons_zero, List.setIfInBounds_toArray, List.set_cons_zero, List.set_cons_succ]
            refine wpAnyG_takeW (i := 3) (v := ?_) rfl (by kernel_rfl) (by kernel_rfl) (by kernel_rfl) rfl (fun _ _ _ h => h) (Or.inr (by assumption)) (by rfl) ?_ ?_
            rotate_left
            · (intro w; go_simp <;> (try with_reducible rfl))
            try simp only [Act.put, List.getElem_toArray, List.getElem_cons_succ, List.getElem_cons_zero, List.setIfInBounds_toArray, List.set_cons_zero, List.set_cons_succ]
            refine wpAnyG_takeW (i := 4) (v := ?_) rfl (by kernel_rfl) (by kernel_rfl) (by kernel_rfl) rfl (fun _ _ _ h => h) (Or.inr (by assumption)) (by rfl) ?_ ?_
            rotate_left
            · (intro w; go_simp <;> (try with_reducible rfl))
            try simp only [Act.put, List.getElem_toArray, List.getElem_cons_succ, List.getElem_cons_zero, List.setIfInBounds_toArray, List.set_cons_zero, List.set_cons_succ]
            refine wpAnyG_takeW (i := 5) (v := ?_) rfl (by kernel_rfl) (by kernel_rfl) (by kernel_rfl) rfl (fun _ _ _ h => h) (Or.inr (by assumption)) (by rfl) ?_ ?_
            rotate_left
            · (intro w; go_simp <;> (try with_reducible rfl))
            try simp only [Act.put, List.getElem_toArray, List.getElem_cons_succ, List.getElem_cons_zero, List.setIfInBounds_toArray, List.set_cons_zero, List.set_cons_succ]
            refine wpAnyG_takeW (i := 6) (v := ?_) rfl (by kernel_rfl) (by kernel_rfl) (by kernel_rfl) rfl (fun _ _ _ h => h) (Or.inr (by assumption)) (by rfl) ?_ ?_
            rotate_left
            · (intro w; go_simp <;> (try with_reducible rfl))
            try simp only [Act.put, List.getElem_toArray, List.getElem_cons_succ, List.getElem_cons_zero, List.setIfInBounds_toArray, List.set_cons_zero, List.set_cons_succ]
            refine wpAnyG_take (i := 7) (v := ?_) rfl (by kernel_rfl) (by kernel_rfl) (by kernel_rfl) rfl (by kernel_rfl) (by kernel_rfl) (fun _ _ _ h => h) (by assumption) (by rfl) ?_ ?_
            rotate_left
            · (intro w hSw; (try dsimp only at hSw); go_simp <;> (try with_reducible rfl))
            try simp only [Act.put, List.getElem_toArray, List.getElem_cons_succ, List.getElem_cons_zero, List.setIfInBounds_toArray, List.set_cons_zero, List.set_cons_succ]
            refine wpAnyG_takeW (i := 8) (v := ?_) rfl (by kernel_rfl) (by kernel_rfl) (by kernel_rfl) rfl (fun _ _ _ h => h) (Or.inr (by assumption)) (by rfl) ?_ ?_
            rotate_left
            · (intro w; go_simp <;> (try with_reducible rfl))
            try simp only [Act.put, List.getElem_toArray, List.getElem_cons_succ, List.getElem_cons_zero, List.setIfInBounds_toArray, List.set_cons_zero, List.set_cons_succ]
            refine wpAnyG_takeW (i := 9) (v := ?_) rfl (by kernel_rfl) (by kernel_rfl) (by kernel_rfl) rfl (fun _ _ _ h => h) (Or.inr (by assumption)) (by rfl) ?_ ?_
            rotate_left
            · (intro w; go_simp <;> (try with_reducible rfl))
            try simp only [Act.put, List.getElem_toArray, List.getElem_cons_succ, List.getElem_cons_zero, List.setIfInBounds_toArray, List.set_cons_zero, List.set_cons_succ]
            refine wpAnyG_takeW (i := 10) (v := ?_) rfl (by kernel_rfl) (by kernel_rfl) (by kernel_rfl) rfl (fun _ _ _ h => h) (Or.inr (by assumption)) (by rfl) ?_ ?_
            rotate_left
            · (intro w; go_simp <;> (try with_reducible rfl))
            try simp only [Act.put, List.getElem_toArray, List.getElem_cons_succ, List.getElem_cons_zero, List.setIfInBounds_toArray, List.set_cons_zero, List.set_cons_succ]
            refine wpAnyG_take (i := 11) (v := ?_) rfl (by kernel_rfl) (by kernel_rfl) (by kernel_rfl) rfl (by kernel_rfl) (by kernel_rfl) (fun _ _ _ h => h) (by assumption) (by rfl) ?_ ?_
            rotate_left
            · (intro w hSw; (try dsimp only at hSw); go_simp <;> (try with_reducible rfl))
            try simp only [Act.put, List.getElem_toArray, List.getElem_cons_succ, List.getElem_cons_zero, List.setIfInBounds_toArray, List.set_cons_zero, List.set_cons_succ]
            refine wpAnyG_takeW (i := 12) (v := ?_) rfl (by kernel_rfl) (by kernel_rfl) (by kernel_rfl) rfl (fun _ _ _ h => h) (Or.inr (by assumption)) (by rfl) ?_ ?_
            rotate_left
            · (intro w; go_simp <;> (try with_reducible rfl))
            try simp only [Act.put, List.getElem_toArray, List.getElem_cons_succ, List.getElem_cons_zero, List.setIfInBounds_toArray, List.set_cons_zero, List.set_cons_succ]
            refine wpAnyG_ready (rs := [13]) (by kernel_rfl) (by simp) ?_
            refine AllReadyG.late (i := 13) rfl (by kernel_rfl) (fun K hK => ?_) ?_
            · (obtain ⟨s1, s2⟩ := hHeld; go_simp)
              refine hK.out _ _ ?_
              clear hK K
              try simp only [Act.put, List.getElem_toArray, List.getElem_cons_succ, List.getElem_cons_zero, List.setIfInBounds_toArray, List.set_cons_zero, List.set_cons_succ]
              refine wpAnyG_takeW (i := 14) (v := ?_) rfl (by kernel_rfl) (by kernel_rfl) (by kernel_rfl) rfl (fun _ _ _ h => h) (Or.inl (by kernel_rfl)) (by rfl) ?_ ?_
              rotate_left
              · (intro w; go_simp <;> (try with_reducible rfl))
              try simp only [Act.put, List.getElem_toArray, List.getElem_cons_succ, List.getElem_cons_zero, List.setIfInBounds_toArray, List.set_cons_zero, List.set_cons_succ]
              refine wpAnyG_ready (rs := [15]) (by kernel_rfl) (by simp) ?_
              refine AllReadyG.late (i := 15) rfl (by kernel_rfl) (fun K hK => ?_) ?_
              · (go_simp)
                refine hK.out _ _ ?_
                clear hK K
                try simp only [Act.put, List.getElem_toArray, List.getElem_cons_succ, List.getElem_cons_zero, List.setIfInBounds_toArray, List.set_cons_zero, List.set_cons_succ]
                refine wpAnyG_done (by kernel_rfl) ?_ _
                clear s1 s2
                go_wp2_with fail
                go_roundw
                case rel => exact ⟨i + 1, by go_num, by omega, HSw.out.1, HSw.out.2⟩
                case measure => simp [intOf]; omega
              exact AllReadyG.nil
            exact AllReadyG.nil
          · clear hxe hye
            have eib' : bst ≠ i := fun e => eib e.symm
            go_wp2_with fail
            refine wp_region_G (n := 16) (E := fun j => j == 13 || j == 15) (S := fun w' => w'.cell? ⟨bc, i, none⟩ = some (cI x) ∧ w'.cell? ⟨bc, bst, none⟩ = some (cI y) ∧ w'.frozen? ⟨bc, i, none⟩ = false ∧ w'.frozen? ⟨bc, bst, none⟩ = false) (by kernel_rfl) rfl ⟨hx, hy, fx, fy⟩ (fun hHeld => ?_)
            refine wpAnyG_takeW (i := 0) (v := ?_) rfl (by kernel_rfl) (by kernel_rfl) (by kernel_rfl) rfl (fun _ _ _ h => h) (Or.inr (by assumption)) (by rfl) ?_ ?_
            rotate_left
            · (intro w; go_simp <;> (try with_reducible rfl))
            try simp only [Act.put, List.getElem_toArray, List.getElem_cons_succ, List.getElem_cons_zero, List.setIfInBounds_toArray, List.set_cons_zero, List.set_cons_succ]
            refine wpAnyG_takeW (i := 1) (v := ?_) rfl (by kernel_rfl) (by kernel_rfl) (by kernel_rfl) rfl (fun _ _ _ h => h) (Or.inr (by assumption)) (by rfl) ?_ ?_
            rotate_left
            · (intro w; go_simp <;> (try with_reducible rfl))
            try simp only [Act.put, List.getElem_toArray, List.getElem_cons_succ, List.getElem_cons_zero, List.setIfInBounds_toArray, List.set_cons_zero, List.set_cons_succ]
            refine wpAnyG_takeW (i := 2) (v := ?_) rfl (by kernel_rfl) (by kernel_rfl) (by kernel_rfl) rfl (fun _ _ _ h => h) (Or.inr (by assumption)) (by rfl) ?_ ?_
            rotate_left
            · (intro w; go_simp <;> (try with_reducible rfl))
            try simp only [Act.put, List.getElem_toArray, List.getElem_cons_succ, List.getElem_cons_zero, List.setIfInBounds_toArray, List.set_cons_zero, List.set_cons_succ]
            refine wpAnyG_takeW (i := 3) (v := ?_) rfl (by kernel_rfl) (by kernel_rfl) (by kernel_rfl) rfl (fun _ _ _ h => h) (Or.inr (by assumption)) (by rfl) ?_ ?_
            rotate_left
            · (intro w; go_simp <;> (try with_reducible rfl))
            try simp only [Act.put, List.getElem_toArray, List.getElem_cons_succ, List.getElem_cons_zero, List.setIfInBounds_toArray, List.set_cons_zero, List.set_cons_succ]
            refine wpAnyG_takeW (i := 4) (v := ?_) rfl (by kernel_rfl) (by kernel_rfl) (by kernel_rfl) rfl (fun _ _ _ h => h) (Or.inr (by assumption)) (by rfl) ?_ ?_
            rotate_left
            · (intro w; go_simp <;> (try with_reducible rfl))
            try simp only [Act.put, List.getElem_toArray, List.getElem_cons_succ, List.getElem_cons_zero, List.setIfInBounds_toArray, List.set_cons_zero, List.set_cons_succ]
            refine wpAnyG_takeW (i := 5) (v := ?_) rfl (by kernel_rfl) (by kernel_rfl) (by kernel_rfl) rfl (fun _ _ _ h => h) (Or.inr (by assumption)) (by rfl) ?_ ?_
            rotate_left
            · (intro w; go_simp <;> (try with_reducible rfl))
            try simp only [Act.put, List.getElem_toArray, List.getElem_cons_succ, List.getElem_cons_zero, List.setIfInBounds_toArray, List.set_cons_zero, List.set_cons_succ]
            refine wpAnyG_takeW (i := 6) (v := ?_) rfl (by kernel_rfl) (by kernel_rfl) (by kernel_rfl) rfl (fun _ _ _ h => h) (Or.inr (by assumption)) (by rfl) ?_ ?_
            rotate_left
            · (intro w; go_simp <;> (try with_reducible rfl))
            try simp only [Act.put, List.getElem_toArray, List.getElem_cons_succ, List.getElem_cons_zero, List.setIfInBounds_toArray, List.set_cons_zero, List.set_cons_succ]
            refine wpAnyG_take (i := 7) (v := ?_) rfl (by kernel_rfl) (by kernel_rfl) (by kernel_rfl) rfl (by kernel_rfl) (by kernel_rfl) (fun _ _ _ h => h) (by assumption) (by rfl) ?_ ?_
            rotate_left
            · (intro w hSw; (try dsimp only at hSw); go_simp <;> (try with_reducible rfl))
            try simp only [Act.put, List.getElem_toArray, List.getElem_cons_succ, List.getElem_cons_zero, List.setIfInBounds_toArray, List.set_cons_zero, List.set_cons_succ]
            refine wpAnyG_takeW (i := 8) (v := ?_) rfl (by kernel_rfl) (by kernel_rfl) (by kernel_rfl) rfl (fun _ _ _ h => h) (Or.inr (by assumption)) (by rfl) ?_ ?_
            rotate_left
            · (intro w; go_simp <;> (try with_reducible rfl))
            try simp only [Act.put, List.getElem_toArray, List.getElem_cons_succ, List.getElem_cons_zero, List.setIfInBounds_toArray, List.set_cons_zero, List.set_cons_succ]
            refine wpAnyG_takeW (i := 9) (v := ?_) rfl (by kernel_rfl) (by kernel_rfl) (by kernel_rfl) rfl (fun _ _ _ h => h) (Or.inr (by assumption)) (by rfl) ?_ ?_
            rotate_left
            · (intro w; go_simp <;> (try with_reducible rfl))
            try simp only [Act.put, List.getElem_toArray, List.getElem_cons_succ, List.getElem_cons_zero, List.setIfInBounds_toArray, List.set_cons_zero, List.set_cons_succ]
            refine wpAnyG_takeW (i := 10) (v := ?_) rfl (by kernel_rfl) (by kernel_rfl) (by kernel_rfl) rfl (fun _ _ _ h => h) (Or.inr (by assumption)) (by rfl) ?_ ?_
            rotate_left
            · (intro w; go_simp <;> (try with_reducible rfl))
            try simp only [Act.put, List.getElem_toArray, List.getElem_cons_succ, List.getElem_cons_zero, List.setIfInBounds_toArray, List.set_cons_zero, List.set_cons_succ]
            refine wpAnyG_take (i := 11) (v := ?_) rfl (by kernel_rfl) (by kernel_rfl) (by kernel_rfl) rfl (by kernel_rfl) (by kernel_rfl) (fun _ _ _ h => h) (by assumption) (by rfl) ?_ ?_
            rotate_left
            · (intro w hSw; (try dsimp only at hSw); go_simp <;> (try with_reducible rfl))
            try simp only [Act.put, List.getElem_toArray, List.getElem_cons_succ, List.getElem_cons_zero, List.setIfInBounds_toArray, List.set_cons_zero, List.set_cons_succ]
            refine wpAnyG_takeW (i := 12) (v := ?_) rfl (by kernel_rfl) (by kernel_rfl) (by kernel_rfl) rfl (fun _ _ _ h => h) (Or.inr (by assumption)) (by rfl) ?_ ?_
            rotate_left
            · (intro w; go_simp <;> (try with_reducible rfl))
            try simp only [Act.put, List.getElem_toArray, List.getElem_cons_succ, List.getElem_cons_zero, List.setIfInBounds_toArray, List.set_cons_zero, List.set_cons_succ]
            refine wpAnyG_ready (rs := [13]) (by kernel_rfl) (by simp) ?_
            refine AllReadyG.late (i := 13) rfl (by kernel_rfl) (fun K hK => ?_) ?_
            · (obtain ⟨s1, s2, s3, s4⟩ := hHeld; go_simp)
              refine hK.out _ _ ?_
              clear hK K
              try simp only [Act.put, List.getElem_toArray, List.getElem_cons_succ, List.getElem_cons_zero, List.setIfInBounds_toArray, List.set_cons_zero, List.set_cons_succ]
              refine wpAnyG_takeW (i := 14) (v := ?_) rfl (by kernel_rfl) (by kernel_rfl) (by kernel_rfl) rfl (fun _ _ _ h => h) (Or.inl (by kernel_rfl)) (by rfl) ?_ ?_
              rotate_left
              · (intro w; go_simp <;> (try with_reducible rfl))
              try simp only [Act.put, List.getElem_toArray, List.getElem_cons_succ, List.getElem_cons_zero, List.setIfInBounds_toArray, List.set_cons_zero, List.set_cons_succ]
              refine wpAnyG_ready (rs := [15]) (by kernel_rfl) (by simp) ?_
              refine AllReadyG.late (i := 15) rfl (by kernel_rfl) (fun K hK => ?_) ?_
              · (go_simp)
                refine hK.out _ _ ?_
                clear hK K
                try simp only [Act.put, List.getElem_toArray, List.getElem_cons_succ, List.getElem_cons_zero, List.setIfInBounds_toArray, List.set_cons_zero, List.set_cons_succ]
                refine wpAnyG_done (by kernel_rfl) ?_ _
                clear s1 s2 s3 s4
                go_wp2_with fail
                go_roundw
                case rel => exact ⟨i + 1, by go_num, by omega, HSw.out.1, HSw.out.2⟩
                case measure => simp [intOf]; omega
              exact AllReadyG.nil
            exact AllReadyG.nil
    · have hi' : i = min c.length 2 := by rw [← HMm.out]; omega
      have hfin : TrAt wo g b V (T.setC n (T.rewatch (T.cl n))) := by rw [HRw.out, ← hi']; exact hT
      have HFin := Lib.hid hfin
      clear hfin hT
      go_wp2_with fail
      go_end0
      exact ⟨rfl, HFin.out, hO⟩
end
end Go.Proofs.Ytjbfgafkjejdjaa
