/- The walk of (*prop.Trail).moves. (Printed by gen_prop5.py.) -/
import Derived.Test.YtjbfgafkjejdjaaProp4
import Derived.Test.YtjbfgafkjejdjaaRegion4
namespace Go.Proofs.Ytjbfgafkjejdjaa
open Go.RowKit
open Tr

namespace Tr
theorem swapL_len (c : List Int) (i j : Nat) : (swapL c i j).length = c.length := by simp [swapL]
theorem swapL_map (c : List Int) (i j : Nat) : (swapL c i j).map cI = ((c.map cI).set i (cI (c.getD j 0))).set j (cI (c.getD i 0)) := by
  simp [swapL, List.map_set]
theorem range_dropP {m k : Nat} (h : k < m) : (List.range m).drop k = k :: (List.range m).drop (k + 1) := by
  rw [List.drop_eq_getElem_cons (by simpa using h)]; simp
theorem findM_drop (T : Trail) {c : List Int} {m : Nat} (h : m < c.length) : T.findM c ((List.range c.length).drop m) = if 0 ≤ T.val (c.getD m 0) then some m else T.findM c ((List.range c.length).drop (m + 1)) := by
  rw [range_dropP h, Trail.findM]
theorem findM_end (T : Trail) {c : List Int} {m : Nat} (h : c.length ≤ m) : T.findM c ((List.range c.length).drop m) = none := by
  rw [List.drop_of_length_le (by simpa using h), Trail.findM]
theorem nodup_lt {l : List Nat} {n : Nat} (hd : l.Nodup) (h : ∀ x ∈ l, x < n) : l.length ≤ n := by
  have := Up.nodup_le n (l.map (· + 1)) (by
    unfold List.Nodup
    rw [List.pairwise_map]
    exact hd.imp fun h e => h (by omega)) (fun x hx => by
    obtain ⟨y, hy, rfl⟩ := List.mem_map.1 hx
    have := h y hy
    omega)
  simpa using this
theorem Wat.len {T : Trail} (h : Wat T) (p : Nat) : (T.wt p).length ≤ T.cls.length := nodup_lt (h.nd p) (fun k hk => (h.snd p k hk).1)
theorem Ok.cl {T : Trail} (o : Ok T) {k : Nat} (hk : k < T.cls.length) : Up.Good T.n (T.cl k) := by
  unfold Trail.cl
  exact o.cls _ (getD_mem' [] hk)
theorem Ok.lit {T : Trail} (o : Ok T) {k : Nat} (hk : k < T.cls.length) {i : Nat} (hi : i < (T.cl k).length) : (T.cl k).getD i 0 ≠ 0 ∧ ((T.cl k).getD i 0).natAbs ≤ T.n := (o.cl hk).lit _ (getD_mem' 0 hi)
theorem Ok.cll {T : Trail} (o : Ok T) {k : Nat} (hk : k < T.cls.length) : (T.cl k).length ≤ T.n := (o.cl hk).len
end Tr

section
variable {w : World} {g : Tag} {b : Nat} {V : TrV} {T : Trail}

theorem TrAt.swap (H : TrAt w g b V T) {k i j : Nat} (hk : k < T.cls.length) {bc n cap : Nat} (hu : V.us.getD k nilS = .slice (some ⟨bc, 0, none⟩) n cap) :
    TrAt ((w.setCell ⟨bc, i, none⟩ (cI ((T.cl k).getD j 0))).setCell ⟨bc, j, none⟩ (cI ((T.cl k).getD i 0))) g b V (T.setC k (swapL (T.cl k) i j)) ∧
      Only (fun m => g m = (34, k)) w ((w.setCell ⟨bc, i, none⟩ (cI ((T.cl k).getD j 0))).setCell ⟨bc, j, none⟩ (cI ((T.cl k).getD i 0))) := by
  have hr := H.ci k hk
  rw [hu] at hr
  have ht : g bc = (34, k) := hr.tg bc rfl
  have ho : Only (fun m => g m = (34, k)) w ((w.setCell ⟨bc, i, none⟩ (cI ((T.cl k).getD j 0))).setCell ⟨bc, j, none⟩ (cI ((T.cl k).getD i 0))) := ((Only.refl _ w).setCell (.inl ht) _).setCell (.inl ht) _
  refine ⟨H.setC (Agree.refl _ _) (H.fresh.more ho.size) ho ?_, ho⟩
  rw [hu, swapL_map]
  exact (hr.store i _).store j _

/-- what moves leaves -/
def MovTo (w : World) (g : Tag) (b : Nat) (V : TrV) (T : Trail) (k : Nat) (w' : World) : Prop :=
  ∃ g' V', TrAt w' g' b V' (T.moves k).1 ∧ Agree w g g' ∧ Only (Mine g) w w' ∧ (∀ p, (∀ j, 2 ≤ j → j < (T.cl k).length → 0 ≤ T.val ((T.cl k).getD j 0) → place ((T.cl k).getD j 0) ≠ p) → V'.ws.getD p nilS = V.ws.getD p nilS) ∧ ((T.moves k).2 = false → w = w')

set_option maxRecDepth 100000 in
set_option maxHeartbeats 3200000 in
theorem prop_moves_any (H : TrAt w g b V T) (o : Ok T) (hwb : ∀ p, (T.wt p).length ≤ 2147483648) (k : Nat) (hk : k < T.cls.length) (r : Bool) (hr : (T.moves k).2 = r) :
    Calls Try.prog 95 #[.pointer (some ⟨b, 0, none⟩), cN k] w fun e w' => e = .returned (.bool r) ∧ MovTo w g b V T k w' := by
  have hn := o.n
  have hcb := o.cb
  have q1 := H.f1
  obtain ⟨bcs, cc, hvc, hc1, hc2, htc, -⟩ := H.c.pos (by rw [H.ul]; omega)
  have hrc := H.c
  rw [hvc, H.ul] at q1
  rw [hvc, H.ul] at hrc
  have q2 := hrc.cell nilS (i := k) (by rw [H.ul]; exact hk)
  have hrk := H.ci k hk
  obtain ⟨au, cu, hvu, hu1, hu2⟩ := hrk.shape
  rw [hvu] at q2
  simp only [List.length_map] at q2 hvu hu1
  have hcl := o.cll hk
  have hdef : T.cl k = T.cls.getD k [] := rfl
  rw [← hdef] at q2 hvu hu1
  have hmv : T.moves k = match T.findM (T.cl k) ((List.range (T.cl k).length).drop 2) with | some j => (T.moveTo k j, true) | none => (T, false) := rfl
  have HMv := Lib.hid hmv
  have HR := Lib.hid hr
  have HH := Lib.hid H
  have HOk := Lib.hid o
  have lim : (T.cl k).length ≤ 65536 := by omega
  clear hmv hr hrc hc1 hc2 hvc hdef H o
  go_enter Try.func95, Try.ntmps95
  go_wp2_with fail
  go_loopw [6] (fun v wr => ∃ m : Nat, v = .int .i64 m ∧ 2 ≤ m ∧ m ≤ max 2 (T.cl k).length ∧ T.findM (T.cl k) ((List.range (T.cl k).length).drop 2) = T.findM (T.cl k) ((List.range (T.cl k).length).drop m) ∧ w = wr) (fun v _ => (T.cl k).length - (intOf v).toNat)
  case atStart => exact ⟨2, rfl, by omega, by omega, rfl, rfl⟩
  case round =>
    obtain ⟨m, rfl, hm2, hm3, hF, rfl⟩ := hrel
    by_cases cm : m < (T.cl k).length
    · have hrow := hrk
      rw [show T.cls.getD k [] = T.cl k from rfl, hvu] at hrow
      obtain ⟨bc, hau⟩ : ∃ bc, au = some ⟨bc, 0, none⟩ := by
        obtain ⟨bc, _, he, _⟩ := hrow.pos (by simp; omega)
        simp at he; exact ⟨bc, he.1⟩
      subst hau
      have q3 := hrow.cellM (f := cI) 0 (i := m) cm
      have hlit := HOk.out.lit hk cm
      have hlI : InI64 ((T.cl k).getD m 0) := by unfold InI64; omega
      rw [findM_drop T cm] at hF
      obtain ⟨vx, hvx⟩ : ∃ vx, T.val ((T.cl k).getD m 0) = vx := ⟨_, rfl⟩
      have hV := prop_Value_any HH.out HOk.out _ hlI vx hvx
      rw [hvx] at hF
      have HV := Lib.hid hV
      have HVx := Lib.hid hvx
      clear hV hvx
      by_cases c0 : 0 ≤ vx
      · rw [if_pos c0] at hF
        have hres : T.moves k = (T.moveTo k m, true) := by rw [HMv.out, hF]
        have hr' : r = true := by rw [← HR.out, hres]
        subst hr'
        have HRes := Lib.hid hres
        have d1 : decide (0 ≤ vx) = true := decide_eq_true c0
        have k1 := hrow.cellM (f := cI) 0 (i := 1) (by omega)
        have f1 := hrow.free 1
        have fm := hrow.free m
        have htb : g bc = (34, k) := hrow.tg bc rfl
        clear hres hF hrow
        obtain ⟨x, hx⟩ : ∃ x, (T.cl k).getD m 0 = x := ⟨_, rfl⟩
        obtain ⟨y, hy⟩ : ∃ y, (T.cl k).getD 1 0 = y := ⟨_, rfl⟩
        rw [hx] at q3 HV hlit hlI
        rw [hy] at k1
        have HX := Lib.hid hx
        have HY := Lib.hid hy
        have hsw : TrAt ((w.setCell ⟨bc, 1, none⟩ (.int .i64 x)).setCell ⟨bc, m, none⟩ (.int .i64 y)).drew g b V (T.setC k (swapL (T.cl k) 1 m)) ∧ Only (fun q => g q = (34, k)) w ((w.setCell ⟨bc, 1, none⟩ (.int .i64 x)).setCell ⟨bc, m, none⟩ (.int .i64 y)).drew := by
          have := HH.out.swap (i := 1) (j := m) hk hvu
          rw [HX.out, HY.out] at this; exact ⟨this.1.drew, this.2.drew⟩
        have HSw := Lib.hid hsw
        clear hsw
        have b1 : (1 : Int) < ((T.cl k).length : Int) := by omega
        have b2 : (m : Int) < ((T.cl k).length : Int) := by omega
        have mne : m ≠ 1 := by omega
        clear hx hy
        go_wp2_with fail
        refine HV.out.mono ?_
        rintro e w1 ⟨rfl, rfl⟩
        go_wp2_with fail
        refine wp_region_G (n := 14) (E := fun i => i == 11 || i == 13) (S := fun w' => w'.cell? ⟨bc, 1, none⟩ = some (cI y) ∧ w'.cell? ⟨bc, m, none⟩ = some (cI x) ∧ w'.frozen? ⟨bc, 1, none⟩ = false ∧ w'.frozen? ⟨bc, m, none⟩ = false) (by kernel_rfl) rfl ⟨k1, q3, f1, fm⟩ (fun hHeld => ?_)
        refine wpAnyG_takeW (i := 0) (v := ?_) rfl (by kernel_rfl) (by kernel_rfl) (by kernel_rfl) rfl (fun _ _ _ h => h) (Or.inr (by assumption)) (by rfl) ?_ ?_
        rotate_left
        · (intro w; go_simp <;> (try with_reducible rfl))
        try simp only [Act.put, List.getElem_toArray, List.getElem_cons_succ, List.getElem_cons_zero, List.setIfInBounds_toArray, List.set_cons_zero, List.set_cons_succ]
        refine wpAnyG_takeW (i := 1) (v := ?_) rfl (by kernel_rfl) (by kernel_rfl) (by kernel_rfl) rfl (fun _ _ _ h => h) (Or.inr (by assumption)) (by rfl) ?_ ?_
        rotate_left
        · (intro w; go_simp <;> (try with_reducible rfl))
        try simp only [Act.put, List.getElem_toArray, List.getElem_cons_succ, List.getElem_cons_zero, List.setIfInBounds_toArray, List.set_cons_zero, List.set_cons_succ]
        refine wpAnyG_takeW (i := 2) (v := ?_) rfl (by kernel_rfl) (by kernel_rfl) (by kernel_rfl) rfl (fun _ _ _ h => h) (Or.inr (by assumption)) (by rfl) ?_ ?_
        rotate_left
        · (intro w; go_simp <;> (try with_reducible rfl))
        try simp only [Act.put, List.getElem_toArray, List.getElem_cons_succ, List.getElem_cons_zero, List.setIfInBounds_toArray, List.set_cons_zero, List.set_cons_succ]
        refine wpAnyG_takeW (i := 3) (v := ?_) rfl (by kernel_rfl) (by kernel_rfl) (by kernel_rfl) rfl (fun _ _ _ h => h) (Or.inr (by assumption)) (by rfl) ?_ ?_
        rotate_left
        · (intro w; go_simp <;> (try with_reducible rfl))
        try simp only [Act.put, List.getElem_toArray, List.getElem_cons_succ, List.getElem_cons_zero, List.setIfInBounds_toArray, List.set_cons_zero, List.set_cons_succ]
        refine wpAnyG_takeW (i := 4) (v := ?_) rfl (by kernel_rfl) (by kernel_rfl) (by kernel_rfl) rfl (fun _ _ _ h => h) (Or.inr (by assumption)) (by rfl) ?_ ?_
        rotate_left
        · (intro w; go_simp <;> (try with_reducible rfl))
        try simp only [Act.put, List.getElem_toArray, List.getElem_cons_succ, List.getElem_cons_zero, List.setIfInBounds_toArray, List.set_cons_zero, List.set_cons_succ]
        refine wpAnyG_takeW (i := 5) (v := ?_) rfl (by kernel_rfl) (by kernel_rfl) (by kernel_rfl) rfl (fun _ _ _ h => h) (Or.inr (by assumption)) (by rfl) ?_ ?_
        rotate_left
        · (intro w; go_simp <;> (try with_reducible rfl))
        try simp only [Act.put, List.getElem_toArray, List.getElem_cons_succ, List.getElem_cons_zero, List.setIfInBounds_toArray, List.set_cons_zero, List.set_cons_succ]
        refine wpAnyG_take (i := 6) (v := ?_) rfl (by kernel_rfl) (by kernel_rfl) (by kernel_rfl) rfl (by kernel_rfl) (by kernel_rfl) (fun _ _ _ h => h) (by assumption) (by rfl) ?_ ?_
        rotate_left
        · (intro w hSw; (try dsimp only at hSw); go_simp <;> (try with_reducible rfl))
        try simp only [Act.put, List.getElem_toArray, List.getElem_cons_succ, List.getElem_cons_zero, List.setIfInBounds_toArray, List.set_cons_zero, List.set_cons_succ]
        refine wpAnyG_takeW (i := 7) (v := ?_) rfl (by kernel_rfl) (by kernel_rfl) (by kernel_rfl) rfl (fun _ _ _ h => h) (Or.inr (by assumption)) (by rfl) ?_ ?_
        rotate_left
        · (intro w; go_simp <;> (try with_reducible rfl))
        try simp only [Act.put, List.getElem_toArray, List.getElem_cons_succ, List.getElem_cons_zero, List.setIfInBounds_toArray, List.set_cons_zero, List.set_cons_succ]
        refine wpAnyG_takeW (i := 8) (v := ?_) rfl (by kernel_rfl) (by kernel_rfl) (by kernel_rfl) rfl (fun _ _ _ h => h) (Or.inr (by assumption)) (by rfl) ?_ ?_
        rotate_left
        · (intro w; go_simp <;> (try with_reducible rfl))
        try simp only [Act.put, List.getElem_toArray, List.getElem_cons_succ, List.getElem_cons_zero, List.setIfInBounds_toArray, List.set_cons_zero, List.set_cons_succ]
        refine wpAnyG_take (i := 9) (v := ?_) rfl (by kernel_rfl) (by kernel_rfl) (by kernel_rfl) rfl (by kernel_rfl) (by kernel_rfl) (fun _ _ _ h => h) (by assumption) (by rfl) ?_ ?_
        rotate_left
        · (intro w hSw; (try dsimp only at hSw); go_simp <;> (try with_reducible rfl))
        try simp only [Act.put, List.getElem_toArray, List.getElem_cons_succ, List.getElem_cons_zero, List.setIfInBounds_toArray, List.set_cons_zero, List.set_cons_succ]
        refine wpAnyG_takeW (i := 10) (v := ?_) rfl (by kernel_rfl) (by kernel_rfl) (by kernel_rfl) rfl (fun _ _ _ h => h) (Or.inr (by assumption)) (by rfl) ?_ ?_
        rotate_left
        · (intro w; go_simp <;> (try with_reducible rfl))
        try simp only [Act.put, List.getElem_toArray, List.getElem_cons_succ, List.getElem_cons_zero, List.setIfInBounds_toArray, List.set_cons_zero, List.set_cons_succ]
        refine wpAnyG_ready (rs := [11]) (by kernel_rfl) (by simp) ?_
        refine AllReadyG.late (i := 11) rfl (by kernel_rfl) (fun K hK => ?_) ?_
        · (obtain ⟨s1, s2, s3, s4⟩ := hHeld; go_simp)
          refine hK.out _ _ ?_
          clear hK K
          try simp only [Act.put, List.getElem_toArray, List.getElem_cons_succ, List.getElem_cons_zero, List.setIfInBounds_toArray, List.set_cons_zero, List.set_cons_succ]
          refine wpAnyG_takeW (i := 12) (v := ?_) rfl (by kernel_rfl) (by kernel_rfl) (by kernel_rfl) rfl (fun _ _ _ h => h) (Or.inl (by kernel_rfl)) (by rfl) ?_ ?_
          rotate_left
          · (intro w; go_simp <;> (try with_reducible rfl))
          try simp only [Act.put, List.getElem_toArray, List.getElem_cons_succ, List.getElem_cons_zero, List.setIfInBounds_toArray, List.set_cons_zero, List.set_cons_succ]
          refine wpAnyG_ready (rs := [13]) (by kernel_rfl) (by simp) ?_
          refine AllReadyG.late (i := 13) rfl (by kernel_rfl) (fun K hK => ?_) ?_
          · (go_simp)
            refine hK.out _ _ ?_
            clear hK K
            try simp only [Act.put, List.getElem_toArray, List.getElem_cons_succ, List.getElem_cons_zero, List.setIfInBounds_toArray, List.set_cons_zero, List.set_cons_succ]
            refine wpAnyG_done (by kernel_rfl) ?_ _
            obtain ⟨H2, O2⟩ := HSw.out
            clear HSw
            have hO2 : Only (Mine g) w ((w.setCell ⟨bc, 1, none⟩ (.int .i64 x)).setCell ⟨bc, m, none⟩ (.int .i64 y)).drew := O2.mono fun q hq => by unfold Mine; rw [hq]; simp
            clear s1 s2 s3 s4
            generalize ((w.setCell ⟨bc, 1, none⟩ (.int .i64 x)).setCell ⟨bc, m, none⟩ (.int .i64 y)).drew = w2 at *
            have hpl : place x < 2 * T.n := Rup.place_lt hlit
            have p3 := H2.f3
            obtain ⟨bw, cw, hvw, -, -, htw, -⟩ := H2.wr.pos (by rw [H2.wl]; simp only [Trail.setC]; omega)
            have hwl : V.ws.length = 2 * T.n := H2.wl
            have hwr := H2.wr
            rw [hvw, hwl] at p3
            rw [hvw, hwl] at hwr
            have p4 := hwr.cell nilS (i := place x) (by omega)
            have p5 := hwr.free (place x)
            have hru := H2.wi (place x) hpl
            rw [show (T.setC k (swapL (T.cl k) 1 m)).watch.getD (place x) [] = T.wt (place x) from rfl] at hru
            obtain ⟨aw, cpw, hvws, -, -⟩ := hru.shape
            rw [hvws] at p4 hru
            simp only [List.length_map] at p4 hru
            have hwb := hwb (place x)
            have hx1 : w2.cell? ⟨bc, 1, none⟩ = some (.int .i64 x) := by
              have hci := H2.ci k (by simpa [Trail.setC] using hk)
              rw [hvu] at hci
              have hcm := hci.cellM (f := cI) 0 (i := 1) (by simp only [Trail.setC]; rw [getD_set1 hk, swapL_len]; omega)
              rw [hcm]
              simp only [Trail.setC]
              rw [getD_set1 hk, swapL, getD_set2 mne, getD_set1 (by omega), HX.out]
            have hmt : T.moveTo k m = (T.setC k (swapL (T.cl k) 1 m)).setW (place x) (T.wt (place x) ++ [k]) := by
              unfold Trail.moveTo
              have e : (swapL (T.cl k) 1 m).getD 1 0 = x := by rw [swapL, getD_set2 mne, getD_set1 (by omega), HX.out]
              simp only [e]
              rfl
            have hfin7 : ∀ wA w5 v' s, Only (fun q => g q = (37, place x)) wA w5 → wA.heap.size = s → Row w5 (Tag.put g s w5.heap.size (37, place x)) (37, place x) 3 v' ((T.wt (place x)).map cN ++ [.int .i64 (k : Int)]) → Only (fun _ => False) w2 wA → MovTo w g b V T k (w5.setCell ⟨bw, place x, none⟩ v') := by
              intro wA w5 v' s o5 hs r5 oA
              subst hs
              have ag : Agree w2 g (Tag.put g wA.heap.size w5.heap.size (37, place x)) := Agree.put g _ oA.size
              have o25 : Only (fun q => g q = (37, place x)) w2 w5 := (oA.mono fun _ f => f.elim).same o5
              have h7 := H2.setW (p := place x) (ks := T.wt (place x) ++ [k]) (v := v') (by simp only [Trail.setC]; exact HOk.out.wl) hpl hvw ag (Fresh.put (w := wA) (37, place x) (H2.fresh.more oA.size) o5.size) o25 (by simpa [List.map_append] using r5)
              refine ⟨_, _, by rw [HRes.out, hmt]; exact h7, fun q hq => ag q (by have := hO2.size; omega), ?_, fun p hp => ?_, fun h => by rw [HRes.out] at h; cases h⟩
              · refine (hO2.same (o25.mono fun q hq => by unfold Mine; rw [hq]; simp)).setCell (.inl ?_) _
                unfold Mine; rw [htw]; simp
              · have := hp m hm2 cm (by rw [HVx.out]; exact c0)
                rw [HX.out] at this
                exact getD_set2 this _ _
            have HFin7 := Lib.hid (fun wA w5 v' s a1 a2 a3 => fun (a4 : Only (fun _ => False) w2 wA) => hfin7 wA w5 v' s a1 a2 a3 a4)
            have hS5 : ∀ w5, Only (fun q => g q = (37, place x)) w2 w5 → w5.cell? ⟨b, 3, none⟩ = some (.slice (some ⟨bw, 0, none⟩) (2 * T.n) cw) ∧ w5.cell? ⟨bc, 1, none⟩ = some (.int .i64 x) ∧ w5.cell? ⟨bw, place x, none⟩ = some (.slice aw (T.wt (place x)).length cpw) ∧ w5.frozen? ⟨bw, place x, none⟩ = false := by
              intro w5 hx5
              exact ⟨cell_keep p3 hx5 (by rw [H2.tb]; simp), cell_keep hx1 hx5 (by rw [htb]; simp), cell_keep p4 hx5 (by rw [htw]; simp), free_keep p4 p5 hx5 (by rw [htw]; simp)⟩
            have HS5 := Lib.hid hS5
            have HRu := Lib.hid hru
            have pb : (place x : Int) < ((2 * T.n : Nat) : Int) := by omega
            clear hS5 hfin7 hmt hru hwr O2 H2 hvws hO2
            generalize hM2 : 2 * T.n = m2 at *
            clear hM2
            go_wp2_with fail
            refine wp_region_G (n := 23) (E := fun i => i == 22) (S := fun w' => w'.cell? ⟨b, 3, none⟩ = some (.slice (some ⟨bw, 0, none⟩) m2 cw) ∧ w'.cell? ⟨bc, 1, none⟩ = some (.int .i64 x) ∧ w'.cell? ⟨bw, place x, none⟩ = some (.slice aw (T.wt (place x)).length cpw) ∧ w'.frozen? ⟨bw, place x, none⟩ = false) (by kernel_rfl) rfl ⟨p3, hx1, p4, p5⟩ (fun hHeld => ?_)
            refine wpAnyG_takeW (i := 0) (v := ?_) rfl (by kernel_rfl) (by kernel_rfl) (by kernel_rfl) rfl (fun _ _ _ h => h) (Or.inr (by assumption)) (by rfl) ?_ ?_
            rotate_left
            · (intro w; go_simp <;> (try with_reducible rfl))
            try simp only [Act.put, List.getElem_toArray, List.getElem_cons_succ, List.getElem_cons_zero, List.setIfInBounds_toArray, List.set_cons_zero, List.set_cons_succ]
            refine wpAnyG_takeW (i := 1) (v := ?_) rfl (by kernel_rfl) (by kernel_rfl) (by kernel_rfl) rfl (fun _ _ _ h => h) (Or.inr (by assumption)) (by rfl) ?_ ?_
            rotate_left
            · (intro w; go_simp <;> (try with_reducible rfl))
            try simp only [Act.put, List.getElem_toArray, List.getElem_cons_succ, List.getElem_cons_zero, List.setIfInBounds_toArray, List.set_cons_zero, List.set_cons_succ]
            refine wpAnyG_takeW (i := 2) (v := ?_) rfl (by kernel_rfl) (by kernel_rfl) (by kernel_rfl) rfl (fun _ _ _ h => h) (Or.inr (by assumption)) (by rfl) ?_ ?_
            rotate_left
            · (intro w; go_simp <;> (try with_reducible rfl))
            try simp only [Act.put, List.getElem_toArray, List.getElem_cons_succ, List.getElem_cons_zero, List.setIfInBounds_toArray, List.set_cons_zero, List.set_cons_succ]
            refine wpAnyG_take (i := 3) (v := ?_) rfl (by kernel_rfl) (by kernel_rfl) (by kernel_rfl) rfl (by kernel_rfl) (by kernel_rfl) (fun _ _ _ h => h) (by assumption) (by rfl) ?_ ?_
            rotate_left
            · (intro w hSw; (try dsimp only at hSw); go_simp <;> (try with_reducible rfl))
            try simp only [Act.put, List.getElem_toArray, List.getElem_cons_succ, List.getElem_cons_zero, List.setIfInBounds_toArray, List.set_cons_zero, List.set_cons_succ]
            refine wpAnyG_takeW (i := 4) (v := ?_) rfl (by kernel_rfl) (by kernel_rfl) (by kernel_rfl) rfl (fun _ _ _ h => h) (Or.inr (by assumption)) (by rfl) ?_ ?_
            rotate_left
            · (intro w; go_simp <;> (try with_reducible rfl))
            try simp only [Act.put, List.getElem_toArray, List.getElem_cons_succ, List.getElem_cons_zero, List.setIfInBounds_toArray, List.set_cons_zero, List.set_cons_succ]
            refine wpAnyG_takeW (i := 5) (v := ?_) rfl (by kernel_rfl) (by kernel_rfl) (by kernel_rfl) rfl (fun _ _ _ h => h) (Or.inr (by assumption)) (by rfl) ?_ ?_
            rotate_left
            · (intro w; go_simp <;> (try with_reducible rfl))
            try simp only [Act.put, List.getElem_toArray, List.getElem_cons_succ, List.getElem_cons_zero, List.setIfInBounds_toArray, List.set_cons_zero, List.set_cons_succ]
            refine wpAnyG_take (i := 6) (v := ?_) rfl (by kernel_rfl) (by kernel_rfl) (by kernel_rfl) rfl (by kernel_rfl) (by kernel_rfl) (fun _ _ _ h => h) (by assumption) (by rfl) ?_ ?_
            rotate_left
            · (intro w hSw; (try dsimp only at hSw); go_simp <;> (try with_reducible rfl))
            try simp only [Act.put, List.getElem_toArray, List.getElem_cons_succ, List.getElem_cons_zero, List.setIfInBounds_toArray, List.set_cons_zero, List.set_cons_succ]
            refine wpAnyG_takeC (i := 7) (v := ?_) (f := 70) (args := #[.int .i64 x]) rfl (by kernel_rfl) (by kernel_rfl) (by kernel_rfl) rfl (by kernel_rfl) (by kernel_rfl) (fun _ _ _ h => h) (by assumption) (by rfl) ?_ ?_ ?_
            rotate_left
            · (intro w; go_simp <;> (try with_reducible rfl))
            · (intro w hSw; exact prop_place_any x T.n hn hlit (place x : Int) rfl)
            try simp only [Act.put, List.getElem_toArray, List.getElem_cons_succ, List.getElem_cons_zero, List.setIfInBounds_toArray, List.set_cons_zero, List.set_cons_succ]
            refine wpAnyG_takeW (i := 8) (v := ?_) rfl (by kernel_rfl) (by kernel_rfl) (by kernel_rfl) rfl (fun _ _ _ h => h) (Or.inr (by assumption)) (by rfl) ?_ ?_
            rotate_left
            · (intro w; go_simp <;> (try with_reducible rfl))
            try simp only [Act.put, List.getElem_toArray, List.getElem_cons_succ, List.getElem_cons_zero, List.setIfInBounds_toArray, List.set_cons_zero, List.set_cons_succ]
            refine wpAnyG_takeW (i := 9) (v := ?_) rfl (by kernel_rfl) (by kernel_rfl) (by kernel_rfl) rfl (fun _ _ _ h => h) (Or.inr (by assumption)) (by rfl) ?_ ?_
            rotate_left
            · (intro w; go_simp <;> (try with_reducible rfl))
            try simp only [Act.put, List.getElem_toArray, List.getElem_cons_succ, List.getElem_cons_zero, List.setIfInBounds_toArray, List.set_cons_zero, List.set_cons_succ]
            refine wpAnyG_takeW (i := 10) (v := ?_) rfl (by kernel_rfl) (by kernel_rfl) (by kernel_rfl) rfl (fun _ _ _ h => h) (Or.inr (by assumption)) (by rfl) ?_ ?_
            rotate_left
            · (intro w; go_simp <;> (try with_reducible rfl))
            try simp only [Act.put, List.getElem_toArray, List.getElem_cons_succ, List.getElem_cons_zero, List.setIfInBounds_toArray, List.set_cons_zero, List.set_cons_succ]
            refine wpAnyG_take (i := 11) (v := ?_) rfl (by kernel_rfl) (by kernel_rfl) (by kernel_rfl) rfl (by kernel_rfl) (by kernel_rfl) (fun _ _ _ h => h) (by assumption) (by rfl) ?_ ?_
            rotate_left
            · (intro w hSw; (try dsimp only at hSw); go_simp <;> (try with_reducible rfl))
            try simp only [Act.put, List.getElem_toArray, List.getElem_cons_succ, List.getElem_cons_zero, List.setIfInBounds_toArray, List.set_cons_zero, List.set_cons_succ]
            refine wpAnyG_takeW (i := 12) (v := ?_) rfl (by kernel_rfl) (by kernel_rfl) (by kernel_rfl) rfl (fun _ _ _ h => h) (Or.inr (by assumption)) (by rfl) ?_ ?_
            rotate_left
            · (intro w; go_simp <;> (try with_reducible rfl))
            try simp only [Act.put, List.getElem_toArray, List.getElem_cons_succ, List.getElem_cons_zero, List.setIfInBounds_toArray, List.set_cons_zero, List.set_cons_succ]
            refine wpAnyG_takeW (i := 13) (v := ?_) rfl (by kernel_rfl) (by kernel_rfl) (by kernel_rfl) rfl (fun _ _ _ h => h) (Or.inr (by assumption)) (by rfl) ?_ ?_
            rotate_left
            · (intro w; go_simp <;> (try with_reducible rfl))
            try simp only [Act.put, List.getElem_toArray, List.getElem_cons_succ, List.getElem_cons_zero, List.setIfInBounds_toArray, List.set_cons_zero, List.set_cons_succ]
            refine wpAnyG_take (i := 14) (v := ?_) rfl (by kernel_rfl) (by kernel_rfl) (by kernel_rfl) rfl (by kernel_rfl) (by kernel_rfl) (fun _ _ _ h => h) (by assumption) (by rfl) ?_ ?_
            rotate_left
            · (intro w hSw; (try dsimp only at hSw); go_simp <;> (try with_reducible rfl))
            try simp only [Act.put, List.getElem_toArray, List.getElem_cons_succ, List.getElem_cons_zero, List.setIfInBounds_toArray, List.set_cons_zero, List.set_cons_succ]
            refine wpAnyG_takeC (i := 15) (v := ?_) (f := 70) (args := #[.int .i64 x]) rfl (by kernel_rfl) (by kernel_rfl) (by kernel_rfl) rfl (by kernel_rfl) (by kernel_rfl) (fun _ _ _ h => h) (by assumption) (by rfl) ?_ ?_ ?_
            rotate_left
            · (intro w; go_simp <;> (try with_reducible rfl))
            · (intro w hSw; exact prop_place_any x T.n hn hlit (place x : Int) rfl)
            try simp only [Act.put, List.getElem_toArray, List.getElem_cons_succ, List.getElem_cons_zero, List.setIfInBounds_toArray, List.set_cons_zero, List.set_cons_succ]
            refine wpAnyG_takeW (i := 16) (v := ?_) rfl (by kernel_rfl) (by kernel_rfl) (by kernel_rfl) rfl (fun _ _ _ h => h) (Or.inr (by assumption)) (by rfl) ?_ ?_
            rotate_left
            · (intro w; go_simp <;> (try with_reducible rfl))
            try simp only [Act.put, List.getElem_toArray, List.getElem_cons_succ, List.getElem_cons_zero, List.setIfInBounds_toArray, List.set_cons_zero, List.set_cons_succ]
            refine wpAnyG_take (i := 17) (v := ?_) rfl (by kernel_rfl) (by kernel_rfl) (by kernel_rfl) rfl (by kernel_rfl) (by kernel_rfl) (fun _ _ _ h => h) (by assumption) (by rfl) ?_ ?_
            rotate_left
            · (intro w hSw; (try dsimp only at hSw); go_simp <;> (try with_reducible rfl))
            try simp only [Act.put, List.getElem_toArray, List.getElem_cons_succ, List.getElem_cons_zero, List.setIfInBounds_toArray, List.set_cons_zero, List.set_cons_succ]
            refine wpAnyG_takeW (i := 18) (v := ?_) rfl (by kernel_rfl) (by kernel_rfl) (by kernel_rfl) rfl (fun _ _ _ h => h) (Or.inr (by assumption)) (by rfl) ?_ ?_
            rotate_left
            · (intro w; go_simp <;> (try with_reducible rfl))
            try simp only [Act.put, List.getElem_toArray, List.getElem_cons_succ, List.getElem_cons_zero, List.setIfInBounds_toArray, List.set_cons_zero, List.set_cons_succ]
            refine wpAnyG_ready (rs := [19]) (by kernel_rfl) (by simp) ?_
            refine AllReadyG.cons (i := 19) rfl (fun K hK => ?_) ?_
            · go_simp
              refine hK.out _ _ ?_ (fun hHeld => ?_)
              · (try dsimp only) <;> (exact HS5.out _ (by repeat (first | exact Only.refl _ _ | apply Only.drew | apply Only.alloc | apply Only.drewN)))
              clear hK K
              try simp only [Act.put, List.getElem_toArray, List.getElem_cons_succ, List.getElem_cons_zero, List.setIfInBounds_toArray, List.set_cons_zero, List.set_cons_succ]
              refine wpAnyG_ready (rs := [20]) (by kernel_rfl) (by simp) ?_
              refine AllReadyG.cons (i := 20) rfl (fun K hK => ?_) ?_
              · (refine Row.step (u := .int .i64 (k : Int)) slInt (by rfl) (.tmp 56) (.tmp 58) (by rfl) (by rfl) (by rfl) (by simp) rfl (by repeat (first | exact HRu.out | apply Row.drew | apply Row.alloc | apply Row.drewN)) (by simp; omega) (by decide) ?_; intro bb cap w5 rr1 rr2; simp only [List.length_map] at rr1 ⊢)
                refine hK.out _ _ ?_ (fun hHeld => ?_)
                · (try dsimp only) <;> (exact HS5.out _ (Only.same (by repeat (first | exact Only.refl _ _ | apply Only.drew | apply Only.alloc | apply Only.drewN)) rr2))
                clear hK K
                try simp only [Act.put, List.getElem_toArray, List.getElem_cons_succ, List.getElem_cons_zero, List.setIfInBounds_toArray, List.set_cons_zero, List.set_cons_succ]
                refine wpAnyG_takeW (i := 21) (v := ?_) rfl (by kernel_rfl) (by kernel_rfl) (by kernel_rfl) rfl (fun _ _ _ h => h) (Or.inr (by assumption)) (by rfl) ?_ ?_
                rotate_left
                · (intro w; go_simp <;> (try with_reducible rfl))
                try simp only [Act.put, List.getElem_toArray, List.getElem_cons_succ, List.getElem_cons_zero, List.setIfInBounds_toArray, List.set_cons_zero, List.set_cons_succ]
                refine wpAnyG_ready (rs := [22]) (by kernel_rfl) (by simp) ?_
                refine AllReadyG.late (i := 22) rfl (by kernel_rfl) (fun K hK => ?_) ?_
                · (obtain ⟨s1, s2, s3, s4⟩ := hHeld; go_simp)
                  refine hK.out _ _ ?_
                  clear hK K
                  try simp only [Act.put, List.getElem_toArray, List.getElem_cons_succ, List.getElem_cons_zero, List.setIfInBounds_toArray, List.set_cons_zero, List.set_cons_succ]
                  refine wpAnyG_done (by kernel_rfl) ?_ _
                  have hfin := HFin7.out _ w5 _ _ rr2 (by simp) rr1 (((Only.refl _ _).alloc _).drew)
                  have HFin8 := Lib.hid hfin
                  clear hfin rr1 rr2 HFin7
                  go_wp2_with fail
                  go_ret
                  exact ⟨rfl, HFin8.out⟩
                exact AllReadyG.nil
              exact AllReadyG.nil
            exact AllReadyG.nil
          exact AllReadyG.nil
        exact AllReadyG.nil
      · rw [if_neg c0] at hF
        have d1 : decide (0 ≤ vx) = false := decide_eq_false c0
        have HF := Lib.hid hF
        clear hF hrow
        generalize (T.cl k).getD m 0 = x at *
        go_wp2_with fail
        refine HV.out.mono ?_
        rintro e w1 ⟨rfl, rfl⟩
        go_wp2_with fail
        go_roundw
        case rel => exact ⟨m + 1, by go_num, by omega, by omega, HF.out, by first | rfl | trivial⟩
        case measure => simp [intOf]; omega
    · rw [findM_end T (c := T.cl k) (m := m) (by omega)] at hF
      have hres : T.moves k = (T, false) := by rw [HMv.out, hF]
      have hr' : r = false := by rw [← HR.out, hres]
      subst hr'
      have hfin : MovTo w g b V T k w := ⟨g, V, by rw [hres]; exact HH.out, Agree.refl _ _, Only.refl _ _, fun _ _ => rfl, fun _ => rfl⟩
      have HFin := Lib.hid hfin
      clear hfin hF hres
      go_wp2_with fail
      go_ret
      exact ⟨rfl, HFin.out⟩
end
end Go.Proofs.Ytjbfgafkjejdjaa
