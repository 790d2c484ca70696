/- (*counter).count. -/
import Derived.Test.YtjedgdamommgeaaGreatTot5
import Derived.Test.YtjedgdamommgeaaGreatRegs
import Derived.Deep.DrawnRows
set_option linter.unusedVariables false
namespace Go.Proofs.YtjedgdamommgeaaGreat
open Go.RowKit
attribute [local go_sem ↓] Go.wp_at_zero Go.wp_at_succ
theorem wp_region_held0 {P : Program} {ops : Array Oper} {Q : Exit → Act → World → Prop} {id n : Nat} {a : Act} {w : World} {S : World → Prop} (hm : P.follows .mixedOrders = true) (hn : ops.size = n) (hS : S w.drew)
  (h : S w.drew → wpAnyH P .any ops Q S n (Array.replicate n false) a w.drew) : (Code.region id ops true).wp P Q a w := by
 refine wp_region_any hm ?_
 rw [hn]
 exact wpAny_of_held _ _ _ _ (h hS)
namespace Tot
def count (cap : Int) (lim : Nat) (row : List Int) (n0 : Nat) (fl : Bool) (B : Bld) : List Int × Nat × Bool × Bld :=
 if h : row.length < 2 then (row, n0, fl, B) else
 let r1 := count cap lim (row.take (row.length / 2)) n0 fl B
 let r2 := count cap lim (row.drop (row.length / 2)) r1.2.1 r1.2.2.1 r1.2.2.2
 if r1.1.length = 0 ∨ r2.1.length = 0 then ([], r2.2) else
 let m := (min ((r1.1.length : Int) + (r2.1.length : Int)) cap).toNat
 if r2.2.1 + m ≤ lim then (nums r2.2.1 m, r2.2.1 + m, r2.2.2.1, adds r2.2.2.2 (allC r1.1 r2.1 (nums r2.2.1 m) m (r1.1.length + 1))) else ([], lim, true, r2.2.2.2)
termination_by row.length
decreasing_by
 ·simp; omega
 ·simp; omega
theorem count_short (cap : Int) (lim : Nat) {row : List Int} (n0 : Nat) (fl : Bool) (B : Bld) (h : row.length < 2) : count cap lim row n0 fl B = (row, n0, fl, B) := by
 rw [count, dif_pos h]
theorem count_long {cap : Int} {lim : Nat} {row : List Int} {n0 : Nat} {fl : Bool} {B : Bld} (h : ¬ row.length < 2) {r1 r2 : List Int × Nat × Bool × Bld} (h1 : count cap lim (row.take (row.length / 2)) n0 fl B = r1)
  (h2 : count cap lim (row.drop (row.length / 2)) r1.2.1 r1.2.2.1 r1.2.2.2 = r2) {m : Nat} (hm : (min ((r1.1.length : Int) + (r2.1.length : Int)) cap).toNat = m) :
  count cap lim row n0 fl B = if r1.1.length = 0 ∨ r2.1.length = 0 then ([], r2.2) else if r2.2.1 + m ≤ lim then (nums r2.2.1 m, r2.2.1 + m, r2.2.2.1, adds r2.2.2.2 (allC r1.1 r2.1 (nums r2.2.1 m) m (r1.1.length + 1))) else ([], lim, true, r2.2.2.2) := by
 subst h1 h2 hm
 rw [count, dif_neg h]
theorem count_small {cap : Int} {lim : Nat} (hl : lim ≤ 65536) : ∀ (L : Nat) (row : List Int) (n0 : Nat) (fl : Bool) (B : Bld), row.length = L → (∀ z ∈ row, z.natAbs ≤ 1000000) →
  (∀ z ∈ (count cap lim row n0 fl B).1, z.natAbs ≤ 1000000) ∧ (count cap lim row n0 fl B).1.length ≤ row.length := by
 intro L
 induction L using Nat.strongRecOn with
 | ind L ih =>
  intro row n0 fl B hL hs
  by_cases h : row.length < 2
  ·rw [count_short cap lim n0 fl B h]
   exact ⟨hs, Nat.le_refl _⟩
  ·obtain ⟨r1, hr1⟩ : ∃ r, count cap lim (row.take (row.length / 2)) n0 fl B = r := ⟨_, rfl⟩
   obtain ⟨r2, hr2⟩ : ∃ r, count cap lim (row.drop (row.length / 2)) r1.2.1 r1.2.2.1 r1.2.2.2 = r := ⟨_, rfl⟩
   obtain ⟨m, hm⟩ : ∃ m, (min ((r1.1.length : Int) + (r2.1.length : Int)) cap).toNat = m := ⟨_, rfl⟩
   have h1 := ih (row.take (row.length / 2)).length (by simp; omega) _ n0 fl B rfl (fun z hz => hs z (List.mem_of_mem_take hz))
   have h2 := ih (row.drop (row.length / 2)).length (by simp; omega) _ r1.2.1 r1.2.2.1 r1.2.2.2 rfl (fun z hz => hs z (List.mem_of_mem_drop hz))
   rw [hr1] at h1
   rw [hr2] at h2
   rw [count_long h hr1 hr2 hm]
   have l1 := h1.2
   have l2 := h2.2
   simp only [List.length_take, List.length_drop] at l1 l2
   split
   ·exact ⟨by simp, by simp⟩
   ·split
    ·refine ⟨fun z hz => ?_, by rw [nums_len]; omega⟩
     obtain ⟨i, hi, he⟩ := List.mem_map.1 hz
     have := List.mem_range.1 hi
     omega
    ·exact ⟨by simp, by simp⟩
end Tot
section
variable {w : World}
theorem Ints.takeI {b o n cap : Nat} {xs : List Int} (h : Ints w (.slice (some ⟨b, o, none⟩) n cap) xs) {k : Nat} (hk : k ≤ xs.length) : Ints w (.slice (some ⟨b, o, none⟩) k cap) (xs.take k) := by
 obtain ⟨ao, cap', he, h1, h2⟩ := h.shape
 simp at he
 obtain ⟨rfl, rfl, rfl⟩ := he
 refine ⟨⟨_, _, by rw [List.length_take, Nat.min_eq_left hk], by rw [List.length_take]; omega, h2⟩, fun ao len cap'' hv hp => ?_, fun z hz => h.range z (List.mem_of_mem_take hz), fun len cap'' hv => by simp at hv⟩
 simp at hv
 obtain ⟨rfl, rfl, rfl⟩ := hv
 simp at hp
 obtain ⟨b', o', he, hb, hc⟩ := h.cells _ _ _ rfl (by omega)
 refine ⟨b', o', he, hb, fun i hi => ?_⟩
 simp at hi
 rw [hc i (by omega), List.getD_eq_getElem?_getD, List.getD_eq_getElem?_getD, List.getElem?_take_of_lt (by omega)]
theorem Ints.dropI {b o n cap : Nat} {xs : List Int} (h : Ints w (.slice (some ⟨b, o, none⟩) n cap) xs) {k : Nat} (hk : k ≤ xs.length) : Ints w (.slice (some ⟨b, o + k, none⟩) (xs.length - k) (cap - k)) (xs.drop k) := by
 obtain ⟨ao, cap', he, h1, h2⟩ := h.shape
 simp at he
 obtain ⟨rfl, rfl, rfl⟩ := he
 refine ⟨⟨_, _, by rw [List.length_drop], by rw [List.length_drop]; omega, by omega⟩, fun ao len cap'' hv hp => ?_, fun z hz => h.range z (List.mem_of_mem_drop hz), fun len cap'' hv => by simp at hv⟩
 simp at hv
 obtain ⟨rfl, rfl, rfl⟩ := hv
 simp at hp
 obtain ⟨b', o', he, hb, hc⟩ := h.cells _ _ _ rfl (by omega)
 simp at he
 obtain ⟨rfl, rfl⟩ := he
 refine ⟨b, o + k, rfl, hb, fun i hi => ?_⟩
 simp at hi
 rw [show o + k + i = o + (k + i) by omega, hc (k + i) (by omega), List.getD_eq_getElem?_getD, List.getD_eq_getElem?_getD, List.getElem?_drop]
theorem CtRes.trans {gt gb gt1 gb1 : Tag} {c bt bb : Nat} {cap : Int} {n lim : Nat} {fl : Bool} {B : Bld} {v : Value} {out : List Int} {w1 w2 : World} (ht : Agree w gt gt1) (hb : Agree w gb gb1) (ho : Only (fun k => Mine gt k ∨ Mine gb k) w w1)
  (h2 : CtRes w1 gt1 gb1 c bt bb cap n lim fl B v out w2) : CtRes w gt gb c bt bb cap n lim fl B v out w2 := by
 obtain ⟨gt2, gb2, hp, h0, H2, A2, A2', O2, I2, N2, N2', W2⟩ := h2
 exact ⟨gt2, gb2, hp, h0, H2, ht.trans A2 ho.size, hb.trans A2' ho.size, ho.mine2 ht hb O2, I2, N2, N2', fun h k hk => Nat.le_trans ho.size (W2 h k hk)⟩
set_option maxRecDepth 100000 in
set_option maxHeartbeats 6400000 in
theorem count_any {c bt bb : Nat} {cap : Int} {lim : Nat} (hc1 : 1 ≤ cap) (hc2 : cap ≤ 9223372036854775807) : ∀ (L : Nat) {w : World} {gt gb : Tag} {n0 hp : Nat} {fl : Bool} {B : Bld} (H : CtAt w gt gb c bt bb cap (Tot.hT n0 lim hp fl) B) (hhp : hp ≤ n0) {v : Value} {row : List Int} (hI : Ints w v row) (hL : row.length = L) (hL2 : L ≤ 1000)
  (hnt : NotMine gt v row) (hnb : NotMine gb v row) (hs : ∀ z ∈ row, z.natAbs ≤ 1000000),
  Calls Tryz.prog 54 #[.pointer (some ⟨c, 0, none⟩), v] w fun e w' => ∃ v', e = .returned v' ∧ CtRes w gt gb c bt bb cap (Tot.count cap lim row n0 fl B).2.1 lim (Tot.count cap lim row n0 fl B).2.2.1 (Tot.count cap lim row n0 fl B).2.2.2 v' (Tot.count cap lim row n0 fl B).1 w' := by
 intro L
 induction L using Nat.strongRecOn with
 | ind L ih =>
 intro w gt gb n0 hp fl B H hhp v row hI hL hL2 hnt hnb hs
 subst hL
 by_cases hlt : row.length < 2
 ·rw [Tot.count_short cap lim n0 fl B hlt]
  have hC := Clone_any hI (by omega)
  have hr := hI.range
  obtain ⟨ao, cc, rfl, _, _⟩ := hI.shape
  obtain ⟨V, hV⟩ := H.tab
  obtain ⟨U, hU⟩ := H.bld
  have hft := hV.fresh
  have hfb := hU.fresh
  have hfin : ∀ v' w', w'.ownsRow 0 3 1 v' row.length (row.map cI) → (∀ k, v'.ownBlock = some k → w.heap.size ≤ k) → Only (fun _ => False) w w' → CtRes w gt gb c bt bb cap n0 lim fl B v' row w' := by
   intro v' w' R N O
   have hbo : ∀ k, Value.blk v' = some k → v'.ownBlock = some k := by
    intro j hj
    rcases R.2 with ⟨h', _⟩ | ⟨g', cap', cur, h', _⟩
    ·rw [h'] at hj; simp [Value.blk] at hj
    ·rw [h'] at hj ⊢; simpa [Value.blk, Value.ownBlock] using hj
   exact ⟨gt, gb, hp, hhp, H.only0 O, Agree.refl _ _, Agree.refl _ _, O.mono fun _ f => f.elim, Ints.of_own R hr, fun _ k hk => hft k (N k (hbo k hk)), fun _ k hk => hfb k (N k (hbo k hk)), fun _ k hk => N k (hbo k hk)⟩
  have HC := Lib.hid hC
  have HFin := Lib.hid hfin
  clear hC hfin ih hV hU hft hfb
  have d1 : decide (row.length < 2) = true := decide_eq_true hlt
  go_enter Tryz.func54, Tryz.ntmps54
  go_wp2_with fail
  refine HC.out.mono ?_
  rintro e w2 ⟨vf, rfl, R1, N1, O2⟩
  have hf := HFin.out vf w2 R1 N1 O2
  have HF2 := Lib.hid hf
  clear R1 N1 hf HFin
  go_wp2_with fail
  go_ret
  exact ⟨_, rfl, HF2.out⟩
 ·obtain ⟨r1, hr1⟩ : ∃ r, Tot.count cap lim (row.take (row.length / 2)) n0 fl B = r := ⟨_, rfl⟩
  obtain ⟨r2, hr2⟩ : ∃ r, Tot.count cap lim (row.drop (row.length / 2)) r1.2.1 r1.2.2.1 r1.2.2.2 = r := ⟨_, rfl⟩
  obtain ⟨m, hm⟩ : ∃ m, (min ((r1.1.length : Int) + (r2.1.length : Int)) cap).toNat = m := ⟨_, rfl⟩
  have hlim : lim ≤ 65536 := by obtain ⟨V, hV⟩ := H.tab; exact hV.lim
  obtain ⟨ha, hh⟩ : ∃ ha, row.length / 2 = ha := ⟨_, rfl⟩
  rw [hh] at hr1 hr2
  have hs1 := Tot.count_small (cap := cap) hlim _ (row.take ha) n0 fl B rfl (fun z hz => hs z (List.mem_of_mem_take hz))
  have hs2 := Tot.count_small (cap := cap) hlim _ (row.drop ha) r1.2.1 r1.2.2.1 r1.2.2.2 rfl (fun z hz => hs z (List.mem_of_mem_drop hz))
  rw [hr1] at hs1
  rw [hr2] at hs2
  have hcl := Tot.count_long hlt (by rw [hh]; exact hr1) (by rw [hh]; exact hr2) hm
  generalize Tot.count cap lim row n0 fl B = r at *
  have HCl := Lib.hid hcl
  clear hcl
  obtain ⟨rb, ro, hao⟩ : ∃ rb ro, ∃ cc, v = .slice (some ⟨rb, ro, none⟩) row.length cc ∧ row.length ≤ cc ∧ cc ≤ 9223372036854775807 := by
   obtain ⟨ao, cc, hv, k1, k2⟩ := hI.shape
   obtain ⟨rb, ro, rfl, _, _⟩ := hI.cells _ _ _ hv (by omega)
   exact ⟨rb, ro, cc, hv, k1, k2⟩
  obtain ⟨cc, rfl, k1, k2⟩ := hao
  have hblk : ∀ (g : Tag), NotMine g (.slice (some ⟨rb, ro, none⟩) row.length cc) row → (g rb).1 = 0 := fun g hg => hg (by omega) rb rfl
  have g1 := hblk gt hnt
  have g2 := hblk gb hnb
  have rlt : rb < w.heap.size := hI.lt (by omega) rfl
  have od : Only (fun _ => False) w w.drew := (Only.refl _ _).drew
  have c1 := ih (row.take ha).length (by simp; omega) (H.only0 od) hhp ((hI.only0 od).takeI (k := ha) (by omega)) rfl (by simp; omega) (fun _ k hk => by simp [Value.blk] at hk; subst hk; exact g1) (fun _ k hk => by simp [Value.blk] at hk; subst hk; exact g2) (fun z hz => hs z (List.mem_of_mem_take hz))
  rw [hr1] at c1
  have c1 := c1.mono fun e w1 ⟨v1, he, hq⟩ => (⟨v1, he, CtRes.trans (Agree.refl _ _) (Agree.refl _ _) (od.mono fun _ f => f.elim) hq⟩ : ∃ v1, e = Ending.returned v1 ∧ CtRes w gt gb c bt bb cap r1.2.1 lim r1.2.2.1 r1.2.2.2 v1 r1.1 w1)
  have c2 : ∀ w1 v1, CtRes w gt gb c bt bb cap r1.2.1 lim r1.2.2.1 r1.2.2.2 v1 r1.1 w1 → Calls Tryz.prog 54 #[.pointer (some ⟨c, 0, none⟩), .slice (some ⟨rb, ro + ha, none⟩) (row.length - ha) (cc - ha)] w1 fun e w2 => ∃ v2, e = .returned v2 ∧ ∃ gt1 gb1, Agree w gt gt1 ∧ Agree w gb gb1 ∧ Only (fun k => Mine gt k ∨ Mine gb k) w w1 ∧ Ints w1 v1 r1.1 ∧ NotMine gt1 v1 r1.1 ∧ NotMine gb1 v1 r1.1 ∧ CtRes w1 gt1 gb1 c bt bb cap r2.2.1 lim r2.2.2.1 r2.2.2.2 v2 r2.1 w2 := by
   intro w1 v1 hres
   obtain ⟨gt1, gb1, hp1, h0, H1, A1, A1', O1, I1, N1, N1', _⟩ := hres
   have hI1 := hI.only' O1 (fun _ b hb hF => by simp [Value.blk] at hb; subst hb; rcases hF with hF | hF; exact hF g1; exact hF g2)
   have := ih (row.drop ha).length (by simp; omega) H1 h0 (hI1.dropI (k := ha) (by omega)) rfl (by simp; omega) (fun _ k hk => by simp [Value.blk] at hk; subst hk; rw [A1 rb rlt]; exact g1) (fun _ k hk => by simp [Value.blk] at hk; subst hk; rw [A1' rb rlt]; exact g2) (fun z hz => hs z (List.mem_of_mem_drop hz))
   rw [hr2] at this
   exact this.mono fun e w2 ⟨v2, he, hq⟩ => ⟨v2, he, gt1, gb1, A1, A1', O1, I1, N1, N1', hq⟩
  have HC1 := Lib.hid c1
  have HC2 := Lib.hid c2
  have HS1 := Lib.hid hs1
  have HS2 := Lib.hid hs2
  have HM := Lib.hid hm
  have HH := Lib.hid hh
  have hhb : 1 ≤ ha ∧ ha < row.length := by omega
  obtain ⟨hb1, hb2⟩ := hhb
  have hq : (row.length : Int) / 2 = (ha : Int) := by omega
  have hq2 : (row.length : Int).tdiv 2 = (ha : Int) := by rw [Int.tdiv_eq_ediv_of_nonneg (by omega)]; exact hq
  have hb3 : (ha : Int) ≤ (row.length : Int) := by omega
  have hb4 : (ha : Int) ≤ (cc : Int) := by omega
  have d1 : decide (row.length < 2) = false := decide_eq_false hlt
  clear c1 c2 hs1 hs2 hm hh ih hr1 hr2 hs hI hnt hnb hblk
  go_enter Tryz.func54, Tryz.ntmps54
  go_wp2_with fail
  refine wp_region_held0 (n := 12) (S := fun _ => True) (by kernel_rfl) rfl trivial (fun hHeld => ?_)
  refine wpAnyH_take (i := 0) (v := ?_) rfl (by kernel_rfl) (by kernel_rfl) (by kernel_rfl) (fun _ _ _ h => h) (Or.inl ⟨by rfl, ?_⟩) (by assumption) ?_
  rotate_left
  ·(intro w hSw; (try dsimp only at hSw); go_simp <;> (try with_reducible rfl))
  try simp only [Act.put, zq1, zq3, zq4, zq5, zq6]
  refine wpAnyH_take (i := 1) (v := ?_) rfl (by kernel_rfl) (by kernel_rfl) (by kernel_rfl) (fun _ _ _ h => h) (Or.inl ⟨by rfl, ?_⟩) (by assumption) ?_
  rotate_left
  ·(intro w hSw; (try dsimp only at hSw); go_simp <;> (try with_reducible rfl))
  try simp only [Act.put, zq1, zq2, zq3, zq4, zq5, zq6]
  refine wpAnyH_take (i := 2) (v := ?_) rfl (by kernel_rfl) (by kernel_rfl) (by kernel_rfl) (fun _ _ _ h => h) (Or.inl ⟨by rfl, ?_⟩) (by assumption) ?_
  rotate_left
  ·(intro w hSw; (try dsimp only at hSw); go_simp <;> (try with_reducible rfl))
  try simp only [Act.put, zq1, zq2, zq3, zq4, zq5, zq6]
  refine wpAnyH_take (i := 3) (v := ?_) rfl (by kernel_rfl) (by kernel_rfl) (by kernel_rfl) (fun _ _ _ h => h) (Or.inl ⟨by rfl, ?_⟩) (by assumption) ?_
  rotate_left
  ·(intro w hSw; (try dsimp only at hSw); go_simp <;> (try with_reducible rfl))
  try simp only [Act.put, zq1, zq2, zq3, zq4, zq5, zq6]
  refine wpAnyH_take (i := 5) (v := ?_) rfl (by kernel_rfl) (by kernel_rfl) (by kernel_rfl) (fun _ _ _ h => h) (Or.inl ⟨by rfl, ?_⟩) (by assumption) ?_
  rotate_left
  ·(intro w hSw; (try dsimp only at hSw); go_simp <;> (try with_reducible rfl))
  try simp only [Act.put, zq1, zq2, zq3, zq4, zq5, zq6]
  refine wpAnyH_take (i := 6) (v := ?_) rfl (by kernel_rfl) (by kernel_rfl) (by kernel_rfl) (fun _ _ _ h => h) (Or.inl ⟨by rfl, ?_⟩) (by assumption) ?_
  rotate_left
  ·(intro w hSw; (try dsimp only at hSw); go_simp <;> (try with_reducible rfl))
  try simp only [Act.put, zq1, zq2, zq3, zq4, zq5, zq6]
  refine wpAnyH_take (i := 7) (v := ?_) rfl (by kernel_rfl) (by kernel_rfl) (by kernel_rfl) (fun _ _ _ h => h) (Or.inl ⟨by rfl, ?_⟩) (by assumption) ?_
  rotate_left
  ·(intro w hSw; (try dsimp only at hSw); go_simp <;> (try with_reducible rfl))
  try simp only [Act.put, zq1, zq2, zq3, zq4, zq5, zq6]
  refine wpAnyH_take (i := 8) (v := ?_) rfl (by kernel_rfl) (by kernel_rfl) (by kernel_rfl) (fun _ _ _ h => h) (Or.inl ⟨by rfl, ?_⟩) (by assumption) ?_
  rotate_left
  ·(intro w hSw; (try dsimp only at hSw); go_simp <;> (try with_reducible rfl))
  try simp only [Act.put, zq1, zq2, zq3, zq4, zq5, zq6]
  refine wpAnyH_ready (rs := [4]) (by kernel_rfl) (by simp) ?_
  refine AllReadyH.cons (i := 4) rfl (fun K hK => ?_) ?_
  ·go_simp
   (refine HC1.out.mono ?_; rintro e wa ⟨v1, rfl, hres1⟩)
   try go_wp2_with fail
   refine hK.out _ _ ?_ (fun hHeld => ?_)
   ·(try dsimp only) <;> (trivial)
   clear hK K
   try simp only [Act.put, zq1, zq2, zq3, zq4, zq5, zq6]
   refine wpAnyH_ready (rs := [9]) (by kernel_rfl) (by simp) ?_
   refine AllReadyH.cons (i := 9) rfl (fun K hK => ?_) ?_
   ·go_simp
    (refine (HC2.out _ _ hres1).mono ?_; rintro e wb ⟨v2, rfl, hres2⟩)
    try go_wp2_with fail
    refine hK.out _ _ ?_ (fun hHeld => ?_)
    ·(try dsimp only) <;> (trivial)
    clear hK K
    try simp only [Act.put, zq1, zq2, zq3, zq4, zq5, zq6]
    refine wpAnyH_take (i := 10) (v := ?_) rfl (by kernel_rfl) (by kernel_rfl) (by kernel_rfl) (fun _ _ _ h => h) (Or.inl ⟨by rfl, ?_⟩) (by assumption) ?_
    rotate_left
    ·(intro w hSw; (try dsimp only at hSw); go_simp <;> (try with_reducible rfl))
    try simp only [Act.put, zq1, zq2, zq3, zq4, zq5, zq6]
    refine wpAnyH_take (i := 11) (v := ?_) rfl (by kernel_rfl) (by kernel_rfl) (by kernel_rfl) (fun _ _ _ h => h) (Or.inl ⟨by rfl, ?_⟩) (by assumption) ?_
    rotate_left
    ·(intro w hSw; (try dsimp only at hSw); go_simp <;> (try with_reducible rfl))
    try simp only [Act.put, zq1, zq2, zq3, zq4, zq5, zq6]
    refine wpAnyH_done (by kernel_rfl) ?_ _
    obtain ⟨gt1, gb1, A1, A1', O1, I1, N1, N1', hq⟩ := hres2
    have hq2' := hq
    obtain ⟨gt2, gb2, hp2, h0, H2, A2, A2', O2, I2, N2, N2', _⟩ := hq
    have I1' := I1.only' O2 (fun hp b hb hF => by rcases hF with hF | hF; exact hF (N1 hp b hb); exact hF (N1' hp b hb))
    have M1 := N1.agree I1 A2
    have M1' := N1'.agree I1 A2'
    have hO2 := O1.mine2 A1 A1' O2
    have hA2 := A1.trans A2 O1.size
    have hA2' := A1'.trans A2' O1.size
    have hnil : CtRes w gt gb c bt bb cap r2.2.1 lim r2.2.2.1 r2.2.2.2 (.slice none 0 0) [] wb := ⟨gt2, gb2, hp2, h0, H2, hA2, hA2', hO2, Ints.nilI _, fun h => by simp at h, fun h => by simp at h, fun h => by simp at h⟩
    obtain ⟨a1, c1', rfl, _, _⟩ := I1'.shape
    obtain ⟨a2, c2', rfl, _, _⟩ := I2.shape
    have HNil := Lib.hid hnil
    clear hnil hq2' hres1 HC1 HC2 O1 O2 I1
    by_cases e1 : r1.1.length = 0
    ·have hr : r = ([], r2.2) := by rw [HCl.out, if_pos (.inl e1)]
     have HRr := Lib.hid hr
     rw [e1]
     clear hr I1' I2 M1 M1' N1 N1' N2 N2'
     go_wp2_with fail
     go_ret
     exact ⟨_, rfl, by rw [HRr.out]; exact HNil.out⟩
    ·by_cases e2 : r2.1.length = 0
     ·have hr : r = ([], r2.2) := by rw [HCl.out, if_pos (.inr e2)]
      have HRr := Lib.hid hr
      rw [e2]
      have e1' : ¬ (r1.1.length : Int) = 0 := by omega
      clear hr I1' I2 M1 M1' N1 N1' N2 N2'
      go_wp2_with fail
      go_ret
      exact ⟨_, rfl, by rw [HRr.out]; exact HNil.out⟩
     ·have l1 := HS1.out.2
      have l2 := HS2.out.2
      simp only [List.length_take, List.length_drop] at l1 l2
      have hMg := merge_any H2 h0 I1' I2 (by omega) (by omega) (by omega) (by omega) M1 M1' N2 N2' HS1.out.1 HS2.out.1 hc1 hc2 m (by have := HM.out; omega)
      have hr : r = if r2.2.1 + m ≤ lim then (Tot.nums r2.2.1 m, r2.2.1 + m, r2.2.2.1, Tot.adds r2.2.2.2 (Tot.allC r1.1 r2.1 (Tot.nums r2.2.1 m) m (r1.1.length + 1))) else ([], lim, true, r2.2.2.2) := by rw [HCl.out, if_neg (by omega)]
      have HRr := Lib.hid hr
      have HMg := Lib.hid hMg
      have e1' : ((r1.1.length : Int) == 0) = false := by rw [beq_eq_false_iff_ne]; omega
      have e2' : ((r2.1.length : Int) == 0) = false := by rw [beq_eq_false_iff_ne]; omega
      clear hr hMg I1' I2 M1 M1' N1 N1' N2 N2' l1 l2 HCl
      go_wp2_with fail
      refine HMg.out.mono ?_
      rintro e wc ⟨v3, rfl, h3⟩
      have hfin : CtRes w gt gb c bt bb cap r.2.1 lim r.2.2.1 r.2.2.2 v3 r.1 wc := by
       rw [HRr.out]
       split at h3
       ·rename_i hf
        rw [if_pos hf]; exact h3.trans hA2 hA2' hO2
       ·rename_i hf
        rw [if_neg hf]; exact h3.trans hA2 hA2' hO2
      have HFin := Lib.hid hfin
      clear hfin h3 HMg HRr
      go_wp2_with fail
      go_ret
      exact ⟨_, rfl, HFin.out⟩
   exact AllReadyH.nil
  exact AllReadyH.nil
end
end Go.Proofs.YtjedgdamommgeaaGreat
