/- The walks of package rup, sixth part: begin. -/
import Derived.Test.YtjbfgafkjejdjaaRup5
namespace Go.Proofs.Ytjbfgafkjejdjaa
open Go.RowKit
attribute [local go_sem ↓] Go.wp_at_zero Go.wp_at_succ

namespace Rup
def Chk.zero (n : Nat) : Chk := { n := n, cls := [], gone := [], of := fun _ => [], set := [] }
/-- a clause more, if it may be -/
def Chk.more (C : Chk) (c : List Int) : Chk := match formR C.n c with | none => C | some f => C.add f
def Chk.all (C : Chk) (css : List (List Int)) : Chk := css.foldl Chk.more C

theorem Chk.zero_ok {n : Nat} (h : n ≤ 65536) : (Chk.zero n).Ok :=
  ⟨h, rfl, (fun c hc => by cases hc), ⟨(fun x hx => by cases hx), List.nodup_nil⟩, by simp [Chk.zero], fun p _ => rfl⟩

theorem formR_ok {n : Nat} {c f : List Int} (hr : ∀ x ∈ c, InI64 x) (h : formR n c = some f) : Up.Cls n f ∧ (∀ x ∈ f, Cnf.Lit x) ∧ Cnf.AbsStrict f ∧ Up.Good n (f.map fun x => -x) := by
  unfold formR at h
  split at h
  · rename_i hright
    unfold Cnf.right at hright
    simp only [Bool.and_eq_true, List.all_eq_true] at hright
    have hm := form_mem h
    have hlit : ∀ x ∈ f, Cnf.Lit x := fun x hx => by
      have h1 := hright.1 x ((hm x).1 hx)
      unfold Cnf.okAt at h1
      simp only [Bool.and_eq_true, Bool.not_eq_true'] at h1
      exact ⟨hr x ((hm x).1 hx), h1.1⟩
    have hle : ∀ x ∈ f, x.natAbs ≤ n := fun x hx => by
      have h1 := hright.1 x ((hm x).1 hx)
      unfold Cnf.okAt at h1
      simp only [Bool.and_eq_true, decide_eq_true_eq] at h1
      omega
    have habs : Cnf.AbsStrict f := by
      unfold Cnf.form at h
      split at h
      · cases h
      · split at h
        · cases h
        · rename_i hcl
          simp at h; subst h
          have hs := Cnf.formL_strict c
          unfold Cnf.Strict at hs
          unfold Cnf.AbsStrict
          rw [List.pairwise_iff_getElem] at hs ⊢
          -- two side by side are no opposites
          have step : ∀ i (hi : i + 1 < (Cnf.formL c).length), ((Cnf.formL c)[i]).natAbs < ((Cnf.formL c)[i + 1]).natAbs := by
            intro i hi
            have h1 := hs i (i + 1) (by omega) hi (by omega)
            have l1 := hlit _ (List.getElem_mem (show i < (Cnf.formL c).length by omega))
            have l2 := hlit _ (List.getElem_mem hi)
            rw [Cnf.lt_iff, l1.abs, l2.abs] at h1
            rcases h1 with h1 | ⟨h1, h2⟩
            · omega
            · exfalso
              apply hcl
              unfold Cnf.clash
              rw [List.any_eq_true]
              refine ⟨i + 1, by simpa using hi, ?_⟩
              have e1 : (Cnf.formL c).getD (i + 1) 0 = (Cnf.formL c)[i + 1] := by simp [List.getD_eq_getElem?_getD, hi]
              have e2 : (Cnf.formL c).getD (i + 1 - 1) 0 = (Cnf.formL c)[i] := by simp [List.getD_eq_getElem?_getD, show i < (Cnf.formL c).length by omega]
              rw [e1, e2, l1.wrap]
              simp
              omega
          intro i j hi hj hij
          have key : ∀ d, ∀ (h : i + 1 + d < (Cnf.formL c).length), ((Cnf.formL c)[i]).natAbs < ((Cnf.formL c)[i + 1 + d]).natAbs := by
            intro d
            induction d with
            | zero => intro h; exact step i (by omega)
            | succ d ih =>
              intro h
              have h1 := ih (by omega)
              have h2 := step (i + 1 + d) (by omega)
              have e : i + 1 + (d + 1) = i + 1 + d + 1 := by omega
              simp only [e]
              omega
          have := key (j - i - 1) (by omega)
          simpa [show i + 1 + (j - i - 1) = j by omega] using this
    refine ⟨⟨fun x hx => ⟨(hlit x hx).ne0, hle x hx⟩, ?_⟩, hlit, habs, ⟨fun x hx => ?_, ?_⟩⟩
    · unfold Cnf.AbsStrict at habs
      exact habs.imp (fun h e => by rw [e] at h; omega)
    · obtain ⟨y, hy, rfl⟩ := List.mem_map.1 hx
      have := (hlit y hy).ne0
      have := hle y hy
      omega
    · rw [List.map_map]
      have e : (Int.natAbs ∘ fun x => -x) = Int.natAbs := by funext x; simp
      rw [e]
      unfold Cnf.AbsStrict at habs
      exact List.pairwise_map.2 (habs.imp (fun h => by omega))
  · cases h

theorem Chk.Ok.more {C : Chk} (o : C.Ok) {c : List Int} (hr : ∀ x ∈ c, InI64 x) (hl : C.cls.length < 1000000) : (C.more c).Ok := by
  unfold Chk.more
  split
  · exact o
  · rename_i f hf; exact o.add (formR_ok hr hf).1 hl
theorem more_n (C : Chk) (c : List Int) : (C.more c).n = C.n := by
  unfold Chk.more; split <;> rfl
theorem more_set (C : Chk) (c : List Int) : (C.more c).set = C.set := by
  unfold Chk.more; split <;> rfl
theorem more_len (C : Chk) (c : List Int) : (C.more c).cls.length ≤ C.cls.length + 1 := by
  unfold Chk.more; split <;> simp [Chk.add]
theorem all_snoc (C : Chk) (css : List (List Int)) (c : List Int) : C.all (css ++ [c]) = (C.all css).more c := by simp [Chk.all]
theorem all_n : ∀ (css : List (List Int)) (C : Chk), (C.all css).n = C.n
  | [], _ => rfl
  | c :: r, C => (all_n r (C.more c)).trans (more_n C c)
theorem all_set : ∀ (css : List (List Int)) (C : Chk), (C.all css).set = C.set
  | [], _ => rfl
  | c :: r, C => (all_set r (C.more c)).trans (more_set C c)
theorem all_len : ∀ (css : List (List Int)) (C : Chk), (C.all css).cls.length ≤ C.cls.length + css.length
  | [], _ => Nat.le_refl _
  | c :: r, C => by
    have h1 := all_len r (C.more c)
    have h2 := more_len C c
    simp only [Chk.all, List.foldl_cons, List.length_cons] at h1 ⊢
    omega
end Rup

/-- a new row is the object's from now on -/
def Tag.own (g : Tag) (v : Value) (t : Nat × Nat) : Tag := fun k => if v.ownBlock = some k then t else g k

section
variable {w : World} {g : Tag} {b : Nat} {V : RupV} {C : Rup.Chk}

theorem Row.own_tag {t t' : Nat × Nat} {e : TypeId} {v u : Value} {xs : List Value} (h : Row w g t e v xs) (ht : t.1 ≠ 0) (hu : ∀ k, u.ownBlock = some k → (g k).1 = 0) : Row w (g.own u t') t e v xs :=
  h.retag fun k hk => by
    unfold Tag.own
    rw [if_neg]
    · exact h.tg k hk
    · intro e; have := hu k e; rw [h.tg k hk] at this; exact ht this

theorem ChkAt.own (H : ChkAt w g b V C) {u : Value} (hu : ∀ k, u.ownBlock = some k → (g k).1 = 0 ∧ k < w.heap.size) : ChkAt w (g.own u (7, 0)) b V C := by
  have hu1 := fun k hk => (hu k hk).1
  have keep : ∀ k, (g k).1 ≠ 0 → g.own u (7, 0) k = g k := fun k hk => by
    unfold Tag.own; rw [if_neg]; intro e; exact hk (hu1 k e)
  refine ⟨H.blk, by rw [keep b (by rw [H.tb]; decide)]; exact H.tb, H.c.own_tag (by decide) hu1, H.ci, fun i hi hp k hk => ?_, H.gn.own_tag (by decide) hu1, H.o.own_tag (by decide) hu1, H.ol, fun p hp => (H.oi p hp).own_tag (by simp) hu1, H.v.own_tag (by decide) hu1, H.s.own_tag (by decide) hu1, fun k hk => ?_⟩
  · have := H.ct i hi hp k hk
    rw [keep k (by rw [this]; decide)]; exact this
  · unfold Tag.own
    rw [if_neg]
    · exact H.fresh k hk
    · intro e; have := (hu k e).2; omega

theorem Tag.own_agree {w0 : World} {u : Value} {t : Nat × Nat} (hu : ∀ k, u.ownBlock = some k → w0.heap.size ≤ k) : Agree w0 g (g.own u t) := fun k hk => by
  unfold Tag.own
  rw [if_neg]
  intro e; have := hu k e; omega

theorem Tagged.own {vf : Value} {f : List Int} {n : Nat} {xs : List Value} (h : w.ownsRow 0 3 1 vf n xs) : Tagged (g.own vf (7, 0)) (7, 0) vf f := by
  intro _ k hk
  unfold Tag.own
  rw [if_pos]
  rcases h.2 with ⟨h', _⟩ | ⟨g', cap', cur, h', _⟩
  · rw [h'] at hk; simp [Value.blk] at hk
  · rw [h'] at hk ⊢; simpa [Value.blk, Value.ownBlock] using hk

/-- the checker of clauses, made anew -/
def RupBegun (w : World) (C : Rup.Chk) (b : Nat) (w' : World) : Prop := ∃ g V, ChkAt w' g b V C ∧ (∀ k, k < w.heap.size → (g k).1 = 0) ∧ Only (fun _ => False) w w'

theorem RupBegun.mine {w' w2 : World} {g' : Tag} (h : ∀ k, k < w.heap.size → (g' k).1 = 0) (o : Only (fun _ => False) w w') (o2 : Only (Mine g') w' w2) : Only (fun _ => False) w w2 :=
  o.trans o2 fun i hi => by
    right
    rcases Nat.lt_or_ge i w.heap.size with c | c
    · exact (hi (h i c)).elim
    · exact c

theorem rup_new {wx : World} {ko kv N : Nat} (ho : wx.ownsRow 0 22 1 (.slice (some ⟨ko, 0, none⟩) (2 * N) (2 * N)) (2 * N) (List.replicate (2 * N) nilS)) (hv : wx.ownsRow 0 3 1 (.slice (some ⟨kv, 0, none⟩) N N) N (List.replicate N (.int .i64 0)))
    (hne : ko ≠ kv) (h1 : w.heap.size ≤ ko) (h2 : w.heap.size ≤ kv) (hO : Only (fun _ => False) w wx) :
    RupBegun w (Rup.Chk.zero N) wx.heap.size (wx.alloc (.cells #[.int .i64 (N : Int), .slice none 0 0, .slice none 0 0, .slice (some ⟨ko, 0, none⟩) (2 * N) (2 * N), .slice (some ⟨kv, 0, none⟩) N N, .slice none 0 0] 103)) := by
  have l1 := own_lt ho (k := ko) rfl
  have l2 := own_lt hv (k := kv) rfl
  have hs := hO.size
  refine ⟨fun k => if k = wx.heap.size then (1, 0) else if k = ko then (4, 0) else if k = kv then (5, 0) else (0, 0), { vc := nilS, vg := nilS, vo := .slice (some ⟨ko, 0, none⟩) (2 * N) (2 * N), vv := .slice (some ⟨kv, 0, none⟩) N N, vs := nilS, us := [], os := List.replicate (2 * N) nilS },
    ⟨heap_alloc_new _ _, if_pos rfl, Row.nil _ _ _ _, ⟨rfl, fun i hi => by simp [Rup.Chk.zero] at hi⟩, fun i hi => by simp [Rup.Chk.zero] at hi, Row.nil _ _ _ _, ?_, by simp [Rup.Chk.zero], fun p hp => ?_, ?_, Row.nil _ _ _ _, fun k hk => ?_⟩, fun k hk => ?_, hO.alloc _⟩
  · refine ⟨by simpa using ho.alloc _, fun k hk => ?_⟩
    simp [Value.ownBlock] at hk
    subst hk
    show (if ko = wx.heap.size then (1, 0) else if ko = ko then (4, 0) else if ko = kv then (5, 0) else (0, 0)) = ((4, 0) : Nat × Nat)
    rw [if_neg (by omega), if_pos rfl]
  · have : (List.replicate (2 * N) nilS).getD p nilS = nilS := by
      simp only [List.getD_eq_getElem?_getD, List.getElem?_replicate]
      split <;> rfl
    simp only [this]
    exact Row.nil _ _ _ _
  · have hz : (Rup.valL N []).map cI = List.replicate N (.int .i64 0) := by
      apply List.ext_getElem
      · simp [Rup.valL]
      · intro i h1 h2
        simp [Rup.valL, Cnf.value, cI]
    show Row _ _ _ _ _ ((Rup.valL N []).map cI)
    rw [hz]
    refine ⟨by simpa using hv.alloc _, fun k hk => ?_⟩
    simp [Value.ownBlock] at hk
    subst hk
    show (if kv = wx.heap.size then (1, 0) else if kv = ko then (4, 0) else if kv = kv then (5, 0) else (0, 0)) = ((5, 0) : Nat × Nat)
    rw [if_neg (by omega), if_neg (by omega), if_pos rfl]
  · simp at hk
    show ((if k = wx.heap.size then (1, 0) else if k = ko then (4, 0) else if k = kv then (5, 0) else (0, 0)) : Nat × Nat).1 = 0
    rw [if_neg (by omega), if_neg (by omega), if_neg (by omega)]
  · show ((if k = wx.heap.size then (1, 0) else if k = ko then (4, 0) else if k = kv then (5, 0) else (0, 0)) : Nat × Nat).1 = 0
    rw [if_neg (by omega), if_neg (by omega), if_neg (by omega)]

theorem rup_new_A {wo wv : World} {N : Nat} (ro : wo.ownsRow 0 22 1 (.slice (some ⟨w.drew.heap.size, 0, none⟩) (2 * N) (2 * N)) (2 * N) (List.replicate (2 * N) nilS)) (oo : Only (fun _ => False) w.drew wo)
    (rv : wv.ownsRow 0 3 1 (.slice (some ⟨wo.heap.size, 0, none⟩) N N) N (List.replicate N (.int .i64 0))) (ov : Only (fun _ => False) wo wv) :
    RupBegun w (Rup.Chk.zero N) wv.heap.size (wv.alloc (.cells #[.int .i64 (N : Int), .slice none 0 0, .slice none 0 0, .slice (some ⟨w.heap.size, 0, none⟩) (2 * N) (2 * N), .slice (some ⟨wo.heap.size, 0, none⟩) N N, .slice none 0 0] 103)) := by
  have l1 := own_lt ro (k := w.heap.size) rfl
  exact rup_new (own_only ro ov (fun _ _ f => f)) rv (by omega) (Nat.le_refl _) (by omega) ((((Only.refl _ w).drew).same oo).same ov)

theorem rup_new_B {wo wv : World} {N : Nat} (ro : wo.ownsRow 0 22 1 (.slice (some ⟨wv.heap.size, 0, none⟩) (2 * N) (2 * N)) (2 * N) (List.replicate (2 * N) nilS)) (oo : Only (fun _ => False) wv wo)
    (rv : wv.ownsRow 0 3 1 (.slice (some ⟨w.drew.heap.size, 0, none⟩) N N) N (List.replicate N (.int .i64 0))) (ov : Only (fun _ => False) w.drew wv) :
    RupBegun w (Rup.Chk.zero N) wo.heap.size (wo.alloc (.cells #[.int .i64 (N : Int), .slice none 0 0, .slice none 0 0, .slice (some ⟨wv.heap.size, 0, none⟩) (2 * N) (2 * N), .slice (some ⟨w.heap.size, 0, none⟩) N N, .slice none 0 0] 103)) := by
  have l1 := own_lt rv (k := w.heap.size) rfl
  exact rup_new ro (own_only rv oo (fun _ _ f => f)) (by omega) (by omega) (Nat.le_refl _) ((((Only.refl _ w).drew).same ov).same oo)

set_option maxRecDepth 100000 in
set_option maxHeartbeats 3200000 in
theorem rup_begin_any {vcs : Value} {css : List (List Int)} (hI : IntsS w vcs css) (hb : css.length ≤ 100000) (hb2 : ∀ c ∈ css, c.length ≤ 1099511627776) (n : Int) (N : Nat) (hN : (N : Int) = min (max n 0) 65536) :
    Calls Try.prog 52 #[.int .i64 n, vcs] w fun e w' => ∃ b, e = .returned (.pointer (some ⟨b, 0, none⟩)) ∧ RupBegun w ((Rup.Chk.zero N).all css) b w' ∧ ((Rup.Chk.zero N).all css).Ok := by
  obtain ⟨ac, cc, rfl, hc1, hc2⟩ := hI.shape
  have hN1 : N ≤ 65536 := by omega
  have hmin : min (max n 0) 65536 = (N : Int) := hN.symm
  clear hN
  go_enter Try.func52, Try.ntmps52
  go_wp2_with fail
  have ew : IntKind.i64.wrap (2 * (N : Int)) = 2 * (N : Int) := IntWalk.i64_in _ (by omega)
  refine wp_region_held_drew (S := fun _ => True) (by kernel_rfl) trivial (fun hHeld => ?_)
  refine wpAnyH_take (i := 0) (v := ?_) rfl (by kernel_rfl) (by kernel_rfl) (by kernel_rfl) (fun _ _ _ h => h) (Or.inl ⟨by rfl, ?_⟩) (by assumption) ?_
  rotate_left
  · (intro w hSw; (try dsimp only at hSw); go_simp <;> (try with_reducible rfl))
  try simp only [Act.put, List.getElem_toArray, List.getElem_cons_succ, List.getElem_cons_zero, List.setIfInBounds_toArray, List.set_cons_zero, List.set_cons_succ]
  refine wpAnyH_take (i := 1) (v := ?_) rfl (by kernel_rfl) (by kernel_rfl) (by kernel_rfl) (fun _ _ _ h => h) (Or.inl ⟨by rfl, ?_⟩) (by assumption) ?_
  rotate_left
  · (intro w hSw; (try dsimp only at hSw); go_simp <;> (try with_reducible rfl))
  try simp only [Act.put, List.getElem_toArray, List.getElem_cons_succ, List.getElem_cons_zero, List.setIfInBounds_toArray, List.set_cons_zero, List.set_cons_succ]
  refine wpAnyH_take (i := 2) (v := ?_) rfl (by kernel_rfl) (by kernel_rfl) (by kernel_rfl) (fun _ _ _ h => h) (Or.inl ⟨by rfl, ?_⟩) (by assumption) ?_
  rotate_left
  · (intro w hSw; (try dsimp only at hSw); go_simp <;> (try with_reducible rfl))
  try simp only [Act.put, List.getElem_toArray, List.getElem_cons_succ, List.getElem_cons_zero, List.setIfInBounds_toArray, List.set_cons_zero, List.set_cons_succ]
  refine wpAnyH_take (i := 4) (v := ?_) rfl (by kernel_rfl) (by kernel_rfl) (by kernel_rfl) (fun _ _ _ h => h) (Or.inl ⟨by rfl, ?_⟩) (by assumption) ?_
  rotate_left
  · (intro w hSw; (try dsimp only at hSw); go_simp <;> (try with_reducible rfl))
  try simp only [Act.put, List.getElem_toArray, List.getElem_cons_succ, List.getElem_cons_zero, List.setIfInBounds_toArray, List.set_cons_zero, List.set_cons_succ]
  refine wpAnyH_ready (rs := [3, 5]) (by kernel_rfl) (by simp) ?_
  refine AllReadyH.cons (i := 3) rfl (fun K hK => ?_) ?_
  · (refine stepM (bytes := 24) (z := nilS) Try.underlying35 (by kernel_rfl) rfl (by rfl) (.tmp 15) (.tmp 15) (by rfl) (2 * N) (by rfl) (by rfl) (by omega) (by omega) (by omega) (by decide) ?_; intro wo ro oo lo)
    refine hK.out _ _ ?_ (fun hHeld => ?_)
    · (try dsimp only) <;> (trivial)
    clear hK K
    try simp only [Act.put, List.getElem_toArray, List.getElem_cons_succ, List.getElem_cons_zero, List.setIfInBounds_toArray, List.set_cons_zero, List.set_cons_succ]
    refine wpAnyH_ready (rs := [5]) (by kernel_rfl) (by simp) ?_
    refine AllReadyH.cons (i := 5) rfl (fun K hK => ?_) ?_
    · (refine stepM (bytes := 8) (z := .int .i64 0) Try.underlying22 (by kernel_rfl) rfl (by rfl) (.tmp 17) (.tmp 17) (by rfl) N (by rfl) (by rfl) (by omega) (by omega) (by omega) (by decide) ?_; intro wv rv ov lv)
      refine hK.out _ _ ?_ (fun hHeld => ?_)
      · (try dsimp only) <;> (trivial)
      clear hK K
      try simp only [Act.put, List.getElem_toArray, List.getElem_cons_succ, List.getElem_cons_zero, List.setIfInBounds_toArray, List.set_cons_zero, List.set_cons_succ]
      refine wpAnyH_take (i := 6) (v := ?_) rfl (by kernel_rfl) (by kernel_rfl) (by kernel_rfl) (fun _ _ _ h => h) (Or.inl ⟨by rfl, ?_⟩) (by assumption) ?_
      rotate_left
      · (intro w hSw; (try dsimp only at hSw); go_simp <;> (try with_reducible rfl))
      try simp only [Act.put, List.getElem_toArray, List.getElem_cons_succ, List.getElem_cons_zero, List.setIfInBounds_toArray, List.set_cons_zero, List.set_cons_succ]
      refine wpAnyH_ready (rs := [7]) (by kernel_rfl) (by simp) ?_
      refine AllReadyH.cons (i := 7) rfl (fun K hK => ?_) ?_
      · go_simp
        refine hK.out _ _ ?_ (fun hHeld => ?_)
        · (try dsimp only) <;> (trivial)
        clear hK K
        try simp only [Act.put, List.getElem_toArray, List.getElem_cons_succ, List.getElem_cons_zero, List.setIfInBounds_toArray, List.set_cons_zero, List.set_cons_succ]
        refine wpAnyH_take (i := 8) (v := ?_) rfl (by kernel_rfl) (by kernel_rfl) (by kernel_rfl) (fun _ _ _ h => h) (Or.inl ⟨by rfl, ?_⟩) (by assumption) ?_
        rotate_left
        · (intro w hSw; (try dsimp only at hSw); go_simp <;> (try with_reducible rfl))
        try simp only [Act.put, List.getElem_toArray, List.getElem_cons_succ, List.getElem_cons_zero, List.setIfInBounds_toArray, List.set_cons_zero, List.set_cons_succ]
        refine wpAnyH_done (by kernel_rfl) ?_ _
        have hbeg := rup_new_A ro oo rv ov
        have HBeg := Lib.hid hbeg
        have hok := Rup.Chk.zero_ok hN1
        have HOk := Lib.hid hok
        clear hbeg ro oo rv ov lo lv hok ew
        generalize hBB : wv.heap.size = B at *
        generalize hWW : (wv.alloc (Obj.cells #[.int .i64 (N : Int), .slice none 0 0, .slice none 0 0, .slice (some ⟨w.heap.size, 0, none⟩) (2 * N) (2 * N), .slice (some ⟨wo.heap.size, 0, none⟩) N N, .slice none 0 0] 103)) = W0 at *
        clear hBB hWW
        go_wp2_with fail
        go_loopw [23] (fun v wr => ∃ k : Nat, v = .int .i64 k ∧ k ≤ css.length ∧ RupBegun w ((Rup.Chk.zero N).all (css.take k)) B wr ∧ ((Rup.Chk.zero N).all (css.take k)).Ok) (fun v _ => css.length - (intOf v).toNat)
        case atStart => exact ⟨0, rfl, Nat.zero_le _, HBeg.out, HOk.out⟩
        case round =>
          clear HBeg
          obtain ⟨k, rfl, hk, hB, ok⟩ := hrel
          by_cases ck : k < css.length
          · have hB2 := hB
            obtain ⟨g1, V1, H1, hcl, hO⟩ := hB
            obtain ⟨bc, oc, u, rfl, _, qc, hIu⟩ := (hI.only0 hO).at ck
            have hcm := getD_mem' [] ck
            have hcb := hb2 _ hcm
            have hnN : ((Rup.Chk.zero N).all (css.take k)).n = N := Rup.all_n _ _
            have hln := Rup.all_len (css.take k) (Rup.Chk.zero N)
            have hlk : (css.take k).length ≤ k := List.length_take_le _ _
            have hz0 : (Rup.Chk.zero N).cls.length = 0 := rfl
            have hcl2 : ((Rup.Chk.zero N).all (css.take k)).cls.length < 1000000 := by omega
            clear hz0
            have hts : css.take (k + 1) = css.take k ++ [css.getD k []] := by
              rw [List.take_succ_eq_append_getElem ck]; simp [List.getD_eq_getElem?_getD, ck]
            have hall : (Rup.Chk.zero N).all (css.take (k + 1)) = ((Rup.Chk.zero N).all (css.take k)).more (css.getD k []) := by rw [hts, Rup.all_snoc]
            have hrng := hIu.range
            have hokm := ok.more hrng hcl2
            have hF := rup_form_any H1 ok.n hIu hcb
            have HF := Lib.hid hF
            have HAll := Lib.hid hall
            have HOkm := Lib.hid hokm
            have HRng := Lib.hid hrng
            have HClr := Lib.hid hcl
            have HB2 := Lib.hid hB2
            clear hF hall hokm hrng hcl hts hln hlk hcm hB2
            generalize css.getD k [] = c at *
            generalize (Rup.Chk.zero N).all (css.take k) = C at *
            go_wp2_with fail
            refine HF.out.mono ?_
            intro e w1 hp
            unfold RupFormPost at hp
            cases hf : Rup.formR C.n c with
            | none =>
              rw [hf] at hp
              obtain ⟨rfl, O1⟩ := hp
              have hm : C.more c = C := by unfold Rup.Chk.more; rw [hf]
              have HM := Lib.hid hm
              clear hf hm
              go_wp2_with fail
              go_roundw
              case rel => exact ⟨k + 1, by go_num, by omega, by rw [HAll.out, HM.out]; exact ⟨g1, V1, H1.only0 O1, HClr.out, hO.same O1⟩, by rw [HAll.out]; exact HOkm.out⟩
              case measure => simp [intOf]; omega
            | some f =>
              rw [hf] at hp
              obtain ⟨vf, rfl, R1, N1, O1⟩ := hp
              have hm : C.more c = C.add f := by unfold Rup.Chk.more; rw [hf]
              have hfo := Rup.formR_ok HRng.out hf
              have hIf := Ints.of_own R1 (fun x hx => (hfo.2.1 x hx).r)
              have H2 := (H1.only0 O1).own (u := vf) (fun k hk => ⟨H1.fresh k (N1 k hk), own_lt R1 hk⟩)
              have hadd := rup_add_any H2 ok hIf (Tagged.own R1) hfo.1 hcl2
              have HAdd := Lib.hid hadd
              have HM := Lib.hid hm
              clear hf hm hadd hfo
              obtain ⟨af, cf, rfl, _, _⟩ := hIf.shape
              go_wp2_with fail
              refine HAdd.out.mono ?_
              rintro e w2 ⟨rfl, g2, V2, H3, A3, O3⟩
              have hclr2 : ∀ k, k < w.heap.size → (g2 k).1 = 0 := fun k hk => by
                have h1 := hO.size
                have h2 := O1.size
                rw [A3 k (by omega)]
                unfold Tag.own
                rw [if_neg]
                · exact HClr.out k hk
                · intro e; have := N1 k e; omega
              have hbeg2 : RupBegun w (C.add f) B w2 := by
                refine ⟨g2, V2, H3, hclr2, RupBegun.mine (g' := g1.own (.slice af f.length cf) (7, 0)) (fun k hk => ?_) (hO.same O1) O3⟩
                unfold Tag.own
                rw [if_neg]
                · exact HClr.out k hk
                · intro e; have := N1 k e; have := hO.size; omega
              have HB3 := Lib.hid hbeg2
              clear hbeg2 hclr2 H3 A3 O3
              go_wp2_with fail
              go_roundw
              case rel => exact ⟨k + 1, by go_num, by omega, by rw [HAll.out, HM.out]; exact HB3.out, by rw [HAll.out]; exact HOkm.out⟩
              case measure => simp [intOf]; omega
          · have hk' : k = css.length := by omega
            have hfin : RupBegun w ((Rup.Chk.zero N).all css) B wr ∧ ((Rup.Chk.zero N).all css).Ok := by
              rw [hk', List.take_of_length_le (Nat.le_refl _)] at hB ok
              exact ⟨hB, ok⟩
            have HFin := Lib.hid hfin
            clear hfin hB ok
            go_wp2_with fail
            go_ret
            exact ⟨B, rfl, HFin.out⟩
      exact AllReadyH.nil
    exact AllReadyH.nil
  refine AllReadyH.cons (i := 5) rfl (fun K hK => ?_) ?_
  · (refine stepM (bytes := 8) (z := .int .i64 0) Try.underlying22 (by kernel_rfl) rfl (by rfl) (.tmp 17) (.tmp 17) (by rfl) N (by rfl) (by rfl) (by omega) (by omega) (by omega) (by decide) ?_; intro wv rv ov lv)
    refine hK.out _ _ ?_ (fun hHeld => ?_)
    · (try dsimp only) <;> (trivial)
    clear hK K
    try simp only [Act.put, List.getElem_toArray, List.getElem_cons_succ, List.getElem_cons_zero, List.setIfInBounds_toArray, List.set_cons_zero, List.set_cons_succ]
    refine wpAnyH_ready (rs := [3]) (by kernel_rfl) (by simp) ?_
    refine AllReadyH.cons (i := 3) rfl (fun K hK => ?_) ?_
    · (refine stepM (bytes := 24) (z := nilS) Try.underlying35 (by kernel_rfl) rfl (by rfl) (.tmp 15) (.tmp 15) (by rfl) (2 * N) (by rfl) (by rfl) (by omega) (by omega) (by omega) (by decide) ?_; intro wo ro oo lo)
      refine hK.out _ _ ?_ (fun hHeld => ?_)
      · (try dsimp only) <;> (trivial)
      clear hK K
      try simp only [Act.put, List.getElem_toArray, List.getElem_cons_succ, List.getElem_cons_zero, List.setIfInBounds_toArray, List.set_cons_zero, List.set_cons_succ]
      refine wpAnyH_take (i := 6) (v := ?_) rfl (by kernel_rfl) (by kernel_rfl) (by kernel_rfl) (fun _ _ _ h => h) (Or.inl ⟨by rfl, ?_⟩) (by assumption) ?_
      rotate_left
      · (intro w hSw; (try dsimp only at hSw); go_simp <;> (try with_reducible rfl))
      try simp only [Act.put, List.getElem_toArray, List.getElem_cons_succ, List.getElem_cons_zero, List.setIfInBounds_toArray, List.set_cons_zero, List.set_cons_succ]
      refine wpAnyH_ready (rs := [7]) (by kernel_rfl) (by simp) ?_
      refine AllReadyH.cons (i := 7) rfl (fun K hK => ?_) ?_
      · go_simp
        refine hK.out _ _ ?_ (fun hHeld => ?_)
        · (try dsimp only) <;> (trivial)
        clear hK K
        try simp only [Act.put, List.getElem_toArray, List.getElem_cons_succ, List.getElem_cons_zero, List.setIfInBounds_toArray, List.set_cons_zero, List.set_cons_succ]
        refine wpAnyH_take (i := 8) (v := ?_) rfl (by kernel_rfl) (by kernel_rfl) (by kernel_rfl) (fun _ _ _ h => h) (Or.inl ⟨by rfl, ?_⟩) (by assumption) ?_
        rotate_left
        · (intro w hSw; (try dsimp only at hSw); go_simp <;> (try with_reducible rfl))
        try simp only [Act.put, List.getElem_toArray, List.getElem_cons_succ, List.getElem_cons_zero, List.setIfInBounds_toArray, List.set_cons_zero, List.set_cons_succ]
        refine wpAnyH_done (by kernel_rfl) ?_ _
        have hbeg := rup_new_B ro oo rv ov
        have HBeg := Lib.hid hbeg
        have hok := Rup.Chk.zero_ok hN1
        have HOk := Lib.hid hok
        clear hbeg ro oo rv ov lo lv hok ew
        generalize hBB : wo.heap.size = B at *
        generalize hWW : (wo.alloc (Obj.cells #[.int .i64 (N : Int), .slice none 0 0, .slice none 0 0, .slice (some ⟨wv.heap.size, 0, none⟩) (2 * N) (2 * N), .slice (some ⟨w.heap.size, 0, none⟩) N N, .slice none 0 0] 103)) = W0 at *
        clear hBB hWW
        go_wp2_with fail
        go_loopw [23] (fun v wr => ∃ k : Nat, v = .int .i64 k ∧ k ≤ css.length ∧ RupBegun w ((Rup.Chk.zero N).all (css.take k)) B wr ∧ ((Rup.Chk.zero N).all (css.take k)).Ok) (fun v _ => css.length - (intOf v).toNat)
        case atStart => exact ⟨0, rfl, Nat.zero_le _, HBeg.out, HOk.out⟩
        case round =>
          clear HBeg
          obtain ⟨k, rfl, hk, hB, ok⟩ := hrel
          by_cases ck : k < css.length
          · have hB2 := hB
            obtain ⟨g1, V1, H1, hcl, hO⟩ := hB
            obtain ⟨bc, oc, u, rfl, _, qc, hIu⟩ := (hI.only0 hO).at ck
            have hcm := getD_mem' [] ck
            have hcb := hb2 _ hcm
            have hnN : ((Rup.Chk.zero N).all (css.take k)).n = N := Rup.all_n _ _
            have hln := Rup.all_len (css.take k) (Rup.Chk.zero N)
            have hlk : (css.take k).length ≤ k := List.length_take_le _ _
            have hz0 : (Rup.Chk.zero N).cls.length = 0 := rfl
            have hcl2 : ((Rup.Chk.zero N).all (css.take k)).cls.length < 1000000 := by omega
            clear hz0
            have hts : css.take (k + 1) = css.take k ++ [css.getD k []] := by
              rw [List.take_succ_eq_append_getElem ck]; simp [List.getD_eq_getElem?_getD, ck]
            have hall : (Rup.Chk.zero N).all (css.take (k + 1)) = ((Rup.Chk.zero N).all (css.take k)).more (css.getD k []) := by rw [hts, Rup.all_snoc]
            have hrng := hIu.range
            have hokm := ok.more hrng hcl2
            have hF := rup_form_any H1 ok.n hIu hcb
            have HF := Lib.hid hF
            have HAll := Lib.hid hall
            have HOkm := Lib.hid hokm
            have HRng := Lib.hid hrng
            have HClr := Lib.hid hcl
            have HB2 := Lib.hid hB2
            clear hF hall hokm hrng hcl hts hln hlk hcm hB2
            generalize css.getD k [] = c at *
            generalize (Rup.Chk.zero N).all (css.take k) = C at *
            go_wp2_with fail
            refine HF.out.mono ?_
            intro e w1 hp
            unfold RupFormPost at hp
            cases hf : Rup.formR C.n c with
            | none =>
              rw [hf] at hp
              obtain ⟨rfl, O1⟩ := hp
              have hm : C.more c = C := by unfold Rup.Chk.more; rw [hf]
              have HM := Lib.hid hm
              clear hf hm
              go_wp2_with fail
              go_roundw
              case rel => exact ⟨k + 1, by go_num, by omega, by rw [HAll.out, HM.out]; exact ⟨g1, V1, H1.only0 O1, HClr.out, hO.same O1⟩, by rw [HAll.out]; exact HOkm.out⟩
              case measure => simp [intOf]; omega
            | some f =>
              rw [hf] at hp
              obtain ⟨vf, rfl, R1, N1, O1⟩ := hp
              have hm : C.more c = C.add f := by unfold Rup.Chk.more; rw [hf]
              have hfo := Rup.formR_ok HRng.out hf
              have hIf := Ints.of_own R1 (fun x hx => (hfo.2.1 x hx).r)
              have H2 := (H1.only0 O1).own (u := vf) (fun k hk => ⟨H1.fresh k (N1 k hk), own_lt R1 hk⟩)
              have hadd := rup_add_any H2 ok hIf (Tagged.own R1) hfo.1 hcl2
              have HAdd := Lib.hid hadd
              have HM := Lib.hid hm
              clear hf hm hadd hfo
              obtain ⟨af, cf, rfl, _, _⟩ := hIf.shape
              go_wp2_with fail
              refine HAdd.out.mono ?_
              rintro e w2 ⟨rfl, g2, V2, H3, A3, O3⟩
              have hclr2 : ∀ k, k < w.heap.size → (g2 k).1 = 0 := fun k hk => by
                have h1 := hO.size
                have h2 := O1.size
                rw [A3 k (by omega)]
                unfold Tag.own
                rw [if_neg]
                · exact HClr.out k hk
                · intro e; have := N1 k e; omega
              have hbeg2 : RupBegun w (C.add f) B w2 := by
                refine ⟨g2, V2, H3, hclr2, RupBegun.mine (g' := g1.own (.slice af f.length cf) (7, 0)) (fun k hk => ?_) (hO.same O1) O3⟩
                unfold Tag.own
                rw [if_neg]
                · exact HClr.out k hk
                · intro e; have := N1 k e; have := hO.size; omega
              have HB3 := Lib.hid hbeg2
              clear hbeg2 hclr2 H3 A3 O3
              go_wp2_with fail
              go_roundw
              case rel => exact ⟨k + 1, by go_num, by omega, by rw [HAll.out, HM.out]; exact HB3.out, by rw [HAll.out]; exact HOkm.out⟩
              case measure => simp [intOf]; omega
          · have hk' : k = css.length := by omega
            have hfin : RupBegun w ((Rup.Chk.zero N).all css) B wr ∧ ((Rup.Chk.zero N).all css).Ok := by
              rw [hk', List.take_of_length_le (Nat.le_refl _)] at hB ok
              exact ⟨hB, ok⟩
            have HFin := Lib.hid hfin
            clear hfin hB ok
            go_wp2_with fail
            go_ret
            exact ⟨B, rfl, HFin.out⟩
      exact AllReadyH.nil
    exact AllReadyH.nil
  exact AllReadyH.nil
end
end Go.Proofs.Ytjbfgafkjejdjaa
