/- Sol18 Sol19 Lrn12 OwnS Lrn13 Sol20, in one text. -/
import Derived.Test.YtjedgdamommgeaaGreatSolD
import Derived.Test.YtjedgdamommgeaaGreatSvA
import Derived.Test.YtjedgdamommgeaaGreatRegs
import Derived.Test.YtjedgdamommgeaaGreatLrnC
import Derived.Test.YtjedgdamommgeaaGreatBase
import Derived.Test.YtjedgdamommgeaaGreatLrnP
set_option linter.unusedVariables false
namespace Go.Proofs.YtjedgdamommgeaaGreat
open Go.RowKit
open Tr
def NewSv (w : World) (b : Nat) (S : Sv.St) (w' : World) : Prop := ∃ G V, SvAt w' G b V S ∧ Opens V S ∧ (∀ k, Mine G k → w.heap.size ≤ k) ∧ Only (fun _ => False) w w'
def newTag (gt : Tag) (b s1 e1 s2 e2 bp ba : Nat) : Tag := fun k => if k = b then (1, 0) else if s1 ≤ k ∧ k < e1 then (if (gt k).1 = 0 then (0, 0) else (2, 0)) else if s2 ≤ k ∧ k < e2 then (3, 0) else if k = bp then (4, 0) else if k = ba then (6, 0) else (0, 0)
theorem new_made {w wf : World} {n bt bh bp ba s1 e1 s2 e2 : Nat} {gt : Tag} {Ut : TrV} (t1 : TrAt wf gt bt Ut (Tr.new n)) (t2 : ∀ k, Mine gt k → s1 ≤ k ∧ k < e1)
  (h1 : HeapS wf bh n (fun a => a < n) (fun k => s2 ≤ k ∧ k < e2)) (p1 : PaceAt wf bp 32 0 300)
  (r1 : wf.ownsRow 0 4 1 (.slice (some ⟨ba, 0, none⟩) n n) n (List.replicate n (.bool false)))
  (d1 : e1 ≤ s2 ∨ e2 ≤ s1) (d2 : e1 ≤ bp ∨ bp < s1) (d3 : e1 ≤ ba ∨ ba < s1) (d4 : e2 ≤ bp ∨ bp < s2) (d5 : e2 ≤ ba ∨ ba < s2) (d6 : bp ≠ ba)
  (l1 : w.heap.size ≤ s1) (l2 : w.heap.size ≤ s2) (l3 : w.heap.size ≤ bp) (l4 : w.heap.size ≤ ba) (u1 : e1 ≤ wf.heap.size) (u2 : e2 ≤ wf.heap.size) (ho : Only (fun _ => False) w wf) :
  NewSv w wf.heap.size (Sv.St.new n) (wf.alloc (.cells #[cN n, .pointer (some ⟨bt, 0, none⟩), .pointer (some ⟨bh, 0, none⟩), .pointer (some ⟨bp, 0, none⟩), nilS, .slice (some ⟨ba, 0, none⟩) n n, .int .u64 1, .bool false, nilS] 66)) := by
 have lp : bp < wf.heap.size := lt_block p1
 have la : ba < wf.heap.size := own_lt r1 rfl
 have oA : Only (fun _ => False) wf (wf.alloc (.cells #[cN n, .pointer (some ⟨bt, 0, none⟩), .pointer (some ⟨bh, 0, none⟩), .pointer (some ⟨bp, 0, none⟩), nilS, .slice (some ⟨ba, 0, none⟩) n n, .int .u64 1, .bool false, nilS] 66)) := (Only.refl _ _).alloc _
 obtain ⟨vl, va, vs, x, K, o, r, hx, hA, hf⟩ := h1.only oA (fun _ _ f => f)
 have e6 : newTag gt wf.heap.size s1 e1 s2 e2 bp ba ba = (6, 0) := by
  unfold newTag
  rw [if_neg (by omega), if_neg (by omega), if_neg (by omega), if_neg (by omega), if_pos rfl]
 have e4 : newTag gt wf.heap.size s1 e1 s2 e2 bp ba bp = (4, 0) := by
  unfold newTag
  rw [if_neg (by omega), if_neg (by omega), if_neg (by omega), if_pos rfl]
 refine ⟨newTag gt wf.heap.size s1 e1 s2 e2 bp ba, ⟨bt, bh, bp, nilS, .slice (some ⟨ba, 0, none⟩) n n, 1, nilS, [], List.replicate n false, [], fun a => a < n⟩, ⟨heap_alloc_new _ _, ?_, ⟨gt, Ut, t1.only0 oA, fun k hk => ?_⟩, ⟨vl, va, vs, x, K, o, r, hx, hA, fun k hk => ?_⟩, p1.only oA (fun f => f), e4, RowZ_nil _ _ _ _ _, ⟨[], rfl, rfl⟩, ⟨?_, fun k hk => ?_⟩, by simp [Sv.St.new, Tr.new], RowZ_nil _ _ _ _ _, rfl, fun i hi => absurd hi (Nat.not_lt_zero _), ⟨Nat.le_refl _, by show (1 : Nat) ≤ 1099511627776; omega⟩, fun k hk => ?_⟩, fun a ha _ => ha, fun k hk => ?_, ho.same oA⟩
 ·unfold newTag; rw [if_pos rfl]
 ·have h := t2 k hk
  unfold newTag
  rw [if_neg (by omega), if_pos h, if_neg hk]
 ·have h := hf k hk
  show newTag gt wf.heap.size s1 e1 s2 e2 bp ba k = (3, 0)
  unfold newTag
  rw [if_neg (by omega), if_neg (by omega), if_pos h]
 ·have := own_only r1 oA (fun _ _ f => f)
  simpa using this
 ·simp [Value.ownBlock] at hk; subst hk; exact e6
 ·have hk : wf.heap.size + 1 ≤ k := by simpa using hk
  unfold newTag
  rw [if_neg (by omega), if_neg (by omega), if_neg (by omega), if_neg (by omega), if_neg (by omega)]
 ·unfold Mine newTag at hk
  have := ho.size
  by_cases c1 : k = wf.heap.size
  ·omega
  ·rw [if_neg c1] at hk
   by_cases c2 : s1 ≤ k ∧ k < e1
   ·omega
   ·rw [if_neg c2] at hk
    by_cases c3 : s2 ≤ k ∧ k < e2
    ·omega
    ·rw [if_neg c3] at hk
     by_cases c4 : k = bp
     ·omega
     ·rw [if_neg c4] at hk
      by_cases c5 : k = ba
      ·omega
      ·rw [if_neg c5] at hk; exact absurd rfl hk
def NewSvTo (w : World) (n : Nat) (css : List (List Int)) (e : Ending) (w' : World) : Prop := ∃ b, e = .returned (.pointer (some ⟨b, 0, none⟩)) ∧ NewSv w b ((Sv.St.new n).addAll css) w'
theorem NewSv.add {w wr : World} {b n : Nat} {css : List (List Int)} {k : Nat} (h : NewSv w b ((Sv.St.new n).addAll (css.take k)) wr) (hn : n ≤ 65536) (hk : k < css.length) (hb : css.length ≤ 1000000) (hr : ∀ c ∈ css, ∀ x ∈ c, InI64 x) {u : Value} (hu : Ints w u (css.getD k [])) (hl : (css.getD k []).length ≤ 17592186043904) :
  Calls Tryz.prog 15 #[.pointer (some ⟨b, 0, none⟩), u] wr fun e w' => (∃ r, e = .returned (.bool r)) ∧ NewSv w b ((Sv.St.new n).addAll (css.take (k + 1))) w' := by
 obtain ⟨G, V, H, p, hm, on⟩ := h
 have hF := Sv.Fresh.addAll hn (css.take k) (fun c hc => hr c (List.mem_of_mem_take hc)) (by rw [List.length_take]; omega)
 have hlen := hF.len
 rw [List.length_take] at hlen
 refine (solve_Add_any H hF.holds.inv p (by omega) (hu.only0 on) (fun hp q hq => ?_) hl).mono ?_
 ·by_cases c : (G q).1 = 0
  ·exact c
  ·have h1 := hm q c
   have h2 := hu.lt hp hq
   omega
 ·rintro e w' ⟨he, G2, V2, H2, p2, A2, O2⟩
  refine ⟨⟨_, he⟩, G2, V2, ?_, ?_, fun q hq => ?_, on.trans O2 fun q hq => .inr (hm q hq)⟩
  ·rw [show css.take (k + 1) = css.take k ++ [css.getD k []] from take_snocC css [] k hk, Sv.addAll_snoc']; exact H2
  ·rw [show css.take (k + 1) = css.take k ++ [css.getD k []] from take_snocC css [] k hk, Sv.addAll_snoc']; exact p2
  ·by_cases c : q < wr.heap.size
   ·unfold Mine at hq; rw [A2 q c] at hq; exact hm q hq
   ·exact Nat.le_trans on.size (by omega)
set_option maxRecDepth 100000 in
set_option maxHeartbeats 6400000 in
theorem solve_New_any (w : World) (x : Int) (hx : InI64 x) (n : Nat) (hn : min (max x 0) 65536 = (n : Int)) {vcs : Value} {css : List (List Int)} (hI : IntsS w vcs css) (hb : css.length ≤ 1000000) (hl : ∀ c ∈ css, c.length ≤ 17592186043904) :
  Calls Tryz.prog 13 #[.int .i64 x, vcs] w (NewSvTo w n css) := by
 have hnb : n ≤ 65536 := by omega
 have hnI : InI64 (n : Int) := by unfold InI64; omega
 obtain ⟨ac, cc, rfl, -, -⟩ := hI.shape
 have HNt := Lib.hid (fun W : World => prop_New_any W (n : Int) hnI n (by omega))
 have HNh := Lib.hid (fun W : World => heapS_new W n hnb)
 have HNl := Lib.hid (fun W : World => luby_New_any W)
 have hr : ∀ c ∈ css, ∀ x ∈ c, InI64 x := by
  intro c hc
  obtain ⟨k, hk, rfl⟩ := List.mem_iff_getElem.1 hc
  obtain ⟨bb, off, u, -, -, -, hu⟩ := hI.at hk
  have := hu.range
  rw [show css.getD k [] = css[k] by simp [List.getD_eq_getElem?_getD, hk]] at this
  exact this
 have HR := Lib.hid hr
 have HI := Lib.hid hI
 have HL := Lib.hid hl
 clear hr hI hl
 go_enter Tryz.func13, Tryz.ntmps13
 go_upto_region 2 with fail
 go_cut [5] (fun v wx => ∃ b, v = .pointer (some ⟨b, 0, none⟩) ∧ NewSv w b (Sv.St.new n) wx)
 case first =>
  refine wp_region_G (n := 11) (E := fun _ => false) (S := fun w' => Only (fun _ => False) w w') (by kernel_rfl) rfl ((Only.refl _ _).drew) (fun hHeld => ?_)
  refine tqW (i := 0) (v := ?_) rfl (.inr (by assumption)) ?_ ?_
  rotate_left
  ·(intro w; go_simp <;> (try with_reducible rfl))
  try simp only [Act.put, zq1, zq3, zq4, zq5, zq6]
  refine tqW (i := 1) (v := ?_) rfl (.inr (by assumption)) ?_ ?_
  rotate_left
  ·(intro w; go_simp <;> (try with_reducible rfl))
  try simp only [Act.put, zq1, zq2, zq3, zq4, zq5, zq6]
  refine tqW (i := 3) (v := ?_) rfl (.inr (by assumption)) ?_ ?_
  rotate_left
  ·(intro w; go_simp <;> (try with_reducible rfl))
  try simp only [Act.put, zq1, zq2, zq3, zq4, zq5, zq6]
  refine tqW (i := 6) (v := ?_) rfl (.inr (by assumption)) ?_ ?_
  rotate_left
  ·(intro w; go_simp <;> (try with_reducible rfl))
  try simp only [Act.put, zq1, zq2, zq3, zq4, zq5, zq6]
  refine wpAnyG_ready (rs := [2, 7]) (by kernel_rfl) (by simp) ?_
  refine AllReadyG.cons (i := 2) rfl (fun K hK => ?_) ?_
  ·(go_simp; refine (HNt.out _).mono ?_; rintro e wt ⟨bt, gt, Ut, rfl, t1, t2, ot⟩; try go_wp2_with fail)
   refine hK.out _ _ ?_ (fun hHeld => ?_)
   ·(try dsimp only) <;> (exact hHeld.same ot)
   clear hK K
   try simp only [Act.put, zq1, zq2, zq3, zq4, zq5, zq6]
   refine wpAnyG_ready (rs := [4, 7]) (by kernel_rfl) (by simp) ?_
   refine AllReadyG.cons (i := 4) rfl (fun K hK => ?_) ?_
   ·(go_simp; refine (HNh.out _).mono ?_; rintro e wh ⟨bh, rfl, h1, oh⟩; try go_wp2_with fail)
    refine hK.out _ _ ?_ (fun hHeld => ?_)
    ·(try dsimp only) <;> (exact hHeld.same oh)
    clear hK K
    try simp only [Act.put, zq1, zq2, zq3, zq4, zq5, zq6]
    refine wpAnyG_ready (rs := [5, 7]) (by kernel_rfl) (by simp) ?_
    refine AllReadyG.cons (i := 5) rfl (fun K hK => ?_) ?_
    ·(go_simp; refine (HNl.out _).mono ?_; rintro e wl ⟨rfl, p1, ol⟩; try go_wp2_with fail)
     refine hK.out _ _ ?_ (fun hHeld => ?_)
     ·(try dsimp only) <;> (exact hHeld.same ol)
     clear hK K
     try simp only [Act.put, zq1, zq2, zq3, zq4, zq5, zq6]
     refine wpAnyG_ready (rs := [7]) (by kernel_rfl) (by simp) ?_
     refine AllReadyG.cons (i := 7) rfl (fun K hK => ?_) ?_
     ·(refine stepM (bytes := 1) (z := .bool false) Tryz.underlying28 infoBool rfl rfl (.tmp 17) (.tmp 17) rfl n rfl rfl (by first | rfl | omega) (by first | rfl | omega) (by omega) (by decide) ?_; intro wm rm om lm)
      refine hK.out _ _ ?_ (fun hHeld => ?_)
      ·(try dsimp only) <;> (exact hHeld.same om)
      clear hK K
      try simp only [Act.put, zq1, zq2, zq3, zq4, zq5, zq6]
      refine tqW (i := 8) (v := ?_) rfl (.inr (by assumption)) ?_ ?_
      rotate_left
      ·(intro w; go_simp <;> (try with_reducible rfl))
      try simp only [Act.put, zq1, zq2, zq3, zq4, zq5, zq6]
      refine wpAnyG_ready (rs := [9]) (by kernel_rfl) (by simp) ?_
      refine AllReadyG.cons (i := 9) rfl (fun K hK => ?_) ?_
      ·go_simp
       refine hK.out _ _ ?_ (fun hHeld => ?_)
       ·(try dsimp only) <;> (exact hHeld.alloc _)
       clear hK K
       try simp only [Act.put, zq1, zq2, zq3, zq4, zq5, zq6]
       refine tqW (i := 10) (v := ?_) rfl (.inr (by assumption)) ?_ ?_
       rotate_left
       ·(intro w; go_simp <;> (try with_reducible rfl))
       try simp only [Act.put, zq1, zq2, zq3, zq4, zq5, zq6]
       refine wpAnyG_done (by kernel_rfl) ?_ _
       have sz_t := ot.size
       have sz_h := oh.size
       have sz_l := ol.size
       have lp := lt_block p1
       have sz_w : w.heap.size ≤ w.drew.heap.size := Nat.le_refl _
       have sz_d : w.drew.heap.size = w.heap.size := rfl
       have hnew : NewSv w wm.heap.size (Sv.St.new n) (wm.alloc (.cells #[cN n, .pointer (some ⟨bt, 0, none⟩), .pointer (some ⟨bh, 0, none⟩), .pointer (some ⟨wh.heap.size, 0, none⟩), nilS, .slice (some ⟨wl.heap.size, 0, none⟩) n n, .int .u64 1, .bool false, nilS] 66)) := new_made (e1 := wt.heap.size) (e2 := wh.heap.size) (s1 := w.heap.size) (s2 := wt.heap.size) (t1.only0 ((((Only.refl (fun _ => False) wt).same oh).same ol).same om)) (fun k hk => ⟨t2 k hk, by
        by_cases c : k < wt.heap.size
        ·exact c
        ·exact absurd (t1.fresh k (by omega)) hk⟩) (h1.only (((Only.refl (fun _ => False) wh).same ol).same om) (fun _ _ f => f)) (p1.only ((Only.refl (fun _ => False) wl).same om) (fun f => f)) (own_only rm (Only.refl (fun _ => False) wm) (fun _ _ f => f)) (by simp only [World.drew] at *; omega) (by simp only [World.drew] at *; omega) (by simp only [World.drew] at *; omega) (by simp only [World.drew] at *; omega) (by simp only [World.drew] at *; omega) (by simp only [World.drew] at *; omega) (by simp only [World.drew] at *; omega) (by simp only [World.drew] at *; omega) (by simp only [World.drew] at *; omega) (by simp only [World.drew] at *; omega) (by simp only [World.drew] at *; omega) (by simp only [World.drew] at *; omega) ((((((Only.refl (fun _ => False) w).drew).same ot).same oh).same ol).same om)
       have HNew := Lib.hid hnew
       clear hnew t1 t2 h1 p1 rm ot oh ol om lm hHeld sz_t sz_h sz_l lp sz_w sz_d
       go_wp2_with fail
       go_meet
       exact ⟨_, rfl, HNew.out⟩
      exact AllReadyG.nil
     exact AllReadyG.nil
    refine AllReadyG.cons (i := 7) rfl (fun K hK => ?_) ?_
    ·(refine stepM (bytes := 1) (z := .bool false) Tryz.underlying28 infoBool rfl rfl (.tmp 17) (.tmp 17) rfl n rfl rfl (by first | rfl | omega) (by first | rfl | omega) (by omega) (by decide) ?_; intro wm rm om lm)
     refine hK.out _ _ ?_ (fun hHeld => ?_)
     ·(try dsimp only) <;> (exact hHeld.same om)
     clear hK K
     try simp only [Act.put, zq1, zq2, zq3, zq4, zq5, zq6]
     refine wpAnyG_ready (rs := [5]) (by kernel_rfl) (by simp) ?_
     refine AllReadyG.cons (i := 5) rfl (fun K hK => ?_) ?_
     ·(go_simp; refine (HNl.out _).mono ?_; rintro e wl ⟨rfl, p1, ol⟩; try go_wp2_with fail)
      refine hK.out _ _ ?_ (fun hHeld => ?_)
      ·(try dsimp only) <;> (exact hHeld.same ol)
      clear hK K
      try simp only [Act.put, zq1, zq2, zq3, zq4, zq5, zq6]
      refine tqW (i := 8) (v := ?_) rfl (.inr (by assumption)) ?_ ?_
      rotate_left
      ·(intro w; go_simp <;> (try with_reducible rfl))
      try simp only [Act.put, zq1, zq2, zq3, zq4, zq5, zq6]
      refine wpAnyG_ready (rs := [9]) (by kernel_rfl) (by simp) ?_
      refine AllReadyG.cons (i := 9) rfl (fun K hK => ?_) ?_
      ·go_simp
       refine hK.out _ _ ?_ (fun hHeld => ?_)
       ·(try dsimp only) <;> (exact hHeld.alloc _)
       clear hK K
       try simp only [Act.put, zq1, zq2, zq3, zq4, zq5, zq6]
       refine tqW (i := 10) (v := ?_) rfl (.inr (by assumption)) ?_ ?_
       rotate_left
       ·(intro w; go_simp <;> (try with_reducible rfl))
       try simp only [Act.put, zq1, zq2, zq3, zq4, zq5, zq6]
       refine wpAnyG_done (by kernel_rfl) ?_ _
       have sz_t := ot.size
       have sz_h := oh.size
       have sz_l := ol.size
       have lp := lt_block p1
       have sz_w : w.heap.size ≤ w.drew.heap.size := Nat.le_refl _
       have sz_d : w.drew.heap.size = w.heap.size := rfl
       have hnew : NewSv w wl.heap.size (Sv.St.new n) (wl.alloc (.cells #[cN n, .pointer (some ⟨bt, 0, none⟩), .pointer (some ⟨bh, 0, none⟩), .pointer (some ⟨wm.heap.size, 0, none⟩), nilS, .slice (some ⟨wh.heap.size, 0, none⟩) n n, .int .u64 1, .bool false, nilS] 66)) := new_made (e1 := wt.heap.size) (e2 := wh.heap.size) (s1 := w.heap.size) (s2 := wt.heap.size) (t1.only0 ((((Only.refl (fun _ => False) wt).same oh).same om).same ol)) (fun k hk => ⟨t2 k hk, by
        by_cases c : k < wt.heap.size
        ·exact c
        ·exact absurd (t1.fresh k (by omega)) hk⟩) (h1.only (((Only.refl (fun _ => False) wh).same om).same ol) (fun _ _ f => f)) (p1.only (Only.refl (fun _ => False) wl) (fun f => f)) (own_only rm ((Only.refl (fun _ => False) wm).same ol) (fun _ _ f => f)) (by simp only [World.drew] at *; omega) (by simp only [World.drew] at *; omega) (by simp only [World.drew] at *; omega) (by simp only [World.drew] at *; omega) (by simp only [World.drew] at *; omega) (by simp only [World.drew] at *; omega) (by simp only [World.drew] at *; omega) (by simp only [World.drew] at *; omega) (by simp only [World.drew] at *; omega) (by simp only [World.drew] at *; omega) (by simp only [World.drew] at *; omega) (by simp only [World.drew] at *; omega) ((((((Only.refl (fun _ => False) w).drew).same ot).same oh).same om).same ol)
       have HNew := Lib.hid hnew
       clear hnew t1 t2 h1 p1 rm ot oh ol om lm hHeld sz_t sz_h sz_l lp sz_w sz_d
       go_wp2_with fail
       go_meet
       exact ⟨_, rfl, HNew.out⟩
      exact AllReadyG.nil
     exact AllReadyG.nil
    exact AllReadyG.nil
   refine AllReadyG.cons (i := 7) rfl (fun K hK => ?_) ?_
   ·(refine stepM (bytes := 1) (z := .bool false) Tryz.underlying28 infoBool rfl rfl (.tmp 17) (.tmp 17) rfl n rfl rfl (by first | rfl | omega) (by first | rfl | omega) (by omega) (by decide) ?_; intro wm rm om lm)
    refine hK.out _ _ ?_ (fun hHeld => ?_)
    ·(try dsimp only) <;> (exact hHeld.same om)
    clear hK K
    try simp only [Act.put, zq1, zq2, zq3, zq4, zq5, zq6]
    refine wpAnyG_ready (rs := [4]) (by kernel_rfl) (by simp) ?_
    refine AllReadyG.cons (i := 4) rfl (fun K hK => ?_) ?_
    ·(go_simp; refine (HNh.out _).mono ?_; rintro e wh ⟨bh, rfl, h1, oh⟩; try go_wp2_with fail)
     refine hK.out _ _ ?_ (fun hHeld => ?_)
     ·(try dsimp only) <;> (exact hHeld.same oh)
     clear hK K
     try simp only [Act.put, zq1, zq2, zq3, zq4, zq5, zq6]
     refine wpAnyG_ready (rs := [5]) (by kernel_rfl) (by simp) ?_
     refine AllReadyG.cons (i := 5) rfl (fun K hK => ?_) ?_
     ·(go_simp; refine (HNl.out _).mono ?_; rintro e wl ⟨rfl, p1, ol⟩; try go_wp2_with fail)
      refine hK.out _ _ ?_ (fun hHeld => ?_)
      ·(try dsimp only) <;> (exact hHeld.same ol)
      clear hK K
      try simp only [Act.put, zq1, zq2, zq3, zq4, zq5, zq6]
      refine tqW (i := 8) (v := ?_) rfl (.inr (by assumption)) ?_ ?_
      rotate_left
      ·(intro w; go_simp <;> (try with_reducible rfl))
      try simp only [Act.put, zq1, zq2, zq3, zq4, zq5, zq6]
      refine wpAnyG_ready (rs := [9]) (by kernel_rfl) (by simp) ?_
      refine AllReadyG.cons (i := 9) rfl (fun K hK => ?_) ?_
      ·go_simp
       refine hK.out _ _ ?_ (fun hHeld => ?_)
       ·(try dsimp only) <;> (exact hHeld.alloc _)
       clear hK K
       try simp only [Act.put, zq1, zq2, zq3, zq4, zq5, zq6]
       refine tqW (i := 10) (v := ?_) rfl (.inr (by assumption)) ?_ ?_
       rotate_left
       ·(intro w; go_simp <;> (try with_reducible rfl))
       try simp only [Act.put, zq1, zq2, zq3, zq4, zq5, zq6]
       refine wpAnyG_done (by kernel_rfl) ?_ _
       have sz_t := ot.size
       have sz_h := oh.size
       have sz_l := ol.size
       have lp := lt_block p1
       have sz_w : w.heap.size ≤ w.drew.heap.size := Nat.le_refl _
       have sz_d : w.drew.heap.size = w.heap.size := rfl
       have hnew : NewSv w wl.heap.size (Sv.St.new n) (wl.alloc (.cells #[cN n, .pointer (some ⟨bt, 0, none⟩), .pointer (some ⟨bh, 0, none⟩), .pointer (some ⟨wh.heap.size, 0, none⟩), nilS, .slice (some ⟨wt.heap.size, 0, none⟩) n n, .int .u64 1, .bool false, nilS] 66)) := new_made (e1 := wt.heap.size) (e2 := wh.heap.size) (s1 := w.heap.size) (s2 := wm.heap.size) (t1.only0 ((((Only.refl (fun _ => False) wt).same om).same oh).same ol)) (fun k hk => ⟨t2 k hk, by
        by_cases c : k < wt.heap.size
        ·exact c
        ·exact absurd (t1.fresh k (by omega)) hk⟩) (h1.only ((Only.refl (fun _ => False) wh).same ol) (fun _ _ f => f)) (p1.only (Only.refl (fun _ => False) wl) (fun f => f)) (own_only rm (((Only.refl (fun _ => False) wm).same oh).same ol) (fun _ _ f => f)) (by simp only [World.drew] at *; omega) (by simp only [World.drew] at *; omega) (by simp only [World.drew] at *; omega) (by simp only [World.drew] at *; omega) (by simp only [World.drew] at *; omega) (by simp only [World.drew] at *; omega) (by simp only [World.drew] at *; omega) (by simp only [World.drew] at *; omega) (by simp only [World.drew] at *; omega) (by simp only [World.drew] at *; omega) (by simp only [World.drew] at *; omega) (by simp only [World.drew] at *; omega) ((((((Only.refl (fun _ => False) w).drew).same ot).same om).same oh).same ol)
       have HNew := Lib.hid hnew
       clear hnew t1 t2 h1 p1 rm ot oh ol om lm hHeld sz_t sz_h sz_l lp sz_w sz_d
       go_wp2_with fail
       go_meet
       exact ⟨_, rfl, HNew.out⟩
      exact AllReadyG.nil
     exact AllReadyG.nil
    exact AllReadyG.nil
   exact AllReadyG.nil
  refine AllReadyG.cons (i := 7) rfl (fun K hK => ?_) ?_
  ·(refine stepM (bytes := 1) (z := .bool false) Tryz.underlying28 infoBool rfl rfl (.tmp 17) (.tmp 17) rfl n rfl rfl (by first | rfl | omega) (by first | rfl | omega) (by omega) (by decide) ?_; intro wm rm om lm)
   refine hK.out _ _ ?_ (fun hHeld => ?_)
   ·(try dsimp only) <;> (exact hHeld.same om)
   clear hK K
   try simp only [Act.put, zq1, zq2, zq3, zq4, zq5, zq6]
   refine wpAnyG_ready (rs := [2]) (by kernel_rfl) (by simp) ?_
   refine AllReadyG.cons (i := 2) rfl (fun K hK => ?_) ?_
   ·(go_simp; refine (HNt.out _).mono ?_; rintro e wt ⟨bt, gt, Ut, rfl, t1, t2, ot⟩; try go_wp2_with fail)
    refine hK.out _ _ ?_ (fun hHeld => ?_)
    ·(try dsimp only) <;> (exact hHeld.same ot)
    clear hK K
    try simp only [Act.put, zq1, zq2, zq3, zq4, zq5, zq6]
    refine wpAnyG_ready (rs := [4]) (by kernel_rfl) (by simp) ?_
    refine AllReadyG.cons (i := 4) rfl (fun K hK => ?_) ?_
    ·(go_simp; refine (HNh.out _).mono ?_; rintro e wh ⟨bh, rfl, h1, oh⟩; try go_wp2_with fail)
     refine hK.out _ _ ?_ (fun hHeld => ?_)
     ·(try dsimp only) <;> (exact hHeld.same oh)
     clear hK K
     try simp only [Act.put, zq1, zq2, zq3, zq4, zq5, zq6]
     refine wpAnyG_ready (rs := [5]) (by kernel_rfl) (by simp) ?_
     refine AllReadyG.cons (i := 5) rfl (fun K hK => ?_) ?_
     ·(go_simp; refine (HNl.out _).mono ?_; rintro e wl ⟨rfl, p1, ol⟩; try go_wp2_with fail)
      refine hK.out _ _ ?_ (fun hHeld => ?_)
      ·(try dsimp only) <;> (exact hHeld.same ol)
      clear hK K
      try simp only [Act.put, zq1, zq2, zq3, zq4, zq5, zq6]
      refine tqW (i := 8) (v := ?_) rfl (.inr (by assumption)) ?_ ?_
      rotate_left
      ·(intro w; go_simp <;> (try with_reducible rfl))
      try simp only [Act.put, zq1, zq2, zq3, zq4, zq5, zq6]
      refine wpAnyG_ready (rs := [9]) (by kernel_rfl) (by simp) ?_
      refine AllReadyG.cons (i := 9) rfl (fun K hK => ?_) ?_
      ·go_simp
       refine hK.out _ _ ?_ (fun hHeld => ?_)
       ·(try dsimp only) <;> (exact hHeld.alloc _)
       clear hK K
       try simp only [Act.put, zq1, zq2, zq3, zq4, zq5, zq6]
       refine tqW (i := 10) (v := ?_) rfl (.inr (by assumption)) ?_ ?_
       rotate_left
       ·(intro w; go_simp <;> (try with_reducible rfl))
       try simp only [Act.put, zq1, zq2, zq3, zq4, zq5, zq6]
       refine wpAnyG_done (by kernel_rfl) ?_ _
       have sz_t := ot.size
       have sz_h := oh.size
       have sz_l := ol.size
       have lp := lt_block p1
       have sz_w : w.heap.size ≤ w.drew.heap.size := Nat.le_refl _
       have sz_d : w.drew.heap.size = w.heap.size := rfl
       have hnew : NewSv w wl.heap.size (Sv.St.new n) (wl.alloc (.cells #[cN n, .pointer (some ⟨bt, 0, none⟩), .pointer (some ⟨bh, 0, none⟩), .pointer (some ⟨wh.heap.size, 0, none⟩), nilS, .slice (some ⟨w.heap.size, 0, none⟩) n n, .int .u64 1, .bool false, nilS] 66)) := new_made (e1 := wt.heap.size) (e2 := wh.heap.size) (s1 := wm.heap.size) (s2 := wt.heap.size) (t1.only0 (((Only.refl (fun _ => False) wt).same oh).same ol)) (fun k hk => ⟨t2 k hk, by
        by_cases c : k < wt.heap.size
        ·exact c
        ·exact absurd (t1.fresh k (by omega)) hk⟩) (h1.only ((Only.refl (fun _ => False) wh).same ol) (fun _ _ f => f)) (p1.only (Only.refl (fun _ => False) wl) (fun f => f)) (own_only rm ((((Only.refl (fun _ => False) wm).same ot).same oh).same ol) (fun _ _ f => f)) (by simp only [World.drew] at *; omega) (by simp only [World.drew] at *; omega) (by simp only [World.drew] at *; omega) (by simp only [World.drew] at *; omega) (by simp only [World.drew] at *; omega) (by simp only [World.drew] at *; omega) (by simp only [World.drew] at *; omega) (by simp only [World.drew] at *; omega) (by simp only [World.drew] at *; omega) (by simp only [World.drew] at *; omega) (by simp only [World.drew] at *; omega) (by simp only [World.drew] at *; omega) ((((((Only.refl (fun _ => False) w).drew).same om).same ot).same oh).same ol)
       have HNew := Lib.hid hnew
       clear hnew t1 t2 h1 p1 rm ot oh ol om lm hHeld sz_t sz_h sz_l lp sz_w sz_d
       go_wp2_with fail
       go_meet
       exact ⟨_, rfl, HNew.out⟩
      exact AllReadyG.nil
     exact AllReadyG.nil
    exact AllReadyG.nil
   exact AllReadyG.nil
  exact AllReadyG.nil
 case rest =>
 obtain ⟨b, rfl, hst⟩ := hcut
 have HSt := Lib.hid hst
 clear hst
 go_wp2_with fail
 go_loopw [23] (fun v wr => ∃ k : Nat, v = .int .i64 k ∧ k ≤ css.length ∧ NewSv w b ((Sv.St.new n).addAll (css.take k)) wr) (fun v _ => css.length - (intOf v).toNat)
 case atStart => exact ⟨0, rfl, Nat.zero_le _, HSt.out⟩
 case round =>
  clear HSt
  obtain ⟨k, rfl, hk, hS⟩ := hrel
  have hon : Only (fun _ => False) w wr := by obtain ⟨_, _, _, _, _, h⟩ := hS; exact h
  by_cases ck : k < css.length
  ·obtain ⟨bb, off, u, rfl, _, q, hu⟩ := HI.out.at ck
   have q' := cell_keep q hon (fun f => f)
   have hop := hS.add hnb ck hb HR.out hu (HL.out _ (getD_mem' [] ck))
   obtain ⟨au, cu, rfl, _, _⟩ := hu.shape
   have HOp := Lib.hid hop
   have ewk : IntKind.i64.wrap ((k : Int) + 1) = ((k + 1 : Nat) : Int) := by rw [IntWalk.i64_in _ (by omega)]; rfl
   clear hop hS hu q
   generalize css.getD k [] = c at *
   go_wp2_with fail
   refine HOp.out.mono ?_
   rintro e w2 ⟨⟨r, rfl⟩, h2⟩
   have H2 := Lib.hid h2
   clear h2 HOp
   go_wp2_with fail
   go_roundw
   case rel => exact ⟨k + 1, by first | rfl | go_num, by omega, H2.out⟩
   case measure => simp [intOf] <;> omega
  ·obtain rfl : k = css.length := by omega
   rw [List.take_of_length_le (Nat.le_refl _)] at hS
   have HS := Lib.hid hS
   clear hS
   go_wp2_with fail
   go_ret
   exact ⟨b, rfl, HS.out⟩
namespace Tr
end Tr
end Go.Proofs.YtjedgdamommgeaaGreat
namespace Go.Proofs.YtjedgdamommgeaaGreat
open Go.RowKit
structure OwnS (w0 w : World) (v : Value) (us : List Value) (css : List (List Int)) : Prop where
 row : w.ownsRow 0 23 1 v us.length us
 ints : AllInts w us css
 new : ∀ k, v.ownBlock = some k → w0.heap.size ≤ k
 apart : ∀ i, i < css.length → 0 < (css.getD i []).length → ∀ k, Value.blk (us.getD i nilS) = some k → v.ownBlock ≠ some k
theorem OwnS.intsS {w0 w : World} {v : Value} {us : List Value} {css : List (List Int)} (h : OwnS w0 w v us css) : IntsS w v css := ⟨us, Cells.of_own h.row, h.ints⟩
theorem OwnS.only0 {w0 w w' : World} {v : Value} {us : List Value} {css : List (List Int)} (h : OwnS w0 w v us css) (ho : Only (fun _ => False) w w') : OwnS w0 w' v us css :=
 ⟨own_only h.row ho (fun _ _ f => f), h.ints.only0 ho, h.new, h.apart⟩
theorem OwnS.lit0 (w0 w : World) (hw : w0.heap.size ≤ w.heap.size) : OwnS w0 (w.alloc (.cells #[] 23)) (.slice (some ⟨w.heap.size, 0, none⟩) 0 0) [] [] :=
 ⟨World.ownsRow_lit (base := 0) (e := 23) (size := 1) w #[] 0 (Nat.zero_le _) (by unfold maxLen; omega) (by simp), ⟨rfl, fun i hi => by simp at hi⟩, fun k hk => by simp [Value.ownBlock] at hk; omega, fun i hi => by simp at hi⟩
theorem OwnS.snoc {w0 w w' : World} {v v' : Value} {us : List Value} {css : List (List Int)} (h : OwnS w0 w v us css) (hw : w0.heap.size ≤ w.heap.size) {u : Value} {f : List Int} (hu : Ints w u f) (hua : 0 < f.length → ∀ k, Value.blk u = some k → v.ownBlock ≠ some k)
  (s1 : w'.ownsRow 0 23 1 v' (us.length + 1) (us ++ [u])) (s2 : Only (fun k => v.ownBlock = some k) w w') (s3 : AppTo w v v' (us.length + 1)) : OwnS w0 w' v' (us ++ [u]) (css ++ [f]) := by
 have hl := h.ints.1
 have hold : ∀ i, i < css.length → Ints w' (us.getD i nilS) (css.getD i []) := fun i hi => (h.ints.2 i hi).only' s2 (fun hp b hb => h.apart i hi hp b hb)
 have hnew : Ints w' u f := hu.only' s2 hua
 have hall : AllInts w' (us ++ [u]) (css ++ [f]) := AllInts.snoc ⟨hl, hold⟩ hnew
 obtain ⟨g, cap, rfl, _, _, hg⟩ := s3
 refine ⟨by simpa using s1, hall, fun k hk => ?_, fun i hi hp k hk hF => ?_⟩
 ·simp [Value.ownBlock] at hk
  subst hk
  rcases hg with hg | hg
  ·exact h.new _ hg
  ·omega
 ·simp only [Value.ownBlock, Option.some.injEq] at hF
  subst hF
  by_cases hi' : i < css.length
  ·rw [getD_app_l _ _ _ (by omega)] at hk
   rw [getD_app_l _ _ _ hi'] at hp
   rcases hg with hg | hg
   ·exact h.apart i hi' hp _ hk hg
   ·have := (h.ints.2 i hi').lt hp hk; omega
  ·have : i = css.length := by simp at hi; omega
   subst this
   rw [getD_app_r _ _ _ (by omega), hl] at hk
   rw [getD_app_r _ _ _ (by omega)] at hp
   simp at hk hp
   rcases hg with hg | hg
   ·exact hua (by simpa using hp) _ hk hg
   ·have := hu.lt (by simpa using hp) hk; omega
theorem OwnS.nil (w0 w : World) : OwnS w0 w (.slice none 0 0) [] [] :=
 ⟨World.ownsRow_nil _ _ _ _, ⟨rfl, fun i hi => by simp at hi⟩, fun k hk => by simp [Value.ownBlock] at hk, fun i hi => by simp at hi⟩
theorem take_snocL (xs : List (List Int)) (k : Nat) (h : k < xs.length) : xs.take (k + 1) = xs.take k ++ [xs.getD k []] := by
 rw [List.take_succ_eq_append_getElem h]
 simp [List.getD_eq_getElem?_getD, h]
end Go.Proofs.YtjedgdamommgeaaGreat
namespace Go.Proofs.YtjedgdamommgeaaGreat
open Go.RowKit
open Tr
namespace Tr
open Cnf Up
end Tr
section
variable {w w0 : World} {b : Nat} {T : Trail}
theorem any_dropS (p : List Int → Bool) {css : List (List Int)} {k : Nat} (h : k < css.length) : (css.drop k).any p = (p (css.getD k []) || (css.drop (k + 1)).any p) := by
 rw [List.drop_eq_getElem_cons h, List.any_cons]
 simp [List.getD_eq_getElem?_getD, h]
end
def Asked (w w1 : World) (b n : Nat) (css : List (List Int)) (qs : List Int) (bud : Int) (e : Ending) (w' : World) : Prop :=
 ∃ S2 a cs, Sv.Run Sv.paceF qs bud ((Sv.St.new n).addAll css) 0 S2 a ∧ e = .returned (.agg cs) ∧ AnsAt w1 w' a cs ∧ NewSv w b S2 w'
theorem fresh_solI {n : Nat} {css : List (List Int)} {S : Sv.St} (h : Sv.Fresh n css S) (hb : css.length ≤ 1000000) : SolI n (Sv.keptAll n css) 0 S 0 ∧ ({ S with T := S.T.back 0 } : Sv.St) = S := by
 obtain ⟨r1, r2, r3, r4, r5, r6⟩ := h.rest
 have hl := h.len
 refine ⟨⟨h.holds, by omega, by omega, by rw [r1, r6]; simp, by rw [r1]; simp, by rw [r2, r3]; decide, by rw [r3]; decide, by rw [r4]; decide⟩, ?_⟩
 rw [Sv.back_none h.lev]
theorem ask_any {w w1 : World} {b n : Nat} {css : List (List Int)} (h : NewSv w b ((Sv.St.new n).addAll css) w1) (hn : n ≤ 65536) (hb : css.length ≤ 1000000) (hr : ∀ c ∈ css, ∀ x ∈ c, InI64 x)
  {v : Value} {qs : List Int} (hI : Ints w v qs) (hqb : qs.length ≤ 1000000) (has : ∀ a ∈ qs, a ≠ 0 ∧ a.natAbs ≤ n) (bud : Int) (hb1 : InI64 bud) (hb2 : bud ≤ 1048576) (hfg : bud ≤ 300 ∨ FgOk ∨ Calm qs ((Sv.St.new n).addAll css)) :
  Calls Tryz.prog 14 #[.pointer (some ⟨b, 0, none⟩), v, .int .i64 bud] w1 (Asked w w1 b n css qs bud) := by
 obtain ⟨G, V, H, p, hm, on⟩ := h
 have hF := Sv.Fresh.addAll hn css hr (by omega)
 obtain ⟨hi, he⟩ := fresh_solI hF hb
 refine (solve_Solve_any H p hi (hI.only0 on) (fun hp q hq => ?_) hqb has bud hb1 hb2 (hfg.elim (fun h => .inl ⟨rfl, h⟩) fun h => .inr (by rw [he]; exact h)) (by omega)).mono ?_
 ·by_cases c : (G q).1 = 0
  ·exact c
  ·have h1 := hm q c
   have h2 := hI.lt hp hq
   omega
 ·rintro e w' ⟨S2, a, cs, h1, h2, h3, G2, V2, H2, p2, A2, O2⟩
  rw [he] at h1
  refine ⟨S2, a, cs, h1, h2, h3, G2, V2, H2, p2, fun q hq => ?_, on.trans O2 fun q hq => .inr (hm q hq)⟩
  by_cases c : q < w1.heap.size
  ·unfold Mine at hq; rw [A2 q c] at hq; exact hm q hq
  ·exact Nat.le_trans on.size (by omega)
theorem NewSv.on {w w1 : World} {b : Nat} {S : Sv.St} (h : NewSv w b S w1) : Only (fun _ => False) w w1 := by obtain ⟨_, _, _, _, _, h⟩ := h; exact h
section
variable {w : World}
theorem Cells.of_block21 {w : World} {b : Nat} {us : List Value} {t : TypeId} {f : Nat × Nat} (h : w.heap[b]? = some (.cells us.toArray t f)) (hl : us.length ≤ 9223372036854775807) : Cells w (.slice (some ⟨b, 0, none⟩) us.length us.length) us := by
 refine ⟨⟨_, _, rfl, Nat.le_refl _, hl⟩, fun ao len cap hv hp => ?_, fun len cap hv => by simp at hv⟩
 simp only [Value.slice.injEq] at hv
 obtain ⟨rfl, rfl, rfl⟩ := hv
 refine ⟨b, 0, rfl, lt_block h, fun i hi => ?_⟩
 rw [cell_block h]
 simp [List.getD, hi]
theorem ex21_clauses (w : World) : IntsS (((w.alloc (.cells #[.int .i64 1, .int .i64 2] 3)).alloc (.cells #[.int .i64 (-1)] 3)).alloc (.cells #[.slice (some ⟨w.heap.size, 0, none⟩) 2 2, .slice (some ⟨w.heap.size + 1, 0, none⟩) 1 1] 23))
  (.slice (some ⟨w.heap.size + 1 + 1, 0, none⟩) 2 2) [[1, 2], [-1]] := by
 have h1 := ints_mk w [1, 2] 3 w.heap.size rfl (by simp [InI64]) (by decide)
 have h2 := ints_mk (w.alloc (.cells #[.int .i64 1, .int .i64 2] 3)) [-1] 3 (w.heap.size + 1) (by simp) (by simp [InI64]) (by decide)
 have h1' := (h1.only0 ((Only.refl _ _).alloc (.cells #[.int .i64 (-1)] 3))).only0 ((Only.refl _ _).alloc (.cells #[.slice (some ⟨w.heap.size, 0, none⟩) 2 2, .slice (some ⟨w.heap.size + 1, 0, none⟩) 1 1] 23))
 have h2' := h2.only0 ((Only.refl _ _).alloc (.cells #[.slice (some ⟨w.heap.size, 0, none⟩) 2 2, .slice (some ⟨w.heap.size + 1, 0, none⟩) 1 1] 23))
 refine ⟨[.slice (some ⟨w.heap.size, 0, none⟩) 2 2, .slice (some ⟨w.heap.size + 1, 0, none⟩) 1 1], ?_, rfl, fun i hi => ?_⟩
 ·have := Cells.of_block21 (w := ((w.alloc (.cells #[.int .i64 1, .int .i64 2] 3)).alloc (.cells #[.int .i64 (-1)] 3)).alloc (.cells #[.slice (some ⟨w.heap.size, 0, none⟩) 2 2, .slice (some ⟨w.heap.size + 1, 0, none⟩) 1 1] 23)) (b := w.heap.size + 1 + 1) (us := [.slice (some ⟨w.heap.size, 0, none⟩) 2 2, .slice (some ⟨w.heap.size + 1, 0, none⟩) 1 1]) (t := 23) (f := (0, 0))
   (by have := heap_alloc_new ((w.alloc (.cells #[.int .i64 1, .int .i64 2] 3)).alloc (.cells #[.int .i64 (-1)] 3)) (.cells #[.slice (some ⟨w.heap.size, 0, none⟩) 2 2, .slice (some ⟨w.heap.size + 1, 0, none⟩) 1 1] 23); simpa using this) (by simp)
  exact this
 ·match i, hi with
  | 0, _ => exact h1'
  | 1, _ => exact h2'
def Ex21To (w : World) (e : Ending) (w' : World) : Prop := ∃ bm cm met, e = .returned (.agg #[.int .u8 1, .slice (some ⟨bm, 0, none⟩) 2 cm, nilS, .int .i64 met]) ∧ w'.cell? ⟨bm, 0, none⟩ = some (.bool false) ∧ w'.cell? ⟨bm, 1, none⟩ = some (.bool true) ∧ Only (fun _ => False) w w'
theorem ex21_ask {w w1 : World} {b : Nat} (h : NewSv w b ((Sv.St.new 2).addAll [[1, 2], [-1]]) w1) : Calls Tryz.prog 14 #[.pointer (some ⟨b, 0, none⟩), .slice none 0 0, .int .i64 100] w1 (Ex21To w) := by
 have hr : ∀ c ∈ [[1, 2], [-1]], ∀ x ∈ c, InI64 x := by
  intro c hc x hx
  simp at hc
  rcases hc with rfl | rfl <;> simp at hx <;> (unfold InI64; omega)
 refine (ask_any h (by omega) (by simp) hr (Ints.of_own (xs := []) (World.ownsRow_nil _ _ _ _) (by simp)) (by simp) (by simp) 100 (by unfold InI64; omega) (by omega) (.inl (by omega))).mono ?_
 rintro e w' ⟨S2, a, cs, h1, h2, h3, h4⟩
 obtain ⟨met, rfl⟩ := Sv.ex21_answer (Sv.Fresh.addAll (by omega) _ hr (by simp)) h1
 obtain ⟨vm, rfl, hrow, hn⟩ := h3
 obtain ⟨bm, cm, rfl, -, -⟩ := own_some hrow (by decide)
 have c0 := hrow.cellAt 0 (by decide)
 have c1 := hrow.cellAt 1 (by decide)
 exact ⟨bm, cm, met, h2, c0, c1, h4.on⟩
set_option maxRecDepth 100000 in
set_option maxHeartbeats 1600000 in
theorem law21_fixed_any : Calls Tryz.prog 10 #[] w fun e w' => e = .returned (.bool true) ∧ Only (fun _ => False) w w' := by
 have hcl := ex21_clauses w
 have hOc : Only (fun _ => False) w (((w.alloc (.cells #[.int .i64 1, .int .i64 2] 3)).alloc (.cells #[.int .i64 (-1)] 3)).alloc (.cells #[.slice (some ⟨w.heap.size, 0, none⟩) 2 2, .slice (some ⟨w.heap.size + 1, 0, none⟩) 1 1] 23)) := (((Only.refl _ _).alloc _).alloc _).alloc _
 have HCl := Lib.hid hcl
 have HOc := Lib.hid hOc
 clear hcl hOc
 go_enter Tryz.func10, Tryz.ntmps10
 go_wp2_with fail
 generalize ((w.alloc (.cells #[.int .i64 1, .int .i64 2] 3)).alloc (.cells #[.int .i64 (-1)] 3)).alloc (.cells #[.slice (some ⟨w.heap.size, 0, none⟩) 2 2, .slice (some ⟨w.heap.size + 1, 0, none⟩) 1 1] 23) = W at *
 refine (solve_New_any W 2 (by unfold InI64; omega) 2 (by decide) HCl.out (by simp) (by intro c hc; simp at hc; rcases hc with rfl | rfl <;> simp)).mono ?_
 rintro e w1 ⟨b, rfl, h1⟩
 have HA := Lib.hid (ex21_ask h1)
 clear h1
 go_wp2_with fail
 refine HA.out.mono ?_
 rintro e w2 ⟨bm, cm, met, rfl, c0, c1, O2⟩
 have HO := Lib.hid (HOc.out.same O2)
 obtain ⟨B, hB⟩ : ∃ B, w2.heap.size = B := ⟨_, rfl⟩
 obtain ⟨w3, hw3⟩ : ∃ w3, w2.alloc (.cells #[.int .u8 1, .slice (some ⟨bm, 0, none⟩) 2 cm, nilS, .int .i64 met] 30) = w3 := ⟨_, rfl⟩
 have hb3 : w3.heap[B]? = some (.cells #[.int .u8 1, .slice (some ⟨bm, 0, none⟩) 2 cm, nilS, .int .i64 met] 30 (0, 0)) := by rw [← hw3, ← hB]; exact heap_alloc_new _ _
 have o3 : Only (fun _ => False) w2 w3 := by rw [← hw3]; exact (Only.refl _ _).alloc _
 have d0 := cell_keep c0 o3 (fun f => f)
 have d1 := cell_keep c1 o3 (fun f => f)
 have e0 : w3.cell? ⟨B, 0, none⟩ = some (.int .u8 1) := by rw [cell_block hb3]; rfl
 have e1 : w3.cell? ⟨B, 1, none⟩ = some (.slice (some ⟨bm, 0, none⟩) 2 cm) := by rw [cell_block hb3]; rfl
 have HO3 := Lib.hid o3
 have HW3 := Lib.hid hw3
 clear c0 c1 O2 hb3 o3 HA
 go_wp2_with fail
 go_ret
 exact ⟨rfl, HO.out.same HO3.out⟩
end
end Go.Proofs.YtjedgdamommgeaaGreat
