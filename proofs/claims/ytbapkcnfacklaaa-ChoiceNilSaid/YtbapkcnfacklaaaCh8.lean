/- choice.New: the walk. Printed by gen_ch8.py. -/
import Derived.Test.YtbapkcnfacklaaaCh7
import Derived.Test.YtbapkcnfacklaaaCh5
import Derived.Test.YtbapkcnfacklaaaNd6
import Derived.Deep.DeepCutAuto
set_option linter.unusedVariables false
namespace Go.Proofs.Ytbapkcnfacklaaa
open Go.RowKit
theorem RowT.all {α : Type} {n : Nat} {C : Nat → World → List Value → α → Prop} {B : Nat} {w : World} {v : Value} {xs : List α} (h : RowT n C B w v xs) : ∀ x ∈ xs, ∃ cs, C B w cs x := by
 intro x hx
 obtain ⟨i, hi, rfl⟩ := List.getElem_of_mem hx
 obtain ⟨ao, cap, rfl, -, -⟩ := h.shape
 obtain ⟨b, off, -, -, -, hc⟩ := h.cells _ _ _ rfl (by omega)
 obtain ⟨cs, -, -, h3⟩ := hc i hi
 exact ⟨cs, h3⟩
section
variable {w w' : World} {B : Nat}
theorem RecC.lines {cs : List Value} {x : RecD} (h : RecC B w cs x) : ∀ p ∈ x.packs, (∀ d ∈ p.deps, InI64 d.line) ∧ ∀ d ∈ p.cons, InI64 d.line := by
 obtain ⟨v1, v2, -, h1, -⟩ := h
 intro p hp
 obtain ⟨cs, hC⟩ := h1.all p hp
 obtain ⟨_, _, _, _, _, _, -, -, -, -, -, -, h4, h5, -⟩ := hC
 refine ⟨fun d hd => ?_, fun d hd => ?_⟩
 ·obtain ⟨_, _, _, -, -, -, h⟩ := h4.all d hd; exact h
 ·obtain ⟨_, _, _, -, -, -, h⟩ := h5.all d hd; exact h
theorem ReqC.lines {cs : List Value} {q : ReqD} (h : ReqC B w cs q) : ∀ r ∈ q.roots, InI64 r.line := by
 obtain ⟨v1, -, h1⟩ := h
 intro r hr
 obtain ⟨_, _, -, -, h⟩ := h1.all r hr
 exact h
theorem getD_in {α : Type} [Inhabited α] {l : List α} {i : Nat} (h : i < l.length) : l.getD i default ∈ l := by
 rw [List.getD_eq_getElem?_getD, List.getElem?_eq_getElem h]; exact List.getElem_mem h
theorem RecD.pack_mem {x : RecD} {p : Nat} (h : p < x.packs.length) : x.pack p ∈ x.packs := getD_in h
theorem rules_range {cs cq : List Value} {x : RecD} {q : ReqD} {l : List Nat} (h : RecC B w cs x) (hq : ReqC B w cq q) (ok : RuOk x q l) : ∀ r ∈ rulesOf x q l, (0 ≤ r.kind ∧ r.kind ≤ 255) ∧ InI64 r.pack ∧ InI64 r.idx ∧ InI64 r.line := by
 have h1 := ok.roots
 have h2 := ok.packs
 have small : ∀ k : Nat, k ≤ 100000 → InI64 (k : Int) := fun k hk => ⟨by omega, by omega⟩
 intro r hr
 unfold rulesOf at hr
 rcases List.mem_append.1 hr with hr | hr
 ·obtain ⟨i, hi, rfl⟩ := List.mem_map.1 hr
  have hi2 := List.mem_range.1 hi
  exact ⟨⟨by simp, by simp⟩, ⟨by simp, by simp⟩, small i (by omega), hq.lines _ (getD_in hi2)⟩
 ·obtain ⟨p, hp, hr⟩ := List.mem_flatMap.1 hr
  have hpl := ok.lt p hp
  have hm := RecD.pack_mem hpl
  have h3 := ok.deps _ hm
  have h4 := ok.cons _ hm
  rcases List.mem_append.1 hr with hr | hr
  ·obtain ⟨i, hi, rfl⟩ := List.mem_map.1 hr
   have hi2 := List.mem_range.1 hi
   exact ⟨⟨by simp, by simp⟩, small p (by omega), small i (by omega), (h.lines _ hm).1 _ (getD_in hi2)⟩
  ·obtain ⟨i, hi, rfl⟩ := List.mem_map.1 hr
   have hi2 := List.mem_range.1 hi
   exact ⟨⟨by simp, by simp⟩, small p (by omega), small i (by omega), (h.lines _ hm).2 _ (getD_in hi2)⟩
def NewGr (w : World) (x : RecD) (q : ReqD) (lim : Nat) (e : Ending) (w' : World) : Prop :=
 ∃ c bt bb gt gb G Bs, e = .returned (.pointer (some ⟨c, 0, none⟩)) ∧ GrAt w' gt gb c bt bb G ⟨[], lim, 0, false⟩ ⟨[], false, false⟩ ∧ RecC Bs w' [G.x1, G.x2] x ∧ ReqC Bs w' [G.q] q ∧ Ints w' G.l (intsOf (x.closure q.names)) ∧
  RowT 4 RuleC Bs w' G.r (rulesOf x q (x.closure q.names)) ∧ (∀ k, Mine gt k ∨ Mine gb k → Bs ≤ k) ∧ (∀ k, Value.blk G.l = some k → k < Bs) ∧ w.heap.size ≤ Bs ∧ Bs ≤ c ∧ Bs ≤ w'.heap.size ∧ Only (fun _ => False) w w'
theorem NewGr.of {w w5 w6 w7 : World} {x : RecD} {q : ReqD} {lim bt bb : Nat} {x1 x2 vq vl vr : Value} {gt gb : Tag} {Vt : TabV} {Vb : BldV} (O5 : Only (fun _ => False) w w5) (hx : RecC w5.heap.size w5 [x1, x2] x) (hq : ReqC w5.heap.size w5 [vq] q)
  (hl : Ints w5 vl (intsOf (x.closure q.names))) (hlb : ∀ k, Value.blk vl = some k → k < w5.heap.size) (hr : RowT 4 RuleC w5.heap.size w5 vr (rulesOf x q (x.closure q.names)))
  (ht : TabAt w6 gt bt Vt ⟨[], lim, 0, false⟩) (ht5 : ∀ k, Mine gt k → w5.heap.size ≤ k) (O6 : Only (fun _ => False) w5 w6)
  (hb : BldAt w7 gb bb Vb ⟨[], false, false⟩) (hb6 : ∀ k, Mine gb k → w6.heap.size ≤ k) (O7 : Only (fun _ => False) w6 w7) :
  NewGr w x q lim (.returned (.pointer (some ⟨w7.heap.size, 0, none⟩))) (w7.alloc (.cells #[x1, x2, vq, vl, vr, .pointer (some ⟨bt, 0, none⟩), .pointer (some ⟨bb, 0, none⟩)] 80)) := by
 have o8 : Only (fun _ => False) w7 (w7.alloc (.cells #[x1, x2, vq, vl, vr, .pointer (some ⟨bt, 0, none⟩), .pointer (some ⟨bb, 0, none⟩)] 80)) := (Only.refl _ _).alloc _
 have o58 := (O6.same O7).same o8
 have h65 := O6.size
 have h76 := O7.size
 refine ⟨_, bt, bb, gt, gb, ⟨x1, x2, vq, vl, vr⟩, w5.heap.size, rfl, ⟨heap_alloc_new w7 _, ?_, ?_, ⟨_, (ht.only0 O7).only0 o8⟩, ⟨_, hb.only0 o8⟩, ?_⟩, RecC.keep hx (Kp.of0 o58), ReqC.keep hq (Kp.of0 o58), hl.only0 o58, hr.keep RuleC.keep (Kp.of0 o58), ?_, hlb, O5.size, by omega, o58.size, O5.same o58⟩
 ·rw [ht.fresh _ (by omega)]
 ·rw [hb.fresh _ (by omega)]
 ·intro k h1 h2
  have := hb6 k h2
  unfold Mine at h1
  exact h1 (ht.fresh k this)
 ·rintro k (h | h)
  ·exact ht5 k h
  ·have := hb6 k h; omega
theorem smallRuOk {x : RecD} {q : ReqD} (hs : SmallRec x) (hq : q.roots.length ≤ 40) : RuOk x q (x.closure q.names) :=
 ⟨by omega, by have := hs.packs; omega, fun p hp => by have := (hs.all p hp).deps; omega, fun p hp => by have := (hs.all p hp).cons; omega, by have := x.closure_len q.names; have := hs.packs; omega, fun p hp => (RecD.mem_closure.1 hp).lt⟩
set_option maxRecDepth 100000 in
set_option maxHeartbeats 2000000 in
theorem New_gr {cs cq : List Value} {x : RecD} {q : ReqD} (h : RecC B w cs x) (hq : ReqC B w cq q) (hBw : B ≤ w.heap.size) (hs : SmallRec x) (hql : q.roots.length ≤ 40) (n : Int) (hn : InI64 n) (lim : Nat) (hlim : min (max n 0) 65536 = (lim : Int)) :
  Calls Try.prog 27 #[.agg cs.toArray, .agg cq.toArray, .int .i64 n] w (NewGr w x q lim) := by
 have HH := Lib.hid h
 have HQ := Lib.hid hq
 have HSm := Lib.hid hs
 obtain ⟨v1, v2, rfl, h1, h2⟩ := h
 obtain ⟨ao, cap, rfl, -, -⟩ := h1.shape
 obtain ⟨ao2, cap2, rfl, -, -⟩ := h2.shape
 obtain ⟨v3, rfl, h3⟩ := hq
 obtain ⟨ao3, cap3, rfl, -, -⟩ := h3.shape
 obtain ⟨n1, hn1⟩ : ∃ n, x.packs.length = n := ⟨_, rfl⟩
 obtain ⟨n2, hn2⟩ : ∃ n, x.prefs.length = n := ⟨_, rfl⟩
 obtain ⟨n3, hn3⟩ : ∃ n, q.roots.length = n := ⟨_, rfl⟩
 rw [hn1, hn2] at HH
 rw [hn3] at HQ
 rw [hn1, hn2, hn3]
 have HL := Lib.hid hlim
 have HQl := Lib.hid hql
 have HN := Lib.hid hn
 obtain ⟨W0, hW0⟩ : ∃ W0, W0 = (w.alloc (.cells #[.slice ao n1 cap, .slice ao2 n2 cap2] 25)).alloc (.cells #[.slice ao3 n3 cap3] 28) := ⟨_, rfl⟩
 have HOB : Hid (Only (fun _ => False) w W0) := by rw [hW0]; exact ((Only.refl _ _).alloc _).alloc _
 have HBox : Hid (∀ W, Only (fun _ => False) W0 W → W.cell? ⟨w.heap.size, 0, none⟩ = some (.slice ao n1 cap) ∧ W.cell? ⟨w.heap.size, 1, none⟩ = some (.slice ao2 n2 cap2) ∧ W.cell? ⟨w.heap.size + 1, 0, none⟩ = some (.slice ao3 n3 cap3)) := fun W ho => by
  have b0 : W0.heap[w.heap.size]? = some (.cells #[.slice ao n1 cap, .slice ao2 n2 cap2] 25) := by rw [hW0]; exact alloc_block (heap_alloc_new w _) _
  have b1 : W0.heap[w.heap.size + 1]? = some (.cells #[.slice ao3 n3 cap3] 28) := by rw [hW0]; exact alloc_at (by simp)
  have c0 := only_block b0 ho (fun f => f)
  have c1 := only_block b1 ho (fun f => f)
  exact ⟨by rw [cell_block c0]; rfl, by rw [cell_block c0]; rfl, by rw [cell_block c1]; rfl⟩
 have HKR : Hid (∀ W, Only (fun _ => False) W0 W → RecC B W [.slice ao n1 cap, .slice ao2 n2 cap2] x) := fun W hW => RecC.keep HH.out (Kp.of0 (HOB.out.same hW) : Kp B w W)
 have HKQ : Hid (∀ W, Only (fun _ => False) W0 W → ReqC B W [.slice ao3 n3 cap3] q) := fun W hW => ReqC.keep HQ.out (Kp.of0 (HOB.out.same hW) : Kp B w W)
 have HBw := Lib.hid hBw
 obtain ⟨k0, k1, k2⟩ := HBox.out W0 (Only.refl _ _)
 clear h1 h2 h3 hn1 hn2 hn3 hs hlim hql hn hBw
 go_enter Try.func27, Try.ntmps27
 go_wp2_with fail
 rw [← hW0]
 clear hW0
 refine (Closure_any (HKR.out W0 (Only.refl _ _)) (HKQ.out W0 (Only.refl _ _)) HSm.out (by have := HQl.out; omega)).mono ?_
 rintro e w3 ⟨vl, rfl, hrow, -, O3⟩
 have hI : Ints w3 vl (intsOf (x.closure q.names)) := ints_of_nats hrow fun i hi => by have := (RecD.mem_closure.1 hi).lt; have := HSm.out.packs; omega
 have HLb : Hid (∀ k, Value.blk vl = some k → k < w3.heap.size) := fun k hk => own_lt hrow (by
  obtain ⟨a2, c2, rfl, -, -⟩ := own_slice hrow
  cases a2 with
  | none => cases hk
  | some ad => exact hk)
 clear hrow
 have HI := Lib.hid hI
 have HO3 := Lib.hid O3
 obtain ⟨al, cl, rfl, -, -⟩ := hI.shape
 obtain ⟨nl, hnl⟩ : ∃ n, (intsOf (x.closure q.names)).length = n := ⟨_, rfl⟩
 rw [hnl] at HI HLb ⊢
 clear hI O3 hnl k0 k1 k2
 have HK : Hid (∀ W, Only (fun _ => False) w3 W → W.cell? ⟨w.heap.size, 0, none⟩ = some (.slice ao n1 cap) ∧ W.cell? ⟨w.heap.size, 1, none⟩ = some (.slice ao2 n2 cap2) ∧ W.cell? ⟨w.heap.size + 1, 0, none⟩ = some (.slice ao3 n3 cap3)) := fun W hW => HBox.out W (HO3.out.same hW)
 have HRu : Hid (∀ W, Only (fun _ => False) w3 W → Calls Try.prog 42 #[.agg #[.slice ao n1 cap, .slice ao2 n2 cap2], .agg #[.slice ao3 n3 cap3], .slice al nl cl] W fun e w' => ∃ v, e = .returned v ∧ RuRow W w' v (rulesOf x q (x.closure q.names)) ∧ Only (fun _ => False) W w') := fun W hW =>
  rules_any (HKR.out W (HO3.out.same hW)) (HKQ.out W (HO3.out.same hW)) (HI.out.only0 hW) (smallRuOk HSm.out HQl.out)
 have HAt : Hid (∀ W, Calls Try.prog 43 #[.int .i64 n] W (NewTab W lim)) := fun W => atomsNew_any W n HN.out lim HL.out
 have HCf : Hid (∀ W, Calls Try.prog 44 #[] W (NewBld W)) := fun W => cnfNew_any W
 have HFin : Hid (∀ w5 w6 w7 v bt bb gt gb Vt Vb, Only (fun _ => False) w3 w5 → RuRow w3 w5 v (rulesOf x q (x.closure q.names)) → TabAt w6 gt bt Vt ⟨[], lim, 0, false⟩ → (∀ k, Mine gt k → w5.heap.size ≤ k) → Only (fun _ => False) w5 w6 → BldAt w7 gb bb Vb ⟨[], false, false⟩ → (∀ k, Mine gb k → w6.heap.size ≤ k) → Only (fun _ => False) w6 w7 →
   NewGr w x q lim (.returned (.pointer (some ⟨w7.heap.size, 0, none⟩))) (w7.alloc (.cells #[.slice ao n1 cap, .slice ao2 n2 cap2, .slice ao3 n3 cap3, .slice al nl cl, v, .pointer (some ⟨bt, 0, none⟩), .pointer (some ⟨bb, 0, none⟩)] 80))) := by
  intro w5 w6 w7 v bt bb gt gb Vt Vb o5 hru ht ht5 o6 hb hb6 o7
  have O5 := (HOB.out.same HO3.out).same o5
  have hBs : B ≤ w5.heap.size := Nat.le_trans HBw.out O5.size
  have ok := smallRuOk HSm.out HQl.out
  have hI5 := HI.out.only0 o5
  refine NewGr.of O5 (RecC.lift (HKR.out w5 (HO3.out.same o5)) hBs (Nat.le_refl _)) (ReqC.lift (HKQ.out w5 (HO3.out.same o5)) hBs (Nat.le_refl _)) hI5 (fun k hk => ?_) (hru.read (rules_range (HKR.out w5 (HO3.out.same o5)) (HKQ.out w5 (HO3.out.same o5)) ok)) ht ht5 o6 hb hb6 o7
  have h1 := HLb.out k hk
  have h2 := o5.size
  omega
 have hS0 := HK.out w3.drew ((Only.refl _ _).drew)
 clear HBox HKR HKQ HI HH HQ
 go_wp2_with fail
 refine wp_region_G (n := 13) (E := fun _ => false) (S := fun W => W.cell? ⟨w.heap.size, 0, none⟩ = some (.slice ao n1 cap) ∧ W.cell? ⟨w.heap.size, 1, none⟩ = some (.slice ao2 n2 cap2) ∧ W.cell? ⟨w.heap.size + 1, 0, none⟩ = some (.slice ao3 n3 cap3)) (by kernel_rfl) rfl hS0 (fun hHeld => ?_)
 refine tqK (i := 0) (v := ?_) rfl ?_ ?_
 rotate_left
 ·(intro w hSw; (try dsimp only at hSw); go_simp <;> (try with_reducible rfl))
 try simp only [Act.put, zq1, zq3, zq4, zq5, zq6]
 refine tqK (i := 1) (v := ?_) rfl ?_ ?_
 rotate_left
 ·(intro w hSw; (try dsimp only at hSw); go_simp <;> (try with_reducible rfl))
 try simp only [Act.put, zq1, zq2, zq3, zq4, zq5, zq6]
 refine tqW (i := 2) (v := ?_) rfl (.inr (by assumption)) ?_ ?_
 rotate_left
 ·(intro w; go_simp <;> (try with_reducible rfl))
 try simp only [Act.put, zq1, zq2, zq3, zq4, zq5, zq6]
 refine tqK (i := 3) (v := ?_) rfl ?_ ?_
 rotate_left
 ·(intro w hSw; (try dsimp only at hSw); go_simp <;> (try with_reducible rfl))
 try simp only [Act.put, zq1, zq2, zq3, zq4, zq5, zq6]
 refine tqK (i := 4) (v := ?_) rfl ?_ ?_
 rotate_left
 ·(intro w hSw; (try dsimp only at hSw); go_simp <;> (try with_reducible rfl))
 try simp only [Act.put, zq1, zq2, zq3, zq4, zq5, zq6]
 refine tqW (i := 5) (v := ?_) rfl (.inr (by assumption)) ?_ ?_
 rotate_left
 ·(intro w; go_simp <;> (try with_reducible rfl))
 try simp only [Act.put, zq1, zq2, zq3, zq4, zq5, zq6]
 refine tqW (i := 7) (v := ?_) rfl (.inr (by assumption)) ?_ ?_
 rotate_left
 ·(intro w; go_simp <;> (try with_reducible rfl))
 try simp only [Act.put, zq1, zq2, zq3, zq4, zq5, zq6]
 refine wpAnyG_ready (rs := [6]) (by kernel_rfl) (by simp) ?_
 refine AllReadyG.cons (i := 6) rfl (fun K hK => ?_) ?_
 ·(go_simp; refine (HRu.out _ (by exact (by repeat (first | exact Only.refl _ _ | apply Only.drew | apply Only.alloc | apply Only.drewN)))).mono ?_; rintro e w5 ⟨v5, rfl, hru, o5⟩; have oA : Only (fun _ => False) w3 w5 := Only.same (by repeat (first | exact Only.refl _ _ | apply Only.drew | apply Only.alloc | apply Only.drewN)) o5; have hru' : RuRow w3 w5 v5 (rulesOf x q (x.closure q.names)) := ⟨hru.1, fun k hk => by have h1 := hru.2 k hk; simpa using h1⟩; obtain ⟨a5, c5, rfl, -, -⟩ := own_slice hru.1; try go_wp2_with fail)
  refine hK.out _ _ ?_ (fun hHeld => ?_)
  ·(try dsimp only) <;> (exact HK.out _ oA)
  clear hK K
  try simp only [Act.put, zq1, zq2, zq3, zq4, zq5, zq6]
  refine wpAnyG_ready (rs := [8]) (by kernel_rfl) (by simp) ?_
  refine AllReadyG.cons (i := 8) rfl (fun K hK => ?_) ?_
  ·(go_simp; refine (HAt.out _).mono ?_; rintro e w6 ⟨bt, gt, Vt, rfl, htab, htn, o6⟩; have oB := oA.same o6; try go_wp2_with fail)
   refine hK.out _ _ ?_ (fun hHeld => ?_)
   ·(try dsimp only) <;> (exact HK.out _ oB)
   clear hK K
   try simp only [Act.put, zq1, zq2, zq3, zq4, zq5, zq6]
   refine wpAnyG_ready (rs := [9]) (by kernel_rfl) (by simp) ?_
   refine AllReadyG.cons (i := 9) rfl (fun K hK => ?_) ?_
   ·(go_simp; refine (HCf.out _).mono ?_; rintro e w7 ⟨bb, gb, Vb, rfl, hbld, hbn, o7⟩; have oC := oB.same o7; try go_wp2_with fail)
    refine hK.out _ _ ?_ (fun hHeld => ?_)
    ·(try dsimp only) <;> (exact HK.out _ oC)
    clear hK K
    try simp only [Act.put, zq1, zq2, zq3, zq4, zq5, zq6]
    refine tqW (i := 10) (v := ?_) rfl (.inr (by assumption)) ?_ ?_
    rotate_left
    ·(intro w; go_simp <;> (try with_reducible rfl))
    try simp only [Act.put, zq1, zq2, zq3, zq4, zq5, zq6]
    refine wpAnyG_ready (rs := [11]) (by kernel_rfl) (by simp) ?_
    refine AllReadyG.cons (i := 11) rfl (fun K hK => ?_) ?_
    ·go_simp
     refine hK.out _ _ ?_ (fun hHeld => ?_)
     ·(try dsimp only) <;> (exact HK.out _ (by exact oC.alloc _))
     clear hK K
     try simp only [Act.put, zq1, zq2, zq3, zq4, zq5, zq6]
     refine tqW (i := 12) (v := ?_) rfl (.inr (by assumption)) ?_ ?_
     rotate_left
     ·(intro w; go_simp <;> (try with_reducible rfl))
     try simp only [Act.put, zq1, zq2, zq3, zq4, zq5, zq6]
     refine wpAnyG_done (by kernel_rfl) ?_ _
     have HRes := Lib.hid (HFin.out w5 w6 w7 _ bt bb gt gb Vt Vb oA hru' htab htn o6 hbld hbn o7)
     go_wp2_with fail
     go_ret
     exact HRes.out
    exact AllReadyG.nil
   exact AllReadyG.nil
  exact AllReadyG.nil
 exact AllReadyG.nil
end
end Go.Proofs.Ytbapkcnfacklaaa
