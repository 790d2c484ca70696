/- cooperref28.Parse: walked. Printed by gen_lkwm.py. -/
import Derived.Test.YtmlfchjompfmaaaDoorLkWL
import Derived.Test.YtmlfchjompfmaaaDoorLkVA
set_option linter.unusedVariables false
namespace Go.Proofs.YtmlfchjompfmaaaDoor
open Go.RowKit
open Lk (withB stepB goB parseB graphB headL)
def RParseEnd (s : Str) (w w' : World) (e : Ending) : Prop := ∃ ao n c ln, e = .returned (.agg #[.slice ao n c, .int .i64 ln]) ∧ Only (fun _ => False) w w' ∧
 (match parseB s.toList with | .ok G => ln = 0 ∧ ∃ g, toG g = G ∧ RowT 4 NodC w'.heap.size w' (.slice ao n c) g | .error k => ln = (k : Int) ∧ 0 < k)
section
variable {w w' : World} {B : Nat}
theorem rparse_fin {Q : Ending → World → Prop} {W : World} {R : Nat} {T : Act} {c : Array Value} {gv : Value} {ln : Int} (hb : W.heap[R]? = some (.cells c 53 (0, 0)))
  (h2 : T.tmps.getD 2 undef = .pointer (some ⟨R, 0, none⟩)) (hd : T.defers = [])
  (h : Q (.returned (.agg #[gv, .int .i64 ln])) (W.setRow R #[gv, .int .i64 ln])) :
  bodyPost Tryd.prog Tryd.f20 Q Exit.ret T (W.setRow R #[gv, .int .i64 ln]) := by
 refine bodyPost_ret (v := .agg #[gv, .int .i64 ln]) ?_ hd h
 have a2 := setRow_heap W R c #[gv, .int .i64 ln] 53 (0, 0) hb
 have e : Tryd.f20.results = #[.cell 2 53] := rfl
 have l2 := run_loadVar_row (P := Tryd.prog) _ R 53 53 #[gv, .int .i64 ln] (0, 0) _ a2 Tryd.underlying53 rfl (by kernel_rfl)
 have g2 : T.tmps[2]?.getD undef = .pointer (some ⟨R, 0, none⟩) := by simpa using h2
 simp only [results, e]
 simp [g2, asAddr, l2]
theorem RParseEnd.err {s : Str} {W : World} {R n : Nat} {k : Int} {cs : Array Value} {ao : Option Addr} {m c : Nat} (hp : parseB s.toList = .error n) (h0 : 0 < n) (hk : k = (n : Int)) (hR : w.heap.size = R) (o : Only (fun _ => False) w W) : RParseEnd s w (W.setRow R cs) (.returned (.agg #[.slice ao m c, .int .i64 k])) := by
 subst hk
 refine ⟨_, _, _, _, rfl, o.trans (only_setRow1 W R cs) fun k hk => .inr (by omega), ?_⟩
 rw [hp]
 exact ⟨rfl, h0⟩
theorem RParseEnd.ok {s : Str} {W : World} {R : Nat} {cs c : Array Value} {ao : Option Addr} {m cc : Nat} {L : List LN} (hp : parseB s.toList = .ok (toG (L.map LN.x))) (hR : w.heap.size = R) (o : Only (fun _ => False) w W) (hb : W.heap[R]? = some (.cells c 53 (0, 0))) (h : RowS W (.slice ao m cc) L) : RParseEnd s w (W.setRow R cs) (.returned (.agg #[.slice ao m cc, .int .i64 0])) := by
 refine ⟨_, _, _, _, rfl, o.trans (only_setRow1 W R cs) fun k hk => .inr (by omega), ?_⟩
 rw [hp]
 exact ⟨rfl, L.map LN.x, rfl, (h.blk hb (by decide) (by decide) (by decide) (only_setRow1 W R cs)).read⟩
structure PJ (s : Str) (ls : List Str) (w3 wr : World) (N i : Nat) (ao : Option Addr) (n c : Nat) (L : List LN) : Prop where
 blk : wr.heap[N]? = some (.cells #[.slice ao n c] 39 (0, 0))
 row : RowS wr (.slice ao n c) L
 gb : graphB (toG (L.map LN.x)) = true
 go : i < ls.length → goB ((ls.map ByteArray.toList).drop i) i (toG (L.map LN.x)) = parseB s.toList
 only : Only (fun _ => False) w3 wr
set_option maxRecDepth 100000 in
set_option maxHeartbeats 8000000 in
theorem RParse_x (s : Str) (hs : s.size ≤ 1000000) :
  Calls Tryd.prog 20 #[.string s] w (fun e w' => RParseEnd s w w' e) := by
 obtain ⟨w0, hw0⟩ : ∃ W, w.alloc (.cells #[.slice none 0 0, .int .i64 0] 53) = W := ⟨_, rfl⟩
 obtain ⟨R, hR⟩ : ∃ R, w.heap.size = R := ⟨_, rfl⟩
 have hb0 : w0.heap[R]? = some (.cells #[.slice none 0 0, .int .i64 0] 53 (0, 0)) := by rw [← hw0, ← hR]; exact heap_alloc_new _ _
 have o0 : Only (fun _ => False) w w0 := by rw [← hw0]; exact (Only.refl _ _).alloc _
 have HCut := Lib.hid (Cut_x (w := w0) s hs 10 10 rfl)
 have HO0 := Lib.hid o0
 have HB0 : Hid (∀ W, Only (fun _ => False) w0 W → W.heap[R]? = some (.cells #[.slice none 0 0, .int .i64 0] 53 (0, 0))) := fun W o => only_block hb0 o (fun f => f)
 have HSz := Lib.hid hs
 have HRw := Lib.hid hR
 clear hs hb0 o0
 go_enter Tryd.func20, Tryd.ntmps20
 go_wp2_with fail
 refine HCut.out.mono ?_
 rintro e w3 ⟨vw, rfl, ht, O3⟩
 obtain ⟨ws, hw1, hw2, hw3, hw4⟩ := ht
 have hwne : 0 < ws.length := by
  rw [← List.length_map (f := ByteArray.toList), hw1]
  exact List.length_pos_iff.2 (cutB_ne 10 _)
 obtain ⟨gw, cw, rfl, hc1, hc2⟩ := own_some hw2 hwne
 obtain ⟨nw, hnw⟩ : ∃ m, ws.length = m := ⟨_, rfl⟩
 have HNw := Lib.hid hnw
 rw [hnw] at hwne hw2 hc1 ⊢
 have hnw6 : nw ≤ 1000000 + 1 := by
  have h := cut_count 10 s.toList
  rw [← hw1, List.length_map, hnw, size_toList] at h
  have h2 := HSz.out
  omega
 have HWs : Hid (∀ W, Only (fun _ => False) w3 W → ∀ i x, ws[i]? = some x → W.cell? ⟨gw, i, none⟩ = some (.string x)) := fun W o i x hx => by
  have h := own_only hw2 o (fun _ _ f => f)
  have hi := (List.getElem?_eq_some_iff.1 hx).1
  rw [h.cellAt i (by omega)]
  show (ws.map Value.string)[i]? = _
  rw [List.getElem?_map, hx]; rfl
 have HWl : Hid (∀ x ∈ ws, x.size ≤ 1000000) := fun x hx => by
  have := cut_length (c := 10) s.toList x.toList (by rw [← hw1]; exact List.mem_map_of_mem hx)
  rw [size_toList, size_toList] at this
  have := HSz.out
  omega
 have HCw := Lib.hid hw1
 have HO3 := Lib.hid O3
 clear hw1 hw2 hw3 hw4 O3 hnw hR hw0
 obtain ⟨N, hN⟩ : ∃ N, w3.heap.size = N := ⟨_, rfl⟩
 go_wp2_with fail
 obtain ⟨w4, hw4⟩ : ∃ W, w3.alloc (.cells #[.slice none 0 0] 39) = W := ⟨_, rfl⟩
 have hb4 : w4.heap[N]? = some (.cells #[.slice none 0 0] 39 (0, 0)) := by rw [← hw4, ← hN]; exact heap_alloc_new _ _
 have HPI0 : Hid (PJ s ws w3 w4 N 0 none 0 0 []) := ⟨hb4, RowS.nil rfl, rfl, fun _ => by rw [HCw.out]; rfl, by rw [← hw4]; exact (Only.refl _ _).alloc _⟩
 have HNw3 := Lib.hid hN
 rw [hw4]
 clear hb4 hw4 hN
 go_loopw [5, 6, 7, 13] (fun _ _ _ vi wr => ∃ (i : Nat) (ao : Option Addr) (n c : Nat) (L : List LN), vi = .int .i64 i ∧ i < nw ∧ Hid (PJ s ws w3 wr N i ao n c L)) (fun _ _ _ v _ => nw - (RowKit.intOf v).toNat)
 case atStart => exact ⟨0, none, 0, 0, [], rfl, hwne, HPI0⟩
 case round =>
  clear HPI0
  obtain ⟨i, ao, n, c, L, rfl, hi, HPI⟩ := hrel
  ·have ci := hi
   have ewi : IntKind.i64.wrap ((i : Int) + 1) = (i : Int) + 1 := by rw [IntKind.wrap_i64]; omega
   have ewi2 : IntKind.i64.wrap ((i : Int) + 2) = (i : Int) + 2 := by rw [IntKind.wrap_i64]; omega
   have ewn : IntKind.i64.wrap ((nw : Int) - 1) = (nw : Int) - 1 := by rw [IntKind.wrap_i64]; omega
   obtain ⟨x, hx⟩ : ∃ x, ws[i]? = some x := ⟨_, List.getElem?_eq_getElem (by rw [HNw.out]; exact ci)⟩
   have HX := Lib.hid hx
   have hxB : (ws.map ByteArray.toList)[i]? = some x.toList := by rw [List.getElem?_map, hx]; rfl
   have HXB := Lib.hid hxB
   have hgo := HPI.out.go (by rw [HNw.out]; exact ci)
   have q0 := HWs.out wr HPI.out.only i x hx
   have q1 : wr.cell? ⟨N, 0, none⟩ = some (.slice ao n c) := by rw [cell_block HPI.out.blk]; rfl
   have HGo := Lib.hid hgo
   have HBr := Lib.hid (HB0.out wr (HO3.out.same HPI.out.only))
   have HOw : Hid (Only (fun _ => False) w wr) := HO0.out.same (HO3.out.same HPI.out.only)
   clear hx hxB hgo
   have HWi : Hid (∀ W, (W.cell? ⟨N, 0, none⟩ = some (.slice ao n c) ∧ W.cell? ⟨gw, i, none⟩ = some (.string x) ∧ Only (fun _ => False) wr W) → Calls Tryd.prog 37 #[.agg #[.slice ao n c], .string x] W (fun e w' => WithEnd (withB (toG (L.map LN.x)) x.toList) W w' e)) := fun W hW => by
    have hs := gb_small (P := 0) HPI.out.gb
    exact With28_x (HPI.out.row.only0 hW.2.2) rfl (by rw [List.length_map]; omega) (fun y hy => by
     obtain ⟨m, hm, rfl⟩ := List.mem_map.1 hy
     have := hs.2 m hm; omega) x (HWl.out x (List.mem_of_getElem? HX.out))
   have HK : Hid (∀ W, Only (fun _ => False) wr W → W.cell? ⟨N, 0, none⟩ = some (.slice ao n c) ∧ W.cell? ⟨gw, i, none⟩ = some (.string x) ∧ Only (fun _ => False) wr W) := fun W o => ⟨by rw [cell_block (only_block HPI.out.blk o (fun f => f))]; rfl, HWs.out W (HPI.out.only.same o) i x HX.out, o⟩
   have hS0 := HK.out wr.drew ((Only.refl _ _).drew)
   by_cases cl : i + 1 = nw
   ·have tl : ((i : Int) == (nw : Int) - 1) = true := by rw [beq_iff_eq]; omega
    have hg := go_last (G := toG (L.map LN.x)) HXB.out (by rw [List.length_map, HNw.out]; exact cl)
    rw [HGo.out] at hg
    have HG := Lib.hid hg
    clear hg
    by_cases c0 : i = 0
    ·subst c0
     obtain rfl : nw = 1 := by omega
     by_cases ch : x.toList = headL
     ·have hbe : (x.toList == [108, 111, 99, 107, 32, 49]) = true := by rw [ch]; decide
      have HPe : Hid (parseB s.toList = .error 2) := by rw [Hid, HG.out, if_neg (fun h => by omega), if_pos rfl, if_pos ch]
      clear ch hS0
      go_wp2_with (refine wpList_store_row rfl 53 (.tmp 2) (.tmp 68) rfl R #[.slice none 0 0, .int .i64 (2)] rfl rfl 53 #[.slice none 0 0, .int .i64 0] HBr.out (by kernel_rfl) rfl (by first | kernel_rfl | rfl | simp [Value.oneCell']) ?_)
      refine rparse_fin (R := R) HBr.out rfl rfl ?_
      exact RParseEnd.err (n := 2) HPe.out (by omega) (by first | rfl | omega | simp) HRw.out HOw.out
     ·have hbe : (x.toList == [108, 111, 99, 107, 32, 49]) = false := by rw [beq_eq_false_iff_ne]; exact ch
      have HPe : Hid (parseB s.toList = .error 1) := by rw [Hid, HG.out, if_neg (fun h => by omega), if_pos rfl, if_neg ch]
      clear ch hS0
      go_wp2_with (refine wpList_store_row rfl 53 (.tmp 2) (.tmp 40) rfl R #[.slice none 0 0, .int .i64 (1)] rfl rfl 53 #[.slice none 0 0, .int .i64 0] HBr.out (by kernel_rfl) rfl (by first | kernel_rfl | rfl | simp [Value.oneCell']) ?_)
      refine rparse_fin (R := R) HBr.out rfl rfl ?_
      exact RParseEnd.err (n := 1) HPe.out (by omega) (by first | rfl | omega | simp) HRw.out HOw.out
    ·have t0 : ((i : Int) == 0) = false := by rw [beq_eq_false_iff_ne]; omega
     have tg : decide ((0 : Int) < (i : Int)) = true := decide_eq_true (by omega)
     by_cases ce : x.size = 0
     ·obtain rfl := size_zero ce
      have HPe : Hid (parseB s.toList = .ok (toG (L.map LN.x))) := by
       rw [Hid, HG.out, if_pos ⟨by omega, by rw [toList_data]⟩]
      clear ce hS0
      go_wp2_with (refine wpList_store_row rfl 53 (.tmp 2) (.tmp 33) rfl R #[.slice ao n c, .int .i64 0] rfl rfl 53 #[.slice none 0 0, .int .i64 0] HBr.out (by kernel_rfl) rfl (by first | kernel_rfl | rfl | simp [Value.oneCell']) ?_)
      refine rparse_fin (R := R) HBr.out rfl rfl ?_
      exact RParseEnd.ok HPe.out HRw.out HOw.out HBr.out HPI.out.row
     ·have hbe := size_pos (s := x) (by omega)
      have hxn : x.toList ≠ [] := toList_ne (by omega)
      have HNo : Hid (stepB (toG (L.map LN.x)) x.toList = none → Hid (parseB s.toList = .error (i + 1))) := fun h => by rw [Hid, HG.out, if_neg (fun h => hxn h.2), if_neg c0, h]
      have HYes : Hid (∀ G', stepB (toG (L.map LN.x)) x.toList = some G' → Hid (parseB s.toList = .error (i + 2))) := fun G' h => by rw [Hid, HG.out, if_neg (fun h => hxn h.2), if_neg c0, h]
      clear hxn
      go_wp2_with fail
      refine wp_region_G (n := 12) (E := fun j => j == 10) (S := fun W => W.cell? ⟨N, 0, none⟩ = some (.slice ao n c) ∧ W.cell? ⟨gw, i, none⟩ = some (.string x) ∧ Only (fun _ => False) wr W) (by kernel_rfl) rfl hS0 (fun hHeld => ?_)
      refine tqK (i := 0) (v := ?_) rfl ?_ ?_
      rotate_left
      ·(intro w hSw; (try dsimp only at hSw); go_simp <;> (try with_reducible rfl))
      try simp only [Act.put, zq1, zq3, zq4, zq5, zq6]
      refine tqW (i := 1) (v := ?_) rfl (.inr (by assumption)) ?_ ?_
      rotate_left
      ·(intro w; go_simp <;> (try with_reducible rfl))
      try simp only [Act.put, zq1, zq2, zq3, zq4, zq5, zq6]
      refine tqW (i := 2) (v := ?_) rfl (.inr (by assumption)) ?_ ?_
      rotate_left
      ·(intro w; go_simp <;> (try with_reducible rfl))
      try simp only [Act.put, zq1, zq2, zq3, zq4, zq5, zq6]
      refine tqW (i := 3) (v := ?_) rfl (.inr (by assumption)) ?_ ?_
      rotate_left
      ·(intro w; go_simp <;> (try with_reducible rfl))
      try simp only [Act.put, zq1, zq2, zq3, zq4, zq5, zq6]
      refine tqK (i := 4) (v := ?_) rfl ?_ ?_
      rotate_left
      ·(intro w hSw; (try dsimp only at hSw); go_simp <;> (try with_reducible rfl))
      try simp only [Act.put, zq1, zq2, zq3, zq4, zq5, zq6]
      refine wpAnyG_ready (rs := [5, 9]) (by kernel_rfl) (by simp) ?_
      refine AllReadyG.cons (i := 5) rfl (fun K hK => ?_) ?_
      ·(go_simp; refine (HWi.out _ hHeld).mono ?_; rintro e w6 ⟨an, nn, cn, okn, rfl, O6, hm⟩; try go_wp2_with fail)
       refine hK.out _ _ ?_ (fun hHeld => ?_)
       ·(try dsimp only) <;> (exact HK.out _ (hHeld.2.2.same O6))
       clear hK K
       try simp only [Act.put, zq1, zq2, zq3, zq4, zq5, zq6]
       refine tqW (i := 6) (v := ?_) rfl (.inr (by assumption)) ?_ ?_
       rotate_left
       ·(intro w; go_simp <;> (try with_reducible rfl))
       try simp only [Act.put, zq1, zq2, zq3, zq4, zq5, zq6]
       refine tqW (i := 7) (v := ?_) rfl (.inr (by assumption)) ?_ ?_
       rotate_left
       ·(intro w; go_simp <;> (try with_reducible rfl))
       try simp only [Act.put, zq1, zq2, zq3, zq4, zq5, zq6]
       refine tqW (i := 8) (v := ?_) rfl (.inr (by assumption)) ?_ ?_
       rotate_left
       ·(intro w; go_simp <;> (try with_reducible rfl))
       try simp only [Act.put, zq1, zq2, zq3, zq4, zq5, zq6]
       refine wpAnyG_ready (rs := [9]) (by kernel_rfl) (by simp) ?_
       refine AllReadyG.cons (i := 9) rfl (fun K hK => ?_) ?_
       ·go_simp
        refine hK.out _ _ ?_ (fun hHeld => ?_)
        ·(try dsimp only) <;> (exact HK.out _ (hHeld.2.2.alloc _))
        clear hK K
        try simp only [Act.put, zq1, zq2, zq3, zq4, zq5, zq6]
        refine wpAnyG_ready (rs := [10]) (by kernel_rfl) (by simp) ?_
        refine AllReadyG.late (i := 10) rfl (by kernel_rfl) (fun K hK => ?_) ?_
        ·(first | (have bX := only_block (b := wr.heap.size) (by exact heap_alloc_new _ _) O6 (fun f => f); have cX : w6.cell? ⟨wr.heap.size, 0, none⟩ = some (.slice none 0 0) := (by rw [cell_block bX]; rfl); have fX : w6.frozen? ⟨wr.heap.size, 0, none⟩ = false := frozen_block bX 0; go_simp) | go_simp)
         refine hK.out _ _ ?_
         clear hK K
         try simp only [Act.put, zq1, zq2, zq3, zq4, zq5, zq6]
         refine tqW (i := 11) (v := ?_) rfl (.inl (by kernel_rfl)) ?_ ?_
         rotate_left
         ·(intro w; go_simp <;> (try with_reducible rfl))
         try simp only [Act.put, zq1, zq2, zq3, zq4, zq5, zq6]
         refine wpAnyG_done (by kernel_rfl) ?_ _
         obtain ⟨X, hX⟩ : ∃ X, w6.heap.size = X := ⟨_, rfl⟩
         obtain ⟨w7, hw7⟩ : ∃ W, w6.alloc (.cells #[.slice an nn cn] 39) = W := ⟨_, rfl⟩
         have b7 : w7.heap[X]? = some (.cells #[.slice an nn cn] 39 (0, 0)) := by rw [← hw7, ← hX]; exact heap_alloc_new _ _
         have ob : Only (fun _ => False) w6 w7 := by rw [← hw7]; exact (Only.refl _ _).alloc _
         have HRow : Hid (∀ L' : List LN, RowS w6 (.slice an nn cn) L' → RowS w7 (.slice an nn cn) L') := fun L' h => h.only0 ob
         have O7 : Only (fun _ => False) wr w7 := (Only.same (by repeat (first | exact Only.refl _ _ | apply Only.drew | apply Only.alloc)) O6).same ob
         have HO7 := Lib.hid O7
         have HB7 := Lib.hid b7
         have HM := Lib.hid hm
         clear O7 ob hm
         have n1 : w7.cell? ⟨X, 0, none⟩ = some (.slice an nn cn) := by rw [cell_block HB7.out]; rfl
         have HOw7 : Hid (Only (fun _ => False) w3 w7) := HPI.out.only.same HO7.out
         cases okn with
         | false =>
          have HPe : Hid (parseB s.toList = .error (i + 1)) := HNo.out (by
           unfold stepB
           cases hw : withB (toG (L.map LN.x)) x.toList with
           | none => rfl
           | some G' => have h := HM.out; rw [hw] at h; cases h.1)
          have HB8 := Lib.hid (HB0.out w7 (HO3.out.same HOw7.out))
          have HO8 : Hid (Only (fun _ => False) w w7) := HOw.out.same HO7.out
          clear n1
          go_wp2_with (refine wpList_store_row rfl 53 (.tmp 2) (.tmp 59) rfl R #[.slice none 0 0, .int .i64 ((i : Int) + 1)] rfl rfl 53 #[.slice none 0 0, .int .i64 0] HB8.out (by kernel_rfl) rfl (by first | kernel_rfl | rfl | simp [Value.oneCell']) ?_)
          refine rparse_fin (R := R) HB8.out rfl rfl ?_
          exact RParseEnd.err (n := i + 1) HPe.out (by omega) (by first | rfl | omega | simp) HRw.out HO8.out
         | true =>
          obtain ⟨G', hw⟩ : ∃ G', withB (toG (L.map LN.x)) x.toList = some G' := by
           cases hw : withB (toG (L.map LN.x)) x.toList with
           | none => have h := HM.out; rw [hw] at h; cases h
           | some G' => exact ⟨G', rfl⟩
          have hmm := HM.out
          rw [hw] at hmm
          obtain ⟨-, L', hL', hrow⟩ := hmm
          have HRow7 := Lib.hid (HRow.out L' hrow)
          obtain ⟨r, hr⟩ : ∃ r, graphB (toG (L'.map LN.x)) = r := ⟨_, rfl⟩
          have HStp : Hid (stepB (toG (L.map LN.x)) x.toList = if r = true then some (toG (L'.map LN.x)) else none) := by
           show _ = _
           unfold stepB
           rw [hw, ← hL', Option.filter_some, hr]
          have HMay := Lib.hid (May28_x HRow7.out.read r hr)
          have HGr := Lib.hid hr
          clear hrow hw hL' HM HRow hr
          go_wp2_with fail
          refine HMay.out.mono ?_
          rintro e w8 ⟨rfl, O8⟩
          have HOw8 : Hid (Only (fun _ => False) w3 w8) := HOw7.out.same O8
          have HO8 : Hid (Only (fun _ => False) w w8) := (HOw.out.same HO7.out).same O8
          have HB8 := Lib.hid (HB0.out w8 (HO3.out.same HOw8.out))
          have n1 : w8.cell? ⟨X, 0, none⟩ = some (.slice an nn cn) := by rw [cell_block (only_block HB7.out O8 (fun f => f))]; rfl
          have HRow8 := Lib.hid (HRow7.out.only0 O8)
          have hbN := only_block HPI.out.blk (HO7.out.same O8) (fun f => f)
          clear O8 HMay
          cases r with
          | false =>
           have HPe : Hid (parseB s.toList = .error (i + 1)) := HNo.out (by rw [HStp.out]; rfl)
           clear n1 hbN
           go_wp2_with (refine wpList_store_row rfl 53 (.tmp 2) (.tmp 59) rfl R #[.slice none 0 0, .int .i64 ((i : Int) + 1)] rfl rfl 53 #[.slice none 0 0, .int .i64 0] HB8.out (by kernel_rfl) rfl (by first | kernel_rfl | rfl | simp [Value.oneCell']) ?_)
           refine rparse_fin (R := R) HB8.out rfl rfl ?_
           exact RParseEnd.err (n := i + 1) HPe.out (by omega) (by first | rfl | omega | simp) HRw.out HO8.out
          | true =>
           have n2 : w8.cell? ⟨N, 0, none⟩ = some (.slice ao n c) := by rw [cell_block hbN]; rfl
           have n3 : w8.frozen? ⟨N, 0, none⟩ = false := frozen_block hbN 0
           obtain ⟨w9, hw9⟩ : ∃ W, w8.setCell ⟨N, 0, none⟩ (.slice an nn cn) = W := ⟨_, rfl⟩
           have b9 : w9.heap[N]? = some (.cells #[.slice an nn cn] 39 (0, 0)) := by rw [← hw9]; exact heap_setCell_same w8 N 0 _ 39 _ hbN
           have oS : Only (fun k => k = N) w8 w9 := by rw [← hw9]; exact (Only.refl (fun k => k = N) w8).setCell (p := ⟨N, 0, none⟩) (.inl rfl) _
           have HO9 : Hid (Only (fun _ => False) w3 w9) := HOw8.out.trans oS fun k hk => .inr (by rw [hk, HNw3.out]; exact Nat.le_refl _)
           have HRow9 := Lib.hid (HRow8.out.blk hbN (by decide) (by decide) (by decide) oS)
           have HB9 := Lib.hid b9
           have hst : stepB (toG (L.map LN.x)) x.toList = some (toG (L'.map LN.x)) := by rw [HStp.out]; rfl
           have HSt := Lib.hid hst
           clear hst b9 oS hbN
           have HPe : Hid (parseB s.toList = .error (i + 2)) := HYes.out _ HSt.out
           have HB8' := Lib.hid (HB0.out w9 (HO3.out.same HO9.out))
           have HO8' : Hid (Only (fun _ => False) w w9) := HO0.out.same (HO3.out.same HO9.out)
           go_wp2_with (refine wpList_store_row rfl 53 (.tmp 2) (.tmp 68) rfl R #[.slice none 0 0, .int .i64 ((i : Int) + 2)] rfl rfl 53 #[.slice none 0 0, .int .i64 0] HB8'.out (by kernel_rfl) rfl (by first | kernel_rfl | rfl | simp [Value.oneCell']) ?_)
           refine rparse_fin (R := R) HB8'.out rfl rfl ?_
           exact RParseEnd.err (n := i + 2) HPe.out (by omega) (by first | rfl | omega | simp) HRw.out HO8'.out
        exact AllReadyG.nil
       exact AllReadyG.nil
      refine AllReadyG.cons (i := 9) rfl (fun K hK => ?_) ?_
      ·go_simp
       refine hK.out _ _ ?_ (fun hHeld => ?_)
       ·(try dsimp only) <;> (exact HK.out _ (hHeld.2.2.alloc _))
       clear hK K
       try simp only [Act.put, zq1, zq2, zq3, zq4, zq5, zq6]
       refine wpAnyG_ready (rs := [5]) (by kernel_rfl) (by simp) ?_
       refine AllReadyG.cons (i := 5) rfl (fun K hK => ?_) ?_
       ·(go_simp; refine (HWi.out _ hHeld).mono ?_; rintro e w6 ⟨an, nn, cn, okn, rfl, O6, hm⟩; try go_wp2_with fail)
        refine hK.out _ _ ?_ (fun hHeld => ?_)
        ·(try dsimp only) <;> (exact HK.out _ (hHeld.2.2.same O6))
        clear hK K
        try simp only [Act.put, zq1, zq2, zq3, zq4, zq5, zq6]
        refine tqW (i := 6) (v := ?_) rfl (.inr (by assumption)) ?_ ?_
        rotate_left
        ·(intro w; go_simp <;> (try with_reducible rfl))
        try simp only [Act.put, zq1, zq2, zq3, zq4, zq5, zq6]
        refine tqW (i := 7) (v := ?_) rfl (.inr (by assumption)) ?_ ?_
        rotate_left
        ·(intro w; go_simp <;> (try with_reducible rfl))
        try simp only [Act.put, zq1, zq2, zq3, zq4, zq5, zq6]
        refine tqW (i := 8) (v := ?_) rfl (.inr (by assumption)) ?_ ?_
        rotate_left
        ·(intro w; go_simp <;> (try with_reducible rfl))
        try simp only [Act.put, zq1, zq2, zq3, zq4, zq5, zq6]
        refine wpAnyG_ready (rs := [10]) (by kernel_rfl) (by simp) ?_
        refine AllReadyG.late (i := 10) rfl (by kernel_rfl) (fun K hK => ?_) ?_
        ·(first | (have bX := only_block (b := wr.heap.size) (by exact heap_alloc_new _ _) O6 (fun f => f); have cX : w6.cell? ⟨wr.heap.size, 0, none⟩ = some (.slice none 0 0) := (by rw [cell_block bX]; rfl); have fX : w6.frozen? ⟨wr.heap.size, 0, none⟩ = false := frozen_block bX 0; go_simp) | go_simp)
         refine hK.out _ _ ?_
         clear hK K
         try simp only [Act.put, zq1, zq2, zq3, zq4, zq5, zq6]
         refine tqW (i := 11) (v := ?_) rfl (.inl (by kernel_rfl)) ?_ ?_
         rotate_left
         ·(intro w; go_simp <;> (try with_reducible rfl))
         try simp only [Act.put, zq1, zq2, zq3, zq4, zq5, zq6]
         refine wpAnyG_done (by kernel_rfl) ?_ _
         obtain ⟨X, hX⟩ : ∃ X, wr.heap.size = X := ⟨_, rfl⟩
         have bX := only_block (b := wr.heap.size) (by exact heap_alloc_new _ _) O6 (fun f => f)
         obtain ⟨w7, hw7⟩ : ∃ W, w6.setCell ⟨wr.heap.size, 0, none⟩ (.slice an nn cn) = W := ⟨_, rfl⟩
         have b7 : w7.heap[X]? = some (.cells #[.slice an nn cn] 39 (0, 0)) := by rw [← hw7, ← hX]; exact heap_setCell_same w6 _ 0 _ 39 _ bX
         have ob : Only (fun k => k = wr.heap.size) w6 w7 := by rw [← hw7]; exact (Only.refl (fun k => k = wr.heap.size) w6).setCell (p := ⟨wr.heap.size, 0, none⟩) (.inl rfl) _
         have HRow : Hid (∀ L' : List LN, RowS w6 (.slice an nn cn) L' → RowS w7 (.slice an nn cn) L') := fun L' h => h.blk bX (by decide) (by decide) (by decide) ob
         have O7 : Only (fun _ => False) wr w7 := (Only.same (by repeat (first | exact Only.refl _ _ | apply Only.drew | apply Only.alloc)) O6).trans ob fun k hk => .inr (by rw [hk]; exact Nat.le_refl _)
         rw [hw7]
         have HO7 := Lib.hid O7
         have HB7 := Lib.hid b7
         have HM := Lib.hid hm
         clear O7 ob hm
         have n1 : w7.cell? ⟨X, 0, none⟩ = some (.slice an nn cn) := by rw [cell_block HB7.out]; rfl
         have HOw7 : Hid (Only (fun _ => False) w3 w7) := HPI.out.only.same HO7.out
         cases okn with
         | false =>
          have HPe : Hid (parseB s.toList = .error (i + 1)) := HNo.out (by
           unfold stepB
           cases hw : withB (toG (L.map LN.x)) x.toList with
           | none => rfl
           | some G' => have h := HM.out; rw [hw] at h; cases h.1)
          have HB8 := Lib.hid (HB0.out w7 (HO3.out.same HOw7.out))
          have HO8 : Hid (Only (fun _ => False) w w7) := HOw.out.same HO7.out
          clear n1
          go_wp2_with (refine wpList_store_row rfl 53 (.tmp 2) (.tmp 59) rfl R #[.slice none 0 0, .int .i64 ((i : Int) + 1)] rfl rfl 53 #[.slice none 0 0, .int .i64 0] HB8.out (by kernel_rfl) rfl (by first | kernel_rfl | rfl | simp [Value.oneCell']) ?_)
          refine rparse_fin (R := R) HB8.out rfl rfl ?_
          exact RParseEnd.err (n := i + 1) HPe.out (by omega) (by first | rfl | omega | simp) HRw.out HO8.out
         | true =>
          obtain ⟨G', hw⟩ : ∃ G', withB (toG (L.map LN.x)) x.toList = some G' := by
           cases hw : withB (toG (L.map LN.x)) x.toList with
           | none => have h := HM.out; rw [hw] at h; cases h
           | some G' => exact ⟨G', rfl⟩
          have hmm := HM.out
          rw [hw] at hmm
          obtain ⟨-, L', hL', hrow⟩ := hmm
          have HRow7 := Lib.hid (HRow.out L' hrow)
          obtain ⟨r, hr⟩ : ∃ r, graphB (toG (L'.map LN.x)) = r := ⟨_, rfl⟩
          have HStp : Hid (stepB (toG (L.map LN.x)) x.toList = if r = true then some (toG (L'.map LN.x)) else none) := by
           show _ = _
           unfold stepB
           rw [hw, ← hL', Option.filter_some, hr]
          have HMay := Lib.hid (May28_x HRow7.out.read r hr)
          have HGr := Lib.hid hr
          clear hrow hw hL' HM HRow hr
          go_wp2_with fail
          refine HMay.out.mono ?_
          rintro e w8 ⟨rfl, O8⟩
          have HOw8 : Hid (Only (fun _ => False) w3 w8) := HOw7.out.same O8
          have HO8 : Hid (Only (fun _ => False) w w8) := (HOw.out.same HO7.out).same O8
          have HB8 := Lib.hid (HB0.out w8 (HO3.out.same HOw8.out))
          have n1 : w8.cell? ⟨X, 0, none⟩ = some (.slice an nn cn) := by rw [cell_block (only_block HB7.out O8 (fun f => f))]; rfl
          have HRow8 := Lib.hid (HRow7.out.only0 O8)
          have hbN := only_block HPI.out.blk (HO7.out.same O8) (fun f => f)
          clear O8 HMay
          cases r with
          | false =>
           have HPe : Hid (parseB s.toList = .error (i + 1)) := HNo.out (by rw [HStp.out]; rfl)
           clear n1 hbN
           go_wp2_with (refine wpList_store_row rfl 53 (.tmp 2) (.tmp 59) rfl R #[.slice none 0 0, .int .i64 ((i : Int) + 1)] rfl rfl 53 #[.slice none 0 0, .int .i64 0] HB8.out (by kernel_rfl) rfl (by first | kernel_rfl | rfl | simp [Value.oneCell']) ?_)
           refine rparse_fin (R := R) HB8.out rfl rfl ?_
           exact RParseEnd.err (n := i + 1) HPe.out (by omega) (by first | rfl | omega | simp) HRw.out HO8.out
          | true =>
           have n2 : w8.cell? ⟨N, 0, none⟩ = some (.slice ao n c) := by rw [cell_block hbN]; rfl
           have n3 : w8.frozen? ⟨N, 0, none⟩ = false := frozen_block hbN 0
           obtain ⟨w9, hw9⟩ : ∃ W, w8.setCell ⟨N, 0, none⟩ (.slice an nn cn) = W := ⟨_, rfl⟩
           have b9 : w9.heap[N]? = some (.cells #[.slice an nn cn] 39 (0, 0)) := by rw [← hw9]; exact heap_setCell_same w8 N 0 _ 39 _ hbN
           have oS : Only (fun k => k = N) w8 w9 := by rw [← hw9]; exact (Only.refl (fun k => k = N) w8).setCell (p := ⟨N, 0, none⟩) (.inl rfl) _
           have HO9 : Hid (Only (fun _ => False) w3 w9) := HOw8.out.trans oS fun k hk => .inr (by rw [hk, HNw3.out]; exact Nat.le_refl _)
           have HRow9 := Lib.hid (HRow8.out.blk hbN (by decide) (by decide) (by decide) oS)
           have HB9 := Lib.hid b9
           have hst : stepB (toG (L.map LN.x)) x.toList = some (toG (L'.map LN.x)) := by rw [HStp.out]; rfl
           have HSt := Lib.hid hst
           clear hst b9 oS hbN
           have HPe : Hid (parseB s.toList = .error (i + 2)) := HYes.out _ HSt.out
           have HB8' := Lib.hid (HB0.out w9 (HO3.out.same HO9.out))
           have HO8' : Hid (Only (fun _ => False) w w9) := HO0.out.same (HO3.out.same HO9.out)
           go_wp2_with (refine wpList_store_row rfl 53 (.tmp 2) (.tmp 68) rfl R #[.slice none 0 0, .int .i64 ((i : Int) + 2)] rfl rfl 53 #[.slice none 0 0, .int .i64 0] HB8'.out (by kernel_rfl) rfl (by first | kernel_rfl | rfl | simp [Value.oneCell']) ?_)
           refine rparse_fin (R := R) HB8'.out rfl rfl ?_
           exact RParseEnd.err (n := i + 2) HPe.out (by omega) (by first | rfl | omega | simp) HRw.out HO8'.out
        exact AllReadyG.nil
       exact AllReadyG.nil
      exact AllReadyG.nil
   ·have tl : ((i : Int) == (nw : Int) - 1) = false := by rw [beq_eq_false_iff_ne]; omega
    have hg := go_on (G := toG (L.map LN.x)) HXB.out (by rw [List.length_map, HNw.out]; omega)
    rw [HGo.out] at hg
    have HG := Lib.hid hg
    clear hg
    by_cases c0 : i = 0
    ·subst c0
     by_cases ch : x.toList = headL
     ·have hbe : (x.toList == [108, 111, 99, 107, 32, 49]) = true := by rw [ch]; decide
      have HPn : Hid (PJ s ws w3 wr N 1 ao n c L) := ⟨HPI.out.blk, HPI.out.row, HPI.out.gb, fun _ => by rw [HG.out, if_pos rfl, if_pos ch], HPI.out.only⟩
      clear ch hS0
      go_wp2_with fail
      exact ⟨⟨1, ao, n, c, L, rfl, by omega, HPn⟩, by simp [RowKit.intOf] <;> omega⟩
     ·have hbe : (x.toList == [108, 111, 99, 107, 32, 49]) = false := by rw [beq_eq_false_iff_ne]; exact ch
      have HPe : Hid (parseB s.toList = .error 1) := by rw [Hid, HG.out, if_pos rfl, if_neg ch]
      clear ch hS0
      go_wp2_with (refine wpList_store_row rfl 53 (.tmp 2) (.tmp 40) rfl R #[.slice none 0 0, .int .i64 (1)] rfl rfl 53 #[.slice none 0 0, .int .i64 0] HBr.out (by kernel_rfl) rfl (by first | kernel_rfl | rfl | simp [Value.oneCell']) ?_)
      refine rparse_fin (R := R) HBr.out rfl rfl ?_
      exact RParseEnd.err (n := 1) HPe.out (by omega) (by first | rfl | omega | simp) HRw.out HOw.out
    ·have t0 : ((i : Int) == 0) = false := by rw [beq_eq_false_iff_ne]; omega
     have HNo : Hid (stepB (toG (L.map LN.x)) x.toList = none → Hid (parseB s.toList = .error (i + 1))) := fun h => by rw [Hid, HG.out, if_neg c0, h]
     have HYes : Hid (∀ G', stepB (toG (L.map LN.x)) x.toList = some G' → goB ((ws.map ByteArray.toList).drop (i + 1)) (i + 1) G' = parseB s.toList) := fun G' h => by rw [HG.out, if_neg c0, h]
     go_wp2_with fail
     refine wp_region_G (n := 12) (E := fun j => j == 10) (S := fun W => W.cell? ⟨N, 0, none⟩ = some (.slice ao n c) ∧ W.cell? ⟨gw, i, none⟩ = some (.string x) ∧ Only (fun _ => False) wr W) (by kernel_rfl) rfl hS0 (fun hHeld => ?_)
     refine tqK (i := 0) (v := ?_) rfl ?_ ?_
     rotate_left
     ·(intro w hSw; (try dsimp only at hSw); go_simp <;> (try with_reducible rfl))
     try simp only [Act.put, zq1, zq3, zq4, zq5, zq6]
     refine tqW (i := 1) (v := ?_) rfl (.inr (by assumption)) ?_ ?_
     rotate_left
     ·(intro w; go_simp <;> (try with_reducible rfl))
     try simp only [Act.put, zq1, zq2, zq3, zq4, zq5, zq6]
     refine tqW (i := 2) (v := ?_) rfl (.inr (by assumption)) ?_ ?_
     rotate_left
     ·(intro w; go_simp <;> (try with_reducible rfl))
     try simp only [Act.put, zq1, zq2, zq3, zq4, zq5, zq6]
     refine tqW (i := 3) (v := ?_) rfl (.inr (by assumption)) ?_ ?_
     rotate_left
     ·(intro w; go_simp <;> (try with_reducible rfl))
     try simp only [Act.put, zq1, zq2, zq3, zq4, zq5, zq6]
     refine tqK (i := 4) (v := ?_) rfl ?_ ?_
     rotate_left
     ·(intro w hSw; (try dsimp only at hSw); go_simp <;> (try with_reducible rfl))
     try simp only [Act.put, zq1, zq2, zq3, zq4, zq5, zq6]
     refine wpAnyG_ready (rs := [5, 9]) (by kernel_rfl) (by simp) ?_
     refine AllReadyG.cons (i := 5) rfl (fun K hK => ?_) ?_
     ·(go_simp; refine (HWi.out _ hHeld).mono ?_; rintro e w6 ⟨an, nn, cn, okn, rfl, O6, hm⟩; try go_wp2_with fail)
      refine hK.out _ _ ?_ (fun hHeld => ?_)
      ·(try dsimp only) <;> (exact HK.out _ (hHeld.2.2.same O6))
      clear hK K
      try simp only [Act.put, zq1, zq2, zq3, zq4, zq5, zq6]
      refine tqW (i := 6) (v := ?_) rfl (.inr (by assumption)) ?_ ?_
      rotate_left
      ·(intro w; go_simp <;> (try with_reducible rfl))
      try simp only [Act.put, zq1, zq2, zq3, zq4, zq5, zq6]
      refine tqW (i := 7) (v := ?_) rfl (.inr (by assumption)) ?_ ?_
      rotate_left
      ·(intro w; go_simp <;> (try with_reducible rfl))
      try simp only [Act.put, zq1, zq2, zq3, zq4, zq5, zq6]
      refine tqW (i := 8) (v := ?_) rfl (.inr (by assumption)) ?_ ?_
      rotate_left
      ·(intro w; go_simp <;> (try with_reducible rfl))
      try simp only [Act.put, zq1, zq2, zq3, zq4, zq5, zq6]
      refine wpAnyG_ready (rs := [9]) (by kernel_rfl) (by simp) ?_
      refine AllReadyG.cons (i := 9) rfl (fun K hK => ?_) ?_
      ·go_simp
       refine hK.out _ _ ?_ (fun hHeld => ?_)
       ·(try dsimp only) <;> (exact HK.out _ (hHeld.2.2.alloc _))
       clear hK K
       try simp only [Act.put, zq1, zq2, zq3, zq4, zq5, zq6]
       refine wpAnyG_ready (rs := [10]) (by kernel_rfl) (by simp) ?_
       refine AllReadyG.late (i := 10) rfl (by kernel_rfl) (fun K hK => ?_) ?_
       ·(first | (have bX := only_block (b := wr.heap.size) (by exact heap_alloc_new _ _) O6 (fun f => f); have cX : w6.cell? ⟨wr.heap.size, 0, none⟩ = some (.slice none 0 0) := (by rw [cell_block bX]; rfl); have fX : w6.frozen? ⟨wr.heap.size, 0, none⟩ = false := frozen_block bX 0; go_simp) | go_simp)
        refine hK.out _ _ ?_
        clear hK K
        try simp only [Act.put, zq1, zq2, zq3, zq4, zq5, zq6]
        refine tqW (i := 11) (v := ?_) rfl (.inl (by kernel_rfl)) ?_ ?_
        rotate_left
        ·(intro w; go_simp <;> (try with_reducible rfl))
        try simp only [Act.put, zq1, zq2, zq3, zq4, zq5, zq6]
        refine wpAnyG_done (by kernel_rfl) ?_ _
        obtain ⟨X, hX⟩ : ∃ X, w6.heap.size = X := ⟨_, rfl⟩
        obtain ⟨w7, hw7⟩ : ∃ W, w6.alloc (.cells #[.slice an nn cn] 39) = W := ⟨_, rfl⟩
        have b7 : w7.heap[X]? = some (.cells #[.slice an nn cn] 39 (0, 0)) := by rw [← hw7, ← hX]; exact heap_alloc_new _ _
        have ob : Only (fun _ => False) w6 w7 := by rw [← hw7]; exact (Only.refl _ _).alloc _
        have HRow : Hid (∀ L' : List LN, RowS w6 (.slice an nn cn) L' → RowS w7 (.slice an nn cn) L') := fun L' h => h.only0 ob
        have O7 : Only (fun _ => False) wr w7 := (Only.same (by repeat (first | exact Only.refl _ _ | apply Only.drew | apply Only.alloc)) O6).same ob
        have HO7 := Lib.hid O7
        have HB7 := Lib.hid b7
        have HM := Lib.hid hm
        clear O7 ob hm
        have n1 : w7.cell? ⟨X, 0, none⟩ = some (.slice an nn cn) := by rw [cell_block HB7.out]; rfl
        have HOw7 : Hid (Only (fun _ => False) w3 w7) := HPI.out.only.same HO7.out
        cases okn with
        | false =>
         have HPe : Hid (parseB s.toList = .error (i + 1)) := HNo.out (by
          unfold stepB
          cases hw : withB (toG (L.map LN.x)) x.toList with
          | none => rfl
          | some G' => have h := HM.out; rw [hw] at h; cases h.1)
         have HB8 := Lib.hid (HB0.out w7 (HO3.out.same HOw7.out))
         have HO8 : Hid (Only (fun _ => False) w w7) := HOw.out.same HO7.out
         clear n1
         go_wp2_with (refine wpList_store_row rfl 53 (.tmp 2) (.tmp 59) rfl R #[.slice none 0 0, .int .i64 ((i : Int) + 1)] rfl rfl 53 #[.slice none 0 0, .int .i64 0] HB8.out (by kernel_rfl) rfl (by first | kernel_rfl | rfl | simp [Value.oneCell']) ?_)
         refine rparse_fin (R := R) HB8.out rfl rfl ?_
         exact RParseEnd.err (n := i + 1) HPe.out (by omega) (by first | rfl | omega | simp) HRw.out HO8.out
        | true =>
         obtain ⟨G', hw⟩ : ∃ G', withB (toG (L.map LN.x)) x.toList = some G' := by
          cases hw : withB (toG (L.map LN.x)) x.toList with
          | none => have h := HM.out; rw [hw] at h; cases h
          | some G' => exact ⟨G', rfl⟩
         have hmm := HM.out
         rw [hw] at hmm
         obtain ⟨-, L', hL', hrow⟩ := hmm
         have HRow7 := Lib.hid (HRow.out L' hrow)
         obtain ⟨r, hr⟩ : ∃ r, graphB (toG (L'.map LN.x)) = r := ⟨_, rfl⟩
         have HStp : Hid (stepB (toG (L.map LN.x)) x.toList = if r = true then some (toG (L'.map LN.x)) else none) := by
          show _ = _
          unfold stepB
          rw [hw, ← hL', Option.filter_some, hr]
         have HMay := Lib.hid (May28_x HRow7.out.read r hr)
         have HGr := Lib.hid hr
         clear hrow hw hL' HM HRow hr
         go_wp2_with fail
         refine HMay.out.mono ?_
         rintro e w8 ⟨rfl, O8⟩
         have HOw8 : Hid (Only (fun _ => False) w3 w8) := HOw7.out.same O8
         have HO8 : Hid (Only (fun _ => False) w w8) := (HOw.out.same HO7.out).same O8
         have HB8 := Lib.hid (HB0.out w8 (HO3.out.same HOw8.out))
         have n1 : w8.cell? ⟨X, 0, none⟩ = some (.slice an nn cn) := by rw [cell_block (only_block HB7.out O8 (fun f => f))]; rfl
         have HRow8 := Lib.hid (HRow7.out.only0 O8)
         have hbN := only_block HPI.out.blk (HO7.out.same O8) (fun f => f)
         clear O8 HMay
         cases r with
         | false =>
          have HPe : Hid (parseB s.toList = .error (i + 1)) := HNo.out (by rw [HStp.out]; rfl)
          clear n1 hbN
          go_wp2_with (refine wpList_store_row rfl 53 (.tmp 2) (.tmp 59) rfl R #[.slice none 0 0, .int .i64 ((i : Int) + 1)] rfl rfl 53 #[.slice none 0 0, .int .i64 0] HB8.out (by kernel_rfl) rfl (by first | kernel_rfl | rfl | simp [Value.oneCell']) ?_)
          refine rparse_fin (R := R) HB8.out rfl rfl ?_
          exact RParseEnd.err (n := i + 1) HPe.out (by omega) (by first | rfl | omega | simp) HRw.out HO8.out
         | true =>
          have n2 : w8.cell? ⟨N, 0, none⟩ = some (.slice ao n c) := by rw [cell_block hbN]; rfl
          have n3 : w8.frozen? ⟨N, 0, none⟩ = false := frozen_block hbN 0
          obtain ⟨w9, hw9⟩ : ∃ W, w8.setCell ⟨N, 0, none⟩ (.slice an nn cn) = W := ⟨_, rfl⟩
          have b9 : w9.heap[N]? = some (.cells #[.slice an nn cn] 39 (0, 0)) := by rw [← hw9]; exact heap_setCell_same w8 N 0 _ 39 _ hbN
          have oS : Only (fun k => k = N) w8 w9 := by rw [← hw9]; exact (Only.refl (fun k => k = N) w8).setCell (p := ⟨N, 0, none⟩) (.inl rfl) _
          have HO9 : Hid (Only (fun _ => False) w3 w9) := HOw8.out.trans oS fun k hk => .inr (by rw [hk, HNw3.out]; exact Nat.le_refl _)
          have HRow9 := Lib.hid (HRow8.out.blk hbN (by decide) (by decide) (by decide) oS)
          have HB9 := Lib.hid b9
          have hst : stepB (toG (L.map LN.x)) x.toList = some (toG (L'.map LN.x)) := by rw [HStp.out]; rfl
          have HSt := Lib.hid hst
          clear hst b9 oS hbN
          have HPn : Hid (PJ s ws w3 w9 N (i + 1) an nn cn L') := ⟨HB9.out, HRow9.out, HGr.out, fun _ => HYes.out _ HSt.out, HO9.out⟩
          go_wp2_with fail
          exact ⟨⟨i + 1, an, nn, cn, L', by first | rfl | go_num, by omega, HPn⟩, by simp [RowKit.intOf] <;> omega⟩
       exact AllReadyG.nil
      exact AllReadyG.nil
     refine AllReadyG.cons (i := 9) rfl (fun K hK => ?_) ?_
     ·go_simp
      refine hK.out _ _ ?_ (fun hHeld => ?_)
      ·(try dsimp only) <;> (exact HK.out _ (hHeld.2.2.alloc _))
      clear hK K
      try simp only [Act.put, zq1, zq2, zq3, zq4, zq5, zq6]
      refine wpAnyG_ready (rs := [5]) (by kernel_rfl) (by simp) ?_
      refine AllReadyG.cons (i := 5) rfl (fun K hK => ?_) ?_
      ·(go_simp; refine (HWi.out _ hHeld).mono ?_; rintro e w6 ⟨an, nn, cn, okn, rfl, O6, hm⟩; try go_wp2_with fail)
       refine hK.out _ _ ?_ (fun hHeld => ?_)
       ·(try dsimp only) <;> (exact HK.out _ (hHeld.2.2.same O6))
       clear hK K
       try simp only [Act.put, zq1, zq2, zq3, zq4, zq5, zq6]
       refine tqW (i := 6) (v := ?_) rfl (.inr (by assumption)) ?_ ?_
       rotate_left
       ·(intro w; go_simp <;> (try with_reducible rfl))
       try simp only [Act.put, zq1, zq2, zq3, zq4, zq5, zq6]
       refine tqW (i := 7) (v := ?_) rfl (.inr (by assumption)) ?_ ?_
       rotate_left
       ·(intro w; go_simp <;> (try with_reducible rfl))
       try simp only [Act.put, zq1, zq2, zq3, zq4, zq5, zq6]
       refine tqW (i := 8) (v := ?_) rfl (.inr (by assumption)) ?_ ?_
       rotate_left
       ·(intro w; go_simp <;> (try with_reducible rfl))
       try simp only [Act.put, zq1, zq2, zq3, zq4, zq5, zq6]
       refine wpAnyG_ready (rs := [10]) (by kernel_rfl) (by simp) ?_
       refine AllReadyG.late (i := 10) rfl (by kernel_rfl) (fun K hK => ?_) ?_
       ·(first | (have bX := only_block (b := wr.heap.size) (by exact heap_alloc_new _ _) O6 (fun f => f); have cX : w6.cell? ⟨wr.heap.size, 0, none⟩ = some (.slice none 0 0) := (by rw [cell_block bX]; rfl); have fX : w6.frozen? ⟨wr.heap.size, 0, none⟩ = false := frozen_block bX 0; go_simp) | go_simp)
        refine hK.out _ _ ?_
        clear hK K
        try simp only [Act.put, zq1, zq2, zq3, zq4, zq5, zq6]
        refine tqW (i := 11) (v := ?_) rfl (.inl (by kernel_rfl)) ?_ ?_
        rotate_left
        ·(intro w; go_simp <;> (try with_reducible rfl))
        try simp only [Act.put, zq1, zq2, zq3, zq4, zq5, zq6]
        refine wpAnyG_done (by kernel_rfl) ?_ _
        obtain ⟨X, hX⟩ : ∃ X, wr.heap.size = X := ⟨_, rfl⟩
        have bX := only_block (b := wr.heap.size) (by exact heap_alloc_new _ _) O6 (fun f => f)
        obtain ⟨w7, hw7⟩ : ∃ W, w6.setCell ⟨wr.heap.size, 0, none⟩ (.slice an nn cn) = W := ⟨_, rfl⟩
        have b7 : w7.heap[X]? = some (.cells #[.slice an nn cn] 39 (0, 0)) := by rw [← hw7, ← hX]; exact heap_setCell_same w6 _ 0 _ 39 _ bX
        have ob : Only (fun k => k = wr.heap.size) w6 w7 := by rw [← hw7]; exact (Only.refl (fun k => k = wr.heap.size) w6).setCell (p := ⟨wr.heap.size, 0, none⟩) (.inl rfl) _
        have HRow : Hid (∀ L' : List LN, RowS w6 (.slice an nn cn) L' → RowS w7 (.slice an nn cn) L') := fun L' h => h.blk bX (by decide) (by decide) (by decide) ob
        have O7 : Only (fun _ => False) wr w7 := (Only.same (by repeat (first | exact Only.refl _ _ | apply Only.drew | apply Only.alloc)) O6).trans ob fun k hk => .inr (by rw [hk]; exact Nat.le_refl _)
        rw [hw7]
        have HO7 := Lib.hid O7
        have HB7 := Lib.hid b7
        have HM := Lib.hid hm
        clear O7 ob hm
        have n1 : w7.cell? ⟨X, 0, none⟩ = some (.slice an nn cn) := by rw [cell_block HB7.out]; rfl
        have HOw7 : Hid (Only (fun _ => False) w3 w7) := HPI.out.only.same HO7.out
        cases okn with
        | false =>
         have HPe : Hid (parseB s.toList = .error (i + 1)) := HNo.out (by
          unfold stepB
          cases hw : withB (toG (L.map LN.x)) x.toList with
          | none => rfl
          | some G' => have h := HM.out; rw [hw] at h; cases h.1)
         have HB8 := Lib.hid (HB0.out w7 (HO3.out.same HOw7.out))
         have HO8 : Hid (Only (fun _ => False) w w7) := HOw.out.same HO7.out
         clear n1
         go_wp2_with (refine wpList_store_row rfl 53 (.tmp 2) (.tmp 59) rfl R #[.slice none 0 0, .int .i64 ((i : Int) + 1)] rfl rfl 53 #[.slice none 0 0, .int .i64 0] HB8.out (by kernel_rfl) rfl (by first | kernel_rfl | rfl | simp [Value.oneCell']) ?_)
         refine rparse_fin (R := R) HB8.out rfl rfl ?_
         exact RParseEnd.err (n := i + 1) HPe.out (by omega) (by first | rfl | omega | simp) HRw.out HO8.out
        | true =>
         obtain ⟨G', hw⟩ : ∃ G', withB (toG (L.map LN.x)) x.toList = some G' := by
          cases hw : withB (toG (L.map LN.x)) x.toList with
          | none => have h := HM.out; rw [hw] at h; cases h
          | some G' => exact ⟨G', rfl⟩
         have hmm := HM.out
         rw [hw] at hmm
         obtain ⟨-, L', hL', hrow⟩ := hmm
         have HRow7 := Lib.hid (HRow.out L' hrow)
         obtain ⟨r, hr⟩ : ∃ r, graphB (toG (L'.map LN.x)) = r := ⟨_, rfl⟩
         have HStp : Hid (stepB (toG (L.map LN.x)) x.toList = if r = true then some (toG (L'.map LN.x)) else none) := by
          show _ = _
          unfold stepB
          rw [hw, ← hL', Option.filter_some, hr]
         have HMay := Lib.hid (May28_x HRow7.out.read r hr)
         have HGr := Lib.hid hr
         clear hrow hw hL' HM HRow hr
         go_wp2_with fail
         refine HMay.out.mono ?_
         rintro e w8 ⟨rfl, O8⟩
         have HOw8 : Hid (Only (fun _ => False) w3 w8) := HOw7.out.same O8
         have HO8 : Hid (Only (fun _ => False) w w8) := (HOw.out.same HO7.out).same O8
         have HB8 := Lib.hid (HB0.out w8 (HO3.out.same HOw8.out))
         have n1 : w8.cell? ⟨X, 0, none⟩ = some (.slice an nn cn) := by rw [cell_block (only_block HB7.out O8 (fun f => f))]; rfl
         have HRow8 := Lib.hid (HRow7.out.only0 O8)
         have hbN := only_block HPI.out.blk (HO7.out.same O8) (fun f => f)
         clear O8 HMay
         cases r with
         | false =>
          have HPe : Hid (parseB s.toList = .error (i + 1)) := HNo.out (by rw [HStp.out]; rfl)
          clear n1 hbN
          go_wp2_with (refine wpList_store_row rfl 53 (.tmp 2) (.tmp 59) rfl R #[.slice none 0 0, .int .i64 ((i : Int) + 1)] rfl rfl 53 #[.slice none 0 0, .int .i64 0] HB8.out (by kernel_rfl) rfl (by first | kernel_rfl | rfl | simp [Value.oneCell']) ?_)
          refine rparse_fin (R := R) HB8.out rfl rfl ?_
          exact RParseEnd.err (n := i + 1) HPe.out (by omega) (by first | rfl | omega | simp) HRw.out HO8.out
         | true =>
          have n2 : w8.cell? ⟨N, 0, none⟩ = some (.slice ao n c) := by rw [cell_block hbN]; rfl
          have n3 : w8.frozen? ⟨N, 0, none⟩ = false := frozen_block hbN 0
          obtain ⟨w9, hw9⟩ : ∃ W, w8.setCell ⟨N, 0, none⟩ (.slice an nn cn) = W := ⟨_, rfl⟩
          have b9 : w9.heap[N]? = some (.cells #[.slice an nn cn] 39 (0, 0)) := by rw [← hw9]; exact heap_setCell_same w8 N 0 _ 39 _ hbN
          have oS : Only (fun k => k = N) w8 w9 := by rw [← hw9]; exact (Only.refl (fun k => k = N) w8).setCell (p := ⟨N, 0, none⟩) (.inl rfl) _
          have HO9 : Hid (Only (fun _ => False) w3 w9) := HOw8.out.trans oS fun k hk => .inr (by rw [hk, HNw3.out]; exact Nat.le_refl _)
          have HRow9 := Lib.hid (HRow8.out.blk hbN (by decide) (by decide) (by decide) oS)
          have HB9 := Lib.hid b9
          have hst : stepB (toG (L.map LN.x)) x.toList = some (toG (L'.map LN.x)) := by rw [HStp.out]; rfl
          have HSt := Lib.hid hst
          clear hst b9 oS hbN
          have HPn : Hid (PJ s ws w3 w9 N (i + 1) an nn cn L') := ⟨HB9.out, HRow9.out, HGr.out, fun _ => HYes.out _ HSt.out, HO9.out⟩
          go_wp2_with fail
          exact ⟨⟨i + 1, an, nn, cn, L', by first | rfl | go_num, by omega, HPn⟩, by simp [RowKit.intOf] <;> omega⟩
       exact AllReadyG.nil
      exact AllReadyG.nil
     exact AllReadyG.nil
end
end Go.Proofs.YtmlfchjompfmaaaDoor
