/- LkW7 LkW8, in one text. -/
import Derived.Test.YtmlfchjompfmaaaDoorLkW6
set_option linter.unusedVariables false
namespace Go.Proofs.YtmlfchjompfmaaaDoor
open Go.RowKit
open Lk (nodeP needP headL oneP readsP wantsP)
section
variable {w w' : World} {B : Nat}
theorem nodeP_txt : (⟨#[110, 111, 100, 101, 32]⟩ : ByteArray).toList = nodeP := by rw [toList_data]; rfl
theorem needP_txt : (⟨#[32, 32, 110, 101, 101, 100, 115, 32]⟩ : ByteArray).toList = needP := by rw [toList_data]; rfl
set_option maxRecDepth 100000 in
set_option maxHeartbeats 2000000 in
theorem one_x {P : Nat} {L : List LN} (line : Str) (hs : line.size < 4294967281) (h : GB B w P L) (hl : L.length ≤ 24) (hn : ∀ n ∈ L, n.x.needs.length ≤ 24) (hM : LaidM w) (hB : B ≤ w.heap.size) :
  Calls Tryd.prog 32 #[.pointer (some ⟨P, 0, none⟩), .string line] w (fun e w' => OneEnd B P (oneP (toG (L.map LN.x)) line.toList) L w w' e) := by
 have HGB := Lib.hid h
 have HM := Lib.hid hM
 have HBs := Lib.hid hB
 have HN := Lib.hid hn
 have HSz := Lib.hid hs
 have HC1 := Lib.hid (CutPre_x (w := w) line ⟨#[110, 111, 100, 101, 32]⟩)
 have HC2 := Lib.hid (CutPre_x (w := w) line ⟨#[32, 32, 110, 101, 101, 100, 115, 32]⟩)
 clear h hM hB hn hs
 rw [nodeP_txt] at HC1
 rw [needP_txt] at HC2
 obtain ⟨p1, hp1⟩ : ∃ x, nodeP.isPrefixOf line.toList = x := ⟨_, rfl⟩
 obtain ⟨p2, hp2⟩ : ∃ x, needP.isPrefixOf line.toList = x := ⟨_, rfl⟩
 rw [hp1] at HC1
 rw [hp2] at HC2
 go_enter Tryd.func32, Tryd.ntmps32
 cases p1 with
 | true =>
  have HR : Hid (oneP (toG (L.map LN.x)) line.toList = readsP (toG (L.map LN.x)) (line.toList.drop 5)) := by show _ = _; unfold oneP; rw [if_pos hp1]
  clear hp1 hp2 HC2
  go_wp2_with fail
  refine HC1.out.mono ?_
  rintro e w1 ⟨r, rfl, h1, h2, rfl⟩
  have hr : r.toList = line.toList.drop 5 := h1 trivial
  have HRd := Lib.hid (reads_x (w := w1) r (by have := HSz.out; omega) HGB.out hl HM.out HBs.out)
  rw [hr, ← HR.out] at HRd
  clear h1 h2 hr HC1
  go_wp2_with fail
  refine HRd.out.mono ?_
  rintro e w2 ⟨b, rfl, o2, h2⟩
  have HE : Hid (OneEnd B P (oneP (toG (L.map LN.x)) line.toList) L w1 w2 (.returned (.bool b))) := ⟨b, rfl, o2, h2⟩
  clear o2 h2 HRd
  go_wp2_with fail
  go_ret
  exact HE.out
 | false =>
  go_wp2_with fail
  refine HC1.out.mono ?_
  rintro e w1 ⟨r, rfl, -, -, rfl⟩
  clear HC1
  cases p2 with
  | false =>
   have HR : Hid (oneP (toG (L.map LN.x)) line.toList = none) := by show _ = _; unfold oneP; rw [hp1, hp2]; rfl
   clear hp1 hp2
   go_wp2_with fail
   refine HC2.out.mono ?_
   rintro e w2 ⟨r2, rfl, -, -, rfl⟩
   have HE : Hid (OneEnd B P (oneP (toG (L.map LN.x)) line.toList) L w2 w2 (.returned (.bool false))) := OneEnd.no HR.out HGB.out (Only.refl _ _) rfl
   clear HC2
   go_wp2_with fail
   go_ret
   exact HE.out
  | true =>
   have HR : Hid (oneP (toG (L.map LN.x)) line.toList = wantsP (toG (L.map LN.x)) (line.toList.drop 8)) := by show _ = _; unfold oneP; rw [hp1, if_neg (by simp), if_pos hp2]
   clear hp1 hp2
   go_wp2_with fail
   refine HC2.out.mono ?_
   rintro e w2 ⟨r2, rfl, h1, h2, rfl⟩
   have hr : r2.toList = line.toList.drop 8 := h1 trivial
   have HRd := Lib.hid (wants_x (w := w2) r2 (by have := HSz.out; unfold okS maxLen; omega) HGB.out hl HN.out HBs.out)
   rw [hr, ← HR.out] at HRd
   clear h1 h2 hr HC2
   go_wp2_with fail
   refine HRd.out.mono ?_
   rintro e w3 ⟨b, rfl, o2, h2⟩
   have HE : Hid (OneEnd B P (oneP (toG (L.map LN.x)) line.toList) L w2 w3 (.returned (.bool b))) := ⟨b, rfl, o2, h2⟩
   clear o2 h2 HRd
   go_wp2_with fail
   go_ret
   exact HE.out
def rightP (G : List Lk.NB) (i : Nat) (l : List UInt8) : Bool := if i = 0 then decide (l = headL) else (oneP G l).isSome
set_option maxRecDepth 100000 in
set_option maxHeartbeats 2000000 in
theorem right_x {rv : Value} {L : List LN} (i : Nat) (line : Str) (hs : line.size < 4294967281) (h : RowN B w rv L) (hl : L.length ≤ 24) (hn : ∀ n ∈ L, n.x.needs.length ≤ 24) (hM : LaidM w) (hB : B ≤ w.heap.size) (r : Bool) (hr : rightP (toG (L.map LN.x)) i line.toList = r) :
  Calls Tryd.prog 33 #[.agg #[rv], .int .i64 (i : Int), .string line] w (fun e w' => e = .returned (.bool r) ∧ Kp B w w') := by
 have HOne : Hid (Calls Tryd.prog 32 #[.pointer (some ⟨w.heap.size, 0, none⟩), .string line] (w.alloc (.cells #[rv] 39)) (fun e w' => OneEnd B w.heap.size (oneP (toG (L.map LN.x)) line.toList) L (w.alloc (.cells #[rv] 39)) w' e)) :=
  one_x line hs ⟨rv, heap_alloc_new _ _, h.only0 ((Only.refl _ _).alloc _)⟩ hl hn (hM.only ((Only.refl _ _).alloc _)) (by simp; omega)
 have HR := Lib.hid hr
 have HBs := Lib.hid hB
 have hdec : (line.toList == [108, 111, 99, 107, 32, 49]) = decide (line.toList = headL) := by
  show (line.toList == headL) = _
  by_cases h : line.toList = headL
  ·rw [decide_eq_true h, h]; exact beq_self_eq_true _
  ·rw [decide_eq_false h]; exact beq_eq_false_iff_ne.2 h
 clear hr hB hM hn hs h
 by_cases c : i = 0
 ·subst c
  have hr : decide (line.toList = headL) = r := HR.out
  rw [hr] at hdec
  clear HR
  go_enter Tryd.func33, Tryd.ntmps33
  go_wp2_with fail
  go_ret
  exact ⟨rfl, Kp.of0 ((Only.refl _ _).alloc _)⟩
 ·have ci : ((i : Int) == 0) = false := by rw [beq_eq_false_iff_ne]; omega
  have hr : (oneP (toG (L.map LN.x)) line.toList).isSome = r := by have h := HR.out; unfold rightP at h; rw [if_neg c] at h; exact h
  have HR2 := Lib.hid hr
  clear HR hr
  go_enter Tryd.func33, Tryd.ntmps33
  go_wp2_with fail
  refine HOne.out.mono ?_
  rintro e w1 ⟨b, rfl, o1, h1⟩
  have hb : b = r := by
   rw [← HR2.out]
   cases hh : oneP (toG (L.map LN.x)) line.toList with
   | none => rw [hh] at h1; exact h1.1
   | some g => rw [hh] at h1; exact h1.1
  subst hb
  have hk : Kp B w w1 := (Only.refl _ _ |>.alloc _ : Only (fun k => B ≤ k) w (w.alloc (.cells #[rv] 39))).trans o1 fun k hk => by
   rcases hk with hk | hk
   ·exact .inl hk
   ·exact .inr (by omega)
  have HK := Lib.hid hk
  clear o1 h1 hk HOne HR2
  go_wp2_with fail
  go_ret
  exact ⟨rfl, HK.out⟩
end
end Go.Proofs.YtmlfchjompfmaaaDoor
namespace Go.Proofs.YtmlfchjompfmaaaDoor
open Go.RowKit
open Lk (headL oneP stepB goB parseB graphB)
section
variable {w w' : World} {B : Nat}
def ParseEnd (s : Str) (w w' : World) (e : Ending) : Prop := ∃ gv ln er, e = .returned (.tuple #[.agg #[gv], .agg #[.int .i64 ln, .int .i64 0], .int .i64 er]) ∧ Only (fun _ => False) w w' ∧
 (match parseB s.toList with | .ok G => ln = 0 ∧ er = 0 ∧ ∃ g, toG g = G ∧ RowT 4 NodC w'.heap.size w' gv g | .error n => ln = (n : Int) ∧ er = 2 ∧ gv = .slice none 0 0)
theorem parse_fin {Q : Ending → World → Prop} {W : World} {R2 R3 : Nat} {T : Act} {c2 c3 : Array Value} {gv : Value} {ln er : Int} (hb2 : W.heap[R2]? = some (.cells c2 39 (0, 0))) (hb3 : W.heap[R3]? = some (.cells c3 44 (0, 0))) (hne : R2 ≠ R3)
  (h2 : T.tmps.getD 2 undef = .pointer (some ⟨R2, 0, none⟩)) (h3 : T.tmps.getD 3 undef = .pointer (some ⟨R3, 0, none⟩)) (h4 : T.tmps.getD 4 undef = .int .i64 er) (hd : T.defers = [])
  (h : Q (.returned (.tuple #[.agg #[gv], .agg #[.int .i64 ln, .int .i64 0], .int .i64 er])) ((W.setRow R2 #[gv]).setRow R3 #[.int .i64 ln, .int .i64 0])) :
  bodyPost Tryd.prog Tryd.f17 Q Exit.ret T ((W.setRow R2 #[gv]).setRow R3 #[.int .i64 ln, .int .i64 0]) := by
 refine bodyPost_ret (v := .tuple #[.agg #[gv], .agg #[.int .i64 ln, .int .i64 0], .int .i64 er]) ?_ hd h
 have a2 := setRow_heap W R2 c2 #[gv] 39 (0, 0) hb2
 have a3 : (W.setRow R2 #[gv]).heap[R3]? = some (.cells c3 44 (0, 0)) := ((only_setRow1 W R2 #[gv]).block R3 (Array.getElem?_eq_some_iff.1 hb3).1 (fun e => hne e.symm)).trans hb3
 have b3 := setRow_heap (W.setRow R2 #[gv]) R3 c3 #[.int .i64 ln, .int .i64 0] 44 (0, 0) a3
 have b2 : ((W.setRow R2 #[gv]).setRow R3 #[.int .i64 ln, .int .i64 0]).heap[R2]? = some (.cells #[gv] 39 (0, 0)) := ((only_setRow1 (W.setRow R2 #[gv]) R3 #[.int .i64 ln, .int .i64 0]).block R2 (Array.getElem?_eq_some_iff.1 a2).1 hne).trans a2
 have e : Tryd.f17.results = #[.cell 2 39, .cell 3 44, .tmp 4] := rfl
 have l2 := run_loadVar_row (P := Tryd.prog) _ R2 39 39 #[gv] (0, 0) _ b2 Tryd.underlying39 rfl (by kernel_rfl)
 have l3 := run_loadVar_row (P := Tryd.prog) _ R3 44 44 #[.int .i64 ln, .int .i64 0] (0, 0) _ b3 Tryd.underlying44 rfl (by kernel_rfl)
 have g2 : T.tmps[2]?.getD undef = .pointer (some ⟨R2, 0, none⟩) := by simpa using h2
 have g3 : T.tmps[3]?.getD undef = .pointer (some ⟨R3, 0, none⟩) := by simpa using h3
 have g4 : T.tmps[4]?.getD undef = .int .i64 er := by simpa using h4
 simp only [results, e]
 simp [Sem.run_bind, Result.andThen, g2, g3, g4, asAddr, l2, l3]
theorem go_last {l : List (List UInt8)} {i : Nat} {x : List UInt8} {G : List Lk.NB} (hx : l[i]? = some x) (hi : i + 1 = l.length) : goB (l.drop i) i G = if 0 < i ∧ x = [] then .ok G else if i = 0 then (if x = headL then .error 2 else .error 1) else match stepB G x with | none => .error (i + 1) | some _ => .error (i + 2) := by
 have e : l.drop i = [x] := by
  obtain ⟨h1, h2⟩ := List.getElem?_eq_some_iff.1 hx
  rw [List.drop_eq_getElem_cons h1, h2, List.drop_of_length_le (by omega)]
 rw [e]
 unfold goB
 by_cases c : 0 < i ∧ x = []
 ·rw [if_pos c, if_pos c]
 ·rw [if_neg c, if_neg c]
  by_cases c0 : i = 0
  ·rw [if_pos c0, if_pos c0]
  ·rw [if_neg c0, if_neg c0]
   cases stepB G x <;> rfl
theorem go_on {l : List (List UInt8)} {i : Nat} {x : List UInt8} {G : List Lk.NB} (hx : l[i]? = some x) (hi : i + 1 < l.length) : goB (l.drop i) i G = if i = 0 then (if x = headL then goB (l.drop (i + 1)) (i + 1) G else .error 1) else match stepB G x with | none => .error (i + 1) | some G' => goB (l.drop (i + 1)) (i + 1) G' := by
 obtain ⟨h1, h2⟩ := List.getElem?_eq_some_iff.1 hx
 have e : l.drop i = x :: l.drop (i + 1) := by rw [List.drop_eq_getElem_cons h1, h2]
 obtain ⟨m, r, e2⟩ : ∃ m r, l.drop (i + 1) = m :: r := ⟨_, _, List.drop_eq_getElem_cons hi⟩
 rw [e, e2]
 conv => lhs; unfold goB
 by_cases c0 : i = 0
 ·subst c0
  rw [if_pos rfl, if_pos rfl]
 ·rw [if_neg c0, if_neg c0]
  cases stepB G x <;> rfl
theorem gb_small {P : Nat} {L : List LN} (h : graphB (toG (L.map LN.x)) = true) : L.length ≤ 24 ∧ ∀ n ∈ L, n.x.needs.length ≤ 24 := by
 obtain ⟨h1, -, h3⟩ := Lk.graph_parts h
 refine ⟨by simpa [toG] using h3, fun n hn => ?_⟩
 have := (h1 n.x.toB (by show _ ∈ List.map _ _; exact List.mem_map_of_mem (List.mem_map_of_mem hn))).n24
 simpa [NodeD.toB] using this
theorem only_two {W : World} {R : Nat} {c2 c3 : Array Value} (h : Only (fun _ => False) w W) (hR : w.heap.size = R) : Only (fun _ => False) w ((W.setRow R c2).setRow (R + 1) c3) :=
 (h.trans (only_setRow1 W R c2) fun k hk => .inr (by omega)).trans (only_setRow1 _ (R + 1) c3) fun k hk => .inr (by omega)
theorem ParseEnd.err {s : Str} {W : World} {n : Nat} {k : Int} (hp : parseB s.toList = .error n) (hk : k = (n : Int)) (o : Only (fun _ => False) w W) : ParseEnd s w W (.returned (.tuple #[.agg #[.slice none 0 0], .agg #[.int .i64 k, .int .i64 0], .int .i64 2])) := by
 subst hk
 refine ⟨_, _, _, rfl, o, ?_⟩
 rw [hp]
 exact ⟨rfl, rfl, rfl⟩
theorem ParseEnd.ok {s : Str} {W : World} {rv : Value} {L : List LN} (hp : parseB s.toList = .ok (toG (L.map LN.x))) (h : RowN B W rv L) (o : Only (fun _ => False) w W) : ParseEnd s w W (.returned (.tuple #[.agg #[rv], .agg #[.int .i64 0, .int .i64 0], .int .i64 0])) := by
 refine ⟨_, _, _, rfl, o, ?_⟩
 rw [hp]
 exact ⟨rfl, rfl, L.map LN.x, rfl, h.read⟩
theorem RowN.rows {W : World} {R R3 : Nat} {rv : Value} {L : List LN} {c2 c3 d2 d3 : Array Value} (h : RowN B W rv L) (h2 : W.heap[R]? = some (.cells c2 39 (0, 0))) (h3 : W.heap[R3]? = some (.cells c3 44 (0, 0))) : RowN B ((W.setRow R d2).setRow R3 d3) rv L := by
 have f2 := h.free h2 (by decide) (by decide) (by decide)
 have f3 := h.free h3 (by decide) (by decide) (by decide)
 exact (h.only (only_setRow1 W R d2) (fun k hk e => f2.1 k hk e) (fun n hn k hk e => f2.2.1 n hn k hk e) (fun n hn k hk e => f2.2.2 n hn k hk e)).only (only_setRow1 _ R3 d3) (fun k hk e => f3.1 k hk e) (fun n hn k hk e => f3.2.1 n hn k hk e) (fun n hn k hk e => f3.2.2 n hn k hk e)
set_option maxRecDepth 100000 in
set_option maxHeartbeats 8000000 in
theorem Parse_x (s : Str) (hs : s.size < 4294967281) (hM : LaidM w) : Calls Tryd.prog 17 #[.string s] w (fun e w' => ParseEnd s w w' e) := by
 obtain ⟨w0, hw0⟩ : ∃ x, ((w.alloc (.cells #[.slice none 0 0] 39)).alloc (.cells #[.int .i64 0, .int .i64 0] 44)).alloc (.cells #[.slice none 0 0] 39) = x := ⟨_, rfl⟩
 obtain ⟨R, hR⟩ : ∃ R, w.heap.size = R := ⟨_, rfl⟩
 have b2 : w0.heap[R]? = some (.cells #[.slice none 0 0] 39 (0, 0)) := by
  have h := heap_alloc_new w (.cells #[.slice none 0 0] 39)
  have o := ((Only.refl (fun _ => False) (w.alloc (.cells #[.slice none 0 0] 39))).alloc (.cells #[.int .i64 0, .int .i64 0] 44)).alloc (.cells #[.slice none 0 0] 39)
  rw [← hw0, ← hR]
  exact (o.block w.heap.size (by simp) (fun f => f)).trans h
 have b3 : w0.heap[R + 1]? = some (.cells #[.int .i64 0, .int .i64 0] 44 (0, 0)) := by
  have h := heap_alloc_new (w.alloc (.cells #[.slice none 0 0] 39)) (.cells #[.int .i64 0, .int .i64 0] 44)
  have o := (Only.refl (fun _ => False) ((w.alloc (.cells #[.slice none 0 0] 39)).alloc (.cells #[.int .i64 0, .int .i64 0] 44))).alloc (.cells #[.slice none 0 0] 39)
  rw [World.size_alloc, hR] at h
  rw [← hw0]
  exact (o.block (R + 1) (by simp; omega) (fun f => f)).trans h
 have bP : w0.heap[R + 2]? = some (.cells #[.slice none 0 0] 39 (0, 0)) := by
  rw [← hw0]
  have h := heap_alloc_new ((w.alloc (.cells #[.slice none 0 0] 39)).alloc (.cells #[.int .i64 0, .int .i64 0] 44)) (.cells #[.slice none 0 0] 39)
  rw [World.size_alloc, World.size_alloc, hR] at h; exact h
 have o0 : Only (fun _ => False) w w0 := by rw [← hw0]; exact (((Only.refl _ _).alloc _).alloc _).alloc _
 have hsz0 : w0.heap.size = R + 3 := by rw [← hw0]; simp; omega
 have HSp := Lib.hid (Split_x (w := w0) s hs 10 (hM.only o0))
 have HM := Lib.hid hM
 have HSz := Lib.hid hs
 have HO0 := Lib.hid o0
 have H2 := Lib.hid b2
 have H3 := Lib.hid b3
 have HPb := Lib.hid bP
 have HS0 := Lib.hid hsz0
 have HR := Lib.hid hR
 clear hs hM o0 b2 b3 bP hsz0
 go_enter Tryd.func17, Tryd.ntmps17
 go_wp2_with fail
 refine HSp.out.mono ?_
 rintro e w1 ⟨l, hcut, rfl, hw1, hrow, hsz, hln⟩
 have ho1 : Only (fun _ => False) w0 w1 := by rw [hw1]; exact (Only.refl _ _).alloc _
 have hsz1 : w1.heap.size = R + 4 := by rw [hw1]; simp [HS0.out]
 rw [HS0.out] at hrow ⊢
 obtain ⟨n, hn⟩ : ∃ n, l.length = n := ⟨_, rfl⟩
 have hn0 : 0 < n := by
  rw [← hn]
  have := congrArg List.length hcut
  rw [List.length_map] at this
  rw [this]
  exact List.length_pos_iff.2 (cutB_ne 10 _)
 have hn1 : n ≤ 4294967282 := by have := HSz.out; omega
 have HCut := Lib.hid hcut
 have HO1 := Lib.hid ho1
 have HS1 := Lib.hid hsz1
 have HL := Lib.hid hrow
 have HSzs := Lib.hid hsz
 have HN := Lib.hid hn
 have HNm : Hid ((l.map ByteArray.toList).length = n) := by show _ = _; rw [List.length_map, hn]
 rw [hn] at HL ⊢
 have HG0 : Hid (GB w1.heap.size w1 (R + 2) []) := ⟨.slice none 0 0, (ho1.block _ (Array.getElem?_eq_some_iff.1 HPb.out).1 (fun f => f)).trans HPb.out, RowN.nil⟩
 have HF2 : Hid (∀ W, Only (fun k => w1.heap.size ≤ k ∨ k = R + 2) w1 W → W.heap[R]? = some (.cells #[.slice none 0 0] 39 (0, 0)) ∧ W.heap[R + 1]? = some (.cells #[.int .i64 0, .int .i64 0] 44 (0, 0)) ∧ (∀ (i : Nat) (x : Str), l[i]? = some x → W.cell? ⟨R + 3, i, none⟩ = some (.string x)) ∧ LaidM W ∧ Only (fun _ => False) w W) := fun W o => by
  have hs1 := HS1.out
  have a2 := (HO1.out.block R (Array.getElem?_eq_some_iff.1 H2.out).1 (fun f => f)).trans H2.out
  have a3 := (HO1.out.block (R + 1) (Array.getElem?_eq_some_iff.1 H3.out).1 (fun f => f)).trans H3.out
  have ow : Only (fun _ => False) w W := (HO0.out.same HO1.out).trans o fun k hk => .inr (by rw [HR.out]; rcases hk with hk | hk <;> omega)
  refine ⟨(o.block R (Array.getElem?_eq_some_iff.1 a2).1 (by rw [hs1]; omega)).trans a2, (o.block (R + 1) (Array.getElem?_eq_some_iff.1 a3).1 (by rw [hs1]; omega)).trans a3, fun i x hx => ?_, HM.out.only ow, ow⟩
  obtain ⟨b', off', he, -, hE⟩ := StrC_at HL.out hx
  cases he
  have h1 := (hE w1 (Only.refl _ _)).1 0 _ rfl
  simp only [Nat.add_zero, Nat.mul_one, Nat.zero_add] at h1
  rw [World.cell?_of_block (w := w1) (o.block (R + 3) (by rw [hs1]; omega) (by rw [hs1]; omega))]
  exact h1
 clear hcut ho1 hsz1 hrow hsz hn hln hw1 hw0 HSp
 go_wp2_with fail
 go_loopw [15] (fun vi wr => Hid (Only (fun k => w1.heap.size ≤ k ∨ k = R + 2) w1 wr) ∧ ∃ (i : Nat) (L : List LN), vi = .int .i64 i ∧ i < n ∧ Hid (GB w1.heap.size wr (R + 2) L) ∧ Hid (graphB (toG (L.map LN.x)) = true) ∧ Hid (goB (l.map ByteArray.toList) 0 [] = goB ((l.map ByteArray.toList).drop i) i (toG (L.map LN.x)))) (fun v _ => n - (RowKit.intOf v).toNat)
 case atStart => exact ⟨show Hid _ from Only.refl _ _, 0, [], rfl, hn0, HG0, rfl, by show goB _ _ _ = goB _ _ _; rw [List.drop_zero]; rfl⟩
 case round =>
  obtain ⟨HOi, i, L, rfl, hi, HGi, HGr, HGo⟩ := hrel
  obtain ⟨x, hx⟩ : ∃ x, l[i]? = some x := ⟨_, List.getElem?_eq_getElem (by rw [HN.out]; exact hi)⟩
  have hxB : (l.map ByteArray.toList)[i]? = some x.toList := by rw [List.getElem?_map, hx]; rfl
  have HX := Lib.hid hxB
  have qx := (HF2.out wr HOi.out).2.2.1 i x hx
  have hxs : x.size < 4294967281 := by have := HSzs.out x (List.mem_of_getElem? hx); have := HSz.out; omega
  have HXs := Lib.hid hxs
  obtain ⟨rv, hb, hr⟩ := HGi.out
  obtain ⟨ao, cap, hrv, -, -⟩ := own_slice hr.own
  subst hrv
  have cP : wr.cell? ⟨R + 2, 0, none⟩ = some (.slice ao L.length cap) := by rw [cell_block hb]; rfl
  have HRow := Lib.hid hr
  have hsm := gb_small (P := 0) HGr.out
  have HSm := Lib.hid hsm
  have hBs : w1.heap.size ≤ wr.heap.size := HOi.out.size
  have HBs := Lib.hid hBs
  have HPar : Hid (parseB s.toList = goB ((l.map ByteArray.toList).drop i) i (toG (L.map LN.x))) := by show _ = _; unfold parseB; rw [← HCut.out]; exact HGo.out
  have ew1 : IntKind.i64.wrap ((i : Int) + 1) = (i : Int) + 1 := by rw [IntKind.wrap_i64]; omega
  have ew2 : IntKind.i64.wrap ((i : Int) + 1 + 1) = (i : Int) + 1 + 1 := by rw [IntKind.wrap_i64]; omega
  clear hx hxB hxs hb hr hsm hBs
  by_cases ce : i + 1 = n
  ·subst ce
   have ew0 : IntKind.i64.wrap (i : Int) = (i : Int) := by rw [IntKind.wrap_i64]; omega
   have hlast := go_last (G := toG (L.map LN.x)) HX.out HNm.out.symm
   rw [← HPar.out] at hlast
   have HLast := Lib.hid hlast
   clear hlast
   by_cases cok : 0 < i ∧ x.toList = []
   ·have hpo : parseB s.toList = .ok (toG (L.map LN.x)) := by rw [HLast.out, if_pos cok]
    have HPo := Lib.hid hpo
    obtain ⟨c0, hx0⟩ := cok
    have c0' : (0 : Int) < (i : Int) := by omega
    have hxe : (x.toList == ([] : List UInt8)) = true := by rw [hx0]; rfl
    clear hpo
    obtain ⟨h2, h3, -, -, ow⟩ := HF2.out wr HOi.out
    have h3' : (wr.setRow R #[.slice ao L.length cap]).heap[R + 1]? = some (.cells #[.int .i64 0, .int .i64 0] 44 (0, 0)) := ((only_setRow1 wr R #[.slice ao L.length cap]).block (R + 1) (Array.getElem?_eq_some_iff.1 h3).1 (by omega)).trans h3
    have HA2 := Lib.hid h2
    have HA3 := Lib.hid h3
    have HA4 := Lib.hid h3'
    have HOw := Lib.hid ow
    clear h2 h3 h3' ow
    go_wp2_with (first | (refine wpList_store_row rfl 39 (.tmp 2) (.tmp 35) rfl R #[.slice ao L.length cap] rfl rfl 39 #[.slice none 0 0] HA2.out (by kernel_rfl) rfl (by first | kernel_rfl | rfl | simp [Value.oneCell']) ?_) | (refine wpList_store_row rfl 44 (.tmp 3) (.tmp 36) rfl (R + 1) #[.int .i64 0, .int .i64 0] rfl rfl 44 #[.int .i64 0, .int .i64 0] HA4.out (by kernel_rfl) rfl (by first | kernel_rfl | rfl | simp [Value.oneCell']) ?_))
    exact parse_fin HA2.out HA3.out (by omega) rfl rfl rfl rfl (ParseEnd.ok HPo.out (HRow.out.rows HA2.out HA3.out) (only_two HOw.out HR.out))
   ·have hnot : (decide (0 < i ∧ x.toList = [])) = false := decide_eq_false cok
    obtain ⟨rr, hrr⟩ : ∃ r, rightP (toG (L.map LN.x)) i x.toList = r := ⟨_, rfl⟩
    have HRt := Lib.hid (right_x (w := wr) (B := w1.heap.size) i x HXs.out HRow.out HSm.out.1 HSm.out.2 (HF2.out wr HOi.out).2.2.2.1 HBs.out rr hrr)
    have hpe : parseB s.toList = .error (if rr = true then i + 2 else i + 1) := by
     rw [HLast.out, if_neg cok, ← hrr]
     unfold rightP
     by_cases c0 : i = 0
     ·rw [if_pos c0, if_pos c0]
      by_cases ch : x.toList = headL
      ·rw [if_pos ch, decide_eq_true ch, if_pos rfl, c0]
      ·rw [if_neg ch, decide_eq_false ch, if_neg (by decide), c0]
     ·rw [if_neg c0, if_neg c0, Lk.one_step HGr.out]
      cases stepB (toG (L.map LN.x)) x.toList <;> rfl
    have HPe := Lib.hid hpe
    clear hpe hrr
    by_cases c0 : 0 < i
    ·have c0' : (0 : Int) < (i : Int) := by omega
     have hxe : (x.toList == ([] : List UInt8)) = false := by
      rw [beq_eq_false_iff_ne]
      exact fun h => cok ⟨c0, h⟩
     go_wp2_with fail
     refine HRt.out.mono ?_
     rintro e w2 ⟨rfl, o2⟩
     have HO2 : Hid (Only (fun k => w1.heap.size ≤ k ∨ k = R + 2) w1 w2) := HOi.out.same (o2.mono fun _ h => .inl h)
     clear o2 HRt cP qx
     cases rr with
     | true =>
      obtain ⟨h2, h3, -, -, ow⟩ := HF2.out w2 (HO2.out)
      have h3' : (w2.setRow R #[.slice none 0 0]).heap[R + 1]? = some (.cells #[.int .i64 0, .int .i64 0] 44 (0, 0)) := ((only_setRow1 w2 R #[.slice none 0 0]).block (R + 1) (Array.getElem?_eq_some_iff.1 h3).1 (by omega)).trans h3
      have HA2 := Lib.hid h2
      have HA3 := Lib.hid h3
      have HA4 := Lib.hid h3'
      have HOw := Lib.hid ow
      clear h2 h3 h3' ow
      go_wp2_with (first | (refine wpList_store_row rfl 39 (.tmp 2) (.tmp 63) rfl R #[.slice none 0 0] rfl rfl 39 #[.slice none 0 0] HA2.out (by kernel_rfl) rfl (by first | kernel_rfl | rfl | simp [Value.oneCell']) ?_) | (refine wpList_store_row rfl 44 (.tmp 3) (.tmp 65) rfl (R + 1) #[.int .i64 (((i : Int) + 1 + 1)), .int .i64 0] rfl rfl 44 #[.int .i64 0, .int .i64 0] HA4.out (by kernel_rfl) rfl (by first | kernel_rfl | rfl | simp [Value.oneCell']) ?_))
      exact parse_fin HA2.out HA3.out (by omega) rfl rfl rfl rfl (ParseEnd.err HPe.out (by first | omega | (simp; done) | (simp; omega)) (only_two HOw.out HR.out))
     | false =>
      obtain ⟨h2, h3, -, -, ow⟩ := HF2.out w2 (HO2.out)
      have h3' : (w2.setRow R #[.slice none 0 0]).heap[R + 1]? = some (.cells #[.int .i64 0, .int .i64 0] 44 (0, 0)) := ((only_setRow1 w2 R #[.slice none 0 0]).block (R + 1) (Array.getElem?_eq_some_iff.1 h3).1 (by omega)).trans h3
      have HA2 := Lib.hid h2
      have HA3 := Lib.hid h3
      have HA4 := Lib.hid h3'
      have HOw := Lib.hid ow
      clear h2 h3 h3' ow
      go_wp2_with (first | (refine wpList_store_row rfl 39 (.tmp 2) (.tmp 63) rfl R #[.slice none 0 0] rfl rfl 39 #[.slice none 0 0] HA2.out (by kernel_rfl) rfl (by first | kernel_rfl | rfl | simp [Value.oneCell']) ?_) | (refine wpList_store_row rfl 44 (.tmp 3) (.tmp 65) rfl (R + 1) #[.int .i64 (((i : Int) + 1)), .int .i64 0] rfl rfl 44 #[.int .i64 0, .int .i64 0] HA4.out (by kernel_rfl) rfl (by first | kernel_rfl | rfl | simp [Value.oneCell']) ?_))
      exact parse_fin HA2.out HA3.out (by omega) rfl rfl rfl rfl (ParseEnd.err HPe.out (by first | omega | (simp; done) | (simp; omega)) (only_two HOw.out HR.out))
    ·have c0' : ¬ (0 : Int) < (i : Int) := by omega
     go_wp2_with fail
     refine HRt.out.mono ?_
     rintro e w2 ⟨rfl, o2⟩
     have HO2 : Hid (Only (fun k => w1.heap.size ≤ k ∨ k = R + 2) w1 w2) := HOi.out.same (o2.mono fun _ h => .inl h)
     clear o2 HRt cP qx
     cases rr with
     | true =>
      obtain ⟨h2, h3, -, -, ow⟩ := HF2.out w2 (HO2.out)
      have h3' : (w2.setRow R #[.slice none 0 0]).heap[R + 1]? = some (.cells #[.int .i64 0, .int .i64 0] 44 (0, 0)) := ((only_setRow1 w2 R #[.slice none 0 0]).block (R + 1) (Array.getElem?_eq_some_iff.1 h3).1 (by omega)).trans h3
      have HA2 := Lib.hid h2
      have HA3 := Lib.hid h3
      have HA4 := Lib.hid h3'
      have HOw := Lib.hid ow
      clear h2 h3 h3' ow
      go_wp2_with (first | (refine wpList_store_row rfl 39 (.tmp 2) (.tmp 63) rfl R #[.slice none 0 0] rfl rfl 39 #[.slice none 0 0] HA2.out (by kernel_rfl) rfl (by first | kernel_rfl | rfl | simp [Value.oneCell']) ?_) | (refine wpList_store_row rfl 44 (.tmp 3) (.tmp 65) rfl (R + 1) #[.int .i64 (((i : Int) + 1 + 1)), .int .i64 0] rfl rfl 44 #[.int .i64 0, .int .i64 0] HA4.out (by kernel_rfl) rfl (by first | kernel_rfl | rfl | simp [Value.oneCell']) ?_))
      exact parse_fin HA2.out HA3.out (by omega) rfl rfl rfl rfl (ParseEnd.err HPe.out (by first | omega | (simp; done) | (simp; omega)) (only_two HOw.out HR.out))
     | false =>
      obtain ⟨h2, h3, -, -, ow⟩ := HF2.out w2 (HO2.out)
      have h3' : (w2.setRow R #[.slice none 0 0]).heap[R + 1]? = some (.cells #[.int .i64 0, .int .i64 0] 44 (0, 0)) := ((only_setRow1 w2 R #[.slice none 0 0]).block (R + 1) (Array.getElem?_eq_some_iff.1 h3).1 (by omega)).trans h3
      have HA2 := Lib.hid h2
      have HA3 := Lib.hid h3
      have HA4 := Lib.hid h3'
      have HOw := Lib.hid ow
      clear h2 h3 h3' ow
      go_wp2_with (first | (refine wpList_store_row rfl 39 (.tmp 2) (.tmp 63) rfl R #[.slice none 0 0] rfl rfl 39 #[.slice none 0 0] HA2.out (by kernel_rfl) rfl (by first | kernel_rfl | rfl | simp [Value.oneCell']) ?_) | (refine wpList_store_row rfl 44 (.tmp 3) (.tmp 65) rfl (R + 1) #[.int .i64 (((i : Int) + 1)), .int .i64 0] rfl rfl 44 #[.int .i64 0, .int .i64 0] HA4.out (by kernel_rfl) rfl (by first | kernel_rfl | rfl | simp [Value.oneCell']) ?_))
      exact parse_fin HA2.out HA3.out (by omega) rfl rfl rfl rfl (ParseEnd.err HPe.out (by first | omega | (simp; done) | (simp; omega)) (only_two HOw.out HR.out))
  ·have ce1 : i + 1 < n := by omega
   have ew0 : IntKind.i64.wrap ((n : Int) - 1) = (n : Int) - 1 := by rw [IntKind.wrap_i64]; omega
   have hne : ((i : Int) == (n : Int) - 1) = false := by rw [beq_eq_false_iff_ne]; omega
   have hon := go_on (G := toG (L.map LN.x)) HX.out (by rw [HNm.out]; exact ce1)
   have HOn := Lib.hid hon
   clear hon
   by_cases c0 : i = 0
   ·have c0' : ((i : Int) == 0) = true := by rw [beq_iff_eq]; omega
    have c0'' : ¬ (0 : Int) < (i : Int) := by omega
    have C0 := Lib.hid c0
    clear c0
    by_cases ch : x.toList = headL
    ·have hxh : (x.toList == [108, 111, 99, 107, 32, 49]) = true := by rw [ch]; rfl
     have HGo2 : Hid (goB (l.map ByteArray.toList) 0 [] = goB ((l.map ByteArray.toList).drop (i + 1)) (i + 1) (toG (L.map LN.x))) := by show _ = _; rw [HGo.out, HOn.out, if_pos C0.out, if_pos ch]
     clear ch
     go_wp2_with fail
     go_roundw
     case rel => exact ⟨HOi, i + 1, L, by first | rfl | go_num, ce1, HGi, HGr, HGo2⟩
     case measure => simp [RowKit.intOf] <;> omega
    ·have hxh : (x.toList == [108, 111, 99, 107, 32, 49]) = false := by rw [beq_eq_false_iff_ne]; exact ch
     have HPe : Hid (parseB s.toList = .error 1) := by show _ = _; rw [HPar.out, HOn.out, if_pos C0.out, if_neg ch]
     clear ch
     obtain ⟨h2, h3, -, -, ow⟩ := HF2.out wr (HOi.out)
     have h3' : (wr.setRow R #[.slice none 0 0]).heap[R + 1]? = some (.cells #[.int .i64 0, .int .i64 0] 44 (0, 0)) := ((only_setRow1 wr R #[.slice none 0 0]).block (R + 1) (Array.getElem?_eq_some_iff.1 h3).1 (by omega)).trans h3
     have HA2 := Lib.hid h2
     have HA3 := Lib.hid h3
     have HA4 := Lib.hid h3'
     have HOw := Lib.hid ow
     clear h2 h3 h3' ow
     go_wp2_with (first | (refine wpList_store_row rfl 39 (.tmp 2) (.tmp 63) rfl R #[.slice none 0 0] rfl rfl 39 #[.slice none 0 0] HA2.out (by kernel_rfl) rfl (by first | kernel_rfl | rfl | simp [Value.oneCell']) ?_) | (refine wpList_store_row rfl 44 (.tmp 3) (.tmp 65) rfl (R + 1) #[.int .i64 (((i : Int) + 1)), .int .i64 0] rfl rfl 44 #[.int .i64 0, .int .i64 0] HA4.out (by kernel_rfl) rfl (by first | kernel_rfl | rfl | simp [Value.oneCell']) ?_))
     exact parse_fin HA2.out HA3.out (by omega) rfl rfl rfl rfl (ParseEnd.err HPe.out (by first | (have h := C0.out; omega) | (simp; done) | (simp; omega)) (only_two HOw.out HR.out))
   ·have c0' : ((i : Int) == 0) = false := by rw [beq_eq_false_iff_ne]; omega
    have c0'' : (0 : Int) < (i : Int) := by omega
    have HOne := Lib.hid (one_x (w := wr) (B := w1.heap.size) (P := R + 2) x HXs.out HGi.out HSm.out.1 HSm.out.2 (HF2.out wr HOi.out).2.2.2.1 HBs.out)
    go_wp2_with fail
    refine HOne.out.mono ?_
    rintro e w2 ⟨bb, rfl, o2, h2⟩
    rw [Lk.one_step HGr.out] at h2
    have HO2 := Lib.hid (HOi.out.same o2)
    clear o2 HOne cP qx
    cases hst : stepB (toG (L.map LN.x)) x.toList with
    | none =>
     rw [hst] at h2
     obtain ⟨rfl, -⟩ := h2
     have HPe : Hid (parseB s.toList = .error (i + 1)) := by show _ = _; rw [HPar.out, HOn.out, if_neg c0, hst]
     clear hst
     obtain ⟨h2, h3, -, -, ow⟩ := HF2.out w2 (HO2.out)
     have h3' : (w2.setRow R #[.slice none 0 0]).heap[R + 1]? = some (.cells #[.int .i64 0, .int .i64 0] 44 (0, 0)) := ((only_setRow1 w2 R #[.slice none 0 0]).block (R + 1) (Array.getElem?_eq_some_iff.1 h3).1 (by omega)).trans h3
     have HA2 := Lib.hid h2
     have HA3 := Lib.hid h3
     have HA4 := Lib.hid h3'
     have HOw := Lib.hid ow
     clear h2 h3 h3' ow
     go_wp2_with (first | (refine wpList_store_row rfl 39 (.tmp 2) (.tmp 63) rfl R #[.slice none 0 0] rfl rfl 39 #[.slice none 0 0] HA2.out (by kernel_rfl) rfl (by first | kernel_rfl | rfl | simp [Value.oneCell']) ?_) | (refine wpList_store_row rfl 44 (.tmp 3) (.tmp 65) rfl (R + 1) #[.int .i64 (((i : Int) + 1)), .int .i64 0] rfl rfl 44 #[.int .i64 0, .int .i64 0] HA4.out (by kernel_rfl) rfl (by first | kernel_rfl | rfl | simp [Value.oneCell']) ?_))
     exact parse_fin HA2.out HA3.out (by omega) rfl rfl rfl rfl (ParseEnd.err HPe.out (by first | omega | (simp; done) | (simp; omega)) (only_two HOw.out HR.out))
    | some G2 =>
     rw [hst] at h2
     obtain ⟨rfl, L2, hL2, hG2⟩ := h2
     have HGo2 : Hid (goB (l.map ByteArray.toList) 0 [] = goB ((l.map ByteArray.toList).drop (i + 1)) (i + 1) (toG (L2.map LN.x))) := by show _ = _; rw [HGo.out, HOn.out, if_neg c0, hst, hL2]
     have HGr2 : Hid (graphB (toG (L2.map LN.x)) = true) := by show _ = _; rw [hL2]; exact (Lk.step_some hst).1
     have HGi2 := Lib.hid hG2
     clear hst hL2 hG2
     go_wp2_with fail
     go_roundw
     case rel => exact ⟨HO2, i + 1, L2, by first | rfl | go_num, ce1, HGi2, HGr2, HGo2⟩
     case measure => simp [RowKit.intOf] <;> omega
end
end Go.Proofs.YtmlfchjompfmaaaDoor
