/- cooperref28.with: a graph with a line more, whatever it says. Printed by gen_lkwl.py. -/
import Derived.Test.YtmlfchjompfmaaaDoorLkWK
import Derived.Test.YtmlfchjompfmaaaDoorLkVA
import Derived.Test.YtmlfchjompfmaaaDoorRegs
set_option linter.unusedVariables false
namespace Go.Proofs.YtmlfchjompfmaaaDoor
open Go.RowKit
open Lk (withB nodeP needP newNode setsOf cutAt)
theorem cut_count (c : UInt8) : ∀ (l : List UInt8), (cutB c l).length ≤ l.length + 1
 | [] => by unfold cutB; simp
 | x :: r => by
  have ih := cut_count c r
  unfold cutB
  by_cases h : x = c
  ·rw [if_pos h]; simp; omega
  ·rw [if_neg h]
   cases hc : cutB c r with
   | nil => simp
   | cons y t => rw [hc] at ih; simp at ih ⊢; omega
theorem setsOf_append : ∀ (l m : List (List UInt8)), setsOf (l ++ m) = (setsOf l).bind fun s => (setsOf m).map fun t => s ++ t
 | [], m => by simp [setsOf]
 | x :: l, m => by
  have ih := setsOf_append l m
  have e : ∀ r, setsOf (x :: r) = match cutAt 61 x with | none => none | some p => (setsOf r).map fun l => p :: l := fun _ => rfl
  rw [List.cons_append, e, e, ih]
  cases cutAt 61 x with
  | none => rfl
  | some p =>
   simp only
   cases setsOf l with
   | none => rfl
   | some s => cases setsOf m <;> rfl
theorem setsOf_next {r : List Str} {i : Nat} {x : Str} {S : List SetD} {d : SetD} (hx : r[i]? = some x) (h : setsOf ((r.take i).map ByteArray.toList) = some (S.map SetD.toB)) (hd : cutAt 61 x.toList = some d.toB) : setsOf ((r.take (i + 1)).map ByteArray.toList) = some ((S ++ [d]).map SetD.toB) := by
 have e : r.take (i + 1) = r.take i ++ [x] := by rw [List.take_add_one, hx]; rfl
 have e2 : setsOf [x.toList] = some [d.toB] := by unfold setsOf; rw [hd]; rfl
 rw [e, List.map_append, setsOf_append, h, List.map_singleton, e2]
 simp
theorem setsOf_bad {r : List Str} {i : Nat} {x : Str} (hx : r[i]? = some x) (hd : cutAt 61 x.toList = none) : setsOf (r.map ByteArray.toList) = none := by
 have e : r = r.take i ++ x :: r.drop (i + 1) := by
  obtain ⟨hi, he⟩ := List.getElem?_eq_some_iff.1 hx
  exact (List.take_append_drop i r).symm.trans (by rw [List.drop_eq_getElem_cons hi, he])
 have e2 : setsOf (x.toList :: (r.drop (i + 1)).map ByteArray.toList) = none := by
  show (match cutAt 61 x.toList with | none => none | some p => (setsOf ((r.drop (i + 1)).map ByteArray.toList)).map fun l => p :: l) = none
  rw [hd]
 rw [e, List.map_append, List.map_cons, setsOf_append, e2]
 cases setsOf (List.map ByteArray.toList (List.take i r)) <;> rfl
theorem NodeAt.ver {w : World} {B N : Nat} {a b b' : Str} {sv : Value} {S : List SetD} (h : NodeAt B w N a b sv S) : NodeAt B (w.setCell ⟨N, 1, none⟩ (.string b')) N a b' sv S ∧ w.cell? ⟨N, 1, none⟩ = some (.string b) ∧ w.frozen? ⟨N, 1, none⟩ = false := by
 have oS : Only (fun k => k = N) w (w.setCell ⟨N, 1, none⟩ (.string b')) := (Only.refl (fun k => k = N) w).setCell (p := ⟨N, 1, none⟩) (.inl rfl) _
 exact ⟨⟨heap_setCell_same w N 1 _ 80 _ h.blk, own_only h.own oS (fun k hk e => own_blk (by decide) h.own h.blk (e ▸ hk)), h.oks, h.new⟩, by rw [cell_block h.blk]; rfl, frozen_block h.blk 1⟩
structure WordsTo (ws : List Str) (i : Nat) (b : Str) (S : List SetD) : Prop where
 lo : i ≤ 1 → b = ⟨#[]⟩ ∧ S = []
 hi : 2 ≤ i → ws[1]? = some b ∧ setsOf (((ws.drop 2).take (i - 2)).map ByteArray.toList) = some (S.map SetD.toB)
 len : S.length ≤ i
theorem WordsTo.start (ws : List Str) : WordsTo ws 0 ⟨#[]⟩ [] := ⟨fun _ => ⟨rfl, rfl⟩, fun h => by omega, Nat.le_refl _⟩
theorem WordsTo.one {ws : List Str} {b : Str} {S : List SetD} (h : WordsTo ws 0 b S) : WordsTo ws 1 b S := ⟨fun _ => h.lo (by omega), fun h => by omega, by have := h.len; omega⟩
theorem WordsTo.two {ws : List Str} {b b' : Str} {S : List SetD} (h : WordsTo ws 1 b S) (hb : ws[1]? = some b') : WordsTo ws 2 b' S := by
 obtain ⟨-, rfl⟩ := h.lo (by omega)
 exact ⟨fun h => by omega, fun _ => ⟨hb, by simp [setsOf]⟩, by simp⟩
theorem WordsTo.next {ws : List Str} {i : Nat} {b x : Str} {S : List SetD} {d : SetD} (h : WordsTo ws i b S) (hi : 2 ≤ i) (hx : ws[i]? = some x) (hd : cutAt 61 x.toList = some d.toB) : WordsTo ws (i + 1) b (S ++ [d]) := by
 obtain ⟨h1, h2⟩ := h.hi hi
 refine ⟨fun h => by omega, fun _ => ⟨h1, ?_⟩, by rw [List.length_append, List.length_singleton]; have := h.len; omega⟩
 rw [show i + 1 - 2 = (i - 2) + 1 by omega]
 exact setsOf_next (by rw [List.getElem?_drop, show 2 + (i - 2) = i by omega]; exact hx) h2 hd
theorem WordsTo.bad {ws : List Str} {i : Nat} {x : Str} (hi : 2 ≤ i) (hx : ws[i]? = some x) (hd : cutAt 61 x.toList = none) {l : List UInt8} (hw : ws.map ByteArray.toList = cutB 32 l) : newNode l = none := by
 have hb := setsOf_bad (r := ws.drop 2) (i := i - 2) (x := x) (by rw [List.getElem?_drop, show 2 + (i - 2) = i by omega]; exact hx) hd
 unfold newNode
 rw [← hw]
 match ws, hx, hb with
 | [], _, _ => rfl
 | [_], _, _ => rfl
 | a :: b :: r, _, hb =>
  simp only [List.map_cons]
  have e : (a :: b :: r).drop 2 = r := rfl
  rw [e] at hb
  rw [hb]; rfl
theorem WordsTo.short {ws : List Str} (hl : ws.length < 2) {l : List UInt8} (hw : ws.map ByteArray.toList = cutB 32 l) : newNode l = none := by
 unfold newNode
 rw [← hw]
 match ws, hl with
 | [], _ => rfl
 | [_], _ => rfl
theorem WordsTo.fin {ws : List Str} {a b : Str} {S : List SetD} (h : WordsTo ws ws.length b S) (ha : ws[0]? = some a) (hl : 2 ≤ ws.length) {l : List UInt8} (hw : ws.map ByteArray.toList = cutB 32 l) : newNode l = some (NodeD.toB ⟨a, b, S, []⟩) := by
 obtain ⟨h1, h2⟩ := h.hi hl
 unfold newNode
 rw [← hw]
 match ws, ha, hl, h1, h2 with
 | a' :: b' :: r, ha, _, h1, h2 =>
  simp only [List.getElem?_cons_zero, Option.some.injEq, List.getElem?_cons_succ] at ha h1
  subst ha h1
  have e : ((a' :: b' :: r).drop 2).take ((a' :: b' :: r).length - 2) = r := List.take_of_length_le (by simp)
  rw [e] at h2
  simp only [List.map_cons, h2, Option.map_some]
  rfl
def WithEnd (G : Option (List Lk.NB)) (w w' : World) (e : Ending) : Prop := ∃ ao n c ok, e = .returned (.tuple #[.agg #[.slice ao n c], .bool ok]) ∧ Only (fun _ => False) w w' ∧
 (match G with | none => ok = false | some G' => ok = true ∧ ∃ L' : List LN, toG (L'.map LN.x) = G' ∧ RowS w' (.slice ao n c) L')
theorem WithEnd.no {G : Option (List Lk.NB)} {w w' : World} {ao : Option Addr} {n c : Nat} (hG : G = none) (o : Only (fun _ => False) w w') : WithEnd G w w' (.returned (.tuple #[.agg #[.slice ao n c], .bool false])) := by
 subst hG
 exact ⟨ao, n, c, false, rfl, o, rfl⟩
theorem WithEnd.no' {G : Option (List Lk.NB)} {w w' : World} {R : Nat} {ao : Option Addr} {n c : Nat} {cs : Array Value} (hG : G = none) (hR : w.heap.size = R) (o : Only (fun _ => False) w w') : WithEnd G w (w'.setRow (R + 1) cs) (.returned (.tuple #[.agg #[.slice ao n c], .bool false])) :=
 WithEnd.no hG (o.trans (only_setRow1 w' (R + 1) cs) fun k hk => .inr (by omega))
theorem WithEnd.yes {G : Option (List Lk.NB)} {w W5 : World} {R m c : Nat} {ao : Option Addr} {L0 : List LN} {x : LN} {cs : Array Value} (hR : w.heap.size = R) (o5 : Only (fun _ => False) w W5) (hb : W5.heap[R + 1]? = some (.cells cs 39 (0, 0)))
  (own : W5.ownsRow 0 80 4 (.slice ao m c) m (flatN (L0 ++ [x]))) (hm : (L0 ++ [x]).length = m) (each : ∀ W6, Only (fun k => k = R + 1) W5 W6 → ∀ y ∈ L0 ++ [x], OwnN 0 W6 y) (hG : G = some (toG ((L0 ++ [x]).map LN.x))) :
  WithEnd G w (W5.setRow (R + 1) #[.slice ao m c]) (.returned (.tuple #[.agg #[.slice ao m c], .bool true])) := by
 subst hG
 have oS := only_setRow1 W5 (R + 1) #[.slice ao m c]
 have own6 := own_only own oS (fun k hk e => own_blk (by decide) own hb (e ▸ hk))
 exact ⟨ao, m, c, true, rfl, o5.trans oS fun k hk => .inr (by omega), rfl, L0 ++ [x], rfl, by rw [hm]; exact own6, each _ oS⟩
section
variable {w w' : World} {B : Nat}
theorem own_emptyN {g : Nat} (h : w.heap[g]? = some (.cells #[] 80)) : w.ownsRow 0 80 4 (.slice (some ⟨g, 0, none⟩) 0 0) 0 [] :=
 ⟨rfl, .inr ⟨g, 0, #[], rfl, Nat.zero_le _, h, Nat.le_refl _, by unfold maxLen; omega, rfl, rfl⟩⟩
theorem with_fin {Q : Ending → World → Prop} {W : World} {R : Nat} {T : Act} {c : Array Value} {gv : Value} {ok : Bool} (hb : W.heap[R]? = some (.cells c 39 (0, 0)))
  (h4 : T.tmps.getD 4 undef = .pointer (some ⟨R, 0, none⟩)) (h5 : T.tmps.getD 5 undef = .bool ok) (hd : T.defers = [])
  (h : Q (.returned (.tuple #[.agg #[gv], .bool ok])) (W.setRow R #[gv])) :
  bodyPost Tryd.prog Tryd.f37 Q Exit.ret T (W.setRow R #[gv]) := by
 refine bodyPost_ret (v := .tuple #[.agg #[gv], .bool ok]) ?_ hd h
 have a2 := setRow_heap W R c #[gv] 39 (0, 0) hb
 have e : Tryd.f37.results = #[.cell 4 39, .tmp 5] := rfl
 have l2 := run_loadVar_row (P := Tryd.prog) _ R 39 39 #[gv] (0, 0) _ a2 Tryd.underlying39 rfl (by kernel_rfl)
 have g4 : T.tmps[4]?.getD undef = .pointer (some ⟨R, 0, none⟩) := by simpa using h4
 have g5 : T.tmps[5]?.getD undef = .bool ok := by simpa using h5
 simp only [results, e]
 simp [Result.andThen, g4, g5, asAddr, l2]
theorem own_lastN {gl cap n0 : Nat} {L0 : List LN} {m : LN} (h : w.ownsRow 0 80 4 (.slice (some ⟨gl, 0, none⟩) (n0 + 1) cap) (n0 + 1) (flatN (L0 ++ [m]))) (hn : L0.length = n0) (m' : LN) :
  (w.setCells gl (n0 * 4) m'.cells).ownsRow 0 80 4 (.slice (some ⟨gl, 0, none⟩) (n0 + 1) cap) (n0 + 1) (flatN (L0 ++ [m'])) ∧ w.there gl (n0 * 4) 4 ∧ w.rangeAt gl (n0 * 4) m.cells := by
 have hat : ∀ j u, m.cells[j]? = some u → w.cell? ⟨gl, n0 * 4 + j, none⟩ = some u := fun j u hu => by
  have hj : j < 4 := (List.getElem?_eq_some_iff.1 hu).1
  rw [h.cellAt (n0 * 4 + j) (by omega)]
  exact flatN_at (L0 ++ [m]) n0 m (by rw [← hn]; simp) j u hu
 refine ⟨?_, fun j hj => ⟨?_, h.frozenAt _⟩, fun j u hu => hat j u hu⟩
 ·have st := setCells_ownK m'.cells (n0 * 4) h
  have e : setLK (flatN (L0 ++ [m])) (n0 * 4) m'.cells = flatN (L0 ++ [m']) := by
   have hl : (flatN L0).length = n0 * 4 := by rw [flatN_len, hn]
   have := setLK_mid m'.cells (flatN L0) m.cells [] rfl
   rw [hl, List.append_nil, List.append_nil] at this
   rw [flatN_snoc, flatN_snoc]
   exact this
  rw [← e]
  exact st
 ·have hj4 : j < m.cells.length := hj
  rw [hat j _ (List.getElem?_eq_getElem hj4)]; rfl
set_option maxRecDepth 100000 in
set_option maxHeartbeats 8000000 in
theorem With28_x {v : Value} {g : List NodeD} {L : List LN} (hS : RowS w v L) (hLg : L.map LN.x = g) (hlen : g.length ≤ 100000) (hnds : ∀ x ∈ g, x.needs.length ≤ 100000) (line : Str) (hs : line.size ≤ 1000000) :
  Calls Tryd.prog 37 #[.agg #[v], .string line] w (fun e w' => WithEnd (withB (toG g) line.toList) w w' e) := by
 have hg : RowT 4 NodC w.heap.size w v g := by rw [← hLg]; exact hS.read
 obtain ⟨ao, cap, rfl, k1, k2⟩ := hg.shape
 have hL1 := hLg
 have hL2 : ∀ n ∈ L, NodC w.heap.size w n.cells n.x := fun n hn => (hS.each n hn).read
 have hL3 : ∀ ad, ao = some ad → ∀ j u, (flatN L)[j]? = some u → w.cell? (ad.add j) = some u := fun ad had j u hu => by
  have hown := hS.own
  have hne : 0 < L.length := by
   have hj := (List.getElem?_eq_some_iff.1 hu).1
   rw [flatN_len] at hj
   omega
  have e : g.length = L.length := by rw [← hLg, List.length_map]
  rw [e] at hown
  obtain ⟨b, c, he, -, -⟩ := own_some hown hne
  simp only [Value.slice.injEq] at he
  obtain ⟨rfl, -, -⟩ := he
  cases had
  exact hown.cells (g := b) rfl j u hu
 obtain ⟨n, hn⟩ : ∃ n, g.length = n := ⟨_, rfl⟩
 have hLn : L.length = n := by rw [← hn, ← hL1, List.length_map]
 rw [hn] at hg k1 hlen ⊢
 obtain ⟨wa, hwa⟩ : ∃ W, w.alloc (.cells #[.slice ao n cap] 39) = W := ⟨_, rfl⟩
 have hba : wa.heap[w.heap.size]? = some (.cells #[.slice ao n cap] 39 (0, 0)) := by rw [← hwa]; exact heap_alloc_new _ _
 have hsa : wa.heap.size = w.heap.size + 1 := by rw [← hwa]; exact Array.size_push _
 obtain ⟨w0, hw0⟩ : ∃ W, wa.alloc (.cells #[.slice none 0 0] 39) = W := ⟨_, rfl⟩
 have hbb : w0.heap[w.heap.size + 1]? = some (.cells #[.slice none 0 0] 39 (0, 0)) := by rw [← hw0, ← hsa]; exact heap_alloc_new _ _
 have hs0 : w0.heap.size = w.heap.size + 2 := by rw [← hw0]; simp; omega
 have oa : Only (fun _ => False) w wa := by rw [← hwa]; exact (Only.refl _ _).alloc _
 have ob : Only (fun _ => False) wa w0 := by rw [← hw0]; exact (Only.refl _ _).alloc _
 have hbc := only_block hba ob (fun f => f)
 obtain ⟨R, hR⟩ : ∃ R, w.heap.size = R := ⟨_, rfl⟩
 rw [hR] at hba hbb hbc hs0 hsa
 have HRw := Lib.hid hR
 have HBlk : Hid (∀ W, Only (fun _ => False) w0 W → W.heap[R]? = some (.cells #[.slice ao n cap] 39 (0, 0)) ∧ W.heap[R + 1]? = some (.cells #[.slice none 0 0] 39 (0, 0))) := fun W o => ⟨only_block hbc o (fun f => f), only_block hbb o (fun f => f)⟩
 have HBox : Hid (∀ W, Only (fun _ => False) w0 W → W.cell? ⟨R, 0, none⟩ = some (.slice ao n cap) ∧ W.cell? ⟨R + 1, 0, none⟩ = some (.slice none 0 0)) := fun W o => ⟨by rw [cell_block (HBlk.out W o).1]; rfl, by rw [cell_block (HBlk.out W o).2]; rfl⟩
 have HO0 := Lib.hid (oa.same ob)
 have HS0 := Lib.hid hs0
 have HLs : Hid (L.map LN.x = g ∧ L.length = n) := ⟨hL1, hLn⟩
 have HEach : Hid (∀ W, Only (fun k => R ≤ k) w W → ∀ m ∈ L, OwnN 0 W m) := fun W o m hm => (hS.each m hm).grow (by omega) o
 have HNews : Hid (∀ W, Only (fun _ => False) w W → ∀ ad, ao = some ad → ∀ j u, (flatN L)[j]? = some u → W.cell? (ad.add j) = some u) := fun W o ad ha j u hu => by
  have h := hL3 ad ha j u hu
  rw [World.cell?_of_block (w := w) (o.block _ (World.block_lt_of_cell? _ _ h) (fun f => f))]; exact h
 have HNone : Hid (ao = none → n = 0 ∧ cap = 0) := fun h => hg.nil n cap (by rw [h])
 have HOne : Hid (∀ u ∈ flatN L, u.oneCell' = true) := flatN_one hL2
 have HFl : Hid ((flatN L).length = n * 4) := by rw [Hid, flatN_len, hLn]
 have HSz := Lib.hid hs
 have HNds := Lib.hid hnds
 obtain ⟨bx0, bx1⟩ := HBox.out (w0.alloc (.cells #[] 80)) ((Only.refl _ _).alloc _)
 have HCy0 : Hid (∀ ao' cap' w1, w1.ownsRow 0 80 4 (.slice ao' n cap') n (flatN L) → Only (fun k => (Value.slice (some ⟨R + 2, 0, none⟩) 0 0).ownBlock = some k) (w0.alloc (.cells #[] 80)) w1 → NewRow (w0.alloc (.cells #[] 80)) (.slice (some ⟨R + 2, 0, none⟩) 0 0) (.slice ao' n cap') → Hid (CopyN R w1 (.slice ao' n cap') L) ∧ Hid (Only (fun _ => False) w0 w1)) := fun ao' cap' w1 r1 r2 r3 => by
  have o1 : Only (fun _ => False) w0 w1 := ((Only.refl (fun _ => False) w0).alloc _).trans r2 fun k hk => .inr (by simp [Value.ownBlock] at hk; omega)
  refine ⟨⟨by rw [hLn]; exact r1, fun k hk => ?_⟩, o1⟩
  rcases r3 k hk with h | h
  ·simp [Value.ownBlock] at h; omega
  ·simp at h; omega
 have HEmp : Hid ((w0.alloc (.cells #[] 80)).ownsRow 0 80 4 (.slice (some ⟨R + 2, 0, none⟩) 0 0) 0 []) := own_emptyN (by rw [← hs0]; exact heap_alloc_new _ _)
 have HNews0 : Hid (∀ ad, ao = some ad → ∀ j u, (flatN L)[j]? = some u → (w0.alloc (.cells #[] 80)).cell? (ad.add j) = some u) := HNews.out _ ((oa.same ob).alloc _)
 clear hS hLg hnds hba hbb hbc oa ob hg hL1 hL2 hL3 hs hLn hn
 go_enter Tryd.func37, Tryd.ntmps37
 go_wp2_with (at_builtin; go_must (refine wpAN slNode rfl (.tmp 14) (.tmp 16) rfl rfl HEmp.out rfl HFl.out HNone.out HNews0.out HOne.out (by omega) (by decide) ?_))
 intro ao1 cap1 w1 r1 r2 r3
 obtain ⟨HCy, HO1⟩ := HCy0.out ao1 cap1 w1 r1 r2 r3
 clear r1 r2 r3 HCy0 HEmp HNews0 bx0 bx1 hR hsa hw0 hwa hs0
 obtain ⟨q1, hq1⟩ : ∃ q, nodeP.isPrefixOf line.toList = q := ⟨_, rfl⟩
 have HP1 : Hid (∀ W, Calls Tryd.prog 63 #[.string line, .string ⟨#[110, 111, 100, 101, 32]⟩] W (fun e w' => e = .returned (.bool q1) ∧ w' = W)) := fun W => RPrefix_x line ⟨#[110, 111, 100, 101, 32]⟩ (by have := HSz.out; unfold okS maxLen; omega) (by decide) q1 (by rw [nodeP_txt]; exact hq1)
 have HQ1 := Lib.hid hq1
 clear hq1
 go_wp2_with fail
 refine (HP1.out _).mono ?_
 rintro e w2 ⟨rfl, rfl⟩
 cases q1 with
 | true =>
  have h5 : 5 ≤ line.size := by
   have h := Lk.of_pre HQ1.out
   have h2 := congrArg List.length h
   rw [size_toList, List.length_append] at h2
   simp only [nodeP, List.length_cons, List.length_nil] at h2
   omega
  have h5' : (5 : Int) ≤ (line.size : Int) := by omega
  obtain ⟨rest, hrest⟩ : ∃ t, line.extract 5 line.size = t := ⟨_, rfl⟩
  have hrl : rest.toList = line.toList.drop 5 := by
   rw [← hrest, ext_toList]
   exact List.take_of_length_le (by rw [List.length_drop, size_toList]; omega)
  have hrs : rest.size ≤ 1000000 := by
   have := HSz.out
   rw [← size_toList, hrl, List.length_drop, size_toList]; omega
  have HCut := Lib.hid (Cut_x (w := w2) rest hrs 32 32 rfl)
  have HRl := Lib.hid hrl
  clear hrl hrs HP1
  go_wp2_with fail
  refine HCut.out.mono ?_
  rintro e w3 ⟨vw, rfl, ht, O3⟩
  obtain ⟨ws, hw1, hw2, hw3, hw4⟩ := ht
  have hwne : 0 < ws.length := by
   rw [← List.length_map (f := ByteArray.toList), hw1]
   exact List.length_pos_iff.2 (cutB_ne 32 _)
  obtain ⟨gw, cw, rfl, hc1, hc2⟩ := own_some hw2 hwne
  obtain ⟨nw, hnw⟩ : ∃ m, ws.length = m := ⟨_, rfl⟩
  have HNw := Lib.hid hnw
  rw [hnw] at hwne hw2 hc1 ⊢
  have hnw6 : nw ≤ 1000000 + 1 := by
   have h := cut_count 32 rest.toList
   rw [← hw1, List.length_map, hnw, size_toList] at h
   have h2 := HSz.out
   have h3 := HRl.out
   have h4 : rest.size ≤ line.size := by rw [← size_toList, h3, List.length_drop, size_toList]; omega
   omega
  obtain ⟨a, ha⟩ : ∃ a, ws[0]? = some a := ⟨_, List.getElem?_eq_getElem (by omega)⟩
  have HWs : Hid (∀ W, Only (fun _ => False) w3 W → ∀ i x, ws[i]? = some x → W.cell? ⟨gw, i, none⟩ = some (.string x)) := fun W o i x hx => by
   have h := own_only hw2 o (fun _ _ f => f)
   have hi := (List.getElem?_eq_some_iff.1 hx).1
   rw [h.cellAt i (by omega)]
   show (ws.map Value.string)[i]? = _
   rw [List.getElem?_map, hx]; rfl
  have HOk : Hid (∀ s ∈ ws, okS s) := hw3
  have HCw := Lib.hid hw1
  have HO3 := Lib.hid (HO1.out.same O3)
  have HO3' := Lib.hid O3
  have HCy3 := Lib.hid (HCy.out.only0 O3)
  have HA := Lib.hid ha
  have q0 := HWs.out w3 (Only.refl _ _) 0 a ha
  clear hw1 hw2 hw3 hw4 O3 ha hnw
  obtain ⟨N, hN⟩ : ∃ N, w3.heap.size = N := ⟨_, rfl⟩
  go_wp2_with fail
  obtain ⟨w4, hw4⟩ : ∃ W, w3.alloc (.cells #[.string a, .string ⟨#[]⟩, .slice none 0 0, .slice none 0 0] 80) = W := ⟨_, rfl⟩
  have hb4 : w4.heap[N]? = some (.cells #[.string a, .string ⟨#[]⟩, .slice none 0 0, .slice none 0 0] 80 (0, 0)) := by rw [← hw4, ← hN]; exact heap_alloc_new _ _
  have HO4 : Hid (Only (fun _ => False) w3 w4) := by rw [← hw4]; exact (Only.refl _ _).alloc _
  have HNd0 : Hid (NodeAt N w4 N a ⟨#[]⟩ (.slice none 0 0) []) := ⟨hb4, World.ownsRow_nil _ _ _ _, (fun _ h => by cases h), (fun k hk => by simp [Value.ownBlock] at hk)⟩
  have HNw3 := Lib.hid hN
  rw [hw4]
  clear hb4 hw4 hN q0
  go_loopw [9, 10, 29] (fun _ _ vi wr => ∃ (i : Nat) (b : Str) (S : List SetD) (asv : Option Addr) (csv : Nat), vi = .int .i64 i ∧ i ≤ nw ∧ Hid (NodeAt N wr N a b (.slice asv S.length csv) S) ∧ Hid (WordsTo ws i b S) ∧ Hid (Only (fun _ => False) w3 wr)) (fun _ _ v _ => nw - (RowKit.intOf v).toNat)
  case atStart => exact ⟨0, ⟨#[]⟩, [], none, 0, rfl, Nat.zero_le _, HNd0, WordsTo.start ws, HO4⟩
  case round =>
   clear HNd0 HO4
   obtain ⟨i, b, S, asv, csv, rfl, hi, HNd, HWt, HO⟩ := hrel
   by_cases ci : i < nw
   ·have ewi : IntKind.i64.wrap ((i : Int) + 1) = (i : Int) + 1 := by rw [IntKind.wrap_i64]; omega
    obtain ⟨x, hx⟩ : ∃ x, ws[i]? = some x := ⟨_, List.getElem?_eq_getElem (by rw [HNw.out]; exact ci)⟩
    have HX := Lib.hid hx
    by_cases c1 : i = 1
    ·subst c1
     obtain ⟨hn1, hn2, hn3⟩ := HNd.out.ver (b' := x)
     have HNd2 := Lib.hid hn1
     have HWt2 := Lib.hid (HWt.out.two hx)
     have q0 := HWs.out wr HO.out 1 x hx
     have HO2 : Hid (Only (fun _ => False) w3 (wr.setCell ⟨N, 1, none⟩ (.string x))) := HO.out.trans ((Only.refl (fun k => k = N) wr).setCell (p := ⟨N, 1, none⟩) (.inl rfl) _) fun k hk => .inr (by rw [hk, HNw3.out]; exact Nat.le_refl _)
     clear hn1 hx
     go_wp2_with fail
     go_roundw
     case rel => exact ⟨2, x, S, asv, csv, by first | rfl | go_num, by omega, HNd2, HWt2, HO2⟩
     case measure => simp [RowKit.intOf] <;> omega
    ·have c1' : ((i : Int) == 1) = false := by rw [beq_eq_false_iff_ne]; omega
     by_cases c2 : i < 2
     ·obtain rfl : i = 0 := by omega
      have HWt2 := Lib.hid HWt.out.one
      clear hx c1'
      go_wp2_with fail
      go_roundw
      case rel => exact ⟨1, b, S, asv, csv, by first | rfl | go_num, by omega, HNd, HWt2, HO⟩
      case measure => simp [RowKit.intOf] <;> omega
     ·have HAt := Lib.hid (At28_x (w := wr) x (HOk.out x (List.mem_of_getElem? hx)) 61)
      have q0 := HWs.out wr HO.out i x hx
      clear hx
      have hwu := HWt.out.len
      go_wp2_with fail
      refine HAt.out.mono ?_
      rintro e w6 ⟨r, rfl, hat, O6⟩
      have HO6 := Lib.hid (HO.out.same O6)
      have HNd6 := Lib.hid (HNd.out.only0 O6)
      have q0 := HWs.out w6 HO6.out i x HX.out
      unfold AtOf at hat
      clear HAt HNd HO
      cases hcut : cutAt 61 x.toList with
      | none =>
       rw [hcut] at hat
       simp only at hat
       subst hat
       have HW0 : Hid (withB (toG g) line.toList = none) := by
        show _ = _
        unfold withB
        have hn := WordsTo.bad (ws := ws) (by omega) HX.out hcut HCw.out
        rw [HRl.out] at hn
        rw [if_pos HQ1.out, hn]; rfl
       have HB6 := Lib.hid (HBlk.out w6 (HO1.out.same (HO3'.out.same HO6.out)))
       obtain ⟨bx0, bx1⟩ := HBox.out w6 (HO1.out.same (HO3'.out.same HO6.out))
       clear hcut O6
       go_wp2_with (refine wpList_store_row rfl 39 (.tmp 4) (.tmp 47) rfl (R + 1) #[.slice ao n cap] rfl rfl 39 #[.slice none 0 0] HB6.out.2 (by kernel_rfl) rfl (by first | kernel_rfl | rfl | simp [Value.oneCell']) ?_)
       refine with_fin (R := R + 1) (W := w6) HB6.out.2 rfl rfl rfl ?_
       exact WithEnd.no' HW0.out HRw.out (HO0.out.same (HO1.out.same (HO3'.out.same HO6.out)))
      | some p =>
       rw [hcut] at hat
       obtain ⟨k, rfl, hk, hp1, hp2⟩ := hat
       obtain ⟨nS, hnS⟩ : ∃ m, S.length = m := ⟨_, rfl⟩
       obtain ⟨x1, hx1⟩ : ∃ t, x.extract 0 k = t := ⟨_, rfl⟩
       obtain ⟨x2, hx2⟩ : ∃ t, x.extract (k + 1) x.size = t := ⟨_, rfl⟩
       have hxs : x.size ≤ 9223372036854775807 := by have := HOk.out x (List.mem_of_getElem? HX.out); unfold okS maxLen at this; omega
       have ewk : IntKind.i64.wrap ((k : Int) + 1) = (k : Int) + 1 := by rw [IntKind.wrap_i64]; omega
       have t0 : ((k : Int) < 0) = False := by simp
       have t1 : (k : Int) + 1 ≤ (x.size : Int) := by omega
       have t2 : (0 : Int) ≤ (k : Int) + 1 := by omega
       have t3 : (k : Int) ≤ (x.size : Int) := by omega
       have hok1 : okS x1 := by rw [← hx1]; exact okS_slice (HOk.out x (List.mem_of_getElem? HX.out)) _ _
       have hok2 : okS x2 := by rw [← hx2]; exact okS_slice (HOk.out x (List.mem_of_getElem? HX.out)) _ _
       have HWt2 : Hid (WordsTo ws (i + 1) b (S ++ [⟨x1, x2⟩])) := HWt.out.next (by omega) HX.out (by
        rw [hcut]
        show some p = some (x1.toList, x2.toList)
        rw [← hx1, ← hx2, ext_toList, ext_toList, Nat.sub_zero, List.drop_zero, hp1]
        have e : (x.toList.drop (k + 1)).take (x.size - (k + 1)) = x.toList.drop (k + 1) := List.take_of_length_le (by rw [List.length_drop, size_toList]; exact Nat.le_refl _)
        rw [e, hp2])
       have HSv : Hid (∀ W, Only (fun _ => False) w6 W → W.ownsRow 0 60 2 (.slice asv nS csv) nS (flatS S)) := fun W o => by
        have h := (HNd6.out.only0 o).own
        rw [hnS] at h; exact h
       have HK : Hid (∀ W, Only (fun _ => False) w6 W → W.cell? ⟨N, 2, none⟩ = some (.slice asv nS csv) ∧ W.cell? ⟨gw, i, none⟩ = some (.string x)) := fun W o => by
        have h := (HNd6.out.only0 o).blk
        rw [hnS] at h
        exact ⟨by rw [cell_block h]; rfl, HWs.out W (HO6.out.same o) i x HX.out⟩
       have HDone : Hid (∀ W v', W.ownsRow 0 60 2 v' (nS + 1) (flatS S ++ [.string x1, .string x2]) → Only (fun k => (Value.slice asv nS csv).ownBlock = some k) w6 W → (∀ k, v'.ownBlock = some k → (Value.slice asv nS csv).ownBlock = some k ∨ w6.heap.size ≤ k) →
         Hid (NodeAt N (W.setCell ⟨N, 2, none⟩ v') N a b v' (S ++ [⟨x1, x2⟩])) ∧ Hid (Only (fun _ => False) w3 (W.setCell ⟨N, 2, none⟩ v'))) := fun W v' r1 o r3 => by
        have hnd := HNd6.out
        rw [hnS] at hnd
        have hB : N ≤ w6.heap.size := by rw [← HNw3.out]; exact HO6.out.size
        obtain ⟨d1, d2, d3, d4⟩ := hnd.next (d := ⟨x1, x2⟩) (Nat.le_refl _) (by rw [hnS]; exact r1) o r3 ⟨hok1, hok2⟩ hB
        exact ⟨d1, HO6.out.trans d4 fun k hk => .inr (by rw [HNw3.out]; exact hk)⟩
       have HKB : Hid (∀ W, Only (fun k => (Value.slice asv nS csv).ownBlock = some k) w6 W → W.cell? ⟨N, 2, none⟩ = some (.slice asv nS csv) ∧ W.frozen? ⟨N, 2, none⟩ = false) := fun W o => by
        have hn := HNd6.out
        rw [hnS] at hn
        have bN : W.heap[N]? = _ := (o.block N (Array.getElem?_eq_some_iff.1 hn.blk).1 (fun e => own_blk (by decide) hn.own hn.blk e)).trans hn.blk
        exact ⟨by rw [cell_block bN]; rfl, frozen_block bN 2⟩
       have HKA : Hid (∀ W, Only (fun k => (Value.slice asv nS csv).ownBlock = some k) w6 W → W.cell? ⟨N, 2, none⟩ = some (.slice asv nS csv) ∧ W.cell? ⟨gw, i, none⟩ = some (.string x)) := fun W o => by
        have hn := HNd6.out
        rw [hnS] at hn
        refine ⟨(HKB.out W o).1, HWs.out W (HO6.out.trans o fun k hk => .inr ?_) i x HX.out⟩
        rw [HNw3.out]; exact hn.new k hk
       have hnS6 : nS ≤ 1000001 := by rw [← hnS]; omega
       have HNs := Lib.hid hnS
       have hS0 := HK.out w6.drew ((Only.refl _ _).drew)
       clear hcut hp1 hp2 hok1 hok2 O6 HNd6 HO6 hnS hwu
       go_wp2_with fail
       refine wp_region_G (n := 20) (E := fun j => j == 19) (S := fun W => W.cell? ⟨N, 2, none⟩ = some (.slice asv nS csv) ∧ W.cell? ⟨gw, i, none⟩ = some (.string x)) (by kernel_rfl) rfl hS0 (fun hHeld => ?_)
       refine tqW (i := 0) (v := ?_) rfl (.inr (by assumption)) ?_ ?_
       rotate_left
       ·(intro w; go_simp <;> (try with_reducible rfl))
       try simp only [Act.put, zq1, zq3, zq4, zq5, zq6]
       refine tqK (i := 1) (v := ?_) rfl ?_ ?_
       rotate_left
       ·(intro w hSw; (try dsimp only at hSw); go_simp <;> (try with_reducible rfl))
       try simp only [Act.put, zq1, zq2, zq3, zq4, zq5, zq6]
       refine tqW (i := 2) (v := ?_) rfl (.inr (by assumption)) ?_ ?_
       rotate_left
       ·(intro w; go_simp <;> (try with_reducible rfl))
       try simp only [Act.put, zq1, zq2, zq3, zq4, zq5, zq6]
       refine tqW (i := 3) (v := ?_) rfl (.inr (by assumption)) ?_ ?_
       rotate_left
       ·(intro w; go_simp <;> (try with_reducible rfl))
       try simp only [Act.put, zq1, zq2, zq3, zq4, zq5, zq6]
       refine tqW (i := 4) (v := ?_) rfl (.inr (by assumption)) ?_ ?_
       rotate_left
       ·(intro w; go_simp <;> (try with_reducible rfl))
       try simp only [Act.put, zq1, zq2, zq3, zq4, zq5, zq6]
       refine tqK (i := 5) (v := ?_) rfl ?_ ?_
       rotate_left
       ·(intro w hSw; (try dsimp only at hSw); go_simp <;> (try with_reducible rfl))
       try simp only [Act.put, zq1, zq2, zq3, zq4, zq5, zq6]
       refine tqW (i := 6) (v := ?_) rfl (.inr (by assumption)) ?_ ?_
       rotate_left
       ·(intro w; go_simp <;> (try with_reducible rfl))
       try simp only [Act.put, zq1, zq2, zq3, zq4, zq5, zq6]
       refine tqW (i := 7) (v := ?_) rfl (.inr (by assumption)) ?_ ?_
       rotate_left
       ·(intro w; go_simp <;> (try with_reducible rfl))
       try simp only [Act.put, zq1, zq2, zq3, zq4, zq5, zq6]
       refine tqW (i := 8) (v := ?_) rfl (.inr (by assumption)) ?_ ?_
       rotate_left
       ·(intro w; go_simp <;> (try with_reducible rfl))
       try simp only [Act.put, zq1, zq2, zq3, zq4, zq5, zq6]
       refine tqW (i := 9) (v := ?_) rfl (.inr (by assumption)) ?_ ?_
       rotate_left
       ·(intro w; go_simp <;> (try with_reducible rfl))
       try simp only [Act.put, zq1, zq2, zq3, zq4, zq5, zq6]
       refine tqW (i := 10) (v := ?_) rfl (.inr (by assumption)) ?_ ?_
       rotate_left
       ·(intro w; go_simp <;> (try with_reducible rfl))
       try simp only [Act.put, zq1, zq2, zq3, zq4, zq5, zq6]
       refine tqK (i := 11) (v := ?_) rfl ?_ ?_
       rotate_left
       ·(intro w hSw; (try dsimp only at hSw); go_simp <;> (try with_reducible rfl))
       try simp only [Act.put, zq1, zq2, zq3, zq4, zq5, zq6]
       refine tqW (i := 12) (v := ?_) rfl (.inr (by assumption)) ?_ ?_
       rotate_left
       ·(intro w; go_simp <;> (try with_reducible rfl))
       try simp only [Act.put, zq1, zq2, zq3, zq4, zq5, zq6]
       refine tqW (i := 13) (v := ?_) rfl (.inr (by assumption)) ?_ ?_
       rotate_left
       ·(intro w; go_simp <;> (try with_reducible rfl))
       try simp only [Act.put, zq1, zq2, zq3, zq4, zq5, zq6]
       refine tqW (i := 14) (v := ?_) rfl (.inr (by assumption)) ?_ ?_
       rotate_left
       ·(intro w; go_simp <;> (try with_reducible rfl))
       try simp only [Act.put, zq1, zq2, zq3, zq4, zq5, zq6]
       refine tqW (i := 15) (v := ?_) rfl (.inr (by assumption)) ?_ ?_
       rotate_left
       ·(intro w; go_simp <;> (try with_reducible rfl))
       try simp only [Act.put, zq1, zq2, zq3, zq4, zq5, zq6]
       refine wpAnyG_ready (rs := [16]) (by kernel_rfl) (by simp) ?_
       refine AllReadyG.cons (i := 16) rfl (fun K hK => ?_) ?_
       ·go_simp
        refine hK.out _ _ ?_ (fun hHeld => ?_)
        ·(try dsimp only) <;> (exact HK.out _ (by repeat (first | exact Only.refl _ _ | apply Only.drew | apply Only.alloc | apply Only.drewN)))
        clear hK K
        try simp only [Act.put, zq1, zq2, zq3, zq4, zq5, zq6]
        refine wpAnyG_ready (rs := [17]) (by kernel_rfl) (by simp) ?_
        refine AllReadyG.cons (i := 17) rfl (fun K hK => ?_) ?_
        ·(refine stepAN slSet (by rfl) (.tmp 49) (.tmp 64) (by rfl) (by rfl) (HSv.out _ (by repeat (first | exact Only.refl _ _ | apply Only.drew | apply Only.alloc | apply Only.drewN))) (by rfl) (news := [.string x1, .string x2]) (by rfl) (by intro h; cases h) (fun ad hd j u hu => by cases hd; exact cells_new (by exact heap_alloc_new _ _) hu) (by intro u hu; simp at hu; rcases hu with rfl | rfl <;> rfl) (by omega) (by decide) ?_; intro ao5 cap5 w10 r5 o5 nr5; have oA : Only (fun k => (Value.slice asv nS csv).ownBlock = some k) w6 w10 := Only.trans (by repeat (first | exact Only.refl _ _ | apply Only.drew | apply Only.alloc | apply Only.drewN)) o5 (fun k hk => .inl hk); have rA : ∀ k, (Value.slice ao5 (nS + 1) cap5).ownBlock = some k → (Value.slice asv nS csv).ownBlock = some k ∨ w6.heap.size ≤ k := fun k hk => by (rcases nr5 k hk with h | h; exact Or.inl h; exact Or.inr (by simp at h; omega)))
         refine hK.out _ _ ?_ (fun hHeld => ?_)
         ·(try dsimp only) <;> (exact HKA.out w10 oA)
         clear hK K
         try simp only [Act.put, zq1, zq2, zq3, zq4, zq5, zq6]
         refine tqW (i := 18) (v := ?_) rfl (.inr (by assumption)) ?_ ?_
         rotate_left
         ·(intro w; go_simp <;> (try with_reducible rfl))
         try simp only [Act.put, zq1, zq2, zq3, zq4, zq5, zq6]
         refine wpAnyG_ready (rs := [19]) (by kernel_rfl) (by simp) ?_
         refine AllReadyG.late (i := 19) rfl (by kernel_rfl) (fun K hK => ?_) ?_
         ·(have c10 := (HKB.out w10 oA).1; have f10 := (HKB.out w10 oA).2; go_simp)
          refine hK.out _ _ ?_
          clear hK K
          try simp only [Act.put, zq1, zq2, zq3, zq4, zq5, zq6]
          refine wpAnyG_done (by kernel_rfl) ?_ _
          have HFin := Lib.hid (HDone.out w10 _ r5 oA rA)
          clear r5 o5 nr5 oA rA
          go_wp2_with fail
          go_roundw
          case rel => exact ⟨i + 1, b, S ++ [⟨x1, x2⟩], ao5, cap5, by first | rfl | go_num, by omega, by rw [List.length_append, List.length_singleton, HNs.out]; exact HFin.out.1, HWt2, HFin.out.2⟩
          case measure => simp [RowKit.intOf] <;> omega
         exact AllReadyG.nil
        exact AllReadyG.nil
       exact AllReadyG.nil
   ·obtain rfl : i = nw := by omega
    obtain ⟨nS, hnS⟩ : ∃ m, S.length = m := ⟨_, rfl⟩
    have hnd := HNd.out
    rw [hnS] at hnd
    have q0 : wr.cell? ⟨N, 0, none⟩ = some (.string a) := by rw [cell_block hnd.blk]; rfl
    have q1 : wr.cell? ⟨N, 1, none⟩ = some (.string b) := by rw [cell_block hnd.blk]; rfl
    have q2 : wr.cell? ⟨N, 2, none⟩ = some (.slice asv nS csv) := by rw [cell_block hnd.blk]; rfl
    have q3 : wr.cell? ⟨N, 3, none⟩ = some (.slice none 0 0) := by rw [cell_block hnd.blk]; rfl
    have HNS := Lib.hid hnS
    have HNd2 := Lib.hid hnd
    have HOwA : Hid (∀ W, Only (fun _ => False) wr W → W.ownsRow 0 80 4 (.slice ao1 n cap1) n (flatN L)) := fun W o => by
     have h := (HCy3.out.only0 (HO.out.same o)).own
     rw [HLs.out.2] at h
     exact h
    have HOwr := Lib.hid (HOwA.out _ ((Only.refl (fun _ => False) wr).alloc (.cells #[.string a, .string b, .slice asv nS csv, .slice none 0 0] 80)))
    clear hnd hnS
    go_wp2_with (at_builtin; go_must (refine wpAN slNode rfl (.tmp 68) (.tmp 70) rfl rfl HOwr.out rfl (news := [.string a, .string b, .slice asv nS csv, .slice none 0 0]) rfl (by intro h; cases h) (fun ad hd j u hu => by cases hd; exact cells_new (by exact heap_alloc_new _ _) hu) (by intro u hu; simp at hu; rcases hu with rfl | rfl | rfl | rfl <;> rfl) (by omega) (by decide) ?_))
    intro ao5 cap5 w5 r1 r2 r3
    have O5 : Only (fun k => (Value.slice ao1 n cap1).ownBlock = some k) wr w5 := ((Only.refl (fun _ => False) wr).alloc _ |>.mono fun _ f => f.elim).same r2
    have HR1 := Lib.hid r1
    have HO5 := Lib.hid O5
    have HO5w : Hid (Only (fun _ => False) w w5) := (HO0.out.same (HO1.out.same (HO3'.out.same HO.out))).trans O5 fun k hk => .inr (by rw [HRw.out]; exact HCy3.out.new k hk)
    have hb5 : w5.heap[R + 1]? = some (.cells #[.slice none 0 0] 39 (0, 0)) := by
     have hb := (HBlk.out wr (HO1.out.same (HO3'.out.same HO.out))).2
     exact (O5.block _ (Array.getElem?_eq_some_iff.1 hb).1 (fun e => own_blk (by decide) (HOwA.out wr (Only.refl _ _)) hb e)).trans hb
    have HB5 := Lib.hid hb5
    clear r1 r2 r3 O5 hb5 q0 q1 q2 q3 HOwr
    by_cases cn : 1 < i
    ·have t1 : decide ((1 : Int) < (i : Int)) = true := decide_eq_true (by omega)
     have hW : withB (toG g) line.toList = some (toG ((L ++ [(⟨⟨a, b, S, []⟩, .slice asv nS csv, .slice none 0 0⟩ : LN)]).map LN.x)) := by
      unfold withB
      have hf := HWt.out
      have hn := WordsTo.fin (ws := ws) (a := a) (b := b) (S := S) (by rw [HNw.out]; exact hf) HA.out (by rw [HNw.out]; omega) HCw.out
      rw [HRl.out] at hn
      rw [if_pos HQ1.out, hn, Option.map_some, ← HLs.out.1]
      simp [toG]
     have HW := Lib.hid hW
     clear hW
     go_wp2_with (refine wpList_store_row rfl 39 (.tmp 4) (.tmp 72) rfl (R + 1) #[.slice ao5 (n + 1) cap5] rfl rfl 39 #[.slice none 0 0] HB5.out (by kernel_rfl) rfl (by first | kernel_rfl | rfl | simp [Value.oneCell']) ?_)
     refine with_fin (R := R + 1) (W := w5) HB5.out rfl rfl rfl ?_
     refine WithEnd.yes (L0 := L) (x := ⟨⟨a, b, S, []⟩, .slice asv nS csv, .slice none 0 0⟩) HRw.out HO5w.out HB5.out (by rw [flatN_snoc]; exact HR1.out) (by rw [List.length_append, HLs.out.2]; rfl) (fun W6 o6 y hy => ?_) HW.out
     rcases List.mem_append.1 hy with hy | hy
     ·exact HEach.out W6 ((HO5w.out.mono fun _ f => f.elim).trans o6 fun k hk => .inl (by omega)) y hy
     ·rw [List.mem_singleton.1 hy]
      have hs5 := own_only (HNd2.out.own) HO5.out (fun k hk e => own_ty (by decide) HNd2.out.own (HOwA.out wr (Only.refl _ _)) hk e)
      have hs6 := own_only hs5 o6 (fun k hk e => by
       have h1 := HNd2.out.new k hk
       have h2 := HO0.out.same (HO1.out.same HO3'.out)
       have h3 := h2.size
       have h4 := HNw3.out
       have h5 := HS0.out
       have h6 := (HO1.out.same HO3'.out).size
       omega)
      have hns := HNS.out
      exact ⟨HOk.out a (List.mem_of_getElem? HA.out), HOk.out b (List.mem_of_getElem? (HWt.out.hi (by omega)).1), by rw [← hns] at hs6 ⊢; exact hs6, World.ownsRow_nil _ _ _ _, HNd2.out.oks, (fun _ h => by cases h), fun _ _ => Nat.zero_le _, fun _ _ => Nat.zero_le _⟩
    ·have t1 : decide ((1 : Int) < (i : Int)) = false := decide_eq_false (by omega)
     have hW : withB (toG g) line.toList = none := by
      unfold withB
      have hn := WordsTo.short (ws := ws) (by rw [HNw.out]; omega) HCw.out
      rw [HRl.out] at hn
      rw [if_pos HQ1.out, hn]; rfl
     have HW := Lib.hid hW
     clear hW
     go_wp2_with (refine wpList_store_row rfl 39 (.tmp 4) (.tmp 72) rfl (R + 1) #[.slice ao5 (n + 1) cap5] rfl rfl 39 #[.slice none 0 0] HB5.out (by kernel_rfl) rfl (by first | kernel_rfl | rfl | simp [Value.oneCell']) ?_)
     refine with_fin (R := R + 1) (W := w5) HB5.out rfl rfl rfl ?_
     exact WithEnd.no' HW.out HRw.out HO5w.out
 | false =>
  obtain ⟨q2, hq2⟩ : ∃ q, needP.isPrefixOf line.toList = q := ⟨_, rfl⟩
  have HP2 : Hid (∀ W, Calls Tryd.prog 63 #[.string line, .string ⟨#[32, 32, 110, 101, 101, 100, 115, 32]⟩] W (fun e w' => e = .returned (.bool q2) ∧ w' = W)) := fun W => RPrefix_x line ⟨#[32, 32, 110, 101, 101, 100, 115, 32]⟩ (by have := HSz.out; unfold okS maxLen; omega) (by decide) q2 (by rw [needP_txt]; exact hq2)
  have HQ2 := Lib.hid hq2
  have hW1 : withB (toG g) line.toList = if q2 = true then ((toG g).getLast?).map fun n => (toG g).dropLast ++ [{ n with needs := n.needs ++ [line.toList.drop 8] }] else none := by
   unfold withB
   rw [if_neg (by rw [HQ1.out]; decide), hq2]
  have HW1 := Lib.hid hW1
  have HB2 := Lib.hid (HBlk.out w2 HO1.out)
  obtain ⟨bx0, bx1⟩ := HBox.out w2 HO1.out
  clear hq2 hW1 HP1
  go_wp2_with fail
  refine (HP2.out _).mono ?_
  rintro e w3 ⟨rfl, rfl⟩
  cases q2 with
  | false =>
   have HW : Hid (withB (toG g) line.toList = none) := by rw [Hid, HW1.out, if_neg (by decide)]
   go_wp2_with (refine wpList_store_row rfl 39 (.tmp 4) (.tmp 84) rfl (R + 1) #[.slice ao n cap] rfl rfl 39 #[.slice none 0 0] HB2.out.2 (by kernel_rfl) rfl (by first | kernel_rfl | rfl | simp [Value.oneCell']) ?_)
   refine with_fin (R := R + 1) HB2.out.2 rfl rfl rfl ?_
   exact WithEnd.no' HW.out HRw.out (HO0.out.same HO1.out)
  | true =>
   rcases snoc_cases L with hLe | ⟨L0, m, hLe⟩
   ·obtain rfl : n = 0 := by rw [← HLs.out.2, hLe]; rfl
    have HW : Hid (withB (toG g) line.toList = none) := by
     have hg : g = [] := by rw [← HLs.out.1, hLe]; rfl
     rw [Hid, HW1.out, if_pos rfl, hg]; rfl
    clear hLe
    go_wp2_with (refine wpList_store_row rfl 39 (.tmp 4) (.tmp 84) rfl (R + 1) #[.slice ao 0 cap] rfl rfl 39 #[.slice none 0 0] HB2.out.2 (by kernel_rfl) rfl (by first | kernel_rfl | rfl | simp [Value.oneCell']) ?_)
    refine with_fin (R := R + 1) HB2.out.2 rfl rfl rfl ?_
    exact WithEnd.no' HW.out HRw.out (HO0.out.same HO1.out)
   ·subst hLe
    obtain ⟨n0, hn0⟩ : ∃ n0, L0.length = n0 := ⟨_, rfl⟩
    have hnn : n = n0 + 1 := by rw [← HLs.out.2, List.length_append, hn0]; rfl
    subst hnn
    have hcy := HCy.out
    have hown := hcy.own
    rw [HLs.out.2] at hown
    obtain ⟨gl, cl, he1, -, -⟩ := own_some hown (by omega)
    cases he1
    have hwo : Only (fun k => R ≤ k) w w3 := (HO0.out.same HO1.out).mono fun _ f => f.elim
    have hm : NodC w3.heap.size w3 m.cells m.x := (HEach.out w3 hwo m (by simp)).read
    obtain ⟨mx, mv1, mv2⟩ := m
    obtain ⟨xn, xv, xs, xd⟩ := mx
    obtain ⟨v1, v2, hce, ko1, ko2, rw1, rw2⟩ := hm
    simp only [LN.cells, List.cons.injEq, and_true, true_and] at hce
    obtain ⟨rfl, rfl⟩ := hce
    dsimp only at ko1 ko2 rw1 rw2
    obtain ⟨as1, cs1, rfl, -, -⟩ := rw1.shape
    obtain ⟨as2, cs2, rfl, hd1, hd2⟩ := rw2.shape
    obtain ⟨ns, hns⟩ : ∃ k, xs.length = k := ⟨_, rfl⟩
    obtain ⟨nd, hnd⟩ : ∃ k, xd.length = k := ⟨_, rfl⟩
    have hnd6 : nd ≤ 100000 := by
     have h := HNds.out ⟨xn, xv, xs, xd⟩ (by rw [← HLs.out.1]; simp)
     rw [← hnd]; exact h
    have h8 : 8 ≤ line.size := by
     have h := Lk.of_pre HQ2.out
     have h2 := congrArg List.length h
     rw [size_toList, List.length_append] at h2
     simp only [needP, List.length_cons, List.length_nil] at h2
     omega
    have h8' : (8 : Int) ≤ (line.size : Int) := by omega
    obtain ⟨rest, hrest⟩ : ∃ t, line.extract 8 line.size = t := ⟨_, rfl⟩
    have hrl : rest.toList = line.toList.drop 8 := by
     rw [← hrest, ext_toList]
     exact List.take_of_length_le (by rw [List.length_drop, size_toList]; omega)
    have hrk : okS rest := by rw [← hrest]; exact okS_slice (by have := HSz.out; unfold okS maxLen; omega) _ _
    obtain ⟨M', hM'⟩ : ∃ M' : Value → LN, M' = fun v => ⟨⟨xn, xv, xs, xd ++ [rest]⟩, .slice as1 ns cs1, v⟩ := ⟨_, rfl⟩
    have hW : ∀ v, withB (toG g) line.toList = some (toG ((L0 ++ [M' v]).map LN.x)) := fun v => by
     rw [HW1.out, if_pos rfl, ← HLs.out.1]
     subst hM'
     simp [toG, NodeD.toB, hrl]
    have HW := Lib.hid hW
    rw [hns] at rw1 hown hcy
    rw [hnd] at rw2 hown hcy hd1
    obtain ⟨-, hth, hrg⟩ := own_lastN hown hn0 (M' undef)
    have hrg2 : w3.rangeAt gl (n0 * 4) [.string xn, .string xv, .slice as1 ns cs1, .slice as2 nd cs2] := hrg
    obtain ⟨N, hN⟩ : ∃ N, w3.heap.size = N := ⟨_, rfl⟩
    obtain ⟨w4, hw4⟩ : ∃ W, w3.alloc (.cells #[.string xn, .string xv, .slice as1 ns cs1, .slice as2 nd cs2] 80) = W := ⟨_, rfl⟩
    have hb4 : w4.heap[N]? = some (.cells #[.string xn, .string xv, .slice as1 ns cs1, .slice as2 nd cs2] 80 (0, 0)) := by rw [← hw4, ← hN]; exact heap_alloc_new _ _
    have o4 : Only (fun _ => False) w3 w4 := by rw [← hw4]; exact (Only.refl _ _).alloc _
    have hs4 : w4.heap.size = N + 1 := by rw [← hw4, ← hN]; exact Array.size_push _
    have HN4 : Hid (∀ W, Only (fun _ => False) w4 W → W.heap[N]? = some (.cells #[.string xn, .string xv, .slice as1 ns cs1, .slice as2 nd cs2] 80 (0, 0))) := fun W o => only_block hb4 o (fun f => f)
    have hnews : ∀ W, Only (fun _ => False) w4 W → ∀ ad, as2 = some ad → ∀ j u, (strs9 xd)[j]? = some u → W.cell? (ad.add j) = some u := fun W o ad had j u hu => by
     have hj := (List.getElem?_eq_some_iff.1 hu).1
     have hj2 : j < xd.length := by simpa [strs9] using hj
     have r := rw2.keep StrC.keep (Kp.of0 (o4.same o))
     rw [← hnd] at r
     obtain ⟨b, off, rfl, -, hE⟩ := StrC_at r (List.getElem?_eq_getElem hj2)
     have h := (hE W (Only.refl _ _)).1 0 _ rfl
     cases had
     rw [Nat.add_zero, Nat.mul_one] at h
     rw [Go.WideShapes.add_plain, h, ← hu]
     unfold strs9
     rw [List.getElem?_map, List.getElem?_eq_getElem hj2]; rfl
    have HNews2 := Lib.hid (hnews _ ((Only.refl (fun _ => False) w4).alloc (.cells #[] 9)))
    have HNone2 : Hid (as2 = none → nd = 0 ∧ cs2 = 0) := fun h => by
     have := rw2.nil nd cs2 (by rw [h])
     exact this
    have HFl2 : Hid ((strs9 xd).length = nd * 1) := by show _ = _; rw [Nat.mul_one, ← hnd]; simp [strs9]
    have HOne2 : Hid (∀ u ∈ strs9 xd, u.oneCell' = true) := fun u hu => by
     obtain ⟨s, -, rfl⟩ := List.mem_map.1 hu; rfl
    have HEmp2 : Hid ((w4.alloc (.cells #[] 9)).ownsRow 0 9 1 (.slice (some ⟨N + 1, 0, none⟩) 0 0) 0 []) := by rw [← hs4]; exact own_litS w4
    have b4 := HN4.out _ ((Only.refl (fun _ => False) w4).alloc (.cells #[] 9))
    have q3 : (w4.alloc (.cells #[] 9)).cell? ⟨N, 3, none⟩ = some (.slice as2 nd cs2) := by rw [cell_block b4]; rfl
    have e1 : IntKind.i64.wrap ((n0 : Int) + 1 - 1) = (n0 : Int) := by rw [IntKind.wrap_i64]; omega
    have e2 : IntKind.i64.wrap (n0 : Int) = (n0 : Int) := by rw [IntKind.wrap_i64]; omega
    have HRg := Lib.hid hrg2
    clear hown hcy hth hrg hrg2 b4 hnews hW
    go_wp2_with (first | (refine wpList_load_mid rfl 80 (.tmp 89) rfl gl (n0 * 4) rfl [.string xn, .string xv, .slice as1 ns cs1, .slice as2 nd cs2] _ HRg.out Tryd.underlying80 rfl (by kernel_rfl) ?_) | (at_builtin; go_must (refine wpAN slStr9 rfl (.tmp 92) (.tmp 94) rfl rfl HEmp2.out rfl HFl2.out HNone2.out HNews2.out HOne2.out (by omega) (by decide) ?_)))
    intro ao6 cap6 w6 r1 r2 r3
    have O6 : Only (fun _ => False) w4 w6 := ((Only.refl (fun _ => False) w4).alloc _).trans r2 fun k hk => .inr (by simp [Value.ownBlock] at hk; omega)
    have hnew6 : ∀ k, (Value.slice ao6 nd cap6).ownBlock = some k → N + 1 ≤ k := fun k hk => by
     rcases r3 k hk with h | h
     ·simp [Value.ownBlock] at h; omega
     ·simp at h; omega
    have HNew6 := Lib.hid hnew6
    have HO6 := Lib.hid O6
    have HR6 := Lib.hid r1
    have HR7 := Lib.hid (own_only r1 ((Only.refl (fun _ => False) w6).alloc (.cells #[.string rest] 9)) (fun _ _ f => f))
    clear r1 r2 r3 O6 hnew6 q3 HEmp2 HNews2
    go_wp2_with (at_builtin; go_must (refine wpA1 (u := .string rest) slStr9 rfl (.tmp 96) (.tmp 99) rfl rfl rfl (cell_new0 _ _ _) rfl HR7.out (by omega) (by decide) ?_))
    intro v8 w8 r1 r2 r3
    obtain ⟨g8, cap8, hv8, -, -, r3⟩ := r3
    subst hv8
    have O8 : Only (fun _ => False) w4 w8 := (HO6.out.alloc _).trans r2 fun k hk => .inr (by rw [hs4]; exact HNew6.out k hk)
    have hg8 : N + 1 ≤ g8 := by
     rcases r3 with h | h
     ·exact HNew6.out g8 h
     ·have := HO6.out.size
      simp at h; omega
    have b8 := HN4.out w8 O8
    have q8 : w8.cell? ⟨N, 3, none⟩ = some (.slice as2 nd cs2) := by rw [cell_block b8]; rfl
    have f8 : w8.frozen? ⟨N, 3, none⟩ = false := frozen_block b8 3
    obtain ⟨w9, hw9⟩ : ∃ W, w8.setCell ⟨N, 3, none⟩ (.slice (some ⟨g8, 0, none⟩) (nd + 1) cap8) = W := ⟨_, rfl⟩
    have oS9 : Only (fun k => k = N) w8 w9 := by rw [← hw9]; exact (Only.refl (fun k => k = N) w8).setCell (p := ⟨N, 3, none⟩) (.inl rfl) _
    have b9 : w9.heap[N]? = some (.cells #[.string xn, .string xv, .slice as1 ns cs1, .slice (some ⟨g8, 0, none⟩) (nd + 1) cap8] 80 (0, 0)) := by rw [← hw9]; exact heap_setCell_same w8 N 3 _ 80 _ b8
    have own9 := own_only r1 oS9 (fun k hk e => own_blk (by decide) r1 b8 (e ▸ hk))
    have O9 : Only (fun _ => False) w3 w9 := (o4.same O8).trans oS9 fun k hk => .inr (by omega)
    have hcy9 := HCy.out.only0 O9
    have hl9 := hcy9.own
    rw [HLs.out.2, hns, hnd] at hl9
    have hM : ∀ v, (M' v).cells = [.string xn, .string xv, .slice as1 ns cs1, v] := fun v => by subst hM'; rfl
    obtain ⟨own10, hth, -⟩ := own_lastN hl9 hn0 (M' (.slice (some ⟨g8, 0, none⟩) (nd + 1) cap8))
    rw [hM] at own10
    obtain ⟨w10, hw10⟩ : ∃ W, w9.setCells gl (n0 * 4) [.string xn, .string xv, .slice as1 ns cs1, .slice (some ⟨g8, 0, none⟩) (nd + 1) cap8] = W := ⟨_, rfl⟩
    have oS10 : Only (fun k => k = gl) w9 w10 := by rw [← hw10]; exact only_setCellsK gl _ w9 _
    have hgl : R ≤ gl := HCy.out.new gl rfl
    rw [hw10] at own10
    have own11 := own_only own9 oS10 (fun k hk e => own_ty (by decide) own9 hl9 (k := k) hk (by rw [e]; rfl))
    have hbR3 := (HBlk.out w3 HO1.out).2
    have hbR9 : w9.heap[R + 1]? = some (.cells #[.slice none 0 0] 39 (0, 0)) := only_block hbR3 O9 (fun f => f)
    have hbR : w10.heap[R + 1]? = some (.cells #[.slice none 0 0] 39 (0, 0)) := (oS10.block _ (Array.getElem?_eq_some_iff.1 hbR9).1 (fun e => own_blk (by decide) hl9 hbR9 (by rw [e]; rfl))).trans hbR9
    have o310 : Only (fun k => R ≤ k) w3 w10 := (O9.mono fun _ f => f.elim).trans oS10 fun k hk => .inl (by omega)
    have ow10 : Only (fun _ => False) w w10 := (HO0.out.same (HO1.out.same O9)).trans oS10 fun k hk => .inr (by rw [HRw.out, hk]; exact hgl)
    have HFin : Hid (WithEnd (withB (toG g) line.toList) w (w10.setRow (R + 1) #[.slice (some ⟨gl, 0, none⟩) (n0 + 1) cap1]) (.returned (.tuple #[.agg #[.slice (some ⟨gl, 0, none⟩) (n0 + 1) cap1], .bool true]))) := by
     refine WithEnd.yes (L0 := L0) (x := M' (.slice (some ⟨g8, 0, none⟩) (nd + 1) cap8)) HRw.out ow10 hbR own10 (by rw [List.length_append, hn0]; rfl) (fun W6 o6 y hy => ?_) (HW.out _)
     have oW : Only (fun k => R ≤ k) w W6 := (ow10.mono fun _ f => f.elim).trans o6 fun k hk => .inl (by omega)
     rcases List.mem_append.1 hy with hy | hy
     ·exact HEach.out W6 oW y (List.mem_append_left _ hy)
     ·rw [List.mem_singleton.1 hy]
      have own6 := own_only own11 o6 (fun k hk e => own_blk (by decide) own11 hbR (e ▸ hk))
      have ho := HEach.out W6 oW ⟨⟨xn, xv, xs, xd⟩, .slice as1 xs.length cs1, .slice as2 xd.length cs2⟩ (by simp)
      have hse := ho.sets
      subst hM'
      refine ⟨ko1, ko2, ?_, ?_, ho.k3, fun s hs => ?_, fun _ _ => Nat.zero_le _, fun _ _ => Nat.zero_le _⟩
      ·show W6.ownsRow 0 _ 2 (.slice as1 ns cs1) xs.length (flatS xs)
       change W6.ownsRow 0 _ 2 (.slice as1 xs.length cs1) xs.length (flatS xs) at hse
       rw [hns] at hse ⊢
       exact hse
      ·show W6.ownsRow 0 _ 1 (.slice (some ⟨g8, 0, none⟩) (nd + 1) cap8) (xd ++ [rest]).length (strs9 (xd ++ [rest]))
       rw [List.length_append, hnd]
       simpa [strs9] using own6
      ·have hs' : s ∈ xd ++ [rest] := hs
       rcases List.mem_append.1 hs' with h | h
       ·exact ho.k4 s h
       ·rw [List.mem_singleton.1 h]; exact hrk
    have HbR := Lib.hid hbR
    have HTh : Hid (w9.there gl (n0 * 4) 4) := hth
    have c0 : w9.cell? ⟨N, 0, none⟩ = some (.string xn) := by rw [cell_block b9]; rfl
    have c1 : w9.cell? ⟨N, 1, none⟩ = some (.string xv) := by rw [cell_block b9]; rfl
    have c2 : w9.cell? ⟨N, 2, none⟩ = some (.slice as1 ns cs1) := by rw [cell_block b9]; rfl
    have c3 : w9.cell? ⟨N, 3, none⟩ = some (.slice (some ⟨g8, 0, none⟩) (nd + 1) cap8) := by rw [cell_block b9]; rfl
    clear r1 r2 r3 O8 b8 oS9 b9 own9 O9 hcy9 hl9 own10 hth oS10 own11 hbR3 hbR9 hbR o310 ow10 rw1 rw2 HR7
    have ti : (Tryd.prog.info? 80).map (·.size) = some 4 := by kernel_rfl
    have tc : (#[.string xn, .string xv, .slice as1 ns cs1, .slice (some ⟨g8, 0, none⟩) (nd + 1) cap8] : Array Value).all (·.oneCell') = true := by simp [Value.oneCell']
    have HTi := Lib.hid ti
    have HTc := Lib.hid tc
    clear ti tc
    go_wp2_with (first | (refine wpList_store_mid (cells := #[.string xn, .string xv, .slice as1 ns cs1, .slice (some ⟨g8, 0, none⟩) (nd + 1) cap8]) rfl 80 (.tmp 107) (.tmp 106) rfl gl (n0 * 4) rfl rfl HTh.out HTi.out HTc.out ?_) | (refine wpList_store_row rfl 39 (.tmp 4) (.tmp 109) rfl (R + 1) #[.slice (some ⟨gl, 0, none⟩) (n0 + 1) cap1] rfl rfl 39 #[.slice none 0 0] HbR.out (by kernel_rfl) rfl (by first | kernel_rfl | rfl | simp [Value.oneCell']) ?_))
    refine with_fin (R := R + 1) HbR.out rfl rfl rfl ?_
    exact HFin.out
end
end Go.Proofs.YtmlfchjompfmaaaDoor
