/- lock.reads: a node's line. Printed by gen_lkw6.py. -/
import Derived.Test.YtmlfchjompfmaaaDoorLkW5
import Derived.Test.YtmlfchjompfmaaaDoorRegs
set_option linter.unusedVariables false
namespace Go.Proofs.YtmlfchjompfmaaaDoor
open Go.RowKit
open Lk (nameB valueB readsP setsP lastB lastLt okSet cutAt)
section
variable {w w' : World} {B : Nat}
theorem setsP_cons (x : List UInt8) (l : List (List UInt8)) : setsP (x :: l) = match cutAt 61 x with
  | none => none
  | some p => if okSet p = true then (setsP l).map fun l => p :: l else none := rfl
theorem setsP_append : ∀ (l m : List (List UInt8)), setsP (l ++ m) = (setsP l).bind fun s => (setsP m).map fun t => s ++ t
 | [], m => by simp [setsP]
 | x :: l, m => by
  have ih := setsP_append l m
  rw [List.cons_append, setsP_cons, setsP_cons, ih]
  cases cutAt 61 x with
  | none => rfl
  | some p =>
   simp only
   by_cases h : okSet p = true
   ·rw [if_pos h, if_pos h]
    cases setsP l with
    | none => rfl
    | some s => cases setsP m <;> rfl
   ·rw [if_neg h, if_neg h]; rfl
theorem setsP_one {s : Str} {d : SetD} {ok : Bool} (h : SetOf s.toList d ok) : setsP [s.toList] = if ok = true then some [d.toB] else none := by
 unfold SetOf at h
 unfold setsP
 cases hc : cutAt 61 s.toList with
 | none => rw [hc] at h; simp only at h; rw [h]; rfl
 | some p =>
  rw [hc] at h
  simp only at h
  obtain ⟨h1, h2⟩ := h
  simp only
  rw [← h1, h2]
  by_cases q : ok = true
  ·rw [if_pos q, if_pos q]; rfl
  ·rw [if_neg q, if_neg q]
theorem setsP_next {r : List Str} {i : Nat} {x : Str} {S : List SetD} {d : SetD} (hx : r[i]? = some x) (h : setsP ((r.take i).map ByteArray.toList) = some (S.map SetD.toB)) (hd : SetOf x.toList d true) : setsP ((r.take (i + 1)).map ByteArray.toList) = some ((S ++ [d]).map SetD.toB) := by
 have e : r.take (i + 1) = r.take i ++ [x] := by rw [List.take_add_one, hx]; rfl
 rw [e, List.map_append, setsP_append, h, List.map_singleton, setsP_one hd]
 simp
theorem setsP_bad {r : List Str} {i : Nat} {x : Str} {d : SetD} (hx : r[i]? = some x) (hd : SetOf x.toList d false) : setsP (r.map ByteArray.toList) = none := by
 have e : r = r.take i ++ x :: r.drop (i + 1) := by
  obtain ⟨hi, he⟩ := List.getElem?_eq_some_iff.1 hx
  exact (List.take_append_drop i r).symm.trans (by rw [List.drop_eq_getElem_cons hi, he])
 have e2 : setsP (x.toList :: (r.drop (i + 1)).map ByteArray.toList) = none := by
  have := setsP_append [x.toList] ((r.drop (i + 1)).map ByteArray.toList)
  rw [setsP_one hd] at this
  exact this
 rw [e, List.map_append, List.map_cons, setsP_append, e2]
 cases setsP (List.map ByteArray.toList (List.take i r)) <;> rfl
theorem reads_short {G : List Lk.NB} {l : List UInt8} (h : (cutB 32 l).length < 2) : readsP G l = none := by
 unfold readsP
 cases hc : cutB 32 l with
 | nil => rfl
 | cons a r => cases r with
  | nil => rfl
  | cons b r => rw [hc] at h; simp at h; omega
theorem reads_at {G : List Lk.NB} {s a b : Str} {r : List Str} (h : (a :: b :: r).map ByteArray.toList = cutB 32 s.toList) : readsP G s.toList = if r.length ≤ 4 ∧ G.length ≠ 24 ∧ nameB a.toList = true ∧ mayB b.toList = true ∧ lastLt G a.toList = true then (setsP (r.map ByteArray.toList)).map fun t => G ++ [⟨a.toList, b.toList, t, []⟩] else none := by
 unfold readsP
 rw [← h]
 simp only [List.map_cons, List.length_map]
theorem lastLt_last {L : List LN} {m : LN} {a : List UInt8} : lastLt (toG ((L ++ [m]).map LN.x)) a = decide (m.x.name.toList < a) := by
 unfold lastLt lastB
 rw [List.getLast?_map, toG_last, List.getLast?_concat]; rfl
theorem slSet : SlT Tryd.prog 56 60 2 32 := SlT.mk' (z := .agg #[.string .empty, .string .empty]) Tryd.underlying56 (by kernel_rfl) rfl (by decide)
theorem slNode : SlT Tryd.prog 37 80 4 80 := SlT.mk' (z := .agg #[.string .empty, .string .empty, .slice none 0 0, .slice none 0 0]) Tryd.underlying37 (by kernel_rfl) rfl (by decide)
structure NodeAt (B : Nat) (w : World) (N : Nat) (a b : Str) (sv : Value) (S : List SetD) : Prop where
 blk : w.heap[N]? = some (.cells #[.string a, .string b, sv, .slice none 0 0] 80 (0, 0))
 own : w.ownsRow 0 60 2 sv S.length (flatS S)
 oks : ∀ s ∈ S, okS s.name ∧ okS s.value
 new : ∀ k, sv.ownBlock = some k → B ≤ k
theorem NodeAt.only0 {N : Nat} {a b : Str} {sv : Value} {S : List SetD} (h : NodeAt B w N a b sv S) (ho : Only (fun _ => False) w w') : NodeAt B w' N a b sv S :=
 ⟨(ho.block N (Array.getElem?_eq_some_iff.1 h.blk).1 (fun f => f)).trans h.blk, own_only h.own ho (fun _ _ f => f), h.oks, h.new⟩
theorem NodeAt.next {w10 : World} {N : Nat} {a b : Str} {sv v' : Value} {S : List SetD} {d : SetD} (h : NodeAt B w N a b sv S) (hN : B ≤ N) (r1 : w10.ownsRow 0 60 2 v' (S.length + 1) (flatS S ++ [.string d.name, .string d.value])) (o : Only (fun k => sv.ownBlock = some k) w w10) (r3 : ∀ k, v'.ownBlock = some k → sv.ownBlock = some k ∨ w.heap.size ≤ k) (hd : okS d.name ∧ okS d.value) (hB : B ≤ w.heap.size) :
  NodeAt B (w10.setCell ⟨N, 2, none⟩ v') N a b v' (S ++ [d]) ∧ w10.cell? ⟨N, 2, none⟩ = some sv ∧ w10.frozen? ⟨N, 2, none⟩ = false ∧ Only (fun k => B ≤ k) w (w10.setCell ⟨N, 2, none⟩ v') := by
 have b10 : w10.heap[N]? = some (.cells #[.string a, .string b, sv, .slice none 0 0] 80 (0, 0)) := (o.block N (Array.getElem?_eq_some_iff.1 h.blk).1 (fun e => own_blk (by decide) h.own h.blk e)).trans h.blk
 have oS : Only (fun k => k = N) w10 (w10.setCell ⟨N, 2, none⟩ v') := (Only.refl (fun k => k = N) w10).setCell (p := ⟨N, 2, none⟩) (.inl rfl) _
 refine ⟨⟨heap_setCell_same w10 N 2 _ 80 v' b10, ?_, fun s hs => ?_, fun k hk => ?_⟩, by rw [cell_block b10]; rfl, by simp [World.frozen?, b10], (o.mono fun k hk => h.new k hk).trans oS fun k hk => .inl (by rw [hk]; exact hN)⟩
 ·rw [List.length_append, List.length_singleton, flatS_snoc]
  exact own_only r1 oS (fun k hk e => own_blk (by decide) r1 b10 (e ▸ hk))
 ·rcases List.mem_append.1 hs with q | q
  ·exact h.oks s q
  ·rw [List.mem_singleton.1 q]; exact hd
 ·rcases r3 k hk with q | q
  ·exact h.new k q
  ·omega
theorem cells_new {g : Nat} {l : List Value} {t : TypeId} (h : w.heap[g]? = some (.cells l.toArray t (0, 0))) {j : Nat} {u : Value} (hu : l[j]? = some u) : w.cell? ((⟨g, 0, none⟩ : Addr).add j) = some u := by
 rw [Go.WideShapes.add_plain, Nat.zero_add, cell_block h]
 simpa using hu
theorem frozen_block {g : Nat} {c : Array Value} {t : TypeId} (h : w.heap[g]? = some (.cells c t (0, 0))) (i : Nat) : w.frozen? ⟨g, i, none⟩ = false := by simp [World.frozen?, h]
theorem reads_done {w9 w10 : World} {P N : Nat} {rv rv' sv : Value} {L : List LN} {a b : Str} {S : List SetD} {G : Option (List Lk.NB)} (hb : w.heap[P]? = some (.cells #[rv] 39 (0, 0))) (o9 : Only (fun _ => False) w w9) (hr : RowN B w rv L) (hB : B ≤ w.heap.size) (hn : NodeAt B w9 N a b sv S) (hka : okS a) (hkb : okS b)
  (r1 : w10.ownsRow 0 80 4 rv' (L.length + 1) (flatN L ++ [.string a, .string b, sv, .slice none 0 0])) (o10 : Only (fun k => rv.ownBlock = some k) w9 w10) (r3 : ∀ k, rv'.ownBlock = some k → rv.ownBlock = some k ∨ w9.heap.size ≤ k)
  (hG : G = some (toG (L.map LN.x) ++ [⟨a.toList, b.toList, S.map SetD.toB, []⟩])) : OneEnd B P G L w (w10.setCell ⟨P, 0, none⟩ rv') (.returned (.bool true)) := by
 have hr9 := hr.only0 o9
 have hB9 : B ≤ w9.heap.size := Nat.le_trans hB o9.size
 have hown : OwnN B w9 ⟨⟨a, b, S, []⟩, sv, .slice none 0 0⟩ := ⟨hka, hkb, hn.own, World.ownsRow_nil _ _ _ _, hn.oks, (fun _ h => by cases h), hn.new, (fun k hk => by simp [Value.ownBlock] at hk)⟩
 have hs := hr9.snoc hown (fun m _ k _ => by simp [Value.ownBlock]) r1 o10 r3 hB9
 have b9 : w9.heap[P]? = some (.cells #[rv] 39 (0, 0)) := (o9.block P (Array.getElem?_eq_some_iff.1 hb).1 (fun f => f)).trans hb
 have b10 : w10.heap[P]? = some (.cells #[rv] 39 (0, 0)) := (o10.block P (Array.getElem?_eq_some_iff.1 b9).1 (fun e => own_blk (by decide) hr9.own b9 e)).trans b9
 have fr := hs.free b10 (by decide) (by decide) (by decide)
 have oS : Only (fun k => k = P) w10 (w10.setCell ⟨P, 0, none⟩ rv') := (Only.refl (fun k => k = P) w10).setCell (p := ⟨P, 0, none⟩) (.inl rfl) _
 subst hG
 refine ⟨true, rfl, ?_, rfl, L ++ [⟨⟨a, b, S, []⟩, sv, .slice none 0 0⟩], ?_, rv', ?_, hs.only oS (fun k hk e => fr.1 k hk e) (fun n hn k hk e => fr.2.1 n hn k hk e) (fun n hn k hk e => fr.2.2 n hn k hk e)⟩
 ·exact (Only.mono (F := fun k => B ≤ k) (G := fun k => B ≤ k ∨ k = P) ((o9.mono fun _ f => f.elim).trans (G := fun j => rv.ownBlock = some j) o10 fun i hi => .inl (hr.new i hi)) fun _ h => .inl h).trans oS fun i hi => .inl (.inr hi)
 ·simp [toG, NodeD.toB]
 ·exact heap_setCell_same w10 P 0 #[rv] 39 rv' b10
set_option maxRecDepth 100000 in
set_option maxHeartbeats 8000000 in
theorem reads_x {P : Nat} {L : List LN} (line : Str) (hs : line.size < 4294967281) (h : GB B w P L) (hl : L.length ≤ 24) (hM : LaidM w) (hB : B ≤ w.heap.size) :
  Calls Tryd.prog 53 #[.pointer (some ⟨P, 0, none⟩), .string line] w (fun e w' => OneEnd B P (readsP (toG (L.map LN.x)) line.toList) L w w' e) := by
 have HGB := Lib.hid h
 obtain ⟨rv, hb, hr⟩ := h
 have HSp := Lib.hid (Split_x line hs 32 hM)
 have HSz := Lib.hid hs
 have HM := Lib.hid hM
 have HBs := Lib.hid hB
 have HRow := Lib.hid hr
 have HBk := Lib.hid hb
 obtain ⟨nl, hnl⟩ : ∃ n, L.length = n := ⟨_, rfl⟩
 have HNl := Lib.hid hnl
 have HGl : Hid ((toG (L.map LN.x)).length = nl) := by show _ = _; rw [← hnl]; simp [toG]
 obtain ⟨ao, cap, hrv, hc1, hc2⟩ := own_slice hr.own
 have HRv := Lib.hid hrv
 have hcP : w.cell? ⟨P, 0, none⟩ = some (.slice ao nl cap) := by rw [cell_block hb, hrv, hnl]; rfl
 have HCP := Lib.hid hcP
 rw [hnl] at hl
 clear hs hM hB hr hb hnl hrv hcP hc1
 go_enter Tryd.func53, Tryd.ntmps53
 go_wp2_with fail
 refine HSp.out.mono ?_
 rintro e w1 ⟨l, hcut, rfl, hw1, hrow, hsz, hln⟩
 have HO1 : Hid (Only (fun _ => False) w w1) := by rw [hw1]; exact (Only.refl _ _).alloc _
 have HCut := Lib.hid hcut
 have HSzs := Lib.hid hsz
 have HL := Lib.hid hrow
 have hb0 : w.heap.size < w1.heap.size := by rw [hw1]; simp
 obtain ⟨bl, hbl⟩ : ∃ x, w.heap.size = x := ⟨_, rfl⟩
 have HBl := Lib.hid hbl
 rw [hbl] at hb0 HL
 have HBlt := Lib.hid hb0
 rw [HBl.out]
 have HNo : Hid (∀ W, Only (fun _ => False) w1 W → readsP (toG (L.map LN.x)) line.toList = none → OneEnd B P (readsP (toG (L.map LN.x)) line.toList) L w W (.returned (.bool false))) := fun W o hG => OneEnd.no hG HGB.out (HO1.out.same o) rfl
 clear hcut hsz hrow hw1 hbl hb0 HSp
 match l, HCut, HSzs, HL, hln with
 | [], HCut, HSzs, HL, hln =>
  have hn := reads_short (G := toG (L.map LN.x)) (l := line.toList) (by rw [← HCut.out]; simp)
  have HE := Lib.hid (HNo.out w1 (Only.refl _ _) hn)
  clear hn
  go_wp2_with fail
  go_ret
  exact HE.out
 | [a], HCut, HSzs, HL, hln =>
  have hn := reads_short (G := toG (L.map LN.x)) (l := line.toList) (by rw [← HCut.out]; simp)
  have HE := Lib.hid (HNo.out w1 (Only.refl _ _) hn)
  clear hn
  go_wp2_with fail
  go_ret
  exact HE.out
 | a :: b :: r, HCut, HSzs, HL, hln =>
  obtain ⟨n, hn⟩ : ∃ n, r.length = n := ⟨_, rfl⟩
  have HN := Lib.hid hn
  have HR := Lib.hid (reads_at (G := toG (L.map LN.x)) HCut.out)
  rw [HGl.out, hn] at HR
  have hlen : (a :: b :: r).length = n + 2 := by simp [hn]
  rw [hlen] at HL
  rw [hlen]
  have hka : okS a := by have := HSzs.out a (by simp); have := HSz.out; unfold okS maxLen; omega
  have hkb : okS b := by have := HSzs.out b (by simp); have := HSz.out; unfold okS maxLen; omega
  have HKa := Lib.hid hka
  have HKb := Lib.hid hkb
  have HAt : Hid (∀ W, Only (fun _ => False) w1 W → ∀ (i : Nat) (x : Str), (a :: b :: r)[i]? = some x → W.cell? ⟨bl, i, none⟩ = some (.string x)) := fun W o i x hx => by
   obtain ⟨b', off', he, -, hE⟩ := StrC_at HL.out hx
   cases he
   have := (hE W o).1 0 _ rfl
   simpa using this
  have q0 := HAt.out w1 (Only.refl _ _) 0 a rfl
  have q1 := HAt.out w1 (Only.refl _ _) 1 b rfl
  have qP : w1.cell? ⟨P, 0, none⟩ = some (.slice ao nl cap) := by rw [World.cell?_of_block (w := w) (HO1.out.block _ (World.block_lt_of_cell? _ _ HCP.out) (fun f => f))]; exact HCP.out
  have hln2 : n + 2 ≤ 4294967282 := by have := HSz.out; rw [hlen] at hln; omega
  clear hn hlen hka hkb hln
  by_cases c4 : 4 < n
  ·have HE := Lib.hid (HNo.out w1 (Only.refl _ _) (by rw [HR.out, if_neg (by omega)]))
   have d1 : ¬ ((n : Int) + 2 < 2) := by omega
   have d2 : (6 : Int) < (n : Int) + 2 := by omega
   clear HR
   go_wp2_with fail
   go_ret
   exact HE.out
  ·have d1 : decide ((n : Int) + 2 < 2) = false := decide_eq_false (by omega)
   have d2 : decide ((6 : Int) < (n : Int) + 2) = false := decide_eq_false (by omega)
   have i0 : (0 : Int) < (n : Int) + 2 := by omega
   have i1 : (1 : Int) < (n : Int) + 2 := by omega
   by_cases c24 : nl = 24
   ·have HE := Lib.hid (HNo.out w1 (Only.refl _ _) (by rw [HR.out, if_neg (by omega)]))
    subst c24
    clear HR
    go_wp2_with fail
    go_ret
    exact HE.out
   ·have d3 : ((nl : Int) == 24) = false := by rw [beq_eq_false_iff_ne]; omega
    obtain ⟨na, hna⟩ : ∃ x, nameB a.toList = x := ⟨_, rfl⟩
    have HNm := Lib.hid (VName_x (w := w1) a HKa.out na hna)
    have HNa := Lib.hid hna
    clear hna
    go_wp2_with fail
    refine HNm.out.mono ?_
    rintro e w2 ⟨rfl, O2⟩
    have HO2 := Lib.hid O2
    have q1' := HAt.out w2 O2 1 b rfl
    clear O2 HNm q0 q1 qP
    cases na with
    | false =>
     have HE := Lib.hid (HNo.out w2 HO2.out (by rw [HR.out, if_neg (by rw [HNa.out]; simp)]))
     clear HR
     go_wp2_with fail
     go_ret
     exact HE.out
    | true =>
     obtain ⟨mb, hmb⟩ : ∃ x, mayB b.toList = x := ⟨_, rfl⟩
     have HMy := Lib.hid (VMay_x (w := w2) b HKb.out (HM.out.only (HO1.out.same HO2.out)).laid mb hmb)
     have HMb := Lib.hid hmb
     clear hmb
     go_wp2_with fail
     refine HMy.out.mono ?_
     rintro e w3 ⟨rfl, O3⟩
     have HO3 := Lib.hid (HO2.out.same O3)
     clear O3 HMy q1' HO2
     cases mb with
     | false =>
      have HE := Lib.hid (HNo.out w3 HO3.out (by rw [HR.out, if_neg (by rw [HMb.out]; simp)]))
      clear HR
      go_wp2_with fail
      go_ret
      exact HE.out
     | true =>
      rcases snoc_cases L with hL0 | ⟨L0, m, hL0⟩
      ·have hlt : lastLt (toG (L.map LN.x)) a.toList = true := by rw [hL0]; rfl
       have hn0 : nl = 0 := by rw [← HNl.out, hL0]; rfl
       have hcP : w3.cell? ⟨P, 0, none⟩ = some (.slice ao 0 cap) := by rw [World.cell?_of_block (w := w) ((HO1.out.same HO3.out).block _ (World.block_lt_of_cell? _ _ HCP.out) (fun f => f)), HCP.out, hn0]
       have HLa := Lib.hid (last_nil hcP)
       have HLt := Lib.hid hlt
       clear hL0 hn0 hcP hlt
       go_wp2_with fail
       refine HLa.out.mono ?_
       rintro e w4 ⟨rfl, O4⟩
       have HO4 := Lib.hid (HO3.out.same O4)
       clear O4 HLa HO3
       go_wp2_with fail
       go_quiet (fail)
       go_wp2_with fail
       obtain ⟨w5, hw5⟩ : ∃ x, w4.drewN nq = x := ⟨_, rfl⟩
       have HO5 : Hid (Only (fun _ => False) w1 w5) := by rw [← hw5]; exact HO4.out.drewN _
       rw [hw5]
       clear hw5 HO4
       have q0 := HAt.out w5 HO5.out 0 a rfl
       have q1 := HAt.out w5 HO5.out 1 b rfl
       have b5 : bl < w5.heap.size := Nat.lt_of_lt_of_le HBlt.out HO5.out.size
       go_region
       have hN6 : ((w5.alloc (.cells #[.string a, .string b, .slice none 0 0, .slice none 0 0] 80)).drew).heap[w5.heap.size]? = some (.cells #[.string a, .string b, .slice none 0 0, .slice none 0 0] 80 (0, 0)) := heap_alloc_new _ _
       have hO6 : Only (fun _ => False) w1 ((w5.alloc (.cells #[.string a, .string b, .slice none 0 0, .slice none 0 0] 80)).drew) := (HO5.out.alloc _).drew
       have hNs : w1.heap.size ≤ w5.heap.size := HO5.out.size
       obtain ⟨N, hN⟩ : ∃ N, w5.heap.size = N := ⟨_, rfl⟩
       obtain ⟨w6, hw6⟩ : ∃ x, (w5.alloc (.cells #[.string a, .string b, .slice none 0 0, .slice none 0 0] 80)).drew = x := ⟨_, rfl⟩
       rw [hN] at hN6 hNs ⊢
       rw [hw6] at hN6 hO6 ⊢
       have HO6 := Lib.hid hO6
       have HNd : Hid (NodeAt w1.heap.size w6 N a b (.slice none 0 0) []) := show NodeAt _ _ _ _ _ _ _ from ⟨hN6, World.ownsRow_nil _ _ _ _, (fun _ h => by cases h), (fun k hk => by simp [Value.ownBlock] at hk)⟩
       have HNs : Hid (w1.heap.size ≤ N) := hNs
       clear hN6 hO6 hNs hw6 hN q0 q1 b5 HO5
       by_cases cn : n = 0
       ·obtain rfl : r = [] := List.eq_nil_of_length_eq_zero (by rw [HN.out, cn])
        subst cn
        have HS0 : Hid (setsP (([] : List Str).map ByteArray.toList) = some (([] : List SetD).map SetD.toB)) := rfl
        have HNdF := HNd
        go_wp2_with fail
        go_loopw [68] (fun vi wr => Hid (w6 = wr) ∧ vi = .int .i64 0) (fun v _ => 0)
        case atStart => exact ⟨rfl, rfl⟩
        case round =>
         obtain ⟨hw, rfl⟩ := hrel
         obtain rfl := hw.out
         obtain ⟨w9, hw9⟩ : ∃ W, W = w6 := ⟨_, rfl⟩
         have HO9 := HO6
         rw [← hw9] at HNdF HO9 ⊢
         clear hw9
         have HWr : Hid (readsP (toG (L.map LN.x)) line.toList = some (toG (L.map LN.x) ++ [⟨a.toList, b.toList, ([] : List SetD).map SetD.toB, []⟩])) := by
          rw [Hid, HR.out, if_pos ⟨by omega, c24, HNa.out, HMb.out, HLt.out⟩, HS0.out]; rfl
         have HOw : Hid (Only (fun _ => False) w w9) := HO1.out.same HO9.out
         have HK : Hid (∀ W, Only (fun _ => False) w9 W → W.cell? ⟨P, 0, none⟩ = some (.slice ao nl cap) ∧ W.cell? ⟨N, 0, none⟩ = some (.string a) ∧ W.cell? ⟨N, 1, none⟩ = some (.string b) ∧ W.cell? ⟨N, 2, none⟩ = some (.slice none 0 0) ∧ W.cell? ⟨N, 3, none⟩ = some (.slice none 0 0)) := fun W o => by
          have hn := (HNdF.out.only0 o).blk
          refine ⟨?_, by rw [cell_block hn]; rfl, by rw [cell_block hn]; rfl, by rw [cell_block hn]; rfl, by rw [cell_block hn]; rfl⟩
          rw [World.cell?_of_block (w := w) ((HOw.out.same o).block _ (World.block_lt_of_cell? _ _ HCP.out) (fun f => f))]; exact HCP.out
         have HRw : Hid (∀ W, Only (fun _ => False) w9 W → W.ownsRow 0 80 4 (.slice ao nl cap) (nl) (flatN L)) := fun W o => by
          have h := (HRow.out.only0 (HOw.out.same o)).own
          rw [HRv.out, HNl.out] at h
          exact h
         have HBk9 : Hid (∀ W, Only (fun k => (Value.slice ao nl cap).ownBlock = some k) w9 W → W.cell? ⟨P, 0, none⟩ = some (.slice ao nl cap) ∧ W.frozen? ⟨P, 0, none⟩ = false) := fun W o => by
          have b9 := (HOw.out.block P (Array.getElem?_eq_some_iff.1 HBk.out).1 (fun f => f)).trans HBk.out
          rw [HRv.out, HNl.out] at b9
          have bW := (o.block P (Array.getElem?_eq_some_iff.1 b9).1 (fun e => own_blk (by decide) (HRw.out w9 (Only.refl _ _)) b9 e)).trans b9
          exact ⟨by rw [cell_block bW]; rfl, frozen_block bW 0⟩
         have HDone : Hid (∀ w10 rv', w10.ownsRow 0 80 4 rv' (nl + 1) (flatN L ++ [.string a, .string b, (.slice none 0 0), .slice none 0 0]) → Only (fun k => (Value.slice ao nl cap).ownBlock = some k) w9 w10 → (∀ k, rv'.ownBlock = some k → (Value.slice ao nl cap).ownBlock = some k ∨ w9.heap.size ≤ k) → OneEnd B P (readsP (toG (L.map LN.x)) line.toList) L w (w10.setCell ⟨P, 0, none⟩ rv') (.returned (.bool true))) := fun w10 rv' r1 o10 r3 =>
          reads_done HBk.out HOw.out HRow.out HBs.out ⟨HNdF.out.blk, HNdF.out.own, HNdF.out.oks, fun k hk => Nat.le_trans (Nat.le_trans HBs.out HO1.out.size) (HNdF.out.new k hk)⟩ HKa.out HKb.out (by rw [HNl.out]; exact r1) (by rw [HRv.out, HNl.out]; exact o10) (by rw [HRv.out, HNl.out]; exact r3) HWr.out
         have hNg : ∀ k, (Value.slice ao nl cap).ownBlock = some k → k ≠ N := fun k hk e => by
          have h := own_lt (HRow.out.own) (k := k) (by rw [HRv.out, HNl.out]; exact hk)
          have := HNs.out
          have := HO1.out.size
          omega
         have HKA : Hid (∀ W, Only (fun k => (Value.slice ao nl cap).ownBlock = some k) w9 W → W.cell? ⟨P, 0, none⟩ = some (.slice ao nl cap) ∧ W.cell? ⟨N, 0, none⟩ = some (.string a) ∧ W.cell? ⟨N, 1, none⟩ = some (.string b) ∧ W.cell? ⟨N, 2, none⟩ = some (.slice none 0 0) ∧ W.cell? ⟨N, 3, none⟩ = some (.slice none 0 0)) := fun W o => by
          have hn := (o.block N (Array.getElem?_eq_some_iff.1 HNdF.out.blk).1 (fun e => hNg N e rfl)).trans HNdF.out.blk
          exact ⟨(HBk9.out W o).1, by rw [cell_block hn]; rfl, by rw [cell_block hn]; rfl, by rw [cell_block hn]; rfl, by rw [cell_block hn]; rfl⟩
         have hS0 := HK.out w9.drew ((Only.refl _ _).drew)
         have hnl : nl ≤ 23 := by omega
         clear HR HNo HAt hNg
         go_wp2_with fail
         refine wp_region_G (n := 11) (E := fun j => j == 10) (S := fun W => W.cell? ⟨P, 0, none⟩ = some (.slice ao nl cap) ∧ W.cell? ⟨N, 0, none⟩ = some (.string a) ∧ W.cell? ⟨N, 1, none⟩ = some (.string b) ∧ W.cell? ⟨N, 2, none⟩ = some (.slice none 0 0) ∧ W.cell? ⟨N, 3, none⟩ = some (.slice none 0 0)) (by kernel_rfl) rfl hS0 (fun hHeld => ?_)
         refine tqW (i := 0) (v := ?_) rfl (.inr (by assumption)) ?_ ?_
         rotate_left
         ·(intro w; go_simp <;> (try with_reducible rfl))
         try simp only [Act.put, zq1, zq3, zq4, zq5, zq6]
         refine tqW (i := 1) (v := ?_) rfl (.inr (by assumption)) ?_ ?_
         rotate_left
         ·(intro w; go_simp <;> (try with_reducible rfl))
         try simp only [Act.put, zq1, zq2, zq3, zq4, zq5, zq6]
         refine tqW (i := 2) (v := ?_) rfl (.inr (by assumption)) ?_ ?_
         rotate_left
         ·(intro w; go_simp <;> (try with_reducible rfl))
         try simp only [Act.put, zq1, zq2, zq3, zq4, zq5, zq6]
         refine tqW (i := 3) (v := ?_) rfl (.inr (by assumption)) ?_ ?_
         rotate_left
         ·(intro w; go_simp <;> (try with_reducible rfl))
         try simp only [Act.put, zq1, zq2, zq3, zq4, zq5, zq6]
         refine tqK (i := 4) (v := ?_) rfl ?_ ?_
         rotate_left
         ·(intro w hSw; (try dsimp only at hSw); go_simp <;> (try with_reducible rfl))
         try simp only [Act.put, zq1, zq2, zq3, zq4, zq5, zq6]
         refine tqK (i := 5) (v := ?_) rfl ?_ ?_
         rotate_left
         ·(intro w hSw; (try dsimp only at hSw); go_simp <;> (try with_reducible rfl))
         try simp only [Act.put, zq1, zq2, zq3, zq4, zq5, zq6]
         refine wpAnyG_ready (rs := [6]) (by kernel_rfl) (by simp) ?_
         refine AllReadyG.cons (i := 6) rfl (fun K hK => ?_) ?_
         ·go_simp
          refine hK.out _ _ ?_ (fun hHeld => ?_)
          ·(try dsimp only) <;> (exact HK.out _ (by repeat (first | exact Only.refl _ _ | apply Only.drew | apply Only.alloc | apply Only.drewN)))
          clear hK K
          try simp only [Act.put, zq1, zq2, zq3, zq4, zq5, zq6]
          refine wpAnyG_ready (rs := [7]) (by kernel_rfl) (by simp) ?_
          refine AllReadyG.cons (i := 7) rfl (fun K hK => ?_) ?_
          ·(refine stepAN slNode (by rfl) (.tmp 90) (.tmp 92) (by rfl) (by rfl) (HRw.out _ (by repeat (first | exact Only.refl _ _ | apply Only.drew | apply Only.alloc | apply Only.drewN))) (by rfl) (news := [.string a, .string b, (.slice none 0 0), .slice none 0 0]) (by rfl) (by intro h; cases h) (fun ad hd j u hu => by cases hd; exact cells_new (by exact heap_alloc_new _ _) hu) (by intro u hu; simp at hu; rcases hu with rfl | rfl | rfl | rfl <;> first | rfl | exact hone1) (by omega) (by decide) ?_; intro ao5 cap5 w10 r5 o5 nr5; have oA : Only (fun k => (Value.slice ao nl cap).ownBlock = some k) w9 w10 := Only.trans (by repeat (first | exact Only.refl _ _ | apply Only.drew | apply Only.alloc | apply Only.drewN)) o5 (fun k hk => .inl hk); have rA : ∀ k, (Value.slice ao5 (nl + 1) cap5).ownBlock = some k → (Value.slice ao nl cap).ownBlock = some k ∨ w9.heap.size ≤ k := fun k hk => by (rcases nr5 k hk with h | h; exact Or.inl h; exact Or.inr (by simp at h; omega)))
           refine hK.out _ _ ?_ (fun hHeld => ?_)
           ·(try dsimp only) <;> (exact HKA.out w10 oA)
           clear hK K
           try simp only [Act.put, zq1, zq2, zq3, zq4, zq5, zq6]
           refine tqW (i := 8) (v := ?_) rfl (.inr (by assumption)) ?_ ?_
           rotate_left
           ·(intro w; go_simp <;> (try with_reducible rfl))
           try simp only [Act.put, zq1, zq2, zq3, zq4, zq5, zq6]
           refine tqW (i := 9) (v := ?_) rfl (.inr (by assumption)) ?_ ?_
           rotate_left
           ·(intro w; go_simp <;> (try with_reducible rfl))
           try simp only [Act.put, zq1, zq2, zq3, zq4, zq5, zq6]
           refine wpAnyG_ready (rs := [10]) (by kernel_rfl) (by simp) ?_
           refine AllReadyG.late (i := 10) rfl (by kernel_rfl) (fun K hK => ?_) ?_
           ·(have c10 := (HBk9.out w10 oA).1; have f10 := (HBk9.out w10 oA).2; go_simp)
            refine hK.out _ _ ?_
            clear hK K
            try simp only [Act.put, zq1, zq2, zq3, zq4, zq5, zq6]
            refine wpAnyG_done (by kernel_rfl) ?_ _
            have HFin := Lib.hid (HDone.out w10 _ r5 oA rA)
            go_wp2_with fail
            go_ret
            exact HFin.out
           exact AllReadyG.nil
          exact AllReadyG.nil
         exact AllReadyG.nil
       ·have cn2 : ¬ ((n : Int) + 2 = 2) := by omega
        have cn3 : (2 : Int) ≤ (n : Int) + 2 := by omega
        have cn4 : ¬ n + 2 = 2 := by omega
        have cn5 : 2 ≤ n + 2 := by omega
        have cn6 : n + 2 - 2 = n := by omega
        go_wp2_with fail
        go_loopw [68] (fun vi wr => Hid (Only (fun _ => False) w1 wr) ∧ ∃ (i : Nat) (S : List SetD) (sv : Value), vi = .int .i64 i ∧ i ≤ n ∧ Hid (NodeAt w1.heap.size wr N a b sv S) ∧ Hid (S.length = i) ∧ Hid (setsP ((r.take i).map ByteArray.toList) = some (S.map SetD.toB))) (fun v _ => n - (RowKit.intOf v).toNat)
        case atStart => exact ⟨HO6, 0, [], _, rfl, Nat.zero_le _, HNd, rfl, rfl⟩
        case round =>
         obtain ⟨HO9, i, S, sv, rfl, hi, HNdF, HSl, HSp⟩ := hrel
         by_cases ci : i < n
         ·have ewi : IntKind.i64.wrap ((i : Int) + 1) = (i : Int) + 1 := by rw [IntKind.wrap_i64]; omega
          obtain ⟨x, hx⟩ : ∃ x, r[i]? = some x := ⟨_, List.getElem?_eq_getElem (by rw [HN.out]; exact ci)⟩
          have qx := HAt.out wr HO9.out (i + 2) x (by simpa using hx)
          rw [Nat.add_comm i 2] at qx
          have hxs : x.size < 4294967281 := by have := HSzs.out x (by simp [List.mem_of_getElem? hx]); have := HSz.out; omega
          have HSet := Lib.hid (setting_x (w := wr) x hxs (HM.out.only (HO1.out.same HO9.out)))
          have HX := Lib.hid hx
          clear hx hxs
          go_wp2_with fail
          refine HSet.out.mono ?_
          rintro e w7 ⟨d, ok, rfl, hset, hd1, hd2, O7⟩
          have HO7 := Lib.hid (HO9.out.same O7)
          have HNd7 := Lib.hid (HNdF.out.only0 O7)
          have HSet2 := Lib.hid hset
          have HD := Lib.hid (And.intro hd1 hd2)
          clear O7 HSet hset hd1 hd2 qx HNdF HO9
          cases ok with
          | false =>
           have HE : Hid (∀ W, Only (fun _ => False) w1 W → OneEnd B P (readsP (toG (L.map LN.x)) line.toList) L w W (.returned (.bool false))) := fun W o => HNo.out W o (by
            rw [HR.out]
            split
            ·rw [setsP_bad HX.out HSet2.out]; rfl
            ·rfl)
           clear HR HNo
           go_wp2_with fail
           go_ret
           exact HE.out _ (HO7.out.alloc _)
          | true =>
           have HO8 : Hid (Only (fun _ => False) w7 ((w7.alloc (.cells #[.string d.name, .string d.value] 60)).alloc (.cells #[.string d.name, .string d.value] 60))) := ((Only.refl _ _).alloc _).alloc _
           have HNd8 := Lib.hid (HNd7.out.only0 HO8.out)
           have c8 : (w7.alloc (.cells #[.string d.name, .string d.value] 60)).cell? ⟨N, 2, none⟩ = some sv := by rw [cell_block (HNd7.out.only0 ((Only.refl (fun _ => False) w7).alloc (.cells #[.string d.name, .string d.value] 60))).blk]; rfl
           have HNw : Hid (∀ j u, [Value.string d.name, .string d.value][j]? = some u → ((w7.alloc (.cells #[.string d.name, .string d.value] 60)).alloc (.cells #[.string d.name, .string d.value] 60)).cell? ((⟨w7.heap.size + 1, 0, none⟩ : Addr).add j) = some u) := fun j u hu => cells_new (by have h := heap_alloc_new (w7.alloc (.cells #[.string d.name, .string d.value] 60)) (.cells #[.string d.name, .string d.value] 60); rw [World.size_alloc] at h; exact h) hu
           have hSl := HSl.out
           go_wp2_with (at_builtin; go_must (refine wpA (news := [.string d.name, .string d.value]) slSet rfl (.tmp 80) (.tmp 82) rfl rfl HNd8.out.own (ad := ⟨w7.heap.size + 1, 0, none⟩) (m := 1) (c := 1) rfl rfl HNw.out (by simp [Value.oneCell']) (by unfold maxLen; omega) (by omega) ?_))
           intro v' w10 r1 r2 r3 r4 r5
           have hB8 : w1.heap.size ≤ ((w7.alloc (.cells #[.string d.name, .string d.value] 60)).alloc (.cells #[.string d.name, .string d.value] 60)).heap.size := Nat.le_trans HO7.out.size HO8.out.size
           have hnx := HNd8.out.next (d := d) HNs.out (by rw [HSl.out]; exact r1) ((Only.refl _ _).grown r2 fun k hk => .inl hk) (by simpa using r3) HD.out hB8
           have HNx := Lib.hid hnx.1
           have c10 := hnx.2.1
           have f10 := hnx.2.2.1
           have HO10 := Lib.hid (((HO7.out.same HO8.out).trans hnx.2.2.2 (fun k hk => .inr hk)))
           obtain ⟨ga, gcap, hv', -, -⟩ := own_slice r1
           have HSp2 := Lib.hid (setsP_next HX.out HSp.out HSet2.out)
           have hlen2 : (S ++ [d]).length = i + 1 := by rw [List.length_append, hSl]; rfl
           have HSl2 := Lib.hid hlen2
           subst hv'
           clear hnx r1 r2 r3 r5 hB8 c8 hSl hlen2 HNd7 HNd8 HNw HO8
           go_wp2_with fail
           go_roundw
           case rel => exact ⟨HO10, i + 1, S ++ [d], _, by first | rfl | go_num, by omega, HNx, HSl2, HSp2⟩
           case measure => simp [RowKit.intOf] <;> omega
         ·obtain rfl : i = n := by omega
          have HS0 : Hid (setsP (r.map ByteArray.toList) = some (S.map SetD.toB)) := by have h := HSp.out; rw [List.take_of_length_le (Nat.le_of_eq HN.out)] at h; exact h
          obtain ⟨sa, sc, hsv, -, -⟩ := own_slice HNdF.out.own
          have hone1 : sv.oneCell' = true := by rw [hsv]; rfl
          obtain ⟨w9, hw9⟩ : ∃ W, W = wr := ⟨_, rfl⟩
          rw [← hw9] at HNdF HO9 ⊢
          clear hw9 hsv
          have HWr : Hid (readsP (toG (L.map LN.x)) line.toList = some (toG (L.map LN.x) ++ [⟨a.toList, b.toList, S.map SetD.toB, []⟩])) := by
           rw [Hid, HR.out, if_pos ⟨by omega, c24, HNa.out, HMb.out, HLt.out⟩, HS0.out]; rfl
          have HOw : Hid (Only (fun _ => False) w w9) := HO1.out.same HO9.out
          have HK : Hid (∀ W, Only (fun _ => False) w9 W → W.cell? ⟨P, 0, none⟩ = some (.slice ao nl cap) ∧ W.cell? ⟨N, 0, none⟩ = some (.string a) ∧ W.cell? ⟨N, 1, none⟩ = some (.string b) ∧ W.cell? ⟨N, 2, none⟩ = some sv ∧ W.cell? ⟨N, 3, none⟩ = some (.slice none 0 0)) := fun W o => by
           have hn := (HNdF.out.only0 o).blk
           refine ⟨?_, by rw [cell_block hn]; rfl, by rw [cell_block hn]; rfl, by rw [cell_block hn]; rfl, by rw [cell_block hn]; rfl⟩
           rw [World.cell?_of_block (w := w) ((HOw.out.same o).block _ (World.block_lt_of_cell? _ _ HCP.out) (fun f => f))]; exact HCP.out
          have HRw : Hid (∀ W, Only (fun _ => False) w9 W → W.ownsRow 0 80 4 (.slice ao nl cap) (nl) (flatN L)) := fun W o => by
           have h := (HRow.out.only0 (HOw.out.same o)).own
           rw [HRv.out, HNl.out] at h
           exact h
          have HBk9 : Hid (∀ W, Only (fun k => (Value.slice ao nl cap).ownBlock = some k) w9 W → W.cell? ⟨P, 0, none⟩ = some (.slice ao nl cap) ∧ W.frozen? ⟨P, 0, none⟩ = false) := fun W o => by
           have b9 := (HOw.out.block P (Array.getElem?_eq_some_iff.1 HBk.out).1 (fun f => f)).trans HBk.out
           rw [HRv.out, HNl.out] at b9
           have bW := (o.block P (Array.getElem?_eq_some_iff.1 b9).1 (fun e => own_blk (by decide) (HRw.out w9 (Only.refl _ _)) b9 e)).trans b9
           exact ⟨by rw [cell_block bW]; rfl, frozen_block bW 0⟩
          have HDone : Hid (∀ w10 rv', w10.ownsRow 0 80 4 rv' (nl + 1) (flatN L ++ [.string a, .string b, sv, .slice none 0 0]) → Only (fun k => (Value.slice ao nl cap).ownBlock = some k) w9 w10 → (∀ k, rv'.ownBlock = some k → (Value.slice ao nl cap).ownBlock = some k ∨ w9.heap.size ≤ k) → OneEnd B P (readsP (toG (L.map LN.x)) line.toList) L w (w10.setCell ⟨P, 0, none⟩ rv') (.returned (.bool true))) := fun w10 rv' r1 o10 r3 =>
           reads_done HBk.out HOw.out HRow.out HBs.out ⟨HNdF.out.blk, HNdF.out.own, HNdF.out.oks, fun k hk => Nat.le_trans (Nat.le_trans HBs.out HO1.out.size) (HNdF.out.new k hk)⟩ HKa.out HKb.out (by rw [HNl.out]; exact r1) (by rw [HRv.out, HNl.out]; exact o10) (by rw [HRv.out, HNl.out]; exact r3) HWr.out
          have hNg : ∀ k, (Value.slice ao nl cap).ownBlock = some k → k ≠ N := fun k hk e => by
           have h := own_lt (HRow.out.own) (k := k) (by rw [HRv.out, HNl.out]; exact hk)
           have := HNs.out
           have := HO1.out.size
           omega
          have HKA : Hid (∀ W, Only (fun k => (Value.slice ao nl cap).ownBlock = some k) w9 W → W.cell? ⟨P, 0, none⟩ = some (.slice ao nl cap) ∧ W.cell? ⟨N, 0, none⟩ = some (.string a) ∧ W.cell? ⟨N, 1, none⟩ = some (.string b) ∧ W.cell? ⟨N, 2, none⟩ = some sv ∧ W.cell? ⟨N, 3, none⟩ = some (.slice none 0 0)) := fun W o => by
           have hn := (o.block N (Array.getElem?_eq_some_iff.1 HNdF.out.blk).1 (fun e => hNg N e rfl)).trans HNdF.out.blk
           exact ⟨(HBk9.out W o).1, by rw [cell_block hn]; rfl, by rw [cell_block hn]; rfl, by rw [cell_block hn]; rfl, by rw [cell_block hn]; rfl⟩
          have hS0 := HK.out w9.drew ((Only.refl _ _).drew)
          have hnl : nl ≤ 23 := by omega
          clear HR HNo HAt hNg
          go_wp2_with fail
          refine wp_region_G (n := 11) (E := fun j => j == 10) (S := fun W => W.cell? ⟨P, 0, none⟩ = some (.slice ao nl cap) ∧ W.cell? ⟨N, 0, none⟩ = some (.string a) ∧ W.cell? ⟨N, 1, none⟩ = some (.string b) ∧ W.cell? ⟨N, 2, none⟩ = some sv ∧ W.cell? ⟨N, 3, none⟩ = some (.slice none 0 0)) (by kernel_rfl) rfl hS0 (fun hHeld => ?_)
          refine tqW (i := 0) (v := ?_) rfl (.inr (by assumption)) ?_ ?_
          rotate_left
          ·(intro w; go_simp <;> (try with_reducible rfl))
          try simp only [Act.put, zq1, zq3, zq4, zq5, zq6]
          refine tqW (i := 1) (v := ?_) rfl (.inr (by assumption)) ?_ ?_
          rotate_left
          ·(intro w; go_simp <;> (try with_reducible rfl))
          try simp only [Act.put, zq1, zq2, zq3, zq4, zq5, zq6]
          refine tqW (i := 2) (v := ?_) rfl (.inr (by assumption)) ?_ ?_
          rotate_left
          ·(intro w; go_simp <;> (try with_reducible rfl))
          try simp only [Act.put, zq1, zq2, zq3, zq4, zq5, zq6]
          refine tqW (i := 3) (v := ?_) rfl (.inr (by assumption)) ?_ ?_
          rotate_left
          ·(intro w; go_simp <;> (try with_reducible rfl))
          try simp only [Act.put, zq1, zq2, zq3, zq4, zq5, zq6]
          refine tqK (i := 4) (v := ?_) rfl ?_ ?_
          rotate_left
          ·(intro w hSw; (try dsimp only at hSw); go_simp <;> (try with_reducible rfl))
          try simp only [Act.put, zq1, zq2, zq3, zq4, zq5, zq6]
          refine tqK (i := 5) (v := ?_) rfl ?_ ?_
          rotate_left
          ·(intro w hSw; (try dsimp only at hSw); go_simp <;> (try with_reducible rfl))
          try simp only [Act.put, zq1, zq2, zq3, zq4, zq5, zq6]
          refine wpAnyG_ready (rs := [6]) (by kernel_rfl) (by simp) ?_
          refine AllReadyG.cons (i := 6) rfl (fun K hK => ?_) ?_
          ·go_simp
           refine hK.out _ _ ?_ (fun hHeld => ?_)
           ·(try dsimp only) <;> (exact HK.out _ (by repeat (first | exact Only.refl _ _ | apply Only.drew | apply Only.alloc | apply Only.drewN)))
           clear hK K
           try simp only [Act.put, zq1, zq2, zq3, zq4, zq5, zq6]
           refine wpAnyG_ready (rs := [7]) (by kernel_rfl) (by simp) ?_
           refine AllReadyG.cons (i := 7) rfl (fun K hK => ?_) ?_
           ·(refine stepAN slNode (by rfl) (.tmp 90) (.tmp 92) (by rfl) (by rfl) (HRw.out _ (by repeat (first | exact Only.refl _ _ | apply Only.drew | apply Only.alloc | apply Only.drewN))) (by rfl) (news := [.string a, .string b, sv, .slice none 0 0]) (by rfl) (by intro h; cases h) (fun ad hd j u hu => by cases hd; exact cells_new (by exact heap_alloc_new _ _) hu) (by intro u hu; simp at hu; rcases hu with rfl | rfl | rfl | rfl <;> first | rfl | exact hone1) (by omega) (by decide) ?_; intro ao5 cap5 w10 r5 o5 nr5; have oA : Only (fun k => (Value.slice ao nl cap).ownBlock = some k) w9 w10 := Only.trans (by repeat (first | exact Only.refl _ _ | apply Only.drew | apply Only.alloc | apply Only.drewN)) o5 (fun k hk => .inl hk); have rA : ∀ k, (Value.slice ao5 (nl + 1) cap5).ownBlock = some k → (Value.slice ao nl cap).ownBlock = some k ∨ w9.heap.size ≤ k := fun k hk => by (rcases nr5 k hk with h | h; exact Or.inl h; exact Or.inr (by simp at h; omega)))
            refine hK.out _ _ ?_ (fun hHeld => ?_)
            ·(try dsimp only) <;> (exact HKA.out w10 oA)
            clear hK K
            try simp only [Act.put, zq1, zq2, zq3, zq4, zq5, zq6]
            refine tqW (i := 8) (v := ?_) rfl (.inr (by assumption)) ?_ ?_
            rotate_left
            ·(intro w; go_simp <;> (try with_reducible rfl))
            try simp only [Act.put, zq1, zq2, zq3, zq4, zq5, zq6]
            refine tqW (i := 9) (v := ?_) rfl (.inr (by assumption)) ?_ ?_
            rotate_left
            ·(intro w; go_simp <;> (try with_reducible rfl))
            try simp only [Act.put, zq1, zq2, zq3, zq4, zq5, zq6]
            refine wpAnyG_ready (rs := [10]) (by kernel_rfl) (by simp) ?_
            refine AllReadyG.late (i := 10) rfl (by kernel_rfl) (fun K hK => ?_) ?_
            ·(have c10 := (HBk9.out w10 oA).1; have f10 := (HBk9.out w10 oA).2; go_simp)
             refine hK.out _ _ ?_
             clear hK K
             try simp only [Act.put, zq1, zq2, zq3, zq4, zq5, zq6]
             refine wpAnyG_done (by kernel_rfl) ?_ _
             have HFin := Lib.hid (HDone.out w10 _ r5 oA rA)
             go_wp2_with fail
             go_ret
             exact HFin.out
            exact AllReadyG.nil
           exact AllReadyG.nil
          exact AllReadyG.nil
      ·subst hL0
       obtain ⟨n0, hn0⟩ : ∃ n0, L0.length = n0 := ⟨_, rfl⟩
       have hnl0 : nl = n0 + 1 := by rw [← HNl.out, List.length_append, hn0]; rfl
       subst hnl0
       have hrw := HRow.out
       rw [HRv.out] at hrw
       obtain ⟨g, cap', hrv, -, -⟩ := own_some hrw.own (by rw [HNl.out]; omega)
       simp only [Value.slice.injEq, true_and] at hrv
       obtain ⟨rfl, rfl⟩ := hrv
       have hnm : ∀ W, Only (fun _ => False) w1 W → W.cell? ⟨g, n0 * 4, none⟩ = some (.string m.x.name) := fun W o => by
        have h3 := (hrw.only0 (HO1.out.same o)).own
        rw [HNl.out] at h3
        rw [h3.cellAt (n0 * 4) (by omega)]
        exact flatN_at (L0 ++ [m]) n0 m (by rw [← hn0]; simp) 0 _ rfl
       have HNm := Lib.hid hnm
       have hcP : w3.cell? ⟨P, 0, none⟩ = some (.slice (some ⟨g, 0, none⟩) (n0 + 1) cap) := by rw [World.cell?_of_block (w := w) ((HO1.out.same HO3.out).block _ (World.block_lt_of_cell? _ _ HCP.out) (fun f => f)), HCP.out]
       have HLa := Lib.hid (last_some hcP (by omega))
       clear hcP hrw hnm hn0
       go_wp2_with fail
       refine HLa.out.mono ?_
       rintro e w4 ⟨rfl, O4⟩
       have HO4 := Lib.hid (HO3.out.same O4)
       have q0 := HAt.out w4 HO4.out 0 a rfl
       have q2 := HNm.out w4 HO4.out
       clear O4 HLa HO3
       cases hlt : decide (m.x.name.toList < a.toList) with
       | false =>
        have HE := Lib.hid (HNo.out w4 HO4.out (by rw [HR.out, if_neg (by rw [lastLt_last, hlt]; simp)]))
        have hbl : Op.bytesLess m.x.name.toList a.toList = false := by rw [bytesLess_x, hlt]
        have HE2 : Hid (∀ k, OneEnd B P (readsP (toG ((L0 ++ [m]).map LN.x)) line.toList) (L0 ++ [m]) w (w4.drewN k) (.returned (.bool false))) := fun k => HNo.out _ (HO4.out.drewN k) (by rw [HR.out, if_neg (by rw [lastLt_last, hlt]; simp)])
        clear hlt HR HE
        go_wp2_with fail
        go_quiet (fail)
        go_wp2_with fail
        go_ret
        exact HE2.out _
       | true =>
        have HLt : Hid (lastLt (toG ((L0 ++ [m]).map LN.x)) a.toList = true) := by rw [Hid, lastLt_last, hlt]
        have hbl : Op.bytesLess m.x.name.toList a.toList = true := by rw [bytesLess_x, hlt]
        clear hlt
        go_wp2_with fail
        go_quiet (fail)
        go_wp2_with fail
        obtain ⟨w5, hw5⟩ : ∃ x, w4.drewN nq = x := ⟨_, rfl⟩
        have HO5 : Hid (Only (fun _ => False) w1 w5) := by rw [← hw5]; exact HO4.out.drewN _
        rw [hw5]
        clear hw5 HO4 q0 q2 hbl
        have q0 := HAt.out w5 HO5.out 0 a rfl
        have q1 := HAt.out w5 HO5.out 1 b rfl
        have b5 : bl < w5.heap.size := Nat.lt_of_lt_of_le HBlt.out HO5.out.size
        go_region
        have hN6 : ((w5.alloc (.cells #[.string a, .string b, .slice none 0 0, .slice none 0 0] 80)).drew).heap[w5.heap.size]? = some (.cells #[.string a, .string b, .slice none 0 0, .slice none 0 0] 80 (0, 0)) := heap_alloc_new _ _
        have hO6 : Only (fun _ => False) w1 ((w5.alloc (.cells #[.string a, .string b, .slice none 0 0, .slice none 0 0] 80)).drew) := (HO5.out.alloc _).drew
        have hNs : w1.heap.size ≤ w5.heap.size := HO5.out.size
        obtain ⟨N, hN⟩ : ∃ N, w5.heap.size = N := ⟨_, rfl⟩
        obtain ⟨w6, hw6⟩ : ∃ x, (w5.alloc (.cells #[.string a, .string b, .slice none 0 0, .slice none 0 0] 80)).drew = x := ⟨_, rfl⟩
        rw [hN] at hN6 hNs ⊢
        rw [hw6] at hN6 hO6 ⊢
        have HO6 := Lib.hid hO6
        have HNd : Hid (NodeAt w1.heap.size w6 N a b (.slice none 0 0) []) := show NodeAt _ _ _ _ _ _ _ from ⟨hN6, World.ownsRow_nil _ _ _ _, (fun _ h => by cases h), (fun k hk => by simp [Value.ownBlock] at hk)⟩
        have HNs : Hid (w1.heap.size ≤ N) := hNs
        clear hN6 hO6 hNs hw6 hN q0 q1 b5 HO5
        by_cases cn : n = 0
        ·obtain rfl : r = [] := List.eq_nil_of_length_eq_zero (by rw [HN.out, cn])
         subst cn
         have HS0 : Hid (setsP (([] : List Str).map ByteArray.toList) = some (([] : List SetD).map SetD.toB)) := rfl
         have HNdF := HNd
         go_wp2_with fail
         go_loopw [68] (fun vi wr => Hid (w6 = wr) ∧ vi = .int .i64 0) (fun v _ => 0)
         case atStart => exact ⟨rfl, rfl⟩
         case round =>
          obtain ⟨hw, rfl⟩ := hrel
          obtain rfl := hw.out
          obtain ⟨w9, hw9⟩ : ∃ W, W = w6 := ⟨_, rfl⟩
          have HO9 := HO6
          rw [← hw9] at HNdF HO9 ⊢
          clear hw9
          have HWr : Hid (readsP (toG ((L0 ++ [m]).map LN.x)) line.toList = some (toG ((L0 ++ [m]).map LN.x) ++ [⟨a.toList, b.toList, ([] : List SetD).map SetD.toB, []⟩])) := by
           rw [Hid, HR.out, if_pos ⟨by omega, c24, HNa.out, HMb.out, HLt.out⟩, HS0.out]; rfl
          have HOw : Hid (Only (fun _ => False) w w9) := HO1.out.same HO9.out
          have HK : Hid (∀ W, Only (fun _ => False) w9 W → W.cell? ⟨P, 0, none⟩ = some (.slice (some ⟨g, 0, none⟩) (n0 + 1) cap) ∧ W.cell? ⟨N, 0, none⟩ = some (.string a) ∧ W.cell? ⟨N, 1, none⟩ = some (.string b) ∧ W.cell? ⟨N, 2, none⟩ = some (.slice none 0 0) ∧ W.cell? ⟨N, 3, none⟩ = some (.slice none 0 0)) := fun W o => by
           have hn := (HNdF.out.only0 o).blk
           refine ⟨?_, by rw [cell_block hn]; rfl, by rw [cell_block hn]; rfl, by rw [cell_block hn]; rfl, by rw [cell_block hn]; rfl⟩
           rw [World.cell?_of_block (w := w) ((HOw.out.same o).block _ (World.block_lt_of_cell? _ _ HCP.out) (fun f => f))]; exact HCP.out
          have HRw : Hid (∀ W, Only (fun _ => False) w9 W → W.ownsRow 0 80 4 (.slice (some ⟨g, 0, none⟩) (n0 + 1) cap) ((n0 + 1)) (flatN (L0 ++ [m]))) := fun W o => by
           have h := (HRow.out.only0 (HOw.out.same o)).own
           rw [HRv.out, HNl.out] at h
           exact h
          have HBk9 : Hid (∀ W, Only (fun k => (Value.slice (some ⟨g, 0, none⟩) (n0 + 1) cap).ownBlock = some k) w9 W → W.cell? ⟨P, 0, none⟩ = some (.slice (some ⟨g, 0, none⟩) (n0 + 1) cap) ∧ W.frozen? ⟨P, 0, none⟩ = false) := fun W o => by
           have b9 := (HOw.out.block P (Array.getElem?_eq_some_iff.1 HBk.out).1 (fun f => f)).trans HBk.out
           rw [HRv.out, HNl.out] at b9
           have bW := (o.block P (Array.getElem?_eq_some_iff.1 b9).1 (fun e => own_blk (by decide) (HRw.out w9 (Only.refl _ _)) b9 e)).trans b9
           exact ⟨by rw [cell_block bW]; rfl, frozen_block bW 0⟩
          have HDone : Hid (∀ w10 rv', w10.ownsRow 0 80 4 rv' ((n0 + 1) + 1) (flatN (L0 ++ [m]) ++ [.string a, .string b, (.slice none 0 0), .slice none 0 0]) → Only (fun k => (Value.slice (some ⟨g, 0, none⟩) (n0 + 1) cap).ownBlock = some k) w9 w10 → (∀ k, rv'.ownBlock = some k → (Value.slice (some ⟨g, 0, none⟩) (n0 + 1) cap).ownBlock = some k ∨ w9.heap.size ≤ k) → OneEnd B P (readsP (toG ((L0 ++ [m]).map LN.x)) line.toList) (L0 ++ [m]) w (w10.setCell ⟨P, 0, none⟩ rv') (.returned (.bool true))) := fun w10 rv' r1 o10 r3 =>
           reads_done HBk.out HOw.out HRow.out HBs.out ⟨HNdF.out.blk, HNdF.out.own, HNdF.out.oks, fun k hk => Nat.le_trans (Nat.le_trans HBs.out HO1.out.size) (HNdF.out.new k hk)⟩ HKa.out HKb.out (by rw [HNl.out]; exact r1) (by rw [HRv.out, HNl.out]; exact o10) (by rw [HRv.out, HNl.out]; exact r3) HWr.out
          have hNg : ∀ k, (Value.slice (some ⟨g, 0, none⟩) (n0 + 1) cap).ownBlock = some k → k ≠ N := fun k hk e => by
           have h := own_lt (HRow.out.own) (k := k) (by rw [HRv.out, HNl.out]; exact hk)
           have := HNs.out
           have := HO1.out.size
           omega
          have HKA : Hid (∀ W, Only (fun k => (Value.slice (some ⟨g, 0, none⟩) (n0 + 1) cap).ownBlock = some k) w9 W → W.cell? ⟨P, 0, none⟩ = some (.slice (some ⟨g, 0, none⟩) (n0 + 1) cap) ∧ W.cell? ⟨N, 0, none⟩ = some (.string a) ∧ W.cell? ⟨N, 1, none⟩ = some (.string b) ∧ W.cell? ⟨N, 2, none⟩ = some (.slice none 0 0) ∧ W.cell? ⟨N, 3, none⟩ = some (.slice none 0 0)) := fun W o => by
           have hn := (o.block N (Array.getElem?_eq_some_iff.1 HNdF.out.blk).1 (fun e => hNg N e rfl)).trans HNdF.out.blk
           exact ⟨(HBk9.out W o).1, by rw [cell_block hn]; rfl, by rw [cell_block hn]; rfl, by rw [cell_block hn]; rfl, by rw [cell_block hn]; rfl⟩
          have hS0 := HK.out w9.drew ((Only.refl _ _).drew)
          have hnl : (n0 + 1) ≤ 23 := by omega
          clear HR HNo HAt hNg
          go_wp2_with fail
          refine wp_region_G (n := 11) (E := fun j => j == 10) (S := fun W => W.cell? ⟨P, 0, none⟩ = some (.slice (some ⟨g, 0, none⟩) (n0 + 1) cap) ∧ W.cell? ⟨N, 0, none⟩ = some (.string a) ∧ W.cell? ⟨N, 1, none⟩ = some (.string b) ∧ W.cell? ⟨N, 2, none⟩ = some (.slice none 0 0) ∧ W.cell? ⟨N, 3, none⟩ = some (.slice none 0 0)) (by kernel_rfl) rfl hS0 (fun hHeld => ?_)
          refine tqW (i := 0) (v := ?_) rfl (.inr (by assumption)) ?_ ?_
          rotate_left
          ·(intro w; go_simp <;> (try with_reducible rfl))
          try simp only [Act.put, zq1, zq3, zq4, zq5, zq6]
          refine tqW (i := 1) (v := ?_) rfl (.inr (by assumption)) ?_ ?_
          rotate_left
          ·(intro w; go_simp <;> (try with_reducible rfl))
          try simp only [Act.put, zq1, zq2, zq3, zq4, zq5, zq6]
          refine tqW (i := 2) (v := ?_) rfl (.inr (by assumption)) ?_ ?_
          rotate_left
          ·(intro w; go_simp <;> (try with_reducible rfl))
          try simp only [Act.put, zq1, zq2, zq3, zq4, zq5, zq6]
          refine tqW (i := 3) (v := ?_) rfl (.inr (by assumption)) ?_ ?_
          rotate_left
          ·(intro w; go_simp <;> (try with_reducible rfl))
          try simp only [Act.put, zq1, zq2, zq3, zq4, zq5, zq6]
          refine tqK (i := 4) (v := ?_) rfl ?_ ?_
          rotate_left
          ·(intro w hSw; (try dsimp only at hSw); go_simp <;> (try with_reducible rfl))
          try simp only [Act.put, zq1, zq2, zq3, zq4, zq5, zq6]
          refine tqK (i := 5) (v := ?_) rfl ?_ ?_
          rotate_left
          ·(intro w hSw; (try dsimp only at hSw); go_simp <;> (try with_reducible rfl))
          try simp only [Act.put, zq1, zq2, zq3, zq4, zq5, zq6]
          refine wpAnyG_ready (rs := [6]) (by kernel_rfl) (by simp) ?_
          refine AllReadyG.cons (i := 6) rfl (fun K hK => ?_) ?_
          ·go_simp
           refine hK.out _ _ ?_ (fun hHeld => ?_)
           ·(try dsimp only) <;> (exact HK.out _ (by repeat (first | exact Only.refl _ _ | apply Only.drew | apply Only.alloc | apply Only.drewN)))
           clear hK K
           try simp only [Act.put, zq1, zq2, zq3, zq4, zq5, zq6]
           refine wpAnyG_ready (rs := [7]) (by kernel_rfl) (by simp) ?_
           refine AllReadyG.cons (i := 7) rfl (fun K hK => ?_) ?_
           ·(refine stepAN slNode (by rfl) (.tmp 90) (.tmp 92) (by rfl) (by rfl) (HRw.out _ (by repeat (first | exact Only.refl _ _ | apply Only.drew | apply Only.alloc | apply Only.drewN))) (by rfl) (news := [.string a, .string b, (.slice none 0 0), .slice none 0 0]) (by rfl) (by intro h; cases h) (fun ad hd j u hu => by cases hd; exact cells_new (by exact heap_alloc_new _ _) hu) (by intro u hu; simp at hu; rcases hu with rfl | rfl | rfl | rfl <;> first | rfl | exact hone1) (by omega) (by decide) ?_; intro ao5 cap5 w10 r5 o5 nr5; have oA : Only (fun k => (Value.slice (some ⟨g, 0, none⟩) (n0 + 1) cap).ownBlock = some k) w9 w10 := Only.trans (by repeat (first | exact Only.refl _ _ | apply Only.drew | apply Only.alloc | apply Only.drewN)) o5 (fun k hk => .inl hk); have rA : ∀ k, (Value.slice ao5 ((n0 + 1) + 1) cap5).ownBlock = some k → (Value.slice (some ⟨g, 0, none⟩) (n0 + 1) cap).ownBlock = some k ∨ w9.heap.size ≤ k := fun k hk => by (rcases nr5 k hk with h | h; exact Or.inl h; exact Or.inr (by simp at h; omega)))
            refine hK.out _ _ ?_ (fun hHeld => ?_)
            ·(try dsimp only) <;> (exact HKA.out w10 oA)
            clear hK K
            try simp only [Act.put, zq1, zq2, zq3, zq4, zq5, zq6]
            refine tqW (i := 8) (v := ?_) rfl (.inr (by assumption)) ?_ ?_
            rotate_left
            ·(intro w; go_simp <;> (try with_reducible rfl))
            try simp only [Act.put, zq1, zq2, zq3, zq4, zq5, zq6]
            refine tqW (i := 9) (v := ?_) rfl (.inr (by assumption)) ?_ ?_
            rotate_left
            ·(intro w; go_simp <;> (try with_reducible rfl))
            try simp only [Act.put, zq1, zq2, zq3, zq4, zq5, zq6]
            refine wpAnyG_ready (rs := [10]) (by kernel_rfl) (by simp) ?_
            refine AllReadyG.late (i := 10) rfl (by kernel_rfl) (fun K hK => ?_) ?_
            ·(have c10 := (HBk9.out w10 oA).1; have f10 := (HBk9.out w10 oA).2; go_simp)
             refine hK.out _ _ ?_
             clear hK K
             try simp only [Act.put, zq1, zq2, zq3, zq4, zq5, zq6]
             refine wpAnyG_done (by kernel_rfl) ?_ _
             have HFin := Lib.hid (HDone.out w10 _ r5 oA rA)
             go_wp2_with fail
             go_ret
             exact HFin.out
            exact AllReadyG.nil
           exact AllReadyG.nil
          exact AllReadyG.nil
        ·have cn2 : ¬ ((n : Int) + 2 = 2) := by omega
         have cn3 : (2 : Int) ≤ (n : Int) + 2 := by omega
         have cn4 : ¬ n + 2 = 2 := by omega
         have cn5 : 2 ≤ n + 2 := by omega
         have cn6 : n + 2 - 2 = n := by omega
         go_wp2_with fail
         go_loopw [68] (fun vi wr => Hid (Only (fun _ => False) w1 wr) ∧ ∃ (i : Nat) (S : List SetD) (sv : Value), vi = .int .i64 i ∧ i ≤ n ∧ Hid (NodeAt w1.heap.size wr N a b sv S) ∧ Hid (S.length = i) ∧ Hid (setsP ((r.take i).map ByteArray.toList) = some (S.map SetD.toB))) (fun v _ => n - (RowKit.intOf v).toNat)
         case atStart => exact ⟨HO6, 0, [], _, rfl, Nat.zero_le _, HNd, rfl, rfl⟩
         case round =>
          obtain ⟨HO9, i, S, sv, rfl, hi, HNdF, HSl, HSp⟩ := hrel
          by_cases ci : i < n
          ·have ewi : IntKind.i64.wrap ((i : Int) + 1) = (i : Int) + 1 := by rw [IntKind.wrap_i64]; omega
           obtain ⟨x, hx⟩ : ∃ x, r[i]? = some x := ⟨_, List.getElem?_eq_getElem (by rw [HN.out]; exact ci)⟩
           have qx := HAt.out wr HO9.out (i + 2) x (by simpa using hx)
           rw [Nat.add_comm i 2] at qx
           have hxs : x.size < 4294967281 := by have := HSzs.out x (by simp [List.mem_of_getElem? hx]); have := HSz.out; omega
           have HSet := Lib.hid (setting_x (w := wr) x hxs (HM.out.only (HO1.out.same HO9.out)))
           have HX := Lib.hid hx
           clear hx hxs
           go_wp2_with fail
           refine HSet.out.mono ?_
           rintro e w7 ⟨d, ok, rfl, hset, hd1, hd2, O7⟩
           have HO7 := Lib.hid (HO9.out.same O7)
           have HNd7 := Lib.hid (HNdF.out.only0 O7)
           have HSet2 := Lib.hid hset
           have HD := Lib.hid (And.intro hd1 hd2)
           clear O7 HSet hset hd1 hd2 qx HNdF HO9
           cases ok with
           | false =>
            have HE : Hid (∀ W, Only (fun _ => False) w1 W → OneEnd B P (readsP (toG ((L0 ++ [m]).map LN.x)) line.toList) (L0 ++ [m]) w W (.returned (.bool false))) := fun W o => HNo.out W o (by
             rw [HR.out]
             split
             ·rw [setsP_bad HX.out HSet2.out]; rfl
             ·rfl)
            clear HR HNo
            go_wp2_with fail
            go_ret
            exact HE.out _ (HO7.out.alloc _)
           | true =>
            have HO8 : Hid (Only (fun _ => False) w7 ((w7.alloc (.cells #[.string d.name, .string d.value] 60)).alloc (.cells #[.string d.name, .string d.value] 60))) := ((Only.refl _ _).alloc _).alloc _
            have HNd8 := Lib.hid (HNd7.out.only0 HO8.out)
            have c8 : (w7.alloc (.cells #[.string d.name, .string d.value] 60)).cell? ⟨N, 2, none⟩ = some sv := by rw [cell_block (HNd7.out.only0 ((Only.refl (fun _ => False) w7).alloc (.cells #[.string d.name, .string d.value] 60))).blk]; rfl
            have HNw : Hid (∀ j u, [Value.string d.name, .string d.value][j]? = some u → ((w7.alloc (.cells #[.string d.name, .string d.value] 60)).alloc (.cells #[.string d.name, .string d.value] 60)).cell? ((⟨w7.heap.size + 1, 0, none⟩ : Addr).add j) = some u) := fun j u hu => cells_new (by have h := heap_alloc_new (w7.alloc (.cells #[.string d.name, .string d.value] 60)) (.cells #[.string d.name, .string d.value] 60); rw [World.size_alloc] at h; exact h) hu
            have hSl := HSl.out
            go_wp2_with (at_builtin; go_must (refine wpA (news := [.string d.name, .string d.value]) slSet rfl (.tmp 80) (.tmp 82) rfl rfl HNd8.out.own (ad := ⟨w7.heap.size + 1, 0, none⟩) (m := 1) (c := 1) rfl rfl HNw.out (by simp [Value.oneCell']) (by unfold maxLen; omega) (by omega) ?_))
            intro v' w10 r1 r2 r3 r4 r5
            have hB8 : w1.heap.size ≤ ((w7.alloc (.cells #[.string d.name, .string d.value] 60)).alloc (.cells #[.string d.name, .string d.value] 60)).heap.size := Nat.le_trans HO7.out.size HO8.out.size
            have hnx := HNd8.out.next (d := d) HNs.out (by rw [HSl.out]; exact r1) ((Only.refl _ _).grown r2 fun k hk => .inl hk) (by simpa using r3) HD.out hB8
            have HNx := Lib.hid hnx.1
            have c10 := hnx.2.1
            have f10 := hnx.2.2.1
            have HO10 := Lib.hid (((HO7.out.same HO8.out).trans hnx.2.2.2 (fun k hk => .inr hk)))
            obtain ⟨ga, gcap, hv', -, -⟩ := own_slice r1
            have HSp2 := Lib.hid (setsP_next HX.out HSp.out HSet2.out)
            have hlen2 : (S ++ [d]).length = i + 1 := by rw [List.length_append, hSl]; rfl
            have HSl2 := Lib.hid hlen2
            subst hv'
            clear hnx r1 r2 r3 r5 hB8 c8 hSl hlen2 HNd7 HNd8 HNw HO8
            go_wp2_with fail
            go_roundw
            case rel => exact ⟨HO10, i + 1, S ++ [d], _, by first | rfl | go_num, by omega, HNx, HSl2, HSp2⟩
            case measure => simp [RowKit.intOf] <;> omega
          ·obtain rfl : i = n := by omega
           have HS0 : Hid (setsP (r.map ByteArray.toList) = some (S.map SetD.toB)) := by have h := HSp.out; rw [List.take_of_length_le (Nat.le_of_eq HN.out)] at h; exact h
           obtain ⟨sa, sc, hsv, -, -⟩ := own_slice HNdF.out.own
           have hone1 : sv.oneCell' = true := by rw [hsv]; rfl
           obtain ⟨w9, hw9⟩ : ∃ W, W = wr := ⟨_, rfl⟩
           rw [← hw9] at HNdF HO9 ⊢
           clear hw9 hsv
           have HWr : Hid (readsP (toG ((L0 ++ [m]).map LN.x)) line.toList = some (toG ((L0 ++ [m]).map LN.x) ++ [⟨a.toList, b.toList, S.map SetD.toB, []⟩])) := by
            rw [Hid, HR.out, if_pos ⟨by omega, c24, HNa.out, HMb.out, HLt.out⟩, HS0.out]; rfl
           have HOw : Hid (Only (fun _ => False) w w9) := HO1.out.same HO9.out
           have HK : Hid (∀ W, Only (fun _ => False) w9 W → W.cell? ⟨P, 0, none⟩ = some (.slice (some ⟨g, 0, none⟩) (n0 + 1) cap) ∧ W.cell? ⟨N, 0, none⟩ = some (.string a) ∧ W.cell? ⟨N, 1, none⟩ = some (.string b) ∧ W.cell? ⟨N, 2, none⟩ = some sv ∧ W.cell? ⟨N, 3, none⟩ = some (.slice none 0 0)) := fun W o => by
            have hn := (HNdF.out.only0 o).blk
            refine ⟨?_, by rw [cell_block hn]; rfl, by rw [cell_block hn]; rfl, by rw [cell_block hn]; rfl, by rw [cell_block hn]; rfl⟩
            rw [World.cell?_of_block (w := w) ((HOw.out.same o).block _ (World.block_lt_of_cell? _ _ HCP.out) (fun f => f))]; exact HCP.out
           have HRw : Hid (∀ W, Only (fun _ => False) w9 W → W.ownsRow 0 80 4 (.slice (some ⟨g, 0, none⟩) (n0 + 1) cap) ((n0 + 1)) (flatN (L0 ++ [m]))) := fun W o => by
            have h := (HRow.out.only0 (HOw.out.same o)).own
            rw [HRv.out, HNl.out] at h
            exact h
           have HBk9 : Hid (∀ W, Only (fun k => (Value.slice (some ⟨g, 0, none⟩) (n0 + 1) cap).ownBlock = some k) w9 W → W.cell? ⟨P, 0, none⟩ = some (.slice (some ⟨g, 0, none⟩) (n0 + 1) cap) ∧ W.frozen? ⟨P, 0, none⟩ = false) := fun W o => by
            have b9 := (HOw.out.block P (Array.getElem?_eq_some_iff.1 HBk.out).1 (fun f => f)).trans HBk.out
            rw [HRv.out, HNl.out] at b9
            have bW := (o.block P (Array.getElem?_eq_some_iff.1 b9).1 (fun e => own_blk (by decide) (HRw.out w9 (Only.refl _ _)) b9 e)).trans b9
            exact ⟨by rw [cell_block bW]; rfl, frozen_block bW 0⟩
           have HDone : Hid (∀ w10 rv', w10.ownsRow 0 80 4 rv' ((n0 + 1) + 1) (flatN (L0 ++ [m]) ++ [.string a, .string b, sv, .slice none 0 0]) → Only (fun k => (Value.slice (some ⟨g, 0, none⟩) (n0 + 1) cap).ownBlock = some k) w9 w10 → (∀ k, rv'.ownBlock = some k → (Value.slice (some ⟨g, 0, none⟩) (n0 + 1) cap).ownBlock = some k ∨ w9.heap.size ≤ k) → OneEnd B P (readsP (toG ((L0 ++ [m]).map LN.x)) line.toList) (L0 ++ [m]) w (w10.setCell ⟨P, 0, none⟩ rv') (.returned (.bool true))) := fun w10 rv' r1 o10 r3 =>
            reads_done HBk.out HOw.out HRow.out HBs.out ⟨HNdF.out.blk, HNdF.out.own, HNdF.out.oks, fun k hk => Nat.le_trans (Nat.le_trans HBs.out HO1.out.size) (HNdF.out.new k hk)⟩ HKa.out HKb.out (by rw [HNl.out]; exact r1) (by rw [HRv.out, HNl.out]; exact o10) (by rw [HRv.out, HNl.out]; exact r3) HWr.out
           have hNg : ∀ k, (Value.slice (some ⟨g, 0, none⟩) (n0 + 1) cap).ownBlock = some k → k ≠ N := fun k hk e => by
            have h := own_lt (HRow.out.own) (k := k) (by rw [HRv.out, HNl.out]; exact hk)
            have := HNs.out
            have := HO1.out.size
            omega
           have HKA : Hid (∀ W, Only (fun k => (Value.slice (some ⟨g, 0, none⟩) (n0 + 1) cap).ownBlock = some k) w9 W → W.cell? ⟨P, 0, none⟩ = some (.slice (some ⟨g, 0, none⟩) (n0 + 1) cap) ∧ W.cell? ⟨N, 0, none⟩ = some (.string a) ∧ W.cell? ⟨N, 1, none⟩ = some (.string b) ∧ W.cell? ⟨N, 2, none⟩ = some sv ∧ W.cell? ⟨N, 3, none⟩ = some (.slice none 0 0)) := fun W o => by
            have hn := (o.block N (Array.getElem?_eq_some_iff.1 HNdF.out.blk).1 (fun e => hNg N e rfl)).trans HNdF.out.blk
            exact ⟨(HBk9.out W o).1, by rw [cell_block hn]; rfl, by rw [cell_block hn]; rfl, by rw [cell_block hn]; rfl, by rw [cell_block hn]; rfl⟩
           have hS0 := HK.out w9.drew ((Only.refl _ _).drew)
           have hnl : (n0 + 1) ≤ 23 := by omega
           clear HR HNo HAt hNg
           go_wp2_with fail
           refine wp_region_G (n := 11) (E := fun j => j == 10) (S := fun W => W.cell? ⟨P, 0, none⟩ = some (.slice (some ⟨g, 0, none⟩) (n0 + 1) cap) ∧ W.cell? ⟨N, 0, none⟩ = some (.string a) ∧ W.cell? ⟨N, 1, none⟩ = some (.string b) ∧ W.cell? ⟨N, 2, none⟩ = some sv ∧ W.cell? ⟨N, 3, none⟩ = some (.slice none 0 0)) (by kernel_rfl) rfl hS0 (fun hHeld => ?_)
           refine tqW (i := 0) (v := ?_) rfl (.inr (by assumption)) ?_ ?_
           rotate_left
           ·(intro w; go_simp <;> (try with_reducible rfl))
           try simp only [Act.put, zq1, zq3, zq4, zq5, zq6]
           refine tqW (i := 1) (v := ?_) rfl (.inr (by assumption)) ?_ ?_
           rotate_left
           ·(intro w; go_simp <;> (try with_reducible rfl))
           try simp only [Act.put, zq1, zq2, zq3, zq4, zq5, zq6]
           refine tqW (i := 2) (v := ?_) rfl (.inr (by assumption)) ?_ ?_
           rotate_left
           ·(intro w; go_simp <;> (try with_reducible rfl))
           try simp only [Act.put, zq1, zq2, zq3, zq4, zq5, zq6]
           refine tqW (i := 3) (v := ?_) rfl (.inr (by assumption)) ?_ ?_
           rotate_left
           ·(intro w; go_simp <;> (try with_reducible rfl))
           try simp only [Act.put, zq1, zq2, zq3, zq4, zq5, zq6]
           refine tqK (i := 4) (v := ?_) rfl ?_ ?_
           rotate_left
           ·(intro w hSw; (try dsimp only at hSw); go_simp <;> (try with_reducible rfl))
           try simp only [Act.put, zq1, zq2, zq3, zq4, zq5, zq6]
           refine tqK (i := 5) (v := ?_) rfl ?_ ?_
           rotate_left
           ·(intro w hSw; (try dsimp only at hSw); go_simp <;> (try with_reducible rfl))
           try simp only [Act.put, zq1, zq2, zq3, zq4, zq5, zq6]
           refine wpAnyG_ready (rs := [6]) (by kernel_rfl) (by simp) ?_
           refine AllReadyG.cons (i := 6) rfl (fun K hK => ?_) ?_
           ·go_simp
            refine hK.out _ _ ?_ (fun hHeld => ?_)
            ·(try dsimp only) <;> (exact HK.out _ (by repeat (first | exact Only.refl _ _ | apply Only.drew | apply Only.alloc | apply Only.drewN)))
            clear hK K
            try simp only [Act.put, zq1, zq2, zq3, zq4, zq5, zq6]
            refine wpAnyG_ready (rs := [7]) (by kernel_rfl) (by simp) ?_
            refine AllReadyG.cons (i := 7) rfl (fun K hK => ?_) ?_
            ·(refine stepAN slNode (by rfl) (.tmp 90) (.tmp 92) (by rfl) (by rfl) (HRw.out _ (by repeat (first | exact Only.refl _ _ | apply Only.drew | apply Only.alloc | apply Only.drewN))) (by rfl) (news := [.string a, .string b, sv, .slice none 0 0]) (by rfl) (by intro h; cases h) (fun ad hd j u hu => by cases hd; exact cells_new (by exact heap_alloc_new _ _) hu) (by intro u hu; simp at hu; rcases hu with rfl | rfl | rfl | rfl <;> first | rfl | exact hone1) (by omega) (by decide) ?_; intro ao5 cap5 w10 r5 o5 nr5; have oA : Only (fun k => (Value.slice (some ⟨g, 0, none⟩) (n0 + 1) cap).ownBlock = some k) w9 w10 := Only.trans (by repeat (first | exact Only.refl _ _ | apply Only.drew | apply Only.alloc | apply Only.drewN)) o5 (fun k hk => .inl hk); have rA : ∀ k, (Value.slice ao5 ((n0 + 1) + 1) cap5).ownBlock = some k → (Value.slice (some ⟨g, 0, none⟩) (n0 + 1) cap).ownBlock = some k ∨ w9.heap.size ≤ k := fun k hk => by (rcases nr5 k hk with h | h; exact Or.inl h; exact Or.inr (by simp at h; omega)))
             refine hK.out _ _ ?_ (fun hHeld => ?_)
             ·(try dsimp only) <;> (exact HKA.out w10 oA)
             clear hK K
             try simp only [Act.put, zq1, zq2, zq3, zq4, zq5, zq6]
             refine tqW (i := 8) (v := ?_) rfl (.inr (by assumption)) ?_ ?_
             rotate_left
             ·(intro w; go_simp <;> (try with_reducible rfl))
             try simp only [Act.put, zq1, zq2, zq3, zq4, zq5, zq6]
             refine tqW (i := 9) (v := ?_) rfl (.inr (by assumption)) ?_ ?_
             rotate_left
             ·(intro w; go_simp <;> (try with_reducible rfl))
             try simp only [Act.put, zq1, zq2, zq3, zq4, zq5, zq6]
             refine wpAnyG_ready (rs := [10]) (by kernel_rfl) (by simp) ?_
             refine AllReadyG.late (i := 10) rfl (by kernel_rfl) (fun K hK => ?_) ?_
             ·(have c10 := (HBk9.out w10 oA).1; have f10 := (HBk9.out w10 oA).2; go_simp)
              refine hK.out _ _ ?_
              clear hK K
              try simp only [Act.put, zq1, zq2, zq3, zq4, zq5, zq6]
              refine wpAnyG_done (by kernel_rfl) ?_ _
              have HFin := Lib.hid (HDone.out w10 _ r5 oA rA)
              go_wp2_with fail
              go_ret
              exact HFin.out
             exact AllReadyG.nil
            exact AllReadyG.nil
           exact AllReadyG.nil
end
end Go.Proofs.YtmlfchjompfmaaaDoor
