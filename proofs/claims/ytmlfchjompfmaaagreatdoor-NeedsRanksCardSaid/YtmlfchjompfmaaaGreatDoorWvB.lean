/- Wv4 Wv5 Wv6, in one text. -/
import Derived.Test.YtmlfchjompfmaaaGreatDoorWv3
import Derived.Test.YtmlfchjompfmaaaGreatDoorSq1
import Derived.Lib.IndexLaws
import Derived.Shelf.Abstract
import Derived.Shelf.RegionOpen
import Derived.WalkKit
import Derived.OwnWalkIn
import Derived.TacticsInMore
import Derived.LoopNIn
import Derived.LoopIn
import Derived.Test.YtmlfchjompfmaaaGreatDoorStepA
import Derived.Maps.AppendAt
set_option linter.unusedVariables false
namespace Go.Proofs.YtmlfchjompfmaaaGreatDoor
open Go.RowKit
attribute [local go_sem] Oper.semAt_some
theorem cut_none {l : List UInt8} {c : UInt8} (h : Lib.indexByte l c = -1) : cutB c l = [l] :=
 cutB_none fun b hb e => by
  subst e
  obtain ⟨k, hk⟩ := List.mem_iff_getElem?.1 hb
  exact Lib.indexByte_none h k hk
theorem cut_some {l : List UInt8} {c : UInt8} {o : Nat} (h : Lib.indexByte l c = o) : o < l.length ∧ cutB c l = l.take o :: cutB c (l.drop (o + 1)) := by
 obtain ⟨h1, h2⟩ := Lib.indexByte_some h
 obtain ⟨hlt, h3⟩ := List.getElem?_eq_some_iff.1 h1
 refine ⟨hlt, ?_⟩
 have e : l = l.take o ++ c :: l.drop (o + 1) := by
  rw [← h3, ← List.drop_eq_getElem_cons hlt, List.take_append_drop]
 conv => lhs; rw [e]
 refine cutB_at fun b hb e => ?_
 subst e
 obtain ⟨k, hk⟩ := List.mem_iff_getElem?.1 hb
 rw [List.getElem?_take] at hk
 split at hk
 ·exact h2 k (by assumption) hk
 ·cases hk
abbrev bsS (a : List UInt8) : Str := ⟨a.toArray⟩
theorem bsS_toList (s : Str) : bsS s.toList = s := toList_inj (by rw [ByteArray.toList_eq])
def leftS (bs : Nat) (w : World) : Nat := match w.cell? ⟨bs, 0, none⟩ with | some (.string r) => r.size + 1 | _ => 0
theorem leftS_eq {bs : Nat} {w : World} {r : Str} (h : Boxed w bs 9 (.string r)) : leftS bs w = r.size + 1 := by unfold leftS; rw [h.cell]
section
variable {w w' : World} {B : Nat}
theorem Index_x (s : Str) (W : World) : Calls Tryz.prog 73 #[.string s, .string ⟨#[46]⟩] W (fun e w' => e = .returned (.int .i64 (Lib.indexByte s.toList 46)) ∧ w' = W) := by
 rw [ByteArray.toList_eq]
 exact Sv.strings_Index_one s 46 W
set_option maxRecDepth 100000 in
set_option maxHeartbeats 4000000 in
theorem split_seq (n : Nat) (hn : 1 ≤ n) (bp bs bv : Nat) (s : Str) (hs : s.size ≤ 1000000) (h1 : bs ≠ bp) (h2 : bs ≠ bv)
  (hp : Boxed w bp 9 (.string ⟨#[46]⟩)) (hbs : Boxed w bs 9 (.string s)) (hv : Boxed w bv 3 (.int .i64 0)) :
  SeqC Fence.wide n Tryz.prog 71 #[.pointer (some ⟨bp, 0, none⟩), .pointer (some ⟨bs, 0, none⟩), .pointer (some ⟨bv, 0, none⟩)] (fun a : List UInt8 => .string (bsS a)) (fun k => k = bp ∨ k = bs ∨ k = bv) (cutB 46 s.toList) w := fun l J Jx W hC hsz hJ hJx hY h0 => by
 have hp0 : Boxed W bp 9 (.string ⟨#[46]⟩) := (hC bp (.inl rfl)).trans hp
 have hs0 : Boxed W bs 9 (.string s) := (hC bs (.inr (.inl rfl))).trans hbs
 have hv0 : Boxed W bv 3 (.int .i64 0) := (hC bv (.inr (.inr rfl))).trans hv
 have HY := Lib.hid hY
 have HJ := Lib.hid hJ
 have HS0 := Lib.hid hs0
 have HV0 := Lib.hid hv0
 have HP0 := Lib.hid hp0
 have cp := hp0.cell
 have cs := hs0.cell
 clear hY hJ hC hp hbs hv hs0 hv0 hp0
 refine callsIn_of_wp Tryz.func71 rfl trivial ?_ rfl
 simp only [Tryz.ntmps71, List.size_toArray, List.length_cons, List.length_nil, Nat.reduceAdd, Nat.reduceSub, Array.replicate_succ, Array.replicate_zero, List.push_toArray, List.append_toArray, List.nil_append, List.cons_append]
 gi_wp2
 gi_loopw [7] (fun _ wr => ∃ (pre : List (List UInt8)) (r : Str), Hid (cutB 46 s.toList = pre ++ cutB 46 r.toList) ∧ r.size ≤ 1000000 ∧ Hid (Boxed wr bs 9 (.string r)) ∧ Hid (Boxed wr bp 9 (.string ⟨#[46]⟩)) ∧ Hid (Boxed wr bv 3 (.int .i64 0)) ∧ Hid (J pre wr)) (fun _ wr => leftS bs wr)
 case atStart => exact ⟨[], s, rfl, hs, HS0, HP0, HV0, h0⟩
 case round =>
  obtain ⟨pre, r, HX, hr, HBs, HBp, HBv, HJr⟩ := hrel
  have cp := HBp.out.cell
  have cs := HBs.out.cell
  have cv := HBv.out.cell
  have fs := HBs.out.frozen
  obtain ⟨o, ho⟩ : ∃ o, Lib.indexByte r.toList 46 = o := ⟨_, rfl⟩
  have hge := Lib.indexByte_ge r.toList 46
  rw [ho] at hge
  have HI : Hid (∀ m, CallsIn Fence.wide m Tryz.prog 73 #[.string r, .string ⟨#[46]⟩] wr fun e w' => e = .returned (.int .i64 o) ∧ w' = wr) := fun m => callsIn_wide.2 (by rw [← ho]; exact Index_x r wr)
  by_cases c0 : o < 0
  ·have hx : cutB 46 s.toList = pre ++ r.toList :: [] := by rw [HX.out, cut_none (by rw [ho]; omega)]
   obtain ⟨fn, tmps, assign, body, hy, hR⟩ := HY.out pre r.toList [] wr HJr.out hx
   rw [bsS_toList] at hy
   have HR := Lib.hid hR
   have HX2 := Lib.hid hx
   clear hR hx HX ho HJ HY
   gi_wp2
   refine ⟨trivial, (HI.out _).mono ?_⟩
   rintro e w1 ⟨rfl, rfl⟩
   gi_wp2
   refine HR.out.mono ?_
   rintro e W2 (⟨rfl, hJ2, -, -⟩ | ⟨rfl, hJx⟩)
   ·gi_wp2
    go_end0
    exact ⟨⟨_, rfl⟩, .inl (by rw [HX2.out]; exact hJ2)⟩
   ·gi_wp2
    go_end0
    exact ⟨⟨_, rfl⟩, .inr ⟨_, by rw [HX2.out]; exact List.prefix_refl _, hJx⟩⟩
  ·obtain ⟨k, rfl⟩ : ∃ k : Nat, o = k := ⟨o.toNat, by omega⟩
   obtain ⟨hk, hcut⟩ := cut_some ho
   rw [size_toList] at hk
   have e1 : bsS (r.toList.take k) = r.extract 0 k := toList_inj (by rw [ext_toList, List.drop_zero, Nat.sub_zero, ByteArray.toList_eq])
   have e2 : (r.extract (k + 1) r.size).toList = r.toList.drop (k + 1) := by
    rw [ext_toList]
    exact List.take_of_length_le (by rw [List.length_drop, size_toList]; omega)
   have hx : cutB 46 s.toList = pre ++ r.toList.take k :: cutB 46 (r.toList.drop (k + 1)) := by rw [HX.out, hcut]
   obtain ⟨fn, tmps, assign, body, hy, hR⟩ := HY.out pre (r.toList.take k) _ wr HJr.out hx
   rw [e1] at hy
   have HR := Lib.hid hR
   have HX2 : Hid (cutB 46 s.toList = (pre ++ [r.toList.take k]) ++ cutB 46 (r.extract (k + 1) r.size).toList) := by
    rw [Hid, hx, e2, List.append_assoc]; rfl
   have HPre : Hid ((pre ++ [r.toList.take k]) <+: cutB 46 s.toList) := ⟨_, HX2.out.symm⟩
   have ew1 : IntKind.i64.wrap ((k : Int) + 0) = (k : Int) := by rw [IntKind.wrap_i64]; omega
   have ew2 : IntKind.i64.wrap ((k : Int) + 1) = ((k + 1 : Nat) : Int) := by rw [IntKind.wrap_i64]; omega
   clear hR hx hcut HX ho e1 e2 HY
   gi_wp2
   refine ⟨trivial, (HI.out _).mono ?_⟩
   rintro e w1 ⟨rfl, rfl⟩
   gi_wp2
   refine HR.out.mono ?_
   rintro e W2 (⟨rfl, hJ2, hC2, hS2⟩ | ⟨rfl, hJx⟩)
   ·have hp2 : Boxed W2 bp 9 (.string ⟨#[46]⟩) := (hC2 bp (.inl rfl)).trans HBp.out
    have hs2 : Boxed W2 bs 9 (.string r) := (hC2 bs (.inr (.inl rfl))).trans HBs.out
    have hv2 : Boxed W2 bv 3 (.int .i64 0) := (hC2 bv (.inr (.inr rfl))).trans HBv.out
    have HB2 := Lib.hid (And.intro hp2 (And.intro hs2 (And.intro hv2 hJ2)))
    have cp2 := hp2.cell
    have cs2 := hs2.cell
    have cv2 := hv2.cell
    have fs2 := hs2.frozen
    clear hp2 hs2 hv2 hJ2 cp cs cv fs HR
    gi_wp2
    go_roundw
    case rel =>
     obtain ⟨hp2, hs2, hv2, hJ2⟩ := HB2.out
     exact ⟨_, _, HX2, by rw [ByteArray.size_extract]; omega, hs2.set _, hp2.other h1.symm _, hv2.other h2.symm _, HJ.out _ _ _ hJ2 ((Only.refl _ _).setCell (p := ⟨bs, 0, none⟩) (.inl (.inr (.inl rfl))) _)⟩
    case measure =>
     obtain ⟨hp2, hs2, hv2, hJ2⟩ := HB2.out
     rw [leftS_eq (hs2.set _), leftS_eq HBs.out, ByteArray.size_extract]
     omega
   ·gi_wp2
    refine bodyPost_ret (results_none rfl _ _ _) rfl ?_
    exact ⟨⟨_, rfl⟩, .inr ⟨_, HPre.out, hJx⟩⟩
end
end Go.Proofs.YtmlfchjompfmaaaGreatDoor
namespace Go.Proofs.YtmlfchjompfmaaaGreatDoor
open Go.RowKit
open Vn (partB rankOf numOf wordOf)
attribute [local go_sem] Oper.semAt_some
section
variable {w w' : World} {B : Nat}
theorem SplitSeq_x (s sep : Str) : Calls Tryz.prog 47 #[.string s, .string sep] w (fun e w' => e = .returned (.func (.func 71) #[] #[.pointer (some ⟨w.heap.size + 1, 0, none⟩), .pointer (some ⟨w.heap.size, 0, none⟩), .pointer (some ⟨w.heap.size + 2, 0, none⟩)]) ∧
  w' = ((w.alloc (.cells #[.string s] 9)).alloc (.cells #[.string sep] 9)).alloc (.cells #[.int .i64 0] 3)) := by
 go_enter Tryz.func47, Tryz.ntmps47
 go_wp2
 go_ret
 exact ⟨by simp, rfl⟩
def flatP (l : List (List UInt8)) : List Value := l.flatMap fun a => [.int .i64 (rankOf a : Int), .int .i64 (numOf a : Int), .string (bsS (wordOf a))]
theorem flatP_snoc (l : List (List UInt8)) (a : List UInt8) : flatP (l ++ [a]) = flatP l ++ [.int .i64 (rankOf a : Int), .int .i64 (numOf a : Int), .string (bsS (wordOf a))] := by simp [flatP]
theorem flatP_at : ∀ (l : List (List UInt8)) (i : Nat) (a : List UInt8), l[i]? = some a → ∀ j u, [Value.int .i64 (rankOf a : Int), .int .i64 (numOf a : Int), .string (bsS (wordOf a))][j]? = some u → (flatP l)[i * 3 + j]? = some u
 | [], i, a, h, _, _, _ => by simp at h
 | b :: l, 0, a, h, j, u, hu => by
  simp at h
  subst h
  have hj : j < 3 := by have := (List.getElem?_eq_some_iff.1 hu).1; simpa using this
  show ([Value.int .i64 (rankOf b : Int), .int .i64 (numOf b : Int), .string (bsS (wordOf b))] ++ flatP l)[0 * 3 + j]? = _
  rw [List.getElem?_append_left (by simp; omega), Nat.zero_mul, Nat.zero_add]
  exact hu
 | b :: l, i + 1, a, h, j, u, hu => by
  show ([Value.int .i64 (rankOf b : Int), .int .i64 (numOf b : Int), .string (bsS (wordOf b))] ++ flatP l)[(i + 1) * 3 + j]? = _
  rw [List.getElem?_append_right (by simp; omega)]
  have e : (i + 1) * 3 + j - [Value.int .i64 (rankOf b : Int), .int .i64 (numOf b : Int), .string (bsS (wordOf b))].length = i * 3 + j := by simp; omega
  rw [e]
  exact flatP_at l i a (by simpa using h) j u hu
theorem slPart : SlT Tryz.prog 78 82 3 32 := SlT.mk' (z := .agg #[.int .i64 0, .int .i64 0, .string .empty]) Tryz.underlying78 (by kernel_rfl) rfl (by decide)
theorem own_zero {base : Nat} {e : TypeId} {size k : Nat} {v : Value} {xs : List Value} (h : w.ownsRow base e size v k xs) : w.ownsRow 0 e size v k xs := by
 refine ⟨h.1, ?_⟩
 rcases h.2 with ⟨rfl, h0⟩ | ⟨g, cap, cur, rfl, hb, hr⟩
 ·exact .inl ⟨rfl, h0⟩
 ·exact .inr ⟨g, cap, cur, rfl, Nat.zero_le _, hr⟩
theorem bsS_list (a : List UInt8) : (bsS a).toList = a := by rw [ByteArray.toList_eq]
theorem parts_row {base : Nat} {v : Value} {l : List (List UInt8)} (h : w.ownsRow base 82 3 v l.length (flatP l)) (hp : l.all partB = true) (hk : ∀ a ∈ l, a.length ≤ 1000) : RowT 3 PartC w.heap.size w v (l.map partOf) := by
 refine RowT.of_own (e := 82) (cs := flatP l) (by rw [List.length_map]; exact own_zero h) fun i hi => ?_
 rw [List.length_map] at hi
 refine ⟨_, rfl, flatP_at l i l[i] (List.getElem?_eq_getElem hi), ?_⟩
 rw [List.getElem_map]
 rw [List.all_eq_true] at hp
 have hpa := hp l[i] (List.getElem_mem hi)
 have hla := hk l[i] (List.getElem_mem hi)
 refine ⟨rfl, ?_, ?_, ?_⟩
 ·show rankOf l[i] ≤ 2
  unfold rankOf
  split
  ·omega
  ·split <;> omega
 ·show numOf l[i] ≤ 999999999
  unfold numOf
  split
  ·omega
  ·split
   ·omega
   ·rename_i h1 h2
    unfold partB at hpa
    rw [Bool.or_eq_true] at hpa
    have := (Vn.num_read (hpa.resolve_left h2)).2.1
    omega
 ·show okS (bsS (wordOf l[i]))
  unfold okS bsS
  have : (wordOf l[i]).length ≤ 1000 := by
   unfold wordOf
   split
   ·exact hla
   ·simp
  show (wordOf l[i]).toArray.size ≤ _
  rw [List.size_toArray]
  unfold maxLen
  omega
end
attribute [local go_sem] Oper.semAt_some
section
variable {w w' : World} {B : Nat}
def PartsEnd (s : Str) (w w' : World) (e : Ending) : Prop := ∃ v ok, e = .returned (.tuple #[v, .bool ok]) ∧ mayB s.toList = ok ∧ (ok = true → RowT 3 PartC w'.heap.size w' v ((cutB 46 s.toList).map partOf)) ∧ Only (fun _ => False) w w'
theorem PartsEnd.no {s : Str} {w w' : World} {e : Ending} {v : Value} (he : e = .returned (.tuple #[v, .bool false])) (h : mayB s.toList = false) (ho : Only (fun _ => False) w w') : PartsEnd s w w' e := ⟨v, false, he, h, (fun hh => by cases hh), ho⟩
theorem results_parts {v : Value} {ok : Bool} {tmps : Array Value} {b2 b3 : Nat} (h2 : tmps.getD 2 undef = .pointer (some ⟨b2, 0, none⟩)) (h3 : tmps.getD 3 undef = .pointer (some ⟨b3, 0, none⟩)) (hb2 : Boxed w b2 78 v) (hb3 : Boxed w b3 4 (.bool ok)) :
  (results Tryz.f30 tmps).run Tryz.prog w = .ok (.tuple #[v, .bool ok]) w := by
 have e : Tryz.f30.results = #[.cell 2 78, .cell 3 4] := rfl
 have c2 := hb2.cell
 have c3 := hb3.cell
 have g2 : tmps[2]?.getD undef = .pointer (some ⟨b2, 0, none⟩) := by simpa using h2
 have g3 : tmps[3]?.getD undef = .pointer (some ⟨b3, 0, none⟩) := by simpa using h3
 simp only [results, e]
 simp [Sem.run_bind, Result.andThen, g2, g3, asAddr, loadVar, c2, c3, go_sem]
theorem not_may_part {s : Str} {pre suf : List (List UInt8)} {x : List UInt8} (h : cutB 46 s.toList = pre ++ x :: suf) (hx : partB x = false) : mayB s.toList = false := by
 unfold mayB
 have : (cutB 46 s.toList).all partB = false := by
  rw [h, List.all_append, List.all_cons, hx, Bool.false_and, Bool.and_false]
 rw [this, Bool.and_false, Bool.false_and]
theorem not_may_long {s : Str} {pre suf : List (List UInt8)} {x : List UInt8} (h : cutB 46 s.toList = pre ++ x :: suf) (hl : pre.length = 8) : mayB s.toList = false := by
 unfold mayB
 rw [decide_eq_false (p := (cutB 46 s.toList).length ≤ 8) (by rw [h, List.length_append, List.length_cons]; omega), Bool.and_false]
theorem cut_len : ∀ (l : List UInt8), ∀ a ∈ cutB 46 l, a.length ≤ l.length
 | [], a, h => by
  simp [cutB] at h
  simp [h]
 | b :: r, a, h => by
  unfold cutB at h
  split at h
  ·rcases List.mem_cons.1 h with rfl | h
   ·simp
   ·have := cut_len r a h
    simp; omega
  ·split at h
   ·rename_i he
    exact absurd he (cutB_ne 46 r)
   ·rename_i h0 t he
    rcases List.mem_cons.1 h with rfl | h
    ·have := cut_len r h0 (by rw [he]; exact List.mem_cons_self)
     simp; omega
    ·have := cut_len r a (by rw [he]; exact List.mem_cons_of_mem _ h)
     simp; omega
def PI (w : World) (b2 b3 b4 base : Nat) (pre : List (List UInt8)) (W : World) : Prop := ∃ v, Boxed W b4 78 v ∧ W.ownsRow base 82 3 v pre.length (flatP pre) ∧ pre.all partB = true ∧ pre.length ≤ 8 ∧
 Boxed W b2 78 (.slice none 0 0) ∧ Boxed W b3 4 (.bool false) ∧ Only (fun _ => False) w W
theorem Boxed.only {W W' : World} {k : Nat} {t : TypeId} {u : Value} {F : Nat → Prop} (h : Boxed W k t u) (ho : Only F W W') (hk : ¬ F k) : Boxed W' k t u := (ho.block k h.lt hk).trans h
theorem PI.keep {w : World} {b2 b3 b4 base : Nat} {pre : List (List UInt8)} {W W' : World} {F : Nat → Prop} (h : PI w b2 b3 b4 base pre W) (ho : Only F W W') (h2 : ¬ F b2) (h3 : ¬ F b3) (h4 : ¬ F b4) (hb : ∀ k, base ≤ k → ¬ F k) (hw : ∀ k, F k → w.heap.size ≤ k) : PI w b2 b3 b4 base pre W' := by
 obtain ⟨v, g1, g2, g3, g4, g5, g6, g7⟩ := h
 exact ⟨v, Boxed.only g1 ho h4, own_only g2 ho (fun k hk => hb k (g2.lt k hk).1), g3, g4, Boxed.only g5 ho h2, Boxed.only g6 ho h3, g7.trans ho fun k hk => .inr (hw k hk)⟩
def PR (w : World) (s : Str) (b2 b3 : Nat) (W : World) : Prop := mayB s.toList = false ∧ Boxed W b2 78 (.slice none 0 0) ∧ Boxed W b3 4 (.bool false) ∧ Only (fun _ => False) w W
theorem PR.keep {w : World} {s : Str} {b2 b3 : Nat} {W W' : World} {F : Nat → Prop} (h : PR w s b2 b3 W) (ho : Only F W W') (h2 : ¬ F b2) (h3 : ¬ F b3) (hw : ∀ k, F k → w.heap.size ≤ k) : PR w s b2 b3 W' := by
 obtain ⟨g1, g5, g6, g7⟩ := h
 exact ⟨g1, Boxed.only g5 ho h2, Boxed.only g6 ho h3, g7.trans ho fun k hk => .inr (hw k hk)⟩
set_option maxRecDepth 100000 in
set_option maxHeartbeats 4000000 in
theorem parts_x (s : Str) (hs : okS s) (hL : Laid w) : Calls Tryz.prog 30 #[.string s] w (fun e w' => PartsEnd s w w' e) := by
 refine (callsIn_wide (n := 9)).1 ?_
 refine callsIn_of_wp_marks Tryz.func30 rfl trivial ?_ rfl
 simp only [Tryz.ntmps30, List.size_toArray, List.length_cons, List.length_nil, Nat.reduceAdd, Nat.reduceSub, Array.replicate_succ, Array.replicate_zero, List.push_toArray, List.append_toArray, List.nil_append, List.cons_append]
 have b2 : Boxed ((w.alloc (.cells #[.slice none 0 0] 78)).alloc (.cells #[.bool false] 4)) w.heap.size 78 (.slice none 0 0) := (Boxed.new w _ _).alloc _
 have b3 : Boxed ((w.alloc (.cells #[.slice none 0 0] 78)).alloc (.cells #[.bool false] 4)) (w.heap.size + 1) 4 (.bool false) := by
  have := Boxed.new (w.alloc (.cells #[.slice none 0 0] 78)) 4 (.bool false)
  rwa [World.size_alloc] at this
 have oB : Only (fun _ => False) w ((w.alloc (.cells #[.slice none 0 0] 78)).alloc (.cells #[.bool false] 4)) := ((Only.refl _ w).alloc _).alloc _
 have HB := Lib.hid (And.intro b2 (And.intro b3 oB))
 clear b2 b3 oB
 by_cases h0 : s.size = 0
 ·obtain rfl := size_zero h0
  clear hL hs
  gi_wp2
  obtain ⟨b2, b3, oB⟩ := HB.out
  exact ⟨_, results_parts rfl rfl b2 b3, PartsEnd.no rfl (by unfold mayB; rw [size_toList, decide_eq_false (by omega : ¬ 0 < (⟨#[]⟩ : ByteArray).size), Bool.false_and, Bool.false_and, Bool.false_and]) oB⟩
 ·have hemp : s.toList.isEmpty = false := by rw [isE, decide_eq_false h0]
  by_cases h40 : 40 < s.size
  ·have h41 : (40 : Int) < (s.size : Int) := by omega
   clear hL
   gi_wp2
   obtain ⟨b2, b3, oB⟩ := HB.out
   exact ⟨_, results_parts rfl rfl b2 b3, PartsEnd.no rfl (by unfold mayB; rw [size_toList, decide_eq_false (by omega : ¬ s.size ≤ 40), Bool.and_false, Bool.false_and, Bool.false_and]) oB⟩
  ·have h41 : ¬ (40 : Int) < (s.size : Int) := by omega
   have h42 : (s.size : Int) ≤ 40 := by omega
   have h43 : s.size ≤ 40 := by omega
   have HL := Lib.hid hL
   obtain ⟨wa, hwa⟩ : ∃ x, ((w.alloc (.cells #[.slice none 0 0] 78)).alloc (.cells #[.bool false] 4)).alloc (.cells #[.slice none 0 0] 78) = x := ⟨_, rfl⟩
   obtain ⟨b2, b3, oB⟩ := HB.out
   obtain ⟨m, hm⟩ : ∃ m, w.heap.size + 3 = m := ⟨_, rfl⟩
   have hsa : wa.heap.size = m := by rw [← hwa, ← hm]; simp
   have a2 : Boxed wa w.heap.size 78 (.slice none 0 0) := by rw [← hwa]; exact b2.alloc _
   have a3 : Boxed wa (w.heap.size + 1) 4 (.bool false) := by rw [← hwa]; exact b3.alloc _
   have a4 : Boxed wa (w.heap.size + 1 + 1) 78 (.slice none 0 0) := by
    rw [← hwa]
    have := Boxed.new ((w.alloc (.cells #[.slice none 0 0] 78)).alloc (.cells #[.bool false] 4)) 78 (.slice none 0 0)
    simpa using this
   have oa : Only (fun _ => False) w wa := by rw [← hwa]; exact oB.alloc _
   have HA := Lib.hid (And.intro a2 (And.intro a3 (And.intro a4 oa)))
   have HSA := Lib.hid hsa
   have hS := SplitSeq_x (w := wa) s ⟨#[46]⟩
   rw [hsa] at hS
   have HS := Lib.hid hS
   clear hS
   clear HB b2 b3 oB a2 a3 a4 oa hsa hL hs
   gi_wp2
   clear hwa
   refine ⟨trivial, (callsIn_wide.2 HS.out).mono ?_⟩
   rintro e w1 ⟨rfl, hw1⟩
   have c3 : Boxed w1 m 9 (.string s) := by
    rw [hw1, ← HSA.out]; exact ((Boxed.new wa _ _).alloc _).alloc _
   have c4 : Boxed w1 (m + 1) 9 (.string ⟨#[46]⟩) := by
    rw [hw1]
    have := (Boxed.new (wa.alloc (.cells #[.string s] 9)) 9 (.string ⟨#[46]⟩)).alloc (.cells #[.int .i64 0] 3)
    rw [World.size_alloc, HSA.out] at this
    exact this
   have c5 : Boxed w1 (m + 2) 3 (.int .i64 0) := by
    rw [hw1]
    have := Boxed.new ((wa.alloc (.cells #[.string s] 9)).alloc (.cells #[.string ⟨#[46]⟩] 9)) 3 (.int .i64 0)
    rw [World.size_alloc, World.size_alloc, HSA.out] at this
    exact this
   have o1 : Only (fun _ => False) wa w1 := by rw [hw1]; exact (((Only.refl _ wa).alloc _).alloc _).alloc _
   have hs1 : w1.heap.size = m + 3 := by rw [hw1]; simp [HSA.out]
   obtain ⟨a2, a3, a4, oa⟩ := HA.out
   have keep : ∀ {k : Nat} {t : TypeId} {u : Value}, Boxed wa k t u → Boxed w1 k t u := fun h => (o1.block _ h.lt (fun f => f)).trans h
   have HW1 := Lib.hid (And.intro (keep a2) (And.intro (keep a3) (And.intro (keep a4) (And.intro c3 (And.intro c4 (And.intro c5 (And.intro (oa.same o1) hs1)))))))
   clear hw1 c3 c4 c5 o1 hs1 a2 a3 a4 oa keep HA HS HSA
   gi_wp2
   obtain ⟨a2, a3, a4, c3, c4, c5, ow, hs1⟩ := HW1.out
   refine wpIn_seqC rfl (by omega) (gf := 71) (lb := #[.pointer (some ⟨m + 1, 0, none⟩), .pointer (some ⟨m, 0, none⟩), .pointer (some ⟨m + 2, 0, none⟩)]) (C := fun k => k = m + 1 ∨ k = m ∨ k = m + 2) (enc := fun a : List UInt8 => .string (bsS a)) rfl trivial (enters_of Tryz.func71 (by kernel_rfl) rfl)
    (split_seq (w := w1) 8 (by omega) (m + 1) m (m + 2) s (by omega) (by omega) (by omega) c4 c3 c5) (fun k hk => by omega) (OwnC.refl _ _) (Nat.le_refl _) rfl
    (fun k => k = w.heap.size ∨ k = w.heap.size + 1 ∨ k = w.heap.size + 1 + 1 ∨ m + 5 ≤ k) (fun k hk => by omega)
    (PI w w.heap.size (w.heap.size + 1) (w.heap.size + 1 + 1) (m + 5)) (fun _ => PR w s w.heap.size (w.heap.size + 1))
    (fun p W W' h ho => h.keep ho (by omega) (by omega) (by omega) (fun k hk => by omega) (fun k hk => by omega))
    (fun p W W' h ho => h.keep ho (by omega) (by omega) (fun k hk => by omega))
    ⟨_, a4, World.ownsRow_nil _ _ _ _, rfl, by simp, a2, a3, ow⟩ (a₁ := ?a1) ?assign ?body ?done ?stop
   case assign =>
    intro l x W K hK
    gi_wp2
    exact hK
   case body =>
    have HS1 := Lib.hid hs1
    clear a2 a3 a4 c3 c4 c5 ow hs1 HW1
    rintro l pre x suf W hsz hI hx
    obtain ⟨v, g1, g2, g3, g4, g5, g6, g7⟩ := hI
    have hxl : x.length ≤ 40 := by
     have := cut_len s.toList x (by rw [hx]; simp)
     rw [size_toList] at this
     omega
    have HRd := Lib.hid (read_x (w := W) (bsS x) (by show x.toArray.size ≤ _; rw [List.size_toArray]; omega) (HL.out.only g7))
    have HX := Lib.hid hx
    have HI := Lib.hid (And.intro g1 (And.intro g2 (And.intro g3 (And.intro g4 (And.intro g5 (And.intro g6 g7))))))
    clear hx hxl g1 g2 g3 g4 g5 g6 g7
    gi_wp2
    refine ⟨trivial, (CallsIn.inRound l (callsIn_wide.2 HRd.out)).mono ?_⟩
    rintro e W2 ⟨xr, yn, tw, ok, rfl, hok, hv, O2⟩
    rw [bsS_list] at hok hv
    obtain ⟨g1, g2, g3, g4, g5, g6, g7⟩ := HI.out
    have k1 := Boxed.only g1 O2 (fun f => f)
    have k2 := own_only g2 O2 (fun _ _ f => f)
    have k5 := Boxed.only g5 O2 (fun f => f)
    have k6 := Boxed.only g6 O2 (fun f => f)
    have HK := Lib.hid (And.intro k1 (And.intro k2 (And.intro g3 (And.intro g4 (And.intro k5 (And.intro k6 (g7.same O2)))))))
    have HV := Lib.hid (And.intro hok hv)
    have HO := Lib.hid O2
    obtain ⟨ao, cap, rfl, l1, l2⟩ := own_slice k2
    obtain ⟨cs, hcs⟩ : ∃ cs, (#[.int .i64 xr, .int .i64 yn, .string tw] : Array Value) = cs := ⟨_, rfl⟩
    have o3 : Only (fun _ => False) W2 (W2.alloc (.cells #[.int .i64 xr, .int .i64 yn, .string tw] 82)) := (Only.refl _ _).alloc _
    have q4 := (Boxed.only k1 o3 (fun f => f)).cell
    have f4 := (Boxed.only k1 o3 (fun f => f)).frozen
    have q2 := (Boxed.only k5 o3 (fun f => f)).cell
    have f2 := (Boxed.only k5 o3 (fun f => f)).frozen
    have q3 := (Boxed.only k6 o3 (fun f => f)).cell
    have f3 := (Boxed.only k6 o3 (fun f => f)).frozen
    have hok2 := hok
    clear hok hv O2 g1 g2 g3 g4 g5 g6 g7 k1 k2 k5 k6 HI HRd o3 hcs
    cases ok with
    | false =>
     clear hok2
     gi_wp2
     obtain ⟨k1, k2, g3, g4, k5, k6, g7⟩ := HK.out
     exact ⟨(((HO.out.mono fun _ f => f.elim).alloc _).setCell (p := ⟨w.heap.size, 0, none⟩) (.inl (.inl rfl)) _).setCell (p := ⟨w.heap.size + 1, 0, none⟩) (.inl (.inr (.inl rfl))) _,
      not_may_part HX.out HV.out.1, ((k5.alloc _).set _).other (by omega) _, ((k6.alloc _).other (by omega) _).set _, ((g7.alloc _).setCell (p := ⟨w.heap.size, 0, none⟩) (.inr (Nat.le_refl _)) _).setCell (p := ⟨w.heap.size + 1, 0, none⟩) (.inr (by simp)) _⟩
    | true =>
     by_cases c8 : pre.length = 8
     ·have c8' : (pre.length : Int) = 8 := by omega
      gi_wp2
      obtain ⟨k1, k2, g3, g4, k5, k6, g7⟩ := HK.out
      exact ⟨(((HO.out.mono fun _ f => f.elim).alloc _).setCell (p := ⟨w.heap.size, 0, none⟩) (.inl (.inl rfl)) _).setCell (p := ⟨w.heap.size + 1, 0, none⟩) (.inl (.inr (.inl rfl))) _,
       not_may_long HX.out c8, ((k5.alloc _).set _).other (by omega) _, ((k6.alloc _).other (by omega) _).set _, ((g7.alloc _).setCell (p := ⟨w.heap.size, 0, none⟩) (.inr (Nat.le_refl _)) _).setCell (p := ⟨w.heap.size + 1, 0, none⟩) (.inr (by simp)) _⟩
     ·have c8' : ¬ (pre.length : Int) = 8 := by omega
      obtain ⟨i0, z0, hi, hz0, hz1, hz2, hz3⟩ := slPart.info
      have HI0 := Lib.hid (And.intro hi (And.intro hz0 (And.intro hz1 (And.intro hz2 hz3))))
      obtain ⟨W4, hW4⟩ : ∃ W4, (W2.alloc (.cells #[.int .i64 xr, .int .i64 yn, .string tw] 82)).alloc (.cells #[.int .i64 xr, .int .i64 yn, .string tw] 82) = W4 := ⟨_, rfl⟩
      have o4 : Only (fun _ => False) W2 W4 := by rw [← hW4]; exact ((Only.refl _ _).alloc _).alloc _
      have hn4 : W4.heap[W2.heap.size + 1]? = some (.cells #[.int .i64 xr, .int .i64 yn, .string tw] 82 (0, 0)) := by
       rw [← hW4]
       have := heap_alloc_new (W2.alloc (.cells #[.int .i64 xr, .int .i64 yn, .string tw] 82)) (.cells #[.int .i64 xr, .int .i64 yn, .string tw] 82)
       rwa [World.size_alloc] at this
      obtain ⟨k1, k2, g3, g4, k5, k6, g7⟩ := HK.out
      have h8 := g4
      have HC4 : Hid (∀ (j : Nat) (u : Value), [Value.int .i64 xr, .int .i64 yn, .string tw][j]? = some u → W4.cell? ((⟨W2.heap.size + 1, 0, none⟩ : Addr).add j) = some u) := fun j u hu => by
       match j, hu with
       | 0, hu => simp at hu; subst hu; simp [World.cell?, Addr.add, hn4]
       | 1, hu => simp at hu; subst hu; simp [World.cell?, Addr.add, hn4]
       | 2, hu => simp at hu; subst hu; simp [World.cell?, Addr.add, hn4]
       | k + 3, hu => simp at hu
      have HOW := Lib.hid (own_only k2 o4 (fun _ _ f => f))
      have HB4 := Lib.hid (Boxed.only k1 o4 (fun f => f))
      have HNE : Hid (some (w.heap.size + 1 + 1) ≠ (Value.slice ao pre.length cap).ownBlock) := fun e => by have := (HOW.out.lt _ e.symm).1; omega
      have HO4 := Lib.hid o4
      have HW4 := Lib.hid hW4
      have hs4 : m + 5 ≤ W4.heap.size := by have := HO.out.size; have := o4.size; have := HS1.out; omega
      clear k1 k2 g3 g4 k5 k6 g7 o4 hn4 hi hz0 hz1 hz2 hz3 hW4
      gi_wp2_with (gi_at_builtin; rw [HW4.out]; obtain ⟨hi, hz0, hz1, hz2, hz3⟩ := HI0.out; refine wpListIn_append_own _ rfl _ _ 78 rfl (m + 5) 82 i0 z0 3 32 slPart.und hi hz0 hz1 hz2 hz3 (by decide) _ _ _ rfl HOW.out ⟨W2.heap.size + 1, 0, none⟩ 1 1 [.int .i64 xr, .int .i64 yn, .string tw] rfl rfl HC4.out (by simp [Value.oneCell']) (by unfold maxLen; omega) (by omega) hs4 ?_; intro v' w5 hown' hgrow _; obtain ⟨g5, cap5, rfl⟩ := ownsRow_succ hown'; have hb5 := HB4.out.kept hgrow HNE.out; have cb5 := hb5.cell; have fb5 := hb5.frozen)
      obtain ⟨k1, k2, g3, g4, k5, k6, g7⟩ := HK.out
      obtain ⟨hok, hv⟩ := HV.out
      obtain ⟨rfl, rfl, ht⟩ := hv (by first | rfl | trivial)
      have et : tw = bsS (wordOf x) := toList_inj (by rw [ht, bsS_list])
      subst et
      have hrow : ∀ k, (Value.slice ao pre.length cap).ownBlock = some k → m + 5 ≤ k := fun k hk => (HOW.out.lt _ hk).1
      have hrow5 : ∀ k, (Value.slice (some ⟨g5, 0, none⟩) (pre.length + 1) cap5).ownBlock = some k → m + 5 ≤ k := fun k hk => (hown'.lt _ hk).1
      have hsw : w.heap.size ≤ W2.heap.size := g7.size
      have oW : Only (fun k => k = w.heap.size ∨ k = w.heap.size + 1 ∨ k = w.heap.size + 1 + 1 ∨ m + 5 ≤ k) W w5 := ((HO.out.same HO4.out).mono fun _ f => f.elim).grown hgrow fun k hk => .inl (.inr (.inr (.inr (hrow k hk))))
      have ow5 : Only (fun _ => False) w w5 := (g7.same HO4.out).grown hgrow fun k hk => .inr (by have := hrow k hk; omega)
      have z2 : Boxed w5 w.heap.size 78 (.slice none 0 0) := (Boxed.only k5 HO4.out (fun f => f)).kept hgrow (fun e => by have := hrow _ e.symm; omega)
      have z3 : Boxed w5 (w.heap.size + 1) 4 (.bool false) := (Boxed.only k6 HO4.out (fun f => f)).kept hgrow (fun e => by have := hrow _ e.symm; omega)
      refine ⟨oW.setCell (p := ⟨w.heap.size + 1 + 1, 0, none⟩) (.inl (.inr (.inr (.inl rfl)))) _, _, hb5.set _, ?_, ?_, ?_, z2.other (by omega) _, z3.other (by omega) _, ow5.setCell (p := ⟨w.heap.size + 1 + 1, 0, none⟩) (.inr (by simp; omega)) _⟩
      ·rw [List.length_append, flatP_snoc]
       exact own_only hown' ((Only.refl (fun k => k = w.heap.size + 1 + 1) w5).setCell (p := ⟨w.heap.size + 1 + 1, 0, none⟩) (.inl rfl) _) (fun k hk e => by have := hrow5 k hk; omega)
      ·rw [List.all_append, g3, List.all_cons, hok]; rfl
      ·rw [List.length_append]; simp; omega
   case done =>
    have HS1 := Lib.hid hs1
    clear a2 a3 a4 c3 c4 c5 ow hs1 HW1
    rintro W hI hK
    obtain ⟨v, g1, g2, g3, g4, g5, g6, g7⟩ := hI
    obtain ⟨ao, cap, rfl, l1, l2⟩ := own_slice g2
    have HI := Lib.hid (And.intro g1 (And.intro g2 (And.intro g3 (And.intro g4 (And.intro g5 (And.intro g6 g7))))))
    have HKK := Lib.hid hK
    have q4 := g1.cell
    have q2 := g5.cell
    have f2 := g5.frozen
    have q3 := g6.cell
    have f3 := g6.frozen
    clear g1 g2 g3 g4 g5 g6 g7 hK
    gi_wp2
    obtain ⟨g1, g2, g3, g4, g5, g6, g7⟩ := HI.out
    have hD := HS1.out
    have o2 : Only (fun k => k = w.heap.size ∨ k = w.heap.size + 1) W ((W.setCell ⟨w.heap.size, 0, none⟩ (.slice ao (cutB 46 s.toList).length cap)).setCell ⟨w.heap.size + 1, 0, none⟩ (.bool true)) :=
     ((Only.refl _ W).setCell (p := ⟨w.heap.size, 0, none⟩) (.inl (.inl rfl)) _).setCell (p := ⟨w.heap.size + 1, 0, none⟩) (.inl (.inr rfl)) _
    have hK2 := (o2.block w1.heap.size (Array.getElem?_eq_some_iff.1 HKK.out).1 (by omega)).trans HKK.out
    refine ⟨by simp, .inl ⟨_, _, rfl, run_takeDeferred hK2, ?_⟩⟩
    have o3 : Only (fun k => k = w1.heap.size) ((W.setCell ⟨w.heap.size, 0, none⟩ (.slice ao (cutB 46 s.toList).length cap)).setCell ⟨w.heap.size + 1, 0, none⟩ (.bool true)) (((W.setCell ⟨w.heap.size, 0, none⟩ (.slice ao (cutB 46 s.toList).length cap)).setCell ⟨w.heap.size + 1, 0, none⟩ (.bool true)).putObj w1.heap.size (.deferred none)) :=
     ⟨rfl, rfl, rfl, by simp, fun k _ hn => World.putObj_heap_other hn⟩
    have hrow : ∀ k, (Value.slice ao (cutB 46 s.toList).length cap).ownBlock = some k → m + 5 ≤ k := fun k hk => (g2.lt _ hk).1
    have hm2 : mayB s.toList = true := by
     unfold mayB
     rw [size_toList, decide_eq_true (by omega), decide_eq_true h43, g3, decide_eq_true g4]; rfl
    refine ⟨_, results_parts rfl rfl (Boxed.only ((g5.set _).other (by omega) _) o3 (by omega)) (Boxed.only ((g6.other (by omega) _).set _) o3 (by omega)), _, true, rfl, hm2, fun _ => ?_, ?_⟩
    ·exact parts_row (own_only (own_only g2 o2 fun k hk e => by have := hrow k hk; omega) o3 fun k hk e => by have := hrow k hk; omega) g3 fun a ha => by
      have := cut_len s.toList a ha
      rw [size_toList] at this
      omega
    ·exact (g7.trans o2 fun k hk => .inr (by omega)).trans o3 fun k hk => .inr (by omega)
   case stop =>
    have HS1 := Lib.hid hs1
    clear a2 a3 a4 c3 c4 c5 ow hs1 HW1
    rintro pre W hpre hR hK
    obtain ⟨r1, r2, r3, r4⟩ := hR
    have hD := HS1.out
    gi_wp2
    refine ⟨by simp, .inl ⟨_, _, rfl, run_takeDeferred hK, ?_⟩⟩
    have o3 : Only (fun k => k = w1.heap.size) W (W.putObj w1.heap.size (.deferred none)) := ⟨rfl, rfl, rfl, by simp, fun k _ hn => World.putObj_heap_other hn⟩
    exact ⟨_, results_parts rfl rfl (Boxed.only r2 o3 (by omega)) (Boxed.only r3 o3 (by omega)), PartsEnd.no rfl r1 (r4.trans o3 fun k hk => .inr (by omega))⟩
end
end Go.Proofs.YtmlfchjompfmaaaGreatDoor
