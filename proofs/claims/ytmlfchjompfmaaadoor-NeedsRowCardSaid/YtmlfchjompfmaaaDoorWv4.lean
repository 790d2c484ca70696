/- strings.SplitSeq at one byte: the iterator. -/
import Derived.Test.YtmlfchjompfmaaaDoorWv3
import Derived.Test.YtmlfchjompfmaaaDoorSq1
import Derived.Lib.IndexLaws
import Derived.Shelf.Abstract
import Derived.Shelf.RegionOpen
import Derived.WalkKit
import Derived.OwnWalkIn
import Derived.TacticsInMore
import Derived.LoopNIn
import Derived.LoopIn
set_option linter.unusedVariables false
namespace Go.Proofs.YtmlfchjompfmaaaDoor
open Go.RowKit
attribute [local go_sem] Oper.semAt_some
theorem cut_none {l : List UInt8} {c : UInt8} (h : Lib.indexByte l c = -1) : cutB c l = [l] :=
 cutB_none fun b hb e => by
  subst e
  obtain ⟨k, hk⟩ := List.mem_iff_getElem?.1 hb
  exact Lib.indexByte_none h k hk
theorem cut_some {l : List UInt8} {c : UInt8} {o : Nat} (h : Lib.indexByte l c = o) : o < l.length ∧ cutB c l = l.take o :: cutB c (l.drop (o + 1)) := by
 obtain ⟨h1, h2⟩ := Lib.indexByte_some h
 obtain ⟨hlt, h3⟩ := List.getElem?_eq_some_iff.1 h1
 refine ⟨hlt, ?_⟩
 have e : l = l.take o ++ c :: l.drop (o + 1) := by
  rw [← h3, ← List.drop_eq_getElem_cons hlt, List.take_append_drop]
 conv => lhs; rw [e]
 refine cutB_at fun b hb e => ?_
 subst e
 obtain ⟨k, hk⟩ := List.mem_iff_getElem?.1 hb
 rw [List.getElem?_take] at hk
 split at hk
 ·exact h2 k (by assumption) hk
 ·cases hk
abbrev bsS (a : List UInt8) : Str := ⟨a.toArray⟩
theorem bsS_toList (s : Str) : bsS s.toList = s := toList_inj (by rw [ByteArray.toList_eq])
def leftS (bs : Nat) (w : World) : Nat := match w.cell? ⟨bs, 0, none⟩ with | some (.string r) => r.size + 1 | _ => 0
theorem leftS_eq {bs : Nat} {w : World} {r : Str} (h : Boxed w bs 9 (.string r)) : leftS bs w = r.size + 1 := by unfold leftS; rw [h.cell]
section
variable {w w' : World} {B : Nat}
theorem Index_x (s : Str) (W : World) : Calls Tryd.prog 76 #[.string s, .string ⟨#[46]⟩] W (fun e w' => e = .returned (.int .i64 (Lib.indexByte s.toList 46)) ∧ w' = W) := by
 rw [ByteArray.toList_eq]
 exact Sv.strings_Index_one s 46 W
set_option maxRecDepth 100000 in
set_option maxHeartbeats 4000000 in
theorem split_seq (n : Nat) (hn : 1 ≤ n) (bp bs bv : Nat) (s : Str) (hs : s.size ≤ 1000000) (h1 : bs ≠ bp) (h2 : bs ≠ bv)
  (hp : Boxed w bp 9 (.string ⟨#[46]⟩)) (hbs : Boxed w bs 9 (.string s)) (hv : Boxed w bv 3 (.int .i64 0)) :
  SeqC Fence.wide n Tryd.prog 114 #[.pointer (some ⟨bp, 0, none⟩), .pointer (some ⟨bs, 0, none⟩), .pointer (some ⟨bv, 0, none⟩)] (fun a : List UInt8 => .string (bsS a)) (fun k => k = bp ∨ k = bs ∨ k = bv) (cutB 46 s.toList) w := fun l J Jx W hC hsz hJ hJx hY h0 => by
 have hp0 : Boxed W bp 9 (.string ⟨#[46]⟩) := (hC bp (.inl rfl)).trans hp
 have hs0 : Boxed W bs 9 (.string s) := (hC bs (.inr (.inl rfl))).trans hbs
 have hv0 : Boxed W bv 3 (.int .i64 0) := (hC bv (.inr (.inr rfl))).trans hv
 have HY := Lib.hid hY
 have HJ := Lib.hid hJ
 have HS0 := Lib.hid hs0
 have HV0 := Lib.hid hv0
 have HP0 := Lib.hid hp0
 have cp := hp0.cell
 have cs := hs0.cell
 clear hY hJ hC hp hbs hv hs0 hv0 hp0
 refine callsIn_of_wp Tryd.func114 rfl trivial ?_ rfl
 simp only [Tryd.ntmps114, List.size_toArray, List.length_cons, List.length_nil, Nat.reduceAdd, Nat.reduceSub, Array.replicate_succ, Array.replicate_zero, List.push_toArray, List.append_toArray, List.nil_append, List.cons_append]
 gi_wp2
 gi_loopw [7] (fun _ wr => ∃ (pre : List (List UInt8)) (r : Str), Hid (cutB 46 s.toList = pre ++ cutB 46 r.toList) ∧ r.size ≤ 1000000 ∧ Hid (Boxed wr bs 9 (.string r)) ∧ Hid (Boxed wr bp 9 (.string ⟨#[46]⟩)) ∧ Hid (Boxed wr bv 3 (.int .i64 0)) ∧ Hid (J pre wr)) (fun _ wr => leftS bs wr)
 case atStart => exact ⟨[], s, rfl, hs, HS0, HP0, HV0, h0⟩
 case round =>
  obtain ⟨pre, r, HX, hr, HBs, HBp, HBv, HJr⟩ := hrel
  have cp := HBp.out.cell
  have cs := HBs.out.cell
  have cv := HBv.out.cell
  have fs := HBs.out.frozen
  obtain ⟨o, ho⟩ : ∃ o, Lib.indexByte r.toList 46 = o := ⟨_, rfl⟩
  have hge := Lib.indexByte_ge r.toList 46
  rw [ho] at hge
  have HI : Hid (∀ m, CallsIn Fence.wide m Tryd.prog 76 #[.string r, .string ⟨#[46]⟩] wr fun e w' => e = .returned (.int .i64 o) ∧ w' = wr) := fun m => callsIn_wide.2 (by rw [← ho]; exact Index_x r wr)
  by_cases c0 : o < 0
  ·have hx : cutB 46 s.toList = pre ++ r.toList :: [] := by rw [HX.out, cut_none (by rw [ho]; omega)]
   obtain ⟨fn, tmps, assign, body, hy, hR⟩ := HY.out pre r.toList [] wr HJr.out hx
   rw [bsS_toList] at hy
   have HR := Lib.hid hR
   have HX2 := Lib.hid hx
   clear hR hx HX ho HJ HY
   gi_wp2
   refine ⟨trivial, (HI.out _).mono ?_⟩
   rintro e w1 ⟨rfl, rfl⟩
   gi_wp2
   refine HR.out.mono ?_
   rintro e W2 (⟨rfl, hJ2, -, -⟩ | ⟨rfl, hJx⟩)
   ·gi_wp2
    go_end0
    exact ⟨⟨_, rfl⟩, .inl (by rw [HX2.out]; exact hJ2)⟩
   ·gi_wp2
    go_end0
    exact ⟨⟨_, rfl⟩, .inr ⟨_, by rw [HX2.out]; exact List.prefix_refl _, hJx⟩⟩
  ·obtain ⟨k, rfl⟩ : ∃ k : Nat, o = k := ⟨o.toNat, by omega⟩
   obtain ⟨hk, hcut⟩ := cut_some ho
   rw [size_toList] at hk
   have e1 : bsS (r.toList.take k) = r.extract 0 k := toList_inj (by rw [ext_toList, List.drop_zero, Nat.sub_zero, ByteArray.toList_eq])
   have e2 : (r.extract (k + 1) r.size).toList = r.toList.drop (k + 1) := by
    rw [ext_toList]
    exact List.take_of_length_le (by rw [List.length_drop, size_toList]; omega)
   have hx : cutB 46 s.toList = pre ++ r.toList.take k :: cutB 46 (r.toList.drop (k + 1)) := by rw [HX.out, hcut]
   obtain ⟨fn, tmps, assign, body, hy, hR⟩ := HY.out pre (r.toList.take k) _ wr HJr.out hx
   rw [e1] at hy
   have HR := Lib.hid hR
   have HX2 : Hid (cutB 46 s.toList = (pre ++ [r.toList.take k]) ++ cutB 46 (r.extract (k + 1) r.size).toList) := by
    rw [Hid, hx, e2, List.append_assoc]; rfl
   have HPre : Hid ((pre ++ [r.toList.take k]) <+: cutB 46 s.toList) := ⟨_, HX2.out.symm⟩
   have ew1 : IntKind.i64.wrap ((k : Int) + 0) = (k : Int) := by rw [IntKind.wrap_i64]; omega
   have ew2 : IntKind.i64.wrap ((k : Int) + 1) = ((k + 1 : Nat) : Int) := by rw [IntKind.wrap_i64]; omega
   clear hR hx hcut HX ho e1 e2 HY
   gi_wp2
   refine ⟨trivial, (HI.out _).mono ?_⟩
   rintro e w1 ⟨rfl, rfl⟩
   gi_wp2
   refine HR.out.mono ?_
   rintro e W2 (⟨rfl, hJ2, hC2, hS2⟩ | ⟨rfl, hJx⟩)
   ·have hp2 : Boxed W2 bp 9 (.string ⟨#[46]⟩) := (hC2 bp (.inl rfl)).trans HBp.out
    have hs2 : Boxed W2 bs 9 (.string r) := (hC2 bs (.inr (.inl rfl))).trans HBs.out
    have hv2 : Boxed W2 bv 3 (.int .i64 0) := (hC2 bv (.inr (.inr rfl))).trans HBv.out
    have HB2 := Lib.hid (And.intro hp2 (And.intro hs2 (And.intro hv2 hJ2)))
    have cp2 := hp2.cell
    have cs2 := hs2.cell
    have cv2 := hv2.cell
    have fs2 := hs2.frozen
    clear hp2 hs2 hv2 hJ2 cp cs cv fs HR
    gi_wp2
    go_roundw
    case rel =>
     obtain ⟨hp2, hs2, hv2, hJ2⟩ := HB2.out
     exact ⟨_, _, HX2, by rw [ByteArray.size_extract]; omega, hs2.set _, hp2.other h1.symm _, hv2.other h2.symm _, HJ.out _ _ _ hJ2 ((Only.refl _ _).setCell (p := ⟨bs, 0, none⟩) (.inl (.inr (.inl rfl))) _)⟩
    case measure =>
     obtain ⟨hp2, hs2, hv2, hJ2⟩ := HB2.out
     rw [leftS_eq (hs2.set _), leftS_eq HBs.out, ByteArray.size_extract]
     omega
   ·gi_wp2
    refine bodyPost_ret (results_none rfl _ _ _) rfl ?_
    exact ⟨⟨_, rfl⟩, .inr ⟨_, HPre.out, hJx⟩⟩
end
end Go.Proofs.YtmlfchjompfmaaaDoor
