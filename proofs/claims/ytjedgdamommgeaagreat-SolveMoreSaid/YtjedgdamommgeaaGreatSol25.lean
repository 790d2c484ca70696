/- What SolveMore asks: plain; its parts. -/
import Derived.Test.YtjedgdamommgeaaGreatFg10
import Derived.Test.YtjedgdamommgeaaGreatSolE
import Derived.Test.YtjedgdamommgeaaGreatSvA
import Derived.Test.YtjedgdamommgeaaGreatLrnP
import Derived.Test.YtjedgdamommgeaaGreatLists
set_option linter.unusedVariables false
namespace Go.Proofs.YtjedgdamommgeaaGreat
open Go.RowKit
open Tr
open Cnf (soB)
theorem fgOk : FgOk := fun _ _ _ _ _ H hop ⟨_, _, hh⟩ hsz => solve_forgets_any H hop hh hsz
namespace Sv
def twoTo (qs : List Int) (i : Nat) : Bool := (List.range i).any fun i' => (qs.take i').any fun m => m == -(qs.getD i' 0)
theorem twoTo_succ (qs : List Int) (i : Nat) : twoTo qs (i + 1) = (twoTo qs i || (qs.take i).any fun m => m == -(qs.getD i 0)) := by
 unfold twoTo
 rw [List.range_succ, List.any_append]
 simp
theorem twoTo_two {qs : List Int} (h0 : ∀ a ∈ qs, a ≠ 0) : twoTo qs qs.length = two qs := by
 have key : twoTo qs qs.length = true ↔ two qs = true := by
  unfold twoTo two
  simp only [List.any_eq_true, List.mem_range, beq_iff_eq, List.contains_iff_mem]
  constructor
  ·rintro ⟨i, hi, m, hm, e⟩
   have e2 : qs.getD i 0 = qs[i] := by rw [List.getD_eq_getElem?_getD, List.getElem?_eq_getElem hi]; rfl
   exact ⟨qs[i], List.getElem_mem _, by rw [← e2, ← e]; exact List.mem_of_mem_take hm⟩
  ·rintro ⟨l, hl, hm⟩
   obtain ⟨i, hi, rfl⟩ := List.getElem_of_mem hl
   obtain ⟨j, hj, e⟩ := List.getElem_of_mem hm
   have hne : i ≠ j := fun c => by
    subst c
    have := h0 _ hl
    omega
   have ei : qs.getD i 0 = qs[i] := by rw [List.getD_eq_getElem?_getD, List.getElem?_eq_getElem hi]; rfl
   have ej : qs.getD j 0 = qs[j] := by rw [List.getD_eq_getElem?_getD, List.getElem?_eq_getElem hj]; rfl
   rcases Nat.lt_or_ge i j with c | c
   ·refine ⟨j, hj, qs[i], ?_, by rw [ej]; omega⟩
    rw [List.mem_take_iff_getElem]
    exact ⟨i, by omega, rfl⟩
   ·refine ⟨i, hi, qs[j], ?_, by rw [ei]; exact e⟩
    rw [List.mem_take_iff_getElem]
    exact ⟨j, by omega, rfl⟩
 cases h1 : twoTo qs qs.length <;> cases h2 : two qs <;> simp_all
def Ans.st : Ans → Int
 | .sat _ _ => 1
 | .unsat _ _ => 2
 | .spent _ => 3
theorem more_unsat {n : Nat} {O P : List (List Int)} {qs : List Int} {a y : Ans} (hx : Right n O qs a) (hy : Right n (O ++ P) qs y) (hs : ∀ m, y ≠ .spent m) (h : a.st = 2) : y.st = 2 := by
 cases a with
 | sat m k => simp [Ans.st] at h
 | spent k => simp [Ans.st] at h
 | unsat core k =>
  obtain ⟨-, h2, h3⟩ := hx
  cases y with
  | sat m k2 =>
   obtain ⟨-, y2, y3⟩ := hy
   exact absurd (fun x hx => y3 x (h2 x hx)) (h3 m fun d hd => y2 d (List.mem_append_left _ hd))
  | unsat c2 k2 => rfl
  | spent k2 => exact absurd rfl (hs k2)
theorem core_unsat {n : Nat} {O : List (List Int)} {qs core : List Int} {k : Int} {y : Ans} (hx : Right n O qs (.unsat core k)) (hy : Right n O core y) (hs : ∀ m, y ≠ .spent m) : y.st = 2 := by
 obtain ⟨-, h2, h3⟩ := hx
 cases y with
 | sat m k2 =>
  obtain ⟨-, y2, y3⟩ := hy
  exact absurd y3 (h3 m y2)
 | unsat c2 k2 => rfl
 | spent k2 => exact absurd rfl (hs k2)
theorem free_st {n : Nat} (hn : n ≤ 65536) {qs : List Int} (has : ∀ a ∈ qs, a ≠ 0 ∧ a.natAbs ≤ n) {a : Ans} (hr : Right n [] qs a) (hs : ∀ m, a ≠ .spent m) : (a.st == 1) = !two qs := by
 have h := free_right hn has hr hs
 cases a with
 | sat m k => rw [h.1 ⟨m, k, rfl⟩]; rfl
 | unsat c k =>
  cases ht : two qs with
  | true => rfl
  | false => obtain ⟨m, k2, e⟩ := h.2 ht; cases e
 | spent k => exact absurd rfl (hs k)
end Sv
section
variable {w : World}
theorem ans_cells {w w' : World} {a : Sv.Ans} {cs : Array Value} (h : AnsAt w w' a cs) : ∃ va vb k, cs = #[.int .u8 a.st, va, vb, .int .i64 k] ∧ va.oneCell' = true ∧ vb.oneCell' = true := by
 cases a with
 | sat m met =>
  obtain ⟨vm, rfl, h2, -⟩ := h
  obtain ⟨ao, c, rfl, -, -⟩ := own_slice h2
  exact ⟨_, _, _, rfl, rfl, rfl⟩
 | unsat core met =>
  obtain ⟨vc, rfl, h2, -⟩ := h
  obtain ⟨ao, c, rfl, -, -⟩ := own_slice h2
  exact ⟨_, _, _, rfl, rfl, rfl⟩
 | spent met => exact ⟨_, _, _, h, rfl, rfl⟩
def great21 (css : List (List Int)) (m : Nat) : Bool := decide (m < css.length) || css.any fun c => decide (12 < c.length)
theorem great21_le {css : List (List Int)} {m : Nat} (h : great21 css m = false) : css.length ≤ m ∧ ∀ c ∈ css, c.length ≤ 12 := by
 unfold great21 at h
 simp only [Bool.or_eq_false_iff, decide_eq_false_iff_not, List.any_eq_false, decide_eq_true_eq] at h
 exact ⟨by omega, fun c hc => by have := h.2 c hc; omega⟩
theorem great21_any {vcs : Value} {css : List (List Int)} (hI : IntsS w vcs css) (m : Nat) (r : Bool) (hr : great21 css m = r) :
  Calls Tryz.prog 9 #[vcs, .int .i64 (m : Int)] w fun e w' => e = .returned (.bool r) ∧ w' = w := by
 obtain ⟨ac, cc, rfl, hc1, hc2⟩ := hI.shape
 unfold great21 at hr
 by_cases h1 : m < css.length
 ·have hR : r = true := by rw [← hr]; simp [h1]
  subst hR
  have d1 : decide ((m : Int) < (css.length : Int)) = true := decide_eq_true (by omega)
  have d1' : decide (m < css.length) = true := decide_eq_true h1
  clear hr hI
  go_enter Tryz.func9, Tryz.ntmps9
  go_wp2_with fail
  go_ret
  exact ⟨rfl, rfl⟩
 ·have d1 : decide ((m : Int) < (css.length : Int)) = false := decide_eq_false (by omega)
  have d1' : decide (m < css.length) = false := decide_eq_false h1
  have hR : r = (css.drop 0).any fun c => decide (12 < c.length) := by rw [← hr]; simp [h1]
  have HR0 := Lib.hid hR
  have HI := Lib.hid hI
  clear hr hR hI h1
  go_enter Tryz.func9, Tryz.ntmps9
  go_wp2_with fail
  go_loopw [13] (fun v wr => w = wr ∧ ∃ k : Nat, v = .int .i64 k ∧ k ≤ css.length ∧ Hid (r = (css.drop k).any fun c => decide (12 < c.length))) (fun v _ => css.length - (intOf v).toNat)
  case atStart => exact ⟨rfl, 0, rfl, Nat.zero_le _, HR0⟩
  case round =>
   obtain ⟨rfl, k, rfl, hk, HR⟩ := hrel
   by_cases ck : k < css.length
   ·obtain ⟨b, off, u, rfl, _, q, hu⟩ := HI.out.at ck
    obtain ⟨au, cu, rfl, hu1, hu2⟩ := hu.shape
    have hR := HR.out
    rw [any_dropS _ ck] at hR
    have HR2 := Lib.hid hR
    have ewk : IntKind.i64.wrap ((k : Int) + 1) = (k : Int) + 1 := by rw [IntKind.wrap_i64]; omega
    clear hR hu
    generalize css.getD k [] = c at *
    by_cases hl : 12 < c.length
    ·have d4 : decide ((12 : Int) < (c.length : Int)) = true := decide_eq_true (by omega)
     have hRt : r = true := by rw [HR2.out]; simp [hl]
     have HRt := Lib.hid hRt
     clear hRt
     go_wp2_with fail
     go_ret
     rw [HRt.out]
     exact ⟨rfl, rfl⟩
    ·have d4 : decide ((12 : Int) < (c.length : Int)) = false := decide_eq_false (by omega)
     go_wp2_with fail
     go_roundw
     case rel => exact ⟨by first | rfl | trivial, k + 1, by first | rfl | go_num, by omega, show Hid (r = (css.drop (k + 1)).any fun c => decide (12 < c.length)) from by
      have h := HR2.out
      rw [show decide (12 < c.length) = false from decide_eq_false hl, Bool.false_or] at h
      exact h⟩
     case measure => simp [intOf] <;> omega
   ·have hk' : k = css.length := by omega
    have hRf : r = false := by rw [HR.out, hk', List.drop_length]; rfl
    have HRf := Lib.hid hRf
    clear hRf
    go_wp2_with fail
    go_ret
    rw [HRf.out]
    exact ⟨rfl, rfl⟩
def AskTo (w w1 : World) (b n : Nat) (css : List (List Int)) (qs : List Int) (e : Ending) (w' : World) : Prop :=
 ∃ a cs, Sv.Right n (Sv.keptAll n css) qs a ∧ (∀ m, a ≠ .spent m) ∧ e = .returned (.agg cs) ∧ AnsAt w1 w' a cs ∧ Only (fun _ => False) w w'
theorem ask21 {w w1 : World} {b n : Nat} {css : List (List Int)} (h : NewSv w b ((Sv.St.new n).addAll css) w1) (hn : n ≤ 10) (hb : css.length ≤ 1000000) (hr : ∀ c ∈ css, ∀ x ∈ c, InI64 x)
  {v : Value} {qs : List Int} (hI : Ints w v qs) (hqb : qs.length ≤ 1000000) (has : ∀ a ∈ qs, a ≠ 0 ∧ a.natAbs ≤ n) :
  Calls Tryz.prog 14 #[.pointer (some ⟨b, 0, none⟩), v, .int .i64 1048576] w1 (AskTo w w1 b n css qs) := by
 have hF := Sv.Fresh.addAll (n := n) (by omega) css hr (by omega)
 refine (ask_any h (by omega) hb hr hI hqb has 1048576 (by unfold InI64; omega) (by omega) (.inr (.inl fgOk))).mono ?_
 rintro e w' ⟨S2, a, cs, h1, h2, h3, h4⟩
 exact ⟨a, cs, (hF.right has (by omega) hb h1).2, hF.ends hn has hb h1, h2, h3, h4.on⟩
theorem ask21_free {w w1 : World} {b n : Nat} (h : NewSv w b ((Sv.St.new n).addAll []) w1) (hn : n ≤ 10) {v : Value} {qs : List Int} (hI : Ints w v qs) (hqb : qs.length ≤ 1000000) (has : ∀ a ∈ qs, a ≠ 0 ∧ a.natAbs ≤ n) :
  Calls Tryz.prog 14 #[.pointer (some ⟨b, 0, none⟩), v, .int .i64 5] w1 (AskTo w w1 b n [] qs) := by
 have hF := Sv.Fresh.addAll (n := n) (by omega) [] (by simp) (by simp)
 refine (ask_any h (by omega) (by simp) (by simp) hI hqb has 5 (by unfold InI64; omega) (by omega) (.inl (by omega))).mono ?_
 rintro e w' ⟨S2, a, cs, h1, h2, h3, h4⟩
 exact ⟨a, cs, (hF.right has (by omega) (by simp) h1).2, Sv.Run.free h1 (Tr.Inv.new (by omega)) rfl has, h2, h3, h4.on⟩
end
end Go.Proofs.YtjedgdamommgeaaGreat
