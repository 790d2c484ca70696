/- SlicesI CnfFn Cnf CnfLaw CnfLaw2 Ref12 DelF, in one text. -/
import Derived.Test.YtjedgdamommgeaaGreatShelf
import Derived.Test.YtjedgdamommgeaaGreatBase
import Derived.Lib.SliceRun
set_option linter.unusedVariables false
namespace Go.Proofs.YtjedgdamommgeaaGreat
open Go.RowKit Go.Lib Go.Sort Go.Shelf
theorem own_putRow {w : World} {e : TypeId} {g n cap : Nat} {xs : List Value} (h : w.ownsRow 0 e 1 (.slice (some ⟨g, 0, none⟩) n cap) n xs) (d : Array Int) (hd : d.size = n) :
  (putRow (Value.int .i64) w g 0 d).ownsRow 0 e 1 (.slice (some ⟨g, 0, none⟩) n cap) n (d.toList.map cI) := by
 rcases h.2 with ⟨h', _⟩ | ⟨g', cap', cur, h', hb, hg, h1, h2, h3, htake⟩
 ·simp at h'
 ·simp only [Value.slice.injEq, Option.some.injEq, Addr.mk.injEq, and_true, true_and] at h'
  obtain ⟨rfl, rfl⟩ := h'
  refine ⟨by simp [hd], .inr ⟨g, cap, putCells (Value.int .i64) 0 d cur, rfl, Nat.zero_le _, ?_, h1, h2, ?_, ?_⟩⟩
  ·show (w.heap.modify g _)[g]? = _
   rw [Array.getElem?_modify, if_pos rfl, hg]
   rfl
  ·simpa [putCells] using h3
  ·apply List.ext_getElem?
   intro j
   simp only [Nat.mul_one, putCells, List.getElem?_take, List.getElem?_map]
   by_cases hj : j < n
   ·have hjd : j < d.size := by omega
    have hjc : j < cur.size := by omega
    simp [hj, hjd, hjc, cI]
   ·have hjd : ¬ j < d.size := by omega
    simp [hj, hjd]
theorem only_putRow (w : World) (g : Nat) (d : Array Int) : Only (fun k => k = g) w (putRow (Value.int .i64) w g 0 d) :=
 ⟨rfl, rfl, rfl, by simp [putRow, mapBlock], fun k _ hk => by
  show (w.heap.modify g _)[k]? = _
  rw [Array.getElem?_modify, if_neg (fun e => hk e.symm)]⟩
theorem only_grow {F : Nat → Prop} {w w' : World} (h : Only F w w') (os : Array Obj) : Only F w (grow w' os) :=
 h.trans (G := fun _ => False) ⟨rfl, rfl, rfl, by simp [grow], fun k hk _ => by
  show (w'.heap ++ os)[k]? = _
  rw [Array.getElem?_append_left hk]⟩ (fun _ f => f.elim)
theorem only_ahead {F : Nat → Prop} {w w' : World} (h : Only F w w') (n : Nat) : Only F w (Sort.ahead w' n) := ⟨h.os, h.tape, h.output, h.size, h.block⟩
theorem own_holds {w : World} {e : TypeId} {g n cap : Nat} {xs : List Int} (h : w.ownsRow 0 e 1 (.slice (some ⟨g, 0, none⟩) n cap) n (xs.map cI)) : Holds (Value.int .i64) w g 0 xs.toArray := by
 intro j hj
 have hn : xs.length = n := by simpa using h.1
 have hj' : j < xs.length := by simpa using hj
 refine ⟨?_, h.frozenAt _⟩
 rw [Nat.zero_add, h.cellAt j (by omega)]
 simp [hj', cI]
theorem Clone_anyR {w : World} {v : Value} {xs : List Int} (hI : Ints w v xs) (hb : xs.length ≤ 17592186043904) :
  Calls Tryz.prog 47 #[v] w fun e w' => ∃ v', e = .returned v' ∧ w'.ownsRow 0 3 1 v' xs.length (xs.map cI) ∧ (∀ k, v'.ownBlock = some k → w.heap.size ≤ k) ∧ Only (fun _ => False) w w' := by
 obtain ⟨ao, cap, rfl, hl, hm⟩ := hI.shape
 have fin : ∀ (n : Nat) (zs : List Value) (e : Ending) (w' : World), (∃ v', e = .returned v' ∧ w'.ownsRow w.heap.size 3 1 v' n zs ∧ v' ≠ .slice none 0 0 ∧ Below w.heap.size w w') → ∃ v', e = .returned v' ∧ w'.ownsRow 0 3 1 v' n zs ∧ (∀ k, v'.ownBlock = some k → w.heap.size ≤ k) ∧ Only (fun _ => False) w w' := by
  rintro n zs e w' ⟨v', he, ho, _, hbel⟩
  refine ⟨v', he, ⟨ho.1, ?_⟩, fun k hk => (ho.lt k hk).1, (Only.of_below hbel).trans' ?_⟩
  ·rcases ho.2 with h | ⟨g, c, cur, h1, h2, h3⟩
   ·exact .inl h
   ·exact .inr ⟨g, c, cur, h1, Nat.zero_le _, h3⟩
  ·intro i hi; exact hi
 by_cases h0 : xs.length = 0
 ·have hx : xs = [] := List.eq_nil_of_length_eq_zero h0
  subst hx
  cases ao with
  | none => exact (Tryz.slices_Clone_int_nil 0 cap w).mono fun e w' ⟨he, hw⟩ => ⟨_, he, by rw [hw]; exact World.ownsRow_nil _ _ _ _, fun k hk => by simp [Value.ownBlock] at hk, by rw [hw]; exact Only.refl _ _⟩
  | some a => exact (Tryz.slices_Clone_int_zero a cap w).mono fun e w' h => fin 0 [] e w' h
 ·obtain ⟨b, off, rfl, hbb, hc⟩ := hI.cells _ _ _ rfl (by omega)
  refine (Tryz.slices_Clone_int b off xs.length cap xs w (Nat.le_refl _) (by omega) hc).mono fun e w' h => ?_
  rw [List.take_of_length_le (Nat.le_refl _)] at h
  exact fin _ _ e w' h
theorem Clone_any {w : World} {v : Value} {xs : List Int} (hI : Ints w v xs) (hb : xs.length ≤ 1099511627776) :
  Calls Tryz.prog 47 #[v] w fun e w' => ∃ v', e = .returned v' ∧ w'.ownsRow 0 3 1 v' xs.length (xs.map cI) ∧ (∀ k, v'.ownBlock = some k → w.heap.size ≤ k) ∧ Only (fun _ => False) w w' := Clone_anyR hI (by omega)
theorem Sort_anyR {w : World} {v : Value} {xs : List Int} (h : w.ownsRow 0 3 1 v xs.length (xs.map cI)) (hb : xs.length ≤ 17592186043904) (cf : Int → Int → Int) (hO : SWO (ltOf cf)) (hT : ∀ x y, (ltOf cf) x y = false → (ltOf cf) y x = false → x = y)
  (g : Nat) (cb : Array Value) (eg : ∀ args w, (callFunc g args).run Tryz.prog w = .ok (.enter g args) w)
  (hcmp : ∀ (W : World) (x y : Int), Calls Tryz.prog g (#[.int .i64 x, .int .i64 y] ++ cb) W fun e w' => e = .returned (.int .i64 (cf x y)) ∧ ∃ q os', w' = grow (W.drewN q) os') :
  Calls Tryz.prog 90 #[v, .func (.func g) #[] cb] w fun e w' => e = .returned (.tuple #[]) ∧ w'.ownsRow 0 3 1 v xs.length ((xs.mergeSort fun x y => !(ltOf cf) y x).map cI) ∧ Only (fun k => v.ownBlock = some k) w w' := by
 by_cases h0 : xs.length = 0
 ·have hx : xs = [] := List.eq_nil_of_length_eq_zero h0
  subst hx
  obtain ⟨ao, cap, rfl, _, _⟩ := own_slice h
  refine (Tryz.slices_SortFunc_none (α := Int) ao cap _ w).mono fun e w' ⟨he, hw⟩ => ⟨he, ?_, ?_⟩
  ·rw [hw]; simpa using h
  ·rw [hw]; exact Only.refl _ _
 ·obtain ⟨gb, cap, rfl, _, _⟩ := own_some h (by omega)
  have hH := own_holds h
  have hlt := own_lt h (k := gb) rfl
  have key := Tryz.slices_SortFunc_total (Value.int .i64) (fun _ => rfl) cf hO g cb gb 0 cap xs.toArray w eg (fun m os dk _ x y => hcmp _ x y) hH hlt (by simp; omega) hT
  simp only [List.size_toArray] at key
  refine key.mono fun e w' ⟨he, n, os, hw⟩ => ⟨he, ?_, ?_⟩
  ·subst hw
   unfold sortWorld
   have h1 := own_putRow (w := Sort.ahead w n) (g := gb) (n := xs.length) (cap := cap) (e := 3) h (xs.mergeSort fun x y => !(ltOf cf) y x).toArray (by simp)
   have h2 := own_only h1 (only_grow (Only.refl (fun _ => False) _) os) (fun _ _ f => f)
   simpa using h2
  ·subst hw
   unfold sortWorld
   refine only_grow ?_ os
   have := (only_ahead (Only.refl (fun k => k = gb) w) n).same (only_putRow (Sort.ahead w n) gb (xs.mergeSort fun x y => !(ltOf cf) y x).toArray)
   exact this.mono fun i hi => by subst hi; rfl
theorem compact_le (xs : List Int) : (Lib.compact xs).length ≤ xs.length := by
 unfold Lib.compact Lib.compactUpTo
 rw [List.length_map]
 have := List.length_filter_le (Lib.keeps xs.toArray) (List.range xs.length)
 simpa using this
theorem Compact_any {w : World} {v : Value} {xs : List Int} (h : w.ownsRow 0 3 1 v xs.length (xs.map cI)) :
  Calls Tryz.prog 95 #[v] w fun e w' => ∃ v', e = .returned v' ∧ w'.ownsRow 0 3 1 v' (Lib.compact xs).length ((Lib.compact xs).map cI) ∧ v'.ownBlock = v.ownBlock ∧ Only (fun k => v.ownBlock = some k) w w' := by
 by_cases h0 : xs.length = 0
 ·have hx : xs = [] := List.eq_nil_of_length_eq_zero h0
  subst hx
  obtain ⟨ao, cap, rfl, _, _⟩ := own_slice h
  refine (Tryz.slices_Compact_int_empty ao cap w).mono fun e w' ⟨he, hw⟩ => ⟨_, he, ?_, rfl, ?_⟩
  ·rw [hw]; exact h
  ·rw [hw]; exact Only.refl _ _
 ·obtain ⟨gb, cap, rfl, hc1, hc2⟩ := own_some h (by omega)
  have hH := own_holds h
  unfold maxLen at hc2
  refine (Tryz.slices_Compact_int gb 0 cap xs w hH (by omega) hc1).mono fun e w' ⟨he, q, hw⟩ => ⟨_, he, ?_, rfl, ?_⟩
  ·subst hw
   have hle := compact_le xs
   have h1 := own_putRow (w := Sort.ahead w q) (g := gb) (n := xs.length) (cap := cap) (e := 3) h (Lib.compact xs ++ List.replicate (xs.length - (Lib.compact xs).length) 0).toArray (by simp; omega)
   have h2 := own_cut h1 (Lib.compact xs).length hle
   simpa using h2
  ·subst hw
   have := (only_ahead (Only.refl (fun k => k = gb) w) q).same (only_putRow (Sort.ahead w q) gb (Lib.compact xs ++ List.replicate (xs.length - (Lib.compact xs).length) 0).toArray)
   exact this.mono fun i hi => by subst hi; rfl
namespace Cnf
def minI : Int := -9223372036854775808
def wr (x : Int) : Bool := x == 0 || x == minI
def absW (x : Int) : Int := max x (IntKind.i64.wrap (-x))
def cf (x y : Int) : Int := if Lib.compareInt (absW x) (absW y) = 0 then Lib.compareInt x y else Lib.compareInt (absW x) (absW y)
def lt (x y : Int) : Bool := decide (absW x < absW y ∨ (absW x = absW y ∧ x < y))
theorem lt_eq (x y : Int) : ltOf cf x y = lt x y := by
 unfold ltOf cf lt Lib.compareInt
 congr 1
 apply propext
 split <;> split <;> (try split) <;> (try split) <;> omega
theorem lt_iff (x y : Int) : lt x y = true ↔ absW x < absW y ∨ (absW x = absW y ∧ x < y) := by simp [lt]
theorem lt_not (x y : Int) : lt x y = false ↔ absW y ≤ absW x ∧ (absW x = absW y → y ≤ x) := by rw [← Bool.not_eq_true, lt_iff]; omega
theorem swo : SWO (ltOf cf) where
 irrefl x := by rw [lt_eq, lt_not]; omega
 trans x y z h1 h2 := by rw [lt_eq, lt_iff] at *; omega
 ntrans x y z h1 h2 := by rw [lt_eq, lt_not] at *; omega
theorem total (x y : Int) (h1 : (ltOf cf) x y = false) (h2 : (ltOf cf) y x = false) : x = y := by
 rw [lt_eq, lt_not] at *; omega
def sortL (xs : List Int) : List Int := xs.mergeSort fun x y => !(ltOf cf) y x
def formL (xs : List Int) : List Int := Lib.compact (sortL xs)
def clash (l : List Int) : Bool := (List.range l.length).any fun i => decide (1 ≤ i) && (l.getD i 0 == IntKind.i64.wrap (-(l.getD (i - 1) 0)))
def form (xs : List Int) : Option (List Int) := if xs.any wr then none else if clash (formL xs) then none else some (formL xs)
end Cnf
section
variable {w : World}
theorem wrong_any (x : Int) : Calls Tryz.prog 52 #[.int .i64 x] w fun e w' => e = .returned (.bool (Cnf.wr x)) ∧ w = w' := by
 unfold Cnf.wr
 by_cases h0 : x = 0
 ·subst h0
  go_enter Tryz.func52, Tryz.ntmps52
  go_wp2
  go_ret
  exact ⟨rfl, rfl⟩
 ·have h1 : (x == 0) = false := beq_eq_false_iff_ne.2 h0
  generalize hm : (x == Cnf.minI) = r
  unfold Cnf.minI at hm
  rw [h1]
  clear h0
  cases r
  all_goals
   go_enter Tryz.func52, Tryz.ntmps52
   go_wp2
   go_ret
   exact ⟨rfl, rfl⟩
theorem abs_any (x : Int) (r : Int) (hr : Cnf.absW x = r) : Calls Tryz.prog 94 #[.int .i64 x] w fun e w' => e = .returned (.int .i64 r) ∧ w = w' := by
 subst hr
 unfold Cnf.absW
 generalize hy : IntKind.i64.wrap (-x) = y
 go_enter Tryz.func94, Tryz.ntmps94
 go_wp2
 go_ret
 exact ⟨rfl, rfl⟩
theorem Or_two (g : Nat) (a b : Int) (h0 : w.cell? ⟨g, 0, none⟩ = some (.int .i64 a)) (h1 : w.cell? ⟨g, 1, none⟩ = some (.int .i64 b)) :
  Calls Tryz.prog 92 #[.slice (some ⟨g, 0, none⟩) 2 2] w fun e w' => e = .returned (.int .i64 (if a = 0 then b else a)) ∧ w = w' := by
 by_cases ha : a = 0
 ·subst ha
  by_cases hb : b = 0
  ·subst hb
   go_enter Tryz.func92, Tryz.ntmps92
   go_wp2
   refine wp_loop_rounds 3 ?_
   rw [rounds_succ]
   go_wp2
   rw [rounds_succ]
   go_wp2
   rw [rounds_succ]
   go_wp2
   go_ret
   exact ⟨by simp, rfl⟩
  ·have hb' : (b != 0) = true := bne_iff_ne.2 hb
   clear hb
   go_enter Tryz.func92, Tryz.ntmps92
   go_wp2
   refine wp_loop_rounds 2 ?_
   rw [rounds_succ]
   go_wp2
   rw [rounds_succ]
   go_wp2
   go_ret
   exact ⟨by simp, rfl⟩
 ·have ha' : (a != 0) = true := bne_iff_ne.2 ha
  rw [if_neg ha]
  clear ha
  go_enter Tryz.func92, Tryz.ntmps92
  go_wp2
  refine wp_loop_rounds 1 ?_
  rw [rounds_succ]
  go_wp2
  go_ret
  exact ⟨rfl, rfl⟩
theorem Or_at (g : Nat) (a b r : Int) (h0 : w.cell? ⟨g, 0, none⟩ = some (.int .i64 a)) (h1 : w.cell? ⟨g, 1, none⟩ = some (.int .i64 b)) (hr : (if a = 0 then b else a) = r) :
  Calls Tryz.prog 92 #[.slice (some ⟨g, 0, none⟩) 2 2] w fun e w' => e = .returned (.int .i64 r) ∧ w = w' := by
 subst hr
 exact Or_two g a b h0 h1
theorem alloc_grow (w : World) (o : Obj) : w.alloc o = grow (w.drewN 0) #[o] := by
 show ({ w with heap := w.heap.push o } : World) = { w with heap := w.heap ++ #[o] }
 rw [Array.push_eq_append]
theorem cf_any (x y : Int) : Calls Tryz.prog 91 #[.int .i64 x, .int .i64 y] w fun e w' => e = .returned (.int .i64 (Cnf.cf x y)) ∧ ∃ q os', w' = grow (w.drewN q) os' := by
 unfold Cnf.cf
 have c1 := fun W => (Tryz.cmp_Compare_int (Cnf.absW x) (Cnf.absW y) W).mono fun _ _ h => (⟨h.1, h.2.symm⟩ : _ ∧ W = _)
 have c2 := fun W => (Tryz.cmp_Compare_int x y W).mono fun _ _ h => (⟨h.1, h.2.symm⟩ : _ ∧ W = _)
 have C1 := Lib.hid c1
 have C2 := Lib.hid c2
 clear c1 c2
 generalize Lib.compareInt (Cnf.absW x) (Cnf.absW y) = p at *
 generalize Lib.compareInt x y = q at *
 generalize hax : Cnf.absW x = ax at *
 generalize hay : Cnf.absW y = ay at *
 have HX := Lib.hid hax
 have HY := Lib.hid hay
 clear hax hay
 generalize hr : (if p = 0 then q else p) = r
 have HR := Lib.hid hr
 clear hr
 go_enter Tryz.func91, Tryz.ntmps91
 go_wp2_with fail
 refine (abs_any x ax HX.out).mono ?_
 rintro e w1 ⟨rfl, rfl⟩
 go_wp2_with fail
 refine (abs_any y ay HY.out).mono ?_
 rintro e w1 ⟨rfl, rfl⟩
 go_wp2_with fail
 refine (C1.out _).mono ?_
 rintro e w1 ⟨rfl, rfl⟩
 go_wp2_with fail
 refine (C2.out _).mono ?_
 rintro e w1 ⟨rfl, rfl⟩
 go_wp2_with fail
 refine (Or_at w.heap.size p q r (by simp) (by simp) HR.out).mono ?_
 rintro e w2 ⟨rfl, rfl⟩
 go_wp2_with fail
 go_ret
 exact ⟨rfl, 0, #[.cells #[.int .i64 p, .int .i64 q] 3], alloc_grow _ _⟩
end
def NoClash (l : List Int) (k : Nat) : Prop := ∀ i, 1 ≤ i → i < k → (l.getD i 0 == IntKind.i64.wrap (-(l.getD (i - 1) 0))) = false
theorem clash_hit {l : List Int} {k : Nat} (h1 : 1 ≤ k) (hk : k < l.length) (h : (l.getD k 0 == IntKind.i64.wrap (-(l.getD (k - 1) 0))) = true) : Cnf.clash l = true := by
 unfold Cnf.clash
 rw [List.any_eq_true]
 exact ⟨k, by simpa using hk, by rw [h]; simp [h1]⟩
theorem clash_none {l : List Int} (h : NoClash l l.length) : Cnf.clash l = false := by
 unfold Cnf.clash
 rw [← Bool.not_eq_true, List.any_eq_true]
 rintro ⟨i, hi, hc⟩
 simp only [Bool.and_eq_true, decide_eq_true_eq] at hc
 rw [h i hc.1 (by simpa using hi)] at hc
 exact absurd hc.2 (by simp)
theorem formL_range {xs : List Int} (h : ∀ x ∈ xs, InI64 x) : ∀ x ∈ Cnf.formL xs, InI64 x := by
 intro x hx
 unfold Cnf.formL Lib.compact Lib.compactUpTo at hx
 obtain ⟨i, hi, rfl⟩ := List.mem_map.1 hx
 have hi2 := (List.mem_filter.1 hi).1
 rw [List.mem_range] at hi2
 have hm : (Cnf.sortL xs).toArray[i]! ∈ Cnf.sortL xs := by
  simp [hi2]
 exact h _ ((List.mergeSort_perm xs _).mem_iff.1 hm)
theorem row_cell' {w : World} {e : TypeId} {g n cap : Nat} {xs : List Int} (h : w.ownsRow 0 e 1 (.slice (some ⟨g, 0, none⟩) n cap) n (xs.map cI)) {i : Nat} (hi : i < xs.length) :
  w.cell? ⟨g, i, none⟩ = some (.int .i64 (xs.getD i 0)) := by
 have hn : xs.length = n := by simpa using h.1
 rw [h.cellAt i (by omega)]
 simp [List.getD, List.getElem?_eq_getElem hi]
def FormPost (w : World) (xs : List Int) (e : Ending) (w' : World) : Prop :=
 match Cnf.form xs with
 | none => e = .returned (.tuple #[.slice none 0 0, .bool false]) ∧ Only (fun _ => False) w w'
 | some l => ∃ v, e = .returned (.tuple #[v, .bool true]) ∧ w'.ownsRow 0 3 1 v l.length (l.map cI) ∧ (∀ k, v.ownBlock = some k → w.heap.size ≤ k) ∧ Only (fun _ => False) w w'
set_option maxHeartbeats 1600000 in
theorem Form_anyR {w : World} {v : Value} {xs : List Int} (hI : Ints w v xs) (hb : xs.length ≤ 17592186043904) :
  Calls Tryz.prog 50 #[v] w (FormPost w xs) := by
 have eg86 : ∀ args w, (callFunc 52 args).run Tryz.prog w = .ok (.enter 52 args) w := enters_of Tryz.func52 (by kernel_rfl) rfl
 have eg88 : ∀ args w, (callFunc 91 args).run Tryz.prog w = .ok (.enter 91 args) w := enters_of Tryz.func91 (by kernel_rfl) rfl
 have hpred : PredI w 52 #[] Cnf.wr xs := fun x _ W _ => (wrong_any x).mono fun _ _ ⟨he, hw⟩ => ⟨he, by rw [hw]; exact Only.refl _ _⟩
 have HE86 := Lib.hid eg86
 have HE88 := Lib.hid eg88
 have HPred := Lib.hid hpred
 clear eg86 eg88 hpred
 cases hany : xs.any Cnf.wr
 ·have HAny := Lib.hid hany
  clear hany
  go_enter Tryz.func50, Tryz.ntmps50
  go_wp2_with fail
  refine (ContainsFunc_int hI 52 #[] Cnf.wr HE86.out HPred.out false HAny.out).mono ?_
  rintro e w1 ⟨rfl, O1⟩
  have hI1 := hI.only0 O1
  go_wp2_with fail
  refine (Clone_anyR hI1 hb).mono ?_
  rintro e w2 ⟨v2, rfl, R2, N2, O2⟩
  go_wp2_with fail
  refine (Sort_anyR R2 hb Cnf.cf Cnf.swo Cnf.total 91 #[] HE88.out (fun W x y => cf_any x y)).mono ?_
  rintro e w3 ⟨rfl, R3, O3⟩
  have R3' : w3.ownsRow 0 3 1 v2 (Cnf.sortL xs).length ((Cnf.sortL xs).map cI) := by
   have : (Cnf.sortL xs).length = xs.length := List.length_mergeSort xs
   rw [this]; exact R3
  go_wp2_with fail
  refine (Compact_any R3').mono ?_
  rintro e w4 ⟨v4, rfl, R4, B4, O4⟩
  have hl : Lib.compact (Cnf.sortL xs) = Cnf.formL xs := rfl
  rw [hl] at R4
  have hlen : (Cnf.formL xs).length ≤ 17592186043904 := by
   have h1 := compact_le (Cnf.sortL xs)
   have h2 : (Cnf.sortL xs).length = xs.length := List.length_mergeSort xs
   rw [hl] at h1
   omega
  have hr4 := formL_range hI.range
  have hform : Cnf.form xs = if Cnf.clash (Cnf.formL xs) then none else some (Cnf.formL xs) := by unfold Cnf.form; rw [HAny.out]; rfl
  have N4 : ∀ k, v4.ownBlock = some k → w.heap.size ≤ k := fun k hk => by rw [B4] at hk; have := N2 k hk; have := O1.size; omega
  have O5 : Only (fun _ => False) w w4 := ((O1.same O2).trans O3 fun i hi => .inr (by have := N2 i hi; have := O1.size; omega)).trans O4 fun i hi => .inr (by have := N2 i hi; have := O1.size; omega)
  have HF := Lib.hid hform
  clear hl hform O1 O2 O3 O4 R2 R3 R3' N2 B4 hI1 hI HAny HPred HE86 HE88
  generalize Cnf.formL xs = l at *
  obtain ⟨ao, cap, rfl, hc1, hc2⟩ := own_slice R4
  unfold maxLen at hc2
  go_wp2_with fail
  go_loopw [5] (fun v wr => ∃ (k : Nat), v = .int .i64 k ∧ 1 ≤ k ∧ (k ≤ l.length ∨ k = 1) ∧ NoClash l k ∧ wr.ownsRow 0 3 1 (.slice ao l.length cap) l.length (l.map cI) ∧ Only (fun _ => False) w wr) (fun v _ => l.length - (intOf v).toNat)
  case atStart => exact ⟨1, rfl, Nat.le_refl _, .inr rfl, fun i h1 h2 => by omega, R4, O5⟩
  case round =>
   clear R4 O5
   obtain ⟨k, rfl, hk1, hk2, hN, R4, O5⟩ := hrel
   have HN := Lib.hid hN
   have HK2 := Lib.hid hk2
   clear hN hk2
   by_cases c : k < l.length
   ·obtain ⟨g, cap', he, _, _⟩ := own_some R4 (by omega)
    simp only [Value.slice.injEq] at he
    obtain ⟨rfl, -, rfl⟩ := he
    obtain ⟨j, rfl⟩ : ∃ j, k = j + 1 := ⟨k - 1, by omega⟩
    have q1 : wr.cell? ⟨g, j + 1, none⟩ = some (.int .i64 (l.getD (j + 1) 0)) := row_cell' R4 c
    have q2 : wr.cell? ⟨g, j, none⟩ = some (.int .i64 (l.getD j 0)) := row_cell' R4 (by omega)
    have e2 : IntKind.i64.wrap (j : Int) = j := IntWalk.i64_in _ (by omega)
    have e3 : (j : Int) < (l.length : Int) := by omega
    have e4 : (j : Int) + 1 < (l.length : Int) := by omega
    have hcl := fun h => clash_hit (l := l) (k := j + 1) hk1 c h
    have hnc : (l.getD (j + 1) 0 == IntKind.i64.wrap (-(l.getD j 0))) = false → NoClash l (j + 2) := by
     intro hcmp i h1 h2
     rcases Nat.lt_or_ge i (j + 1) with h3 | h3
     ·exact HN.out i h1 h3
     ·have : i = j + 1 := by omega
      subst this
      simpa using hcmp
    simp only [Nat.add_sub_cancel] at hcl
    generalize l.getD (j + 1) 0 = a at *
    generalize l.getD j 0 = b at *
    generalize hnb : IntKind.i64.wrap (-b) = nb at *
    cases hcmp : (a == nb)
    ·have HS := Lib.hid (hnc hcmp)
     clear hcl hnc
     go_wp2_with fail
     go_quiet (fail)
     clear e2
     go_wp2_with fail
     go_roundw
     case rel => exact ⟨j + 2, by go_num, by omega, .inl (by omega), HS.out, R4, O5.drewN _⟩
     case measure => simp [intOf]; omega
    ·have HC := Lib.hid (hcl hcmp)
     clear hcl hnc
     go_wp2_with fail
     go_quiet (fail)
     clear e2
     go_wp2_with fail
     go_ret2
     unfold FormPost
     rw [HF.out, HC.out]
     exact ⟨rfl, O5.drewN _⟩
   ·have hcl : Cnf.clash l = false := by
     refine clash_none fun i h1 h2 => HN.out i h1 ?_
     have := HK2.out
     omega
    have HC := Lib.hid hcl
    clear hcl
    go_wp2_with fail
    go_ret2
    unfold FormPost
    rw [HF.out, HC.out]
    exact ⟨_, rfl, R4, N4, O5⟩
 ·have HAny := Lib.hid hany
  clear hany
  go_enter Tryz.func50, Tryz.ntmps50
  go_wp2_with fail
  refine (ContainsFunc_int hI 52 #[] Cnf.wr HE86.out HPred.out true HAny.out).mono ?_
  rintro e w1 ⟨rfl, O1⟩
  go_wp2_with fail
  go_ret2
  have hf : Cnf.form xs = none := by unfold Cnf.form; rw [HAny.out]; rfl
  unfold FormPost
  rw [hf]
  exact ⟨rfl, O1⟩
theorem Form_any {w : World} {v : Value} {xs : List Int} (hI : Ints w v xs) (hb : xs.length ≤ 1099511627776) :
  Calls Tryz.prog 50 #[v] w (FormPost w xs) := Form_anyR hI (by omega)
namespace Cnf
def Strict (l : List Int) : Prop := l.Pairwise fun x y => lt x y = true
theorem sortL_perm (xs : List Int) : (sortL xs).Perm xs := List.mergeSort_perm xs _
theorem sortL_sorted (xs : List Int) : (sortL xs).Pairwise fun x y => lt y x = false := by
 have h := List.pairwise_mergeSort (le := fun x y => !(ltOf cf) y x) (l := xs)
  (by
    intro a b c h1 h2
    simp only [Bool.not_eq_true'] at *
    exact swo.ntrans c b a h2 h1)
  (by
    intro a b
    simp only [Bool.or_eq_true, Bool.not_eq_true']
    rw [lt_eq, lt_eq, lt_not, lt_not]; omega)
 exact h.imp (by intro a b h; simpa [lt_eq] using h)
theorem sorted_get {l : List Int} (h : l.Pairwise fun x y => lt y x = false) {i j : Nat} (hij : i < j) (hj : j < l.length) : lt (l.getD j 0) (l.getD i 0) = false := by
 have := (List.pairwise_iff_getElem.1 h) i j (by omega) hj hij
 simpa [List.getD_eq_getElem?_getD, hj, show i < l.length by omega] using this
theorem keeps_iff (l : List Int) (j : Nat) (hj : j < l.length) : Lib.keeps l.toArray j = true ↔ j = 0 ∨ l.getD j 0 ≠ l.getD (j - 1) 0 := by
 unfold Lib.keeps
 simp only [decide_eq_true_eq]
 have h1 : l.toArray[j]! = l.getD j 0 := by simp [hj, List.getD_eq_getElem?_getD]
 have h2 : l.toArray[j - 1]! = l.getD (j - 1) 0 := by simp [show j - 1 < l.length by omega, List.getD_eq_getElem?_getD]
 rw [h1, h2]
theorem compact_strict {l : List Int} (h : l.Pairwise fun x y => lt y x = false) : Strict (Lib.compact l) := by
 unfold Strict Lib.compact Lib.compactUpTo
 rw [List.pairwise_map]
 have hr : (List.range l.length).Pairwise (· < ·) := List.pairwise_lt_range
 have hf := (hr.filter (Lib.keeps l.toArray))
 refine hf.imp_of_mem ?_
 intro i j hi hj hij
 obtain ⟨hi1, hi2⟩ := List.mem_filter.1 hi
 obtain ⟨hj1, hj2⟩ := List.mem_filter.1 hj
 rw [List.mem_range] at hi1 hj1
 have e1 : l.toArray[i]! = l.getD i 0 := by simp [hi1, List.getD_eq_getElem?_getD]
 have e2 : l.toArray[j]! = l.getD j 0 := by simp [hj1, List.getD_eq_getElem?_getD]
 rw [e1, e2]
 have hk := (keeps_iff l j hj1).1 hj2
 have hne : l.getD j 0 ≠ l.getD (j - 1) 0 := by
  rcases hk with hk | hk
  ·omega
  ·exact hk
 have h1 := sorted_get h (i := j - 1) (j := j) (by omega) hj1
 rw [lt_not] at h1
 rw [lt_iff]
 by_cases e : i = j - 1
 ·subst e; omega
 ·have h2 := sorted_get h (i := i) (j := j - 1) (by omega) (by omega)
  rw [lt_not] at h2
  omega
theorem mem_compact (l : List Int) (x : Int) : x ∈ Lib.compact l ↔ x ∈ l := by
 unfold Lib.compact Lib.compactUpTo
 constructor
 ·intro hx
  obtain ⟨i, hi, rfl⟩ := List.mem_map.1 hx
  have hi1 := (List.mem_filter.1 hi).1
  rw [List.mem_range] at hi1
  simp [hi1]
 ·intro hx
  -- the first place where it stands
  have key : ∀ n, ∀ i, i = n → i < l.length → l.getD i 0 = x → ∃ j, j < l.length ∧ Lib.keeps l.toArray j = true ∧ l.getD j 0 = x := by
   intro n
   induction n with
   | zero => intro i hi hl he; subst hi; exact ⟨0, hl, (keeps_iff l 0 hl).2 (.inl rfl), he⟩
   | succ n ih =>
    intro i hi hl he
    subst hi
    by_cases hk : l.getD (n + 1) 0 = l.getD n 0
    ·exact ih n rfl (by omega) (by rw [← hk]; exact he)
    ·exact ⟨n + 1, hl, (keeps_iff l (n + 1) hl).2 (.inr (by simpa using hk)), he⟩
  obtain ⟨i, hi, rfl⟩ := List.getElem_of_mem hx
  obtain ⟨j, hj1, hj2, hj3⟩ := key i i rfl hi (by simp [List.getD_eq_getElem?_getD, hi])
  rw [List.mem_map]
  refine ⟨j, List.mem_filter.2 ⟨by simpa using hj1, hj2⟩, ?_⟩
  rw [← hj3]
  simp [hj1, List.getD_eq_getElem?_getD]
theorem formL_strict (xs : List Int) : Strict (formL xs) := compact_strict (sortL_sorted xs)
theorem mem_formL (xs : List Int) (x : Int) : x ∈ formL xs ↔ x ∈ xs := by
 unfold formL
 rw [mem_compact]
 exact (sortL_perm xs).mem_iff
theorem strict_ext : ∀ {a b : List Int}, Strict a → Strict b → (∀ x, x ∈ a ↔ x ∈ b) → a = b
 | [], [], _, _, _ => rfl
 | [], y :: b, _, _, h => absurd ((h y).2 (List.mem_cons_self ..)) (by simp)
 | x :: a, [], _, _, h => absurd ((h x).1 (List.mem_cons_self ..)) (by simp)
 | x :: a, y :: b, ha, hb, h => by
  unfold Strict at ha hb
  rw [List.pairwise_cons] at ha hb
  have hxy : x = y := by
   have h1 := (h x).1 (List.mem_cons_self ..)
   have h2 := (h y).2 (List.mem_cons_self ..)
   rcases List.mem_cons.1 h1 with e | h1
   ·exact e
   ·rcases List.mem_cons.1 h2 with e | h2
    ·exact e.symm
    ·have k1 := ha.1 y h2
     have k2 := hb.1 x h1
     rw [lt_iff] at k1 k2; omega
  subst hxy
  have irr : ∀ z, lt z z = false := fun z => by rw [lt_not]; omega
  rw [strict_ext ha.2 hb.2 fun z => ?_]
  have hz := h z
  simp only [List.mem_cons] at hz
  constructor
  ·intro hza
   rcases hz.1 (.inr hza) with e | e
   ·subst e; have := ha.1 z hza; rw [irr] at this; cases this
   ·exact e
  ·intro hzb
   rcases hz.2 (.inr hzb) with e | e
   ·subst e; have := hb.1 z hzb; rw [irr] at this; cases this
   ·exact e
end Cnf
namespace Cnf
structure Lit (x : Int) : Prop where
 r : InI64 x
 w : wr x = false
theorem Lit.ne0 {x : Int} (h : Lit x) : x ≠ 0 := by
 intro e; subst e; have := h.w; revert this; decide
theorem Lit.lo {x : Int} (h : Lit x) : -9223372036854775807 ≤ x ∧ x ≤ 9223372036854775807 := by
 have h1 := h.r
 have h2 : x ≠ minI := by
  intro e
  have := h.w
  unfold wr at this
  rw [e] at this
  simp at this
 unfold minI at h2
 unfold InI64 at h1
 omega
theorem Lit.neg {x : Int} (h : Lit x) : Lit (-x) := by
 have h1 := h.lo
 have h2 := h.ne0
 refine ⟨by unfold InI64; omega, ?_⟩
 unfold wr minI
 simp only [Bool.or_eq_false_iff, beq_eq_false_iff_ne]
 omega
theorem Lit.wrap {x : Int} (h : Lit x) : IntKind.i64.wrap (-x) = -x := IntWalk.i64_in _ (by have := h.lo; omega)
theorem Lit.abs {x : Int} (h : Lit x) : absW x = x.natAbs := by
 unfold absW
 rw [h.wrap]; omega
def AbsStrict (l : List Int) : Prop := l.Pairwise fun x y => x.natAbs < y.natAbs
theorem AbsStrict.strict {l : List Int} (h : AbsStrict l) (hl : ∀ x ∈ l, Lit x) : Strict l := by
 unfold AbsStrict at h
 unfold Strict
 refine h.imp_of_mem ?_
 intro a b ha hb hab
 rw [lt_iff, (hl a ha).abs, (hl b hb).abs]
 omega
theorem any_wr {xs : List Int} (h : ∀ x ∈ xs, Lit x) : xs.any wr = false := by
 rw [← Bool.not_eq_true, List.any_eq_true]
 rintro ⟨x, hx, hw⟩
 rw [(h x hx).w] at hw; cases hw
theorem clash_false_of {l : List Int} (h : AbsStrict l) (hl : ∀ x ∈ l, Lit x) : clash l = false := by
 unfold clash
 rw [← Bool.not_eq_true, List.any_eq_true]
 rintro ⟨i, hi, hc⟩
 simp only [Bool.and_eq_true, decide_eq_true_eq, beq_iff_eq] at hc
 rw [List.mem_range] at hi
 obtain ⟨h1, h2⟩ := hc
 have e1 : l.getD i 0 = l[i] := by simp [List.getD_eq_getElem?_getD, hi]
 have e2 : l.getD (i - 1) 0 = l[i - 1] := by simp [List.getD_eq_getElem?_getD, show i - 1 < l.length by omega]
 have h3 := (List.pairwise_iff_getElem.1 h) (i - 1) i (by omega) hi (by omega)
 rw [e1, e2, (hl _ (List.getElem_mem (by omega))).wrap] at h2
 rw [h2] at h3
 omega
theorem form_some {xs o : List Int} (hx : ∀ x ∈ xs, Lit x) (ho : AbsStrict o) (hm : ∀ y, y ∈ o ↔ y ∈ xs) : form xs = some o := by
 have hl : ∀ x ∈ o, Lit x := fun x h => hx x ((hm x).1 h)
 have e : formL xs = o := strict_ext (formL_strict xs) (ho.strict hl) (fun y => (mem_formL xs y).trans (hm y).symm)
 unfold form
 rw [any_wr hx, e, clash_false_of ho hl]
 rfl
theorem form_opp {xs : List Int} (hx : ∀ x ∈ xs, InI64 x) {x : Int} (h1 : x ∈ xs) (h2 : -x ∈ xs) : form xs = none := by
 by_cases hany : xs.any wr = true
 ·unfold form; rw [if_pos hany]
 have hl : ∀ y ∈ xs, Lit y := fun y hy => ⟨hx y hy, by
  cases h : wr y
  ·rfl
  ·exact (hany (List.any_eq_true.2 ⟨y, hy, h⟩)).elim⟩
 have hf : ∀ y ∈ formL xs, Lit y := fun y hy => hl y ((mem_formL xs y).1 hy)
 unfold form
 rw [if_neg hany, if_pos]
 have m1 := (mem_formL xs x).2 h1
 have m2 := (mem_formL xs (-x)).2 h2
 obtain ⟨i, hi, ei⟩ := List.getElem_of_mem m1
 obtain ⟨j, hj, ej⟩ := List.getElem_of_mem m2
 have hs := formL_strict xs
 generalize formL xs = l at *
 have key : ∀ i j, (hi : i < l.length) → (hj : j < l.length) → i < j → l[j] = -l[i] → clash l = true := by
  intro i j hi hj hij e
  have hP := List.pairwise_iff_getElem.1 hs
  have hj1 : j = i + 1 := by
   apply Classical.byContradiction
   intro hne
   have q1 := hP i (i + 1) hi (by omega) (by omega)
   have q2 := hP (i + 1) j (by omega) hj (by omega)
   have b1 := (hf _ (List.getElem_mem hi)).abs
   have b2 := (hf _ (List.getElem_mem (show i + 1 < l.length by omega))).abs
   have b3 := (hf _ (List.getElem_mem hj)).abs
   rw [lt_iff, b1, b2] at q1
   rw [lt_iff, b2, b3] at q2
   rw [e] at q2
   omega
  subst hj1
  unfold clash
  rw [List.any_eq_true]
  refine ⟨i + 1, by simpa using hj, ?_⟩
  have e1 : l.getD (i + 1) 0 = l[i + 1] := by simp [List.getD_eq_getElem?_getD, hj]
  have e2 : l.getD (i + 1 - 1) 0 = l[i] := by simp [List.getD_eq_getElem?_getD, hi]
  rw [e1, e2, (hf _ (List.getElem_mem hi)).wrap, e]
  simp
 rcases Nat.lt_trichotomy i j with c | c | c
 ·exact key i j hi hj c (by rw [ei, ej])
 ·subst c
  have : x = -x := ei.symm.trans ej
  have := (hl x h1).ne0
  omega
 ·exact key j i hj hi c (by rw [ei, ej]; omega)
end Cnf
end Go.Proofs.YtjedgdamommgeaaGreat
namespace Go.Proofs.YtjedgdamommgeaaGreat
open Go.RowKit
section
variable {w : World}
theorem None_any (x : Int) (hx : InI64 x) (r : Bool) (hr : Cnf.wr x = r) : Calls Tryz.prog 11 #[.int .i64 x] w fun e w' => e = .returned (.bool r) ∧ w = w' := by
 subst hr
 unfold Cnf.wr
 obtain ⟨h1, h2⟩ := hx
 by_cases h0 : x = 0
 ·subst h0
  go_enter Tryz.func11, Tryz.ntmps11
  go_wp2
  go_ret
  exact ⟨rfl, rfl⟩
 ·have k0 : (x == 0) = false := beq_eq_false_iff_ne.2 h0
  have key : (x == IntKind.i64.wrap (-x)) = (x == Cnf.minI) := by
   rw [Bool.eq_iff_iff, beq_iff_eq, beq_iff_eq, IntKind.wrap_i64]
   unfold Cnf.minI
   omega
  rw [k0]
  generalize hnx : IntKind.i64.wrap (-x) = nx at *
  cases hm : (x == Cnf.minI)
  all_goals
   rw [hm] at key
   clear hm h0 h1 h2
   go_enter Tryz.func11, Tryz.ntmps11
   go_wp2
   go_ret
   exact ⟨rfl, rfl⟩
theorem Atom_any (x : Int) (hx : InI64 x) (hw : Cnf.wr x = false) : Calls Tryz.prog 12 #[.int .i64 x] w fun e w' => e = .returned (.int .i64 (x.natAbs : Int)) ∧ w = w' := by
 obtain ⟨h1, h2⟩ := hx
 have hne : x ≠ -9223372036854775808 := by
  intro e
  rw [e] at hw
  revert hw
  decide
 have hw' : -9223372036854775807 ≤ x := by omega
 clear hw hne h1
 by_cases h0 : x < 0
 ·have e : ((x.natAbs : Nat) : Int) = -x := by omega
  rw [e]
  go_enter Tryz.func12, Tryz.ntmps12
  go_wp2
  go_ret
  exact ⟨rfl, rfl⟩
 ·have e : ((x.natAbs : Nat) : Int) = x := by omega
  rw [e]
  clear e
  go_enter Tryz.func12, Tryz.ntmps12
  go_wp2
  go_ret
  exact ⟨rfl, rfl⟩
end
theorem cell_keepD {w w' : World} {b i : Nat} {u : Value} (h : w.cell? ⟨b, i, none⟩ = some u) (ho : Only (fun _ => False) w w') : w'.cell? ⟨b, i, none⟩ = some u := by
 rw [World.cell?_of_block (w := w) (ho.block b (World.block_lt_of_cell? w _ h) (fun f => f))]; exact h
theorem free_keepD {w w' : World} {b i : Nat} {u : Value} (h : w.cell? ⟨b, i, none⟩ = some u) (hf : w.frozen? ⟨b, i, none⟩ = false) (ho : Only (fun _ => False) w w') : w'.frozen? ⟨b, i, none⟩ = false := by
 have := ho.block b (World.block_lt_of_cell? w _ h) (fun f => f)
 unfold World.frozen? at *
 rw [this]; exact hf
theorem own_setCells {e : TypeId} {b n cap : Nat} : ∀ (vs : List Value) (o : Nat) (w : World) (xs : List Value), w.ownsRow 0 e 1 (.slice (some ⟨b, 0, none⟩) n cap) n xs →
  ∃ ys, (w.setCells b o vs).ownsRow 0 e 1 (.slice (some ⟨b, 0, none⟩) n cap) n ys ∧ ys.take o = xs.take o ∧ Only (fun k => k = b) w (w.setCells b o vs)
 | [], o, w, xs, h => ⟨xs, h, rfl, Only.refl _ _⟩
 | v :: vs, o, w, xs, h => by
  obtain ⟨ys, h1, h2, h3⟩ := own_setCells vs (o + 1) (w.setCell ⟨b, o, none⟩ v) (xs.set o v) (h.stored o v).1
  refine ⟨ys, h1, ?_, (Only.setCell (Only.refl (fun k => k = b) w) (p := ⟨b, o, none⟩) (.inl rfl) v).same h3⟩
  have h4 := congrArg (List.take o) h2
  rw [List.take_take, List.take_take, Nat.min_eq_left (by omega)] at h4
  rw [h4, List.take_set_of_le (by omega)]
def PredD (w : World) (bk : Option Nat) (g : Nat) (cb : Array Value) (p : Int → Bool) (xs : List Int) : Prop :=
 ∀ x ∈ xs, ∀ W, Only (fun k => bk = some k) w W → Calls Tryz.prog g (#[.int .i64 x] ++ cb) W fun e W' => e = .returned (.bool (p x)) ∧ Only (fun _ => False) W W'
def keepF (p : Int → Bool) (xs : List Int) : List Int := xs.filter fun x => !p x
theorem keepF_take {p : Int → Bool} {xs : List Int} {j : Nat} (h : j < xs.length) : keepF p (xs.take (j + 1)) = if p (xs.getD j 0) then keepF p (xs.take j) else keepF p (xs.take j) ++ [xs.getD j 0] := by
 unfold keepF
 rw [take_snocI xs j h, List.filter_append]
 cases hp : p (xs.getD j 0)
 ·simp only [List.filter_cons, hp, List.filter_nil, Bool.not_false, if_true, Bool.false_eq_true, if_false]
 ·simp only [List.filter_cons, hp, List.filter_nil, Bool.not_true, Bool.false_eq_true, if_false, if_true, List.append_nil]
theorem keepF_none {p : Int → Bool} {xs : List Int} {k : Nat} (h : NoneTo p xs k) (hk : k ≤ xs.length) : keepF p (xs.take k) = xs.take k := by
 unfold keepF
 rw [List.filter_eq_self]
 intro x hx
 obtain ⟨i, hi, e⟩ := List.getElem_of_mem hx
 have hi' := hi
 rw [List.length_take] at hi'
 have := h i (by omega)
 rw [List.getElem_take] at e
 rw [← e]
 simpa [List.getD_eq_getElem?_getD, show i < xs.length by omega] using this
structure DelAt (w : World) (xs : List Int) (p : Int → Bool) (b cap i j : Nat) (u : List Int) (wr : World) : Prop where
 own : wr.ownsRow 0 3 1 (.slice (some ⟨b, 0, none⟩) xs.length cap) xs.length (u.map cI)
 ul : u.length = xs.length
 uk : u.take i = keepF p (xs.take j)
 ud : u.drop j = xs.drop j
 il : i = (keepF p (xs.take j)).length
 lt : i < j
 jl : j ≤ xs.length
 on : Only (fun k => k = b) w wr
theorem own_cellI {w : World} {e : TypeId} {g n cap : Nat} {xs : List Int} (h : w.ownsRow 0 e 1 (.slice (some ⟨g, 0, none⟩) n cap) n (xs.map cI)) {i : Nat} (hi : i < xs.length) : w.cell? ⟨g, i, none⟩ = some (cI (xs.getD i 0)) := by
 have hn : xs.length = n := by simpa using h.1
 rw [h.cellAt i (by omega)]
 simp [List.getD, List.getElem?_eq_getElem hi]
theorem DelAt.only0 {w : World} {xs : List Int} {p : Int → Bool} {b cap i j : Nat} {u : List Int} {wr w2 : World} (h : DelAt w xs p b cap i j u wr) (o : Only (fun _ => False) wr w2) : DelAt w xs p b cap i j u w2 :=
 ⟨own_only h.own o (fun _ _ f => f), h.ul, h.uk, h.ud, h.il, h.lt, h.jl, h.on.same (o.mono fun _ f => f.elim)⟩
def DelTo (w : World) (v : Value) (ys : List Int) (e : Ending) (w' : World) : Prop :=
 ∃ ao cap, e = .returned (.slice ao ys.length cap) ∧ w'.ownsRow 0 3 1 (.slice ao ys.length cap) ys.length (ys.map cI) ∧ Only (fun k => v.ownBlock = some k) w w' ∧ Value.ownBlock (.slice ao ys.length cap) = v.ownBlock
set_option maxRecDepth 100000 in
set_option maxHeartbeats 1600000 in
theorem DeleteFunc_own {w : World} {v : Value} {xs : List Int} (h : w.ownsRow 0 3 1 v xs.length (xs.map cI)) (hr : ∀ x ∈ xs, InI64 x) (hlen : xs.length ≤ 1099511627776) (g : Nat) (cb : Array Value) (p : Int → Bool)
  (eg : ∀ args w, (callFunc g args).run Tryz.prog w = .ok (.enter g args) w) (hp : PredD w v.ownBlock g cb p xs) :
  Calls Tryz.prog 110 #[v, .func (.func g) #[] cb] w (DelTo w v (keepF p xs)) := by
 have hI : Ints w v xs := Ints.of_own h hr
 have hpI : PredI w g cb p xs := fun x hx W oW => (hp x hx W (oW.mono fun _ f => f.elim)).mono fun e W' ⟨h1, h2⟩ => ⟨h1, h2⟩
 have hIF := IndexFunc_int hI g cb p eg hpI
 have HIF := Lib.hid hIF
 have HP := Lib.hid hp
 have HO := Lib.hid h
 have HE := Lib.hid eg
 by_cases hany : xs.any p = true
 ·have hk : xs.findIdx p < xs.length := by
   rw [List.findIdx_lt_length]
   obtain ⟨x, hx, h2⟩ := List.any_eq_true.1 hany
   exact ⟨x, hx, h2⟩
  obtain ⟨k0, hk0⟩ : ∃ k0, xs.findIdx p = k0 := ⟨_, rfl⟩
  have hidx : idxI p xs = k0 := by unfold idxI; rw [if_pos hany, hk0]
  rw [hk0] at hk
  have hpk : p (xs.getD k0 0) = true := by
   rw [List.getD_eq_getElem?_getD, List.getElem?_eq_getElem hk]
   have := List.findIdx_getElem (xs := xs) (p := p) (w := by rw [hk0]; exact hk)
   simpa [hk0] using this
  have hnone : NoneTo p xs k0 := by
   intro j hj
   have := List.not_of_lt_findIdx (xs := xs) (p := p) (i := j) (by rw [hk0]; exact hj)
   rw [List.getD_eq_getElem?_getD, List.getElem?_eq_getElem (by omega)]
   simpa using this
  obtain ⟨b, cap, rfl, hc1, hc2⟩ := own_some h (by omega)
  rw [hidx] at HIF
  have hstart : ∀ W, Only (fun _ => False) w W → DelAt w xs p b cap k0 (k0 + 1) xs W := by
   intro W oW
   have e1 : keepF p (xs.take (k0 + 1)) = xs.take k0 := by rw [keepF_take hk, if_pos hpk, keepF_none hnone (by omega)]
   exact ⟨own_only HO.out oW (fun _ _ f => f), rfl, e1.symm, rfl, by rw [e1]; simp; omega, by omega, by omega, oW.mono fun _ f => f.elim⟩
  have HSt := Lib.hid hstart
  have dk : ((k0 : Int) == -1) = false := by rw [beq_eq_false_iff_ne]; omega
  have ewk : IntKind.i64.wrap ((k0 : Int) + 1) = ((k0 + 1 : Nat) : Int) := by rw [IntWalk.i64_in _ (by omega)]; rfl
  clear hIF hp h hpI hI hidx hstart hnone hpk hany hk0
  go_enter Tryz.func110, Tryz.ntmps110
  go_wp2_with fail
  refine HIF.out.mono ?_
  rintro e w1 ⟨rfl, O1⟩
  have hS1 := HSt.out w1 O1
  have HS1 := Lib.hid hS1
  clear hS1 HSt HIF
  go_wp2_with fail
  go_loopw [5, 6] (fun v5 v6 wr => ∃ (i j : Nat) (u : List Int), v5 = .int .i64 i ∧ v6 = .int .i64 j ∧ DelAt w xs p b cap i j u wr) (fun _ v _ => xs.length - (intOf v).toNat)
  case atStart => exact ⟨k0, k0 + 1, xs, rfl, by first | rfl | trivial, HS1.out⟩
  case round =>
   clear HS1 O1
   obtain ⟨i, j, u, rfl, rfl, hD⟩ := hrel
   by_cases cj : j < xs.length
   ·have huj : u.getD j 0 = xs.getD j 0 := by
     have h1 : (u.drop j)[0]? = (xs.drop j)[0]? := by rw [hD.ud]
     rw [List.getElem?_drop, List.getElem?_drop] at h1
     rw [List.getD_eq_getElem?_getD, List.getD_eq_getElem?_getD]
     simpa using congrArg (fun o => o.getD 0) h1
    have hilt := hD.lt
    have hjl := hD.jl
    have q1 := own_cellI hD.own (i := j) (by rw [hD.ul]; exact cj)
    have q2 := own_cellI hD.own (i := i) (by rw [hD.ul]; omega)
    have f2 := hD.own.frozenAt i
    rw [huj] at q1
    have hkt := keepF_take (p := p) cj
    have hmem : xs.getD j 0 ∈ xs := getD_mem' 0 cj
    obtain ⟨x, hx⟩ : ∃ x, xs.getD j 0 = x := ⟨_, rfl⟩
    rw [hx] at q1 hkt hmem
    obtain ⟨y, hy⟩ : ∃ y, u.getD i 0 = y := ⟨_, rfl⟩
    rw [hy] at q2
    have hcall := HP.out x hmem wr (hD.on.mono fun k hk => by rw [hk]; rfl)
    have HC := Lib.hid hcall
    have ewj : IntKind.i64.wrap ((j : Int) + 1) = ((j + 1 : Nat) : Int) := by rw [IntWalk.i64_in _ (by omega)]; rfl
    have ewi : IntKind.i64.wrap ((i : Int) + 1) = ((i + 1 : Nat) : Int) := by rw [IntWalk.i64_in _ (by omega)]; rfl
    have hud1 : ∀ z, (u.set i z).drop (j + 1) = xs.drop (j + 1) := fun z => by
     rw [List.drop_set_of_lt (by omega)]
     have h9 := congrArg (List.drop 1) hD.ud
     simpa [List.drop_drop] using h9
    have hud0 : u.drop (j + 1) = xs.drop (j + 1) := by
     have h9 := congrArg (List.drop 1) hD.ud
     simpa [List.drop_drop] using h9
    cases hpx : p x
    ·have hq2 : ∀ W, Only (fun _ => False) wr W → W.cell? ⟨b, i, none⟩ = some (cI y) ∧ W.frozen? ⟨b, i, none⟩ = false := fun W oW => ⟨cell_keepD q2 oW, free_keepD q2 f2 oW⟩
     have HQ2 := Lib.hid hq2
     have hnext : ∀ W, Only (fun _ => False) wr W → DelAt w xs p b cap (i + 1) (j + 1) (u.set i x) (W.setCell ⟨b, i, none⟩ (.int .i64 x)) := by
      intro W oW
      have hD := hD.only0 oW
      rw [hpx] at hkt
      simp only [Bool.false_eq_true, if_false] at hkt
      refine ⟨?_, by simp [hD.ul], ?_, hud1 x, by rw [hkt, List.length_append, ← hD.il]; rfl, by omega, by omega, hD.on.setCell (.inl rfl) _⟩
      ·have := (hD.own.stored i (cI x)).1
       simpa [List.map_set] using this
      ·rw [hkt, ← hD.uk]
       rw [List.take_set, List.set_eq_take_append_cons_drop, if_pos (by rw [List.length_take, hD.ul]; omega)]
       simp [List.take_take]
     have HN := Lib.hid hnext
     have HPx := Lib.hid hpx
     clear hnext hpx hcall hkt hud1 hud0 hD hq2 f2
     go_wp2_with fail
     refine HC.out.mono ?_
     rintro e w2 ⟨rfl, O2⟩
     rw [HPx.out]
     obtain ⟨q3, f3⟩ := HQ2.out w2 O2
     have hn2 := HN.out w2 O2
     have HN2 := Lib.hid hn2
     clear q1 q2 hn2 HN HQ2
     go_wp2_with fail
     go_roundw
     case rel => exact ⟨i + 1, j + 1, u.set i x, by first | rfl | trivial, by first | rfl | trivial, HN2.out⟩
     case measure => simp [intOf]; omega
    ·have hnext : DelAt w xs p b cap i (j + 1) u wr := by
      rw [hpx] at hkt
      simp only [if_true] at hkt
      exact ⟨hD.own, hD.ul, by rw [hkt]; exact hD.uk, hud0, by rw [hkt]; exact hD.il, by omega, by omega, hD.on⟩
     have HN := Lib.hid hnext
     have HPx := Lib.hid hpx
     clear hnext hpx hcall hkt hud1 hud0 hD
     go_wp2_with fail
     refine HC.out.mono ?_
     rintro e w2 ⟨rfl, O2⟩
     rw [HPx.out]
     have hn2 := HN.out.only0 O2
     have HN2 := Lib.hid hn2
     clear q1 q2 f2 hn2 HN
     go_wp2_with fail
     go_roundw
     case rel => exact ⟨i, j + 1, u, rfl, by first | rfl | trivial, HN2.out⟩
     case measure => simp [intOf]; omega
   ·have hj' : j = xs.length := by have := hD.jl; omega
    subst hj'
    have hkx : keepF p (xs.take xs.length) = keepF p xs := by rw [List.take_of_length_le (Nat.le_refl _)]
    have hil := hD.il
    have huk := hD.uk
    rw [hkx] at hil huk
    have hilt := hD.lt
    have hbound : i < cap := by omega
    obtain ⟨ys, y1, y2, y3⟩ := own_setCells (List.replicate (xs.length - i) (cI 0)) i wr (u.map cI) hD.own
    have hcut := own_cut y1 i (by omega)
    rw [y2, ← List.map_take, huk] at hcut
    have hfin : DelTo w (.slice (some ⟨b, 0, none⟩) xs.length cap) (keepF p xs) (.returned (.slice (some ⟨b, 0, none⟩) i cap)) (wr.setCells b i (List.replicate (xs.length - i) (cI 0))) := by
     refine ⟨some ⟨b, 0, none⟩, cap, by rw [← hil], by rw [← hil]; exact hcut, (hD.on.same y3).mono fun k hk => by rw [hk]; rfl, rfl⟩
    have hcl : ∀ o (hty : o = o), (Builtin.clear_ #[23] o #[.slice (some ⟨b, i, none⟩) (xs.length - i) (cap - i)]).run Tryz.prog wr = .ok (.tuple #[]) (wr.setCells b i (List.replicate (xs.length - i) (cI 0))) := fun o _ =>
     Lib.run_clear_slice wr 23 3 o (.int .i64 0) Tryz.underlying23 (fun w => by kernel_rfl) rfl rfl b i (xs.length - i) (cap - i) (by omega) (fun j hj => by
      rw [own_cellI hD.own (i := i + j) (by rw [hD.ul]; omega)]; rfl) (fun j hj => hD.own.frozenAt _)
    have hcl' := fun o => hcl o rfl
    have HFin := Lib.hid hfin
    have dcap : ¬ cap = i := by omega
    clear hfin hcut y1 y2 y3 huk hkx hD hcl hil
    go_wp2_with fail
    go_ret
    exact HFin.out
 ·have hall : keepF p xs = xs := by
   unfold keepF
   rw [List.filter_eq_self]
   intro x hx
   cases hpx : p x
   ·rfl
   ·exact absurd (List.any_eq_true.2 ⟨x, hx, hpx⟩) hany
  have hidx : idxI p xs = -1 := by unfold idxI; rw [if_neg hany]
  rw [hidx] at HIF
  obtain ⟨ao, cap, rfl, _, _⟩ := own_slice h
  have hfin : ∀ W, Only (fun _ => False) w W → DelTo w (.slice ao xs.length cap) (keepF p xs) (.returned (.slice ao xs.length cap)) W := fun W oW =>
   ⟨ao, cap, by rw [hall], by rw [hall]; exact own_only HO.out oW (fun _ _ f => f), oW.mono fun _ f => f.elim, by rw [hall]⟩
  have HFin := Lib.hid hfin
  clear hIF hp h hpI hI hidx hfin
  go_enter Tryz.func110, Tryz.ntmps110
  go_wp2_with fail
  refine HIF.out.mono ?_
  rintro e w1 ⟨rfl, O1⟩
  have hf := HFin.out w1 O1
  have HF := Lib.hid hf
  clear hf HFin
  go_wp2_with fail
  go_ret
  exact HF.out
end Go.Proofs.YtjedgdamommgeaaGreat
