/- SlicesI CnfFn Cnf CnfLaw CnfLaw2, in one text. -/
import Derived.Test.YtbapkcnfacklaaaGreatShelf
import Derived.Test.YtbapkcnfacklaaaGreatBase
set_option linter.unusedVariables false
namespace Go.Proofs.YtbapkcnfacklaaaGreat
open Go.RowKit Go.Lib Go.Sort Go.Shelf
theorem own_putRow {w : World} {e : TypeId} {g n cap : Nat} {xs : List Value} (h : w.ownsRow 0 e 1 (.slice (some ⟨g, 0, none⟩) n cap) n xs) (d : Array Int) (hd : d.size = n) :
  (putRow (Value.int .i64) w g 0 d).ownsRow 0 e 1 (.slice (some ⟨g, 0, none⟩) n cap) n (d.toList.map cI) := by
 rcases h.2 with ⟨h', _⟩ | ⟨g', cap', cur, h', hb, hg, h1, h2, h3, htake⟩
 ·simp at h'
 ·simp only [Value.slice.injEq, Option.some.injEq, Addr.mk.injEq, and_true, true_and] at h'
  obtain ⟨rfl, rfl⟩ := h'
  refine ⟨by simp [hd], .inr ⟨g, cap, putCells (Value.int .i64) 0 d cur, rfl, Nat.zero_le _, ?_, h1, h2, ?_, ?_⟩⟩
  ·show (w.heap.modify g _)[g]? = _
   rw [Array.getElem?_modify, if_pos rfl, hg]
   rfl
  ·simpa [putCells] using h3
  ·apply List.ext_getElem?
   intro j
   simp only [Nat.mul_one, putCells, List.getElem?_take, List.getElem?_map]
   by_cases hj : j < n
   ·have hjd : j < d.size := by omega
    have hjc : j < cur.size := by omega
    simp [hj, hjd, hjc, cI]
   ·have hjd : ¬ j < d.size := by omega
    simp [hj, hjd]
theorem only_putRow (w : World) (g : Nat) (d : Array Int) : Only (fun k => k = g) w (putRow (Value.int .i64) w g 0 d) :=
 ⟨rfl, rfl, rfl, by simp [putRow, mapBlock], fun k _ hk => by
  show (w.heap.modify g _)[k]? = _
  rw [Array.getElem?_modify, if_neg (fun e => hk e.symm)]⟩
theorem only_grow {F : Nat → Prop} {w w' : World} (h : Only F w w') (os : Array Obj) : Only F w (grow w' os) :=
 h.trans (G := fun _ => False) ⟨rfl, rfl, rfl, by simp [grow], fun k hk _ => by
  show (w'.heap ++ os)[k]? = _
  rw [Array.getElem?_append_left hk]⟩ (fun _ f => f.elim)
theorem only_ahead {F : Nat → Prop} {w w' : World} (h : Only F w w') (n : Nat) : Only F w (Sort.ahead w' n) := ⟨h.os, h.tape, h.output, h.size, h.block⟩
theorem own_holds {w : World} {e : TypeId} {g n cap : Nat} {xs : List Int} (h : w.ownsRow 0 e 1 (.slice (some ⟨g, 0, none⟩) n cap) n (xs.map cI)) : Holds (Value.int .i64) w g 0 xs.toArray := by
 intro j hj
 have hn : xs.length = n := by simpa using h.1
 have hj' : j < xs.length := by simpa using hj
 refine ⟨?_, h.frozenAt _⟩
 rw [Nat.zero_add, h.cellAt j (by omega)]
 simp [hj', cI]
theorem Clone_anyR {w : World} {v : Value} {xs : List Int} (hI : Ints w v xs) (hb : xs.length ≤ 17592186043904) :
  Calls Tryz.prog 45 #[v] w fun e w' => ∃ v', e = .returned v' ∧ w'.ownsRow 0 3 1 v' xs.length (xs.map cI) ∧ (∀ k, v'.ownBlock = some k → w.heap.size ≤ k) ∧ Only (fun _ => False) w w' := by
 obtain ⟨ao, cap, rfl, hl, hm⟩ := hI.shape
 have fin : ∀ (n : Nat) (zs : List Value) (e : Ending) (w' : World), (∃ v', e = .returned v' ∧ w'.ownsRow w.heap.size 3 1 v' n zs ∧ v' ≠ .slice none 0 0 ∧ Below w.heap.size w w') → ∃ v', e = .returned v' ∧ w'.ownsRow 0 3 1 v' n zs ∧ (∀ k, v'.ownBlock = some k → w.heap.size ≤ k) ∧ Only (fun _ => False) w w' := by
  rintro n zs e w' ⟨v', he, ho, _, hbel⟩
  refine ⟨v', he, ⟨ho.1, ?_⟩, fun k hk => (ho.lt k hk).1, (Only.of_below hbel).trans' ?_⟩
  ·rcases ho.2 with h | ⟨g, c, cur, h1, h2, h3⟩
   ·exact .inl h
   ·exact .inr ⟨g, c, cur, h1, Nat.zero_le _, h3⟩
  ·intro i hi; exact hi
 by_cases h0 : xs.length = 0
 ·have hx : xs = [] := List.eq_nil_of_length_eq_zero h0
  subst hx
  cases ao with
  | none => exact (Tryz.slices_Clone_int_nil 0 cap w).mono fun e w' ⟨he, hw⟩ => ⟨_, he, by rw [hw]; exact World.ownsRow_nil _ _ _ _, fun k hk => by simp [Value.ownBlock] at hk, by rw [hw]; exact Only.refl _ _⟩
  | some a => exact (Tryz.slices_Clone_int_zero a cap w).mono fun e w' h => fin 0 [] e w' h
 ·obtain ⟨b, off, rfl, hbb, hc⟩ := hI.cells _ _ _ rfl (by omega)
  refine (Tryz.slices_Clone_int b off xs.length cap xs w (Nat.le_refl _) (by omega) hc).mono fun e w' h => ?_
  rw [List.take_of_length_le (Nat.le_refl _)] at h
  exact fin _ _ e w' h
theorem Clone_any {w : World} {v : Value} {xs : List Int} (hI : Ints w v xs) (hb : xs.length ≤ 1099511627776) :
  Calls Tryz.prog 45 #[v] w fun e w' => ∃ v', e = .returned v' ∧ w'.ownsRow 0 3 1 v' xs.length (xs.map cI) ∧ (∀ k, v'.ownBlock = some k → w.heap.size ≤ k) ∧ Only (fun _ => False) w w' := Clone_anyR hI (by omega)
theorem Sort_anyR {w : World} {v : Value} {xs : List Int} (h : w.ownsRow 0 3 1 v xs.length (xs.map cI)) (hb : xs.length ≤ 17592186043904) (cf : Int → Int → Int) (hO : SWO (ltOf cf)) (hT : ∀ x y, (ltOf cf) x y = false → (ltOf cf) y x = false → x = y)
  (g : Nat) (cb : Array Value) (eg : ∀ args w, (callFunc g args).run Tryz.prog w = .ok (.enter g args) w)
  (hcmp : ∀ (W : World) (x y : Int), Calls Tryz.prog g (#[.int .i64 x, .int .i64 y] ++ cb) W fun e w' => e = .returned (.int .i64 (cf x y)) ∧ ∃ q os', w' = grow (W.drewN q) os') :
  Calls Tryz.prog 103 #[v, .func (.func g) #[] cb] w fun e w' => e = .returned (.tuple #[]) ∧ w'.ownsRow 0 3 1 v xs.length ((xs.mergeSort fun x y => !(ltOf cf) y x).map cI) ∧ Only (fun k => v.ownBlock = some k) w w' := by
 by_cases h0 : xs.length = 0
 ·have hx : xs = [] := List.eq_nil_of_length_eq_zero h0
  subst hx
  obtain ⟨ao, cap, rfl, _, _⟩ := own_slice h
  refine (Tryz.slices_SortFunc_none (α := Int) ao cap _ w).mono fun e w' ⟨he, hw⟩ => ⟨he, ?_, ?_⟩
  ·rw [hw]; simpa using h
  ·rw [hw]; exact Only.refl _ _
 ·obtain ⟨gb, cap, rfl, _, _⟩ := own_some h (by omega)
  have hH := own_holds h
  have hlt := own_lt h (k := gb) rfl
  have key := Tryz.slices_SortFunc_total (Value.int .i64) (fun _ => rfl) cf hO g cb gb 0 cap xs.toArray w eg (fun m os dk _ x y => hcmp _ x y) hH hlt (by simp; omega) hT
  simp only [List.size_toArray] at key
  refine key.mono fun e w' ⟨he, n, os, hw⟩ => ⟨he, ?_, ?_⟩
  ·subst hw
   unfold sortWorld
   have h1 := own_putRow (w := Sort.ahead w n) (g := gb) (n := xs.length) (cap := cap) (e := 3) h (xs.mergeSort fun x y => !(ltOf cf) y x).toArray (by simp)
   have h2 := own_only h1 (only_grow (Only.refl (fun _ => False) _) os) (fun _ _ f => f)
   simpa using h2
  ·subst hw
   unfold sortWorld
   refine only_grow ?_ os
   have := (only_ahead (Only.refl (fun k => k = gb) w) n).same (only_putRow (Sort.ahead w n) gb (xs.mergeSort fun x y => !(ltOf cf) y x).toArray)
   exact this.mono fun i hi => by subst hi; rfl
theorem compact_le (xs : List Int) : (Lib.compact xs).length ≤ xs.length := by
 unfold Lib.compact Lib.compactUpTo
 rw [List.length_map]
 have := List.length_filter_le (Lib.keeps xs.toArray) (List.range xs.length)
 simpa using this
theorem Compact_any {w : World} {v : Value} {xs : List Int} (h : w.ownsRow 0 3 1 v xs.length (xs.map cI)) :
  Calls Tryz.prog 108 #[v] w fun e w' => ∃ v', e = .returned v' ∧ w'.ownsRow 0 3 1 v' (Lib.compact xs).length ((Lib.compact xs).map cI) ∧ v'.ownBlock = v.ownBlock ∧ Only (fun k => v.ownBlock = some k) w w' := by
 by_cases h0 : xs.length = 0
 ·have hx : xs = [] := List.eq_nil_of_length_eq_zero h0
  subst hx
  obtain ⟨ao, cap, rfl, _, _⟩ := own_slice h
  refine (Tryz.slices_Compact_int_empty ao cap w).mono fun e w' ⟨he, hw⟩ => ⟨_, he, ?_, rfl, ?_⟩
  ·rw [hw]; exact h
  ·rw [hw]; exact Only.refl _ _
 ·obtain ⟨gb, cap, rfl, hc1, hc2⟩ := own_some h (by omega)
  have hH := own_holds h
  unfold maxLen at hc2
  refine (Tryz.slices_Compact_int gb 0 cap xs w hH (by omega) hc1).mono fun e w' ⟨he, q, hw⟩ => ⟨_, he, ?_, rfl, ?_⟩
  ·subst hw
   have hle := compact_le xs
   have h1 := own_putRow (w := Sort.ahead w q) (g := gb) (n := xs.length) (cap := cap) (e := 3) h (Lib.compact xs ++ List.replicate (xs.length - (Lib.compact xs).length) 0).toArray (by simp; omega)
   have h2 := own_cut h1 (Lib.compact xs).length hle
   simpa using h2
  ·subst hw
   have := (only_ahead (Only.refl (fun k => k = gb) w) q).same (only_putRow (Sort.ahead w q) gb (Lib.compact xs ++ List.replicate (xs.length - (Lib.compact xs).length) 0).toArray)
   exact this.mono fun i hi => by subst hi; rfl
namespace Cnf
def minI : Int := -9223372036854775808
def wr (x : Int) : Bool := x == 0 || x == minI
def absW (x : Int) : Int := max x (IntKind.i64.wrap (-x))
def cf (x y : Int) : Int := if Lib.compareInt (absW x) (absW y) = 0 then Lib.compareInt x y else Lib.compareInt (absW x) (absW y)
def lt (x y : Int) : Bool := decide (absW x < absW y ∨ (absW x = absW y ∧ x < y))
theorem lt_eq (x y : Int) : ltOf cf x y = lt x y := by
 unfold ltOf cf lt Lib.compareInt
 congr 1
 apply propext
 split <;> split <;> (try split) <;> (try split) <;> omega
theorem lt_iff (x y : Int) : lt x y = true ↔ absW x < absW y ∨ (absW x = absW y ∧ x < y) := by simp [lt]
theorem lt_not (x y : Int) : lt x y = false ↔ absW y ≤ absW x ∧ (absW x = absW y → y ≤ x) := by rw [← Bool.not_eq_true, lt_iff]; omega
theorem swo : SWO (ltOf cf) where
 irrefl x := by rw [lt_eq, lt_not]; omega
 trans x y z h1 h2 := by rw [lt_eq, lt_iff] at *; omega
 ntrans x y z h1 h2 := by rw [lt_eq, lt_not] at *; omega
theorem total (x y : Int) (h1 : (ltOf cf) x y = false) (h2 : (ltOf cf) y x = false) : x = y := by
 rw [lt_eq, lt_not] at *; omega
def sortL (xs : List Int) : List Int := xs.mergeSort fun x y => !(ltOf cf) y x
def formL (xs : List Int) : List Int := Lib.compact (sortL xs)
def clash (l : List Int) : Bool := (List.range l.length).any fun i => decide (1 ≤ i) && (l.getD i 0 == IntKind.i64.wrap (-(l.getD (i - 1) 0)))
def form (xs : List Int) : Option (List Int) := if xs.any wr then none else if clash (formL xs) then none else some (formL xs)
end Cnf
section
variable {w : World}
theorem wrong_any (x : Int) : Calls Tryz.prog 87 #[.int .i64 x] w fun e w' => e = .returned (.bool (Cnf.wr x)) ∧ w = w' := by
 unfold Cnf.wr
 by_cases h0 : x = 0
 ·subst h0
  go_enter Tryz.func87, Tryz.ntmps87
  go_wp2
  go_ret
  exact ⟨rfl, rfl⟩
 ·have h1 : (x == 0) = false := beq_eq_false_iff_ne.2 h0
  generalize hm : (x == Cnf.minI) = r
  unfold Cnf.minI at hm
  rw [h1]
  clear h0
  cases r
  all_goals
   go_enter Tryz.func87, Tryz.ntmps87
   go_wp2
   go_ret
   exact ⟨rfl, rfl⟩
theorem abs_any (x : Int) (r : Int) (hr : Cnf.absW x = r) : Calls Tryz.prog 107 #[.int .i64 x] w fun e w' => e = .returned (.int .i64 r) ∧ w = w' := by
 subst hr
 unfold Cnf.absW
 generalize hy : IntKind.i64.wrap (-x) = y
 go_enter Tryz.func107, Tryz.ntmps107
 go_wp2
 go_ret
 exact ⟨rfl, rfl⟩
theorem Or_two (g : Nat) (a b : Int) (h0 : w.cell? ⟨g, 0, none⟩ = some (.int .i64 a)) (h1 : w.cell? ⟨g, 1, none⟩ = some (.int .i64 b)) :
  Calls Tryz.prog 105 #[.slice (some ⟨g, 0, none⟩) 2 2] w fun e w' => e = .returned (.int .i64 (if a = 0 then b else a)) ∧ w = w' := by
 by_cases ha : a = 0
 ·subst ha
  by_cases hb : b = 0
  ·subst hb
   go_enter Tryz.func105, Tryz.ntmps105
   go_wp2
   refine wp_loop_rounds 3 ?_
   rw [rounds_succ]
   go_wp2
   rw [rounds_succ]
   go_wp2
   rw [rounds_succ]
   go_wp2
   go_ret
   exact ⟨by simp, rfl⟩
  ·have hb' : (b != 0) = true := bne_iff_ne.2 hb
   clear hb
   go_enter Tryz.func105, Tryz.ntmps105
   go_wp2
   refine wp_loop_rounds 2 ?_
   rw [rounds_succ]
   go_wp2
   rw [rounds_succ]
   go_wp2
   go_ret
   exact ⟨by simp, rfl⟩
 ·have ha' : (a != 0) = true := bne_iff_ne.2 ha
  rw [if_neg ha]
  clear ha
  go_enter Tryz.func105, Tryz.ntmps105
  go_wp2
  refine wp_loop_rounds 1 ?_
  rw [rounds_succ]
  go_wp2
  go_ret
  exact ⟨rfl, rfl⟩
theorem Or_at (g : Nat) (a b r : Int) (h0 : w.cell? ⟨g, 0, none⟩ = some (.int .i64 a)) (h1 : w.cell? ⟨g, 1, none⟩ = some (.int .i64 b)) (hr : (if a = 0 then b else a) = r) :
  Calls Tryz.prog 105 #[.slice (some ⟨g, 0, none⟩) 2 2] w fun e w' => e = .returned (.int .i64 r) ∧ w = w' := by
 subst hr
 exact Or_two g a b h0 h1
theorem alloc_grow (w : World) (o : Obj) : w.alloc o = grow (w.drewN 0) #[o] := by
 show ({ w with heap := w.heap.push o } : World) = { w with heap := w.heap ++ #[o] }
 rw [Array.push_eq_append]
theorem cf_any (x y : Int) : Calls Tryz.prog 104 #[.int .i64 x, .int .i64 y] w fun e w' => e = .returned (.int .i64 (Cnf.cf x y)) ∧ ∃ q os', w' = grow (w.drewN q) os' := by
 unfold Cnf.cf
 have c1 := fun W => (Tryz.cmp_Compare_int (Cnf.absW x) (Cnf.absW y) W).mono fun _ _ h => (⟨h.1, h.2.symm⟩ : _ ∧ W = _)
 have c2 := fun W => (Tryz.cmp_Compare_int x y W).mono fun _ _ h => (⟨h.1, h.2.symm⟩ : _ ∧ W = _)
 have C1 := Lib.hid c1
 have C2 := Lib.hid c2
 clear c1 c2
 generalize Lib.compareInt (Cnf.absW x) (Cnf.absW y) = p at *
 generalize Lib.compareInt x y = q at *
 generalize hax : Cnf.absW x = ax at *
 generalize hay : Cnf.absW y = ay at *
 have HX := Lib.hid hax
 have HY := Lib.hid hay
 clear hax hay
 generalize hr : (if p = 0 then q else p) = r
 have HR := Lib.hid hr
 clear hr
 go_enter Tryz.func104, Tryz.ntmps104
 go_wp2_with fail
 refine (abs_any x ax HX.out).mono ?_
 rintro e w1 ⟨rfl, rfl⟩
 go_wp2_with fail
 refine (abs_any y ay HY.out).mono ?_
 rintro e w1 ⟨rfl, rfl⟩
 go_wp2_with fail
 refine (C1.out _).mono ?_
 rintro e w1 ⟨rfl, rfl⟩
 go_wp2_with fail
 refine (C2.out _).mono ?_
 rintro e w1 ⟨rfl, rfl⟩
 go_wp2_with fail
 refine (Or_at w.heap.size p q r (by simp) (by simp) HR.out).mono ?_
 rintro e w2 ⟨rfl, rfl⟩
 go_wp2_with fail
 go_ret
 exact ⟨rfl, 0, #[.cells #[.int .i64 p, .int .i64 q] 3], alloc_grow _ _⟩
end
def NoClash (l : List Int) (k : Nat) : Prop := ∀ i, 1 ≤ i → i < k → (l.getD i 0 == IntKind.i64.wrap (-(l.getD (i - 1) 0))) = false
theorem clash_hit {l : List Int} {k : Nat} (h1 : 1 ≤ k) (hk : k < l.length) (h : (l.getD k 0 == IntKind.i64.wrap (-(l.getD (k - 1) 0))) = true) : Cnf.clash l = true := by
 unfold Cnf.clash
 rw [List.any_eq_true]
 exact ⟨k, by simpa using hk, by rw [h]; simp [h1]⟩
theorem clash_none {l : List Int} (h : NoClash l l.length) : Cnf.clash l = false := by
 unfold Cnf.clash
 rw [← Bool.not_eq_true, List.any_eq_true]
 rintro ⟨i, hi, hc⟩
 simp only [Bool.and_eq_true, decide_eq_true_eq] at hc
 rw [h i hc.1 (by simpa using hi)] at hc
 exact absurd hc.2 (by simp)
theorem formL_range {xs : List Int} (h : ∀ x ∈ xs, InI64 x) : ∀ x ∈ Cnf.formL xs, InI64 x := by
 intro x hx
 unfold Cnf.formL Lib.compact Lib.compactUpTo at hx
 obtain ⟨i, hi, rfl⟩ := List.mem_map.1 hx
 have hi2 := (List.mem_filter.1 hi).1
 rw [List.mem_range] at hi2
 have hm : (Cnf.sortL xs).toArray[i]! ∈ Cnf.sortL xs := by
  simp [hi2]
 exact h _ ((List.mergeSort_perm xs _).mem_iff.1 hm)
theorem row_cell' {w : World} {e : TypeId} {g n cap : Nat} {xs : List Int} (h : w.ownsRow 0 e 1 (.slice (some ⟨g, 0, none⟩) n cap) n (xs.map cI)) {i : Nat} (hi : i < xs.length) :
  w.cell? ⟨g, i, none⟩ = some (.int .i64 (xs.getD i 0)) := by
 have hn : xs.length = n := by simpa using h.1
 rw [h.cellAt i (by omega)]
 simp [List.getD, List.getElem?_eq_getElem hi]
def FormPost (w : World) (xs : List Int) (e : Ending) (w' : World) : Prop :=
 match Cnf.form xs with
 | none => e = .returned (.tuple #[.slice none 0 0, .bool false]) ∧ Only (fun _ => False) w w'
 | some l => ∃ v, e = .returned (.tuple #[v, .bool true]) ∧ w'.ownsRow 0 3 1 v l.length (l.map cI) ∧ (∀ k, v.ownBlock = some k → w.heap.size ≤ k) ∧ Only (fun _ => False) w w'
set_option maxHeartbeats 1600000 in
theorem Form_anyR {w : World} {v : Value} {xs : List Int} (hI : Ints w v xs) (hb : xs.length ≤ 17592186043904) :
  Calls Tryz.prog 85 #[v] w (FormPost w xs) := by
 have eg86 : ∀ args w, (callFunc 87 args).run Tryz.prog w = .ok (.enter 87 args) w := enters_of Tryz.func87 (by kernel_rfl) rfl
 have eg88 : ∀ args w, (callFunc 104 args).run Tryz.prog w = .ok (.enter 104 args) w := enters_of Tryz.func104 (by kernel_rfl) rfl
 have hpred : PredI w 87 #[] Cnf.wr xs := fun x _ W _ => (wrong_any x).mono fun _ _ ⟨he, hw⟩ => ⟨he, by rw [hw]; exact Only.refl _ _⟩
 have HE86 := Lib.hid eg86
 have HE88 := Lib.hid eg88
 have HPred := Lib.hid hpred
 clear eg86 eg88 hpred
 cases hany : xs.any Cnf.wr
 ·have HAny := Lib.hid hany
  clear hany
  go_enter Tryz.func85, Tryz.ntmps85
  go_wp2_with fail
  refine (ContainsFunc_int hI 87 #[] Cnf.wr HE86.out HPred.out false HAny.out).mono ?_
  rintro e w1 ⟨rfl, O1⟩
  have hI1 := hI.only0 O1
  go_wp2_with fail
  refine (Clone_anyR hI1 hb).mono ?_
  rintro e w2 ⟨v2, rfl, R2, N2, O2⟩
  go_wp2_with fail
  refine (Sort_anyR R2 hb Cnf.cf Cnf.swo Cnf.total 104 #[] HE88.out (fun W x y => cf_any x y)).mono ?_
  rintro e w3 ⟨rfl, R3, O3⟩
  have R3' : w3.ownsRow 0 3 1 v2 (Cnf.sortL xs).length ((Cnf.sortL xs).map cI) := by
   have : (Cnf.sortL xs).length = xs.length := List.length_mergeSort xs
   rw [this]; exact R3
  go_wp2_with fail
  refine (Compact_any R3').mono ?_
  rintro e w4 ⟨v4, rfl, R4, B4, O4⟩
  have hl : Lib.compact (Cnf.sortL xs) = Cnf.formL xs := rfl
  rw [hl] at R4
  have hlen : (Cnf.formL xs).length ≤ 17592186043904 := by
   have h1 := compact_le (Cnf.sortL xs)
   have h2 : (Cnf.sortL xs).length = xs.length := List.length_mergeSort xs
   rw [hl] at h1
   omega
  have hr4 := formL_range hI.range
  have hform : Cnf.form xs = if Cnf.clash (Cnf.formL xs) then none else some (Cnf.formL xs) := by unfold Cnf.form; rw [HAny.out]; rfl
  have N4 : ∀ k, v4.ownBlock = some k → w.heap.size ≤ k := fun k hk => by rw [B4] at hk; have := N2 k hk; have := O1.size; omega
  have O5 : Only (fun _ => False) w w4 := ((O1.same O2).trans O3 fun i hi => .inr (by have := N2 i hi; have := O1.size; omega)).trans O4 fun i hi => .inr (by have := N2 i hi; have := O1.size; omega)
  have HF := Lib.hid hform
  clear hl hform O1 O2 O3 O4 R2 R3 R3' N2 B4 hI1 hI HAny HPred HE86 HE88
  generalize Cnf.formL xs = l at *
  obtain ⟨ao, cap, rfl, hc1, hc2⟩ := own_slice R4
  unfold maxLen at hc2
  go_wp2_with fail
  go_loopw [5] (fun v wr => ∃ (k : Nat), v = .int .i64 k ∧ 1 ≤ k ∧ (k ≤ l.length ∨ k = 1) ∧ NoClash l k ∧ wr.ownsRow 0 3 1 (.slice ao l.length cap) l.length (l.map cI) ∧ Only (fun _ => False) w wr) (fun v _ => l.length - (intOf v).toNat)
  case atStart => exact ⟨1, rfl, Nat.le_refl _, .inr rfl, fun i h1 h2 => by omega, R4, O5⟩
  case round =>
   clear R4 O5
   obtain ⟨k, rfl, hk1, hk2, hN, R4, O5⟩ := hrel
   have HN := Lib.hid hN
   have HK2 := Lib.hid hk2
   clear hN hk2
   by_cases c : k < l.length
   ·obtain ⟨g, cap', he, _, _⟩ := own_some R4 (by omega)
    simp only [Value.slice.injEq] at he
    obtain ⟨rfl, -, rfl⟩ := he
    obtain ⟨j, rfl⟩ : ∃ j, k = j + 1 := ⟨k - 1, by omega⟩
    have q1 : wr.cell? ⟨g, j + 1, none⟩ = some (.int .i64 (l.getD (j + 1) 0)) := row_cell' R4 c
    have q2 : wr.cell? ⟨g, j, none⟩ = some (.int .i64 (l.getD j 0)) := row_cell' R4 (by omega)
    have e2 : IntKind.i64.wrap (j : Int) = j := IntWalk.i64_in _ (by omega)
    have e3 : (j : Int) < (l.length : Int) := by omega
    have e4 : (j : Int) + 1 < (l.length : Int) := by omega
    have hcl := fun h => clash_hit (l := l) (k := j + 1) hk1 c h
    have hnc : (l.getD (j + 1) 0 == IntKind.i64.wrap (-(l.getD j 0))) = false → NoClash l (j + 2) := by
     intro hcmp i h1 h2
     rcases Nat.lt_or_ge i (j + 1) with h3 | h3
     ·exact HN.out i h1 h3
     ·have : i = j + 1 := by omega
      subst this
      simpa using hcmp
    simp only [Nat.add_sub_cancel] at hcl
    generalize l.getD (j + 1) 0 = a at *
    generalize l.getD j 0 = b at *
    generalize hnb : IntKind.i64.wrap (-b) = nb at *
    cases hcmp : (a == nb)
    ·have HS := Lib.hid (hnc hcmp)
     clear hcl hnc
     go_wp2_with fail
     go_quiet (fail)
     clear e2
     go_wp2_with fail
     go_roundw
     case rel => exact ⟨j + 2, by go_num, by omega, .inl (by omega), HS.out, R4, O5.drewN _⟩
     case measure => simp [intOf]; omega
    ·have HC := Lib.hid (hcl hcmp)
     clear hcl hnc
     go_wp2_with fail
     go_quiet (fail)
     clear e2
     go_wp2_with fail
     go_ret2
     unfold FormPost
     rw [HF.out, HC.out]
     exact ⟨rfl, O5.drewN _⟩
   ·have hcl : Cnf.clash l = false := by
     refine clash_none fun i h1 h2 => HN.out i h1 ?_
     have := HK2.out
     omega
    have HC := Lib.hid hcl
    clear hcl
    go_wp2_with fail
    go_ret2
    unfold FormPost
    rw [HF.out, HC.out]
    exact ⟨_, rfl, R4, N4, O5⟩
 ·have HAny := Lib.hid hany
  clear hany
  go_enter Tryz.func85, Tryz.ntmps85
  go_wp2_with fail
  refine (ContainsFunc_int hI 87 #[] Cnf.wr HE86.out HPred.out true HAny.out).mono ?_
  rintro e w1 ⟨rfl, O1⟩
  go_wp2_with fail
  go_ret2
  have hf : Cnf.form xs = none := by unfold Cnf.form; rw [HAny.out]; rfl
  unfold FormPost
  rw [hf]
  exact ⟨rfl, O1⟩
theorem Form_any {w : World} {v : Value} {xs : List Int} (hI : Ints w v xs) (hb : xs.length ≤ 1099511627776) :
  Calls Tryz.prog 85 #[v] w (FormPost w xs) := Form_anyR hI (by omega)
namespace Cnf
def Strict (l : List Int) : Prop := l.Pairwise fun x y => lt x y = true
theorem sortL_perm (xs : List Int) : (sortL xs).Perm xs := List.mergeSort_perm xs _
theorem sortL_sorted (xs : List Int) : (sortL xs).Pairwise fun x y => lt y x = false := by
 have h := List.pairwise_mergeSort (le := fun x y => !(ltOf cf) y x) (l := xs)
  (by
    intro a b c h1 h2
    simp only [Bool.not_eq_true'] at *
    exact swo.ntrans c b a h2 h1)
  (by
    intro a b
    simp only [Bool.or_eq_true, Bool.not_eq_true']
    rw [lt_eq, lt_eq, lt_not, lt_not]; omega)
 exact h.imp (by intro a b h; simpa [lt_eq] using h)
theorem sorted_get {l : List Int} (h : l.Pairwise fun x y => lt y x = false) {i j : Nat} (hij : i < j) (hj : j < l.length) : lt (l.getD j 0) (l.getD i 0) = false := by
 have := (List.pairwise_iff_getElem.1 h) i j (by omega) hj hij
 simpa [List.getD_eq_getElem?_getD, hj, show i < l.length by omega] using this
theorem keeps_iff (l : List Int) (j : Nat) (hj : j < l.length) : Lib.keeps l.toArray j = true ↔ j = 0 ∨ l.getD j 0 ≠ l.getD (j - 1) 0 := by
 unfold Lib.keeps
 simp only [decide_eq_true_eq]
 have h1 : l.toArray[j]! = l.getD j 0 := by simp [hj, List.getD_eq_getElem?_getD]
 have h2 : l.toArray[j - 1]! = l.getD (j - 1) 0 := by simp [show j - 1 < l.length by omega, List.getD_eq_getElem?_getD]
 rw [h1, h2]
theorem compact_strict {l : List Int} (h : l.Pairwise fun x y => lt y x = false) : Strict (Lib.compact l) := by
 unfold Strict Lib.compact Lib.compactUpTo
 rw [List.pairwise_map]
 have hr : (List.range l.length).Pairwise (· < ·) := List.pairwise_lt_range
 have hf := (hr.filter (Lib.keeps l.toArray))
 refine hf.imp_of_mem ?_
 intro i j hi hj hij
 obtain ⟨hi1, hi2⟩ := List.mem_filter.1 hi
 obtain ⟨hj1, hj2⟩ := List.mem_filter.1 hj
 rw [List.mem_range] at hi1 hj1
 have e1 : l.toArray[i]! = l.getD i 0 := by simp [hi1, List.getD_eq_getElem?_getD]
 have e2 : l.toArray[j]! = l.getD j 0 := by simp [hj1, List.getD_eq_getElem?_getD]
 rw [e1, e2]
 have hk := (keeps_iff l j hj1).1 hj2
 have hne : l.getD j 0 ≠ l.getD (j - 1) 0 := by
  rcases hk with hk | hk
  ·omega
  ·exact hk
 have h1 := sorted_get h (i := j - 1) (j := j) (by omega) hj1
 rw [lt_not] at h1
 rw [lt_iff]
 by_cases e : i = j - 1
 ·subst e; omega
 ·have h2 := sorted_get h (i := i) (j := j - 1) (by omega) (by omega)
  rw [lt_not] at h2
  omega
theorem mem_compact (l : List Int) (x : Int) : x ∈ Lib.compact l ↔ x ∈ l := by
 unfold Lib.compact Lib.compactUpTo
 constructor
 ·intro hx
  obtain ⟨i, hi, rfl⟩ := List.mem_map.1 hx
  have hi1 := (List.mem_filter.1 hi).1
  rw [List.mem_range] at hi1
  simp [hi1]
 ·intro hx
  -- the first place where it stands
  have key : ∀ n, ∀ i, i = n → i < l.length → l.getD i 0 = x → ∃ j, j < l.length ∧ Lib.keeps l.toArray j = true ∧ l.getD j 0 = x := by
   intro n
   induction n with
   | zero => intro i hi hl he; subst hi; exact ⟨0, hl, (keeps_iff l 0 hl).2 (.inl rfl), he⟩
   | succ n ih =>
    intro i hi hl he
    subst hi
    by_cases hk : l.getD (n + 1) 0 = l.getD n 0
    ·exact ih n rfl (by omega) (by rw [← hk]; exact he)
    ·exact ⟨n + 1, hl, (keeps_iff l (n + 1) hl).2 (.inr (by simpa using hk)), he⟩
  obtain ⟨i, hi, rfl⟩ := List.getElem_of_mem hx
  obtain ⟨j, hj1, hj2, hj3⟩ := key i i rfl hi (by simp [List.getD_eq_getElem?_getD, hi])
  rw [List.mem_map]
  refine ⟨j, List.mem_filter.2 ⟨by simpa using hj1, hj2⟩, ?_⟩
  rw [← hj3]
  simp [hj1, List.getD_eq_getElem?_getD]
theorem formL_strict (xs : List Int) : Strict (formL xs) := compact_strict (sortL_sorted xs)
theorem mem_formL (xs : List Int) (x : Int) : x ∈ formL xs ↔ x ∈ xs := by
 unfold formL
 rw [mem_compact]
 exact (sortL_perm xs).mem_iff
end Cnf
namespace Cnf
structure Lit (x : Int) : Prop where
 r : InI64 x
 w : wr x = false
theorem Lit.ne0 {x : Int} (h : Lit x) : x ≠ 0 := by
 intro e; subst e; have := h.w; revert this; decide
theorem Lit.lo {x : Int} (h : Lit x) : -9223372036854775807 ≤ x ∧ x ≤ 9223372036854775807 := by
 have h1 := h.r
 have h2 : x ≠ minI := by
  intro e
  have := h.w
  unfold wr at this
  rw [e] at this
  simp at this
 unfold minI at h2
 unfold InI64 at h1
 omega
theorem Lit.wrap {x : Int} (h : Lit x) : IntKind.i64.wrap (-x) = -x := IntWalk.i64_in _ (by have := h.lo; omega)
theorem Lit.abs {x : Int} (h : Lit x) : absW x = x.natAbs := by
 unfold absW
 rw [h.wrap]; omega
def AbsStrict (l : List Int) : Prop := l.Pairwise fun x y => x.natAbs < y.natAbs
theorem any_wr {xs : List Int} (h : ∀ x ∈ xs, Lit x) : xs.any wr = false := by
 rw [← Bool.not_eq_true, List.any_eq_true]
 rintro ⟨x, hx, hw⟩
 rw [(h x hx).w] at hw; cases hw
theorem clash_false_of {l : List Int} (h : AbsStrict l) (hl : ∀ x ∈ l, Lit x) : clash l = false := by
 unfold clash
 rw [← Bool.not_eq_true, List.any_eq_true]
 rintro ⟨i, hi, hc⟩
 simp only [Bool.and_eq_true, decide_eq_true_eq, beq_iff_eq] at hc
 rw [List.mem_range] at hi
 obtain ⟨h1, h2⟩ := hc
 have e1 : l.getD i 0 = l[i] := by simp [List.getD_eq_getElem?_getD, hi]
 have e2 : l.getD (i - 1) 0 = l[i - 1] := by simp [List.getD_eq_getElem?_getD, show i - 1 < l.length by omega]
 have h3 := (List.pairwise_iff_getElem.1 h) (i - 1) i (by omega) hi (by omega)
 rw [e1, e2, (hl _ (List.getElem_mem (by omega))).wrap] at h2
 rw [h2] at h3
 omega
end Cnf
end Go.Proofs.YtbapkcnfacklaaaGreat
