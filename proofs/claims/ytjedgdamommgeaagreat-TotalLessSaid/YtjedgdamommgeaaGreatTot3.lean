/- The counter of package total as an object: a table and a builder; the plain functions. -/
import Derived.Test.YtjedgdamommgeaaGreatBld2
import Derived.Test.YtjedgdamommgeaaGreatTot2
set_option linter.unusedVariables false
namespace Go.Proofs.YtjedgdamommgeaaGreat
open Go.RowKit
structure CtAt (w : World) (gt gb : Tag) (c bt bb : Nat) (cap : Int) (T : Tab) (B : Bld) : Prop where
 blk : w.heap[c]? = some (.cells #[.pointer (some ⟨bt, 0, none⟩), .pointer (some ⟨bb, 0, none⟩), .int .i64 cap] 90 (0, 0))
 tc : (gt c).1 = 0
 tc' : (gb c).1 = 0
 tab : ∃ V, TabAt w gt bt V T
 bld : ∃ V, BldAt w gb bb V B
 dis : ∀ k, Mine gt k → ¬ Mine gb k
section
variable {w : World} {gt gb : Tag} {c bt bb : Nat} {cap : Int} {T : Tab} {B : Bld}
theorem CtAt.only0 (H : CtAt w gt gb c bt bb cap T B) {w' : World} (ho : Only (fun _ => False) w w') : CtAt w' gt gb c bt bb cap T B := by
 obtain ⟨V, hV⟩ := H.tab
 obtain ⟨U, hU⟩ := H.bld
 exact ⟨only_block H.blk ho (fun f => f), H.tc, H.tc', ⟨V, hV.only0 ho⟩, ⟨U, hU.only0 ho⟩, H.dis⟩
theorem CtAt.only (H : CtAt w gt gb c bt bb cap T B) {w' : World} {F : Nat → Prop} (ho : Only F w w') (h1 : ∀ k, Mine gt k ∨ Mine gb k → ¬ F k) (h2 : ¬ F c) : CtAt w' gt gb c bt bb cap T B := by
 obtain ⟨V, hV⟩ := H.tab
 obtain ⟨U, hU⟩ := H.bld
 exact ⟨only_block H.blk ho h2, H.tc, H.tc', ⟨V, hV.only ho (fun k hk => h1 k (.inl hk))⟩, ⟨U, hU.only ho (fun k hk => h1 k (.inr hk))⟩, H.dis⟩
theorem Only.mine2 {w1 w2 : World} {gt1 gb1 : Tag} (h : Only (fun k => Mine gt k ∨ Mine gb k) w w1) (ht : Agree w gt gt1) (hb : Agree w gb gb1) (h1 : Only (fun k => Mine gt1 k ∨ Mine gb1 k) w1 w2) : Only (fun k => Mine gt k ∨ Mine gb k) w w2 := by
 refine h.trans h1 (fun k hk => ?_)
 rcases Nat.lt_or_ge k w.heap.size with hlt | hge
 ·refine .inl ?_
  unfold Mine at hk ⊢
  rwa [ht k hlt, hb k hlt] at hk
 ·exact .inr hge
end
namespace Tot
def hT (n lim hp : Nat) (fl : Bool) : Tab := ⟨(List.range n).map hA, lim, hp, fl⟩
theorem hA_mem {n k : Nat} : hA k ∈ (List.range n).map hA ↔ k < n := by
 constructor
 ·intro h
  obtain ⟨a, ha, he⟩ := List.mem_map.1 h
  have : a = k := by
   unfold hA at he
   simp at he
   omega
  rw [← this]; exact List.mem_range.1 ha
 ·intro h; exact List.mem_map.2 ⟨k, List.mem_range.2 h, rfl⟩
def upC (x y out : List Int) (n i j : Nat) : List (List Int) :=
 if 0 < min (i + j) n then [[out.getD (min (i + j) n - 1) 0] ++ (if 0 < i then [-(x.getD (i - 1) 0)] else []) ++ (if 0 < j then [-(y.getD (j - 1) 0)] else [])] else []
def dnC (x y out : List Int) (n i j : Nat) : List (List Int) :=
 if i + j < n then [[-(out.getD (i + j) 0)] ++ (if i < x.length then [x.getD i 0] else []) ++ (if j < y.length then [y.getD j 0] else [])] else []
def cellC (x y out : List Int) (n i j : Nat) : List (List Int) := upC x y out n i j ++ dnC x y out n i j
def rowC (x y out : List Int) (n i m : Nat) : List (List Int) := (List.range m).flatMap (cellC x y out n i)
def allC (x y out : List Int) (n m : Nat) : List (List Int) := (List.range m).flatMap fun i => rowC x y out n i (y.length + 1)
def adds (B : Bld) (l : List (List Int)) : Bld := l.foldl Bld.add B
theorem rowC_succ (x y out : List Int) (n i m : Nat) : rowC x y out n i (m + 1) = rowC x y out n i m ++ cellC x y out n i m := by
 simp [rowC, List.range_succ]
theorem allC_succ (x y out : List Int) (n m : Nat) : allC x y out n (m + 1) = allC x y out n m ++ rowC x y out n m (y.length + 1) := by
 simp [allC, List.range_succ]
theorem adds_app (B : Bld) (l m : List (List Int)) : adds B (l ++ m) = adds (adds B l) m := by simp [adds]
end Tot
section
variable {w : World} {g : Tag} {b : Nat} {V : TabV}
theorem Help_in {n lim hp : Nat} {fl : Bool} (H : TabAt w g b V (Tot.hT n lim hp fl)) (hp1 : hp ≤ n) (h : n < lim) :
  Calls Tryz.prog 21 #[.pointer (some ⟨b, 0, none⟩)] w fun e w' => e = .returned (.int .i64 ((n : Int) + 1)) ∧ TabTo w g b (Tot.hT (n + 1) lim n fl) w' := by
 have hl : lim ≤ 65536 := H.lim
 have hnm : hA n ∉ (List.range n).map hA := fun h => by have := Tot.hA_mem.1 h; omega
 have e : ({ Tot.hT n lim hp fl with helps := n } : Tab).num (hA n) = (Tot.hT (n + 1) lim n fl, (n : Int) + 1) := by
  unfold Tab.num Tot.hT
  rw [if_neg hnm, if_neg (by simp; omega)]
  simp [List.range_succ]
 have := Help_any H n hp1 (fun j _ hj => Tot.hA_mem.2 hj) hnm (by omega) ((n : Int) + 1) (by rw [e])
 rwa [e] at this
theorem Help_out {n lim hp : Nat} {fl : Bool} (H : TabAt w g b V (Tot.hT n lim hp fl)) (hp1 : hp ≤ n) (h : lim ≤ n) :
  Calls Tryz.prog 21 #[.pointer (some ⟨b, 0, none⟩)] w fun e w' => e = .returned (.int .i64 0) ∧ TabTo w g b (Tot.hT n lim n true) w' := by
 have hl : lim ≤ 65536 := H.lim
 have hn : n ≤ lim := by have := H.len; simpa [Tot.hT] using this
 have hnm : hA n ∉ (List.range n).map hA := fun h => by have := Tot.hA_mem.1 h; omega
 have e : ({ Tot.hT n lim hp fl with helps := n } : Tab).num (hA n) = (Tot.hT n lim n true, 0) := by
  unfold Tab.num Tot.hT
  rw [if_neg hnm, if_pos (by simp; omega)]
 have := Help_any H n hp1 (fun j _ hj => Tot.hA_mem.2 hj) hnm (by omega) 0 (by rw [e])
 rwa [e] at this
end
end Go.Proofs.YtjedgdamommgeaaGreat
