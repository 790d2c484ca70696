/- Package version: at; cmp.Compare at strings; cmp.Or. -/
import Derived.Test.YtmlfchjompfmaaaDoorVe4
import Derived.Test.YtmlfchjompfmaaaDoorShelfV
import Derived.Laws.Cover1
set_option linter.unusedVariables false
namespace Go.Proofs.YtmlfchjompfmaaaDoor
open Go.RowKit
open Vn (dgs lts partB beB rankOf numOf wordOf)
structure Part where
 rank : Nat
 num : Nat
 word : Str
def PartC (_ : Nat) (_ : World) (cs : List Value) (p : Part) : Prop := cs = [.int .i64 (p.rank : Int), .int .i64 (p.num : Int), .string p.word] ∧ p.rank ≤ 2 ∧ p.num ≤ 999999999 ∧ okS p.word
theorem PartC.keep : Keeps PartC := fun _ _ _ _ _ h _ => h
def endP : Part := ⟨1, 0, ⟨#[]⟩⟩
def partOf (a : List UInt8) : Part := ⟨rankOf a, numOf a, ⟨(wordOf a).toArray⟩⟩
def Part.val (p : Part) : Array Value := #[.int .i64 (p.rank : Int), .int .i64 (p.num : Int), .string p.word]
section
variable {w w' : World} {B : Nat}
theorem results_cell1 {fn : Func} {p : Tmp} {ty : TypeId} (h : fn.results = #[.cell p ty]) (tmps : Array Value) (P : Program) (w : World) :
  (results fn tmps).run P w = ((asAddr (tmps.getD p undef)).run P w).andThen fun a w₁ => (loadVar ty a).run P w₁ := by
 simp only [results, h]
 simp [Sem.run_bind, Result.andThen]
theorem setRow_only (w : World) (g : Nat) (cs : Array Value) : Only (fun k => k = g) w (w.setRow g cs) :=
 ⟨rfl, rfl, rfl, by simp [World.setRow], fun k hk hn => by
  unfold World.setRow
  simp only [Array.getElem?_modify]
  rw [if_neg (fun e => hn e.symm)]⟩
theorem ret_part {fn : Func} {p : Tmp} {Q : Ending → World → Prop} {a : Act} {W : World} {B : Nat} {cs : Array Value} (hf : fn.results = #[.cell p 100]) (hp : a.tmps.getD p undef = .pointer (some ⟨B, 0, none⟩)) (hd : a.defers = []) (hs : cs.size = 3) (hg : W.heap[B]? = some (.cells cs 100 (0, 0)))
  (h : Q (.returned (.agg cs)) W) : bodyPost Tryd.prog fn Q Exit.ret a W := by
 refine bodyPost_ret (v := .agg cs) ?_ hd h
 rw [results_cell1 hf, hp]
 simp only [asAddr, Sem.run_pure, Result.andThen_ok]
 exact run_loadVar_row W B 100 100 cs (0, 0) _ hg Tryd.underlying100 rfl (by rw [hs]; kernel_rfl)
set_option maxRecDepth 100000 in
theorem at_p {v : Value} {l : List Part} (h : RowT 3 PartC B w v l) (i : Nat) (hi : i ≤ 1000000000) (t : Part) (ht : l.getD i endP = t) :
  Calls Tryd.prog 45 #[v, .int .i64 (i : Int)] w (fun e w' => e = .returned (.agg t.val) ∧ Only (fun _ => False) w w') := by
 obtain ⟨ao, cap, rfl, g1, g2⟩ := h.shape
 obtain ⟨n, hn⟩ : ∃ n, l.length = n := ⟨_, rfl⟩
 have HW := Lib.hid (show (w.alloc (.cells #[.int .i64 0, .int .i64 0, .string ⟨#[]⟩] 100)).heap[w.heap.size]? = some (.cells #[.int .i64 0, .int .i64 0, .string ⟨#[]⟩] 100 (0, 0)) from heap_alloc_new _ _)
 have HOA := Lib.hid (show Only (fun _ => False) w (w.alloc (.cells #[.int .i64 0, .int .i64 0, .string ⟨#[]⟩] 100)) from (Only.refl _ _).alloc _)
 by_cases ci : i < l.length
 ·obtain ⟨y, hx⟩ : ∃ y, l[i]? = some y := ⟨_, List.getElem?_eq_getElem ci⟩
  rw [List.getD_eq_getElem?_getD, hx] at ht
  have ht' : y = t := ht
  subst ht'
  obtain ⟨b, off, cs, rfl, hb, hB, -, hr, hC⟩ := h.placed hx
  obtain ⟨rfl, -, -, -⟩ := hC
  have hr2 := rangeAt_keep hr hb hB (Kp.of0 HOA.out)
  have p0 := hr2 0 _ rfl
  have p1 := hr2 1 _ rfl
  have p2 := hr2 2 _ rfl
  obtain ⟨yr, yn, yw⟩ := y
  dsimp only at p0 p1 p2
  rw [Nat.add_zero] at p0
  rw [hn] at ci g1 ⊢
  clear hr hr2 hx h hn ht hb hB
  unfold Part.val
  go_enter Tryd.func45, Tryd.ntmps45
  go_wp2_with (refine wpList_store_row rfl 100 (.tmp 4) (.tmp 12) rfl w.heap.size #[.int .i64 yr, .int .i64 yn, .string yw] rfl rfl 100 #[.int .i64 0, .int .i64 0, .string ⟨#[]⟩] HW.out (by kernel_rfl) rfl (by kernel_rfl) ?_)
  refine ret_part (p := 4) rfl rfl rfl rfl (setRow_heap _ _ _ _ _ _ HW.out) ?_
  exact ⟨rfl, HOA.out.trans (setRow_only _ _ _) (fun k hk => .inr (by omega))⟩
 ·rw [List.getD_eq_getElem?_getD, List.getElem?_eq_none (by omega)] at ht
  have ht' : endP = t := ht
  subst ht'
  rw [hn] at ci g1 ⊢
  clear h hn ht
  unfold Part.val endP
  go_enter Tryd.func45, Tryd.ntmps45
  go_wp2_with (refine wpList_store_row rfl 100 (.tmp 4) (.tmp 13) rfl w.heap.size #[.int .i64 1, .int .i64 0, .string ⟨#[]⟩] rfl rfl 100 #[.int .i64 0, .int .i64 0, .string ⟨#[]⟩] HW.out (by kernel_rfl) rfl (by kernel_rfl) ?_)
  refine ret_part (p := 4) rfl rfl rfl rfl (setRow_heap _ _ _ _ _ _ HW.out) ?_
  exact ⟨rfl, HOA.out.trans (setRow_only _ _ _) (fun k hk => .inr (by omega))⟩
def cmpS (a b : List UInt8) : Int := if a < b then -1 else if b < a then 1 else 0
theorem CmpS_any (a b : Str) : Calls Tryd.prog 48 #[.string a, .string b] w (fun e w' => e = .returned (.int .i64 (cmpS a.toList b.toList)) ∧ w' = w) := by
 obtain ⟨r, hr⟩ : ∃ r, cmpS a.toList b.toList = r := ⟨_, rfl⟩
 have h1 := bytesLess_x a.toList b.toList
 obtain ⟨b1, e1⟩ : ∃ x, decide (a.toList < b.toList) = x := ⟨_, rfl⟩
 obtain ⟨b2, h2⟩ : ∃ x, (a.toList == b.toList) = x := ⟨_, rfl⟩
 rw [e1] at h1
 rw [hr]
 have hr2 : (if b1 = true then (-1 : Int) else if b2 = true then 0 else 1) = r := by
  rw [← hr, ← e1, ← h2]
  unfold cmpS
  simp only [decide_eq_true_eq, beq_iff_eq]
  by_cases c1 : a.toList < b.toList
  ·rw [if_pos c1, if_pos c1]
  ·rw [if_neg c1, if_neg c1]
   by_cases c2 : a.toList = b.toList
   ·rw [if_pos c2, if_neg (fun h => by rw [c2] at h; exact Vn.bl_irrefl _ h)]
   ·rw [if_neg c2, if_pos ((Vn.bl_total c2).resolve_left c1)]
 clear hr e1
 have HN : Hid (∀ (s : Str) (W : World), Calls Tryd.prog 73 #[.string s] W (fun e w' => e = .returned (.bool false) ∧ w' = W)) := fun s W => by
  go_enter Tryd.func73, Tryd.ntmps73
  go_wp2
  go_ret
  exact ⟨by simp, rfl⟩
 have HRes := Lib.hid hr2
 clear hr2
 go_enter Tryd.func48, Tryd.ntmps48
 cases b1 with
 | true =>
  have hres : (-1 : Int) = r := HRes.out
  subst hres
  clear HRes
  go_wp2_with (go_at_call 73; refine (HN.out _ _).mono ?_; rintro e w' ⟨rfl, rfl⟩)
  go_ret
  exact ⟨rfl, rfl⟩
 | false =>
  cases b2 with
  | true =>
   have hres : (0 : Int) = r := HRes.out
   subst hres
   clear HRes
   go_wp2_with (go_at_call 73; refine (HN.out _ _).mono ?_; rintro e w' ⟨rfl, rfl⟩)
   go_ret
   exact ⟨rfl, rfl⟩
  | false =>
   have hres : (1 : Int) = r := HRes.out
   subst hres
   clear HRes
   go_wp2_with (go_at_call 73; refine (HN.out _ _).mono ?_; rintro e w' ⟨rfl, rfl⟩)
   go_ret
   exact ⟨rfl, rfl⟩
end
end Go.Proofs.YtmlfchjompfmaaaDoor
