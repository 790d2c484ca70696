/- Wv1 Wv2, in one text. -/
import Derived.Test.YtmlfchjompfmaaaGreatDoorVeA
import Derived.Test.YtmlfchjompfmaaaGreatDoorShelfV
import Derived.Laws.Cover1
import Derived.Test.YtmlfchjompfmaaaGreatDoorVnA
import Derived.Laws.ResultCell
import Derived.Lib.AtoiErrMem
set_option linter.unusedVariables false
namespace Go.Proofs.YtmlfchjompfmaaaGreatDoor
open Go.RowKit
open Vn (dgs lts partB beB rankOf numOf wordOf)
structure Part where
 rank : Nat
 num : Nat
 word : Str
def PartC (_ : Nat) (_ : World) (cs : List Value) (p : Part) : Prop := cs = [.int .i64 (p.rank : Int), .int .i64 (p.num : Int), .string p.word] ∧ p.rank ≤ 2 ∧ p.num ≤ 999999999 ∧ okS p.word
theorem PartC.keep : Keeps PartC := fun _ _ _ _ _ h _ => h
def endP : Part := ⟨1, 0, ⟨#[]⟩⟩
def partOf (a : List UInt8) : Part := ⟨rankOf a, numOf a, ⟨(wordOf a).toArray⟩⟩
def Part.val (p : Part) : Array Value := #[.int .i64 (p.rank : Int), .int .i64 (p.num : Int), .string p.word]
section
variable {w w' : World} {B : Nat}
theorem results_cell1 {fn : Func} {p : Tmp} {ty : TypeId} (h : fn.results = #[.cell p ty]) (tmps : Array Value) (P : Program) (w : World) :
  (results fn tmps).run P w = ((asAddr (tmps.getD p undef)).run P w).andThen fun a w₁ => (loadVar ty a).run P w₁ := by
 simp only [results, h]
 simp [Sem.run_bind, Result.andThen]
theorem setRow_only (w : World) (g : Nat) (cs : Array Value) : Only (fun k => k = g) w (w.setRow g cs) :=
 ⟨rfl, rfl, rfl, by simp [World.setRow], fun k hk hn => by
  unfold World.setRow
  simp only [Array.getElem?_modify]
  rw [if_neg (fun e => hn e.symm)]⟩
theorem ret_part {fn : Func} {p : Tmp} {Q : Ending → World → Prop} {a : Act} {W : World} {B : Nat} {cs : Array Value} (hf : fn.results = #[.cell p 82]) (hp : a.tmps.getD p undef = .pointer (some ⟨B, 0, none⟩)) (hd : a.defers = []) (hs : cs.size = 3) (hg : W.heap[B]? = some (.cells cs 82 (0, 0)))
  (h : Q (.returned (.agg cs)) W) : bodyPost Tryz.prog fn Q Exit.ret a W := by
 refine bodyPost_ret (v := .agg cs) ?_ hd h
 rw [results_cell1 hf, hp]
 simp only [asAddr, Sem.run_pure, Result.andThen_ok]
 exact run_loadVar_row W B 82 82 cs (0, 0) _ hg Tryz.underlying82 rfl (by rw [hs]; kernel_rfl)
set_option maxRecDepth 100000 in
theorem at_p {v : Value} {l : List Part} (h : RowT 3 PartC B w v l) (i : Nat) (hi : i ≤ 1000000000) (t : Part) (ht : l.getD i endP = t) :
  Calls Tryz.prog 31 #[v, .int .i64 (i : Int)] w (fun e w' => e = .returned (.agg t.val) ∧ Only (fun _ => False) w w') := by
 obtain ⟨ao, cap, rfl, g1, g2⟩ := h.shape
 obtain ⟨n, hn⟩ : ∃ n, l.length = n := ⟨_, rfl⟩
 have HW := Lib.hid (show (w.alloc (.cells #[.int .i64 0, .int .i64 0, .string ⟨#[]⟩] 82)).heap[w.heap.size]? = some (.cells #[.int .i64 0, .int .i64 0, .string ⟨#[]⟩] 82 (0, 0)) from heap_alloc_new _ _)
 have HOA := Lib.hid (show Only (fun _ => False) w (w.alloc (.cells #[.int .i64 0, .int .i64 0, .string ⟨#[]⟩] 82)) from (Only.refl _ _).alloc _)
 by_cases ci : i < l.length
 ·obtain ⟨y, hx⟩ : ∃ y, l[i]? = some y := ⟨_, List.getElem?_eq_getElem ci⟩
  rw [List.getD_eq_getElem?_getD, hx] at ht
  have ht' : y = t := ht
  subst ht'
  obtain ⟨b, off, cs, rfl, hb, hB, -, hr, hC⟩ := h.placed hx
  obtain ⟨rfl, -, -, -⟩ := hC
  have hr2 := rangeAt_keep hr hb hB (Kp.of0 HOA.out)
  have p0 := hr2 0 _ rfl
  have p1 := hr2 1 _ rfl
  have p2 := hr2 2 _ rfl
  obtain ⟨yr, yn, yw⟩ := y
  dsimp only at p0 p1 p2
  rw [Nat.add_zero] at p0
  rw [hn] at ci g1 ⊢
  clear hr hr2 hx h hn ht hb hB
  unfold Part.val
  go_enter Tryz.func31, Tryz.ntmps31
  go_wp2_with (refine wpList_store_row rfl 82 (.tmp 4) (.tmp 12) rfl w.heap.size #[.int .i64 yr, .int .i64 yn, .string yw] rfl rfl 82 #[.int .i64 0, .int .i64 0, .string ⟨#[]⟩] HW.out (by kernel_rfl) rfl (by kernel_rfl) ?_)
  refine ret_part (p := 4) rfl rfl rfl rfl (setRow_heap _ _ _ _ _ _ HW.out) ?_
  exact ⟨rfl, HOA.out.trans (setRow_only _ _ _) (fun k hk => .inr (by omega))⟩
 ·rw [List.getD_eq_getElem?_getD, List.getElem?_eq_none (by omega)] at ht
  have ht' : endP = t := ht
  subst ht'
  rw [hn] at ci g1 ⊢
  clear h hn ht
  unfold Part.val endP
  go_enter Tryz.func31, Tryz.ntmps31
  go_wp2_with (refine wpList_store_row rfl 82 (.tmp 4) (.tmp 13) rfl w.heap.size #[.int .i64 1, .int .i64 0, .string ⟨#[]⟩] rfl rfl 82 #[.int .i64 0, .int .i64 0, .string ⟨#[]⟩] HW.out (by kernel_rfl) rfl (by kernel_rfl) ?_)
  refine ret_part (p := 4) rfl rfl rfl rfl (setRow_heap _ _ _ _ _ _ HW.out) ?_
  exact ⟨rfl, HOA.out.trans (setRow_only _ _ _) (fun k hk => .inr (by omega))⟩
def cmpS (a b : List UInt8) : Int := if a < b then -1 else if b < a then 1 else 0
theorem CmpS_any (a b : Str) : Calls Tryz.prog 34 #[.string a, .string b] w (fun e w' => e = .returned (.int .i64 (cmpS a.toList b.toList)) ∧ w' = w) := by
 obtain ⟨r, hr⟩ : ∃ r, cmpS a.toList b.toList = r := ⟨_, rfl⟩
 have h1 := bytesLess_x a.toList b.toList
 obtain ⟨b1, e1⟩ : ∃ x, decide (a.toList < b.toList) = x := ⟨_, rfl⟩
 obtain ⟨b2, h2⟩ : ∃ x, (a.toList == b.toList) = x := ⟨_, rfl⟩
 rw [e1] at h1
 rw [hr]
 have hr2 : (if b1 = true then (-1 : Int) else if b2 = true then 0 else 1) = r := by
  rw [← hr, ← e1, ← h2]
  unfold cmpS
  simp only [decide_eq_true_eq, beq_iff_eq]
  by_cases c1 : a.toList < b.toList
  ·rw [if_pos c1, if_pos c1]
  ·rw [if_neg c1, if_neg c1]
   by_cases c2 : a.toList = b.toList
   ·rw [if_pos c2, if_neg (fun h => by rw [c2] at h; exact Vn.bl_irrefl _ h)]
   ·rw [if_neg c2, if_pos ((Vn.bl_total c2).resolve_left c1)]
 clear hr e1
 have HN : Hid (∀ (s : Str) (W : World), Calls Tryz.prog 50 #[.string s] W (fun e w' => e = .returned (.bool false) ∧ w' = W)) := fun s W => by
  go_enter Tryz.func50, Tryz.ntmps50
  go_wp2
  go_ret
  exact ⟨by simp, rfl⟩
 have HRes := Lib.hid hr2
 clear hr2
 go_enter Tryz.func34, Tryz.ntmps34
 cases b1 with
 | true =>
  have hres : (-1 : Int) = r := HRes.out
  subst hres
  clear HRes
  go_wp2_with (go_at_call 50; refine (HN.out _ _).mono ?_; rintro e w' ⟨rfl, rfl⟩)
  go_ret
  exact ⟨rfl, rfl⟩
 | false =>
  cases b2 with
  | true =>
   have hres : (0 : Int) = r := HRes.out
   subst hres
   clear HRes
   go_wp2_with (go_at_call 50; refine (HN.out _ _).mono ?_; rintro e w' ⟨rfl, rfl⟩)
   go_ret
   exact ⟨rfl, rfl⟩
  | false =>
   have hres : (1 : Int) = r := HRes.out
   subst hres
   clear HRes
   go_wp2_with (go_at_call 50; refine (HN.out _ _).mono ?_; rintro e w' ⟨rfl, rfl⟩)
   go_ret
   exact ⟨rfl, rfl⟩
end
end Go.Proofs.YtmlfchjompfmaaaGreatDoor
namespace Go.Proofs.YtmlfchjompfmaaaGreatDoor
open Go.RowKit
open Vn (dgs lts isLt partB beB rankOf numOf wordOf)
structure Laid (w : World) : Prop where
 syn : ∃ t p, w.var? Tryz.prog "strconv.ErrSyntax" = some #[.iface t p]
 rng : ∃ t p, w.var? Tryz.prog "strconv.ErrRange" = some #[.iface t p]
 tab : Lib.TabIs Tryz.prog w "internal/strconv.uint64pow10" .u64 Lib.pow10Tab
theorem var_only {P : Program} {w w' : World} {n : String} {cs : Array Value} (h : w.var? P n = some cs) (ho : Only (fun _ => False) w w') : w'.var? P n = some cs := by
 unfold World.var? at h ⊢
 cases hg : P.globalNamed n with
 | none => rw [hg] at h; cases h
 | some g =>
  rw [hg] at h
  simp only [Option.bind_some] at h ⊢
  cases hb : w.heap[g]? with
  | none => rw [hb] at h; cases h
  | some o =>
   rw [ho.block g (Array.getElem?_eq_some_iff.1 hb).1 (fun f => f), hb]
   rw [hb] at h
   exact h
theorem Laid.only {w w' : World} (h : Laid w) (ho : Only (fun _ => False) w w') : Laid w' := by
 obtain ⟨⟨t, p, h1⟩, ⟨t2, p2, h2⟩, h3⟩ := h
 exact ⟨⟨t, p, var_only h1 ho⟩, ⟨t2, p2, var_only h2 ho⟩, var_only h3 ho⟩
theorem only_growK (w : World) (k : Nat) (os : Array Obj) : Only (fun _ => False) w (Go.Sort.grow (w.drewN k) os) :=
 ⟨rfl, rfl, rfl, by simp [Go.Sort.grow, World.drewN], fun j hj _ => by
  show (w.heap ++ os)[j]? = _
  rw [Array.getElem?_append_left hj]⟩
theorem only_ofBelow {w w' : World} (h : Below w.heap.size w w') : Only (fun _ => False) w w' := (Only.of_below h).trans' fun i hi => hi
section
variable {w w' : World} {B : Nat}
theorem Atoi_x (s : Str) (hs : s.size ≤ 1000000) (hL : Laid w) : Calls Tryz.prog 58 #[.string s] w (fun e w' => ∃ (n : Int) (er : Value), e = .returned (.tuple #[.int .i64 n, er]) ∧
  ((er = .nilIface ∧ Lib.atoiAll s.toList = .ok n) ∨ ((∃ t p, er = .iface t p) ∧ ∀ v, Lib.atoiAll s.toList ≠ .ok v)) ∧ Only (fun _ => False) w w') := by
 rw [ByteArray.toList_eq]
 cases h : Lib.atoiAll s.data.toList with
 | ok v =>
  refine (Sv.strconv_Atoi_ok s (by omega) v h w).mono ?_
  rintro e w1 ⟨rfl, hw⟩
  refine ⟨v, _, rfl, .inl ⟨rfl, rfl⟩, ?_⟩
  rcases hw with rfl | ⟨t, rfl⟩
  ·exact Only.refl _ _
  ·exact only_ofBelow (Lib.bytesWorld_below _ _ _)
 | range =>
  obtain ⟨t, p, h1⟩ := hL.rng
  refine (Sv.strconv_Atoi_range_var s (by omega) h t p w h1).mono ?_
  rintro e w1 ⟨N, rfl, -, -, hb⟩
  exact ⟨_, _, rfl, .inr ⟨⟨_, _, rfl⟩, fun v hv => by cases hv⟩, only_ofBelow hb⟩
 | _ =>
  obtain ⟨t, p, h1⟩ := hL.syn
  refine (Sv.strconv_Atoi_bad s (by omega) (h.trans rfl) t p w h1).mono ?_
  rintro e w1 ⟨N, rfl, -, -, hb⟩
  exact ⟨0, _, rfl, .inr ⟨⟨_, _, rfl⟩, fun v hv => by cases hv⟩, only_ofBelow hb⟩
theorem Itoa_x (n : Int) (h0 : 0 ≤ n) (h9 : n ≤ 999999999) (hL : Laid w) : Calls Tryz.prog 59 #[.int .i64 n] w (fun e w' => e = .returned (.string ⟨(Lib.itoa n).toArray⟩) ∧ Only (fun _ => False) w w') := by
 refine (Sv.strconv_Itoa n (by omega) (by omega) w hL.tab).mono ?_
 rintro e w1 ⟨rfl, k, os, rfl⟩
 exact ⟨rfl, only_growK _ _ _⟩
theorem ret_read {fn : Func} {p u : Tmp} {Q : Ending → World → Prop} {a : Act} {W : World} {B : Nat} {cs : Array Value} {b : Value} (hf : fn.results = #[.cell p 82, .tmp u]) (hp : a.tmps.getD p undef = .pointer (some ⟨B, 0, none⟩)) (hu : a.tmps.getD u undef = b) (hd : a.defers = []) (hs : cs.size = 3) (hg : W.heap[B]? = some (.cells cs 82 (0, 0)))
  (h : Q (.returned (.tuple #[.agg cs, b])) W) : bodyPost Tryz.prog fn Q Exit.ret a W := by
 refine bodyPost_ret (v := .tuple #[.agg cs, b]) ?_ hd h
 rw [results_cell_tmp hf, hp, hu]
 simp only [asAddr, Sem.run_pure, Result.andThen_ok]
 rw [run_loadVar_row W B 82 82 cs (0, 0) _ hg Tryz.underlying82 rfl (by rw [hs]; kernel_rfl)]
 rfl
def ReadEnd (s : Str) (w w' : World) (e : Ending) : Prop := ∃ (x y : Int) (t : Str) (ok : Bool), e = .returned (.tuple #[.agg #[.int .i64 x, .int .i64 y, .string t], .bool ok]) ∧ partB s.toList = ok ∧
 (ok = true → x = (rankOf s.toList : Int) ∧ y = (numOf s.toList : Int) ∧ t.toList = wordOf s.toList) ∧ Only (fun _ => False) w w'
theorem ReadEnd.mk {s : Str} {w w' : World} {e : Ending} (x y : Int) (t : Str) (ok : Bool) (he : e = .returned (.tuple #[.agg #[.int .i64 x, .int .i64 y, .string t], .bool ok])) (h1 : partB s.toList = ok)
 (h2 : ok = true → x = (rankOf s.toList : Int) ∧ y = (numOf s.toList : Int) ∧ t.toList = wordOf s.toList) (ho : Only (fun _ => False) w w') : ReadEnd s w w' e := ⟨x, y, t, ok, he, h1, h2, ho⟩
end
end Go.Proofs.YtmlfchjompfmaaaGreatDoor
