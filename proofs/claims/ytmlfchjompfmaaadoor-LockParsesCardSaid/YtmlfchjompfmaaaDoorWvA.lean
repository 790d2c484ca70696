/- Wv1 Wv2, in one text. -/
import Derived.Test.YtmlfchjompfmaaaDoorVeA
import Derived.Test.YtmlfchjompfmaaaDoorShelfV
import Derived.Laws.Cover1
import Derived.Test.YtmlfchjompfmaaaDoorVnA
import Derived.Laws.ResultCell
import Derived.Lib.AtoiErrMem
set_option linter.unusedVariables false
namespace Go.Proofs.YtmlfchjompfmaaaDoor
open Go.RowKit
open Vn (dgs lts partB rankOf numOf wordOf)
structure Part where
 rank : Nat
 num : Nat
 word : Str
def PartC (_ : Nat) (_ : World) (cs : List Value) (p : Part) : Prop := cs = [.int .i64 (p.rank : Int), .int .i64 (p.num : Int), .string p.word] ∧ p.rank ≤ 2 ∧ p.num ≤ 999999999 ∧ okS p.word
def partOf (a : List UInt8) : Part := ⟨rankOf a, numOf a, ⟨(wordOf a).toArray⟩⟩
section
variable {w w' : World} {B : Nat}
theorem setRow_only (w : World) (g : Nat) (cs : Array Value) : Only (fun k => k = g) w (w.setRow g cs) :=
 ⟨rfl, rfl, rfl, by simp [World.setRow], fun k hk hn => by
  unfold World.setRow
  simp only [Array.getElem?_modify]
  rw [if_neg (fun e => hn e.symm)]⟩
end
end Go.Proofs.YtmlfchjompfmaaaDoor
namespace Go.Proofs.YtmlfchjompfmaaaDoor
open Go.RowKit
open Vn (dgs lts isLt partB rankOf numOf wordOf)
structure Laid (w : World) : Prop where
 syn : ∃ t p, w.var? Tryd.prog "strconv.ErrSyntax" = some #[.iface t p]
 rng : ∃ t p, w.var? Tryd.prog "strconv.ErrRange" = some #[.iface t p]
 tab : Lib.TabIs Tryd.prog w "internal/strconv.uint64pow10" .u64 Lib.pow10Tab
theorem var_only {P : Program} {w w' : World} {n : String} {cs : Array Value} (h : w.var? P n = some cs) (ho : Only (fun _ => False) w w') : w'.var? P n = some cs := by
 unfold World.var? at h ⊢
 cases hg : P.globalNamed n with
 | none => rw [hg] at h; cases h
 | some g =>
  rw [hg] at h
  simp only [Option.bind_some] at h ⊢
  cases hb : w.heap[g]? with
  | none => rw [hb] at h; cases h
  | some o =>
   rw [ho.block g (Array.getElem?_eq_some_iff.1 hb).1 (fun f => f), hb]
   rw [hb] at h
   exact h
theorem Laid.only {w w' : World} (h : Laid w) (ho : Only (fun _ => False) w w') : Laid w' := by
 obtain ⟨⟨t, p, h1⟩, ⟨t2, p2, h2⟩, h3⟩ := h
 exact ⟨⟨t, p, var_only h1 ho⟩, ⟨t2, p2, var_only h2 ho⟩, var_only h3 ho⟩
theorem only_growK (w : World) (k : Nat) (os : Array Obj) : Only (fun _ => False) w (Go.Sort.grow (w.drewN k) os) :=
 ⟨rfl, rfl, rfl, by simp [Go.Sort.grow, World.drewN], fun j hj _ => by
  show (w.heap ++ os)[j]? = _
  rw [Array.getElem?_append_left hj]⟩
theorem only_ofBelow {w w' : World} (h : Below w.heap.size w w') : Only (fun _ => False) w w' := (Only.of_below h).trans' fun i hi => hi
section
variable {w w' : World} {B : Nat}
theorem Atoi_x (s : Str) (hs : s.size ≤ 1000000) (hL : Laid w) : Calls Tryd.prog 90 #[.string s] w (fun e w' => ∃ (n : Int) (er : Value), e = .returned (.tuple #[.int .i64 n, er]) ∧
  ((er = .nilIface ∧ Lib.atoiAll s.toList = .ok n) ∨ ((∃ t p, er = .iface t p) ∧ ∀ v, Lib.atoiAll s.toList ≠ .ok v)) ∧ Only (fun _ => False) w w') := by
 rw [ByteArray.toList_eq]
 cases h : Lib.atoiAll s.data.toList with
 | ok v =>
  refine (Sv.strconv_Atoi_ok s (by omega) v h w).mono ?_
  rintro e w1 ⟨rfl, hw⟩
  refine ⟨v, _, rfl, .inl ⟨rfl, rfl⟩, ?_⟩
  rcases hw with rfl | ⟨t, rfl⟩
  ·exact Only.refl _ _
  ·exact only_ofBelow (Lib.bytesWorld_below _ _ _)
 | range =>
  obtain ⟨t, p, h1⟩ := hL.rng
  refine (Sv.strconv_Atoi_range_var s (by omega) h t p w h1).mono ?_
  rintro e w1 ⟨N, rfl, -, -, hb⟩
  exact ⟨_, _, rfl, .inr ⟨⟨_, _, rfl⟩, fun v hv => by cases hv⟩, only_ofBelow hb⟩
 | _ =>
  obtain ⟨t, p, h1⟩ := hL.syn
  refine (Sv.strconv_Atoi_bad s (by omega) (h.trans rfl) t p w h1).mono ?_
  rintro e w1 ⟨N, rfl, -, -, hb⟩
  exact ⟨0, _, rfl, .inr ⟨⟨_, _, rfl⟩, fun v hv => by cases hv⟩, only_ofBelow hb⟩
theorem Itoa_x (n : Int) (h0 : 0 ≤ n) (h9 : n ≤ 999999999) (hL : Laid w) : Calls Tryd.prog 91 #[.int .i64 n] w (fun e w' => e = .returned (.string ⟨(Lib.itoa n).toArray⟩) ∧ Only (fun _ => False) w w') := by
 refine (Sv.strconv_Itoa n (by omega) (by omega) w hL.tab).mono ?_
 rintro e w1 ⟨rfl, k, os, rfl⟩
 exact ⟨rfl, only_growK _ _ _⟩
theorem ret_read {fn : Func} {p u : Tmp} {Q : Ending → World → Prop} {a : Act} {W : World} {B : Nat} {cs : Array Value} {b : Value} (hf : fn.results = #[.cell p 100, .tmp u]) (hp : a.tmps.getD p undef = .pointer (some ⟨B, 0, none⟩)) (hu : a.tmps.getD u undef = b) (hd : a.defers = []) (hs : cs.size = 3) (hg : W.heap[B]? = some (.cells cs 100 (0, 0)))
  (h : Q (.returned (.tuple #[.agg cs, b])) W) : bodyPost Tryd.prog fn Q Exit.ret a W := by
 refine bodyPost_ret (v := .tuple #[.agg cs, b]) ?_ hd h
 rw [results_cell_tmp hf, hp, hu]
 simp only [asAddr, Sem.run_pure, Result.andThen_ok]
 rw [run_loadVar_row W B 100 100 cs (0, 0) _ hg Tryd.underlying100 rfl (by rw [hs]; kernel_rfl)]
 rfl
def ReadEnd (s : Str) (w w' : World) (e : Ending) : Prop := ∃ (x y : Int) (t : Str) (ok : Bool), e = .returned (.tuple #[.agg #[.int .i64 x, .int .i64 y, .string t], .bool ok]) ∧ partB s.toList = ok ∧
 (ok = true → x = (rankOf s.toList : Int) ∧ y = (numOf s.toList : Int) ∧ t.toList = wordOf s.toList) ∧ Only (fun _ => False) w w'
theorem ReadEnd.mk {s : Str} {w w' : World} {e : Ending} (x y : Int) (t : Str) (ok : Bool) (he : e = .returned (.tuple #[.agg #[.int .i64 x, .int .i64 y, .string t], .bool ok])) (h1 : partB s.toList = ok)
 (h2 : ok = true → x = (rankOf s.toList : Int) ∧ y = (numOf s.toList : Int) ∧ t.toList = wordOf s.toList) (ho : Only (fun _ => False) w w') : ReadEnd s w w' e := ⟨x, y, t, ok, he, h1, h2, ho⟩
end
end Go.Proofs.YtmlfchjompfmaaaDoor
