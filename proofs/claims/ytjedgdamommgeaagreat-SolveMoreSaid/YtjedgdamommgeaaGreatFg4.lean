/- slices.Clone, IndexFunc and DeleteFunc at rows of notes. -/
import Derived.Test.YtjedgdamommgeaaGreatFg3
import Derived.Test.YtjedgdamommgeaaGreatSol15
set_option linter.unusedVariables false
namespace Go.Proofs.YtjedgdamommgeaaGreat
open Go.Shelf Go.RowKit Go.Lib Go.Sort
section
variable {w w' : World}
set_option maxRecDepth 100000 in
theorem CloneN_any {v : Value} {L : List NQ} (h : NRow w v L) (hn : L.length ≤ 1099511627776) :
  Calls Tryz.prog 126 #[v] w fun e w' => ∃ v', e = .returned v' ∧ NRow w' v' L ∧ (∀ k, v'.ownBlock = some k → w.heap.size ≤ k) ∧ Only (fun _ => False) w w' := by
 rcases h.2 with ⟨rfl, h0⟩ | ⟨g, cap, cur, rfl, -, -, hc1, hc2, -, -⟩
 ·have hx : L = [] := List.eq_nil_of_length_eq_zero h0
  subst hx
  clear h
  have eqn := fun (W : World) => Go.Lib.run_eql_slice_nil (P := Tryz.prog) W 64 116 none 0 0 0 0 Tryz.underlying64
  go_enter Tryz.func126, Tryz.ntmps126
  go_wp2_with fail
  go_ret
  exact ⟨_, rfl, World.ownsRow_nil _ _ _ _, fun k hk => by simp [Value.ownBlock] at hk, Only.refl _ _⟩
 ·have HH := Lib.hid h
  obtain ⟨n, hnn⟩ : ∃ n, L.length = n := ⟨_, rfl⟩
  have HN := Lib.hid hnn
  rw [hnn] at hc1 hn ⊢
  have HNo := Lib.hid (show ∀ u ∈ flatN L, u.oneCell' = true from fun u hu => by
   unfold flatN at hu
   obtain ⟨x, -, hx⟩ := List.mem_flatMap.1 hu
   exact encN_one x u hx)
  clear h hnn
  have eqn := fun (W : World) => Go.Lib.run_eql_slice_nil (P := Tryz.prog) W 64 116 (some ⟨g, 0, none⟩) n cap 0 0 Tryz.underlying64
  go_enter Tryz.func126, Tryz.ntmps126
  go_wp2_with (at_builtin; go_must (refine wpA slNote rfl (.tmp 5) (.tmp 6) rfl (n := 0) (xs := []) rfl (show World.ownsRow _ 0 116 4 (.slice (some ⟨w.heap.size, 0, none⟩) 0 0) 0 [] from ⟨rfl, .inr ⟨w.heap.size, 0, #[], rfl, Nat.zero_le _, heap_alloc_new _ _, Nat.le_refl _, by decide, rfl, rfl⟩⟩) (ad := ⟨g, 0, none⟩) (m := n) (c := cap) (news := flatN L) rfl (by rw [flatN_len, HN.out]) (fun j u hj => (HH.out.alloc _).cells (g := g) rfl j u hj) HNo.out (by unfold maxLen; omega) (by omega) ?_))
  intro v' w1 r1 r2 r3 r4
  have hres : NRow w1 v' L ∧ (∀ k, v'.ownBlock = some k → w.heap.size ≤ k) ∧ Only (fun _ => False) w w1 := by
   refine ⟨?_, fun k hk => ?_, ?_⟩
   ·unfold NRow
    rw [HN.out]
    simpa using r1
   ·rcases r3 k hk with h | h
    ·simp [Value.ownBlock] at h; omega
    ·omega
   ·exact ((Only.refl (fun _ => False) w).alloc _).grown r2 fun k hk => .inr (by simp [Value.ownBlock] at hk; omega)
  have HRes := Lib.hid hres
  obtain ⟨ao, cap', rfl, -, -⟩ := own_slice r1
  clear r1 r2 r3 r4 hres
  go_wp2_with fail
  go_ret
  exact ⟨_, rfl, HRes.out⟩
def PredN (g : Nat) (cb : Array Value) (p : NQ → Bool) (F : Nat → Prop) (w : World) : Prop := ∀ (W : World) (x : NQ), Only F w W → Calls Tryz.prog g (#[.agg (encN x).toArray] ++ cb) W fun e w' => e = .returned (.bool (p x)) ∧ Only (fun _ => False) W w'
theorem take_snocN (L : List NQ) {i : Nat} (h : i < L.length) : L.take (i + 1) = L.take i ++ [L.getD i default] := by
 rw [List.take_succ_eq_append_getElem h]
 simp [List.getD, List.getElem?_eq_getElem h]
set_option maxRecDepth 100000 in
theorem IndexN_any {v : Value} {L : List NQ} (h : NRow w v L) (hn : L.length ≤ 1099511627776) {g : Nat} {cb : Array Value} {p : NQ → Bool} {F : Nat → Prop} (eg : ∀ args w, (callFunc g args).run Tryz.prog w = .ok (.enter g args) w) (hp : PredN g cb p F w) :
  Calls Tryz.prog 132 #[v, .func (.func g) #[] cb] w fun e w' => Only (fun _ => False) w w' ∧ ((e = .returned (.int .i64 (-1)) ∧ ∀ x ∈ L, p x = false) ∨ ∃ k : Nat, k < L.length ∧ e = .returned (.int .i64 k) ∧ p (L.getD k default) = true ∧ ∀ x ∈ L.take k, p x = false) := by
 obtain ⟨ao, cap, rfl, hc1, hc2⟩ := own_slice h
 have HH := Lib.hid h
 have HPr := Lib.hid hp
 clear h hp
 go_enter Tryz.func132, Tryz.ntmps132
 go_wp2_with fail
 go_loopw [5, 8] (fun _ vi wr => Hid (Only (fun _ => False) w wr) ∧ ∃ i : Nat, vi = .int .i64 i ∧ i ≤ L.length ∧ Hid (∀ x ∈ L.take i, p x = false)) (fun _ v _ => L.length - (intOf v).toNat)
 case atStart => exact ⟨show Hid _ from Only.refl _ _, 0, rfl, Nat.zero_le _, show Hid _ from fun x hx => by simp at hx⟩
 case round =>
  obtain ⟨HO, i, rfl, hi, HZ⟩ := hrel
  by_cases ci : i < L.length
  ·obtain ⟨b, cap', he, -, -⟩ := own_some HH.out (by omega)
   simp only [Value.slice.injEq] at he
   obtain ⟨rfl, -, rfl⟩ := he
   have ewi : IntKind.i64.wrap ((i : Int) + 1) = (i : Int) + 1 := by rw [IntKind.wrap_i64]; omega
   have hr := (NRow.only HH.out HO.out (fun _ _ f => f)).range ci
   obtain ⟨x, hx⟩ : ∃ x, L.getD i default = x := ⟨_, rfl⟩
   rw [hx] at hr
   have HR := Lib.hid hr
   have HX := Lib.hid hx
   have HC := Lib.hid (HPr.out wr x (HO.out.mono fun _ f => f.elim))
   obtain ⟨y, hy⟩ : ∃ y, p x = y := ⟨_, rfl⟩
   rw [hy] at HC
   have HY := Lib.hid hy
   clear hr hx hy
   cases y with
   | true =>
    go_wp2_with (refine wpList_load_mid rfl 116 (.tmp 14) rfl b (i * 4) rfl (encN x) _ HR.out Tryz.underlying116 rfl (by kernel_rfl) ?_)
    refine HC.out.mono ?_
    rintro e w1 ⟨rfl, O1⟩
    go_wp2_with fail
    go_ret
    exact ⟨HO.out.same O1, .inr ⟨i, ci, rfl, by rw [HX.out]; exact HY.out, HZ.out⟩⟩
   | false =>
    go_wp2_with (refine wpList_load_mid rfl 116 (.tmp 14) rfl b (i * 4) rfl (encN x) _ HR.out Tryz.underlying116 rfl (by kernel_rfl) ?_)
    refine HC.out.mono ?_
    rintro e w1 ⟨rfl, O1⟩
    have HO1 := Lib.hid (HO.out.same O1)
    clear O1
    go_wp2_with fail
    go_roundw
    case rel => exact ⟨HO1, i + 1, by first | rfl | go_num, by omega, show Hid _ from fun z hz => by
     rw [take_snocN L ci, HX.out] at hz
     rcases List.mem_append.1 hz with h | h
     ·exact HZ.out z h
     ·rw [List.mem_singleton.1 h]; exact HY.out⟩
    case measure => simp [intOf] <;> omega
  ·have : i = L.length := by omega
   subst this
   go_wp2_with fail
   go_ret
   refine ⟨HO.out, .inl ⟨rfl, ?_⟩⟩
   have := HZ.out
   rw [List.take_of_length_le (Nat.le_refl _)] at this
   exact this
theorem clear_run {t e ty : TypeId} {z : Value} {P : Program} (w : World) (ht : P.underlying t = some (.slice e)) (hv : ∀ w, (zeroValue e).run P w = .ok z w) (hz : ∀ v ∈ z.cells.toList, v.oneCell' = true) (hz0 : 0 < z.cells.size) (b o n c : Nat) (hn : 0 < n)
  (hc : ∀ j, j < n * z.cells.size → (w.cell? ⟨b, o + j, none⟩).isSome = true) (hf : ∀ j, j < n * z.cells.size → w.frozen? ⟨b, o + j, none⟩ = false) :
  ∃ vs : List Value, vs.length = n * z.cells.size ∧ (Builtin.clear_ #[t] ty #[.slice (some ⟨b, o, none⟩) n c]).run P w = .ok (.tuple #[]) (w.setCells b o vs) := by
 have hl : (Builtin.zeroCells z.cells n).toList.length = n * z.cells.size := by simp [Builtin.zeroCells]
 refine ⟨(Builtin.zeroCells z.cells n).toList, hl, ?_⟩
 have hst := run_storeCells_cells (P := P) b o (Builtin.zeroCells z.cells n).toList 0 w (by rw [hl]; simpa using hc) (by rw [hl]; simpa using hf) (by
  intro v hv'
  simp only [Builtin.zeroCells, Array.toList_map, List.mem_map] at hv'
  obtain ⟨i, hi, rfl⟩ := hv'
  have h2 : i % z.cells.size < z.cells.size := Nat.mod_lt _ hz0
  rw [getElem!_pos z.cells (i % z.cells.size) h2]
  exact hz _ (by simp))
 simp only [Nat.add_zero] at hst
 obtain ⟨m, rfl⟩ : ∃ m, n = m + 1 := ⟨n - 1, by omega⟩
 simp [Builtin.clear_, run_underlying ht, hv, hst]
end
end Go.Proofs.YtjedgdamommgeaaGreat
