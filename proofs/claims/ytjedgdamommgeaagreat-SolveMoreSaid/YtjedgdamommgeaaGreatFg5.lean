/- slices.DeleteFunc at rows of notes. -/
import Derived.Test.YtjedgdamommgeaaGreatFg4
set_option linter.unusedVariables false
namespace Go.Proofs.YtjedgdamommgeaaGreat
open Go.Shelf Go.RowKit Go.Lib Go.Sort
section
variable {w w' : World}
theorem note_zero : ∀ w, (zeroValue 116).run Tryz.prog w = .ok (.agg #[.int .i64 0, .int .i64 0, .int .i64 0, .bool false]) w := fun w => by
 have h : (Tryz.prog.info? 116).map (·.zero) = some (some (.agg #[.int .i64 0, .int .i64 0, .int .i64 0, .bool false])) := by kernel_rfl
 cases hq : Tryz.prog.info? 116 with
 | none => simp [hq] at h
 | some i =>
  have hs : i.zero = some (.agg #[.int .i64 0, .int .i64 0, .int .i64 0, .bool false]) := by simpa [hq] using h
  simp [zeroValue, typeInfo, hq, hs]
theorem there_blk {b : Nat} {c : Array Value} {t : TypeId} {m : Nat} (h : w.heap[b]? = some (.cells c t (0, 0))) (hm : c.size = m) : w.there b 0 m := fun j hj => by
 rw [Nat.zero_add]
 exact ⟨by rw [cell_block h, Array.getElem?_eq_getElem (by omega)]; rfl, free_block h _⟩
theorem store_there {b o : Nat} (h : w.there b o 4) (x : NQ) : (storeCells ⟨b, o, none⟩ (encN x) 0).run Tryz.prog w = .ok () (w.setCells b o (encN x)) := by
 have := run_storeCells_cells (P := Tryz.prog) b o (encN x) 0 w (fun j hj => by simpa using (h j (by simpa [encN] using hj)).1) (fun j hj => by simpa using (h j (by simpa [encN] using hj)).2) (encN_one x)
 simpa using this
theorem range_only {b o : Nat} {cs : List Value} (h : w.rangeAt b o cs) (ho : Only (fun _ => False) w w') : w'.rangeAt b o cs := fun j v hv => cell_keep (h j v hv) ho (fun f => f)
structure Thin (p : NQ → Bool) (L M : List NQ) (i j : Nat) : Prop where
 lt : i < j
 jn : j ≤ L.length
 len : M.length = L.length
 low : M.take i = (L.take j).filter fun x => !p x
 high : M.drop j = L.drop j
theorem Thin.start {p : NQ → Bool} {L : List NQ} {k : Nat} (hk : k < L.length) (hp : p (L.getD k default) = true) (hb : ∀ x ∈ L.take k, p x = false) : Thin p L L k (k + 1) := by
 refine ⟨by omega, by omega, rfl, ?_, rfl⟩
 rw [take_snocN L hk, List.filter_append]
 have h1 : (L.take k).filter (fun x => !p x) = L.take k := List.filter_eq_self.2 fun x hx => by rw [hb x hx]; rfl
 rw [h1]
 simp only [List.filter_cons, List.filter_nil, hp, Bool.not_true, Bool.false_eq_true, if_false, List.append_nil]
theorem Thin.at_ {p : NQ → Bool} {L M : List NQ} {i j : Nat} (h : Thin p L M i j) (hj : j < L.length) : M.getD j default = L.getD j default := by
 have h1 : (M.drop j)[0]? = (L.drop j)[0]? := by rw [h.high]
 simp only [List.getElem?_drop, Nat.add_zero] at h1
 simp [List.getD_eq_getElem?_getD, h1]
theorem Thin.skip {p : NQ → Bool} {L M : List NQ} {i j : Nat} (h : Thin p L M i j) (hj : j < L.length) (hp : p (L.getD j default) = true) : Thin p L M i (j + 1) := by
 refine ⟨by have := h.lt; omega, by omega, h.len, ?_, ?_⟩
 ·rw [h.low, take_snocN L hj, List.filter_append]
  simp only [List.filter_cons, List.filter_nil, hp, Bool.not_true, Bool.false_eq_true, if_false, List.append_nil]
 ·rw [← List.drop_drop, h.high, List.drop_drop]
theorem Thin.keep {p : NQ → Bool} {L M : List NQ} {i j : Nat} (h : Thin p L M i j) (hj : j < L.length) (hp : p (L.getD j default) = false) : Thin p L (M.set i (L.getD j default)) (i + 1) (j + 1) := by
 have hlt := h.lt
 have hl := h.len
 refine ⟨by omega, by omega, by simp [hl], ?_, ?_⟩
 ·have h1 : i < (M.set i (L.getD j default)).length := by simp; omega
  rw [List.take_succ_eq_append_getElem h1, List.getElem_set_self, List.take_set_of_le (Nat.le_refl _), h.low, take_snocN L hj, List.filter_append]
  simp only [List.filter_cons, List.filter_nil, hp, Bool.not_false, if_true]
 ·rw [List.drop_set_of_lt (by omega), ← List.drop_drop, h.high, List.drop_drop]
set_option maxRecDepth 100000 in
set_option maxHeartbeats 3200000 in
theorem DeleteN_any {v : Value} {L : List NQ} (h : NRow w v L) (hn : L.length ≤ 1099511627776) {g : Nat} {cb : Array Value} {p : NQ → Bool} (eg : ∀ args w, (callFunc g args).run Tryz.prog w = .ok (.enter g args) w) (hp : PredN g cb p (fun k => v.ownBlock = some k) w) :
  Calls Tryz.prog 84 #[v, .func (.func g) #[] cb] w fun e w' => ∃ v', e = .returned v' ∧ NRow w' v' (L.filter fun x => !p x) ∧ v'.ownBlock = v.ownBlock ∧ Only (fun k => v.ownBlock = some k) w w' := by
 have HI := Lib.hid (IndexN_any h hn eg hp)
 obtain ⟨ao, cap, rfl, hc1, hc2⟩ := own_slice h
 have HH := Lib.hid h
 have HPr := Lib.hid hp
 obtain ⟨n, hnn⟩ : ∃ n, L.length = n := ⟨_, rfl⟩
 have HN := Lib.hid hnn
 rw [hnn] at HI hc1 hn ⊢
 have HPr2 := HPr
 rw [hnn] at HPr2
 clear h hp hnn HPr
 go_enter Tryz.func84, Tryz.ntmps84
 go_wp2_with fail
 refine HI.out.mono ?_
 rintro e w1 ⟨O1, ⟨rfl, hall⟩ | ⟨k, hk, rfl, hpk, hbf⟩⟩
 ·have HA := Lib.hid hall
  have HO1 := Lib.hid O1
  clear hall O1 HI
  go_wp2_with fail
  go_ret
  have e1 : L.filter (fun x => !p x) = L := List.filter_eq_self.2 fun x hx => by rw [HA.out x hx]; rfl
  rw [e1]
  refine ⟨_, rfl, ?_, rfl, HO1.out.mono fun _ f => f.elim⟩
  have := HH.out.only HO1.out (fun _ _ f => f)
  rw [HN.out] at this
  exact this
 ·obtain ⟨b, cap', he, -, -⟩ := own_some HH.out (by rw [HN.out]; omega)
  simp only [Value.slice.injEq] at he
  obtain ⟨rfl, -, rfl⟩ := he
  have HT := Lib.hid (Thin.start (by rw [HN.out]; exact hk) hpk hbf)
  have HR := Lib.hid (HH.out.only O1 (fun _ _ f => f))
  have HO1 := Lib.hid (O1.mono (G := fun q => (Value.slice (some ⟨b, 0, none⟩) n cap).ownBlock = some q) fun _ f => f.elim)
  have ewk : IntKind.i64.wrap ((k : Int) + 1) = (k : Int) + 1 := by rw [IntKind.wrap_i64]; omega
  have dk : ((k : Int) == -1) = false := by rw [beq_eq_false_iff_ne]; omega
  have dk2 : decide ((k : Int) = -1) = false := decide_eq_false (by omega)
  clear O1 HI hpk hbf
  go_wp2_with fail
  clear dk dk2 ewk
  go_loopw [5, 6, 7] (fun vi vj _ wr => ∃ (i j : Nat) (M : List NQ), vi = .int .i64 i ∧ vj = .int .i64 j ∧ i < j ∧ j ≤ n ∧ Hid (Thin p L M i j) ∧ Hid (NRow wr (.slice (some ⟨b, 0, none⟩) n cap) M) ∧ Hid (Only (fun q => (Value.slice (some ⟨b, 0, none⟩) n cap).ownBlock = some q) w wr)) (fun _ v _ _ => n - (intOf v).toNat)
  case atStart => exact ⟨k, k + 1, L, rfl, by first | rfl | go_num, by omega, by omega, HT, by have := HR.out; rw [HN.out] at this; exact this, HO1⟩
  case round =>
   clear HT HR HO1
   obtain ⟨i, j, M, rfl, rfl, hij, hjn, HT, HR, HO⟩ := hrel
   by_cases cj : j < n
   ·have hjL : j < L.length := by rw [HN.out]; exact cj
    have hMl : M.length = n := by rw [HT.out.len, HN.out]
    obtain ⟨x, hx⟩ : ∃ x, L.getD j default = x := ⟨_, rfl⟩
    have hr := HR.out.range (show j < M.length by rw [hMl]; exact cj)
    rw [HT.out.at_ hjL, hx] at hr
    have hsk := HT.out.skip hjL
    have hkp := HT.out.keep hjL
    rw [hx] at hsk hkp
    obtain ⟨y, hy⟩ : ∃ y, p x = y := ⟨_, rfl⟩
    rw [hy] at hsk hkp
    obtain ⟨Bk, hBk⟩ : ∃ Bk, wr.heap.size = Bk := ⟨_, rfl⟩
    obtain ⟨wA, hwA⟩ : ∃ wA, wr.alloc (.cells #[.int .i64 0, .int .i64 0, .int .i64 0, .bool false] 116) = wA := ⟨_, rfl⟩
    have hbA : wA.heap[Bk]? = some (.cells #[.int .i64 0, .int .i64 0, .int .i64 0, .bool false] 116 (0, 0)) := by rw [← hwA, ← hBk]; exact heap_alloc_new _ _
    obtain ⟨w9, hw9⟩ : ∃ w9, wA.setCells Bk 0 (encN x) = w9 := ⟨_, rfl⟩
    have htA : wA.there Bk 0 4 := there_blk hbA rfl
    have hb9 : w9.rangeAt Bk 0 (encN x) := by rw [← hw9]; exact World.rangeAt_setCells_same _ _ _ _ htA
    have o9 : Only (fun _ => False) wr w9 := by rw [← hw9, ← hwA]; exact ((Only.refl _ _).alloc _).trans (only_setCells _ _ _ _) (fun k hk => .inr (by omega))
    have st9 : (storeCells ⟨Bk, 0, none⟩ (encN x) 0).run Tryz.prog wA = .ok () w9 := by rw [← hw9]; exact store_there htA x
    have hbl := own_lt HR.out (k := b) rfl
    have hc := HPr2.out w9 x (HO.out.same (o9.mono fun _ f => f.elim))
    rw [hy] at hc
    have HC := Lib.hid hc
    have HRg := Lib.hid hr
    have HB9 := Lib.hid hb9
    have HO9 := Lib.hid o9
    have HSk := Lib.hid hsk
    have HKp := Lib.hid hkp
    have ewj : IntKind.i64.wrap ((j : Int) + 1) = (j : Int) + 1 := by rw [IntKind.wrap_i64]; omega
    have ewi : IntKind.i64.wrap ((i : Int) + 1) = (i : Int) + 1 := by rw [IntKind.wrap_i64]; omega
    clear hr hsk hkp hc hbA hb9 o9 hx hy hw9 htA
    cases y with
    | true =>
     go_wp2_with (first | (refine wpList_load_mid rfl 116 (.tmp 24) rfl b (j * 4) rfl (encN x) _ HRg.out Tryz.underlying116 rfl (by kernel_rfl) ?_) | (refine wpList_load_mid rfl 116 (.tmp 7) rfl Bk 0 rfl (encN x) _ HB9.out Tryz.underlying116 rfl (by kernel_rfl) ?_))
     refine HC.out.mono ?_
     rintro e w10 ⟨rfl, O10⟩
     have HO10 := Lib.hid (HO9.out.same O10)
     clear O10
     go_wp2_with fail
     go_roundw
     case rel => exact ⟨i, j + 1, M, by first | rfl | go_num, by first | rfl | go_num, by omega, by omega, show Hid _ from by first | exact HSk.out rfl | exact HSk.out trivial, show Hid _ from HR.out.only HO10.out (fun _ _ f => f), show Hid _ from HO.out.same (HO10.out.mono fun _ f => f.elim)⟩
     case measure => simp [intOf] <;> omega
    | false =>
     go_wp2_with (first | (refine wpList_load_mid rfl 116 (.tmp 24) rfl b (j * 4) rfl (encN x) _ HRg.out Tryz.underlying116 rfl (by kernel_rfl) ?_) | (refine wpList_load_mid rfl 116 (.tmp 7) rfl Bk 0 rfl (encN x) _ HB9.out Tryz.underlying116 rfl (by kernel_rfl) ?_))
     refine HC.out.mono ?_
     rintro e w10 ⟨rfl, O10⟩
     have HB10 := Lib.hid (range_only HB9.out O10)
     have HO10 := Lib.hid (HO9.out.same O10)
     have HR10 := Lib.hid (HR.out.only HO10.out (fun _ _ f => f))
     have hth := HR10.out.there (show i < M.length by rw [hMl]; omega)
     have st10 := store_there hth x
     clear O10 hth
     go_wp2_with (refine wpList_load_mid rfl 116 (.tmp 7) rfl Bk 0 rfl (encN x) _ HB10.out Tryz.underlying116 rfl (by kernel_rfl) ?_)
     go_roundw
     case rel => exact ⟨i + 1, j + 1, M.set i x, by first | rfl | go_num, by first | rfl | go_num, by omega, by omega, show Hid _ from by first | exact HKp.out rfl | exact HKp.out trivial, show Hid _ from HR10.out.set (by rw [hMl]; omega) x, show Hid _ from (HO.out.same (HO10.out.mono fun _ f => f.elim)).same ((only_setCells b _ _ _).mono fun q hq => by subst hq; rfl)⟩
     case measure => simp [intOf] <;> omega
   ·have : j = n := by omega
    subst this
    have hMl : M.length = j := by rw [HT.out.len, HN.out]
    have hthere : ∀ q, q < (j - i) * 4 → (wr.cell? ⟨b, i * 4 + q, none⟩).isSome = true := fun q hq => by
     have e0 := HR.out
     unfold NRow at e0
     rw [hMl] at e0
     rw [e0.cellAt (i * 4 + q) (by omega), List.getElem?_eq_getElem (by rw [flatN_len, hMl]; omega)]
     rfl
    obtain ⟨vs, hvl, hclr⟩ := clear_run (ty := 0) wr Tryz.underlying64 note_zero (by intro v hv; simp [Value.cells] at hv; rcases hv with rfl | rfl <;> rfl) (by decide) b (i * 4) (j - i) (cap - i) (by omega) hthere (fun q hq => by
     have e0 := HR.out
     unfold NRow at e0
     rw [hMl] at e0
     exact e0.frozenAt _)
    clear hthere hvl
    go_wp2_with fail
    go_ret
    have e0 := HR.out
    unfold NRow at e0
    rw [hMl] at e0
    have h1 := own_cutZ (setCells_ownZ vs (i * 4) e0) i (by omega)
    rw [setL_take vs _ _ _ (Nat.le_refl _), flatN_take M i (by omega), HT.out.low, List.take_of_length_le (by rw [HN.out]; exact Nat.le_refl _)] at h1
    have hli : (L.filter fun x => !p x).length = i := by
     have := HT.out.low
     rw [List.take_of_length_le (l := L) (by rw [HN.out]; exact Nat.le_refl _)] at this
     rw [← this, List.length_take]; omega
    refine ⟨_, rfl, ?_, rfl, HO.out.same ((only_setCells b _ _ _).mono fun q hq => by subst hq; rfl)⟩
    unfold NRow
    rw [hli]
    exact h1
end
end Go.Proofs.YtjedgdamommgeaaGreat
