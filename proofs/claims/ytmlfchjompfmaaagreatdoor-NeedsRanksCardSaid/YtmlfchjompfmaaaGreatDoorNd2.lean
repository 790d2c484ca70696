/- Find, Providers, Targets: walks. -/
import Derived.Test.YtmlfchjompfmaaaGreatDoorNd1
import Derived.Test.YtmlfchjompfmaaaGreatDoorShelf3
import Derived.Test.YtmlfchjompfmaaaGreatDoorAtA
set_option linter.unusedVariables false
namespace Go.Proofs.YtmlfchjompfmaaaGreatDoor
open Go.RowKit Go.Shelf
def PredT {α : Type} (C : Nat → World → List Value → α → Prop) (B : Nat) (g : Nat) (cb : Array Value) (p : α → Bool) (w : World) : Prop :=
 ∀ (W : World) (cs : List Value) (x : α), Only (fun _ => False) w W → C B W cs x → Calls Tryz.prog g (#[.agg cs.toArray] ++ cb) W fun e w' => e = .returned (.bool (p x)) ∧ Only (fun _ => False) W w'
theorem mem_take_snoc {α : Type} {xs : List α} {i : Nat} {x y : α} (hx : xs[i]? = some x) (h : y ∈ xs.take (i + 1)) : y ∈ xs.take i ∨ y = x := by
 obtain ⟨hlt, rfl⟩ := List.getElem?_eq_some_iff.1 hx
 rw [List.take_succ_eq_append_getElem hlt] at h
 rcases List.mem_append.1 h with h | h
 ·exact .inl h
 ·exact .inr (List.mem_singleton.1 h)
section
variable {w w' : World} {B : Nat}
set_option maxRecDepth 100000 in
theorem IndexP_any {v : Value} {xs : List PackD} (h : RowT 8 PackC B w v xs) {g : Nat} {cb : Array Value} {p : PackD → Bool} (eg : ∀ args w, (callFunc g args).run Tryz.prog w = .ok (.enter g args) w) (hp : PredT PackC B g cb p w) :
  Calls Tryz.prog 39 #[v, .func (.func g) #[] cb] w fun e w' => e = .returned (.int .i64 (idxG p xs)) ∧ Only (fun _ => False) w w' := by
 obtain ⟨ao, cap, rfl, hc1, hc2⟩ := h.shape
 have HH := Lib.hid h
 have HPr := Lib.hid hp
 obtain ⟨n, hn⟩ : ∃ n, xs.length = n := ⟨_, rfl⟩
 have HN := Lib.hid hn
 rw [hn] at hc1 ⊢
 clear h hp hn
 go_enter Tryz.func39, Tryz.ntmps39
 go_wp2_with fail
 go_loopw [5, 8] (fun _ vi wr => Hid (Only (fun _ => False) w wr) ∧ ∃ i : Nat, vi = .int .i64 i ∧ i ≤ n ∧ Hid (∀ x ∈ xs.take i, p x = false)) (fun _ v _ => n - (intOf v).toNat)
 case atStart => exact ⟨show Hid _ from Only.refl _ _, 0, rfl, Nat.zero_le _, show Hid _ from fun x hx => by simp at hx⟩
 case round =>
  obtain ⟨HO, i, rfl, hi, HZ⟩ := hrel
  by_cases ci : i < n
  ·have h2 := HH.out
   rw [HN.out] at h2
   obtain ⟨b, off, he, -, -⟩ := h2.at (by rw [HN.out]; omega)
   subst he
   obtain ⟨x, hx⟩ : ∃ x, xs[i]? = some x := ⟨_, List.getElem?_eq_getElem (by rw [HN.out]; exact ci)⟩
   obtain ⟨cs, hl, hr, hC⟩ := (h2.keep PackC.keep (Kp.of0 HO.out)).get hx
   have ewi : IntKind.i64.wrap ((i : Int) + 1) = (i : Int) + 1 := by rw [IntKind.wrap_i64]; omega
   have HR := Lib.hid hr
   have HL := Lib.hid hl
   have HX := Lib.hid hx
   have HC := Lib.hid (HPr.out wr cs x HO.out hC)
   obtain ⟨y, hy⟩ : ∃ y, p x = y := ⟨_, rfl⟩
   rw [hy] at HC
   have HY := Lib.hid hy
   clear hr hx hy h2 hl hC
   cases y with
   | true =>
    go_wp2_with (refine wpList_load_mid rfl 36 (.tmp 14) rfl b (off + i * 8) rfl cs _ HR.out Tryz.underlying36 rfl (by rw [HL.out]; kernel_rfl) ?_)
    refine HC.out.mono ?_
    rintro e w1 ⟨rfl, O1⟩
    go_wp2_with fail
    go_ret
    exact ⟨by rw [idxG_hit HX.out HY.out HZ.out]; rfl, HO.out.same O1⟩
   | false =>
    go_wp2_with (refine wpList_load_mid rfl 36 (.tmp 14) rfl b (off + i * 8) rfl cs _ HR.out Tryz.underlying36 rfl (by rw [HL.out]; kernel_rfl) ?_)
    refine HC.out.mono ?_
    rintro e w1 ⟨rfl, O1⟩
    have HO1 := Lib.hid (HO.out.same O1)
    clear O1
    go_wp2_with fail
    go_roundw
    case rel => exact ⟨HO1, i + 1, by first | rfl | go_num, by omega, show Hid _ from fun z hz => by
     rcases mem_take_snoc HX.out hz with h | rfl
     ·exact HZ.out z h
     ·exact HY.out⟩
    case measure => simp [intOf] <;> omega
  ·have : i = n := by omega
   subst this
   go_wp2_with fail
   go_ret
   have := HZ.out
   rw [List.take_of_length_le (Nat.le_of_eq HN.out)] at this
   exact ⟨by rw [idxG_none this]; rfl, HO.out⟩
theorem bytes_dec (x y : ByteArray) : (x.toList == y.toList) = decide (x = y) := by
 by_cases h : x = y
 ·rw [decide_eq_true h, (Lib.bytes_beq_iff x y).2 h]
 ·rw [decide_eq_false h, (Lib.bytes_beq_false_iff x y).2 h]
set_option maxRecDepth 100000 in
theorem Find1_any (s : Str) (gs : Nat) (hg : w.cell? ⟨gs, 0, none⟩ = some (.string s)) : PredT PackC B 40 #[.pointer (some ⟨gs, 0, none⟩)] (fun p => decide (p.name = s)) w := by
 intro W cs x hO hC
 obtain ⟨v1, v2, v3, v4, v5, v6, rfl, -⟩ := hC
 have hlt : gs < w.heap.size := World.block_lt_of_cell? _ _ hg
 have hg2 : W.cell? ⟨gs, 0, none⟩ = some (.string s) := by
  rw [World.cell?_of_block (w := w) (hO.block gs hlt (fun f => f))]; exact hg
 have hgW : gs < W.heap.size := World.block_lt_of_cell? _ _ hg2
 have hd := bytes_dec x.name s
 have hne : gs ≠ W.heap.size := by omega
 clear hg hlt
 go_enter Tryz.func40, Tryz.ntmps40
 go_wp2_with fail
 go_ret
 exact ⟨rfl, (Only.refl _ _).alloc _⟩
theorem enter_Find1 : ∀ args w, (callFunc 40 args).run Tryz.prog w = .ok (.enter 40 args) w := enters_of Tryz.func40 (by kernel_rfl) rfl
set_option maxRecDepth 100000 in
theorem Find_any {cs : List Value} {x : RecD} (h : RecC B w cs x) (s : Str) :
  Calls Tryz.prog 22 #[.agg cs.toArray, .string s] w fun e w' => e = .returned (.int .i64 (x.find s)) ∧ Only (fun _ => False) w w' := by
 obtain ⟨v1, v2, rfl, h1, -⟩ := h
 obtain ⟨ao, cap, rfl, hc1, hc2⟩ := h1.shape
 have HH := Lib.hid h1
 clear h1
 go_enter Tryz.func22, Tryz.ntmps22
 go_wp2_with fail
 refine (IndexP_any ((HH.out.keep PackC.keep (Kp.of0 (((Only.refl (fun _ => False) w).alloc _).alloc _)))) enter_Find1 (Find1_any s (w.heap.size + 1) (by simp))).mono ?_
 rintro e w1 ⟨rfl, O1⟩
 go_wp2_with fail
 go_ret
 exact ⟨rfl, (((Only.refl (fun _ => False) w).alloc _).alloc _).same O1⟩
theorem RowT.strs {b off len cap : Nat} {zs : List Str} (h : RowT 1 StrC B w (.slice (some ⟨b, off, none⟩) len cap) zs) : ∀ j, j < zs.length → w.cell? ⟨b, off + j, none⟩ = some (.string (zs.getD j ByteArray.empty)) := by
 intro j hj
 obtain ⟨cs, _, hr, rfl, _⟩ := h.get (List.getElem?_eq_getElem hj)
 have := hr 0 _ rfl
 simpa [List.getD, List.getElem?_eq_getElem hj] using this
theorem ContainsS_any {v : Value} {zs : List Str} (h : RowT 1 StrC B w v zs) (s : Str) :
  Calls Tryz.prog 41 #[v, .string s] w fun e w' => e = .returned (.bool (hasS zs s)) ∧ w' = w := by
 obtain ⟨ao, cap, rfl, hc1, hc2⟩ := h.shape
 have e1 : Lib.containsS zs s = hasS zs s := by
  rw [Bool.eq_iff_iff, Lib.containsS_iff, hasS_iff]
 by_cases h0 : 0 < zs.length
 ·obtain ⟨b, off, rfl, -, -⟩ := h.at h0
  have := Tryz.slices_Contains_string b off zs.length cap zs s w (Nat.le_refl _) (by omega) h.strs
  rw [List.take_of_length_le (Nat.le_refl _), e1] at this
  exact this
 ·obtain rfl : zs = [] := List.eq_nil_of_length_eq_zero (by omega)
  exact Tryz.slices_Contains_string_empty ao cap s w
def natsV (l : List Nat) : List Value := l.map fun i : Nat => Value.int .i64 (i : Int)
set_option maxRecDepth 100000 in
theorem Providers_any {cs : List Value} {x : RecD} (h : RecC B w cs x) (hlen : x.packs.length ≤ 1000000) (s : Str) :
  Calls Tryz.prog 23 #[.agg cs.toArray, .string s] w fun e w' => ∃ v, e = .returned v ∧ w'.ownsRow 0 3 1 v (x.provs s).length (natsV (x.provs s)) ∧ (∀ k, v.ownBlock = some k → w.heap.size ≤ k) ∧ Only (fun _ => False) w w' := by
 obtain ⟨v1, v2, rfl, h1, -⟩ := h
 obtain ⟨ao, cap, rfl, hc1, hc2⟩ := h1.shape
 have HH := Lib.hid h1
 obtain ⟨n, hn⟩ : ∃ n, x.packs.length = n := ⟨_, rfl⟩
 have HN := Lib.hid hn
 rw [hn] at hc1 hlen ⊢
 clear h1 hn
 go_enter Tryz.func23, Tryz.ntmps23
 go_wp2_with fail
 go_loopw [5, 11] (fun vo vi wr => Hid (Only (fun _ => False) w wr) ∧ ∃ i : Nat, vi = .int .i64 i ∧ i ≤ n ∧ Hid (wr.ownsRow 0 3 1 vo (x.provTo s i).length (natsV (x.provTo s i))) ∧ Hid (∀ k, vo.ownBlock = some k → w.heap.size ≤ k)) (fun _ v _ => n - (intOf v).toNat)
 case atStart => exact ⟨show Hid _ from (Only.refl _ _).alloc _, 0, rfl, Nat.zero_le _, show Hid _ from World.ownsRow_nil _ _ _ _, show Hid _ from fun k hk => by simp [Value.ownBlock] at hk⟩
 case round =>
  obtain ⟨HO, i, rfl, hi, HZ⟩ := hrel
  by_cases ci : i < n
  ·obtain ⟨HV, HB⟩ := HZ
   have h2 := HH.out
   rw [HN.out] at h2
   obtain ⟨b, off, he, -, -⟩ := h2.at (by rw [HN.out]; omega)
   subst he
   obtain ⟨p, hx⟩ : ∃ p, x.packs[i]? = some p := ⟨_, List.getElem?_eq_getElem (by rw [HN.out]; exact ci)⟩
   obtain ⟨cs, hl, hr, hC⟩ := (h2.keep PackC.keep (Kp.of0 HO.out)).get hx
   obtain ⟨o1, o2, o3, o4, o5, o6, c1, c2, c3, c4, c5, c6, rfl, -, -, -, -, b5, -, -, -⟩ := hC.cells
   have ewi : IntKind.i64.wrap ((i : Int) + 1) = (i : Int) + 1 := by rw [IntKind.wrap_i64]; omega
   have HR := Lib.hid hr
   have HX := Lib.hid hx
   have HP := Lib.hid b5
   clear hr hx h2 hl b5 hC
   go_wp2_with (refine wpList_load_mid rfl 36 (.tmp 14) rfl b (off + i * 8) rfl _ _ HR.out Tryz.underlying36 rfl (by kernel_rfl) ?_)
   refine (ContainsS_any (HP.out.keep StrC.keep (Kp.of0 ((Only.refl (fun _ => False) wr).alloc _))) s).mono ?_
   rintro e w1 ⟨rfl, rfl⟩
   have HV1 := Lib.hid (own_only HV.out ((Only.refl (fun _ => False) wr).alloc (.cells #[.string p.name, .int .i64 p.line, .slice o1 p.rels.length c1, .slice o2 p.vars.length c2, .slice o3 p.provides.length c3, .slice o4 p.deps.length c4, .slice o5 p.cons.length c5, .slice o6 p.files.length c6] 36)) (fun _ _ f => f))
   have HO1 := Lib.hid (HO.out.alloc (.cells #[.string p.name, .int .i64 p.line, .slice o1 p.rels.length c1, .slice o2 p.vars.length c2, .slice o3 p.provides.length c3, .slice o4 p.deps.length c4, .slice o5 p.cons.length c5, .slice o6 p.files.length c6] 36))
   have hpk : x.pack i = p := by
    unfold RecD.pack
    rw [List.getD_eq_getElem?_getD, HX.out]; rfl
   have hsu := x.provTo_succ s i
   rw [hpk] at hsu
   have HSu := Lib.hid hsu
   have hpl : (x.provTo s i).length ≤ i := by
    unfold RecD.provTo
    have := List.length_filter_le (fun i => hasS (x.pack i).provides s) (List.range i)
    simpa using this
   generalize wr.alloc _ = w1 at *
   obtain ⟨y, hy⟩ : ∃ y, hasS p.provides s = y := ⟨_, rfl⟩
   rw [hy] at HSu
   rw [hy]
   clear hsu hpk hy
   cases y with
   | false =>
    go_wp2_with fail
    go_roundw
    case rel => exact ⟨HO1, i + 1, by first | rfl | go_num, by omega, by rw [HSu.out, if_neg (by decide)]; exact HV1, HB⟩
    case measure => simp [intOf] <;> omega
   | true =>
    obtain ⟨au, cu, rfl, -, -⟩ := own_slice HV1.out
    go_wp2_with (at_builtin; go_must (refine wpA1 (u := .int .i64 (i : Int)) slInt rfl (.tmp 20) (.tmp 22) rfl rfl rfl (cell_new0 _ _ _) rfl (own_only HV1.out ((Only.refl (fun _ => False) _).alloc _) (fun _ _ f => f)) (by omega) (by decide) ?_))
    intro v' w2 r1 r2 r3
    have HV2 := Lib.hid r1
    have HO2 := Lib.hid (((HO1.out.alloc _).trans r2 fun k hk => .inr (HB.out k hk)))
    have HB2 : Hid (∀ k, v'.ownBlock = some k → w.heap.size ≤ k) := by
     intro k hk
     obtain ⟨g, cap', rfl, -, -, h | h⟩ := r3
     ·simp [Value.ownBlock] at hk; subst hk; exact HB.out _ h
     ·simp [Value.ownBlock] at hk; subst hk
      have := HO1.out.size
      simp at h; omega
    obtain ⟨g, cap', rfl, -, -, -⟩ := r3
    clear r1 r2
    go_wp2_with fail
    go_roundw
    case rel => exact ⟨HO2, i + 1, by first | rfl | go_num, by omega, by rw [HSu.out]; have := HV2.out; show World.ownsRow _ _ _ _ _ _ _; simpa [natsV] using this, HB2⟩
    case measure => simp [intOf] <;> omega
  ·have : i = n := by omega
   subst this
   go_wp2_with fail
   go_ret
   refine ⟨_, rfl, ?_, HZ.2.out, HO.out⟩
   have := HZ.1.out
   unfold RecD.provs
   rw [HN.out]
   exact this
set_option maxRecDepth 100000 in
theorem Targets_any {cs : List Value} {x : RecD} (h : RecC B w cs x) (hlen : x.packs.length ≤ 1000000) (s : Str) :
  Calls Tryz.prog 12 #[.agg cs.toArray, .string s] w fun e w' => ∃ v, e = .returned v ∧ w'.ownsRow 0 3 1 v (x.targets s).length (natsV (x.targets s)) ∧ (∀ k, v.ownBlock = some k → w.heap.size ≤ k) ∧ Only (fun _ => False) w w' := by
 have HH := Lib.hid h
 obtain ⟨v1, v2, rfl, h1, h2⟩ := h
 obtain ⟨ao, cap, rfl, -, -⟩ := h1.shape
 obtain ⟨ao2, cap2, rfl, -, -⟩ := h2.shape
 obtain ⟨f, hf⟩ : ∃ f, x.find s = f := ⟨_, rfl⟩
 have hlt := x.find_lt s
 have hge : -1 ≤ x.find s := by
  rcases idxG_range (fun p => decide (p.name = s)) x.packs with h | ⟨k, h, _⟩
  ·unfold RecD.find; rw [h]; omega
  ·unfold RecD.find; rw [h]; omega
 have HT : Hid (x.targets s = if 0 ≤ f then [f.toNat] else x.provs s) := by unfold RecD.targets; rw [hf]; exact rfl
 have HF := Lib.hid (Find_any (RecC.keep HH.out (Kp.of0 ((Only.refl (fun _ => False) w).alloc (.cells #[.slice ao x.packs.length cap, .slice ao2 x.prefs.length cap2] 25)))) s)
 have HPv := fun W hO => Lib.hid (Providers_any (w := W) (RecC.keep HH.out (Kp.of0 hO)) hlen s)
 rw [hf] at hlt hge HF
 clear hf h1 h2
 go_enter Tryz.func12, Tryz.ntmps12
 go_wp2_with fail
 refine HF.out.mono ?_
 rintro e w1 ⟨rfl, O1⟩
 have HO1 := Lib.hid (((Only.refl (fun _ => False) w).alloc _).same O1)
 have hw1 := O1.size
 simp only [World.size_alloc] at hw1
 have hcell : w1.cell? ⟨w.heap.size, 0, none⟩ = some (.slice ao x.packs.length cap) ∧ w1.cell? ⟨w.heap.size, 1, none⟩ = some (.slice ao2 x.prefs.length cap2) := by
  constructor
  ·rw [World.cell?_of_block (w := w.alloc (.cells #[.slice ao x.packs.length cap, .slice ao2 x.prefs.length cap2] 25)) (O1.block _ (by simp) (fun f => f))]; simp
  ·rw [World.cell?_of_block (w := w.alloc (.cells #[.slice ao x.packs.length cap, .slice ao2 x.prefs.length cap2] 25)) (O1.block _ (by simp) (fun f => f))]; simp
 obtain ⟨hc1, hc2⟩ := hcell
 have HPv1 := HPv w1 HO1.out
 clear O1 HPv HF
 by_cases hf0 : 0 ≤ f
 ·go_wp2_with fail
  go_ret
  refine ⟨_, rfl, ?_, fun k hk => ?_, HO1.out.alloc _⟩
  ·rw [HT.out, if_pos hf0]
   have := World.ownsRow_lit (base := 0) (e := 3) (size := 1) w1 #[.int .i64 f] 1 (Nat.zero_le _) (by unfold maxLen; omega) (by simp)
   simpa [natsV, Int.toNat_of_nonneg hf0] using this
  ·simp [Value.ownBlock] at hk; omega
 ·have hT2 : x.targets s = x.provs s := by rw [HT.out, if_neg hf0]
  rw [← hT2] at HPv1
  clear hT2
  go_wp2_with fail
  refine HPv1.out.mono ?_
  rintro e w2 ⟨v, rfl, r1, r2, r3⟩
  have HR := Lib.hid (And.intro r1 (And.intro r2 r3))
  obtain ⟨av, cv, rfl, -, -⟩ := own_slice r1
  clear r1 r2 r3
  go_wp2_with fail
  go_ret
  obtain ⟨r1, r2, r3⟩ := HR.out
  exact ⟨_, rfl, r1, fun k hk => by have := r2 k hk; omega, HO1.out.same r3⟩
end
end Go.Proofs.YtmlfchjompfmaaaGreatDoor
