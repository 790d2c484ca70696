/- needs.Closure: the walk. -/
import Derived.Test.YtmlfchjompfmaaaGreatDoorNdA
import Derived.Test.YtmlfchjompfmaaaGreatDoorQueue
import Derived.Test.YtmlfchjompfmaaaGreatDoorKeysI
import Derived.Carry
import Derived.Deep.LoopGhost
set_option linter.unusedVariables false
namespace Go.Proofs.YtmlfchjompfmaaaGreatDoor
open Go.RowKit Go.Shelf
def strsV (l : List Str) : List Value := l.map Value.string
theorem strsV_len (l : List Str) : (strsV l).length = l.length := by simp [strsV]
theorem slStr : SlT Tryz.prog 28 9 1 16 := SlT.mk' (z := .string .empty) Tryz.underlying28 (by kernel_rfl) rfl (by decide)
theorem run_slice_str (g o m cap : Nat) (hm : m + 1 ≤ cap) (hc : cap ≤ maxLen) (W : World) :
  (Instr.slice 28 (.slice (some ⟨g, o, none⟩) (m + 1) cap) (some (.int .i64 1)) none none).run Tryz.prog W = .ok (.slice (some ⟨g, if cap = 1 then o else o + 1, none⟩) m (cap - 1)) W := by
 obtain ⟨ii, zz, t1, t2, t3, -, -⟩ := slStr.info
 exact run_slice_q (P := Tryz.prog) slStr.und t1 t3 g o m cap hm hc W
theorem names_drop {α : Type} (f : α → Str) {xs : List α} {l : Nat} {d : α} (hx : xs[l]? = some d) : (xs.map f).drop l = f d :: (xs.map f).drop (l + 1) := by
 obtain ⟨hlt, rfl⟩ := List.getElem?_eq_some_iff.1 hx
 rw [List.drop_eq_getElem_cons (by simpa using hlt), List.getElem_map]
theorem sortI_closure {ks : List Int} {l : List Nat} (hn : ks.Nodup) (hl : l.Pairwise (· < ·)) (h : ∀ z, z ∈ ks ↔ ∃ i : Nat, z = i ∧ i ∈ l) : sortI ks = l.map fun i : Nat => (i : Int) := by
 have hl2 : (l.map fun i : Nat => (i : Int)).Pairwise (· < ·) := by
  rw [List.pairwise_map]
  exact hl.imp fun h => by omega
 have hp : ks.Perm (l.map fun i : Nat => (i : Int)) := (List.perm_ext_iff_of_nodup hn (hl2.imp fun h => Int.ne_of_lt h)).2 fun z => by
  rw [h, List.mem_map]
  constructor
  ·rintro ⟨i, rfl, hi⟩; exact ⟨i, hi, rfl⟩
  ·rintro ⟨i, hi, rfl⟩; exact ⟨i, rfl, hi⟩
 exact List.Perm.eq_of_pairwise (le := fun x y : Int => x ≤ y) (fun a b _ _ h1 h2 => by omega) (sortI_sorted ks) (hl2.imp fun h => Int.le_of_lt h) ((sortI_perm ks).trans hp)
theorem nodup_len_le {α : Type} [DecidableEq α] : ∀ {l m : List α}, l.Nodup → (∀ z ∈ l, z ∈ m) → l.length ≤ m.length
 | [], _, _, _ => Nat.zero_le _
 | a :: l, m, hn, hs => by
  rw [List.nodup_cons] at hn
  have hm := hs a List.mem_cons_self
  have h1 := nodup_len_le (l := l) (m := m.erase a) hn.2 fun z hz => (List.mem_erase_of_ne (fun e => by rw [e] at hz; exact hn.1 hz)).2 (hs z (List.mem_cons_of_mem _ hz))
  rw [List.length_erase_of_mem hm] at h1
  have := List.length_pos_of_mem hm
  simp only [List.length_cons]; omega
def ReqD.names (q : ReqD) : List Str := q.roots.map fun r => r.spec.name
theorem names_snoc {α : Type} (f : α → Str) {xs : List α} {i : Nat} {x : α} (hx : xs[i]? = some x) : (xs.map f).take (i + 1) = (xs.map f).take i ++ [f x] := by
 obtain ⟨hlt, rfl⟩ := List.getElem?_eq_some_iff.1 hx
 rw [List.take_succ_eq_append_getElem (by simpa using hlt)]
 simp
def Cnt (ks : List Int) (f : Int → Int) (c : Nat) : Prop := ∀ z ∈ ks, 1 ≤ f z ∧ f z ≤ c
section
variable {w w' : World} {B : Nat}
set_option maxRecDepth 100000 in
set_option maxHeartbeats 4000000 in
theorem Closure_any {cs cq : List Value} {x : RecD} {q : ReqD} (h : RecC B w cs x) (hq : ReqC B w cq q) (hs : SmallRec x) (hl : q.roots.length ≤ 1000) :
  Calls Tryz.prog 16 #[.agg cs.toArray, .agg cq.toArray] w fun e w' => ∃ v, e = .returned v ∧ w'.ownsRow 0 3 1 v (x.closure q.names).length (natsV (x.closure q.names)) ∧ (∀ k, v.ownBlock = some k → w.heap.size ≤ k) ∧ Only (fun _ => False) w w' := by
 have HH := Lib.hid h
 have HQ := Lib.hid hq
 have HS := Lib.hid hs
 obtain ⟨v1, v2, rfl, h1, h2⟩ := h
 obtain ⟨ao, cap, rfl, -, -⟩ := h1.shape
 obtain ⟨ao2, cap2, rfl, -, -⟩ := h2.shape
 obtain ⟨v3, rfl, h3⟩ := hq
 obtain ⟨ao3, cap3, rfl, g3, g3'⟩ := h3.shape
 obtain ⟨n1, hn1⟩ : ∃ n, x.packs.length = n := ⟨_, rfl⟩
 obtain ⟨n2, hn2⟩ : ∃ n, x.prefs.length = n := ⟨_, rfl⟩
 obtain ⟨n3, hn3⟩ : ∃ n, q.roots.length = n := ⟨_, rfl⟩
 rw [hn1, hn2] at HH
 rw [hn1] at h1
 rw [hn3] at h3 HQ g3 hl
 rw [hn1, hn2, hn3]
 have R1 := Lib.hid h1
 have R3 := Lib.hid h3
 have N1 := Lib.hid hn1
 have N3 := Lib.hid hn3
 obtain ⟨W0, hW0⟩ : ∃ W0, W0 = (w.alloc (.cells #[.slice ao n1 cap, .slice ao2 n2 cap2] 25)).alloc (.cells #[.slice ao3 n3 cap3] 58) := ⟨_, rfl⟩
 have HOB : Hid (Only (fun _ => False) w W0) := by rw [hW0]; exact ((Only.refl _ _).alloc _).alloc _
 have HSz : Hid (W0.heap.size = w.heap.size + 2) := by rw [hW0]; simp [Hid]
 have HBox : Hid (∀ W, Only (fun _ => False) W0 W → W.cell? ⟨w.heap.size, 0, none⟩ = some (.slice ao n1 cap) ∧ W.cell? ⟨w.heap.size, 1, none⟩ = some (.slice ao2 n2 cap2) ∧ W.cell? ⟨w.heap.size + 1, 0, none⟩ = some (.slice ao3 n3 cap3)) := fun W ho => by
  have hb := ho.block w.heap.size (by rw [hW0]; simp; omega) (fun f => f)
  have hb1 := ho.block (w.heap.size + 1) (by rw [hW0]; simp) (fun f => f)
  refine ⟨?_, ?_, ?_⟩
  ·rw [World.cell?_of_block (w := W0) hb, hW0]; simp
  ·rw [World.cell?_of_block (w := W0) hb, hW0]; simp
  ·rw [World.cell?_of_block (w := W0) hb1, hW0]; simp
 clear h1 h2 h3 hn1 hn2 hn3 hs
 go_enter Tryz.func16, Tryz.ntmps16
 go_wp2_with fail
 rw [← hW0]
 clear hW0
 go_loopw [5, 17] (fun vo vi wr => Hid (Only (fun _ => False) W0 wr) ∧ ∃ i : Nat, vi = .int .i64 i ∧ i ≤ n3 ∧ Hid (QRow wr 9 vo (strsV (q.names.take i))) ∧ Hid (∀ k, Value.blk vo = some k → W0.heap.size ≤ k)) (fun _ v _ => n3 - (RowKit.intOf v).toNat)
 case atStart => exact ⟨show Hid _ from Only.refl _ _, 0, rfl, Nat.zero_le _, show Hid _ from .inl ⟨rfl, by simp [strsV]⟩, show Hid _ from fun k hk => by cases hk⟩
 case round =>
  obtain ⟨HO, i, rfl, hi, HV, HB⟩ := hrel
  obtain ⟨k0, k1, k2⟩ := HBox.out wr HO.out
  by_cases ci : i < n3
  ·have h2 := R3.out
   rw [← N3.out] at h2
   obtain ⟨b, off, he, -, -⟩ := h2.at (by have := N3.out; omega)
   subst he
   obtain ⟨y, hx⟩ : ∃ y, q.roots[i]? = some y := ⟨_, List.getElem?_eq_getElem (by rw [N3.out]; exact ci)⟩
   obtain ⟨cs, hl2, hr, hC⟩ := (h2.keep RootC.keep (Kp.of0 (HOB.out.same HO.out))).get hx
   have ewi : IntKind.i64.wrap ((i : Int) + 1) = (i : Int) + 1 := by rw [IntKind.wrap_i64]; omega
   obtain ⟨c1, rfl, hS, -⟩ := hC
   obtain ⟨p1, p2, d1, d2, rfl, -, -, -⟩ := hS.cells
   have HR := Lib.hid hr
   have HX := Lib.hid hx
   have HSn : Hid (q.names.take (i + 1) = q.names.take i ++ [y.spec.name]) := names_snoc (fun r : RootD => r.spec.name) hx
   clear hr hx h2 hl2 hS
   obtain ⟨au, cu, rfl, -, -⟩ := HV.out.sh
   have hlen : (strsV (q.names.take i)).length ≤ 1000 := by rw [strsV_len, List.length_take]; omega
   go_wp2_with (first | (refine wpList_load_mid rfl 55 (.tmp 19) rfl b (off + i * 4) rfl _ _ HR.out Tryz.underlying55 rfl (by kernel_rfl) ?_) | (at_builtin; go_must (refine wpQ1 (u := .string y.spec.name) slStr rfl (.tmp 21) (.tmp 25) rfl rfl rfl (by simp) rfl (HV.out.only (((Only.refl (fun _ => False) _).alloc _).alloc _) (fun _ _ f => f)) (by omega) (by decide) ?_)))
   intro v' w2 r1 r2 r3
   have HV2 : Hid (QRow w2 9 v' (strsV (q.names.take (i + 1)))) := by
    rw [HSn.out]
    simpa [strsV, Hid] using r1
   have HO2 := Lib.hid ((((HO.out.alloc _).alloc _).trans r2 fun k hk => .inr (HB.out k hk)))
   have HB2 : Hid (∀ k, Value.blk v' = some k → W0.heap.size ≤ k) := by
    intro k hk
    rcases r3 k hk with h | h
    ·exact HB.out _ h
    ·have := HO.out.size
     try simp at h
     omega
   obtain ⟨av, cv, rfl, -, -⟩ := HV2.out.sh
   clear r1 r2 r3 HV
   go_wp2_with fail
   go_roundw
   case rel => exact ⟨HO2, i + 1, by first | rfl | go_num, by omega, HV2, HB2⟩
   case measure => simp [RowKit.intOf] <;> omega
  ·obtain rfl : n3 = i := by omega
   have hmm := @run_makeMap Tryz.prog
   go_wp2_with fail
   have hM : n3 + x.pot [] ≤ 10000 := by
    have := x.pot_le (M := 40) (fun p hp => (HS.out.all p hp).deps) []
    have h30 := HS.out.packs
    have : x.packs.length * 40 ≤ 30 * 40 := Nat.mul_le_mul_right _ h30
    omega
   have hnl : q.names.length = n3 := by unfold ReqD.names; rw [List.length_map, N3.out]
   obtain ⟨bm, hbm⟩ : ∃ bm, wr.heap.size = bm := ⟨_, rfl⟩
   have hbm2 : W0.heap.size ≤ bm := by rw [← hbm]; exact HO.out.size
   have HV1 : Hid (QRow (wr.alloc (.map #[] 0)) 9 u5 (strsV q.names)) := by
    have := HV.out
    rw [List.take_of_length_le (Nat.le_of_eq hnl)] at this
    exact this.only ((Only.refl (fun _ => False) _).alloc _) (fun _ _ f => f)
   have HB1 : Hid (∀ k, Value.blk u5 = some k → W0.heap.size ≤ k ∧ k ≠ bm) := fun k hk => ⟨HB.out k hk, by have := HV.out.lt hk; omega⟩
   have HM1 : Hid (IMap (wr.alloc (.map #[] 0)) bm [] (fun _ => 0)) := by rw [← hbm]; exact IMap.made wr
   have HO1 : Hid (Only (fun _ => False) W0 (wr.alloc (.map #[] 0))) := HO.out.alloc _
   have HMl := Lib.hid hM
   have HNl := Lib.hid hnl
   obtain ⟨M, hMM⟩ : ∃ M, M = n3 + x.pot [] := ⟨_, rfl⟩
   rw [← hMM] at hM HMl
   have HMM := Lib.hid hMM
   generalize wr.alloc (.map #[] 0) = w1 at *
   rw [hbm]
   clear hmm hbm HV HB HO hnl hi ci k0 k1 k2 hMM
   have HBm := Lib.hid hbm2
   go_loopg [5] M (fun k vo wr => Hid (Only (fun _ => False) W0 wr) ∧ ∃ (A : List Str) (ks : List Int) (f : Int → Int) (c : Nat), Hid (QRow wr 9 vo (strsV A)) ∧ Hid (∀ k, Value.blk vo = some k → W0.heap.size ≤ k ∧ k ≠ bm) ∧ Hid (IMap wr bm ks f) ∧ Hid (Srch x q.names ks A [] ∧ Cnt ks f c ∧ A.length + x.pot ks = k ∧ 64 * k + c ≤ 64 * M))
   case atStart => exact ⟨HO1, q.names, [], fun _ => 0, 0, HV1, HB1, HM1, show Hid _ from ⟨Srch.start x q.names, fun z hz => (by cases hz), by rw [HNl.out, HMM.out], by omega⟩⟩
   case round =>
    obtain ⟨HO, A, ks, f, c, HV, HB, HM, HI⟩ := hrel
    cases A with
    | nil =>
     obtain ⟨au, cu, rfl, -, -⟩ := HV.out.sh
     rw [show (strsV []).length = 0 from rfl] at *
     have hfin := sortI_closure HM.out.nd (x.closure_sorted q.names) (fun z => Srch.fin HI.out.1 z)
     have HFin := Lib.hid hfin
     have hkl : ks.length ≤ 65536 := by
      have h1 := (sortI_perm ks).length_eq
      rw [hfin, List.length_map] at h1
      have := x.closure_len q.names
      have := HS.out.packs
      omega
     clear hfin
     go_wp2_with fail
     refine (keys_any wr bm).mono ?_
     rintro e wk ⟨rfl, rfl⟩
     go_wp2_with fail
     refine (sorted_any HM.out hkl).mono ?_
     rintro e wk ⟨v, rfl, r1, r2, r3⟩
     obtain ⟨av, cv, rfl, -, -⟩ := own_slice r1
     obtain ⟨nk, hnk⟩ : ∃ nk, (sortI ks).length = nk := ⟨_, rfl⟩
     rw [hnk] at r1 r2 ⊢
     have HR := Lib.hid (And.intro r1 (And.intro r2 (And.intro r3 hnk)))
     clear r1 r2 r3 hnk
     go_wp2_with fail
     go_ret
     obtain ⟨r1, r2, r3, hnk⟩ := HR.out
     refine ⟨_, rfl, ?_, fun k hk => ?_, (HOB.out.same HO.out).same r3⟩
     ·have hl : nk = (x.closure q.names).length := by rw [← hnk, HFin.out, List.length_map]
      rw [HFin.out] at r1
      rw [← hl]
      have e1 : ((x.closure q.names).map fun i : Nat => (i : Int)).map cI = natsV (x.closure q.names) := by simp [natsV, cI]
      rw [e1] at r1
      exact r1
     ·have h1 := r2 k hk
      have h2 := (HOB.out.same HO.out).size
      omega
    | cons s A =>
     obtain ⟨g, o, capu, rfl, hc1, hc2, hc3, o', ho', hc4⟩ := QRow.some (show QRow wr 9 u5 (Value.string s :: strsV A) from HV.out)
     obtain ⟨m, hm⟩ : ∃ m, (strsV A).length = m := ⟨_, rfl⟩
     rw [hm] at hc1 hc4 ⊢
     have HQ2 := Lib.hid hc4
     have hsl := run_slice_str g o m capu hc1 hc2
     rw [← ho'] at hsl
     clear ho'
     have hmA : A.length = m := by rw [← hm, strsV_len]
     have HmA := Lib.hid hmA
     obtain ⟨k0, k1, k2⟩ := HBox.out wr HO.out
     clear hm hc4 hmA
     have HTg := fun W hO => Lib.hid (Targets_any (w := W) (RecC.keep HH.out (Kp.of0 hO)) (by have := HS.out.packs; omega) s)
     go_wp2_with fail
     refine (HTg wr (HOB.out.same HO.out)).out.mono ?_
     rintro e wa ⟨vt, rfl, t1, t2, t3⟩
     obtain ⟨I1, I2, I3, I4⟩ := HI.out
     have hmA2 := HmA.out
     obtain ⟨ts, hts⟩ : ∃ ts, x.targets s = ts := ⟨_, rfl⟩
     have htl : ts.length ≤ 30 := by rw [← hts]; have := x.targets_len s; have := HS.out.packs; omega
     rw [hts] at t1
     obtain ⟨atv, ct, rfl, -, -⟩ := own_slice t1
     obtain ⟨nt, hnt⟩ : ∃ nt, ts.length = nt := ⟨_, rfl⟩
     rw [hnt] at t1 t2 htl ⊢
     have HNt := Lib.hid hnt
     have HTs := Lib.hid hts
     have HRT := Lib.hid (show wa.ownsRow 0 3 1 (.slice atv nt ct) nt (natsV ts) from t1)
     have HBT : Hid (∀ k, (Value.slice atv nt ct).ownBlock = some k → W0.heap.size ≤ k ∧ k ≠ bm) := fun k hk => by
      have h1 := t2 k hk
      have h2 := HO.out.size
      have h3 := HM.out.lt
      exact ⟨by omega, by omega⟩
     have HBq : Hid (∀ k, Value.blk (.slice (some ⟨g, o', none⟩) m (capu - 1)) = some k → W0.heap.size ≤ k ∧ k ≠ bm ∧ (Value.slice atv nt ct).ownBlock ≠ some k) := fun k hk => by
      have h1 := HB.out k (by simpa [Value.blk] using hk)
      refine ⟨h1.1, h1.2, fun h => ?_⟩
      have h2 := t2 k h
      have h3 := HQ2.out.lt hk
      omega
     have HQa : Hid (QRow wa 9 (.slice (some ⟨g, o', none⟩) m (capu - 1)) (strsV A)) := HQ2.out.only (by have := t3; exact this) (fun _ _ f => f)
     have HMa : Hid (IMap wa bm ks f) := HM.out.only0 t3
     have HOa : Hid (Only (fun _ => False) W0 wa) := HO.out.same t3
     have HIa : Hid (Srch x q.names ks A [s] ∧ Cnt ks f c ∧ A.length + x.pot ks + 1 ≤ gk ∧ 64 * (A.length + x.pot ks) + nt + c ≤ 64 * M) := ⟨Srch.pop I1, I2, by simp only [List.length_cons] at I3; omega, by simp only [List.length_cons] at I3; omega⟩
     clear HTg t1 t2 t3 hnt hts I1 I2 I3 I4 HV HB HM HI HO HQ2 hc3 hsl hmA2 HmA k0 k1 k2
     generalize wr = wo at *
     go_wp2_with fail
     go_loopw [5, 41] (fun vo vj wr => Hid (Only (fun _ => False) W0 wr) ∧ Hid (wr.ownsRow 0 3 1 (.slice atv nt ct) nt (natsV ts)) ∧ ∃ (j : Nat) (A : List Str) (ks : List Int) (f : Int → Int) (c : Nat), vj = .int .i64 j ∧ j ≤ nt ∧ Hid (QRow wr 9 vo (strsV A)) ∧ Hid (∀ k, Value.blk vo = some k → W0.heap.size ≤ k ∧ k ≠ bm ∧ (Value.slice atv nt ct).ownBlock ≠ some k) ∧ Hid (IMap wr bm ks f) ∧
      Hid (Srch x q.names ks A [s] ∧ Cnt ks f c ∧ A.length + x.pot ks + 1 ≤ gk ∧ 64 * (A.length + x.pot ks) + (nt - j) + c ≤ 64 * M ∧ ∀ i ∈ ts.take j, (i : Int) ∈ ks)) (fun _ v _ => nt - (RowKit.intOf v).toNat)
     case atStart => exact ⟨HOa, HRT, 0, A, ks, f, c, rfl, Nat.zero_le _, HQa, HBq, HMa, show Hid _ from ⟨HIa.out.1, HIa.out.2.1, HIa.out.2.2.1, HIa.out.2.2.2, fun i hi => by simp at hi⟩⟩
     case round =>
      clear HQa HBq HMa HIa HRT
      obtain ⟨HO, HT, j, A, ks, f, c, rfl, hj, HV, HB, HM, HI⟩ := hrel
      obtain ⟨k0, k1, k2⟩ := HBox.out wr HO.out
      by_cases cj : j < nt
      ·obtain ⟨kT, capT, he, -, -⟩ := own_some HT.out (by omega)
       simp only [Value.slice.injEq] at he
       obtain ⟨rfl, -, rfl⟩ := he
       obtain ⟨t, htt⟩ : ∃ t, ts[j]? = some t := ⟨_, List.getElem?_eq_getElem (by rw [HNt.out]; exact cj)⟩
       have hcell : wr.cell? ⟨kT, j, none⟩ = some (.int .i64 (t : Int)) := by
        rw [HT.out.cellAt j (by omega)]
        simp [natsV, htt]
       have ewj : IntKind.i64.wrap ((j : Int) + 1) = (j : Int) + 1 := by rw [IntKind.wrap_i64]; omega
       have hit : t ∈ x.targets s := by rw [HTs.out]; exact List.mem_of_getElem? htt
       have htn : t < n1 := by have := RecD.targets_lt hit; rw [N1.out] at this; exact this
       have hn30 : n1 ≤ 30 := by rw [← N1.out]; exact HS.out.packs
       have hit64 : InI64 (t : Int) := ⟨by omega, by omega⟩
       obtain ⟨I1, I2, I3, I4, I5⟩ := HI.out
       obtain ⟨ft, hft⟩ : ∃ ft, f (t : Int) = ft := ⟨_, rfl⟩
       have hf1 : (t : Int) ∈ ks → 1 ≤ ft ∧ ft ≤ c := fun h => by rw [← hft]; exact I2 _ h
       have hf0 : (t : Int) ∉ ks → ft = 0 := fun h => by rw [← hft]; exact HM.out.out _ h
       have hfc : 0 ≤ ft ∧ ft ≤ c := by
        by_cases hk : (t : Int) ∈ ks
        ·have := hf1 hk; omega
        ·have := hf0 hk; omega
       have hM10 := HMl.out
       have ewf : IntKind.i64.wrap (ft + 1) = ft + 1 := by rw [IntKind.wrap_i64]; omega
       have hkl : ks.length ≤ 30 := by
        have h1 : ks.length ≤ ((List.range n1).map fun i : Nat => (i : Int)).length := nodup_len_le HM.out.nd fun z hz => by
         obtain ⟨i, rfl, hi⟩ := I1.keys z hz
         have := hi.lt
         rw [N1.out] at this
         exact List.mem_map.2 ⟨i, List.mem_range.2 this, rfl⟩
        simp at h1; omega
       have hlk := HM.out.look hit64
       obtain ⟨w2, hup, hM2, hO2⟩ := HM.out.store (v := ft + 1) hit64 ⟨by omega, by omega⟩ (by unfold maxLen; omega)
       have hlk2 := hM2.look hit64
       rw [hft] at hlk
       rw [show upd f (t : Int) (ft + 1) (t : Int) = ft + 1 by unfold upd; rw [if_pos rfl]] at hlk2
       have HM2 := Lib.hid hM2
       have HO2 : Hid (Only (fun _ => False) W0 w2) := HO.out.trans hO2 fun k hk => .inr (by have := HBm.out; omega)
       have HT2 : Hid (w2.ownsRow 0 3 1 (.slice (some ⟨kT, 0, none⟩) nt ct) nt (natsV ts)) := own_only HT.out hO2 fun k hk => (HBT.out k hk).2
       have HV2 : Hid (QRow w2 9 u5 (strsV A)) := HV.out.only hO2 fun k hk => (HB.out k hk).2.1
       obtain ⟨au, cu, rfl, -, -⟩ := HV.out.sh
       have HSn := Lib.hid htt
       have HHit := Lib.hid hit
       by_cases hk : (t : Int) ∈ ks
       ·have hf1' := hf1 hk
        have HI2 : Hid (Srch x q.names ks A [s] ∧ Cnt ks (upd f (t : Int) (ft + 1)) (c + 1) ∧ A.length + x.pot ks + 1 ≤ gk ∧ 64 * (A.length + x.pot ks) + (nt - (j + 1)) + (c + 1) ≤ 64 * M ∧ ∀ i ∈ ts.take (j + 1), (i : Int) ∈ ks) := by
         refine ⟨I1, fun z hz => ?_, I3, by omega, fun i hi => ?_⟩
         ·unfold upd
          split
          ·omega
          ·have := I2 z hz; omega
         ·rcases mem_take_snoc htt hi with h | rfl
          ·exact I5 i h
          ·exact hk
        rw [show addK ks (t : Int) = ks by unfold addK; rw [if_pos hk]] at HM2
        clear htt hit hf1 hf0 hM10 hkl hM2 hO2 HT HV HM HI HO I1 I2 I3 I4 I5 hk hft
        go_wp2_with fail
        go_roundw
        case rel => exact ⟨HO2, HT2, j + 1, A, ks, _, c + 1, by first | rfl | go_num, by omega, HV2, HB, HM2, HI2⟩
        case measure => simp [RowKit.intOf] <;> omega
       ·obtain rfl := hf0 hk
        have e01 : (0 : Int) + 1 = 1 := rfl
        rw [e01] at hup hlk2 HM2 ewf
        clear e01
        have hpx : x.packs[t]? = some (x.pack t) := by
         unfold RecD.pack
         rw [List.getD_eq_getElem?_getD, List.getElem?_eq_getElem (by rw [N1.out]; exact htn)]; rfl
        have h2 := R1.out
        rw [← N1.out] at h2
        obtain ⟨b, off, he, -, -⟩ := h2.at (by have := N1.out; omega)
        subst he
        obtain ⟨csp, -, hrp, hCp⟩ := h2.get hpx
        obtain ⟨p, hp⟩ : ∃ p, x.pack t = p := ⟨_, rfl⟩
        have HP := Lib.hid hp
        have hmemp : p ∈ x.packs := by rw [← hp]; exact List.mem_of_getElem? hpx
        rw [hp] at hCp
        obtain ⟨q1, q2, q3, q4, q5, q6, z1, z2, z3, z4, z5, z6, rfl, -, -, -, -, -, b4, -, -⟩ := hCp.cells
        have hcd := rangeAt_keep0 hrp (HOB.out.same HO2.out) 5 _ rfl
        have hdl := (HS.out.all p hmemp).deps
        obtain ⟨nd, hnd⟩ : ∃ nd, p.deps.length = nd := ⟨_, rfl⟩
        rw [hnd] at hcd b4 hdl
        have HNd := Lib.hid hnd
        obtain ⟨_, _, e4, g4, g4'⟩ := b4.shape
        simp only [Value.slice.injEq] at e4
        obtain ⟨-, -, rfl⟩ := e4
        rw [hnd] at g4
        have HD : Hid (∀ W, Only (fun _ => False) W0 W → RowT 7 DepC B W (.slice q4 nd z4) p.deps) := fun W hW => b4.keep DepC.keep (Kp.of0 (HOB.out.same hW))
        have hk' : ∀ z, z ∈ addK ks (t : Int) ↔ z ∈ ks ∨ z = (t : Int) := fun z => mem_addK
        have hpot : x.pot (addK ks (t : Int)) + nd = x.pot ks := by
         have := RecD.pot_key (x := x) (i := t) (by rw [N1.out]; exact htn) hk hk'
         rw [hp, hnd] at this; exact this
        have HI2 : Hid (Srch x q.names (addK ks (t : Int)) A (p.names ++ [s]) ∧ Cnt (addK ks (t : Int)) (upd f (t : Int) 1) (c + 1) ∧ A.length + nd + x.pot (addK ks (t : Int)) + 1 ≤ gk ∧ 64 * (A.length + nd + x.pot (addK ks (t : Int))) + (nt - (j + 1)) + (c + 1) ≤ 64 * M ∧ ∀ i ∈ ts.take (j + 1), (i : Int) ∈ addK ks (t : Int)) := by
         have hk1 := Srch.key (R := []) (by simpa using I1) hit hk'
         rw [hp] at hk1
         refine ⟨by simpa using hk1, fun z hz => ?_, by omega, by omega, fun i hi => ?_⟩
         ·unfold upd
          split
          ·omega
          ·rename_i hne
           rcases (hk' z).1 hz with h | h
           ·have := I2 z h; omega
           ·exact absurd h hne
         ·rcases mem_take_snoc htt hi with h | rfl
          ·exact (hk' _).2 (.inl (I5 i h))
          ·exact (hk' _).2 (.inr rfl)
        obtain ⟨k0, k1, k2⟩ := HBox.out w2 HO2.out
        generalize addK ks (t : Int) = ks2 at *
        generalize upd f (t : Int) 1 = f2 at *
        clear htt hit hf1 hf0 hM10 hkl hM2 hO2 HT HV HM HI HO I1 I2 I3 I4 I5 hk hft h2 hpx hp hCp hrp b4 hmemp hnd hk' hpot
        go_wp2_with fail
        generalize wr = wm at *
        go_loopw [5, 60] (fun vo vl wr => Hid (Only (fun _ => False) W0 wr) ∧ Hid (wr.ownsRow 0 3 1 (.slice (some ⟨kT, 0, none⟩) nt ct) nt (natsV ts)) ∧ ∃ (l : Nat) (A : List Str), vl = .int .i64 l ∧ l ≤ nd ∧ Hid (QRow wr 9 vo (strsV A)) ∧ Hid (∀ k, Value.blk vo = some k → W0.heap.size ≤ k ∧ k ≠ bm ∧ (Value.slice (some ⟨kT, 0, none⟩) nt ct).ownBlock ≠ some k) ∧ Hid (IMap wr bm ks2 f2) ∧
         Hid (Srch x q.names ks2 A (p.names.drop l ++ [s]) ∧ Cnt ks2 f2 (c + 1) ∧ A.length + (nd - l) + x.pot ks2 + 1 ≤ gk ∧ 64 * (A.length + (nd - l) + x.pot ks2) + (nt - (j + 1)) + (c + 1) ≤ 64 * M ∧ ∀ i ∈ ts.take (j + 1), (i : Int) ∈ ks2)) (fun _ v _ => nd - (RowKit.intOf v).toNat)
        case atStart => exact ⟨HO2, HT2, 0, A, rfl, Nat.zero_le _, HV2, HB, HM2, HI2⟩
        case round =>
         clear HO2 HT2 HV2 HB HM2 HI2
         obtain ⟨HO, HT, l, A, rfl, hl2, HV, HB, HM, HI⟩ := hrel
         by_cases cl : l < nd
         ·have hd2 := HD.out wr HO.out
          rw [← HNd.out] at hd2
          obtain ⟨b', off', he', -, -⟩ := hd2.at (by have := HNd.out; omega)
          subst he'
          obtain ⟨d, hdd⟩ : ∃ d, p.deps[l]? = some d := ⟨_, List.getElem?_eq_getElem (by rw [HNd.out]; exact cl)⟩
          obtain ⟨cs7, -, hr7, hC7⟩ := hd2.get hdd
          obtain ⟨c1, c2, rfl, hS1, hS2, -⟩ := hC7
          obtain ⟨p1, p2, d1, d2, rfl, -, -, -⟩ := hS1.cells
          obtain ⟨p3, p4, d3, d4, rfl, -, -, -⟩ := hS2.cells
          have HR7 := Lib.hid (show wr.rangeAt b' (off' + l * 7) [.string d.on.name, .slice p1 d.on.spans.length d1, .slice p2 d.on.sets.length d2, .string d.cond.name, .slice p3 d.cond.spans.length d3, .slice p4 d.cond.sets.length d4, .int .i64 d.line] from hr7)
          have ewl : IntKind.i64.wrap ((l : Int) + 1) = (l : Int) + 1 := by rw [IntKind.wrap_i64]; omega
          have hnd : p.names.drop l = d.on.name :: p.names.drop (l + 1) := names_drop (fun d : DepD => d.on.name) hdd
          obtain ⟨I1, I2, I3, I4, I5⟩ := HI.out
          rw [hnd] at I1
          have HI3 : Hid (Srch x q.names ks2 (A ++ [d.on.name]) (p.names.drop (l + 1) ++ [s]) ∧ Cnt ks2 f2 (c + 1) ∧ (A ++ [d.on.name]).length + (nd - (l + 1)) + x.pot ks2 + 1 ≤ gk ∧ 64 * ((A ++ [d.on.name]).length + (nd - (l + 1)) + x.pot ks2) + (nt - (j + 1)) + (c + 1) ≤ 64 * M ∧ ∀ i ∈ ts.take (j + 1), (i : Int) ∈ ks2) :=
           ⟨Srch.push I1, I2, by simp only [List.length_append, List.length_singleton]; omega, by simp only [List.length_append, List.length_singleton]; omega, I5⟩
          obtain ⟨aq, cq, rfl, -, -⟩ := HV.out.sh
          have hlA : (strsV A).length ≤ 20000 := by rw [strsV_len]; have := HMl.out; omega
          clear hd2 hdd hr7 hS1 hS2 hnd I1 I2 I3 I4 I5 HI
          go_wp2_with (first | (refine wpList_load_mid rfl 52 (.tmp 62) rfl b' (off' + l * 7) rfl _ _ HR7.out Tryz.underlying52 rfl (by kernel_rfl) ?_) | (at_builtin; go_must (refine wpQ1 (u := .string d.on.name) slStr rfl (.tmp 64) (.tmp 68) rfl rfl rfl (by simp) rfl (HV.out.only (((Only.refl (fun _ => False) _).alloc _).alloc _) (fun _ _ f => f)) (by omega) (by decide) ?_)))
          intro v' w3 r1 r2 r3
          have HV3 : Hid (QRow w3 9 v' (strsV (A ++ [d.on.name]))) := by simpa [strsV, Hid] using r1
          have hOa := ((Only.refl (fun k => Value.blk (.slice aq (strsV A).length cq) = some k) wr).alloc (.cells #[.string d.on.name, .slice p1 d.on.spans.length d1, .slice p2 d.on.sets.length d2, .string d.cond.name, .slice p3 d.cond.spans.length d3, .slice p4 d.cond.sets.length d4, .int .i64 d.line] 52)).alloc (.cells #[.string d.on.name] 9) |>.same r2
          have HO3 : Hid (Only (fun _ => False) W0 w3) := HO.out.trans hOa fun k hk => .inr (HB.out k hk).1
          have HT3 : Hid (w3.ownsRow 0 3 1 (.slice (some ⟨kT, 0, none⟩) nt ct) nt (natsV ts)) := own_only HT.out hOa fun k hk h => (HB.out k h).2.2 hk
          have HM3 : Hid (IMap w3 bm ks2 f2) := HM.out.only hOa fun h => (HB.out bm h).2.1 rfl
          have HB3 : Hid (∀ k, Value.blk v' = some k → W0.heap.size ≤ k ∧ k ≠ bm ∧ (Value.slice (some ⟨kT, 0, none⟩) nt ct).ownBlock ≠ some k) := fun k hk => by
           rcases r3 k hk with h | h
           ·exact HB.out k h
           ·have h1 := HO.out.size
            have h2 := HM.out.lt
            have h3 : kT < wr.heap.size := own_lt HT.out rfl
            try simp at h
            refine ⟨by omega, by omega, fun h4 => ?_⟩
            simp [Value.ownBlock] at h4
            omega
          obtain ⟨av, cv, rfl, -, -⟩ := HV3.out.sh
          clear r1 r2 r3 hOa HV HB HM HT HO
          go_wp2_with fail
          go_roundw
          case rel => exact ⟨HO3, HT3, l + 1, A ++ [d.on.name], by first | rfl | go_num, by omega, HV3, HB3, HM3, HI3⟩
          case measure => simp [RowKit.intOf] <;> omega
         ·obtain rfl : nd = l := by omega
          have hdr : p.names.drop nd = [] := List.drop_eq_nil_of_le (by unfold PackD.names; rw [List.length_map, HNd.out]; omega)
          have HI3 : Hid (Srch x q.names ks2 A [s] ∧ Cnt ks2 f2 (c + 1) ∧ A.length + x.pot ks2 + 1 ≤ gk ∧ 64 * (A.length + x.pot ks2) + (nt - (j + 1)) + (c + 1) ≤ 64 * M ∧ ∀ i ∈ ts.take (j + 1), (i : Int) ∈ ks2) := by
           obtain ⟨I1, I2, I3, I4, I5⟩ := HI.out
           rw [hdr] at I1
           exact ⟨I1, I2, by omega, by omega, I5⟩
          clear hdr HI
          go_wp2_with fail
          go_roundw
          case rel => exact ⟨HO, HT, j + 1, A, ks2, f2, c + 1, by first | rfl | go_num, by omega, HV, HB, HM, HI3⟩
          case measure => simp [RowKit.intOf] <;> omega
      ·obtain rfl : nt = j := by omega
       have HI2 : Hid (Srch x q.names ks A [] ∧ Cnt ks f c ∧ A.length + x.pot ks + 1 ≤ gk ∧ 64 * (A.length + x.pot ks) + c ≤ 64 * M) := by
        obtain ⟨I1, I2, I3, I4, I5⟩ := HI.out
        refine ⟨I1.drop fun i hi => I5 i ?_, I2, I3, by omega⟩
        rw [HTs.out] at hi
        rw [List.take_of_length_le (Nat.le_of_eq HNt.out)]
        exact hi
       have HB2 : Hid (∀ k, Value.blk u5 = some k → W0.heap.size ≤ k ∧ k ≠ bm) := fun k hk => ⟨(HB.out k hk).1, (HB.out k hk).2.1⟩
       clear HI HB
       go_wp2_with fail
       go_roundg (A.length + x.pot ks)
       case measure => have := HI2.out.2.2.1; omega
       case rel => exact ⟨HO, A, ks, f, c, HV, HB2, HM, show Hid _ from ⟨HI2.out.1, HI2.out.2.1, rfl, HI2.out.2.2.2⟩⟩
end
end Go.Proofs.YtmlfchjompfmaaaGreatDoor
