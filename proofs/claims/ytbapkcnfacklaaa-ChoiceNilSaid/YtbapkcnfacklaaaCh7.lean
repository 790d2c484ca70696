/- choice.rules: the walk. Printed by gen_ch7.py. -/
import Derived.Test.YtbapkcnfacklaaaCh6
set_option linter.unusedVariables false
namespace Go.Proofs.Ytbapkcnfacklaaa
open Go.RowKit
theorem packRs_len {x : RecD} {p : Nat} (h1 : (x.pack p).deps.length ≤ 1000) (h2 : (x.pack p).cons.length ≤ 1000) : (packRs x p).length ≤ 2000 := by
 unfold packRs depRs conRs
 simp; omega
theorem flatMap_le {x : RecD} : ∀ {l : List Nat}, (∀ p ∈ l, (packRs x p).length ≤ 2000) → (l.flatMap (packRs x)).length ≤ l.length * 2000
 | [], _ => by simp
 | a :: r, h => by
  have h1 := flatMap_le (l := r) fun p hp => h p (List.mem_cons_of_mem _ hp)
  have h2 := h a List.mem_cons_self
  rw [List.flatMap_cons, List.length_append, List.length_cons, Nat.add_mul]; omega
theorem takeN_succ {l : List Nat} {i p : Nat} (h : l[i]? = some p) : l.take (i + 1) = l.take i ++ [p] := by
 obtain ⟨hlt, rfl⟩ := List.getElem?_eq_some_iff.1 h
 rw [List.take_succ_eq_append_getElem hlt]
structure RuOk (x : RecD) (q : ReqD) (l : List Nat) : Prop where
 roots : q.roots.length ≤ 1000
 packs : x.packs.length ≤ 1000
 deps : ∀ p ∈ x.packs, p.deps.length ≤ 1000
 cons : ∀ p ∈ x.packs, p.cons.length ≤ 1000
 len : l.length ≤ 1000
 lt : ∀ p ∈ l, p < x.packs.length
section
variable {w w' : World} {B : Nat}
theorem Ints.cellN {ao : Option Addr} {n cap : Nat} {l : List Nat} (h : Ints w (.slice ao n cap) (intsOf l)) {i p : Nat} (hp : l[i]? = some p) : ∃ b off, ao = some ⟨b, off, none⟩ ∧ w.cell? ⟨b, off + i, none⟩ = some (.int .i64 (p : Int)) := by
 obtain ⟨hlt, rfl⟩ := List.getElem?_eq_some_iff.1 hp
 have hl : i < (intsOf l).length := by unfold intsOf; simpa using hlt
 obtain ⟨b, off, e, _, hc⟩ := h.cells _ _ _ rfl (by omega)
 refine ⟨b, off, e, ?_⟩
 rw [hc i hl]
 unfold intsOf
 simp [List.getD, hlt]
set_option maxRecDepth 100000 in
set_option maxHeartbeats 4000000 in
theorem rules_any {cs cq : List Value} {x : RecD} {q : ReqD} {vl : Value} {l : List Nat} (h : RecC B w cs x) (hq : ReqC B w cq q) (hl : Ints w vl (intsOf l)) (ok : RuOk x q l) :
  Calls Try.prog 42 #[.agg cs.toArray, .agg cq.toArray, vl] w fun e w' => ∃ v, e = .returned v ∧ RuRow w w' v (rulesOf x q l) ∧ Only (fun _ => False) w w' := by
 have HOk := Lib.hid ok
 obtain ⟨v1, v2, rfl, h1, h2⟩ := h
 obtain ⟨ao, cap, rfl, -, -⟩ := h1.shape
 obtain ⟨ao2, cap2, rfl, -, -⟩ := h2.shape
 obtain ⟨v3, rfl, h3⟩ := hq
 obtain ⟨ao3, cap3, rfl, g3, g3'⟩ := h3.shape
 obtain ⟨apl, capl, rfl, -, -⟩ := hl.shape
 obtain ⟨n1, hn1⟩ : ∃ n, x.packs.length = n := ⟨_, rfl⟩
 obtain ⟨n2, hn2⟩ : ∃ n, x.prefs.length = n := ⟨_, rfl⟩
 obtain ⟨n3, hn3⟩ : ∃ n, q.roots.length = n := ⟨_, rfl⟩
 obtain ⟨nl, hnl⟩ : ∃ n, (intsOf l).length = n := ⟨_, rfl⟩
 have hnl2 : l.length = nl := by rw [← hnl]; unfold intsOf; simp
 rw [hn1] at h1
 rw [hn3] at h3 g3
 rw [hnl] at hl
 rw [hn1, hn2, hn3, hnl]
 have R1 := Lib.hid h1
 have R3 := Lib.hid h3
 have N1 := Lib.hid hn1
 have N3 := Lib.hid hn3
 have NL := Lib.hid hnl2
 have HI := Lib.hid hl
 have hb1 : n1 ≤ 1000 := by rw [← hn1]; exact ok.packs
 have hb3 : n3 ≤ 1000 := by rw [← hn3]; exact ok.roots
 have hbl : nl ≤ 1000 := by rw [← hnl2]; exact ok.len
 obtain ⟨W0, hW0⟩ : ∃ W0, W0 = (w.alloc (.cells #[.slice ao n1 cap, .slice ao2 n2 cap2] 25)).alloc (.cells #[.slice ao3 n3 cap3] 28) := ⟨_, rfl⟩
 have HOB : Hid (Only (fun _ => False) w W0) := by rw [hW0]; exact ((Only.refl _ _).alloc _).alloc _
 have HBox : Hid (∀ W, Only (fun _ => False) W0 W → W.cell? ⟨w.heap.size, 0, none⟩ = some (.slice ao n1 cap) ∧ W.cell? ⟨w.heap.size + 1, 0, none⟩ = some (.slice ao3 n3 cap3)) := fun W ho => by
  have b0 : W0.heap[w.heap.size]? = some (.cells #[.slice ao n1 cap, .slice ao2 n2 cap2] 25) := by rw [hW0]; exact alloc_block (heap_alloc_new w _) _
  have b1 : W0.heap[w.heap.size + 1]? = some (.cells #[.slice ao3 n3 cap3] 28) := by
   have := heap_alloc_new (w.alloc (.cells #[.slice ao n1 cap, .slice ao2 n2 cap2] 25)) (.cells #[.slice ao3 n3 cap3] 28)
   rw [World.size_alloc, ← hW0] at this; exact this
  have c0 := only_block b0 ho (fun f => f)
  have c1 := only_block b1 ho (fun f => f)
  exact ⟨by rw [cell_block c0]; rfl, by rw [cell_block c1]; rfl⟩
 clear h1 h2 h3 hl hn1 hn2 hn3 hnl hnl2 ok
 go_enter Try.func42, Try.ntmps42
 go_wp2_with fail
 rw [← hW0]
 clear hW0
 go_loopw [7, 19] (fun vo vi wr => Hid (Only (fun _ => False) W0 wr) ∧ ∃ i : Nat, vi = .int .i64 i ∧ i ≤ n3 ∧ Hid (RuRow W0 wr vo (rootRs q i))) (fun _ v _ => n3 - (RowKit.intOf v).toNat)
 case atStart => exact ⟨show Hid _ from Only.refl _ _, 0, rfl, Nat.zero_le _, show Hid _ from RuRow.nil _ _⟩
 case round =>
  obtain ⟨HO, i, rfl, hi, HV⟩ := hrel
  obtain ⟨k0, k2⟩ := HBox.out wr HO.out
  by_cases ci : i < n3
  ·have h2 := R3.out
   rw [← N3.out] at h2
   obtain ⟨b, off, he, -, -⟩ := h2.at (by have := N3.out; omega)
   subst he
   obtain ⟨y, hx⟩ : ∃ y, q.roots[i]? = some y := ⟨_, List.getElem?_eq_getElem (by rw [N3.out]; exact ci)⟩
   obtain ⟨cs, hl2, hr, hC⟩ := (h2.keep RootC.keep (Kp.of0 (HOB.out.same HO.out))).get hx
   have ewi : IntKind.i64.wrap ((i : Int) + 1) = (i : Int) + 1 := by rw [IntKind.wrap_i64]; omega
   obtain ⟨c1, rfl, hS, -⟩ := hC
   obtain ⟨p1, p2, d1, d2, rfl, -, -, -⟩ := hS.cells
   have HR := Lib.hid (show wr.rangeAt b (off + i * 4) [.string y.spec.name, .slice p1 y.spec.spans.length d1, .slice p2 y.spec.sets.length d2, .int .i64 y.line] from hr)
   have HSn : Hid (rootRs q (i + 1) = rootRs q i ++ [⟨1, -1, i, y.line⟩]) := by rw [rootRs_succ, List.getD_eq_getElem?_getD, hx]; exact rfl
   have hlen : (rootRs q i).length ≤ 1000 := by unfold rootRs; simp; omega
   obtain ⟨L, hL⟩ : ∃ L, rootRs q i = L := ⟨_, rfl⟩
   rw [hL] at HV hlen HSn
   obtain ⟨au, cu, hu, -, -⟩ : ∃ au cu, u7 = .slice au L.length cu ∧ L.length ≤ cu ∧ cu ≤ maxLen := own_slice HV.out.1
   subst hu
   clear hr hx h2 hl2 hS hL
   go_wp2_with (first | (refine wpList_load_mid rfl 68 (.tmp 22) rfl b (off + i * 4) rfl _ _ HR.out Try.underlying68 rfl (by kernel_rfl) ?_) | (at_builtin; go_must (refine wpAR (cs := RuleD.cells ⟨1, -1, i, y.line⟩) slRule rfl (.tmp 24) (.tmp 29) rfl rfl rfl rfl (rangeAt_new (cs := RuleD.cells ⟨1, -1, i, y.line⟩) (by simp)) (RuleD.one _) (own_only HV.out.1 (((Only.refl (fun _ => False) _).alloc _).alloc _) (fun _ _ f => f)) (by omega) (by decide) ?_)))
   intro v' w2 s1 s2 s3
   have HV2 : Hid (RuRow W0 w2 v' (rootRs q (i + 1))) := by
    rw [HSn.out]
    exact RuRow.app HV.out (by have := HO.out.size; simp; omega) s1 s3
   have HO2 := Lib.hid (((HO.out.alloc _).alloc _).trans s2 fun k hk => .inr (HV.out.2 k hk))
   obtain ⟨g6, c6', rfl, -, -, -⟩ := s3
   clear s1 s2 HV
   go_wp2_with fail
   go_roundw
   case rel => exact ⟨HO2, i + 1, by first | rfl | go_num, by omega, HV2⟩
   case measure => simp [RowKit.intOf] <;> omega
  ·obtain rfl : n3 = i := by omega
   clear hi ci k0 k2
   have HV1 : Hid (RuRow W0 wr u7 (rootRs q n3 ++ (l.take 0).flatMap (packRs x))) := by simpa [Hid] using HV.out
   obtain ⟨au, cu, hu, -, -⟩ : ∃ au cu, u7 = .slice au (rootRs q n3).length cu ∧ _ ∧ _ := own_slice HV.out.1
   clear hu
   have HO1 := HO
   go_wp2_with fail
   generalize wr = wa at *
   go_loopw [7, 34] (fun vo vi wr => Hid (Only (fun _ => False) W0 wr) ∧ ∃ i : Nat, vi = .int .i64 i ∧ i ≤ nl ∧ Hid (RuRow W0 wr vo (rootRs q n3 ++ (l.take i).flatMap (packRs x)))) (fun _ v _ => nl - (RowKit.intOf v).toNat)
   case atStart => exact ⟨HO1, 0, rfl, Nat.zero_le _, HV1⟩
   case round =>
    clear HV1 HV HO HO1
    obtain ⟨HO, i, rfl, hi, HV⟩ := hrel
    obtain ⟨k0, k2⟩ := HBox.out wr HO.out
    by_cases ci : i < nl
    ·obtain ⟨p, hp⟩ : ∃ p, l[i]? = some p := ⟨_, List.getElem?_eq_getElem (by rw [NL.out]; exact ci)⟩
     have hpn : p < n1 := by have := HOk.out.lt p (List.mem_of_getElem? hp); rw [N1.out] at this; exact this
     obtain ⟨bI, offI, eI, hcell⟩ := (HI.out.only0 (HOB.out.same HO.out)).cellN hp
     subst eI
     have ewi : IntKind.i64.wrap ((i : Int) + 1) = (i : Int) + 1 := by rw [IntKind.wrap_i64]; omega
     have hpx : x.packs[p]? = some (x.pack p) := by
      unfold RecD.pack
      rw [List.getD_eq_getElem?_getD, List.getElem?_eq_getElem (by rw [N1.out]; exact hpn)]; rfl
     obtain ⟨pk, hpk⟩ : ∃ pk, x.pack p = pk := ⟨_, rfl⟩
     rw [hpk] at hpx
     have hmem : pk ∈ x.packs := List.mem_of_getElem? hpx
     have h2 := R1.out
     rw [← N1.out] at h2
     obtain ⟨b, off, he, -, -⟩ := h2.at (by have := N1.out; omega)
     subst he
     obtain ⟨csp, -, hrp, hCp⟩ := h2.get hpx
     obtain ⟨q1, q2, q3, q4, q5, q6, z1, z2, z3, z4, z5, z6, rfl, -, -, -, -, -, b4, b5, -⟩ := hCp.cells
     obtain ⟨nd, hnd⟩ : ∃ nd, pk.deps.length = nd := ⟨_, rfl⟩
     obtain ⟨nc, hnc⟩ : ∃ nc, pk.cons.length = nc := ⟨_, rfl⟩
     have hdl : nd ≤ 1000 := by rw [← hnd]; exact HOk.out.deps pk hmem
     have hcl : nc ≤ 1000 := by rw [← hnc]; exact HOk.out.cons pk hmem
     rw [hnd] at hrp b4
     rw [hnc] at hrp b5
     have HNd := Lib.hid hnd
     have HNc := Lib.hid hnc
     have HD : Hid (∀ W, Only (fun _ => False) W0 W → RowT 7 DepC B W (.slice q4 nd z4) pk.deps) := fun W hW => b4.keep DepC.keep (Kp.of0 (HOB.out.same hW))
     have HCn : Hid (∀ W, Only (fun _ => False) W0 W → RowT 7 ConC B W (.slice q5 nc z5) pk.cons) := fun W hW => b5.keep ConC.keep (Kp.of0 (HOB.out.same hW))
     have HPk : Hid (∀ W, Only (fun _ => False) W0 W → W.cell? ⟨b, off + p * 8 + 5, none⟩ = some (.slice q4 nd z4) ∧ W.cell? ⟨b, off + p * 8 + 6, none⟩ = some (.slice q5 nc z5)) := fun W hW => by
      have hb : b < w.heap.size := World.block_lt_of_cell? _ _ (hrp 5 _ rfl)
      have hk := (HOB.out.same hW).block b hb (fun f => f)
      exact ⟨by rw [World.cell?_of_block (w := w) hk]; exact hrp 5 _ rfl, by rw [World.cell?_of_block (w := w) hk]; exact hrp 6 _ rfl⟩
     have HNx : Hid (rootRs q n3 ++ (l.take (i + 1)).flatMap (packRs x) = (rootRs q n3 ++ (l.take i).flatMap (packRs x)) ++ depRs x p nd ++ conRs x p nc) := by
      rw [takeN_succ hp, List.flatMap_append]
      have : List.flatMap (packRs x) [p] = depRs x p nd ++ conRs x p nc := by simp [packRs, hpk, hnd, hnc]
      rw [this]
      simp [List.append_assoc, Hid]
     have hlen0 : (rootRs q n3 ++ (l.take i).flatMap (packRs x)).length ≤ 3000000 := by
      have h1 := flatMap_le (x := x) (l := l.take i) fun p hp => by
       have := HOk.out.lt p (List.mem_of_mem_take hp)
       have hm : x.pack p ∈ x.packs := by unfold RecD.pack; rw [List.getD_eq_getElem?_getD, List.getElem?_eq_getElem this]; exact List.getElem_mem this
       exact packRs_len (HOk.out.deps _ hm) (HOk.out.cons _ hm)
      have h2 : (l.take i).length ≤ 1000 := by rw [List.length_take]; omega
      have h3 : (rootRs q n3).length = n3 := by unfold rootRs; simp
      rw [List.length_append, h3]
      have := Nat.mul_le_mul_right 2000 h2
      omega
     obtain ⟨L0, hL0⟩ : ∃ L, rootRs q n3 ++ (l.take i).flatMap (packRs x) = L := ⟨_, rfl⟩
     rw [hL0] at HV HNx hlen0
     have HPg : Hid (x.pack p = pk) := hpk
     have hpd := (HPk.out wr HO.out).1
     have HV1 : Hid (RuRow W0 wr u7 (L0 ++ depRs x p 0)) := by simpa [depRs, Hid] using HV.out
     have HO1 := HO
     clear hp hpx hmem h2 hrp hCp hnd hnc b4 b5 hpk hL0 HV
     go_wp2_with fail
     generalize wr = wb at *
     go_loopw [7, 45] (fun vo vi wr => Hid (Only (fun _ => False) W0 wr) ∧ ∃ k : Nat, vi = .int .i64 k ∧ k ≤ nd ∧ Hid (RuRow W0 wr vo (L0 ++ depRs x p k))) (fun _ v _ => nd - (RowKit.intOf v).toNat)
     case atStart => exact ⟨HO1, 0, rfl, Nat.zero_le _, HV1⟩
     case round =>
      clear HV1 HO HO1
      obtain ⟨HO, k, rfl, hk, HV⟩ := hrel
      by_cases ck : k < nd
      ·have hd2 := HD.out wr HO.out
       rw [← HNd.out] at hd2
       obtain ⟨b', off', he', -, -⟩ := hd2.at (by have := HNd.out; omega)
       subst he'
       obtain ⟨d, hdd⟩ : ∃ d, pk.deps[k]? = some d := ⟨_, List.getElem?_eq_getElem (by rw [HNd.out]; exact ck)⟩
       obtain ⟨cs7, -, hr7, hC7⟩ := hd2.get hdd
       obtain ⟨c1, c2, rfl, hS1, hS2, -⟩ := hC7
       obtain ⟨p1, p2, d1, d2, e1, -, -, -⟩ := hS1.cells
       obtain ⟨p3, p4, d3, d4, e2, -, -, -⟩ := hS2.cells
       rw [e1, e2] at hr7
       have HR7 := Lib.hid (show wr.rangeAt b' (off' + k * 7) [_, _, _, _, _, _, _] from hr7)
       have ewk : IntKind.i64.wrap ((k : Int) + 1) = (k : Int) + 1 := by rw [IntKind.wrap_i64]; omega
       have HSn : Hid (L0 ++ depRs x p (k + 1) = (L0 ++ depRs x p k) ++ [⟨2, p, k, d.line⟩]) := by rw [depRs_succ, HPg.out, List.getD_eq_getElem?_getD, hdd, ← List.append_assoc]; exact rfl
       have hlen : (L0 ++ depRs x p k).length ≤ 3100000 := by rw [List.length_append]; unfold depRs; simp; omega
       obtain ⟨L, hL⟩ : ∃ L, L0 ++ depRs x p k = L := ⟨_, rfl⟩
       rw [hL] at HV hlen HSn
       obtain ⟨au, cu, hu, -, -⟩ : ∃ au cu, u7 = .slice au L.length cu ∧ L.length ≤ cu ∧ cu ≤ maxLen := own_slice HV.out.1
       subst hu
       clear hd2 hdd hr7 hS1 hS2 hL e1 e2
       go_wp2_with (first | (refine wpList_load_mid rfl 72 (.tmp 48) rfl b' (off' + k * 7) rfl _ _ HR7.out Try.underlying72 rfl (by kernel_rfl) ?_) | (at_builtin; go_must (refine wpAR (cs := RuleD.cells ⟨2, p, k, d.line⟩) slRule rfl (.tmp 50) (.tmp 56) rfl rfl rfl rfl (rangeAt_new (cs := RuleD.cells ⟨2, p, k, d.line⟩) (by simp)) (RuleD.one _) (own_only HV.out.1 (((Only.refl (fun _ => False) _).alloc _).alloc _) (fun _ _ f => f)) (by omega) (by decide) ?_)))
       intro v' w2 s1 s2 s3
       have HV2 : Hid (RuRow W0 w2 v' (L0 ++ depRs x p (k + 1))) := by
        rw [HSn.out]
        exact RuRow.app HV.out (by have := HO.out.size; simp; omega) s1 s3
       have HO2 := Lib.hid (((HO.out.alloc _).alloc _).trans s2 fun k hk => .inr (HV.out.2 k hk))
       obtain ⟨g6, c6', rfl, -, -, -⟩ := s3
       clear s1 s2 HV
       go_wp2_with fail
       go_roundw
       case rel => exact ⟨HO2, k + 1, by first | rfl | go_num, by omega, HV2⟩
       case measure => simp [RowKit.intOf] <;> omega
      ·obtain rfl : nd = k := by omega
       clear hk ck
       have hpd2 := (HPk.out wr HO.out).2
       obtain ⟨k0', -⟩ := HBox.out wr HO.out
       have hlen1 : (L0 ++ depRs x p nd).length ≤ 3010000 := by rw [List.length_append]; unfold depRs; simp; omega
       obtain ⟨L1, hL1⟩ : ∃ L, L0 ++ depRs x p nd = L := ⟨_, rfl⟩
       rw [hL1] at HV HNx hlen1
       have HV1 : Hid (RuRow W0 wr u7 (L1 ++ conRs x p 0)) := by simpa [conRs, Hid] using HV.out
       have HO1 := HO
       clear hL1 HV
       go_wp2_with fail
       generalize wr = wc at *
       go_loopw [7, 66] (fun vo vi wr => Hid (Only (fun _ => False) W0 wr) ∧ ∃ k : Nat, vi = .int .i64 k ∧ k ≤ nc ∧ Hid (RuRow W0 wr vo (L1 ++ conRs x p k))) (fun _ v _ => nc - (RowKit.intOf v).toNat)
       case atStart => exact ⟨HO1, 0, rfl, Nat.zero_le _, HV1⟩
       case round =>
        clear HV1 HO HO1
        obtain ⟨HO, k, rfl, hk, HV⟩ := hrel
        by_cases ck : k < nc
        ·have hd2 := HCn.out wr HO.out
         rw [← HNc.out] at hd2
         obtain ⟨b', off', he', -, -⟩ := hd2.at (by have := HNc.out; omega)
         subst he'
         obtain ⟨d, hdd⟩ : ∃ d, pk.cons[k]? = some d := ⟨_, List.getElem?_eq_getElem (by rw [HNc.out]; exact ck)⟩
         obtain ⟨cs7, -, hr7, hC7⟩ := hd2.get hdd
         obtain ⟨c1, c2, rfl, hS1, hS2, -⟩ := hC7
         obtain ⟨p1, p2, d1, d2, e1, -, -, -⟩ := hS1.cells
         obtain ⟨p3, p4, d3, d4, e2, -, -, -⟩ := hS2.cells
         rw [e1, e2] at hr7
         have HR7 := Lib.hid (show wr.rangeAt b' (off' + k * 7) [_, _, _, _, _, _, _] from hr7)
         have ewk : IntKind.i64.wrap ((k : Int) + 1) = (k : Int) + 1 := by rw [IntKind.wrap_i64]; omega
         have HSn : Hid (L1 ++ conRs x p (k + 1) = (L1 ++ conRs x p k) ++ [⟨3, p, k, d.line⟩]) := by rw [conRs_succ, HPg.out, List.getD_eq_getElem?_getD, hdd, ← List.append_assoc]; exact rfl
         have hlen : (L1 ++ conRs x p k).length ≤ 3100000 := by rw [List.length_append]; unfold conRs; simp; omega
         obtain ⟨L, hL⟩ : ∃ L, L1 ++ conRs x p k = L := ⟨_, rfl⟩
         rw [hL] at HV hlen HSn
         obtain ⟨au, cu, hu, -, -⟩ : ∃ au cu, u7 = .slice au L.length cu ∧ L.length ≤ cu ∧ cu ≤ maxLen := own_slice HV.out.1
         subst hu
         clear hd2 hdd hr7 hS1 hS2 hL e1 e2
         go_wp2_with (first | (refine wpList_load_mid rfl 97 (.tmp 69) rfl b' (off' + k * 7) rfl _ _ HR7.out Try.underlying97 rfl (by kernel_rfl) ?_) | (at_builtin; go_must (refine wpAR (cs := RuleD.cells ⟨3, p, k, d.line⟩) slRule rfl (.tmp 71) (.tmp 77) rfl rfl rfl rfl (rangeAt_new (cs := RuleD.cells ⟨3, p, k, d.line⟩) (by simp)) (RuleD.one _) (own_only HV.out.1 (((Only.refl (fun _ => False) _).alloc _).alloc _) (fun _ _ f => f)) (by omega) (by decide) ?_)))
         intro v' w2 s1 s2 s3
         have HV2 : Hid (RuRow W0 w2 v' (L1 ++ conRs x p (k + 1))) := by
          rw [HSn.out]
          exact RuRow.app HV.out (by have := HO.out.size; simp; omega) s1 s3
         have HO2 := Lib.hid (((HO.out.alloc _).alloc _).trans s2 fun k hk => .inr (HV.out.2 k hk))
         obtain ⟨g6, c6', rfl, -, -, -⟩ := s3
         clear s1 s2 HV
         go_wp2_with fail
         go_roundw
         case rel => exact ⟨HO2, k + 1, by first | rfl | go_num, by omega, HV2⟩
         case measure => simp [RowKit.intOf] <;> omega
        ·obtain rfl : nc = k := by omega
         have HV2 : Hid (RuRow W0 wr u7 (rootRs q n3 ++ (l.take (i + 1)).flatMap (packRs x))) := by rw [HNx.out]; exact HV.out
         go_wp2_with fail
         go_roundw
         case rel => exact ⟨HO, i + 1, by first | rfl | go_num, by omega, HV2⟩
         case measure => simp [RowKit.intOf] <;> omega
    ·obtain rfl : nl = i := by omega
     obtain ⟨au, cu, hu, -, -⟩ : ∃ au cu, u7 = .slice au (rootRs q n3 ++ (l.take nl).flatMap (packRs x)).length cu ∧ _ ∧ _ := own_slice HV.out.1
     clear hu
     go_wp2_with fail
     go_ret
     refine ⟨_, rfl, ?_, HOB.out.same HO.out⟩
     have h1 := HV.out
     rw [List.take_of_length_le (Nat.le_of_eq NL.out)] at h1
     have e1 : rulesOf x q l = rootRs q n3 ++ l.flatMap (packRs x) := by unfold rulesOf; rw [N3.out]
     rw [e1]
     exact ⟨h1.1, fun k hk => by have := h1.2 k hk; have := HOB.out.size; omega⟩
end
end Go.Proofs.Ytbapkcnfacklaaa
