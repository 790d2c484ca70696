/- choice.Ground: Choices, the walk. -/
import Derived.Test.YtbapkcnfacklaaaCh4
set_option linter.unusedVariables false
namespace Go.Proofs.Ytbapkcnfacklaaa
open Go.RowKit
structure MidRec (x : RecD) : Prop where
 packs : x.packs.length ≤ 1000
 rels : ∀ p ∈ x.packs, p.rels.length ≤ 1000
 vars : ∀ p ∈ x.packs, p.vars.length ≤ 1000
 vals : ∀ p ∈ x.packs, ∀ v ∈ p.vars, v.values.length ≤ 1000
theorem zI : InI64 0 := ⟨by decide, by decide⟩
theorem takeI_succ {l : List Nat} {i p : Nat} (h : l[i]? = some p) : l.take (i + 1) = l.take i ++ [p] := by
 obtain ⟨hlt, rfl⟩ := List.getElem?_eq_some_iff.1 h
 rw [List.take_succ_eq_append_getElem hlt]
section
variable {w : World} {gt gb : Tag} {c bt bb Bs : Nat} {G : GrV} {T : Tab} {B : Bld}
set_option maxRecDepth 100000 in
set_option maxHeartbeats 4000000 in
theorem Choices_gr (H : GrAt w gt gb c bt bb G T B) {x : RecD} (hx : RecC Bs w [G.x1, G.x2] x) {l : List Nat} (hl : Ints w G.l (intsOf l)) (hlt : ∀ p ∈ l, p < x.packs.length) (hm : MidRec x) (hBs : ∀ k, Mine gt k ∨ Mine gb k → Bs ≤ k) (hBw : Bs ≤ w.heap.size) (hlen : l.length ≤ 1000) :
  Calls Try.prog 10 #[.pointer (some ⟨c, 0, none⟩)] w fun e w' => e = .returned (.tuple #[]) ∧ GrTo w gt gb c bt bb G (TB.choices (T, B) x l).1 (TB.choices (T, B) x l).2 w' := by
 have hTok : T.Ok := by obtain ⟨V, hV⟩ := H.tab; exact ⟨hV.lim, hV.len⟩
 have HP := Lib.hid (Places_gr H hl (by unfold intsOf; rw [List.length_map]; omega))
 have q0 : w.cell? ⟨c, 0, none⟩ = some G.x1 := by rw [cell_block H.blk]; rfl
 have H0 := Lib.hid H
 obtain ⟨v1, v2, e12, h1, -⟩ := hx
 simp only [List.cons.injEq, and_true] at e12
 obtain ⟨e1, -⟩ := e12
 obtain ⟨ao, cap, e2, -, -⟩ := h1.shape
 obtain ⟨n1, hn1⟩ : ∃ n, x.packs.length = n := ⟨_, rfl⟩
 rw [e1, e2, hn1] at q0
 rw [e2, hn1] at h1
 have R1 := Lib.hid h1
 have N1 := Lib.hid hn1
 have HM := Lib.hid hm
 have HTok := Lib.hid hTok
 have HBs := Lib.hid hBs
 have HLt : Hid (∀ p ∈ l, p < n1) := by rw [← hn1]; exact hlt
 have hn1000 : n1 ≤ 1000 := by rw [← hn1]; exact hm.packs
 obtain ⟨nl, hnl⟩ : ∃ n, l.length = n := ⟨_, rfl⟩
 rw [hnl] at hlen
 have HNl := Lib.hid hnl
 have HPl : Hid ((intsOf l).length = nl) := by unfold intsOf; rw [List.length_map]; exact hnl
 have hc : c < w.heap.size := lt_block H.blk
 -- the cell of the recipe, later on
 have HX : Hid (∀ W gt' gb', GrAt W gt' gb' c bt bb G T B ∨ True → Only (fun k => Mine gt k ∨ Mine gb k) w W → W.cell? ⟨c, 0, none⟩ = some (.slice ao n1 cap)) := fun W _ _ _ hW => by
  rw [World.cell?_of_block (w := w) (hW.block c hc (by rintro (h | h); exact h H0.out.tc; exact h H0.out.tc'))]
  exact q0
 clear H hl hlt hm hBs hTok h1 e1 e2 hn1 hnl q0
 go_enter Try.func10, Try.ntmps10
 go_wp2_with fail
 refine HP.out.mono ?_
 rintro e w1 ⟨vp, rfl, r1, r2, r3⟩
 have HI : Hid (Ints w1 vp (intsOf l)) := Ints.of_own r1 fun z hz => by
  obtain ⟨i, hi, rfl⟩ := List.mem_map.1 hz
  have := HLt.out i hi
  exact ⟨by omega, by omega⟩
 have H1 := Lib.hid (H0.out.only0 r3)
 have HO1 := Lib.hid r3
 have HNm : Hid (NotM gt gb vp (intsOf l)) := fun _ k hk => by
  obtain ⟨V, hV⟩ := H0.out.tab
  obtain ⟨U, hU⟩ := H0.out.bld
  have hk2 := r2 k (by obtain ⟨a2, c2, rfl, -, -⟩ := own_slice r1; cases a2 with | none => cases hk | some ad => exact hk)
  constructor
  ·unfold Mine; rw [hV.fresh k hk2]; simp
  ·unfold Mine; rw [hU.fresh k hk2]; simp
 obtain ⟨ap, cp, rfl, -, -⟩ := own_slice r1
 rw [HPl.out] at HI HNm ⊢
 have HG1 : Hid (GrTo w1 gt gb c bt bb G (TB.choices (T, B) x (l.take 0)).1 (TB.choices (T, B) x (l.take 0)).2 w1) := GrTo.refl H1.out
 clear r1 r2 r3 HP
 go_wp2_with fail
 go_loopw [15] (fun vi wr => ∃ i : Nat, vi = .int .i64 i ∧ i ≤ nl ∧ Hid (GrTo w1 gt gb c bt bb G (TB.choices (T, B) x (l.take i)).1 (TB.choices (T, B) x (l.take i)).2 wr)) (fun v _ => nl - (RowKit.intOf v).toNat)
 case atStart => exact ⟨0, rfl, Nat.zero_le _, HG1⟩
 case round =>
  clear HG1
  obtain ⟨i, rfl, hi, HR⟩ := hrel
  by_cases ci : i < nl
  ·obtain ⟨S, hS⟩ : ∃ S, TB.choices (T, B) x (l.take i) = S := ⟨_, rfl⟩
   have hSok : S.1.Ok := by rw [← hS]; exact TB.choices_ok HTok.out _ _
   rw [hS] at HR
   have HS := Lib.hid hS
   obtain ⟨p, hp⟩ : ∃ p, l[i]? = some p := ⟨_, List.getElem?_eq_getElem (by rw [HNl.out]; exact ci)⟩
   have HNx : Hid (TB.choices (T, B) x (l.take (i + 1)) = S.pack p (x.pack p)) := by rw [takeI_succ hp, TB.choices_snoc, hS]; exact rfl
   have hpn : p < n1 := HLt.out p (List.mem_of_getElem? hp)
   obtain ⟨gt1, gb1, HG, A1, A1', O1⟩ := HR.out
   have hI2 := HI.out.mine2 HNm.out O1
   obtain ⟨bI, offI, eI, hcell⟩ := hI2.cellA (i := i) (by rw [HPl.out]; exact ci)
   subst eI
   have hgp : (intsOf l).getD i 0 = (p : Int) := by unfold intsOf; rw [List.getD_eq_getElem?_getD, List.getElem?_map, hp]; rfl
   rw [hgp] at hcell
   have ewi : IntKind.i64.wrap ((i : Int) + 1) = (i : Int) + 1 := by rw [IntKind.wrap_i64]; omega
   have Ow : Only (fun k => Mine gt k ∨ Mine gb k) w wr := (HO1.out.mono fun _ f => f.elim).same O1
   have qx := HX.out wr gt1 gb1 (.inr trivial) Ow
   have hKp : Kp Bs w wr := Ow.mono fun k hk => HBs.out k hk
   have hr1 := R1.out.keep PackC.keep hKp
   rw [← N1.out] at hr1
   obtain ⟨b, off, eb, -, -⟩ := hr1.at (by have := N1.out; omega)
   subst eb
   have hpx : x.packs[p]? = some (x.pack p) := by
    unfold RecD.pack
    rw [List.getD_eq_getElem?_getD, List.getElem?_eq_getElem (by rw [N1.out]; exact hpn)]; rfl
   obtain ⟨cs, -, hrp, hCp⟩ := hr1.get hpx
   obtain ⟨pk, hpk⟩ : ∃ pk, x.pack p = pk := ⟨_, rfl⟩
   have hmem : pk ∈ x.packs := by rw [← hpk]; exact List.mem_of_getElem? hpx
   rw [hpk] at hCp HNx
   obtain ⟨o1, o2, o3, o4, o5, o6, c1, c2, c3, c4, c5, c6, rfl, -, -, -, b2, -, -, -, -⟩ := hCp.cells
   have HRp := Lib.hid hrp
   have hrl := HM.out.rels pk hmem
   have hvl := HM.out.vars pk hmem
   have HVl := Lib.hid (HM.out.vals pk hmem)
   obtain ⟨nr, hnr⟩ : ∃ n, pk.rels.length = n := ⟨_, rfl⟩
   obtain ⟨nv, hnv⟩ : ∃ n, pk.vars.length = n := ⟨_, rfl⟩
   rw [hnr] at HRp hrl
   rw [hnv] at HRp b2 hvl
   have HNr := Lib.hid hnr
   have HNv := Lib.hid hnv
   -- the world behind the copy of the package
   obtain ⟨wB, hwB⟩ : ∃ wB, wB = wr.alloc (.cells #[.string pk.name, .int .i64 pk.line, .slice o1 nr c1, .slice o2 nv c2, .slice o3 pk.provides.length c3, .slice o4 pk.deps.length c4, .slice o5 pk.cons.length c5, .slice o6 pk.files.length c6] 58) := ⟨_, rfl⟩
   have oB : Only (fun _ => False) wr wB := by rw [hwB]; exact (Only.refl _ _).alloc _
   have HGB := HG.only0 oB
   have hfr : (gt1 wr.heap.size).1 = 0 ∧ (gb1 wr.heap.size).1 = 0 := by
    obtain ⟨V, hV⟩ := HG.tab
    obtain ⟨U, hU⟩ := HG.bld
    exact ⟨hV.fresh _ (Nat.le_refl _), hU.fresh _ (Nat.le_refl _)⟩
   have HPk : Hid (∀ W, Only (fun k => Mine gt1 k ∨ Mine gb1 k) wB W → W.cell? ⟨wr.heap.size, 2, none⟩ = some (.slice o1 nr c1) ∧ W.cell? ⟨wr.heap.size, 3, none⟩ = some (.slice o2 nv c2)) := fun W hW => by
    have b0 : wB.heap[wr.heap.size]? = some (.cells #[.string pk.name, .int .i64 pk.line, .slice o1 nr c1, .slice o2 nv c2, .slice o3 pk.provides.length c3, .slice o4 pk.deps.length c4, .slice o5 pk.cons.length c5, .slice o6 pk.files.length c6] 58) := by rw [hwB]; exact heap_alloc_new wr _
    have b1 := only_block b0 hW (by rintro (h | h); exact h hfr.1; exact h hfr.2)
    exact ⟨by rw [cell_block b1]; rfl, by rw [cell_block b1]; rfl⟩
   have HMW : Hid (∀ W, Only (fun k => Mine gt1 k ∨ Mine gb1 k) wB W → Only (fun k => Mine gt k ∨ Mine gb k) w1 W) := fun W hW => (O1.same (oB.mono fun _ f => f.elim)).mine2 A1 A1' hW
   have HVr : Hid (∀ W, Only (fun k => Mine gt1 k ∨ Mine gb1 k) wB W → RowT 2 VarC Bs W (.slice o2 nv c2) pk.vars) := fun W hW => b2.keep VarC.keep (((oB.mono fun _ f => f.elim).trans (G := fun k => Mine gt1 k ∨ Mine gb1 k) hW fun k hk => by
    rcases Nat.lt_or_ge k wr.heap.size with hlt | hge
    ·left
     have hs1 := HO1.out.size
     rcases Nat.lt_or_ge k w1.heap.size with h2 | h2
     ·refine HBs.out k ?_
      unfold Mine at hk ⊢
      rwa [A1 k h2, A1' k h2] at hk
     ·omega
    ·exact .inr hge : Kp Bs wr W))
   have HFin : Hid (∀ W, GrTo wB gt1 gb1 c bt bb G (S.pack p pk).1 (S.pack p pk).2 W → GrTo w1 gt gb c bt bb G (TB.choices (T, B) x (l.take (i + 1))).1 (TB.choices (T, B) x (l.take (i + 1))).2 W) := fun W h => by
    rw [HNx.out]
    exact GrTo.trans A1 A1' (O1.same (oB.mono fun _ f => f.elim)) h
   have HRg : Hid (RowG wB gt1 gb1 c bt bb G S.1 S.2 wB nilS []) := RowG.start (GrTo.refl HGB)
   clear HX hgp hI2 hKp hr1 hpx hrp hCp hmem b2 hnr hnv HG A1 A1' O1 Ow HGB hfr oB hp hS HR hpk
   go_wp2_with (refine wpList_load_mid rfl 58 (.tmp 25) rfl b (off + p * 8) rfl _ _ HRp.out Try.underlying58 rfl (by kernel_rfl) ?_)
   rw [← hwB]
   clear hwB
   generalize wr = wo at *
   obtain ⟨T1, hT1⟩ : ∃ T1, (S.1.num (nodeA p)).1 = T1 := ⟨_, rfl⟩
   obtain ⟨node, hnode⟩ : ∃ z, (S.1.num (nodeA p)).2 = z := ⟨_, rfl⟩
   have hnok := Tab.num_ok hSok (nodeA p)
   rw [hT1, hnode] at hnok
   obtain ⟨hT1ok, hnb⟩ := hnok
   have HNod := Lib.hid (RowG.num HRg.out (x := nodeA p) ⟨by simp [nodeA], ⟨by simp only [nodeA]; omega, by simp only [nodeA]; omega⟩, zI, zI⟩ node hnode)
   rw [hT1] at HNod
   have HT1 := Lib.hid hT1
   have HNode := Lib.hid hnode
   refine HNod.out.mono ?_
   rintro e w2 ⟨rfl, h2⟩
   have HG2 : Hid (RowG wB gt1 gb1 c bt bb G (T1.nums (relAs p 0)).1 S.2 w2 nilS (T1.nums (relAs p 0)).2) := h2
   clear HNod h2 hT1 hnode HRg
   have hpk2 := (HPk.out w2 (by obtain ⟨_, _, _, _, _, O, _⟩ := HG2.out; exact O)).1
   go_wp2_with fail
   go_loopw [6, 34] (fun v6 vk wr => ∃ k : Nat, vk = .int .i64 k ∧ k ≤ nr ∧ Hid (RowG wB gt1 gb1 c bt bb G (T1.nums (relAs p k)).1 S.2 wr v6 (T1.nums (relAs p k)).2)) (fun _ v _ => nr - (RowKit.intOf v).toNat)
   case atStart => exact ⟨0, rfl, Nat.zero_le _, HG2⟩
   case round =>
    clear HG2 hpk2
    obtain ⟨k, rfl, hk, HRow⟩ := hrel
    by_cases ck : k < nr
    ·obtain ⟨T2, hT2⟩ : ∃ T2, (T1.nums (relAs p k)).1 = T2 := ⟨_, rfl⟩
     obtain ⟨zs, hzs⟩ : ∃ zs, (T1.nums (relAs p k)).2 = zs := ⟨_, rfl⟩
     have hzl : zs.length = k := by rw [← hzs, Tab.nums_len]; unfold relAs; simp
     obtain ⟨r, hr⟩ : ∃ r, (T2.num (relA p k)).2 = r := ⟨_, rfl⟩
     have hsn : T1.nums (relAs p (k + 1)) = ((T2.num (relA p k)).1, zs ++ [r]) := by rw [relAs_succ, Tab.nums_snoc, hT2, hzs, hr]
     rw [hT2, hzs] at HRow
     have HSn := Lib.hid hsn
     have HNum := Lib.hid (RowG.num HRow.out (x := relA p k) ⟨by simp [relA], ⟨by simp only [relA]; omega, by simp only [relA]; omega⟩, ⟨by simp only [relA]; omega, by simp only [relA]; omega⟩, zI⟩ r hr)
     obtain ⟨au, cu, hu, -, -⟩ : ∃ au cu, u6 = .slice au zs.length cu ∧ zs.length ≤ cu ∧ cu ≤ maxLen := by obtain ⟨_, _, _, _, _, _, R, _⟩ := HRow.out; exact own_slice R
     subst hu
     have ewk : IntKind.i64.wrap ((k : Int) + 1) = (k : Int) + 1 := by rw [IntKind.wrap_i64]; omega
     have hzk : zs.length ≤ 1000 := by omega
     clear hT2 hzs hsn hr hzl
     go_wp2_with fail
     refine HNum.out.mono ?_
     rintro e w5 ⟨rfl, h5⟩
     have H5 := Lib.hid h5
     have hown : w5.ownsRow 0 3 1 (.slice au zs.length cu) zs.length (zs.map cI) := by obtain ⟨_, _, _, _, _, _, R, _⟩ := h5; exact R
     have HOwn := Lib.hid hown
     clear h5 hown HNum
     go_wp2_with (at_builtin; go_must (refine wpA1 (u := .int .i64 r) slInt rfl (.tmp 37) (.tmp 43) rfl rfl rfl (cell_new0 _ _ _) rfl (own_only HOwn.out ((Only.refl (fun _ => False) _).alloc _) (fun _ _ f => f)) (by omega) (by decide) ?_))
     intro v' w6 s1 s2 s3
     have HRow2 : Hid (RowG wB gt1 gb1 c bt bb G (T1.nums (relAs p (k + 1))).1 S.2 w6 v' (T1.nums (relAs p (k + 1))).2) := by
      rw [HSn.out]
      exact RowG.app H5.out ((Only.refl (fun _ => False) w5).alloc _) s1 s2 s3
     obtain ⟨g6, c6', rfl, -, -, -⟩ := s3
     clear s1 s2 H5 HOwn HRow
     go_wp2_with fail
     go_roundw
     case rel => exact ⟨k + 1, by first | rfl | go_num, by omega, HRow2⟩
     case measure => simp [RowKit.intOf] <;> omega
    ·obtain rfl : nr = k := by omega
     clear hk ck
     obtain ⟨zok, zb⟩ := Tab.nums_ok (relAs p nr) hT1ok
     have zl : (T1.nums (relAs p nr)).2.length = nr := by rw [Tab.nums_len]; unfold relAs; simp
     have HOne := Lib.hid (RowG.one HRow.out zb (by rw [zl]; omega) node hnb)
     have HE0 : Hid ((TB.row (T1, S.2) node (relAs p nr)) = ((T1.nums (relAs p nr)).1, S.2.one node (T1.nums (relAs p nr)).2)) := rfl
     obtain ⟨au, cu, hu, -, -⟩ : ∃ au cu, u6 = .slice au nr cu ∧ nr ≤ cu ∧ cu ≤ maxLen := by obtain ⟨_, _, _, _, _, _, R, _⟩ := HRow.out; rw [zl] at R; exact own_slice R
     subst hu
     clear zb
     go_wp2_with fail
     refine HOne.out.mono ?_
     rintro e w3 ⟨rfl, h3⟩
     obtain ⟨S1, hS1⟩ : ∃ S1, TB.row (T1, S.2) node (relAs p nr) = S1 := ⟨_, rfl⟩
     have hS1ok : S1.1.Ok := by rw [← hS1]; exact zok
     have HG3 : Hid (GrTo wB gt1 gb1 c bt bb G (S1.vars node p pk.vars 0).1 (S1.vars node p pk.vars 0).2 w3) := by rw [← hS1]; exact h3
     have HFin2 : Hid (∀ W, GrTo wB gt1 gb1 c bt bb G (S1.vars node p pk.vars nv).1 (S1.vars node p pk.vars nv).2 W → GrTo w1 gt gb c bt bb G (TB.choices (T, B) x (l.take (i + 1))).1 (TB.choices (T, B) x (l.take (i + 1))).2 W) := fun W h => by
      refine HFin.out W ?_
      unfold TB.pack
      rw [HT1.out, HNode.out, HNr.out, HNv.out, hS1]
      exact h
     have hpk3 := (HPk.out w3 (by obtain ⟨_, _, _, _, _, O⟩ := HG3.out; exact O)).2
     clear h3 HOne HE0 HRow zl zok hS1 HFin HNx
     go_wp2_with fail
     generalize w3 = wq at *
     go_loopw [53] (fun vj wr => ∃ j : Nat, vj = .int .i64 j ∧ j ≤ nv ∧ Hid (GrTo wB gt1 gb1 c bt bb G (S1.vars node p pk.vars j).1 (S1.vars node p pk.vars j).2 wr)) (fun v _ => nv - (RowKit.intOf v).toNat)
     case atStart => exact ⟨0, rfl, Nat.zero_le _, HG3⟩
     case round =>
      clear HG3 hpk3
      obtain ⟨j, rfl, hj, HG⟩ := hrel
      by_cases cj : j < nv
      ·obtain ⟨S2, hS2⟩ : ∃ S2, S1.vars node p pk.vars j = S2 := ⟨_, rfl⟩
       have hS2ok : S2.1.Ok := by rw [← hS2]; exact TB.vars_ok hS1ok _ _ _ _
       rw [hS2] at HG
       have HV := HVr.out wr (by obtain ⟨_, _, _, _, _, O⟩ := HG.out; exact O)
       rw [← HNv.out] at HV
       obtain ⟨b2, off2, e2, -, -⟩ := HV.at (by have := HNv.out; omega)
       subst e2
       obtain ⟨vd, hvd⟩ : ∃ vd, pk.vars[j]? = some vd := ⟨_, List.getElem?_eq_getElem (by rw [HNv.out]; exact cj)⟩
       obtain ⟨cs2, -, hr2, hC2⟩ := HV.get hvd
       obtain ⟨vv, rfl, -, hvv⟩ := hC2
       obtain ⟨av, cv, rfl, -, -⟩ := hvv.shape
       have hvn : vd.values.length ≤ 1000 := HVl.out vd (List.mem_of_getElem? hvd)
       obtain ⟨nk, hnk⟩ : ∃ n, vd.values.length = n := ⟨_, rfl⟩
       rw [hnk] at hr2 hvn
       have HR2 := Lib.hid hr2
       have hgd : pk.vars.getD j default = vd := by rw [List.getD_eq_getElem?_getD, hvd]; rfl
       have HNx : Hid (S1.vars node p pk.vars (j + 1) = S2.row node (valAs p j nk)) := by show TB.row _ _ _ = _; rw [hS2, hgd, hnk]
       have ewj : IntKind.i64.wrap ((j : Int) + 1) = (j : Int) + 1 := by rw [IntKind.wrap_i64]; omega
       obtain ⟨wV, hwV⟩ : ∃ wV, wV = wr.alloc (.cells #[.string vd.name, .slice av nk cv] 83) := ⟨_, rfl⟩
       have oV : Only (fun _ => False) wr wV := by rw [hwV]; exact (Only.refl _ _).alloc _
       obtain ⟨gt2, gb2, HGr, A2, A2', O2⟩ := HG.out
       have HGV := HGr.only0 oV
       have hfr2 : (gt2 wr.heap.size).1 = 0 ∧ (gb2 wr.heap.size).1 = 0 := by
        obtain ⟨V, hV⟩ := HGr.tab
        obtain ⟨U, hU⟩ := HGr.bld
        exact ⟨hV.fresh _ (Nat.le_refl _), hU.fresh _ (Nat.le_refl _)⟩
       have hvc : wV.cell? ⟨wr.heap.size, 1, none⟩ = some (.slice av nk cv) := by
        have b0 : wV.heap[wr.heap.size]? = some (.cells #[.string vd.name, .slice av nk cv] 83) := by rw [hwV]; exact heap_alloc_new wr _
        rw [cell_block b0]; rfl
       have HFin3 : Hid (∀ W, GrTo wV gt2 gb2 c bt bb G (S2.row node (valAs p j nk)).1 (S2.row node (valAs p j nk)).2 W → GrTo wB gt1 gb1 c bt bb G (S1.vars node p pk.vars (j + 1)).1 (S1.vars node p pk.vars (j + 1)).2 W) := fun W h => by
        rw [HNx.out]
        exact GrTo.trans A2 A2' (O2.same (oV.mono fun _ f => f.elim)) h
       have HRg : Hid (RowG wV gt2 gb2 c bt bb G (S2.1.nums (valAs p j 0)).1 S2.2 wV nilS (S2.1.nums (valAs p j 0)).2) := RowG.start (GrTo.refl HGV)
       clear HV hvd hr2 hvv hnk hgd HNx oV HGr A2 A2' O2 HGV hfr2 hS2 HG
       go_wp2_with (refine wpList_load_mid rfl 83 (.tmp 56) rfl b2 (off2 + j * 2) rfl _ _ HR2.out Try.underlying83 rfl (by kernel_rfl) ?_)
       rw [← hwV]
       clear hwV hvc
       generalize wr = wm at *
       go_loopw [10, 61] (fun v6 vk wr => ∃ k : Nat, vk = .int .i64 k ∧ k ≤ nk ∧ Hid (RowG wV gt2 gb2 c bt bb G (S2.1.nums (valAs p j k)).1 S2.2 wr v6 (S2.1.nums (valAs p j k)).2)) (fun _ v _ => nk - (RowKit.intOf v).toNat)
       case atStart => exact ⟨0, rfl, Nat.zero_le _, HRg⟩
       case round =>
        clear HRg
        obtain ⟨k, rfl, hk, HRow⟩ := hrel
        by_cases ck : k < nk
        ·obtain ⟨T2, hT2⟩ : ∃ T2, (S2.1.nums (valAs p j k)).1 = T2 := ⟨_, rfl⟩
         obtain ⟨zs, hzs⟩ : ∃ zs, (S2.1.nums (valAs p j k)).2 = zs := ⟨_, rfl⟩
         have hzl : zs.length = k := by rw [← hzs, Tab.nums_len]; unfold valAs; simp
         obtain ⟨r, hr⟩ : ∃ r, (T2.num (valA p j k)).2 = r := ⟨_, rfl⟩
         have hsn : S2.1.nums (valAs p j (k + 1)) = ((T2.num (valA p j k)).1, zs ++ [r]) := by rw [valAs_succ, Tab.nums_snoc, hT2, hzs, hr]
         rw [hT2, hzs] at HRow
         have HSn := Lib.hid hsn
         have HNum := Lib.hid (RowG.num HRow.out (x := valA p j k) ⟨by simp [valA], ⟨by simp only [valA]; omega, by simp only [valA]; omega⟩, ⟨by simp only [valA]; omega, by simp only [valA]; omega⟩, ⟨by simp only [valA]; omega, by simp only [valA]; omega⟩⟩ r hr)
         obtain ⟨au, cu, hu, -, -⟩ : ∃ au cu, u10 = .slice au zs.length cu ∧ zs.length ≤ cu ∧ cu ≤ maxLen := by obtain ⟨_, _, _, _, _, _, R, _⟩ := HRow.out; exact own_slice R
         subst hu
         have ewk : IntKind.i64.wrap ((k : Int) + 1) = (k : Int) + 1 := by rw [IntKind.wrap_i64]; omega
         have hzk : zs.length ≤ 1000 := by omega
         clear hT2 hzs hsn hr hzl
         go_wp2_with fail
         refine HNum.out.mono ?_
         rintro e w5 ⟨rfl, h5⟩
         have H5 := Lib.hid h5
         have hown : w5.ownsRow 0 3 1 (.slice au zs.length cu) zs.length (zs.map cI) := by obtain ⟨_, _, _, _, _, _, R, _⟩ := h5; exact R
         have HOwn := Lib.hid hown
         clear h5 hown HNum
         go_wp2_with (at_builtin; go_must (refine wpA1 (u := .int .i64 r) slInt rfl (.tmp 64) (.tmp 71) rfl rfl rfl (cell_new0 _ _ _) rfl (own_only HOwn.out ((Only.refl (fun _ => False) _).alloc _) (fun _ _ f => f)) (by omega) (by decide) ?_))
         intro v' w6 s1 s2 s3
         have HRow2 : Hid (RowG wV gt2 gb2 c bt bb G (S2.1.nums (valAs p j (k + 1))).1 S2.2 w6 v' (S2.1.nums (valAs p j (k + 1))).2) := by
          rw [HSn.out]
          exact RowG.app H5.out ((Only.refl (fun _ => False) w5).alloc _) s1 s2 s3
         obtain ⟨g6, c6', rfl, -, -, -⟩ := s3
         clear s1 s2 H5 HOwn HRow
         go_wp2_with fail
         go_roundw
         case rel => exact ⟨k + 1, by first | rfl | go_num, by omega, HRow2⟩
         case measure => simp [RowKit.intOf] <;> omega
        ·obtain rfl : nk = k := by omega
         clear hk ck
         obtain ⟨-, zb⟩ := Tab.nums_ok (valAs p j nk) hS2ok
         have zl : (S2.1.nums (valAs p j nk)).2.length = nk := by rw [Tab.nums_len]; unfold valAs; simp
         have HOne := Lib.hid (RowG.one HRow.out zb (by rw [zl]; omega) node hnb)
         obtain ⟨au, cu, hu, -, -⟩ : ∃ au cu, u10 = .slice au nk cu ∧ nk ≤ cu ∧ cu ≤ maxLen := by obtain ⟨_, _, _, _, _, _, R, _⟩ := HRow.out; rw [zl] at R; exact own_slice R
         subst hu
         clear zb zl
         go_wp2_with fail
         refine HOne.out.mono ?_
         rintro e w3 ⟨rfl, h3⟩
         have HNext := Lib.hid (HFin3.out w3 h3)
         clear h3 HOne HRow
         go_wp2_with fail
         go_roundw
         case rel => exact ⟨j + 1, by first | rfl | go_num, by omega, HNext⟩
         case measure => simp [RowKit.intOf] <;> omega
      ·obtain rfl : nv = j := by omega
       have HEnd := Lib.hid (HFin2.out wr HG.out)
       go_wp2_with fail
       go_roundw
       case rel => exact ⟨i + 1, by first | rfl | go_num, by omega, HEnd⟩
       case measure => simp [RowKit.intOf] <;> omega
  ·obtain rfl : nl = i := by omega
   go_wp2_with fail
   go_end0
   refine ⟨rfl, ?_⟩
   have := HR.out
   rw [List.take_of_length_le (Nat.le_of_eq HNl.out)] at this
   exact GrTo.after HO1.out this
end
end Go.Proofs.Ytbapkcnfacklaaa
