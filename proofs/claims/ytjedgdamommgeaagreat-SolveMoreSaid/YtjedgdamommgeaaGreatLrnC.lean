/- Lrn9 Lrn10 Lrn11, in one text. -/
import Derived.Test.YtjedgdamommgeaaGreatLrnB
import Derived.Laws.ResultCell
set_option linter.unusedVariables false
namespace Go.Proofs.YtjedgdamommgeaaGreat
open Go.RowKit
open Tr
section
variable {w : World} {g : Tag} {b : Nat} {V : TrV} {T : Trail}
theorem only_setRow (w : World) (g : Nat) (cs : Array Value) : Only (fun k => k = g) w (w.setRow g cs) :=
 ⟨rfl, rfl, rfl, by simp [World.setRow], fun k hk hn => by
  unfold World.setRow
  simp only [Array.getElem?_modify]
  rw [if_neg (fun e => hn e.symm)]⟩
theorem ret_from {Q : Ending → World → Prop} {a : Act} {W : World} {B : Nat} {cs : Array Value} {x : Bool} (hp : a.tmps.getD 4 undef = .pointer (some ⟨B, 0, none⟩)) (h5 : a.tmps.getD 5 undef = .bool x) (hd : a.defers = []) (hs : cs.size = 3) (hg : W.heap[B]? = some (.cells cs 110 (0, 0)))
  (h : Q (.returned (.tuple #[.agg cs, .bool x])) W) : bodyPost Tryz.prog Tryz.f74 Q Exit.ret a W := by
 refine bodyPost_ret (v := .tuple #[.agg cs, .bool x]) ?_ hd h
 rw [results_cell_tmp rfl, hp, h5]
 simp only [asAddr, Sem.run_pure, Result.andThen_ok]
 rw [run_loadVar_row W B 110 110 cs (0, 0) _ hg Tryz.underlying110 rfl (by rw [hs]; kernel_rfl)]
 rfl
theorem StAt.setTop {bs bi bm : Nat} {top : Int} {s : Stu} (h : StAt w bs bi bm b top s) (t : Int) : StAt (w.setCell ⟨bs, 1, none⟩ (cI t)) bs bi bm b t s ∧ Only (fun k => k = bs) w (w.setCell ⟨bs, 1, none⟩ (cI t)) := by
 have ho : Only (fun k => k = bs) w (w.setCell ⟨bs, 1, none⟩ (cI t)) := Only.setCell (Only.refl (fun k => k = bs) w) (p := ⟨bs, 1, none⟩) (.inl rfl) _
 exact ⟨⟨by rw [set_block h.blk]; rfl, h.in_.only ho (fun e => h.in_.notCells h.blk e.symm), h.met.only ho (fun e => h.met.notCells h.blk e.symm), h.ne⟩, ho⟩
theorem top_snoc (T : Trail) (l : List Int) (x : Int) : T.top (l ++ [x]) = max (T.top l) (T.lvl x) := by
 unfold Trail.top; rw [List.foldl_append]; rfl
theorem goes_kg (o : Ok T) (top : Int) : ∀ (l : List Int) (s : Stu), Kg T.n s → Kg T.n (T.goes top s l).1
 | [], s, h => h
 | x :: r, s, h => by
  by_cases h1 : s.f (Cnf.absW x) = 0 ∨ T.lvl (Cnf.absW x) ≠ top
  ·rw [goes_skip h1]; exact goes_kg o top r s h
  ·by_cases h2 : s.many = 1
   ·rw [goes_one h1 h2]; exact h
   ·cases h3 : T.reasonL x with
    | none => rw [goes_none h1 h2 h3]; exact h
    | some l =>
     rw [goes_some h1 h2 h3]
     exact goes_kg o top r _ ((h.del _).takes o.n T top l (reasonL_ok o h3).1)
theorem own_lit1 (w : World) (x : Int) : (w.alloc (.cells #[cI x] 3)).ownsRow 0 3 1 (.slice (some ⟨w.heap.size, 0, none⟩) 1 1) 1 [cI x] :=
 World.ownsRow_lit (base := 0) (e := 3) (size := 1) w #[cI x] 1 (Nat.zero_le _) (by unfold maxLen; omega) (by simp)
structure FrAt (w11 : World) (n6 bo : Nat) (va : Value) (first : Int) (L : List Int) (T : Trail) (j : Nat) (vc : Value) (wr : World) : Prop where
 blk : wr.heap[bo]? = some (.cells #[vc, cI ((L.take j).foldl (fun b l => max b (T.lvl l)) 0), va] 110 (0, 0))
 row : wr.ownsRow 0 3 1 vc (j + 1) ((first :: L.take j).map cI)
 new : ∀ k, vc.ownBlock = some k → k = n6 ∨ w11.heap.size ≤ k
 on : Only (fun k => k = n6 ∨ k = bo) w11 wr
def LesTo (w : World) (r : Option (Option Less)) (e : Ending) (w' : World) : Prop :=
 Only (fun _ => False) w w' ∧
 match r with
 | none => e = .returned (.tuple #[.agg #[nilS, cI 0, nilS], .bool false])
 | some none => e = .returned (.tuple #[.agg #[nilS, cI 0, nilS], .bool true])
 | some (some x) => ∃ vc va, e = .returned (.tuple #[.agg #[vc, cI x.back, va], .bool true]) ∧ w'.ownsRow 0 3 1 vc x.clause.length (x.clause.map cI) ∧ w'.ownsRow 0 3 1 va x.atoms.length (x.atoms.map cI) ∧ (∀ k, vc.ownBlock = some k → w.heap.size ≤ k) ∧ (∀ k, va.ownBlock = some k → w.heap.size ≤ k)
set_option maxRecDepth 100000 in
set_option maxHeartbeats 3200000 in
theorem From_any (H : TrAt w g b V T) (o : Ok T) (k : Int) :
  Calls Tryz.prog 74 #[.pointer (some ⟨b, 0, none⟩), .int .i64 k] w (LesTo w (T.lesson k)) := by
 obtain ⟨wa, hwa⟩ : ∃ wa, w.alloc (.cells #[.pointer (some ⟨b, 0, none⟩)] 57) = wa := ⟨_, rfl⟩
 obtain ⟨w0, hw0⟩ : ∃ w0, wa.alloc (.cells #[nilS, cI 0, nilS] 110) = w0 := ⟨_, rfl⟩
 obtain ⟨bp, hbp⟩ : ∃ bp, w.heap.size = bp := ⟨_, rfl⟩
 have hsa : wa.heap.size = bp + 1 := by rw [← hwa, ← hbp]; simp
 have oa : Only (fun _ => False) w wa := by rw [← hwa]; exact (Only.refl _ _).alloc _
 have o0 : Only (fun _ => False) w w0 := by rw [← hw0]; exact oa.alloc _
 have hs0 : w0.heap.size = bp + 2 := by rw [← hw0]; simp [hsa]
 have h1 : w0.cell? ⟨bp, 0, none⟩ = some (.pointer (some ⟨b, 0, none⟩)) := by
  rw [← hw0]; exact cell_keep (by rw [← hwa, ← hbp]; exact cell_newE _ _ _ _ rfl) ((Only.refl (fun _ => False) _).alloc _) (fun f => f)
 have hr0 : w0.heap[bp + 1]? = some (.cells #[nilS, cI 0, nilS] 110 (0, 0)) := by
  rw [← hw0, ← hsa]; exact heap_alloc_new _ _
 have hcl := prop_Clause_any (H.only0 o0) o k
 have HCl := Lib.hid hcl
 have HH := Lib.hid (H.only0 o0)
 have HFr := Lib.hid H.fresh
 have HOk := Lib.hid o
 have HO0 := Lib.hid o0
 have HR0 := Lib.hid hr0
 have HC1 := Lib.hid h1
 clear hcl H o oa o0 hr0
 have heqn := slEq
 go_enter Tryz.func74, Tryz.ntmps74
 go_wp2_with fail
 refine HCl.out.mono ?_
 intro e w1 hq
 cases hc : T.clauseL k with
 | none =>
  skip
  rw [hc] at hq
  obtain ⟨rfl, rfl⟩ := hq
  have hres : T.lesson k = none := by unfold Trail.lesson; rw [hc]
  have HRes := Lib.hid hres
  clear hres hc HCl h1
  go_wp2_with (refine wpList_store_row rfl 110 (.tmp 4) (.tmp 25) rfl (bp + 1) #[nilS, cI 0, nilS] rfl rfl 110 #[nilS, cI 0, nilS] HR0.out (by kernel_rfl) rfl (by kernel_rfl) ?_)
  refine ret_from rfl rfl rfl rfl (setRow_heap _ _ _ _ _ _ HR0.out) ?_
  rw [HRes.out]
  exact ⟨HO0.out.trans (only_setRow _ _ _) (fun k hk => .inr (by omega)), rfl⟩
 | some c =>
  rw [hc] at hq
  obtain ⟨ao, cap, rfl, R1, N1, O1⟩ := hq
  obtain ⟨hl1, hl2⟩ := clauseL_ok HOk.out hc
  have hn := HOk.out.n
  have hi1 : ∀ y ∈ c, InI64 y := fun y hy => by have := hl1 y hy; unfold InI64; omega
  have hI1 := Ints.of_own R1 hi1
  have hcc : ∀ r, c.any (fun x => decide (0 ≤ T.val x)) = r → _ := fun r hr => ContainsFunc_int hI1 118 #[.pointer (some ⟨bp, 0, none⟩)] (fun x => decide (0 ≤ T.val x)) enter_From1 (fun y hy W oW => (From1_any ((HH.out.only0 O1).only0 oW) HOk.out bp (cell_keep HC1.out (O1.same oW) (fun f => f)) y (hi1 y hy)).mono fun _ _ ⟨he, hw⟩ => ⟨he, by rw [hw]; exact Only.refl _ _⟩) r hr
  have HO1 := Lib.hid O1
  have HI1 := Lib.hid hI1
  have HL1 := Lib.hid hl1
  have hcp1 := cell_keep HC1.out O1 (fun f => f)
  have hles : T.lesson k = if c.any (fun l => decide (0 ≤ T.val l)) then none else if T.top c = 0 then some none else match T.goes (T.top c) (T.takes (T.top c) Stu.new c) T.lits.reverse with | (_, none) => none | (s, some first) => some (some ⟨first :: T.others s first, (T.others s first).foldl (fun b l => max b (T.lvl l)) 0, sortI s.ms⟩) := by unfold Trail.lesson; rw [hc]; rfl
  have HLes := Lib.hid hles
  clear hles hc HCl h1 O1 hI1 hl1 R1
  cases hany : c.any (fun x => decide (0 ≤ T.val x))
  ·have hcf := hcc false hany
   have HCf := Lib.hid hcf
   have hles := HLes.out
   rw [hany] at hles
   simp only [Bool.false_eq_true, if_false] at hles
   have HLs := Lib.hid hles
   clear hcf hcc hany HLes hles
   go_wp2_with fail
   refine HCf.out.mono ?_
   rintro e w2 ⟨rfl, O2⟩
   have HO2 := Lib.hid (HO1.out.same O2)
   have hcp2 := cell_keep hcp1 O2 (fun f => f)
   have HI2 := Lib.hid (HI1.out.only0 O2)
   have HN1 := Lib.hid N1
   obtain ⟨wB, hwB⟩ : ∃ wB, w2.alloc (.map #[] 0) = wB := ⟨_, rfl⟩
   obtain ⟨wC, hwC⟩ : ∃ wC, wB.alloc (.map #[] 0) = wC := ⟨_, rfl⟩
   obtain ⟨bi, hbi⟩ : ∃ bi, w2.heap.size = bi := ⟨_, rfl⟩
   have hsB : wB.heap.size = bi + 1 := by rw [← hwB, ← hbi]; simp
   have hsC : wC.heap.size = bi + 2 := by rw [← hwC]; simp [hsB]
   obtain ⟨w4, hw4⟩ : ∃ w4, wC.alloc (.cells #[.pointer (some ⟨b, 0, none⟩), cI 0, .map (some bi), cI 0, .map (some (bi + 1))] 143) = w4 := ⟨_, rfl⟩
   have hm1 : (Instr.makeMap 138 none).run Tryz.prog w2 = .ok (.map (some bi)) wB := by rw [run_makeMap, hwB, hbi]
   have hm2 : (Instr.makeMap 138 none).run Tryz.prog wB = .ok (.map (some (bi + 1))) wC := by rw [run_makeMap, hwC, hsB]
   have oBC : Only (fun _ => False) wB wC := by rw [← hwC]; exact (Only.refl _ _).alloc _
   have o24 : Only (fun _ => False) w2 w4 := by rw [← hw4, ← hwC, ← hwB]; exact (((Only.refl _ _).alloc _).alloc _).alloc _
   have oC4 : Only (fun _ => False) wC w4 := by rw [← hw4]; exact (Only.refl _ _).alloc _
   have hst : StAt w4 (bi + 2) bi (bi + 1) b 0 Stu.new := ⟨by rw [← hw4, ← hsC]; exact heap_alloc_new _ _, by
     have h1 := IMap.made w2
     rw [hwB, hbi] at h1
     exact (h1.only0 oBC).only0 oC4, by
     have h1 := IMap.made wB
     rw [hwC, hsB] at h1
     exact h1.only0 oC4, by omega⟩
   have HSt := Lib.hid hst
   have hcp4 := cell_keep hcp2 o24 (fun f => f)
   have HO24 := Lib.hid o24
   have hsz2 : w0.heap.size ≤ bi := by rw [← hbi]; exact HO2.out.size
   obtain ⟨bs, hbs⟩ : ∃ bs, bi + 2 = bs := ⟨_, rfl⟩
   obtain ⟨bm, hbm⟩ : ∃ bm, bi + 1 = bm := ⟨_, rfl⟩
   rw [hbs, hbm] at HSt
   rw [hbm] at hw4 hm2
   clear N1 hst oBC o24 oC4 O2 HI1 HO1 hcp1 HCf
   go_wp2_with fail
   go_loopw [33] (fun v wr => ∃ j : Nat, v = .int .i64 j ∧ j ≤ c.length ∧ StAt wr bs bi bm b (T.top (c.take j)) Stu.new ∧ Only (fun k => k = bs) w4 wr) (fun v _ => c.length - (intOf v).toNat)
   case atStart => exact ⟨0, rfl, Nat.zero_le _, HSt.out, Only.refl _ _⟩
   case round =>
    obtain ⟨j, rfl, hj, hS, hO⟩ := hrel
    have HS := Lib.hid hS
    have HO := Lib.hid hO
    have o4r : Only (fun _ => False) w4 wr → True := fun _ => trivial
    have hO2r : Only (fun k => bi ≤ k) w2 wr := (HO24.out.mono fun _ f => f.elim).trans hO fun k hk => .inl (by omega)
    have hO2r' : Only (fun _ => False) w2 wr := hO2r.trans' fun k hk => by omega
    have HO2r := Lib.hid hO2r'
    have hcpr := cell_keep hcp4 hO (by intro e; omega)
    clear hS hO o4r hO2r hO2r' HSt
    by_cases cj : j < c.length
    ·skip
     obtain ⟨bl, ol, hao, _, hcs⟩ := (HI2.out.only0 HO2r.out).cells _ _ _ rfl (by omega)
     obtain rfl := Option.some.inj hao
     have qx := hcs j cj
     have hx := HI2.out.range' j
     have hsn := top_snoc T (c.take j) (c.getD j 0)
     rw [← take_snocI c j cj] at hsn
     obtain ⟨x, hxe⟩ : ∃ x, c.getD j 0 = x := ⟨_, rfl⟩
     rw [hxe] at qx hx hsn
     obtain ⟨q, hq⟩ : ∃ q, T.lvl x = q := ⟨_, rfl⟩
     rw [hq] at hsn
     obtain ⟨tp, htp⟩ : ∃ tp, T.top (c.take j) = tp := ⟨_, rfl⟩
     rw [htp] at hsn HS
     have ewj : IntKind.i64.wrap ((j : Int) + 1) = ((j + 1 : Nat) : Int) := by rw [IntWalk.i64_in _ (by omega)]; rfl
     have hlv : ∀ W, Only (fun _ => False) wr W → Calls Tryz.prog 115 #[.pointer (some ⟨b, 0, none⟩), .int .i64 x] W fun e w' => e = .returned (.int .i64 q) ∧ Only (fun _ => False) wr w' := fun W oW =>
      (learn_level_any (HH.out.only0 ((HO2.out.same HO2r.out).same oW)) HOk.out x hx q hq).mono fun _ _ ⟨he, ho⟩ => ⟨he, oW.same ho⟩
     have HLv := Lib.hid hlv
     have hk8 : ∀ W, Only (fun _ => False) wr W → W.cell? ⟨bs, 1, none⟩ = some (cI tp) ∧ W.cell? ⟨bp, 0, none⟩ = some (.pointer (some ⟨b, 0, none⟩)) ∧ W.frozen? ⟨bs, 1, none⟩ = false := fun W oW => ⟨(HS.out.only0 oW).c1, cell_keep hcpr oW (fun f => f), (HS.out.only0 oW).free 1⟩
     have HK8 := Lib.hid hk8
     have hS8 := hk8 wr.drew ((Only.refl _ _).drew)
     have hfin : ∀ W, Only (fun _ => False) wr W → StAt (W.setCell ⟨bs, 1, none⟩ (cI (max tp q))) bs bi bm b (T.top (c.take (j + 1))) Stu.new ∧ Only (fun k => k = bs) w4 (W.setCell ⟨bs, 1, none⟩ (cI (max tp q))) := fun W oW => by
      have h1 := (HS.out.only0 oW).setTop (max tp q)
      rw [hsn]
      exact ⟨h1.1, (HO.out.same (oW.mono fun _ f => f.elim)).trans h1.2 fun k hk => .inl hk⟩
     have HFin := Lib.hid hfin
     clear hcs hxe hsn hlv hk8 hq htp hx hfin
     go_wp2_with fail
     refine wp_region_G (n := 12) (E := fun i => i == 11) (S := fun w' => w'.cell? ⟨bs, 1, none⟩ = some (cI tp) ∧ w'.cell? ⟨bp, 0, none⟩ = some (.pointer (some ⟨b, 0, none⟩)) ∧ w'.frozen? ⟨bs, 1, none⟩ = false) (by kernel_rfl) rfl hS8 (fun hHeld => ?_)
     refine tqW (i := 0) (v := ?_) rfl (.inr (by assumption)) ?_ ?_
     rotate_left
     ·(intro w; go_simp <;> (try with_reducible rfl))
     try simp only [Act.put, zq1, zq3, zq4, zq5, zq6]
     refine tqW (i := 1) (v := ?_) rfl (.inr (by assumption)) ?_ ?_
     rotate_left
     ·(intro w; go_simp <;> (try with_reducible rfl))
     try simp only [Act.put, zq1, zq2, zq3, zq4, zq5, zq6]
     refine tqW (i := 2) (v := ?_) rfl (.inr (by assumption)) ?_ ?_
     rotate_left
     ·(intro w; go_simp <;> (try with_reducible rfl))
     try simp only [Act.put, zq1, zq2, zq3, zq4, zq5, zq6]
     refine tqW (i := 3) (v := ?_) rfl (.inr (by assumption)) ?_ ?_
     rotate_left
     ·(intro w; go_simp <;> (try with_reducible rfl))
     try simp only [Act.put, zq1, zq2, zq3, zq4, zq5, zq6]
     refine tqK (i := 4) (v := ?_) rfl ?_ ?_
     rotate_left
     ·(intro w hSw; (try dsimp only at hSw); go_simp <;> (try with_reducible rfl))
     try simp only [Act.put, zq1, zq2, zq3, zq4, zq5, zq6]
     refine tqK (i := 5) (v := ?_) rfl ?_ ?_
     rotate_left
     ·(intro w hSw; (try dsimp only at hSw); go_simp <;> (try with_reducible rfl))
     try simp only [Act.put, zq1, zq2, zq3, zq4, zq5, zq6]
     refine tqW (i := 6) (v := ?_) rfl (.inr (by assumption)) ?_ ?_
     rotate_left
     ·(intro w; go_simp <;> (try with_reducible rfl))
     try simp only [Act.put, zq1, zq2, zq3, zq4, zq5, zq6]
     refine wpAnyG_ready (rs := [7]) (by kernel_rfl) (by simp) ?_
     refine AllReadyG.cons (i := 7) rfl (fun K hK => ?_) ?_
     ·(go_simp; refine (HLv.out _ (by repeat (first | exact Only.refl _ _ | apply Only.drew | apply Only.alloc | apply Only.drewN))).mono ?_; rintro e w5 ⟨rfl, o5⟩; try go_wp2_with fail)
      refine hK.out _ _ ?_ (fun hHeld => ?_)
      ·(try dsimp only) <;> (exact HK8.out _ o5)
      clear hK K
      try simp only [Act.put, zq1, zq2, zq3, zq4, zq5, zq6]
      refine tqW (i := 8) (v := ?_) rfl (.inr (by assumption)) ?_ ?_
      rotate_left
      ·(intro w; go_simp <;> (try with_reducible rfl))
      try simp only [Act.put, zq1, zq2, zq3, zq4, zq5, zq6]
      refine tqW (i := 9) (v := ?_) rfl (.inr (by assumption)) ?_ ?_
      rotate_left
      ·(intro w; go_simp <;> (try with_reducible rfl))
      try simp only [Act.put, zq1, zq2, zq3, zq4, zq5, zq6]
      refine tqW (i := 10) (v := ?_) rfl (.inr (by assumption)) ?_ ?_
      rotate_left
      ·(intro w; go_simp <;> (try with_reducible rfl))
      try simp only [Act.put, zq1, zq2, zq3, zq4, zq5, zq6]
      refine wpAnyG_ready (rs := [11]) (by kernel_rfl) (by simp) ?_
      refine AllReadyG.late (i := 11) rfl (by kernel_rfl) (fun K hK => ?_) ?_
      ·(obtain ⟨s1, s2, s3⟩ := hHeld; go_simp)
       refine hK.out _ _ ?_
       clear hK K
       try simp only [Act.put, zq1, zq2, zq3, zq4, zq5, zq6]
       refine wpAnyG_done (by kernel_rfl) ?_ _
       obtain ⟨hz1, hz2⟩ := HFin.out w5 o5
       have HZ := Lib.hid hz1
       have HZo := Lib.hid hz2
       clear hz1 hz2 s1 s2 s3 o5
       go_wp2_with fail
       go_roundw
       case rel => exact ⟨j + 1, by first | rfl | go_num, by omega, HZ.out, HZo.out⟩
       case measure => simp [intOf] <;> omega
      exact AllReadyG.nil
     exact AllReadyG.nil
    ·have hjl : j = c.length := by omega
     have hS := HS.out
     rw [hjl, List.take_of_length_le (Nat.le_refl _)] at hS
     have HSt2 := Lib.hid hS
     have HOwr := Lib.hid (HO2.out.same HO2r.out)
     have hr0 := only_block HR0.out HOwr.out (fun f => f)
     have HRr := Lib.hid hr0
     obtain ⟨tp, htp⟩ : ∃ tp, T.top c = tp := ⟨_, rfl⟩
     have hls := HLs.out
     rw [htp] at HSt2 hls
     have HLs2 := Lib.hid hls
     have c1 := HSt2.out.c1
     have hltb : ∀ k, StF bs bi bm k → bi ≤ k := fun k hk => by rcases hk with rfl | rfl | rfl <;> omega
     have hwi : w.heap.size ≤ bi := by rw [hs0] at hsz2; omega
     clear hS HS hr0 htp hls hcp4 HLs HO
     subst hjl
     by_cases ht0 : tp = 0
     ·skip
      subst ht0
      have hres : T.lesson k = some none := by rw [HLs2.out]; rfl
      have HRes := Lib.hid hres
      clear hres
      go_wp2_with (refine wpList_store_row rfl 110 (.tmp 4) (.tmp 54) rfl (bp + 1) #[nilS, cI 0, nilS] rfl rfl 110 #[nilS, cI 0, nilS] HRr.out (by kernel_rfl) rfl (by kernel_rfl) ?_)
      refine ret_from rfl rfl rfl rfl (setRow_heap _ _ _ _ _ _ HRr.out) ?_
      rw [HRes.out]
      exact ⟨(HO0.out.same HOwr.out).trans (only_setRow _ _ _) (fun k hk => .inr (by omega)), rfl⟩
     ·have dt : (tp == 0) = false := by rw [beq_eq_false_iff_ne]; exact ht0
      have hls := HLs2.out
      rw [if_neg ht0] at hls
      have hoff : Off g bs bi bm := ⟨HFr.out _ (by omega), HFr.out _ (by omega), HFr.out _ (by omega)⟩
      have hNc : 0 < c.length → ∀ k, Value.blk (.slice (some ao) c.length cap) = some k → ¬ StF bs bi bm k := fun hp k hk hs => by
       have h1 := HI2.out.lt hp hk
       have h2 := hltb k hs
       omega
      have htk := takes_any (HH.out.only0 HOwr.out) HOk.out hoff HSt2.out (HI2.out.only0 HO2r.out) hNc (by omega) (by show (0 : Nat) ≤ _; omega) (by show (0 : Nat) ≤ _; omega)
      have hkg5 : Kg T.n (T.takes tp Stu.new c) := Kg.takes hn T tp c ⟨fun x hx => (by cases hx), fun x hx => (by cases hx)⟩ HL1.out
      obtain ⟨s5, hs5⟩ : ∃ s5, T.takes tp Stu.new c = s5 := ⟨_, rfl⟩
      rw [hs5] at htk hkg5 hls
      have hkg6 := goes_kg HOk.out tp T.lits.reverse s5 hkg5
      obtain ⟨s6, o6, hgo⟩ : ∃ s6 o6, T.goes tp s5 T.lits.reverse = (s6, o6) := ⟨_, _, rfl⟩
      rw [hgo] at hkg6 hls
      simp only at hls hkg6
      have HTk := Lib.hid htk
      have HKg5 := Lib.hid hkg5
      have HKg6 := Lib.hid hkg6
      have HGo := Lib.hid hgo
      have HLs3 := Lib.hid hls
      clear htk hNc hkg5 hkg6 hgo hls hs5 HLs2
      go_wp2_with fail
      refine HTk.out.mono ?_
      rintro e w5 ⟨rfl, hS5, hO5⟩
      have hO25 : Only (fun k => bi ≤ k) w2 w5 := (HO2r.out.mono fun _ f => f.elim).trans hO5 fun k hk => .inl (hltb k hk)
      have HO25 : Hid (Only (fun _ => False) w2 w5) := Lib.hid (hO25.trans' fun k hk => by omega)
      have HH5 := Lib.hid (HH.out.only0 (HO2.out.same HO25.out))
      have hgg := goes_any HH5.out HOk.out hoff hS5 HKg5.out
      rw [HGo.out] at hgg
      have HGg := Lib.hid hgg
      clear hS5 hO5 hO25 hgg HTk c1 HKg5
      go_wp2_with fail
      refine HGg.out.mono ?_
      rintro e w6 ⟨rfl, hS6, hO6⟩
      have hO26 : Only (fun k => bi ≤ k) w2 w6 := (HO25.out.mono fun _ f => f.elim).trans hO6 fun k hk => .inl (hltb k hk)
      have HO26 : Hid (Only (fun _ => False) w2 w6) := Lib.hid (hO26.trans' fun k hk => by omega)
      have HO06 := Lib.hid (HO2.out.same HO26.out)
      have hr6 := only_block HR0.out HO06.out (fun f => f)
      have HR6 := Lib.hid hr6
      have HS6 := Lib.hid hS6
      clear hO26 hO6 hr6 HGg hS6
      cases o6 with
      | none =>
       skip
       have hres : T.lesson k = none := by rw [HLs3.out]
       have HRes := Lib.hid hres
       clear hres
       simp only [Option.getD_none, Option.isSome_none]
       go_wp2_with (refine wpList_store_row rfl 110 (.tmp 4) (.tmp 65) rfl (bp + 1) #[nilS, cI 0, nilS] rfl rfl 110 #[nilS, cI 0, nilS] HR6.out (by kernel_rfl) rfl (by kernel_rfl) ?_)
       refine ret_from rfl rfl rfl rfl (setRow_heap _ _ _ _ _ _ HR6.out) ?_
       rw [HRes.out]
       exact ⟨(HO0.out.same HO06.out).trans (only_setRow _ _ _) (fun k hk => .inr (by omega)), rfl⟩
      | some first =>
       skip
       simp only [Option.getD_some, Option.isSome_some]
       obtain ⟨n6, hn6⟩ : ∃ n6, w6.heap.size = n6 := ⟨_, rfl⟩
       obtain ⟨wg, hwg⟩ : ∃ wg, w6.alloc (.cells #[.int .i64 first] 3) = wg := ⟨_, rfl⟩
       have hog : Only (fun _ => False) w6 wg := by rw [← hwg]; exact (Only.refl _ _).alloc _
       have hsg : wg.heap.size = n6 + 1 := by rw [← hwg, ← hn6]; simp
       have hlg : wg.ownsRow 0 3 1 (.slice (some ⟨n6, 0, none⟩) 1 1) 1 [cI first] := by rw [← hwg, ← hn6]; exact own_lit1 w6 first
       have c4 := (HS6.out.only0 hog).c4
       have hms := keys_len HKg6.out.ms HS6.out.met.nd
       have hke := keys_any wg bm
       have hmet : IMap wg bm s6.ms s6.mf := (HS6.out.only0 hog).met
       have hso := sorted_any hmet (by omega)
       have HKe := Lib.hid hke
       have HSo := Lib.hid hso
       have HOg := Lib.hid hog
       have HLg := Lib.hid hlg
       have hls := HLs3.out
       simp only at hls
       have HLs4 := Lib.hid hls
       have hz6 : bi ≤ n6 := by rw [← hbi, ← hn6]; exact HO26.out.size
       clear hmet hke hso hog hlg hls HLs3
       go_wp2_with fail
       refine HKe.out.mono ?_
       rintro e w' ⟨rfl, rfl⟩
       go_wp2_with fail
       refine HSo.out.mono ?_
       rintro e w8 ⟨va, rfl, R8, N8, O8⟩
       obtain ⟨aa, ca, rfl, -, -⟩ := own_slice R8
       obtain ⟨bo, hbo⟩ : ∃ bo, w8.heap.size = bo := ⟨_, rfl⟩
       obtain ⟨w9, hw9⟩ : ∃ w9, w8.alloc (.cells #[nilS, cI 0, nilS] 110) = w9 := ⟨_, rfl⟩
       have hb9 : w9.heap[bo]? = some (.cells #[nilS, cI 0, nilS] 110 (0, 0)) := by rw [← hw9, ← hbo]; exact heap_alloc_new _ _
       have HB9 := Lib.hid hb9
       have hs9 : w9.heap.size = bo + 1 := by rw [← hw9, ← hbo]; simp
       have ho89 : Only (fun _ => False) w8 w9 := by rw [← hw9]; exact (Only.refl _ _).alloc _
       have HO8 := Lib.hid O8
       have HO89 := Lib.hid ho89
       have HR8 := Lib.hid R8
       have HN8 := Lib.hid N8
       have hgo : n6 + 1 ≤ bo := by rw [← hbo, ← hsg]; exact O8.size
       clear O8 ho89 R8 N8 HKe HSo c4 hb9
       go_wp2_with (refine wpList_store_row rfl 110 (.tmp 12) (.tmp 74) rfl bo #[.slice (some ⟨n6, 0, none⟩) 1 1, cI 0, .slice aa (sortI s6.ms).length ca] rfl rfl 110 #[nilS, cI 0, nilS] HB9.out (by kernel_rfl) rfl (by first | kernel_rfl | rfl | simp [Value.oneCell']) ?_)
       obtain ⟨va, hva⟩ : ∃ va, Value.slice aa (sortI s6.ms).length ca = va := ⟨_, rfl⟩
       obtain ⟨w10, hw10⟩ : ∃ w10, w9.setRow bo #[.slice (some ⟨n6, 0, none⟩) 1 1, cI 0, .slice aa (sortI s6.ms).length ca] = w10 := ⟨_, rfl⟩
       have hb10 : w10.heap[bo]? = some (.cells #[.slice (some ⟨n6, 0, none⟩) 1 1, cI 0, va] 110 (0, 0)) := by rw [← hw10, ← hva]; exact setRow_heap _ _ _ _ _ _ HB9.out
       have ho910 : Only (fun k => k = bo) w9 w10 := by rw [← hw10]; exact only_setRow _ _ _
       rw [hw10]
       have ho610 : Only (fun _ => False) w6 w10 := (HOg.out.same (HO8.out.same HO89.out)).trans ho910 fun k hk => .inr (by omega)
       have hog10 : Only (fun k => k = bo) wg w10 := ((HO8.out.same HO89.out).mono fun _ f => f.elim).same ho910
       have HO610 := Lib.hid ho610
       have H10 := Lib.hid ((HH.out.only0 HO06.out).only0 ho610)
       have hot := others_any H10.out HOk.out (HS6.out.only0 ho610) HKg6.out first
       have hLi : ∀ x ∈ T.others s6 first, InI64 x := fun x hx => by
        unfold Trail.others at hx
        obtain ⟨a, -, rfl⟩ := List.mem_map.1 (List.mem_filter.1 hx).1
        exact HS6.out.in_.val a
       have hLl : (T.others s6 first).length ≤ 65536 := by
        have h1 := keys_len HKg6.out.ks HS6.out.in_.nd
        have h2 := othersTo_len T s6 first (sortI s6.ks)
        rw [← others_to, sortI_len] at h2
        omega
       have HLi := Lib.hid hLi
       have HOt := Lib.hid hot
       have hva10 : w10.ownsRow 0 3 1 va (sortI s6.ms).length ((sortI s6.ms).map cI) := by
        rw [← hva]
        exact own_only (own_only HR8.out HO89.out (fun _ _ f => f)) ho910 fun k hk e => by have := (HR8.out.lt k hk).2; omega
       have hvc10 : w10.ownsRow 0 3 1 (.slice (some ⟨n6, 0, none⟩) 1 1) 1 [cI first] := own_only HLg.out hog10 fun k hk e => by simp [Value.ownBlock] at hk; omega
       have hvaN : ∀ k, va.ownBlock = some k → n6 + 1 ≤ k ∧ k < bo := fun k hk => by
        rw [← hva] at hk
        have h1 := HN8.out k hk
        have h2 := (HR8.out.lt k hk).2
        omega
       have hcp10 := cell_keep HC1.out (HO06.out.same ho610) (fun f => f)
       have hs10 : bo + 1 ≤ w10.heap.size := by rw [← hs9]; exact ho910.size
       have hr10 := only_block HR6.out ho610 (fun f => f)
       have HR10 := Lib.hid hr10
       clear hw10 ho910 ho610 hog10 hot hLi hr10 HB9 HO8 HO89 HR8 HN8 hw9
       go_wp2_with fail
       refine HOt.out.mono ?_
       rintro e w11 ⟨vL, rfl, R11, N11, O11⟩
       obtain ⟨L, hL⟩ : ∃ L, T.others s6 first = L := ⟨_, rfl⟩
       rw [hL] at R11 HLi hLl HLs4
       have hI11 := Ints.of_own R11 HLi.out
       have hNL : 0 < L.length → ∀ k, Value.blk vL = some k → ¬ (k = n6 ∨ k = bo) := fun _ k hk => by
        have := N11 k (blk_ownI R11 hk)
        omega
       obtain ⟨al, cl, rfl, -, -⟩ := hI11.shape
       have HI11 := Lib.hid hI11
       have HNL := Lib.hid hNL
       have HO11 := Lib.hid O11
       have hfr : FrAt w11 n6 bo va first L T 0 (.slice (some ⟨n6, 0, none⟩) 1 1) w11 := ⟨only_block hb10 O11 (fun f => f), own_only hvc10 O11 (fun _ _ f => f), fun k hk => by simp [Value.ownBlock] at hk; exact .inl hk.symm, Only.refl _ _⟩
       have HFr0 := Lib.hid hfr
       have hva11 := own_only hva10 O11 (fun _ _ f => f)
       have HVa := Lib.hid hva11
       have hcp11 := cell_keep hcp10 O11 (fun f => f)
       have HR11 := Lib.hid (only_block HR10.out O11 (fun f => f))
       have hs11 := O11.size
       have H11 := Lib.hid (H10.out.only0 O11)
       clear R11 N11 O11 hI11 hNL hfr hva11 hva10 hvc10 hb10 hcp10 HOt
       go_wp2_with fail
       go_loopw [79] (fun v wr => ∃ (j : Nat) (vc : Value), v = .int .i64 j ∧ j ≤ L.length ∧ FrAt w11 n6 bo va first L T j vc wr) (fun v _ => L.length - (intOf v).toNat)
       case atStart => exact ⟨0, _, rfl, Nat.zero_le _, HFr0.out⟩
       case round =>
        clear HFr0
        obtain ⟨j, vc, rfl, hj, hF⟩ := hrel
        have HF := Lib.hid hF
        clear hF
        have hd01 : ¬ (bp + 1 = n6 ∨ bp + 1 = bo) := by omega
        have hd0 : ¬ (bp = n6 ∨ bp = bo) := by omega
        by_cases cj : j < L.length
        ·skip
         obtain ⟨bl, ol, hao, _, hcs⟩ := (HI11.out.only' HF.out.on HNL.out).cells _ _ _ rfl (by omega)
         obtain rfl := hao
         have qx := hcs j cj
         have hx := HI11.out.range' j
         have hts := take_snocI L j cj
         obtain ⟨x, hxe⟩ : ∃ x, L.getD j 0 = x := ⟨_, rfl⟩
         rw [hxe] at qx hx hts
         have HTS := Lib.hid hts
         obtain ⟨q, hq⟩ : ∃ q, T.lvl x = q := ⟨_, rfl⟩
         obtain ⟨bk, hbk⟩ : ∃ bk, (L.take j).foldl (fun b l => max b (T.lvl l)) 0 = bk := ⟨_, rfl⟩
         have hblk := HF.out.blk
         rw [hbk] at hblk
         have hbk2 : (L.take (j + 1)).foldl (fun b l => max b (T.lvl l)) 0 = max bk q := by rw [hts, List.foldl_append, hbk, ← hq]; rfl
         have HBk2 := Lib.hid hbk2
         have HBlk := Lib.hid hblk
         have ewj : IntKind.i64.wrap ((j : Int) + 1) = ((j + 1 : Nat) : Int) := by rw [IntWalk.i64_in _ (by omega)]; rfl
         have hrow := HF.out.row
         have HRow := Lib.hid hrow
         have b0 := cell_block hblk 0
         have hcpr := cell_keep hcp11 HF.out.on hd0
         have HHr := Lib.hid (H11.out.only HF.out.on (fun k hk h => hk (HFr.out k (by rcases h with rfl | rfl <;> omega))))
         have HQ := Lib.hid hq
         have HX := Lib.hid hx
         clear hcs hxe hts hq hbk hblk hbk2 hrow hx
         go_wp2_with (at_builtin; go_must (refine wpA1 (u := .int .i64 x) slInt rfl (.tmp 84) (.tmp 86) rfl rfl rfl (cell_new0 _ _ _) rfl (own_only HRow.out ((Only.refl (fun _ => False) _).alloc _) (fun _ _ f => f)) (by omega) (by decide) ?_))
         intro v2 w5 s1 s2 s3
         have hb5 : w5.heap[bo]? = some (.cells #[vc, cI bk, va] 110 (0, 0)) := only_block (alloc_block HBlk.out _) s2 (fun e => by have := HF.out.new bo e; omega)
         have O5 : Only (fun k => k = n6 ∨ k = bo) w11 w5 := (HF.out.on.alloc _).trans s2 (fun k hk => (HF.out.new k hk).elim (fun h => .inl (.inl h)) .inr)
         have hs5 := HF.out.on.size
         have hn2 : ∀ k, v2.ownBlock = some k → k = n6 ∨ w11.heap.size ≤ k := by
          obtain ⟨g2, cap2, rfl, -, -, h⟩ := s3
          intro k hk
          simp [Value.ownBlock] at hk
          subst hk
          rcases h with h | h
          ·exact HF.out.new _ h
          ·simp at h; omega
         obtain ⟨g2, cap2, rfl, -, -, -⟩ := s3
         have s1' : w5.ownsRow 0 3 1 (.slice (some ⟨g2, 0, none⟩) (j + 1 + 1) cap2) (j + 1 + 1) ((first :: L.take (j + 1)).map cI) := by
          rw [HTS.out]
          simpa [cI, List.map_take] using s1
         obtain ⟨w5s, hw5s⟩ : ∃ w5s, w5.setCell ⟨bo, 0, none⟩ (.slice (some ⟨g2, 0, none⟩) (j + 1 + 1) cap2) = w5s := ⟨_, rfl⟩
         have hb5s : w5s.heap[bo]? = some (.cells #[.slice (some ⟨g2, 0, none⟩) (j + 1 + 1) cap2, cI bk, va] 110 (0, 0)) := by rw [← hw5s, set_block hb5]; rfl
         have o55 : Only (fun k => k = bo) w5 w5s := by rw [← hw5s]; exact Only.setCell (Only.refl (fun k => k = bo) w5) (p := ⟨bo, 0, none⟩) (.inl rfl) _
         have O5s : Only (fun k => k = n6 ∨ k = bo) w11 w5s := O5.trans o55 fun k hk => .inl (.inr hk)
         have hnb : ∀ k, Value.ownBlock (.slice (some ⟨g2, 0, none⟩) (j + 1 + 1) cap2) = some k → ¬ k = bo := fun k hk e => by have := hn2 k hk; omega
         have hrow5 := own_only s1' o55 hnb
         have q0 := cell_block hb5 0
         have f0 := free_block hb5 0
         have hH5 := H11.out.only O5s (fun k hk h => hk (HFr.out k (by rcases h with rfl | rfl <;> omega)))
         have hlv : ∀ W, Only (fun _ => False) w5s W → Calls Tryz.prog 115 #[.pointer (some ⟨b, 0, none⟩), .int .i64 x] W fun e w' => e = .returned (.int .i64 q) ∧ Only (fun _ => False) w5s w' := fun W oW =>
          (learn_level_any (hH5.only0 oW) HOk.out x HX.out q HQ.out).mono fun _ _ ⟨he, ho⟩ => ⟨he, oW.same ho⟩
         have HLv := Lib.hid hlv
         have hk8 : ∀ W, Only (fun _ => False) w5s W → W.cell? ⟨bo, 1, none⟩ = some (cI bk) ∧ W.cell? ⟨bp, 0, none⟩ = some (.pointer (some ⟨b, 0, none⟩)) ∧ W.frozen? ⟨bo, 1, none⟩ = false := fun W oW =>
          ⟨cell_block (only_block hb5s oW (fun f => f)) 1, cell_keep (cell_keep hcp11 O5s hd0) oW (fun f => f), free_block (only_block hb5s oW (fun f => f)) 1⟩
         have HK8 := Lib.hid hk8
         have hS8 := hk8 w5s.drew ((Only.refl _ _).drew)
         have hfin : ∀ W, Only (fun _ => False) w5s W → FrAt w11 n6 bo va first L T (j + 1) (.slice (some ⟨g2, 0, none⟩) (j + 1 + 1) cap2) (W.setCell ⟨bo, 1, none⟩ (cI (max bk q))) := fun W oW => by
          have o6 : Only (fun k => k = bo) W (W.setCell ⟨bo, 1, none⟩ (cI (max bk q))) := Only.setCell (Only.refl (fun k => k = bo) W) (p := ⟨bo, 1, none⟩) (.inl rfl) _
          exact ⟨by rw [set_block (only_block hb5s oW (fun f => f)), HBk2.out]; rfl, own_only (own_only hrow5 oW (fun _ _ f => f)) o6 hnb, hn2, (O5s.same (oW.mono fun _ f => f.elim)).trans o6 fun k hk => .inl (.inr hk)⟩
         have HFin := Lib.hid hfin
         clear s1 s2 s1' hb5 O5 hn2 hb5s o55 O5s hnb hrow5 hH5 hlv hk8 hfin qx b0 hcpr HRow HBlk HTS
         go_wp2_with fail
         refine wp_region_G (n := 8) (E := fun i => i == 7) (S := fun w' => w'.cell? ⟨bo, 1, none⟩ = some (cI bk) ∧ w'.cell? ⟨bp, 0, none⟩ = some (.pointer (some ⟨b, 0, none⟩)) ∧ w'.frozen? ⟨bo, 1, none⟩ = false) (by kernel_rfl) rfl hS8 (fun hHeld => ?_)
         refine tqW (i := 0) (v := ?_) rfl (.inr (by assumption)) ?_ ?_
         rotate_left
         ·(intro w; go_simp <;> (try with_reducible rfl))
         try simp only [Act.put, zq1, zq3, zq4, zq5, zq6]
         refine tqK (i := 1) (v := ?_) rfl ?_ ?_
         rotate_left
         ·(intro w hSw; (try dsimp only at hSw); go_simp <;> (try with_reducible rfl))
         try simp only [Act.put, zq1, zq2, zq3, zq4, zq5, zq6]
         refine tqK (i := 2) (v := ?_) rfl ?_ ?_
         rotate_left
         ·(intro w hSw; (try dsimp only at hSw); go_simp <;> (try with_reducible rfl))
         try simp only [Act.put, zq1, zq2, zq3, zq4, zq5, zq6]
         refine tqW (i := 3) (v := ?_) rfl (.inr (by assumption)) ?_ ?_
         rotate_left
         ·(intro w; go_simp <;> (try with_reducible rfl))
         try simp only [Act.put, zq1, zq2, zq3, zq4, zq5, zq6]
         refine wpAnyG_ready (rs := [4]) (by kernel_rfl) (by simp) ?_
         refine AllReadyG.cons (i := 4) rfl (fun K hK => ?_) ?_
         ·(go_simp; refine (HLv.out _ (by repeat (first | exact Only.refl _ _ | apply Only.drew | apply Only.alloc | apply Only.drewN))).mono ?_; rintro e w5 ⟨rfl, o5⟩; try go_wp2_with fail)
          refine hK.out _ _ ?_ (fun hHeld => ?_)
          ·(try dsimp only) <;> (exact HK8.out _ o5)
          clear hK K
          try simp only [Act.put, zq1, zq2, zq3, zq4, zq5, zq6]
          refine tqW (i := 5) (v := ?_) rfl (.inr (by assumption)) ?_ ?_
          rotate_left
          ·(intro w; go_simp <;> (try with_reducible rfl))
          try simp only [Act.put, zq1, zq2, zq3, zq4, zq5, zq6]
          refine tqW (i := 6) (v := ?_) rfl (.inr (by assumption)) ?_ ?_
          rotate_left
          ·(intro w; go_simp <;> (try with_reducible rfl))
          try simp only [Act.put, zq1, zq2, zq3, zq4, zq5, zq6]
          refine wpAnyG_ready (rs := [7]) (by kernel_rfl) (by simp) ?_
          refine AllReadyG.late (i := 7) rfl (by kernel_rfl) (fun K hK => ?_) ?_
          ·(obtain ⟨s1, s2, s3⟩ := hHeld; go_simp)
           refine hK.out _ _ ?_
           clear hK K
           try simp only [Act.put, zq1, zq2, zq3, zq4, zq5, zq6]
           refine wpAnyG_done (by kernel_rfl) ?_ _
           have hz := HFin.out w5 o5
           have HZ := Lib.hid hz
           clear hz s1 s2 s3 o5
           go_wp2_with fail
           go_roundw
           case rel => exact ⟨j + 1, _, by first | rfl | go_num, by omega, HZ.out⟩
           case measure => simp [intOf] <;> omega
          exact AllReadyG.nil
         exact AllReadyG.nil
        ·skip
         have hjl : j = L.length := by omega
         subst hjl
         subst hva
         have hblk := HF.out.blk
         have hrow := HF.out.row
         rw [List.take_of_length_le (Nat.le_refl _)] at hblk hrow
         obtain ⟨BK, hBK⟩ : ∃ BK, L.foldl (fun b l => max b (T.lvl l)) 0 = BK := ⟨_, rfl⟩
         rw [hBK] at hblk HLs4
         obtain ⟨av, cv, rfl, -, -⟩ := own_slice hrow
         have HBlk := Lib.hid hblk
         have HRow := Lib.hid hrow
         have hrr := only_block HR11.out HF.out.on hd01
         have HRr2 := Lib.hid hrr
         have hvr : wr.ownsRow 0 3 1 (.slice aa (sortI s6.ms).length ca) (sortI s6.ms).length ((sortI s6.ms).map cI) := own_only HVa.out HF.out.on fun k hk h => by
          have h1 := hvaN k hk
          rcases h with rfl | rfl <;> omega
         have HVr := Lib.hid hvr
         have hvn := fun k hk => hvaN k hk
         have HVn := Lib.hid hvn
         clear hblk hrow hrr hvr hvn hBK hvaN
         go_wp2_with (first
          | refine wpList_load_row rfl 110 (.tmp 12) rfl bo rfl 110 _ (0, 0) _ HBlk.out Tryz.underlying110 rfl (by kernel_rfl) ?_
          | refine wpList_store_row rfl 110 (.tmp 4) (.tmp 97) rfl (bp + 1) #[.slice av (L.length + 1) cv, cI BK, .slice aa (sortI s6.ms).length ca] rfl rfl 110 #[nilS, cI 0, nilS] HRr2.out (by kernel_rfl) rfl (by first | kernel_rfl | rfl | simp [Value.oneCell']) ?_)
         refine ret_from rfl rfl rfl rfl (setRow_heap _ _ _ _ _ _ HRr2.out) ?_
         rw [HLs4.out]
         have ho := only_setRow wr (bp + 1) #[.slice av (L.length + 1) cv, cI BK, .slice aa (sortI s6.ms).length ca]
         have hwn : w.heap.size ≤ n6 := by omega
         have hw11 : w.heap.size ≤ w11.heap.size := by omega
         refine ⟨((HO0.out.same (HO06.out.same (HO610.out.same HO11.out))).trans HF.out.on fun k hk => .inr (by rcases hk with rfl | rfl <;> omega)).trans ho fun k hk => .inr (by omega), _, _, rfl, own_only HRow.out ho fun k hk e => ?_, own_only HVr.out ho fun k hk e => ?_, fun k hk => ?_, fun k hk => ?_⟩
         ·have := HF.out.new k hk; omega
         ·have := HVn.out k hk; omega
         ·have := HF.out.new k hk; omega
         ·have := HVn.out k hk; omega
  ·skip
   have hcf := hcc true hany
   have HCf := Lib.hid hcf
   have hres : T.lesson k = none := by rw [HLes.out, if_pos hany]
   have HRes := Lib.hid hres
   clear hcf hcc hres hany HLes
   go_wp2_with fail
   refine HCf.out.mono ?_
   rintro e w2 ⟨rfl, O2⟩
   have hr2 := only_block HR0.out (HO1.out.same O2) (fun f => f)
   have HR2 := Lib.hid hr2
   have HO2 := Lib.hid (HO0.out.same (HO1.out.same O2))
   clear hr2 O2
   go_wp2_with (refine wpList_store_row rfl 110 (.tmp 4) (.tmp 25) rfl (bp + 1) #[nilS, cI 0, nilS] rfl rfl 110 #[nilS, cI 0, nilS] HR2.out (by kernel_rfl) rfl (by kernel_rfl) ?_)
   refine ret_from rfl rfl rfl rfl (setRow_heap _ _ _ _ _ _ HR2.out) ?_
   rw [HRes.out]
   exact ⟨HO2.out.trans (only_setRow _ _ _) (fun k hk => .inr (by omega)), rfl⟩
end
end Go.Proofs.YtjedgdamommgeaaGreat
namespace Go.Proofs.YtjedgdamommgeaaGreat
open Go.RowKit Go.Sort Go.Lib
open Tr
namespace Tr
def cfA (x y : Int) : Int := Lib.compareInt (Cnf.absW x) (Cnf.absW y)
theorem ltA (x y : Int) : ltOf cfA x y = decide (Cnf.absW x < Cnf.absW y) := by
 unfold ltOf cfA Lib.compareInt
 split
 ·simp_all
 ·split <;> simp_all <;> omega
theorem swoA : SWO (ltOf cfA) where
 irrefl x := by rw [ltA]; simp
 trans x y z h1 h2 := by rw [ltA, decide_eq_true_eq] at *; omega
 ntrans x y z h1 h2 := by rw [ltA, decide_eq_false_iff_not] at *; omega
def sortA (xs : List Int) : List Int := xs.mergeSort fun x y => !(ltOf cfA) y x
end Tr
theorem Why1_any (w : World) (x y : Int) : Calls Tryz.prog 117 #[.int .i64 x, .int .i64 y] w fun e w' => e = .returned (.int .i64 (cfA x y)) ∧ w' = w := by
 obtain ⟨ax, hax⟩ : ∃ a, Cnf.absW x = a := ⟨_, rfl⟩
 obtain ⟨ay, hay⟩ : ∃ a, Cnf.absW y = a := ⟨_, rfl⟩
 unfold cfA
 rw [hax, hay]
 have c1 := fun W => (Tryz.cmp_Compare_int ax ay W).mono fun _ _ h => (⟨h.1, h.2.symm⟩ : _ ∧ W = _)
 have a1 := fun W : World => learn_abs_any (w := W) x ax hax
 have a2 := fun W : World => learn_abs_any (w := W) y ay hay
 have C1 := Lib.hid c1
 have A1 := Lib.hid a1
 have A2 := Lib.hid a2
 clear c1 a1 a2 hax hay
 generalize Lib.compareInt ax ay = p at *
 go_enter Tryz.func117, Tryz.ntmps117
 go_wp2_with fail
 refine (A1.out _).mono ?_
 rintro e w1 ⟨rfl, rfl⟩
 go_wp2_with fail
 refine (A2.out _).mono ?_
 rintro e w1 ⟨rfl, rfl⟩
 go_wp2_with fail
 refine (C1.out _).mono ?_
 rintro e w1 ⟨rfl, rfl⟩
 go_wp2_with fail
 go_ret
 exact ⟨rfl, rfl⟩
theorem sortA_of {xs : List Int} (hd : ∀ x ∈ xs, ∀ y ∈ xs, Cnf.absW x = Cnf.absW y → x = y) {d' : Array Int} (hP : PermIn 0 xs.toArray.size xs.toArray d') (hSo : SortedIn (ltOf cfA) 0 xs.toArray.size d') : d' = (sortA xs).toArray := by
 obtain ⟨hsz, _, hperm⟩ := hP
 have e1 : d'.extract 0 xs.toArray.size = d' := by rw [← hsz]; exact Array.extract_size
 rw [e1, Array.extract_size] at hperm
 have hl : d'.toList = sortA xs := by
  refine List.Perm.eq_of_pairwise (le := fun x y => (!(ltOf cfA) y x) = true) ?_ ?_ ?_ (hperm.trans (List.mergeSort_perm _ _).symm)
  ·intro a b ha hb h1 h2
   simp only [Bool.not_eq_true', ltA, decide_eq_false_iff_not] at h1 h2
   refine hd a ?_ b ?_ (by omega)
   ·simpa using hperm.mem_iff.1 ha
   ·exact (List.mergeSort_perm _ _).mem_iff.1 hb
  ·rw [List.pairwise_iff_getElem]
   intro i j hi hj hij
   have hi' : i < d'.size := by simpa using hi
   have hj' : j < d'.size := by simpa using hj
   have := hSo i j (Nat.zero_le _) hij (by omega)
   rw [getElem!_pos d' j hj', getElem!_pos d' i hi'] at this
   simpa using this
  ·refine List.pairwise_mergeSort ?_ ?_ _
   ·intro a b c h1 h2
    simp only [Bool.not_eq_true'] at h1 h2 ⊢
    exact swoA.ntrans c b a h2 h1
   ·intro a b
    cases h : (ltOf cfA) b a with
    | false => simp
    | true =>
     have := h
     rw [ltA, decide_eq_true_eq] at this
     have h2 : (ltOf cfA) a b = false := by rw [ltA, decide_eq_false_iff_not]; omega
     simp [h2]
 rw [← hl]
theorem enter_Why1 : ∀ args w, (callFunc 117 args).run Tryz.prog w = .ok (.enter 117 args) w := enters_of Tryz.func117 (by kernel_rfl) rfl
theorem SortU_any {w : World} {v : Value} {xs : List Int} (h : w.ownsRow 0 3 1 v xs.length (xs.map cI)) (hb : xs.length ≤ 17592186043904) (hd : ∀ x ∈ xs, ∀ y ∈ xs, Cnf.absW x = Cnf.absW y → x = y) :
  Calls Tryz.prog 90 #[v, .func (.func 117) #[] #[]] w fun e w' => e = .returned (.tuple #[]) ∧ w'.ownsRow 0 3 1 v xs.length ((sortA xs).map cI) ∧ Only (fun k => v.ownBlock = some k) w w' := by
 have hla : (sortA xs).length = xs.length := (List.mergeSort_perm xs _).length_eq
 by_cases h0 : xs.length = 0
 ·have hx : xs = [] := List.eq_nil_of_length_eq_zero h0
  subst hx
  obtain ⟨ao, cap, rfl, _, _⟩ := own_slice h
  refine (Tryz.slices_SortFunc_none (α := Int) ao cap _ w).mono fun e w' ⟨he, hw⟩ => ⟨he, ?_, ?_⟩
  ·rw [hw]; simpa [sortA] using h
  ·rw [hw]; exact Only.refl _ _
 ·obtain ⟨gb, cap, rfl, _, _⟩ := own_some h (by omega)
  have hH := own_holds h
  have hlt := own_lt h (k := gb) rfl
  have key := Any.slices_SortFunc Tryz.laysSlF6_f50 (Value.int .i64) (fun _ => rfl) cfA swoA 117 #[] gb 0 cap xs.toArray w enter_Why1 (fun m os dk _ x y => (Why1_any _ x y).mono fun _ w' ⟨he, hw⟩ => ⟨he, 0, #[], by rw [hw]; first | rfl | simp [grow]⟩) hH hlt (by simp; omega)
  simp only [List.size_toArray] at key
  refine key.mono fun e w' ⟨he, d', n, os, hp, hs, hw⟩ => ⟨he, ?_, ?_⟩
  ·have e1 := sortA_of hd (by simpa using hp) (by simpa using hs)
   subst e1
   subst hw
   unfold sortWorld
   have h1 := own_putRow (w := Sort.ahead w n) (g := gb) (n := xs.length) (cap := cap) (e := 3) h (sortA xs).toArray (by simp [hla])
   have h2 := own_only h1 (only_grow (Only.refl (fun _ => False) _) os) (fun _ _ f => f)
   simpa using h2
  ·subst hw
   unfold sortWorld
   refine only_grow ?_ os
   have := (only_ahead (Only.refl (fun k => k = gb) w) n).same (only_putRow (Sort.ahead w n) gb d')
   exact this.mono fun i hi => by subst hi; rfl
end Go.Proofs.YtjedgdamommgeaaGreat
namespace Go.Proofs.YtjedgdamommgeaaGreat
open Go.RowKit
open Tr
namespace Tr
def memF (ks : List Int) : Int → Int := fun a => if a ∈ ks then 1 else 0
theorem memF_addK (ks : List Int) (a : Int) : upd (memF ks) a 1 = memF (addK ks a) := by
 funext y
 unfold upd memF
 by_cases h : y = a
 ·rw [if_pos h, if_pos (mem_addK.2 (.inr h))]
 ·rw [if_neg h]
  by_cases h2 : y ∈ ks
  ·rw [if_pos h2, if_pos (mem_addK.2 (.inl h2))]
  ·rw [if_neg h2, if_neg (by rw [mem_addK]; rintro (h3 | h3); exact h2 h3; exact h h3)]
def needs (ks : List Int) (l : List Int) : List Int := l.foldl (fun ks y => addK ks (Cnf.absW y)) ks
def Trail.whyStep (T : Trail) (st : List Int × List Int) (x : Int) : List Int × List Int :=
 if Cnf.absW x ∉ st.1 ∨ T.lvl x = 0 then st
 else match T.reasonL x with
  | none => (st.1, st.2 ++ [x])
  | some l => (needs st.1 l, st.2)
def Trail.whyTo (T : Trail) (l : List Int) (st : List Int × List Int) : List Int × List Int := l.reverse.foldl T.whyStep st
def Trail.whyL (T : Trail) (x : Int) : List Int := if T.val x ≤ 0 then [] else sortA (T.whyTo T.lits ([Cnf.absW x], [])).2
theorem whyTo_snoc (T : Trail) (st : List Int × List Int) {l : List Int} {k : Nat} (hk : k < l.length) : T.whyTo (l.take (k + 1)) st = T.whyTo (l.take k) (T.whyStep st (l.getD k 0)) := by
 unfold Trail.whyTo
 rw [take_snocI l k hk, List.reverse_append]; rfl
theorem needs_snoc (ks l : List Int) (y : Int) : needs ks (l ++ [y]) = addK (needs ks l) (Cnf.absW y) := by
 unfold needs; rw [List.foldl_append]; rfl
theorem needs_in {n : Nat} (hn : n ≤ 65536) : ∀ (l ks : List Int), (∀ a ∈ ks, 1 ≤ a ∧ a ≤ (n : Int)) → (∀ x ∈ l, x ≠ 0 ∧ x.natAbs ≤ n) → ∀ a ∈ needs ks l, 1 ≤ a ∧ a ≤ (n : Int)
 | [], _, h, _ => h
 | x :: l, ks, h, hl => needs_in hn l _ (fun a ha => by
   rcases mem_addK.1 ha with h1 | rfl
   ·exact h a h1
   ·have h2 := hl x (by simp)
    rw [absW_lit h2 hn]; omega) fun y hy => hl y (by simp [hy])
end Tr
section
variable {w : World} {g : Tag} {b : Nat} {V : TrV} {T : Trail}
structure WhyAt (w2 : World) (B : Nat) (T : Trail) (r : List Int × List Int) (k : Nat) (ks us : List Int) (vo : Value) (wr : World) : Prop where
 need : IMap wr B ks (memF ks)
 row : wr.ownsRow 0 3 1 vo us.length (us.map cI)
 new : ∀ k, vo.ownBlock = some k → w2.heap.size ≤ k
 eq : r = T.whyTo (T.lits.take k) (ks, us)
 kin : ∀ a ∈ ks, 1 ≤ a ∧ a ≤ (T.n : Int)
 len : us.length + k ≤ T.lits.length
 sub : ∀ x ∈ us, x ∈ T.lits
 on : Only (fun k => k = B) w2 wr
set_option maxRecDepth 100000 in
set_option maxHeartbeats 3200000 in
theorem Why_any (H : TrAt w g b V T) (o : Ok T) (x : Int) (hx : InI64 x) :
  Calls Tryz.prog 72 #[.pointer (some ⟨b, 0, none⟩), .int .i64 x] w fun e w' => ∃ v, e = .returned v ∧ w'.ownsRow 0 3 1 v (T.whyL x).length ((T.whyL x).map cI) ∧ (∀ k, v.ownBlock = some k → w.heap.size ≤ k) ∧ Only (fun _ => False) w w' := by
 obtain ⟨r, hr⟩ : ∃ r, T.val x = r := ⟨_, rfl⟩
 have hv := prop_Value_any H o x hx r hr
 have HV := Lib.hid hv
 have HH := Lib.hid H
 have HOk := Lib.hid o
 have HFr := Lib.hid H.fresh
 by_cases hr0 : r ≤ 0
 ·skip
  have dr : decide (r ≤ 0) = true := decide_eq_true hr0
  have hres : T.whyL x = [] := by unfold Trail.whyL; rw [hr, if_pos hr0]
  rw [hres]
  clear hv H o hr hres
  go_enter Tryz.func72, Tryz.ntmps72
  go_wp2_with fail
  refine HV.out.mono ?_
  rintro e w1 ⟨rfl, rfl⟩
  go_wp2_with fail
  go_ret
  exact ⟨_, rfl, World.ownsRow_nil _ _ _ _, fun k hk => by simp [Value.ownBlock] at hk, Only.refl _ _⟩
 ·skip
  have dr : decide (r ≤ 0) = false := decide_eq_false hr0
  have hres : T.whyL x = sortA (T.whyTo T.lits ([Cnf.absW x], [])).2 := by unfold Trail.whyL; rw [hr, if_neg hr0]
  have hxm : x ∈ T.lits := by
   refine Up.value_one ?_
   have h1 : 0 < T.val x := by omega
   unfold Trail.val at h1
   have := Cnf.value_range T.lits x
   omega
  have hxl := o.good.lit x hxm
  have hn := o.n
  obtain ⟨a, ha⟩ : ∃ a, Cnf.absW x = a := ⟨_, rfl⟩
  have hai : InI64 a := by rw [← ha]; exact absW_in hx
  have hab := fun W : World => learn_abs_any (w := W) x a ha
  have HAb := Lib.hid hab
  obtain ⟨RR, hRR⟩ : ∃ RR, T.whyTo T.lits ([a], []) = RR := ⟨_, rfl⟩
  rw [ha, hRR] at hres
  rw [hres]
  rw [absW_lit hxl hn] at ha
  obtain ⟨wB, hwB⟩ : ∃ wB, w.alloc (.map #[] 0) = wB := ⟨_, rfl⟩
  obtain ⟨B, hB⟩ : ∃ B, w.heap.size = B := ⟨_, rfl⟩
  have hmm : (Instr.makeMap 138 none).run Tryz.prog w = .ok (.map (some B)) wB := by rw [run_makeMap, hwB, hB]
  have hI0 : IMap wB B [] (fun _ => 0) := by rw [← hwB, ← hB]; exact IMap.made w
  obtain ⟨wC, hst, hI1, hO1⟩ := hI0.store (v := 1) hai (by unfold InI64; omega) (by unfold maxLen; simp)
  clear hv H o
  go_enter Tryz.func72, Tryz.ntmps72
  go_wp2_with fail
  refine HV.out.mono ?_
  rintro e w1 ⟨rfl, rfl⟩
  go_wp2_with fail
  refine (HAb.out _).mono ?_
  rintro e w1 ⟨rfl, rfl⟩
  go_wp2_with fail
  have hoC : Only (fun _ => False) w wC := (show Only (fun _ => False) w wB by rw [← hwB]; exact (Only.refl _ _).alloc _).trans hO1 fun k hk => .inr (by omega)
  have hI : IMap wC B [a] (memF [a]) := by
   have e := memF_addK [] a
   have e0 : memF [] = fun _ => 0 := by funext y; simp [memF]
   rw [e0] at e
   rw [e] at hI1
   simpa [addK] using hI1
  have HI0 := Lib.hid hI
  have HC := Lib.hid (HH.out.only0 hoC)
  have hli := prop_List_any HC.out HOk.out
  have HLi := Lib.hid hli
  have HOC := Lib.hid hoC
  have hBC : B < wC.heap.size := hI.lt
  clear hI hI1 hO1 hst hI0 hmm hli hoC
  refine HLi.out.mono ?_
  rintro e w2 ⟨v, rfl, R2, N2, O2⟩
  have hgo := HOk.out.good
  have hlen := hgo.len
  have HGo := Lib.hid hgo
  have hIn : Ints w2 v T.lits := Ints.of_own R2 fun x hx => by have := hgo.lit x hx; unfold InI64; omega
  obtain ⟨ai, ci, rfl, -, -⟩ := hIn.shape
  have hNl : ∀ k, Value.blk (.slice ai T.lits.length ci) = some k → ¬ k = B := fun k hk => by have := N2 k (blk_ownI R2 hk); omega
  have HIn := Lib.hid hIn
  have HNl := Lib.hid hNl
  have H2 := Lib.hid (HC.out.only0 O2)
  have HO2 := Lib.hid O2
  have hB2 : B < w2.heap.size := by have := O2.size; omega
  have h00 : WhyAt w2 B T RR T.lits.length [a] [] nilS w2 := ⟨HI0.out.only0 O2, World.ownsRow_nil _ _ _ _, fun k hk => by simp [Value.ownBlock] at hk, by rw [List.take_of_length_le (Nat.le_refl _)]; exact hRR.symm, fun y hy => by simp at hy; omega, by simp, fun y hy => by simp at hy, Only.refl _ _⟩
  have H00 := Lib.hid h00
  have ewl : IntKind.i64.wrap ((T.lits.length : Int) - 1) = (T.lits.length : Int) - 1 := by rw [IntWalk.i64_in _ (by omega)]
  clear R2 N2 O2 hIn hNl h00 hgo HLi hRR HI0 hres
  go_wp2_with fail
  go_loopw [6, 8] (fun vo v wr => ∃ (k : Nat) (ks us : List Int), v = .int .i64 ((k : Int) - 1) ∧ k ≤ T.lits.length ∧ WhyAt w2 B T RR k ks us vo wr) (fun _ v _ => (intOf v + 1).toNat)
  case atStart => exact ⟨T.lits.length, [a], [], by first | rfl | go_num, Nat.le_refl _, H00.out⟩
  case round =>
   clear H00
   obtain ⟨k0, ks, us, hv, hk, hW⟩ := hrel
   have HW := Lib.hid hW
   clear hW
   cases k0 with
   | zero =>
    skip
    rw [show (((0 : Nat) : Int) - 1) = -1 by rfl] at hv
    subst hv
    have heq : RR.2 = us := by rw [HW.out.eq]; rfl
    have hdis : ∀ x ∈ us, ∀ y ∈ us, Cnf.absW x = Cnf.absW y → x = y := fun x hx y hy e => by
     have h1 := HW.out.sub x hx
     have h2 := HW.out.sub y hy
     rw [absW_lit (HGo.out.lit x h1) hn, absW_lit (HGo.out.lit y h2) hn] at e
     have h3 : x.natAbs = y.natAbs := by omega
     rcases Int.natAbs_eq_natAbs_iff.1 h3 with h4 | h4
     ·exact h4
     ·exact absurd (by rw [← h4]; exact h1) (HGo.out.cons h2)
    have hso := SortU_any HW.out.row (by have := HW.out.len; omega) hdis
    have HSo := Lib.hid hso
    have HEq := Lib.hid heq
    clear hdis hso heq
    go_wp2_with fail
    refine HSo.out.mono ?_
    rintro e w3 ⟨rfl, R3, O3⟩
    have hl3 : (sortA us).length = us.length := (List.mergeSort_perm us _).length_eq
    rw [← hl3] at R3
    have HR3 := Lib.hid R3
    have hfin : Only (fun _ => False) w w3 := ((HOC.out.same HO2.out).trans HW.out.on fun k hk => .inr (by omega)).trans O3 fun k hk => .inr (by have := HW.out.new k hk; have := (HOC.out.same HO2.out).size; omega)
    have HFin := Lib.hid hfin
    clear R3 O3 hfin
    go_wp2_with fail
    go_ret
    rw [HEq.out]
    exact ⟨_, rfl, HR3.out, fun k hk => by have := HW.out.new k hk; have := (HOC.out.same HO2.out).size; omega, HFin.out⟩
   | succ k =>
    rw [show (((k + 1 : Nat) : Int) - 1) = (k : Int) by omega] at hv
    subst hv
    have ck : k < T.lits.length := by omega
    have dk : decide (0 ≤ (k : Int)) = true := decide_eq_true (by omega)
    have ewk : IntKind.i64.wrap ((k : Int) - 1) = (k : Int) - 1 := by rw [IntWalk.i64_in _ (by omega)]
    have hIw := HIn.out.only' HW.out.on (fun _ k hk => HNl.out k hk)
    obtain ⟨bl, ol, rfl, _, hcs⟩ := hIw.cells _ _ _ rfl (by omega)
    have qx := hcs k ck
    have hzm : T.lits.getD k 0 ∈ T.lits := by rw [List.getD_eq_getElem?_getD, List.getElem?_eq_getElem ck]; exact List.getElem_mem ck
    have hzi := HIn.out.range' k
    have hsn := HW.out.eq
    rw [whyTo_snoc T (ks, us) ck] at hsn
    obtain ⟨z, hz⟩ : ∃ z, T.lits.getD k 0 = z := ⟨_, rfl⟩
    rw [hz] at qx hzm hzi hsn
    obtain ⟨az, haz⟩ : ∃ az, Cnf.absW z = az := ⟨_, rfl⟩
    obtain ⟨q, hq⟩ : ∃ q, T.lvl z = q := ⟨_, rfl⟩
    have hazi : InI64 az := by rw [← haz]; exact absW_in hzi
    have hab2 := fun W : World => learn_abs_any (w := W) z az haz
    have HAb2 := Lib.hid hab2
    have hlk := HW.out.need.look hazi
    have hHr : TrAt wr g b V T := H2.out.only HW.out.on fun k hk h => by subst h; exact hk (HFr.out _ (by omega))
    have HHr := Lib.hid hHr
    have hlv := learn_level_any hHr HOk.out z hzi q hq
    have HLv := Lib.hid hlv
    have HSn := Lib.hid hsn
    clear hcs hz hIw hab2 hsn hHr hlv
    by_cases hm : az ∈ ks
    ·have hlk1 : memF ks az = 1 := by unfold memF; rw [if_pos hm]
     rw [hlk1] at hlk
     go_wp2_with fail
     refine (HAb2.out _).mono ?_
     rintro e w3 ⟨rfl, rfl⟩
     go_wp2_with fail
     refine HLv.out.mono ?_
     rintro e w3 ⟨rfl, O3⟩
     by_cases hq0 : q = 0
     ·skip
      subst hq0
      have hz : WhyAt w2 B T RR k ks us u6 w3 := ⟨HW.out.need.only0 O3, own_only HW.out.row O3 (fun _ _ f => f), HW.out.new, by rw [HSn.out]; unfold Trail.whyStep; rw [if_pos (.inr hq)], HW.out.kin, by have := HW.out.len; omega, HW.out.sub, HW.out.on.same (O3.mono fun _ f => f.elim)⟩
      have HZ := Lib.hid hz
      clear hz hlk qx O3
      go_wp2_with fail
      go_roundw
      case rel => exact ⟨k, ks, us, by first | rfl | rw [ewk], by omega, HZ.out⟩
      case measure => simp [intOf] <;> omega
     ·have dq : (q == 0) = false := by rw [beq_eq_false_iff_ne]; exact hq0
      have hre := reason_any (HHr.out.only0 O3) HOk.out z hzi
      have HRe := Lib.hid hre
      have qx3 := cell_keep qx O3 (fun f => f)
      have HO3 := Lib.hid O3
      have hstep : T.whyStep (ks, us) z = match T.reasonL z with | none => (ks, us ++ [z]) | some l => (needs ks l, us) := by
       unfold Trail.whyStep
       rw [if_neg (by rw [haz, hq]; rintro (h | h); exact h hm; exact hq0 h)]
      have HStep := Lib.hid hstep
      clear hre hstep hlk qx O3
      go_wp2_with fail
      refine HRe.out.mono ?_
      intro e w4 hrq
      cases hrn : T.reasonL z with
      | none =>
       skip
       rw [hrn] at hrq
       obtain ⟨rfl, O4⟩ := hrq
       have qx4 := cell_keep qx3 O4 (fun f => f)
       have hO4 : Only (fun k => k = B) w2 w4 := (HW.out.on.same (HO3.out.mono fun _ f => f.elim)).same (O4.mono fun _ f => f.elim)
       have ro := own_only (own_only HW.out.row HO3.out (fun _ _ f => f)) O4 (fun _ _ f => f)
       have hus := HW.out.len
       have hnd := (HW.out.need.only0 HO3.out).only0 O4
       have HNd := Lib.hid hnd
       have HHO4 := Lib.hid hO4
       clear qx3 O4 hnd hO4
       go_wp2_with (at_builtin; go_must (refine wpA1 (u := .int .i64 z) slInt rfl (.tmp 58) (.tmp 63) rfl rfl rfl (cell_new0 _ _ _) rfl (own_only ro ((Only.refl (fun _ => False) _).alloc _) (fun _ _ f => f)) (by omega) (by decide) ?_))
       intro v2 w5 s1 s2 s3
       have hs4 := HHO4.out.size
       have hb2 : ∀ k, v2.ownBlock = some k → w2.heap.size ≤ k := by
        obtain ⟨g, cap, rfl, _, _, h⟩ := s3
        intro k hk
        simp [Value.ownBlock] at hk
        subst hk
        rcases h with h | h
        ·exact HW.out.new _ h
        ·simp at h; omega
       have hz : WhyAt w2 B T RR k ks (us ++ [z]) v2 w5 := ⟨(HNd.out.only0 ((Only.refl _ _).alloc _)).only s2 (fun e => by have := HW.out.new B e; omega), by
         rw [List.map_append, List.length_append]
         simpa [cI] using s1, hb2, by rw [HSn.out, HStep.out, hrn], HW.out.kin, by rw [List.length_append]; simp; omega, fun y hy => by
         rcases List.mem_append.1 hy with h | h
         ·exact HW.out.sub y h
         ·simp at h; rw [h]; exact hzm, (HHO4.out.alloc _).trans s2 fun k hk => .inr (HW.out.new k hk)⟩
       have HZ := Lib.hid hz
       clear hz s1 s2 s3 hb2 ro
       go_wp2_with fail
       go_roundw
       case rel => exact ⟨k, ks, us ++ [z], by first | rfl | rw [ewk], by omega, HZ.out⟩
       case measure => simp [intOf] <;> omega
      | some l =>
       skip
       rw [hrn] at hrq
       obtain ⟨ao, cap, rfl, R4, N4, O4⟩ := hrq
       obtain ⟨hl1, hl2⟩ := reasonL_ok HOk.out hrn
       have hI4 : Ints w4 (.slice ao l.length cap) l := Ints.of_own R4 fun y hy => by have := hl1 y hy; unfold InI64; omega
       have hs3 := HO3.out.size
       have hsw := HW.out.on.size
       have hN4 : ∀ k, Value.blk (.slice ao l.length cap) = some k → ¬ k = B := fun k hk => by have := N4 k (blk_ownI R4 hk); omega
       have hO4 : Only (fun k => k = B) w2 w4 := (HW.out.on.same (HO3.out.mono fun _ f => f.elim)).same (O4.mono fun _ f => f.elim)
       have ro := own_only (own_only HW.out.row HO3.out (fun _ _ f => f)) O4 (fun _ _ f => f)
       have hnd : IMap w4 B (needs ks (l.take 0)) (memF (needs ks (l.take 0))) := (HW.out.need.only0 HO3.out).only0 O4
       have HNd := Lib.hid hnd
       have HRo := Lib.hid ro
       have HHO4 := Lib.hid hO4
       have HI4 := Lib.hid hI4
       have HN4 := Lib.hid hN4
       have HL1 := Lib.hid hl1
       clear R4 N4 O4 hI4 hN4 hO4 ro hnd hl1 qx3
       go_wp2_with fail
       go_loopw [67] (fun v wx => ∃ j : Nat, v = .int .i64 j ∧ j ≤ l.length ∧ IMap wx B (needs ks (l.take j)) (memF (needs ks (l.take j))) ∧ Only (fun k => k = B) w4 wx) (fun v _ => l.length - (intOf v).toNat)
       case atStart => exact ⟨0, rfl, Nat.zero_le _, HNd.out, Only.refl _ _⟩
       case round =>
        obtain ⟨j, rfl, hj, hM, hO⟩ := hrel
        have HM := Lib.hid hM
        have HO := Lib.hid hO
        clear hM hO HNd
        by_cases cj : j < l.length
        ·obtain ⟨b5, o5, rfl, _, hcs⟩ := (HI4.out.only' HO.out (fun _ k hk => HN4.out k hk)).cells _ _ _ rfl (by omega)
         have qy := hcs j cj
         have hyi := HI4.out.range' j
         have hsn := needs_snoc ks (l.take j) (l.getD j 0)
         rw [← take_snocI l j cj] at hsn
         obtain ⟨y, hye⟩ : ∃ y, l.getD j 0 = y := ⟨_, rfl⟩
         rw [hye] at qy hyi hsn
         obtain ⟨ay, hay⟩ : ∃ ay, Cnf.absW y = ay := ⟨_, rfl⟩
         rw [hay] at hsn
         have hayi : InI64 ay := by rw [← hay]; exact absW_in hyi
         have hab3 := fun W : World => learn_abs_any (w := W) y ay hay
         have HAb3 := Lib.hid hab3
         have hkl := keys_len (needs_in hn (l.take j) ks HW.out.kin fun y hy => HL1.out y (List.mem_of_mem_take hy)) HM.out.nd
         obtain ⟨w6, hst, hM6, hO6⟩ := HM.out.store (v := 1) hayi (by unfold InI64; omega) (by unfold maxLen; omega)
         rw [memF_addK, ← hsn] at hM6
         have HM6 := Lib.hid hM6
         have hO46 := HO.out.trans hO6 fun k hk => .inl hk
         have HO46 := Lib.hid hO46
         have ewj : IntKind.i64.wrap ((j : Int) + 1) = ((j + 1 : Nat) : Int) := by rw [IntWalk.i64_in _ (by omega)]; rfl
         clear hcs hye hay hab3 hM6 hO6 hO46 hsn
         go_wp2_with fail
         refine (HAb3.out _).mono ?_
         rintro e w7 ⟨rfl, rfl⟩
         go_wp2_with fail
         go_roundw
         case rel => exact ⟨j + 1, by first | rfl | go_num, by omega, HM6.out, HO46.out⟩
         case measure => simp [intOf] <;> omega
        ·have hjl : j = l.length := by omega
         have hM := HM.out
         rw [hjl, List.take_of_length_le (Nat.le_refl _)] at hM
         have hz : WhyAt w2 B T RR k (needs ks l) us u6 wr := ⟨hM, own_only HRo.out HO.out (fun k hk e => by have := HW.out.new k hk; omega), HW.out.new, by rw [HSn.out, HStep.out, hrn], needs_in hn l ks HW.out.kin HL1.out, by have := HW.out.len; omega, HW.out.sub, HHO4.out.trans HO.out fun k hk => .inl hk⟩
         have HZ := Lib.hid hz
         clear hz hM
         go_wp2_with fail
         go_roundw
         case rel => exact ⟨k, needs ks l, us, by first | rfl | rw [ewk], by omega, HZ.out⟩
         case measure => simp [intOf] <;> omega
    ·skip
     have hlk1 : memF ks az = 0 := by unfold memF; rw [if_neg hm]
     rw [hlk1] at hlk
     have hz : WhyAt w2 B T RR k ks us u6 wr := ⟨HW.out.need, HW.out.row, HW.out.new, by rw [HSn.out]; unfold Trail.whyStep; rw [if_pos (.inl (by rw [haz]; exact hm))], HW.out.kin, by have := HW.out.len; omega, HW.out.sub, HW.out.on⟩
     have HZ := Lib.hid hz
     clear hz
     go_wp2_with fail
     refine (HAb2.out _).mono ?_
     rintro e w3 ⟨rfl, rfl⟩
     go_wp2_with fail
     clear hlk qx
     go_roundw
     case rel => exact ⟨k, ks, us, by first | rfl | rw [ewk], by omega, HZ.out⟩
     case measure => simp [intOf] <;> omega
end
end Go.Proofs.YtjedgdamommgeaaGreat
