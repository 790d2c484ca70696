/- The walk of learn.Why. (Printed by gen_lrn11.py.) -/
import Derived.Test.YtjedgdamommgeaaLrn10
set_option linter.unusedVariables false
namespace Go.Proofs.Ytjedgdamommgeaa
open Go.RowKit
open Tr

namespace Tr
def memF (ks : List Int) : Int → Int := fun a => if a ∈ ks then 1 else 0
theorem memF_addK (ks : List Int) (a : Int) : upd (memF ks) a 1 = memF (addK ks a) := by
  funext y
  unfold upd memF
  by_cases h : y = a
  · rw [if_pos h, if_pos (mem_addK.2 (.inr h))]
  · rw [if_neg h]
    by_cases h2 : y ∈ ks
    · rw [if_pos h2, if_pos (mem_addK.2 (.inl h2))]
    · rw [if_neg h2, if_neg (by rw [mem_addK]; rintro (h3 | h3); exact h2 h3; exact h h3)]
def needs (ks : List Int) (l : List Int) : List Int := l.foldl (fun ks y => addK ks (Cnf.absW y)) ks
def Trail.whyStep (T : Trail) (st : List Int × List Int) (x : Int) : List Int × List Int :=
  if Cnf.absW x ∉ st.1 ∨ T.lvl x = 0 then st
  else match T.reasonL x with
    | none => (st.1, st.2 ++ [x])
    | some l => (needs st.1 l, st.2)
def Trail.whyTo (T : Trail) (l : List Int) (st : List Int × List Int) : List Int × List Int := l.reverse.foldl T.whyStep st
def Trail.whyL (T : Trail) (x : Int) : List Int := if T.val x ≤ 0 then [] else sortA (T.whyTo T.lits ([Cnf.absW x], [])).2
theorem whyTo_snoc (T : Trail) (st : List Int × List Int) {l : List Int} {k : Nat} (hk : k < l.length) : T.whyTo (l.take (k + 1)) st = T.whyTo (l.take k) (T.whyStep st (l.getD k 0)) := by
  unfold Trail.whyTo
  rw [take_snocI l k hk, List.reverse_append]; rfl
theorem needs_snoc (ks l : List Int) (y : Int) : needs ks (l ++ [y]) = addK (needs ks l) (Cnf.absW y) := by
  unfold needs; rw [List.foldl_append]; rfl
theorem needs_in {n : Nat} (hn : n ≤ 65536) : ∀ (l ks : List Int), (∀ a ∈ ks, 1 ≤ a ∧ a ≤ (n : Int)) → (∀ x ∈ l, x ≠ 0 ∧ x.natAbs ≤ n) → ∀ a ∈ needs ks l, 1 ≤ a ∧ a ≤ (n : Int)
  | [], _, h, _ => h
  | x :: l, ks, h, hl => needs_in hn l _ (fun a ha => by
      rcases mem_addK.1 ha with h1 | rfl
      · exact h a h1
      · have h2 := hl x (by simp)
        rw [absW_lit h2 hn]; omega) fun y hy => hl y (by simp [hy])
end Tr

section
variable {w : World} {g : Tag} {b : Nat} {V : TrV} {T : Trail}

/-- in the midst of Why -/
structure WhyAt (w2 : World) (B : Nat) (T : Trail) (r : List Int × List Int) (k : Nat) (ks us : List Int) (vo : Value) (wr : World) : Prop where
  need : IMap wr B ks (memF ks)
  row : wr.ownsRow 0 3 1 vo us.length (us.map cI)
  new : ∀ k, vo.ownBlock = some k → w2.heap.size ≤ k
  eq : r = T.whyTo (T.lits.take k) (ks, us)
  kin : ∀ a ∈ ks, 1 ≤ a ∧ a ≤ (T.n : Int)
  len : us.length + k ≤ T.lits.length
  sub : ∀ x ∈ us, x ∈ T.lits
  on : Only (fun k => k = B) w2 wr

set_option maxRecDepth 100000 in
set_option maxHeartbeats 3200000 in
theorem Why_any (H : TrAt w g b V T) (o : Ok T) (x : Int) (hx : InI64 x) :
    Calls Try.prog 25 #[.pointer (some ⟨b, 0, none⟩), .int .i64 x] w fun e w' => ∃ v, e = .returned v ∧ w'.ownsRow 0 3 1 v (T.whyL x).length ((T.whyL x).map cI) ∧ (∀ k, v.ownBlock = some k → w.heap.size ≤ k) ∧ Only (fun _ => False) w w' := by
  obtain ⟨r, hr⟩ : ∃ r, T.val x = r := ⟨_, rfl⟩
  have hv := prop_Value_any H o x hx r hr
  have HV := Lib.hid hv
  have HH := Lib.hid H
  have HOk := Lib.hid o
  have HFr := Lib.hid H.fresh
  by_cases hr0 : r ≤ 0
  · skip
    have dr : decide (r ≤ 0) = true := decide_eq_true hr0
    have hres : T.whyL x = [] := by unfold Trail.whyL; rw [hr, if_pos hr0]
    rw [hres]
    clear hv H o hr hres
    go_enter Try.func25, Try.ntmps25
    go_wp2_with fail
    refine HV.out.mono ?_
    rintro e w1 ⟨rfl, rfl⟩
    go_wp2_with fail
    go_ret
    exact ⟨_, rfl, World.ownsRow_nil _ _ _ _, fun k hk => by simp [Value.ownBlock] at hk, Only.refl _ _⟩
    
  · skip
    have dr : decide (r ≤ 0) = false := decide_eq_false hr0
    have hres : T.whyL x = sortA (T.whyTo T.lits ([Cnf.absW x], [])).2 := by unfold Trail.whyL; rw [hr, if_neg hr0]
    have hxm : x ∈ T.lits := by
      refine Up.value_one ?_
      have h1 : 0 < T.val x := by omega
      unfold Trail.val at h1
      have := Cnf.value_range T.lits x
      omega
    have hxl := o.good.lit x hxm
    have hn := o.n
    obtain ⟨a, ha⟩ : ∃ a, Cnf.absW x = a := ⟨_, rfl⟩
    have hai : InI64 a := by rw [← ha]; exact absW_in hx
    have hab := fun W : World => learn_abs_any (w := W) x a ha
    have HAb := Lib.hid hab
    obtain ⟨RR, hRR⟩ : ∃ RR, T.whyTo T.lits ([a], []) = RR := ⟨_, rfl⟩
    rw [ha, hRR] at hres
    rw [hres]
    rw [absW_lit hxl hn] at ha
    obtain ⟨wB, hwB⟩ : ∃ wB, w.alloc (.map #[] 0) = wB := ⟨_, rfl⟩
    obtain ⟨B, hB⟩ : ∃ B, w.heap.size = B := ⟨_, rfl⟩
    have hmm : (Instr.makeMap 62 none).run Try.prog w = .ok (.map (some B)) wB := by rw [run_makeMap, hwB, hB]
    have hI0 : IMap wB B [] (fun _ => 0) := by rw [← hwB, ← hB]; exact IMap.made w
    obtain ⟨wC, hst, hI1, hO1⟩ := hI0.store (v := 1) hai (by unfold InI64; omega) (by unfold maxLen; simp)
    clear hv H o
    go_enter Try.func25, Try.ntmps25
    go_wp2_with fail
    refine HV.out.mono ?_
    rintro e w1 ⟨rfl, rfl⟩
    go_wp2_with fail
    refine (HAb.out _).mono ?_
    rintro e w1 ⟨rfl, rfl⟩
    go_wp2_with fail
    have hoC : Only (fun _ => False) w wC := (show Only (fun _ => False) w wB by rw [← hwB]; exact (Only.refl _ _).alloc _).trans hO1 fun k hk => .inr (by omega)
    have hI : IMap wC B [a] (memF [a]) := by
      have e := memF_addK [] a
      have e0 : memF [] = fun _ => 0 := by funext y; simp [memF]
      rw [e0] at e
      rw [e] at hI1
      simpa [addK] using hI1
    have HI0 := Lib.hid hI
    have HC := Lib.hid (HH.out.only0 hoC)
    have hli := prop_List_any HC.out HOk.out
    have HLi := Lib.hid hli
    have HOC := Lib.hid hoC
    have hBC : B < wC.heap.size := hI.lt
    clear hI hI1 hO1 hst hI0 hmm hli hoC
    refine HLi.out.mono ?_
    rintro e w2 ⟨v, rfl, R2, N2, O2⟩
    have hgo := HOk.out.good
    have hlen := hgo.len
    have HGo := Lib.hid hgo
    have hIn : Ints w2 v T.lits := Ints.of_own R2 fun x hx => by have := hgo.lit x hx; unfold InI64; omega
    obtain ⟨ai, ci, rfl, -, -⟩ := hIn.shape
    have hNl : ∀ k, Value.blk (.slice ai T.lits.length ci) = some k → ¬ k = B := fun k hk => by have := N2 k (blk_ownI R2 hk); omega
    have HIn := Lib.hid hIn
    have HNl := Lib.hid hNl
    have H2 := Lib.hid (HC.out.only0 O2)
    have HO2 := Lib.hid O2
    have hB2 : B < w2.heap.size := by have := O2.size; omega
    have h00 : WhyAt w2 B T RR T.lits.length [a] [] nilS w2 := ⟨HI0.out.only0 O2, World.ownsRow_nil _ _ _ _, fun k hk => by simp [Value.ownBlock] at hk, by rw [List.take_of_length_le (Nat.le_refl _)]; exact hRR.symm, fun y hy => by simp at hy; omega, by simp, fun y hy => by simp at hy, Only.refl _ _⟩
    have H00 := Lib.hid h00
    have ewl : IntKind.i64.wrap ((T.lits.length : Int) - 1) = (T.lits.length : Int) - 1 := by rw [IntWalk.i64_in _ (by omega)]
    clear R2 N2 O2 hIn hNl h00 hgo HLi hRR HI0 hres
    go_wp2_with fail
    go_loopw [6, 8] (fun vo v wr => ∃ (k : Nat) (ks us : List Int), v = .int .i64 ((k : Int) - 1) ∧ k ≤ T.lits.length ∧ WhyAt w2 B T RR k ks us vo wr) (fun _ v _ => (intOf v + 1).toNat)
    case atStart => exact ⟨T.lits.length, [a], [], by first | rfl | go_num, Nat.le_refl _, H00.out⟩
    case round =>
      clear H00
      obtain ⟨k0, ks, us, hv, hk, hW⟩ := hrel
      have HW := Lib.hid hW
      clear hW
      cases k0 with
      | zero =>
        skip
        rw [show (((0 : Nat) : Int) - 1) = -1 by rfl] at hv
        subst hv
        have heq : RR.2 = us := by rw [HW.out.eq]; rfl
        have hdis : ∀ x ∈ us, ∀ y ∈ us, Cnf.absW x = Cnf.absW y → x = y := fun x hx y hy e => by
          have h1 := HW.out.sub x hx
          have h2 := HW.out.sub y hy
          rw [absW_lit (HGo.out.lit x h1) hn, absW_lit (HGo.out.lit y h2) hn] at e
          have h3 : x.natAbs = y.natAbs := by omega
          rcases Int.natAbs_eq_natAbs_iff.1 h3 with h4 | h4
          · exact h4
          · exact absurd (by rw [← h4]; exact h1) (HGo.out.cons h2)
        have hso := SortU_any HW.out.row (by have := HW.out.len; omega) hdis
        have HSo := Lib.hid hso
        have HEq := Lib.hid heq
        clear hdis hso heq
        go_wp2_with fail
        refine HSo.out.mono ?_
        rintro e w3 ⟨rfl, R3, O3⟩
        have hl3 : (sortA us).length = us.length := (List.mergeSort_perm us _).length_eq
        rw [← hl3] at R3
        have HR3 := Lib.hid R3
        have hfin : Only (fun _ => False) w w3 := ((HOC.out.same HO2.out).trans HW.out.on fun k hk => .inr (by omega)).trans O3 fun k hk => .inr (by have := HW.out.new k hk; have := (HOC.out.same HO2.out).size; omega)
        have HFin := Lib.hid hfin
        clear R3 O3 hfin
        go_wp2_with fail
        go_ret
        rw [HEq.out]
        exact ⟨_, rfl, HR3.out, fun k hk => by have := HW.out.new k hk; have := (HOC.out.same HO2.out).size; omega, HFin.out⟩
        
      | succ k =>
        rw [show (((k + 1 : Nat) : Int) - 1) = (k : Int) by omega] at hv
        subst hv
        have ck : k < T.lits.length := by omega
        have dk : decide (0 ≤ (k : Int)) = true := decide_eq_true (by omega)
        have ewk : IntKind.i64.wrap ((k : Int) - 1) = (k : Int) - 1 := by rw [IntWalk.i64_in _ (by omega)]
        have hIw := HIn.out.only' HW.out.on (fun _ k hk => HNl.out k hk)
        obtain ⟨bl, ol, rfl, _, hcs⟩ := hIw.cells _ _ _ rfl (by omega)
        have qx := hcs k ck
        have hzm : T.lits.getD k 0 ∈ T.lits := by rw [List.getD_eq_getElem?_getD, List.getElem?_eq_getElem ck]; exact List.getElem_mem ck
        have hzi := HIn.out.range' k
        have hsn := HW.out.eq
        rw [whyTo_snoc T (ks, us) ck] at hsn
        obtain ⟨z, hz⟩ : ∃ z, T.lits.getD k 0 = z := ⟨_, rfl⟩
        rw [hz] at qx hzm hzi hsn
        obtain ⟨az, haz⟩ : ∃ az, Cnf.absW z = az := ⟨_, rfl⟩
        obtain ⟨q, hq⟩ : ∃ q, T.lvl z = q := ⟨_, rfl⟩
        have hazi : InI64 az := by rw [← haz]; exact absW_in hzi
        have hab2 := fun W : World => learn_abs_any (w := W) z az haz
        have HAb2 := Lib.hid hab2
        have hlk := HW.out.need.look hazi
        have hHr : TrAt wr g b V T := H2.out.only HW.out.on fun k hk h => by subst h; exact hk (HFr.out _ (by omega))
        have HHr := Lib.hid hHr
        have hlv := learn_level_any hHr HOk.out z hzi q hq
        have HLv := Lib.hid hlv
        have HSn := Lib.hid hsn
        clear hcs hz hIw hab2 hsn hHr hlv
        by_cases hm : az ∈ ks
        · have hlk1 : memF ks az = 1 := by unfold memF; rw [if_pos hm]
          rw [hlk1] at hlk
          go_wp2_with fail
          refine (HAb2.out _).mono ?_
          rintro e w3 ⟨rfl, rfl⟩
          go_wp2_with fail
          refine HLv.out.mono ?_
          rintro e w3 ⟨rfl, O3⟩
          by_cases hq0 : q = 0
          · skip
            subst hq0
            have hz : WhyAt w2 B T RR k ks us u6 w3 := ⟨HW.out.need.only0 O3, own_only HW.out.row O3 (fun _ _ f => f), HW.out.new, by rw [HSn.out]; unfold Trail.whyStep; rw [if_pos (.inr hq)], HW.out.kin, by have := HW.out.len; omega, HW.out.sub, HW.out.on.same (O3.mono fun _ f => f.elim)⟩
            have HZ := Lib.hid hz
            clear hz hlk qx O3
            go_wp2_with fail
            go_roundw
            case rel => exact ⟨k, ks, us, by first | rfl | rw [ewk], by omega, HZ.out⟩
            case measure => simp [intOf] <;> omega
            
          · have dq : (q == 0) = false := by rw [beq_eq_false_iff_ne]; exact hq0
            have hre := reason_any (HHr.out.only0 O3) HOk.out z hzi
            have HRe := Lib.hid hre
            have qx3 := cell_keep qx O3 (fun f => f)
            have HO3 := Lib.hid O3
            have hstep : T.whyStep (ks, us) z = match T.reasonL z with | none => (ks, us ++ [z]) | some l => (needs ks l, us) := by
              unfold Trail.whyStep
              rw [if_neg (by rw [haz, hq]; rintro (h | h); exact h hm; exact hq0 h)]
            have HStep := Lib.hid hstep
            clear hre hstep hlk qx O3
            go_wp2_with fail
            refine HRe.out.mono ?_
            intro e w4 hrq
            cases hrn : T.reasonL z with
            | none =>
              skip
              rw [hrn] at hrq
              obtain ⟨rfl, O4⟩ := hrq
              have qx4 := cell_keep qx3 O4 (fun f => f)
              have hO4 : Only (fun k => k = B) w2 w4 := (HW.out.on.same (HO3.out.mono fun _ f => f.elim)).same (O4.mono fun _ f => f.elim)
              have ro := own_only (own_only HW.out.row HO3.out (fun _ _ f => f)) O4 (fun _ _ f => f)
              have hus := HW.out.len
              have hnd := (HW.out.need.only0 HO3.out).only0 O4
              have HNd := Lib.hid hnd
              have HHO4 := Lib.hid hO4
              clear qx3 O4 hnd hO4
              go_wp2_with (at_builtin; go_must (refine wpA1 (u := .int .i64 z) slInt rfl (.tmp 58) (.tmp 63) rfl rfl rfl (cell_new0 _ _ _) rfl (own_only ro ((Only.refl (fun _ => False) _).alloc _) (fun _ _ f => f)) (by omega) (by decide) ?_))
              intro v2 w5 s1 s2 s3
              have hs4 := HHO4.out.size
              have hb2 : ∀ k, v2.ownBlock = some k → w2.heap.size ≤ k := by
                obtain ⟨g, cap, rfl, _, _, h⟩ := s3
                intro k hk
                simp [Value.ownBlock] at hk
                subst hk
                rcases h with h | h
                · exact HW.out.new _ h
                · simp at h; omega
              have hz : WhyAt w2 B T RR k ks (us ++ [z]) v2 w5 := ⟨(HNd.out.only0 ((Only.refl _ _).alloc _)).only s2 (fun e => by have := HW.out.new B e; omega), by
                  rw [List.map_append, List.length_append]
                  simpa [cI] using s1, hb2, by rw [HSn.out, HStep.out, hrn], HW.out.kin, by rw [List.length_append]; simp; omega, fun y hy => by
                  rcases List.mem_append.1 hy with h | h
                  · exact HW.out.sub y h
                  · simp at h; rw [h]; exact hzm, (HHO4.out.alloc _).trans s2 fun k hk => .inr (HW.out.new k hk)⟩
              have HZ := Lib.hid hz
              clear hz s1 s2 s3 hb2 ro
              go_wp2_with fail
              go_roundw
              case rel => exact ⟨k, ks, us ++ [z], by first | rfl | rw [ewk], by omega, HZ.out⟩
              case measure => simp [intOf] <;> omega
              
            | some l =>
              skip
              rw [hrn] at hrq
              obtain ⟨ao, cap, rfl, R4, N4, O4⟩ := hrq
              obtain ⟨hl1, hl2⟩ := reasonL_ok HOk.out hrn
              have hI4 : Ints w4 (.slice ao l.length cap) l := Ints.of_own R4 fun y hy => by have := hl1 y hy; unfold InI64; omega
              have hs3 := HO3.out.size
              have hsw := HW.out.on.size
              have hN4 : ∀ k, Value.blk (.slice ao l.length cap) = some k → ¬ k = B := fun k hk => by have := N4 k (blk_ownI R4 hk); omega
              have hO4 : Only (fun k => k = B) w2 w4 := (HW.out.on.same (HO3.out.mono fun _ f => f.elim)).same (O4.mono fun _ f => f.elim)
              have ro := own_only (own_only HW.out.row HO3.out (fun _ _ f => f)) O4 (fun _ _ f => f)
              have hnd : IMap w4 B (needs ks (l.take 0)) (memF (needs ks (l.take 0))) := (HW.out.need.only0 HO3.out).only0 O4
              have HNd := Lib.hid hnd
              have HRo := Lib.hid ro
              have HHO4 := Lib.hid hO4
              have HI4 := Lib.hid hI4
              have HN4 := Lib.hid hN4
              have HL1 := Lib.hid hl1
              clear R4 N4 O4 hI4 hN4 hO4 ro hnd hl1 qx3
              go_wp2_with fail
              go_loopw [67] (fun v wx => ∃ j : Nat, v = .int .i64 j ∧ j ≤ l.length ∧ IMap wx B (needs ks (l.take j)) (memF (needs ks (l.take j))) ∧ Only (fun k => k = B) w4 wx) (fun v _ => l.length - (intOf v).toNat)
              case atStart => exact ⟨0, rfl, Nat.zero_le _, HNd.out, Only.refl _ _⟩
              case round =>
                obtain ⟨j, rfl, hj, hM, hO⟩ := hrel
                have HM := Lib.hid hM
                have HO := Lib.hid hO
                clear hM hO HNd
                by_cases cj : j < l.length
                · obtain ⟨b5, o5, rfl, _, hcs⟩ := (HI4.out.only' HO.out (fun _ k hk => HN4.out k hk)).cells _ _ _ rfl (by omega)
                  have qy := hcs j cj
                  have hyi := HI4.out.range' j
                  have hsn := needs_snoc ks (l.take j) (l.getD j 0)
                  rw [← take_snocI l j cj] at hsn
                  obtain ⟨y, hye⟩ : ∃ y, l.getD j 0 = y := ⟨_, rfl⟩
                  rw [hye] at qy hyi hsn
                  obtain ⟨ay, hay⟩ : ∃ ay, Cnf.absW y = ay := ⟨_, rfl⟩
                  rw [hay] at hsn
                  have hayi : InI64 ay := by rw [← hay]; exact absW_in hyi
                  have hab3 := fun W : World => learn_abs_any (w := W) y ay hay
                  have HAb3 := Lib.hid hab3
                  have hkl := keys_len (needs_in hn (l.take j) ks HW.out.kin fun y hy => HL1.out y (List.mem_of_mem_take hy)) HM.out.nd
                  obtain ⟨w6, hst, hM6, hO6⟩ := HM.out.store (v := 1) hayi (by unfold InI64; omega) (by unfold maxLen; omega)
                  rw [memF_addK, ← hsn] at hM6
                  have HM6 := Lib.hid hM6
                  have hO46 := HO.out.trans hO6 fun k hk => .inl hk
                  have HO46 := Lib.hid hO46
                  have ewj : IntKind.i64.wrap ((j : Int) + 1) = ((j + 1 : Nat) : Int) := by rw [IntWalk.i64_in _ (by omega)]; rfl
                  clear hcs hye hay hab3 hM6 hO6 hO46 hsn
                  go_wp2_with fail
                  refine (HAb3.out _).mono ?_
                  rintro e w7 ⟨rfl, rfl⟩
                  go_wp2_with fail
                  go_roundw
                  case rel => exact ⟨j + 1, by first | rfl | go_num, by omega, HM6.out, HO46.out⟩
                  case measure => simp [intOf] <;> omega
                · have hjl : j = l.length := by omega
                  have hM := HM.out
                  rw [hjl, List.take_of_length_le (Nat.le_refl _)] at hM
                  have hz : WhyAt w2 B T RR k (needs ks l) us u6 wr := ⟨hM, own_only HRo.out HO.out (fun k hk e => by have := HW.out.new k hk; omega), HW.out.new, by rw [HSn.out, HStep.out, hrn], needs_in hn l ks HW.out.kin HL1.out, by have := HW.out.len; omega, HW.out.sub, HHO4.out.trans HO.out fun k hk => .inl hk⟩
                  have HZ := Lib.hid hz
                  clear hz hM
                  go_wp2_with fail
                  go_roundw
                  case rel => exact ⟨k, needs ks l, us, by first | rfl | rw [ewk], by omega, HZ.out⟩
                  case measure => simp [intOf] <;> omega
              
        · skip
          have hlk1 : memF ks az = 0 := by unfold memF; rw [if_neg hm]
          rw [hlk1] at hlk
          have hz : WhyAt w2 B T RR k ks us u6 wr := ⟨HW.out.need, HW.out.row, HW.out.new, by rw [HSn.out]; unfold Trail.whyStep; rw [if_pos (.inl (by rw [haz]; exact hm))], HW.out.kin, by have := HW.out.len; omega, HW.out.sub, HW.out.on⟩
          have HZ := Lib.hid hz
          clear hz
          go_wp2_with fail
          refine (HAb2.out _).mono ?_
          rintro e w3 ⟨rfl, rfl⟩
          go_wp2_with fail
          clear hlk qx
          go_roundw
          case rel => exact ⟨k, ks, us, by first | rfl | rw [ewk], by omega, HZ.out⟩
          case measure => simp [intOf] <;> omega
          
end
end Go.Proofs.Ytjedgdamommgeaa
