/- The rules, by the document. Printed by gen_rfd.py. -/
import Derived.Test.YtbapkcnfacklaaaGreatRfC
import Derived.Test.YtbapkcnfacklaaaGreatRfA
import Derived.Test.YtbapkcnfacklaaaGreatChB
set_option linter.unusedVariables false
namespace Go.Proofs.YtbapkcnfacklaaaGreat
open Go.RowKit
section
variable {w w' : World} {B : Nat}
def RuIn (F : Nat → Prop) (w : World) (v : Value) (l : List RuleD) : Prop := w.ownsRow 0 45 4 v l.length (flatR l) ∧ ∀ k, v.ownBlock = some k → F k
theorem RuIn.app {F : Nat → Prop} {w w1 w2 : World} {v v' : Value} {l : List RuleD} {r : RuleD} (h : RuIn F w v l) (hF : ∀ k, w1.heap.size ≤ k → F k) (s1 : w2.ownsRow 0 45 4 v' (l.length + 1) (flatR l ++ r.cells)) (s3 : NewRow w1 v v') : RuIn F w2 v' (l ++ [r]) := by
 refine ⟨?_, fun k hk => ?_⟩
 ·rw [flatR_app, List.length_append]
  have : flatR [r] = r.cells := by simp [flatR]
  rw [this]; exact s1
 ·rcases s3 k hk with hg | hg
  ·exact h.2 _ hg
  ·exact hF k hg
theorem RuIn.mono {F G : Nat → Prop} {w : World} {v : Value} {l : List RuleD} (h : RuIn F w v l) (hF : ∀ k, F k → G k) : RuIn G w v l := ⟨h.1, fun k hk => hF k (h.2 k hk)⟩
set_option maxRecDepth 100000 in
set_option maxHeartbeats 4000000 in
theorem Rules13_any {csx : List Value} {x : RecD} (hx : RecC B w csx x) {csq : List Value} {q : ReqD} (hq : ReqC B w csq q) (ok : RuOk x q (x.closure q.names)) :
  Calls Tryz.prog 22 #[.agg csx.toArray, .agg csq.toArray] w fun e w' => ∃ v, e = .returned v ∧ RuRow w w' v (rulesOf x q (x.closure q.names)) ∧ Only (fun _ => False) w w' := by
 obtain ⟨l, hl⟩ : ∃ l, x.closure q.names = l := ⟨_, rfl⟩
 rw [hl] at ok ⊢
 have HL := Lib.hid hl
 clear hl
 have HOk := Lib.hid ok
 have hlen : x.packs.length ≤ 1000000 := by have := ok.packs; omega
 have HH_x := Lib.hid hx
 obtain ⟨u1, u2, rfl, r1, r2⟩ := hx
 obtain ⟨a_x_packs, c_x_packs, rfl, g_x_packs, h_x_packs⟩ := r1.shape
 obtain ⟨n_x_packs, e1⟩ : ∃ n, x.packs.length = n := ⟨_, rfl⟩
 have N_x_packs := Lib.hid e1
 obtain ⟨a_x_prefs, c_x_prefs, rfl, g_x_prefs, h_x_prefs⟩ := r2.shape
 obtain ⟨n_x_prefs, e2⟩ : ∃ n, x.prefs.length = n := ⟨_, rfl⟩
 have N_x_prefs := Lib.hid e2
 rw [e1, e2] at HH_x
 rw [e1] at r1 g_x_packs
 have RR_x_packs := Lib.hid r1
 rw [e2] at r2 g_x_prefs
 have RR_x_prefs := Lib.hid r2
 rw [e1, e2]
 clear e1 e2 r1 r2
 have HH_q := Lib.hid hq
 obtain ⟨u1, rfl, r1⟩ := hq
 obtain ⟨a_q_roots, c_q_roots, rfl, g_q_roots, h_q_roots⟩ := r1.shape
 obtain ⟨n_q_roots, e1⟩ : ∃ n, q.roots.length = n := ⟨_, rfl⟩
 have N_q_roots := Lib.hid e1
 rw [e1] at HH_q
 rw [e1] at r1 g_q_roots
 have RR_q_roots := Lib.hid r1
 rw [e1]
 clear e1 r1
 obtain ⟨W0, hW0⟩ : ∃ W0, W0 = ((w.alloc (.cells #[.slice a_x_packs n_x_packs c_x_packs, .slice a_x_prefs n_x_prefs c_x_prefs] 25)).alloc (.cells #[.slice a_q_roots n_q_roots c_q_roots] 28)) := ⟨_, rfl⟩
 have HOB : Hid (Only (fun _ => False) w W0) := by rw [hW0]; exact ((Only.refl _ _).alloc _).alloc _
 have HSz : Hid (W0.heap.size = w.heap.size + 2) := by rw [hW0]; simp [Hid]
 have HBox : Hid (∀ W, Only (fun _ => False) W0 W → W.cell? ⟨w.heap.size, 0, none⟩ = some (.slice a_x_packs n_x_packs c_x_packs) ∧ W.cell? ⟨w.heap.size, 1, none⟩ = some (.slice a_x_prefs n_x_prefs c_x_prefs) ∧ W.cell? ⟨w.heap.size + 1, 0, none⟩ = some (.slice a_q_roots n_q_roots c_q_roots)) := fun W ho => by
  have b0 : W0.heap[w.heap.size]? = some (.cells #[.slice a_x_packs n_x_packs c_x_packs, .slice a_x_prefs n_x_prefs c_x_prefs] 25) := by rw [hW0]; exact alloc_block (alloc_at rfl) _
  have d0 := only_block b0 ho (fun f => f)
  have b1 : W0.heap[w.heap.size + 1]? = some (.cells #[.slice a_q_roots n_q_roots c_q_roots] 28) := by rw [hW0]; exact alloc_at (by simp)
  have d1 := only_block b1 ho (fun f => f)
  exact ⟨by rw [cell_block d0]; rfl, by rw [cell_block d0]; rfl, by rw [cell_block d1]; rfl⟩
 have HK_x : Hid (∀ W, Only (fun _ => False) W0 W → RecC B W [.slice a_x_packs n_x_packs c_x_packs, .slice a_x_prefs n_x_prefs c_x_prefs] x) := fun W ho => RecC.keep HH_x.out (Kp.of0 (HOB.out.same ho) : Kp B w W)
 have HR_x_packs : Hid (∀ W, Only (fun _ => False) W0 W → RowT 8 PackC B W (.slice a_x_packs n_x_packs c_x_packs) x.packs) := fun W ho => RR_x_packs.out.keep PackC.keep (Kp.of0 (HOB.out.same ho))
 clear RR_x_packs
 have HR_x_prefs : Hid (∀ W, Only (fun _ => False) W0 W → RowT 3 PrefC B W (.slice a_x_prefs n_x_prefs c_x_prefs) x.prefs) := fun W ho => RR_x_prefs.out.keep PrefC.keep (Kp.of0 (HOB.out.same ho))
 clear RR_x_prefs
 clear HH_x
 have HK_q : Hid (∀ W, Only (fun _ => False) W0 W → ReqC B W [.slice a_q_roots n_q_roots c_q_roots] q) := fun W ho => ReqC.keep HH_q.out (Kp.of0 (HOB.out.same ho) : Kp B w W)
 have HR_q_roots : Hid (∀ W, Only (fun _ => False) W0 W → RowT 4 RootC B W (.slice a_q_roots n_q_roots c_q_roots) q.roots) := fun W ho => RR_q_roots.out.keep RootC.keep (Kp.of0 (HOB.out.same ho))
 clear RR_q_roots
 clear HH_q
 rw [N_x_packs.out] at hlen
 have hbr : n_q_roots ≤ 1000 := by rw [← N_q_roots.out]; exact ok.roots
 have hbx : n_x_packs ≤ 1000 := by rw [← N_x_packs.out]; exact ok.packs
 clear ok
 have HOC : Hid (Only (fun _ => False) W0 (W0.alloc (.cells #[] 45))) := (Only.refl _ _).alloc _
 have HVC : Hid (RuRow W0 (W0.alloc (.cells #[] 45)) (.slice (some ⟨w.heap.size + 1 + 1, 0, none⟩) 0 0) (rootRs q 0)) := by
  have h := World.ownsRow_lit (base := 0) (e := 45) (size := 4) W0 #[] 0 (Nat.zero_le _) (by unfold maxLen; omega) (by simp)
  rw [HSz.out] at h
  refine ⟨h, fun k hk => ?_⟩
  simp [Value.ownBlock] at hk
  have := HSz.out
  omega
 go_enter Tryz.func22, Tryz.ntmps22
 go_wp2_with fail
 rw [← hW0]
 clear hW0
 go_loopw [5, 16] (fun vo vi wri => Hid (Only (fun _ => False) W0 wri) ∧ ∃ i : Nat, vi = .int .i64 i ∧ i ≤ n_q_roots ∧ Hid (RuRow W0 wri vo (rootRs q i))) (fun _ v _ => n_q_roots - (RowKit.intOf v).toNat)
 case atStart => exact ⟨HOC, 0, rfl, Nat.zero_le _, HVC⟩
 case round =>
  obtain ⟨wri, rfl⟩ : ∃ W, W = wr := ⟨_, rfl⟩
  clear HOC HVC
  obtain ⟨HOi, i, rfl, hi, HV⟩ := hrel
  obtain ⟨k0, k1, k2⟩ := HBox.out wri HOi.out
  by_cases ci : i < n_q_roots
  ·have ewi : IntKind.i64.wrap ((i : Int) + 1) = (i : Int) + 1 := by rw [IntKind.wrap_i64]; omega
   obtain ⟨yr, hxr⟩ : ∃ y, q.roots[i]? = some y := ⟨_, List.getElem?_eq_getElem (by rw [N_q_roots.out]; omega)⟩
   obtain ⟨bkr, offr, ar1, nr1, cr1, ar2, nr2, cr2, her, N0r1, N0r2, okr1, inr1, HE0r⟩ := RootC_at (HR_q_roots.out W0 (Only.refl _ _)) hxr
   first
    | subst her
    | (simp only [Option.some.injEq, Addr.mk.injEq, and_true] at her; obtain ⟨rfl, rfl⟩ := her)
   have Nr1 := Lib.hid N0r1
   have Nr2 := Lib.hid N0r2
   have HEr := Lib.hid HE0r
   have HXr := Lib.hid hxr
   clear HE0r hxr N0r1 N0r2
   have HRr1 : Hid (∀ W, Only (fun _ => False) W0 W → RowT 2 SpanC B W (.slice ar1 nr1 cr1) yr.spec.spans) := fun W ho => (HEr.out W ho).2.1
   have HRr2 : Hid (∀ W, Only (fun _ => False) W0 W → RowT 2 SetC B W (.slice ar2 nr2 cr2) yr.spec.sets) := fun W ho => (HEr.out W ho).2.2.1
   have HCr : Hid (∀ W, Only (fun _ => False) W0 W → RootC B W [.string yr.spec.name, .slice ar1 nr1 cr1, .slice ar2 nr2 cr2, .int .i64 yr.line] yr) := fun W ho => (HEr.out W ho).2.2.2
   have hrr := (HEr.out wri HOi.out).1
   have gr3 := hrr 3 _ rfl
   clear hrr
   have HSn : Hid (rootRs q (i + 1) = rootRs q i ++ [⟨1, -1, i, yr.line⟩]) := by rw [rootRs_succ, List.getD_eq_getElem?_getD, HXr.out]; exact rfl
   have hlenL : (rootRs q i).length ≤ 1000 := by unfold rootRs; simp; omega
   obtain ⟨L, hL⟩ : ∃ L, rootRs q i = L := ⟨_, rfl⟩
   rw [hL] at HV hlenL HSn
   obtain ⟨au, cu, rfl, -, -⟩ := own_slice HV.out.1
   clear hL
   go_wp2_with (at_builtin; go_must (refine wpAR (cs := RuleD.cells ⟨1, -1, i, yr.line⟩) slRule rfl (.tmp 19) (.tmp 28) rfl rfl rfl rfl (rangeAt_new (cs := RuleD.cells ⟨1, -1, i, yr.line⟩) (by simp)) (RuleD.one _) (own_only HV.out.1 ((Only.refl (fun _ => False) _).alloc _) (fun _ _ f => f)) (by omega) (by decide) ?_))
   intro v' w2 s1 s2 s3
   have HV2 : Hid (RuRow W0 w2 v' (rootRs q (i + 1))) := by
    rw [HSn.out]
    exact RuRow.app HV.out (by have := HOi.out.size; simp; omega) s1 s3
   have HO2 := Lib.hid ((HOi.out.alloc _).trans s2 fun k hk => .inr (HV.out.2 k hk))
   obtain ⟨g6, c6', rfl, -, -, -⟩ := s3
   clear s1 s2 HV
   go_wp2_with fail
   go_roundw
   case rel => exact ⟨HO2, i + 1, by first | rfl | go_num, by omega, HV2⟩
   case measure => simp [RowKit.intOf] <;> omega
  ·obtain rfl : n_q_roots = i := by omega
   clear hi ci
   have HCl := Lib.hid (Closure10_any (HK_x.out wri HOi.out) (HK_q.out wri HOi.out) (by rw [N_x_packs.out]; exact hlen))
   have HVr := HV
   have hvlt : Hid (∀ k, u5.ownBlock = some k → k < wri.heap.size) := fun k hk => own_lt HVr.out.1 hk
   go_wp2_with fail
   refine HCl.out.mono ?_
   rintro e W1 ⟨vl, rfl, hvl, hvf, O2⟩
   rw [HL.out] at hvl
   obtain ⟨nl, hnl⟩ : ∃ n, l.length = n := ⟨_, rfl⟩
   have NL := Lib.hid hnl
   have hbl : nl ≤ 1000 := by rw [← hnl]; exact HOk.out.len
   have HOW1 := Lib.hid (HOi.out.same O2)
   have hI1 : Ints W1 vl (intsOf l) := ints_of_nats hvl fun i hi => by have := HOk.out.lt i hi; have := HOk.out.packs; omega
   obtain ⟨F1, hF1⟩ : ∃ F1 : Nat → Prop, F1 = fun k => W0.heap.size ≤ k ∧ vl.ownBlock ≠ some k := ⟨_, rfl⟩
   have HF10 : Hid (∀ k, F1 k → W0.heap.size ≤ k) := fun k hk => by rw [hF1] at hk; exact hk.1
   have HF1 : Hid (∀ k, W1.heap.size ≤ k → F1 k) := fun k hk => by
    rw [hF1]
    refine ⟨by have := HOW1.out.size; omega, fun e => ?_⟩
    have := own_lt hvl e
    omega
   have HIl : Hid (∀ W, Only F1 W1 W → Ints W vl (intsOf l)) := fun W hW => hI1.only hW (fun b hb hf => by
    rw [hF1] at hf
    refine hf.2 ?_
    obtain ⟨ao, cp, rfl, -, -⟩ := own_slice hvl
    cases ao with
    | none => cases hb
    | some ad => exact hb)
   have HV1 : Hid (RuIn F1 W1 u5 (rootRs q n_q_roots ++ (l.take 0).flatMap (packRs x))) := by
    have e : rootRs q n_q_roots ++ (l.take 0).flatMap (packRs x) = rootRs q n_q_roots := by simp
    rw [e]
    refine ⟨own_only HVr.out.1 O2 (fun _ _ f => f), fun k hk => ?_⟩
    rw [hF1]
    refine ⟨HVr.out.2 k hk, fun e => ?_⟩
    have h1 := hvf k e
    have h2 := hvlt.out k hk
    omega
   obtain ⟨avl, cvl, rfl, -, -⟩ := own_slice hvl
   rw [hnl] at HIl ⊢
   have HUp : Hid (∀ W, Only F1 W1 W → Only (fun _ => False) W0 W) := fun W hW => HOW1.out.trans hW (fun k hk => .inr (HF10.out k hk))
   have HOC : Hid (Only F1 W1 W1) := Only.refl _ _
   obtain ⟨au, cu, hu5, -, -⟩ := own_slice HVr.out.1
   subst hu5
   clear hnl hvl hvf hI1 O2 hF1 HCl HV HVr hvlt k0 k1 k2
   obtain ⟨k0, k1, k2⟩ := HBox.out W1 HOW1.out
   go_wp2_with fail
   clear k0 k1 k2
   go_loopw [5, 36] (fun vo vi wri => Hid (Only F1 W1 wri) ∧ ∃ i : Nat, vi = .int .i64 i ∧ i ≤ nl ∧ Hid (RuIn F1 wri vo (rootRs q n_q_roots ++ (l.take i).flatMap (packRs x)))) (fun _ v _ => nl - (RowKit.intOf v).toNat)
   case atStart => exact ⟨HOC, 0, rfl, Nat.zero_le _, HV1⟩
   case round =>
    obtain ⟨wri, rfl⟩ : ∃ W, W = wr := ⟨_, rfl⟩
    clear HOC HV1
    obtain ⟨HOi, i, rfl, hi, HV⟩ := hrel
    obtain ⟨k0, k1, k2⟩ := HBox.out wri (HUp.out wri HOi.out)
    by_cases ci : i < nl
    ·have ewi : IntKind.i64.wrap ((i : Int) + 1) = (i : Int) + 1 := by rw [IntKind.wrap_i64]; omega
     obtain ⟨p, hp⟩ : ∃ p, l[i]? = some p := ⟨_, List.getElem?_eq_getElem (by rw [NL.out]; exact ci)⟩
     have hpn : p < n_x_packs := by have := HOk.out.lt p (List.mem_of_getElem? hp); rw [N_x_packs.out] at this; exact this
     obtain ⟨bI, offI, eI, hcell⟩ := (HIl.out wri HOi.out).cellN hp
     subst eI
     have HIc : Hid (∀ W, Only F1 W1 W → W.cell? ⟨bI, offI + i, none⟩ = some (.int .i64 (p : Int))) := fun W hW => by
      obtain ⟨b2, o2, e2, h2⟩ := (HIl.out W hW).cellN hp
      cases e2
      exact h2
     have HPp := Lib.hid hp
     clear hp hcell
     obtain ⟨yy, hxy⟩ : ∃ y, x.packs[p]? = some y := ⟨_, List.getElem?_eq_getElem (by rw [N_x_packs.out]; omega)⟩
     obtain ⟨bky, offy, ay1, ny1, cy1, ay2, ny2, cy2, ay3, ny3, cy3, ay4, ny4, cy4, ay5, ny5, cy5, ay6, ny6, cy6, hey, N0y1, N0y2, N0y3, N0y4, N0y5, N0y6, oky1, iny1, HE0y⟩ := PackC_at (HR_x_packs.out W0 (Only.refl _ _)) hxy
     first
      | subst hey
      | (simp only [Option.some.injEq, Addr.mk.injEq, and_true] at hey; obtain ⟨rfl, rfl⟩ := hey)
     have Ny1 := Lib.hid N0y1
     have Ny2 := Lib.hid N0y2
     have Ny3 := Lib.hid N0y3
     have Ny4 := Lib.hid N0y4
     have Ny5 := Lib.hid N0y5
     have Ny6 := Lib.hid N0y6
     have HEy := Lib.hid HE0y
     have HXy := Lib.hid hxy
     clear HE0y hxy N0y1 N0y2 N0y3 N0y4 N0y5 N0y6
     have HRy1 : Hid (∀ W, Only (fun _ => False) W0 W → RowT 2 RelC B W (.slice ay1 ny1 cy1) yy.rels) := fun W ho => (HEy.out W ho).2.1
     have HRy2 : Hid (∀ W, Only (fun _ => False) W0 W → RowT 2 VarC B W (.slice ay2 ny2 cy2) yy.vars) := fun W ho => (HEy.out W ho).2.2.1
     have HRy3 : Hid (∀ W, Only (fun _ => False) W0 W → RowT 1 StrC B W (.slice ay3 ny3 cy3) yy.provides) := fun W ho => (HEy.out W ho).2.2.2.1
     have HRy4 : Hid (∀ W, Only (fun _ => False) W0 W → RowT 7 DepC B W (.slice ay4 ny4 cy4) yy.deps) := fun W ho => (HEy.out W ho).2.2.2.2.1
     have HRy5 : Hid (∀ W, Only (fun _ => False) W0 W → RowT 7 ConC B W (.slice ay5 ny5 cy5) yy.cons) := fun W ho => (HEy.out W ho).2.2.2.2.2.1
     have HRy6 : Hid (∀ W, Only (fun _ => False) W0 W → RowT 1 StrC B W (.slice ay6 ny6 cy6) yy.files) := fun W ho => (HEy.out W ho).2.2.2.2.2.2.1
     have HCy : Hid (∀ W, Only (fun _ => False) W0 W → PackC B W [.string yy.name, .int .i64 yy.line, .slice ay1 ny1 cy1, .slice ay2 ny2 cy2, .slice ay3 ny3 cy3, .slice ay4 ny4 cy4, .slice ay5 ny5 cy5, .slice ay6 ny6 cy6] yy) := fun W ho => (HEy.out W ho).2.2.2.2.2.2.2
     have HPg : Hid (x.pack p = yy) := by unfold RecD.pack; rw [List.getD_eq_getElem?_getD, HXy.out]; exact rfl
     have hmem : yy ∈ x.packs := List.mem_of_getElem? HXy.out
     have hdl : ny4 ≤ 1000 := by rw [← Ny4.out]; exact HOk.out.deps yy hmem
     have hcl : ny5 ≤ 1000 := by rw [← Ny5.out]; exact HOk.out.cons yy hmem
     have HNx : Hid (rootRs q n_q_roots ++ (l.take (i + 1)).flatMap (packRs x) = (rootRs q n_q_roots ++ (l.take i).flatMap (packRs x)) ++ depRs x p ny4 ++ conRs x p ny5) := by
      rw [takeN_succ HPp.out, List.flatMap_append]
      have : List.flatMap (packRs x) [p] = depRs x p ny4 ++ conRs x p ny5 := by simp [packRs, HPg.out, Ny4.out, Ny5.out]
      rw [this]
      simp [List.append_assoc, Hid]
     have hlen0 : (rootRs q n_q_roots ++ (l.take i).flatMap (packRs x)).length ≤ 3000000 := by
      have h1 := flatMap_le (x := x) (l := l.take i) fun p hp => by
       have := HOk.out.lt p (List.mem_of_mem_take hp)
       have hm : x.pack p ∈ x.packs := by unfold RecD.pack; rw [List.getD_eq_getElem?_getD, List.getElem?_eq_getElem this]; exact List.getElem_mem this
       exact packRs_len (HOk.out.deps _ hm) (HOk.out.cons _ hm)
      have h2 : (l.take i).length ≤ 1000 := by rw [List.length_take]; omega
      have h3 : (rootRs q n_q_roots).length = n_q_roots := by unfold rootRs; simp
      rw [List.length_append, h3]
      have := Nat.mul_le_mul_right 2000 h2
      omega
     obtain ⟨L0, hL0⟩ : ∃ L, rootRs q n_q_roots ++ (l.take i).flatMap (packRs x) = L := ⟨_, rfl⟩
     rw [hL0] at HV HNx hlen0
     obtain ⟨au, cu, rfl, -, -⟩ := own_slice HV.out.1
     clear hL0 hmem
     go_wp2_with fail
     clear k0 k1 k2
     refine wp_region_G (n := 10) (E := fun k => k = 9) (S := fun W => Only F1 W1 W) (by kernel_rfl) rfl (by exact HOi.out.drew) (fun hHeld => ?_)
     refine tqW (i := 0) (v := ?_) rfl (.inr (by assumption)) ?_ ?_
     rotate_left
     ·(intro w; go_simp <;> (try with_reducible rfl))
     try simp only [Act.put, zq1, zq3, zq4, zq5, zq6]
     refine tqK (i := 1) (v := ?_) rfl ?_ ?_
     rotate_left
     ·(intro w hSw; obtain ⟨k0, k1, k2⟩ := HBox.out w (HUp.out w hSw); have hcI := HIc.out w hSw; have hry := (HEy.out w (HUp.out w hSw)).1; have gy0 := hry 0 _ rfl; have gy1 := hry 1 _ rfl; have gy2 := hry 2 _ rfl; have gy3 := hry 3 _ rfl; have gy4 := hry 4 _ rfl; have gy5 := hry 5 _ rfl; have gy6 := hry 6 _ rfl; have gy7 := hry 7 _ rfl; rw [Nat.add_zero] at gy0; go_simp <;> (try with_reducible rfl))
     try simp only [Act.put, zq1, zq2, zq3, zq4, zq5, zq6]
     refine tqW (i := 2) (v := ?_) rfl (.inr (by assumption)) ?_ ?_
     rotate_left
     ·(intro w; go_simp <;> (try with_reducible rfl))
     try simp only [Act.put, zq1, zq2, zq3, zq4, zq5, zq6]
     refine tqW (i := 3) (v := ?_) rfl (.inr (by assumption)) ?_ ?_
     rotate_left
     ·(intro w; go_simp <;> (try with_reducible rfl))
     try simp only [Act.put, zq1, zq2, zq3, zq4, zq5, zq6]
     refine tqW (i := 4) (v := ?_) rfl (.inr (by assumption)) ?_ ?_
     rotate_left
     ·(intro w; go_simp <;> (try with_reducible rfl))
     try simp only [Act.put, zq1, zq2, zq3, zq4, zq5, zq6]
     refine tqK (i := 5) (v := ?_) rfl ?_ ?_
     rotate_left
     ·(intro w hSw; obtain ⟨k0, k1, k2⟩ := HBox.out w (HUp.out w hSw); have hcI := HIc.out w hSw; have hry := (HEy.out w (HUp.out w hSw)).1; have gy0 := hry 0 _ rfl; have gy1 := hry 1 _ rfl; have gy2 := hry 2 _ rfl; have gy3 := hry 3 _ rfl; have gy4 := hry 4 _ rfl; have gy5 := hry 5 _ rfl; have gy6 := hry 6 _ rfl; have gy7 := hry 7 _ rfl; rw [Nat.add_zero] at gy0; go_simp <;> (try with_reducible rfl))
     try simp only [Act.put, zq1, zq2, zq3, zq4, zq5, zq6]
     refine tqW (i := 6) (v := ?_) rfl (.inr (by assumption)) ?_ ?_
     rotate_left
     ·(intro w; go_simp <;> (try with_reducible rfl))
     try simp only [Act.put, zq1, zq2, zq3, zq4, zq5, zq6]
     refine tqK (i := 7) (v := ?_) rfl ?_ ?_
     rotate_left
     ·(intro w hSw; obtain ⟨k0, k1, k2⟩ := HBox.out w (HUp.out w hSw); have hcI := HIc.out w hSw; have hry := (HEy.out w (HUp.out w hSw)).1; have gy0 := hry 0 _ rfl; have gy1 := hry 1 _ rfl; have gy2 := hry 2 _ rfl; have gy3 := hry 3 _ rfl; have gy4 := hry 4 _ rfl; have gy5 := hry 5 _ rfl; have gy6 := hry 6 _ rfl; have gy7 := hry 7 _ rfl; rw [Nat.add_zero] at gy0; go_simp <;> (try with_reducible rfl))
     try simp only [Act.put, zq1, zq2, zq3, zq4, zq5, zq6]
     refine wpAnyG_ready (rs := [8]) (by kernel_rfl) (by simp) ?_
     refine AllReadyG.cons (i := 8) rfl (fun K hK => ?_) ?_
     ·go_simp
      refine hK.out _ _ ?_ (fun hHeld => ?_)
      ·(try dsimp only) <;> (exact hHeld.alloc _)
      clear hK K
      try simp only [Act.put, zq1, zq2, zq3, zq4, zq5, zq6]
      refine wpAnyG_ready (rs := [9]) (by kernel_rfl) (by simp) ?_
      refine AllReadyG.late (i := 9) rfl (by kernel_rfl) (fun K hK => ?_) ?_
      ·(rw [if_pos (by kernel_rfl)]; refine wp_store_rowX 43 (.tmp 9) (.tmp 46) rfl _ #[.string yy.name, .int .i64 yy.line, .slice ay1 ny1 cy1, .slice ay2 ny2 cy2, .slice ay3 ny3 cy3, .slice ay4 ny4 cy4, .slice ay5 ny5 cy5, .slice ay6 ny6 cy6] rfl rfl 43 #[.string .empty, .int .i64 0, nilS, nilS, nilS, nilS, nilS, nilS] (by exact heap_alloc_new wri _) (by kernel_rfl) rfl (by kernel_rfl) ?_; intro W3 hg3 ho3)
       refine hK.out _ _ ?_
       clear hK K
       try simp only [Act.put, zq1, zq2, zq3]
       refine wpAnyG_done (by kernel_rfl) ?_ _
       generalize hgg : wri.heap.size = g at *
       obtain ⟨F2, hF2⟩ : ∃ F2 : Nat → Prop, F2 = fun k => F1 k ∧ k ≠ g := ⟨_, rfl⟩
       have HF12 : Hid (∀ k, F2 k → F1 k) := fun k hk => by rw [hF2] at hk; exact hk.1
       have HF2 : Hid (∀ k, W3.heap.size ≤ k → F2 k) := fun k hk => by
        have h1 := HOi.out.size
        have h2 := (Array.getElem?_eq_some_iff.1 hg3).1
        rw [hF2]
        exact ⟨HF1.out k (by omega), by omega⟩
       have HO13 : Hid (Only F1 W1 W3) := hHeld.trans ho3 (fun k hk => .inl (by rw [hk]; exact HF1.out g (by have := HOi.out.size; omega)))
       have HUp2 : Hid (∀ W, Only F2 W3 W → Only (fun _ => False) W0 W) := fun W hW => HUp.out W (HO13.out.trans hW (fun k hk => .inl (HF12.out k hk)))
       have HBp : Hid (∀ V, Only F2 W3 V → V.cell? ⟨g, 5, none⟩ = some (.slice ay4 ny4 cy4) ∧ V.cell? ⟨g, 6, none⟩ = some (.slice ay5 ny5 cy5)) := fun V ho => by
        have b1 := only_block hg3 ho (by rw [hF2]; exact fun h => h.2 rfl)
        exact ⟨by rw [cell_block b1]; rfl, by rw [cell_block b1]; rfl⟩
       have HIc2 : Hid (∀ W, Only F2 W3 W → W.cell? ⟨bI, offI + i, none⟩ = some (.int .i64 (p : Int))) := fun W hW => HIc.out W (HO13.out.trans hW (fun k hk => .inl (HF12.out k hk)))
       have hlt0 : ∀ k, (Value.slice au L0.length cu).ownBlock = some k → k < g := fun k hk => by rw [← hgg]; exact own_lt HV.out.1 hk
       have hV3 : W3.ownsRow 0 45 4 (.slice au L0.length cu) L0.length (flatR L0) := by
        have h1 := own_only HV.out.1 ((Only.refl (fun _ => False) wri).alloc (.cells #[.string .empty, .int .i64 0, nilS, nilS, nilS, nilS, nilS, nilS] 43)) (fun _ _ f => f)
        have h2 := own_only h1 (Only.refl (fun _ => False) _).drew (fun _ _ f => f)
        exact own_only h2 ho3 (fun k hk e => by have := hlt0 k hk; omega)
       have HVC : Hid (RuIn F2 W3 (.slice au L0.length cu) (L0 ++ depRs x p 0)) := by
        have e : L0 ++ depRs x p 0 = L0 := by simp [depRs]
        rw [e]
        refine ⟨hV3, fun k hk => ?_⟩
        rw [hF2]
        exact ⟨HV.out.2 k hk, by have := hlt0 k hk; omega⟩
       have HPC : Hid (Only F2 W3 W3) := Only.refl _ _
       clear hg3 ho3 hHeld hF2 hV3 hlt0 HV HIc HUp
       have HUp := HUp2
       have HIc := HIc2
       clear HUp2 HIc2
       obtain ⟨d5, d6⟩ := HBp.out W3 (Only.refl _ _)
       go_wp2_with fail
       clear d5 d6
       go_loopw [5, 50] (fun vo vk wrk => Hid (Only F2 W3 wrk) ∧ ∃ k : Nat, vk = .int .i64 k ∧ k ≤ ny4 ∧ Hid (RuIn F2 wrk vo (L0 ++ depRs x p k))) (fun _ v _ => ny4 - (RowKit.intOf v).toNat)
       case atStart => exact ⟨HPC, 0, rfl, Nat.zero_le _, HVC⟩
       case round =>
        obtain ⟨wrk, rfl⟩ : ∃ W, W = wr := ⟨_, rfl⟩
        clear HPC HVC
        obtain ⟨HPk, k, rfl, hk, HV⟩ := hrel
        by_cases ck : k < ny4
        ·have ewi : IntKind.i64.wrap ((k : Int) + 1) = (k : Int) + 1 := by rw [IntKind.wrap_i64]; omega
         obtain ⟨yz, hxz⟩ : ∃ y, yy.deps[k]? = some y := ⟨_, List.getElem?_eq_getElem (by rw [Ny4.out]; omega)⟩
         obtain ⟨bkz, offz, az1, nz1, cz1, az2, nz2, cz2, az3, nz3, cz3, az4, nz4, cz4, hez, N0z1, N0z2, N0z3, N0z4, okz1, okz2, inz1, HE0z⟩ := DepC_at (HRy4.out W0 (Only.refl _ _)) hxz
         first
          | subst hez
          | (simp only [Option.some.injEq, Addr.mk.injEq, and_true] at hez; obtain ⟨rfl, rfl⟩ := hez)
         have Nz1 := Lib.hid N0z1
         have Nz2 := Lib.hid N0z2
         have Nz3 := Lib.hid N0z3
         have Nz4 := Lib.hid N0z4
         have HEz := Lib.hid HE0z
         have HXz := Lib.hid hxz
         clear HE0z hxz N0z1 N0z2 N0z3 N0z4
         have HRz1 : Hid (∀ W, Only (fun _ => False) W0 W → RowT 2 SpanC B W (.slice az1 nz1 cz1) yz.on.spans) := fun W ho => (HEz.out W ho).2.1
         have HRz2 : Hid (∀ W, Only (fun _ => False) W0 W → RowT 2 SetC B W (.slice az2 nz2 cz2) yz.on.sets) := fun W ho => (HEz.out W ho).2.2.1
         have HRz3 : Hid (∀ W, Only (fun _ => False) W0 W → RowT 2 SpanC B W (.slice az3 nz3 cz3) yz.cond.spans) := fun W ho => (HEz.out W ho).2.2.2.1
         have HRz4 : Hid (∀ W, Only (fun _ => False) W0 W → RowT 2 SetC B W (.slice az4 nz4 cz4) yz.cond.sets) := fun W ho => (HEz.out W ho).2.2.2.2.1
         have HCz : Hid (∀ W, Only (fun _ => False) W0 W → DepC B W [.string yz.on.name, .slice az1 nz1 cz1, .slice az2 nz2 cz2, .string yz.cond.name, .slice az3 nz3 cz3, .slice az4 nz4 cz4, .int .i64 yz.line] yz) := fun W ho => (HEz.out W ho).2.2.2.2.2
         have HSn : Hid (L0 ++ depRs x p (k + 1) = L0 ++ depRs x p k ++ [⟨2, p, k, yz.line⟩]) := by rw [depRs_succ, HPg.out, List.getD_eq_getElem?_getD, HXz.out, ← List.append_assoc]; exact rfl
         have hlenL : (L0 ++ depRs x p k).length ≤ 3100000 := by rw [List.length_append]; unfold depRs; simp; omega
         obtain ⟨L, hL⟩ : ∃ L, L0 ++ depRs x p k = L := ⟨_, rfl⟩
         rw [hL] at HV hlenL HSn
         obtain ⟨au, cu, rfl, -, -⟩ := own_slice HV.out.1
         clear hL
         go_wp2_with fail
         refine wp_region_G (n := 16) (E := fun _ => false) (S := fun W => Only F2 W3 W) (by kernel_rfl) rfl (by exact HPk.out.drew) (fun hHeld => ?_)
         refine tqW (i := 0) (v := ?_) rfl (.inr (by assumption)) ?_ ?_
         rotate_left
         ·(intro w; go_simp <;> (try with_reducible rfl))
         try simp only [Act.put, zq1, zq3, zq4, zq5, zq6]
         refine tqW (i := 1) (v := ?_) rfl (.inr (by assumption)) ?_ ?_
         rotate_left
         ·(intro w; go_simp <;> (try with_reducible rfl))
         try simp only [Act.put, zq1, zq2, zq3, zq4, zq5, zq6]
         refine tqW (i := 2) (v := ?_) rfl (.inr (by assumption)) ?_ ?_
         rotate_left
         ·(intro w; go_simp <;> (try with_reducible rfl))
         try simp only [Act.put, zq1, zq2, zq3, zq4, zq5, zq6]
         refine tqW (i := 3) (v := ?_) rfl (.inr (by assumption)) ?_ ?_
         rotate_left
         ·(intro w; go_simp <;> (try with_reducible rfl))
         try simp only [Act.put, zq1, zq2, zq3, zq4, zq5, zq6]
         refine tqK (i := 4) (v := ?_) rfl ?_ ?_
         rotate_left
         ·(intro w hSw; obtain ⟨k0, k1, k2⟩ := HBox.out w (HUp.out w hSw); obtain ⟨d5, d6⟩ := HBp.out w hSw; have hcI := HIc.out w hSw; have hrz := (HEz.out w (HUp.out w hSw)).1; have gz6 := hrz 6 _ rfl; clear hrz; go_simp <;> (try with_reducible rfl))
         try simp only [Act.put, zq1, zq2, zq3, zq4, zq5, zq6]
         refine tqW (i := 5) (v := ?_) rfl (.inr (by assumption)) ?_ ?_
         rotate_left
         ·(intro w; go_simp <;> (try with_reducible rfl))
         try simp only [Act.put, zq1, zq2, zq3, zq4, zq5, zq6]
         refine tqW (i := 6) (v := ?_) rfl (.inr (by assumption)) ?_ ?_
         rotate_left
         ·(intro w; go_simp <;> (try with_reducible rfl))
         try simp only [Act.put, zq1, zq2, zq3, zq4, zq5, zq6]
         refine tqK (i := 7) (v := ?_) rfl ?_ ?_
         rotate_left
         ·(intro w hSw; obtain ⟨k0, k1, k2⟩ := HBox.out w (HUp.out w hSw); obtain ⟨d5, d6⟩ := HBp.out w hSw; have hcI := HIc.out w hSw; have hrz := (HEz.out w (HUp.out w hSw)).1; have gz6 := hrz 6 _ rfl; clear hrz; go_simp <;> (try with_reducible rfl))
         try simp only [Act.put, zq1, zq2, zq3, zq4, zq5, zq6]
         refine tqW (i := 8) (v := ?_) rfl (.inr (by assumption)) ?_ ?_
         rotate_left
         ·(intro w; go_simp <;> (try with_reducible rfl))
         try simp only [Act.put, zq1, zq2, zq3, zq4, zq5, zq6]
         refine tqW (i := 9) (v := ?_) rfl (.inr (by assumption)) ?_ ?_
         rotate_left
         ·(intro w; go_simp <;> (try with_reducible rfl))
         try simp only [Act.put, zq1, zq2, zq3, zq4, zq5, zq6]
         refine tqW (i := 10) (v := ?_) rfl (.inr (by assumption)) ?_ ?_
         rotate_left
         ·(intro w; go_simp <;> (try with_reducible rfl))
         try simp only [Act.put, zq1, zq2, zq3, zq4, zq5, zq6]
         refine tqK (i := 11) (v := ?_) rfl ?_ ?_
         rotate_left
         ·(intro w hSw; obtain ⟨k0, k1, k2⟩ := HBox.out w (HUp.out w hSw); obtain ⟨d5, d6⟩ := HBp.out w hSw; have hcI := HIc.out w hSw; have hrz := (HEz.out w (HUp.out w hSw)).1; have gz6 := hrz 6 _ rfl; clear hrz; go_simp <;> (try with_reducible rfl))
         try simp only [Act.put, zq1, zq2, zq3, zq4, zq5, zq6]
         refine tqW (i := 12) (v := ?_) rfl (.inr (by assumption)) ?_ ?_
         rotate_left
         ·(intro w; go_simp <;> (try with_reducible rfl))
         try simp only [Act.put, zq1, zq2, zq3, zq4, zq5, zq6]
         refine wpAnyG_ready (rs := [13]) (by kernel_rfl) (by simp) ?_
         refine AllReadyG.cons (i := 13) rfl (fun K hK => ?_) ?_
         ·go_simp
          refine hK.out _ _ ?_ (fun hHeld => ?_)
          ·(try dsimp only) <;> (exact hHeld.alloc _)
          clear hK K
          try simp only [Act.put, zq1, zq2, zq3, zq4, zq5, zq6]
          refine wpAnyG_ready (rs := [14]) (by kernel_rfl) (by simp) ?_
          refine AllReadyG.cons (i := 14) rfl (fun K hK => ?_) ?_
          ·(refine stepAN (news := RuleD.cells ⟨2, p, k, yz.line⟩) slRule (by rfl) (.tmp 53) (.tmp 66) (by rfl) (by rfl) (own_only HV.out.1 (by repeat (first | exact Only.refl _ _ | apply Only.drew | apply Only.alloc | apply Only.drewN)) (fun _ _ f => f)) (by rfl) (by rfl) (fun h => by cases h) (fun ad e j u hu => by cases e; rw [Go.WideShapes.add_plain]; exact rangeAt_new (cs := RuleD.cells ⟨2, p, k, yz.line⟩) rfl j u hu) (RuleD.one _) (by omega) (by decide) ?_; intro ao5 cap5 w5 r5 o5 nr5)
           refine hK.out _ _ ?_ (fun hHeld => ?_)
           ·(try dsimp only) <;> (exact hHeld.trans o5 (fun k hk => .inl (HV.out.2 k hk)))
           clear hK K
           try simp only [Act.put, zq1, zq2, zq3, zq4, zq5, zq6]
           refine tqW (i := 15) (v := ?_) rfl (.inr (by assumption)) ?_ ?_
           rotate_left
           ·(intro w; go_simp <;> (try with_reducible rfl))
           try simp only [Act.put, zq1, zq2, zq3, zq4, zq5, zq6]
           refine wpAnyG_done (by kernel_rfl) ?_ _
           have HPn := Lib.hid hHeld
           have HVn : Hid (RuIn F2 w5 (.slice ao5 (L.length + 1) cap5) (L0 ++ depRs x p (k + 1))) := by
            rw [HSn.out]
            refine RuIn.app HV.out (fun k hk => HF2.out k ?_) r5 nr5
            have := HPk.out.size
            simp at hk
            omega
           clear hHeld r5 o5 nr5
           go_wp2_with fail
           go_roundw
           case rel => exact ⟨HPn, k + 1, by first | rfl | go_num, by omega, HVn⟩
           case measure => simp [RowKit.intOf] <;> omega
          exact AllReadyG.nil
         exact AllReadyG.nil
        ·obtain rfl : ny4 = k := by omega
         have hlen1 : (L0 ++ depRs x p ny4).length ≤ 3010000 := by rw [List.length_append]; unfold depRs; simp; omega
         obtain ⟨L1, hL1⟩ : ∃ L, L0 ++ depRs x p ny4 = L := ⟨_, rfl⟩
         rw [hL1] at HV HNx hlen1
         have HVC : Hid (RuIn F2 wrk u5 (L1 ++ conRs x p 0)) := by simpa [conRs, Hid] using HV.out
         have HPC := HPk
         obtain ⟨au, cu, hu5, -, -⟩ := own_slice HV.out.1
         subst hu5
         clear hL1 HV
         obtain ⟨d5, d6⟩ := HBp.out wrk HPC.out
         go_wp2_with fail
         clear d5 d6
         go_loopw [5, 72] (fun vo vk wrk => Hid (Only F2 W3 wrk) ∧ ∃ k : Nat, vk = .int .i64 k ∧ k ≤ ny5 ∧ Hid (RuIn F2 wrk vo (L1 ++ conRs x p k))) (fun _ v _ => ny5 - (RowKit.intOf v).toNat)
         case atStart => exact ⟨HPC, 0, rfl, Nat.zero_le _, HVC⟩
         case round =>
          obtain ⟨wrk, rfl⟩ : ∃ W, W = wr := ⟨_, rfl⟩
          clear HPC HVC
          obtain ⟨HPk, k, rfl, hk, HV⟩ := hrel
          by_cases ck : k < ny5
          ·have ewi : IntKind.i64.wrap ((k : Int) + 1) = (k : Int) + 1 := by rw [IntKind.wrap_i64]; omega
           obtain ⟨yu, hxu⟩ : ∃ y, yy.cons[k]? = some y := ⟨_, List.getElem?_eq_getElem (by rw [Ny5.out]; omega)⟩
           obtain ⟨bku, offu, au1, nu1, cu1, au2, nu2, cu2, au3, nu3, cu3, au4, nu4, cu4, heu, N0u1, N0u2, N0u3, N0u4, oku1, oku2, inu1, HE0u⟩ := ConC_at (HRy5.out W0 (Only.refl _ _)) hxu
           first
            | subst heu
            | (simp only [Option.some.injEq, Addr.mk.injEq, and_true] at heu; obtain ⟨rfl, rfl⟩ := heu)
           have Nu1 := Lib.hid N0u1
           have Nu2 := Lib.hid N0u2
           have Nu3 := Lib.hid N0u3
           have Nu4 := Lib.hid N0u4
           have HEu := Lib.hid HE0u
           have HXu := Lib.hid hxu
           clear HE0u hxu N0u1 N0u2 N0u3 N0u4
           have HRu1 : Hid (∀ W, Only (fun _ => False) W0 W → RowT 2 SpanC B W (.slice au1 nu1 cu1) yu.cond.spans) := fun W ho => (HEu.out W ho).2.1
           have HRu2 : Hid (∀ W, Only (fun _ => False) W0 W → RowT 2 SetC B W (.slice au2 nu2 cu2) yu.cond.sets) := fun W ho => (HEu.out W ho).2.2.1
           have HRu3 : Hid (∀ W, Only (fun _ => False) W0 W → RowT 2 SpanC B W (.slice au3 nu3 cu3) yu.with'.spans) := fun W ho => (HEu.out W ho).2.2.2.1
           have HRu4 : Hid (∀ W, Only (fun _ => False) W0 W → RowT 2 SetC B W (.slice au4 nu4 cu4) yu.with'.sets) := fun W ho => (HEu.out W ho).2.2.2.2.1
           have HCu : Hid (∀ W, Only (fun _ => False) W0 W → ConC B W [.string yu.cond.name, .slice au1 nu1 cu1, .slice au2 nu2 cu2, .string yu.with'.name, .slice au3 nu3 cu3, .slice au4 nu4 cu4, .int .i64 yu.line] yu) := fun W ho => (HEu.out W ho).2.2.2.2.2
           have HSn : Hid (L1 ++ conRs x p (k + 1) = L1 ++ conRs x p k ++ [⟨3, p, k, yu.line⟩]) := by rw [conRs_succ, HPg.out, List.getD_eq_getElem?_getD, HXu.out, ← List.append_assoc]; exact rfl
           have hlenL : (L1 ++ conRs x p k).length ≤ 3100000 := by rw [List.length_append]; unfold conRs; simp; omega
           obtain ⟨L, hL⟩ : ∃ L, L1 ++ conRs x p k = L := ⟨_, rfl⟩
           rw [hL] at HV hlenL HSn
           obtain ⟨au, cu, rfl, -, -⟩ := own_slice HV.out.1
           clear hL
           go_wp2_with fail
           refine wp_region_G (n := 16) (E := fun _ => false) (S := fun W => Only F2 W3 W) (by kernel_rfl) rfl (by exact HPk.out.drew) (fun hHeld => ?_)
           refine tqW (i := 0) (v := ?_) rfl (.inr (by assumption)) ?_ ?_
           rotate_left
           ·(intro w; go_simp <;> (try with_reducible rfl))
           try simp only [Act.put, zq1, zq3, zq4, zq5, zq6]
           refine tqW (i := 1) (v := ?_) rfl (.inr (by assumption)) ?_ ?_
           rotate_left
           ·(intro w; go_simp <;> (try with_reducible rfl))
           try simp only [Act.put, zq1, zq2, zq3, zq4, zq5, zq6]
           refine tqW (i := 2) (v := ?_) rfl (.inr (by assumption)) ?_ ?_
           rotate_left
           ·(intro w; go_simp <;> (try with_reducible rfl))
           try simp only [Act.put, zq1, zq2, zq3, zq4, zq5, zq6]
           refine tqW (i := 3) (v := ?_) rfl (.inr (by assumption)) ?_ ?_
           rotate_left
           ·(intro w; go_simp <;> (try with_reducible rfl))
           try simp only [Act.put, zq1, zq2, zq3, zq4, zq5, zq6]
           refine tqK (i := 4) (v := ?_) rfl ?_ ?_
           rotate_left
           ·(intro w hSw; obtain ⟨k0, k1, k2⟩ := HBox.out w (HUp.out w hSw); obtain ⟨d5, d6⟩ := HBp.out w hSw; have hcI := HIc.out w hSw; have hru := (HEu.out w (HUp.out w hSw)).1; have gu6 := hru 6 _ rfl; clear hru; go_simp <;> (try with_reducible rfl))
           try simp only [Act.put, zq1, zq2, zq3, zq4, zq5, zq6]
           refine tqW (i := 5) (v := ?_) rfl (.inr (by assumption)) ?_ ?_
           rotate_left
           ·(intro w; go_simp <;> (try with_reducible rfl))
           try simp only [Act.put, zq1, zq2, zq3, zq4, zq5, zq6]
           refine tqW (i := 6) (v := ?_) rfl (.inr (by assumption)) ?_ ?_
           rotate_left
           ·(intro w; go_simp <;> (try with_reducible rfl))
           try simp only [Act.put, zq1, zq2, zq3, zq4, zq5, zq6]
           refine tqK (i := 7) (v := ?_) rfl ?_ ?_
           rotate_left
           ·(intro w hSw; obtain ⟨k0, k1, k2⟩ := HBox.out w (HUp.out w hSw); obtain ⟨d5, d6⟩ := HBp.out w hSw; have hcI := HIc.out w hSw; have hru := (HEu.out w (HUp.out w hSw)).1; have gu6 := hru 6 _ rfl; clear hru; go_simp <;> (try with_reducible rfl))
           try simp only [Act.put, zq1, zq2, zq3, zq4, zq5, zq6]
           refine tqW (i := 8) (v := ?_) rfl (.inr (by assumption)) ?_ ?_
           rotate_left
           ·(intro w; go_simp <;> (try with_reducible rfl))
           try simp only [Act.put, zq1, zq2, zq3, zq4, zq5, zq6]
           refine tqW (i := 9) (v := ?_) rfl (.inr (by assumption)) ?_ ?_
           rotate_left
           ·(intro w; go_simp <;> (try with_reducible rfl))
           try simp only [Act.put, zq1, zq2, zq3, zq4, zq5, zq6]
           refine tqW (i := 10) (v := ?_) rfl (.inr (by assumption)) ?_ ?_
           rotate_left
           ·(intro w; go_simp <;> (try with_reducible rfl))
           try simp only [Act.put, zq1, zq2, zq3, zq4, zq5, zq6]
           refine tqK (i := 11) (v := ?_) rfl ?_ ?_
           rotate_left
           ·(intro w hSw; obtain ⟨k0, k1, k2⟩ := HBox.out w (HUp.out w hSw); obtain ⟨d5, d6⟩ := HBp.out w hSw; have hcI := HIc.out w hSw; have hru := (HEu.out w (HUp.out w hSw)).1; have gu6 := hru 6 _ rfl; clear hru; go_simp <;> (try with_reducible rfl))
           try simp only [Act.put, zq1, zq2, zq3, zq4, zq5, zq6]
           refine tqW (i := 12) (v := ?_) rfl (.inr (by assumption)) ?_ ?_
           rotate_left
           ·(intro w; go_simp <;> (try with_reducible rfl))
           try simp only [Act.put, zq1, zq2, zq3, zq4, zq5, zq6]
           refine wpAnyG_ready (rs := [13]) (by kernel_rfl) (by simp) ?_
           refine AllReadyG.cons (i := 13) rfl (fun K hK => ?_) ?_
           ·go_simp
            refine hK.out _ _ ?_ (fun hHeld => ?_)
            ·(try dsimp only) <;> (exact hHeld.alloc _)
            clear hK K
            try simp only [Act.put, zq1, zq2, zq3, zq4, zq5, zq6]
            refine wpAnyG_ready (rs := [14]) (by kernel_rfl) (by simp) ?_
            refine AllReadyG.cons (i := 14) rfl (fun K hK => ?_) ?_
            ·(refine stepAN (news := RuleD.cells ⟨3, p, k, yu.line⟩) slRule (by rfl) (.tmp 75) (.tmp 88) (by rfl) (by rfl) (own_only HV.out.1 (by repeat (first | exact Only.refl _ _ | apply Only.drew | apply Only.alloc | apply Only.drewN)) (fun _ _ f => f)) (by rfl) (by rfl) (fun h => by cases h) (fun ad e j u hu => by cases e; rw [Go.WideShapes.add_plain]; exact rangeAt_new (cs := RuleD.cells ⟨3, p, k, yu.line⟩) rfl j u hu) (RuleD.one _) (by omega) (by decide) ?_; intro ao5 cap5 w5 r5 o5 nr5)
             refine hK.out _ _ ?_ (fun hHeld => ?_)
             ·(try dsimp only) <;> (exact hHeld.trans o5 (fun k hk => .inl (HV.out.2 k hk)))
             clear hK K
             try simp only [Act.put, zq1, zq2, zq3, zq4, zq5, zq6]
             refine tqW (i := 15) (v := ?_) rfl (.inr (by assumption)) ?_ ?_
             rotate_left
             ·(intro w; go_simp <;> (try with_reducible rfl))
             try simp only [Act.put, zq1, zq2, zq3, zq4, zq5, zq6]
             refine wpAnyG_done (by kernel_rfl) ?_ _
             have HPn := Lib.hid hHeld
             have HVn : Hid (RuIn F2 w5 (.slice ao5 (L.length + 1) cap5) (L1 ++ conRs x p (k + 1))) := by
              rw [HSn.out]
              refine RuIn.app HV.out (fun k hk => HF2.out k ?_) r5 nr5
              have := HPk.out.size
              simp at hk
              omega
             clear hHeld r5 o5 nr5
             go_wp2_with fail
             go_roundw
             case rel => exact ⟨HPn, k + 1, by first | rfl | go_num, by omega, HVn⟩
             case measure => simp [RowKit.intOf] <;> omega
            exact AllReadyG.nil
           exact AllReadyG.nil
          ·obtain rfl : ny5 = k := by omega
           have HVi : Hid (RuIn F1 wrk u5 (rootRs q n_q_roots ++ (l.take (i + 1)).flatMap (packRs x))) := by
            rw [HNx.out]
            exact HV.out.mono fun k hk => (HF12.out k hk)
           have HOi2 : Hid (Only F1 W1 wrk) := HO13.out.trans HPk.out (fun k hk => .inl (HF12.out k hk))
           go_wp2_with fail
           go_roundw
           case rel => exact ⟨HOi2, i + 1, by first | rfl | go_num, by omega, HVi⟩
           case measure => simp [RowKit.intOf] <;> omega
      exact AllReadyG.nil
     exact AllReadyG.nil
    ·obtain rfl : nl = i := by omega
     obtain ⟨au, cu, hu5, -, -⟩ := own_slice HV.out.1
     subst hu5
     go_wp2_with fail
     go_ret
     refine ⟨_, rfl, ?_, HOB.out.same (HUp.out wri HOi.out)⟩
     have h1 := HV.out
     rw [List.take_of_length_le (Nat.le_of_eq NL.out)] at h1
     have e1 : rulesOf x q l = rootRs q n_q_roots ++ l.flatMap (packRs x) := by unfold rulesOf; rw [N_q_roots.out]
     rw [List.take_of_length_le (Nat.le_of_eq NL.out), e1]
     exact ⟨h1.1, fun k hk => by have := HF10.out k (h1.2 k hk); have := HOB.out.size; omega⟩
end
end Go.Proofs.YtbapkcnfacklaaaGreat
