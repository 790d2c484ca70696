/- The walk of (*solve.Solver).forgets. Printed by gen_fg10.py. -/
import Derived.Test.YtjedgdamommgeaaGreatFg9
import Derived.Test.YtjedgdamommgeaaGreatSolD
set_option linter.unusedVariables false
namespace Go.Proofs.YtjedgdamommgeaaGreat
open Go.Shelf Go.RowKit Go.Lib Go.Sort
open Tr
open Sv (dropAll)
section
variable {w w' : World} {G G' : Tag} {b : Nat} {V : SvV} {S : Sv.St}
theorem enter_forgets1 : ∀ args w, (callFunc 85 args).run Tryz.prog w = .ok (.enter 85 args) w := enters_of Tryz.func85 (by kernel_rfl) rfl
theorem forgets1_any {vo : Value} {gone : List Int} {q : Nat} (hc : w.cell? ⟨q, 0, none⟩ = some vo) (hI : Ints w vo gone) (hn : gone.length ≤ 1099511627776) (hs : gone.Pairwise (· ≤ ·)) {F : Nat → Prop} (hq : ¬ F q) (hF : 0 < gone.length → ∀ k, Value.blk vo = some k → ¬ F k) :
  PredN 85 #[.pointer (some ⟨q, 0, none⟩)] (fun x => gone.contains x.num) F w := by
 intro W x hO
 obtain ⟨n, s, l, m⟩ := x
 unfold encN
 dsimp only
 have hcW : W.cell? ⟨q, 0, none⟩ = some vo := cell_keep hc hO hq
 have hIW := hI.only' hO hF
 obtain ⟨W1, hW1⟩ : ∃ W1, W.alloc (.cells #[.int .i64 n, .int .i64 s, .int .i64 l, .bool m] 116) = W1 := ⟨_, rfl⟩
 obtain ⟨A, hA⟩ : ∃ A, W.heap.size = A := ⟨_, rfl⟩
 have bA : W1.heap[A]? = some (.cells #[.int .i64 n, .int .i64 s, .int .i64 l, .bool m] 116 (0, 0)) := by rw [← hW1, ← hA]; exact heap_alloc_new _ _
 have a0 : W1.cell? ⟨A, 0, none⟩ = some (.int .i64 n) := by rw [cell_block bA]; rfl
 have o1 : Only (fun _ => False) W W1 := by rw [← hW1]; exact (Only.refl _ _).alloc _
 have q1 : W1.cell? ⟨q, 0, none⟩ = some vo := cell_keep hcW o1 (fun f => f)
 have HB := Lib.hid (BinS_any (hIW.only0 o1) hn hs n)
 have HO := Lib.hid o1
 obtain ⟨ao, cap, rfl, -, -⟩ := hIW.shape
 obtain ⟨r, hr⟩ : ∃ r, gone.contains n = r := ⟨_, rfl⟩
 rw [hr] at HB ⊢
 clear hr hc hI hO hcW hIW bA o1 hq hF
 go_enter Tryz.func85, Tryz.ntmps85
 go_wp2_with fail
 refine HB.out.mono ?_
 rintro e w1 ⟨k, rfl, rfl⟩
 go_wp2_with fail
 go_ret
 exact ⟨rfl, HO.out⟩
structure FgAt (w : World) (G : Tag) (b : Nat) (V : SvV) (S : Sv.St) (ms : List Bool) (gone : List Int) (vo : Value) (q : Nat) (j : Nat) (G1 : Tag) (V1 : SvV) (wr : World) : Prop where
 at_ : SvAt wr G1 b V1 (S.gone1 (gone.take j))
 vl : V1.vl = V.vl
 ns : V1.ns = flatN (noteQ S.learnt ms)
 aa : V1.A = V.A
 ag : Agree w G G1
 on : Only (Mine G) w wr
 cell : wr.cell? ⟨q, 0, none⟩ = some vo
 row : Ints wr vo gone
 tq : (G1 q).1 = 0
 tv : NotMine G1 vo gone
theorem dropAll_n : ∀ (gs : List Int) (T : Trail), (dropAll T gs).n = T.n
 | [], _ => rfl
 | g :: r, T => (dropAll_n r (T.drop g)).trans (drop_ents T g).2.1
theorem FgAt.val {w : World} {G : Tag} {b : Nat} {V : SvV} {S : Sv.St} {ms : List Bool} {gone : List Int} {vo : Value} {q j : Nat} {G1 : Tag} {V1 : SvV} {wr : World} (h : FgAt w G b V S ms gone vo q j G1 V1 wr) (hop : Opens V S) {S' : Sv.St} (hn : S'.T.n = S.T.n) (hv : ∀ x, S'.T.val x = S.T.val x) : Opens V1 S' := fun a ha h0 => by
 rw [h.aa]
 exact hop a (by rw [← hn]; exact ha) (by rw [← hv]; exact h0)
set_option maxRecDepth 100000 in
set_option maxHeartbeats 12800000 in
theorem solve_forgets_any {n0 : Nat} {O0 : List (List Int)} (H : SvAt w G b V S) (hop : Opens V S) (hh : Sv.Holds n0 O0 S) (hsz : S.proof.length + S.learnt.length ≤ 1099511627776) :
  Calls Tryz.prog 45 #[.pointer (some ⟨b, 0, none⟩)] w fun e w' => e = .returned (.tuple #[]) ∧ ∃ gone, Sv.Gone S gone ∧ SvOk w G b (S.forget gone) w' := by
 have I := hh.inv
 obtain ⟨ms0, hm0⟩ := SvM.start H
 obtain ⟨al, cl, hvl, hc1, hc2⟩ := own_slice H.learnt.own
 have q4 := H.f4
 have q1 := H.f1
 rw [hvl] at q4
 obtain ⟨n, hn⟩ : ∃ n, S.learnt.length = n := ⟨_, rfl⟩
 rw [hn] at q4 hc1 hsz hvl
 have hnb : n ≤ 1099511627776 := by omega
 -- what is known of each note
 have hnum : ∀ i (h : i < S.learnt.length), ∃ c, S.T.clauseL (S.learnt[i]'h).num = some c ∧ (∀ l ∈ c, l ≠ 0 ∧ l.natAbs ≤ S.T.n) ∧ c.length ≤ 1099511627776 := fun i h => by
  obtain ⟨k, hk, hl⟩ := hh.lnum _ (List.getElem_mem h)
  rw [hk, clauseL_live hl]
  have hg := Sv.cl_good I.ok hl
  refine ⟨_, rfl, fun l hl2 => hg.lit l ((Cnf.mem_formL _ _).1 hl2), ?_⟩
  have h1 := formL_len (S.T.cl k)
  have h2 := hg.len
  have h3 := I.ok.n
  omega
 have HH := Lib.hid H
 have HOp := Lib.hid hop
 have HHo := Lib.hid hh
 have HI := Lib.hid I
 have HN := Lib.hid hn
 have HNum := Lib.hid hnum
 have HVl := Lib.hid hvl
 have hm0' := Lib.hid hm0
 have HSz := Lib.hid hsz
 have HK := Lib.hid (fun (i : Nat) (u : Value) (h : w.cell? ⟨b, i, none⟩ = some u) (wr : World) (ms : List Bool) (hm : SvM w G b V S ms wr) => (cell_keep h hm.2.2 (by rw [H.tb]; decide) : wr.cell? ⟨b, i, none⟩ = some u))
 have Q1 := Lib.hid q1
 have Q4 := Lib.hid q4
 have hbt := H.tb
 have HBt := Lib.hid hbt
 obtain ⟨bt, hbtv⟩ : ∃ bt, V.bt = bt := ⟨_, rfl⟩
 rw [hbtv] at q1 Q1
 have HBv := Lib.hid hbtv
 clear H hop hh I hn hnum hvl hm0 hsz hbt hbtv
 go_enter Tryz.func45, Tryz.ntmps45
 go_wp2_with fail
 clear q1 q4
 go_loopw [17] (fun vi wr => ∃ (i : Nat) (ms : List Bool), vi = .int .i64 i ∧ i ≤ n ∧ Hid (SvM w G b V S ms wr) ∧ Hid (∀ j (h : j < S.learnt.length), j < i → ms.getD j false = Sv.lockedB S.T (S.learnt[j]'h).num)) (fun v _ => n - (intOf v).toNat)
 case atStart => exact ⟨0, ms0, rfl, Nat.zero_le _, hm0', show Hid _ from fun j _ h => by omega⟩
 case round =>
  clear hm0'
  obtain ⟨i, ms, rfl, hi, HM, HMk⟩ := hrel
  by_cases ci : i < n
  ·have hiL : i < S.learnt.length := by rw [HN.out]; exact ci
   obtain ⟨bl, cap', he, -, -⟩ := own_some HH.out.learnt.own (show 0 < S.learnt.length by omega)
   rw [HVl.out] at he
   simp only [Value.slice.injEq] at he
   obtain ⟨rfl, -, rfl⟩ := he
   obtain ⟨c, hcc, hcg, hcl⟩ := HNum.out i hiL
   obtain ⟨x, hx⟩ : ∃ x : NQ, x = ⟨S.learnt[i].num, S.learnt[i].size, S.learnt[i].levels, ms[i]'(by rw [HM.out.2.1]; exact hiL)⟩ := ⟨_, rfl⟩
   obtain ⟨xn, hxn⟩ : ∃ xn, S.learnt[i].num = xn := ⟨_, rfl⟩
   have hrow := HM.out.row
   rw [HVl.out] at hrow
   have hr := hrow.range (i := i) (by rw [noteQ_len HM.out.2.1]; exact hiL)
   rw [noteQ_at HM.out.2.1 hiL, ← hx] at hr
   have hxnum : x.num = xn := by rw [hx]; exact hxn
   obtain ⟨Bk, hBk⟩ : ∃ Bk, wr.heap.size = Bk := ⟨_, rfl⟩
   obtain ⟨wA, hwA⟩ : ∃ wA, wr.alloc (.cells #[.int .i64 0, .int .i64 0, .int .i64 0, .bool false] 116) = wA := ⟨_, rfl⟩
   have hbA : wA.heap[Bk]? = some (.cells #[.int .i64 0, .int .i64 0, .int .i64 0, .bool false] 116 (0, 0)) := by rw [← hwA, ← hBk]; exact heap_alloc_new _ _
   obtain ⟨w9, hw9⟩ : ∃ w9, wA.setCells Bk 0 (encN x) = w9 := ⟨_, rfl⟩
   have htA : wA.there Bk 0 4 := there_blk hbA rfl
   have hb9 : w9.rangeAt Bk 0 (encN x) := by rw [← hw9]; exact World.rangeAt_setCells_same _ _ _ _ htA
   have o9 : Only (fun _ => False) wr w9 := by rw [← hw9, ← hwA]; exact ((Only.refl _ _).alloc _).trans (only_setCells _ _ _ _) (fun k hk => .inr (by omega))
   have st9 : (storeCells ⟨Bk, 0, none⟩ (encN x) 0).run Tryz.prog wA = .ok () w9 := by rw [← hw9]; exact store_there htA x
   have s1 : w9.cell? ⟨b, 1, none⟩ = some (.pointer (some ⟨bt, 0, none⟩)) := cell_keep (HK.out 1 _ Q1.out wr ms HM.out) o9 (fun f => f)
   have s2 : w9.cell? ⟨Bk, 0, none⟩ = some (.int .i64 xn) := by rw [← hxnum]; exact hb9 0 _ rfl
   have hM9 := HM.out.only0 o9
   obtain ⟨g9, U9, t9, -⟩ := hM9.1.trail
   rw [show ({ V with ns := flatN (noteQ S.learnt ms) } : SvV).bt = bt from HBv.out] at t9
   have HCl := Lib.hid (show ∀ W, Only (fun _ => False) w9 W → Calls Tryz.prog 80 #[.pointer (some ⟨bt, 0, none⟩), .int .i64 xn] W (ClaTo W (some c)) from fun W oW => by
    have := prop_Clause_any (t9.only0 oW) HI.out.ok xn
    rw [← hxn, hcc] at this
    rw [← hxn]
    exact this)
   have HAt := Lib.hid (show ∀ W, Only (fun _ => False) w9 W → ∀ l : Int, l ≠ 0 ∧ l.natAbs ≤ S.T.n → ∃ p : Int, Calls Tryz.prog 81 #[.pointer (some ⟨bt, 0, none⟩), .int .i64 (l.natAbs : Int)] W fun e w' => e = .returned (.tuple #[.int .i64 p, .int .i64 (S.T.why l)]) ∧ Only (fun _ => False) W w' from fun W oW l hl => by
    have hn2 := HI.out.ok.n
    have ea := absW_lit hl hn2
    refine ⟨(S.T.at (l.natAbs : Int)).1, ?_⟩
    have := prop_At_any (t9.only0 oW) HI.out.ok (l.natAbs : Int) (by unfold InI64; omega) _ rfl
    unfold Tr.Trail.why
    rw [ea]
    exact this)
   have hlk : Sv.lockedB S.T xn = c.any fun l => S.T.why l == xn := by
    unfold Sv.lockedB
    rw [← hxn, hcc]
    rfl
   have HS9 := Lib.hid (show ∀ W, Only (fun _ => False) w9 W → W.cell? ⟨b, 1, none⟩ = some (.pointer (some ⟨bt, 0, none⟩)) ∧ W.cell? ⟨Bk, 0, none⟩ = some (.int .i64 xn) from fun W oW => ⟨cell_keep s1 oW (fun f => f), cell_keep s2 oW (fun f => f)⟩)
   have hS0 := HS9.out w9.drew ((Only.refl _ _).drew)
   have HRg := Lib.hid hr
   have HM9 := Lib.hid hM9
   have HLk := Lib.hid hlk
   have HCg := Lib.hid hcg
   have HXn := Lib.hid hxn
   have q4 := HK.out 4 _ Q4.out wr ms HM.out
   have HN2 := Lib.hid HI.out.ok.n
   clear hr hbA hb9 o9 hx hw9 htA hM9 t9 hcc hcg hlk hrow hxn hxnum s1 s2
   go_wp2_with (refine wpList_load_mid rfl 116 (.tmp 20) rfl bl (i * 4) rfl (encN x) _ HRg.out Tryz.underlying116 rfl (by kernel_rfl) ?_)
   clear st9 q4
   refine wp_region_G (n := 9) (E := fun _ => false) (S := fun W => W.cell? ⟨b, 1, none⟩ = some (.pointer (some ⟨bt, 0, none⟩)) ∧ W.cell? ⟨Bk, 0, none⟩ = some (.int .i64 xn)) (by kernel_rfl) rfl hS0 (fun hHeld => ?_)
   refine tqW (i := 0) (v := ?_) rfl (.inr (by assumption)) ?_ ?_
   rotate_left
   ·(intro w; go_simp <;> (try with_reducible rfl))
   try simp only [Act.put, zq1, zq3, zq4, zq5, zq6]
   refine tqW (i := 1) (v := ?_) rfl (.inr (by assumption)) ?_ ?_
   rotate_left
   ·(intro w; go_simp <;> (try with_reducible rfl))
   try simp only [Act.put, zq1, zq2, zq3, zq4, zq5, zq6]
   refine tqW (i := 2) (v := ?_) rfl (.inr (by assumption)) ?_ ?_
   rotate_left
   ·(intro w; go_simp <;> (try with_reducible rfl))
   try simp only [Act.put, zq1, zq2, zq3, zq4, zq5, zq6]
   refine tqK (i := 3) (v := ?_) rfl ?_ ?_
   rotate_left
   ·(intro w hSw; (try dsimp only at hSw); go_simp <;> (try with_reducible rfl))
   try simp only [Act.put, zq1, zq2, zq3, zq4, zq5, zq6]
   refine tqW (i := 4) (v := ?_) rfl (.inr (by assumption)) ?_ ?_
   rotate_left
   ·(intro w; go_simp <;> (try with_reducible rfl))
   try simp only [Act.put, zq1, zq2, zq3, zq4, zq5, zq6]
   refine tqK (i := 5) (v := ?_) rfl ?_ ?_
   rotate_left
   ·(intro w hSw; (try dsimp only at hSw); go_simp <;> (try with_reducible rfl))
   try simp only [Act.put, zq1, zq2, zq3, zq4, zq5, zq6]
   refine tqW (i := 8) (v := ?_) rfl (.inr (by assumption)) ?_ ?_
   rotate_left
   ·(intro w; go_simp <;> (try with_reducible rfl))
   try simp only [Act.put, zq1, zq2, zq3, zq4, zq5, zq6]
   refine wpAnyG_ready (rs := [6]) (by kernel_rfl) (by simp) ?_
   refine AllReadyG.cons (i := 6) rfl (fun K hK => ?_) ?_
   ·(obtain ⟨s1, s2⟩ := hHeld; go_simp; refine (HCl.out _ ((Only.refl _ _).drew)).mono ?_; rintro e w10 ⟨ac, cc, rfl, hown, hnew, O10⟩; try go_wp2_with fail)
    refine hK.out _ _ ?_ (fun hHeld => ?_)
    ·(try dsimp only) <;> (exact HS9.out _ (Only.same (by repeat (first | exact Only.refl _ _ | apply Only.drew | apply Only.alloc | apply Only.drewN)) O10))
    clear hK K
    try simp only [Act.put, zq1, zq2, zq3, zq4, zq5, zq6]
    refine tqW (i := 7) (v := ?_) rfl (.inr (by assumption)) ?_ ?_
    rotate_left
    ·(intro w; go_simp <;> (try with_reducible rfl))
    try simp only [Act.put, zq1, zq2, zq3, zq4, zq5, zq6]
    refine wpAnyG_done (by kernel_rfl) ?_ _
    have hIc : Ints w10 (.slice (some ac) c.length cc) c := Ints.of_own hown (fun y hy => by have := HCg.out y hy; have := HN2.out; unfold InI64; omega)
    have HIc := Lib.hid hIc
    have HO10 := Lib.hid (show Only (fun _ => False) w9 w10 from Only.same (by repeat (first | exact Only.refl _ _ | apply Only.drew | apply Only.alloc | apply Only.drewN)) O10)
    clear hown hnew O10 hIc s1 s2 hS0
    go_wp2_with fail
    generalize wr = wo at *
    go_loopw [4, 30] (fun v4 vi wr => ∃ (j : Nat), vi = .int .i64 j ∧ j ≤ c.length ∧ v4 = .bool ((c.take j).any fun l => S.T.why l == xn) ∧ Hid (Only (fun _ => False) w10 wr)) (fun _ v _ => c.length - (intOf v).toNat)
    case atStart => exact ⟨0, rfl, Nat.zero_le _, rfl, show Hid _ from Only.refl _ _⟩
    case round =>
     obtain ⟨j, rfl, hj, rfl, HO⟩ := hrel
     by_cases cj : j < c.length
     ·obtain ⟨bc, oc, hac, _, hcs⟩ := (HIc.out.only0 HO.out).cells _ _ _ rfl (by omega)
      injection hac with hac
      subst hac
      have qx := hcs j cj
      obtain ⟨l, hl⟩ : ∃ l, c.getD j 0 = l := ⟨_, rfl⟩
      have hlg := HCg.out _ (getD_mem' 0 cj)
      rw [hl] at qx hlg
      have hn2 := HN2.out
      have ewn : IntKind.i64.wrap (-l) = -l := by rw [IntKind.wrap_i64]; omega
      have hmx : max l (-l) = (l.natAbs : Int) := by omega
      obtain ⟨p, hat⟩ := HAt.out wr (HO10.out.same HO.out) l hlg
      obtain ⟨s1, s2⟩ := HS9.out wr (HO10.out.same HO.out)
      have htk : ((c.take (j + 1)).any fun l => S.T.why l == xn) = (((c.take j).any fun l => S.T.why l == xn) || (S.T.why l == xn)) := by rw [take_snocI c j cj, hl, List.any_append]; simp
      obtain ⟨r, hr⟩ : ∃ r, S.T.why l = r := ⟨_, rfl⟩
      rw [hr] at hat htk
      have HTk := Lib.hid htk
      have HA2 := Lib.hid hat
      have ewj : IntKind.i64.wrap ((j : Int) + 1) = (j : Int) + 1 := by rw [IntKind.wrap_i64]; omega
      clear hcs hl hlg hn2 htk hr hat
      generalize hgA : ((c.take j).any fun l => S.T.why l == xn) = A0 at *
      have HGA := Lib.hid hgA
      clear hgA
      cases A0 with
      | true =>
       go_wp2_with fail
       refine HA2.out.mono ?_
       rintro e w11 ⟨rfl, O11⟩
       have HO11 := Lib.hid (HO.out.same O11)
       clear O11 s1 s2 qx
       go_wp2_with fail
       go_roundw
       case rel => exact ⟨j + 1, by first | rfl | go_num, by omega, by rw [HTk.out]; rfl, HO11⟩
       case measure => simp [intOf] <;> omega
      | false =>
       by_cases cr : r = xn
       ·have dr : (r == xn) = true := beq_iff_eq.2 cr
        have dr2 : decide (r = xn) = true := decide_eq_true cr
        rw [dr] at HTk
        have HCr := Lib.hid cr
        clear cr
        go_wp2_with fail
        refine HA2.out.mono ?_
        rintro e w11 ⟨rfl, O11⟩
        have HO11 := Lib.hid (HO.out.same O11)
        have s3 := cell_keep s2 O11 (fun f => f)
        clear O11 s1 s2 qx
        go_wp2_with fail
        go_roundw
        case rel => exact ⟨j + 1, by first | rfl | go_num, by omega, by rw [HTk.out]; rfl, HO11⟩
        case measure => simp [intOf] <;> omega
       ·have dr : (r == xn) = false := beq_eq_false_iff_ne.2 cr
        have dr2 : decide (r = xn) = false := decide_eq_false cr
        rw [dr] at HTk
        go_wp2_with fail
        refine HA2.out.mono ?_
        rintro e w11 ⟨rfl, O11⟩
        have HO11 := Lib.hid (HO.out.same O11)
        have s3 := cell_keep s2 O11 (fun f => f)
        clear O11 s1 s2 qx
        go_wp2_with fail
        go_roundw
        case rel => exact ⟨j + 1, by first | rfl | go_num, by omega, by rw [HTk.out]; rfl, HO11⟩
        case measure => simp [intOf] <;> omega
     ·obtain rfl : j = c.length := by omega
      rw [List.take_of_length_le (Nat.le_refl _)]
      obtain ⟨lk, hlk⟩ : ∃ lk, (c.any fun l => S.T.why l == xn) = lk := ⟨_, rfl⟩
      rw [hlk]
      have hM := HM9.out.only0 (HO10.out.same HO.out)
      have q4 := HK.out 4 _ Q4.out wr ms hM
      have q1 := HK.out 1 _ Q1.out wr ms hM
      have hrow := hM.row
      rw [HVl.out] at hrow
      have hiq : i < (noteQ S.learnt ms).length := by rw [noteQ_len hM.2.1]; exact hiL
      have hr3 : ∃ u, wr.cell? ⟨bl, i * 4 + 3, none⟩ = some u := ⟨_, hrow.range hiq 3 (.bool ((noteQ S.learnt ms).getD i default).mark) rfl⟩
      obtain ⟨u3, q3⟩ := hr3
      have f3 : wr.frozen? ⟨bl, i * 4 + 3, none⟩ = false := (hrow.there hiq 3 (by omega)).2
      have hM2 := hM.mark HVl.out hiL lk
      have HM2 := Lib.hid hM2
      have HLk2 := Lib.hid hlk
      have ewi : IntKind.i64.wrap ((i : Int) + 1) = (i : Int) + 1 := by rw [IntKind.wrap_i64]; omega
      clear hM hrow hlk hM2
      go_wp2_with fail
      go_roundw
      case rel => exact ⟨i + 1, ms.set i lk, by first | rfl | go_num, by omega, HM2, show Hid _ from fun q hq hqi => by
       by_cases c1 : q = i
       ·subst c1
        rw [List.getD_eq_getElem?_getD, List.getElem?_set_self (by rw [HM.out.2.1]; exact hq), HXn.out, HLk.out, HLk2.out]
        rfl
       ·have := HMk.out q hq (by omega)
        rw [List.getD_eq_getElem?_getD, List.getElem?_set_ne (fun e => c1 e.symm), ← List.getD_eq_getElem?_getD]
        exact this⟩
      case measure => simp [intOf] <;> omega
   exact AllReadyG.nil
  ·obtain rfl : n = i := by omega
   have hmarks : Sv.MarksOk S ms := ⟨HM.out.2.1, fun j h => HMk.out j h (by rw [← HN.out]; exact h)⟩
   have q4 := HK.out 4 _ Q4.out wr ms HM.out
   have hrow := HM.out.row
   rw [HVl.out] at hrow
   have hFo := Forget_any hrow (by rw [noteQ_len HM.out.2.1, HN.out]; exact hnb)
   rw [noteQ_len HM.out.2.1, HN.out] at hFo
   have HFo := Lib.hid hFo
   have HMa := Lib.hid hmarks
   clear hFo hrow hmarks HMk
   go_wp2_with fail
   refine HFo.out.mono ?_
   rintro e w2 ⟨vo, gone, rfl, rg, nb, O2, hgo, hgl⟩
   obtain ⟨ag, cg, rfl, -, -⟩ := own_slice rg
   have hgone := Sv.GoneOf.gone HHo.out HMa.out hgo
   have HGone := Lib.hid hgone
   have HGo := Lib.hid hgo
   have HRg := Lib.hid rg
   have HNb := Lib.hid nb
   have HO2 := Lib.hid O2
   obtain ⟨q9, hq9⟩ : ∃ q9, w2.heap.size = q9 := ⟨_, rfl⟩
   obtain ⟨wB, hwB⟩ : ∃ wB, w2.alloc (.cells #[nilS] 23) = wB := ⟨_, rfl⟩
   have hbB : wB.heap[q9]? = some (.cells #[nilS] 23 (0, 0)) := by rw [← hwB, ← hq9]; exact heap_alloc_new _ _
   have cB : wB.cell? ⟨q9, 0, none⟩ = some nilS := by rw [cell_block hbB]; rfl
   have fB : wB.frozen? ⟨q9, 0, none⟩ = false := free_block hbB 0
   obtain ⟨wC, hwC⟩ : ∃ wC, wB.setCell ⟨q9, 0, none⟩ (.slice ag gone.length cg) = wC := ⟨_, rfl⟩
   have cC : wC.cell? ⟨q9, 0, none⟩ = some (.slice ag gone.length cg) := by rw [← hwC]; exact World.cell?_setCell_same _ _ _ cB
   have oC : Only (fun _ => False) w2 wC := by rw [← hwC, ← hwB]; exact ((Only.refl (fun _ => False) w2).alloc _).setCell (.inr (by rw [hq9]; exact Nat.le_refl _)) _
   clear q4 O2 hgone hgo rg nb hbB HFo
   go_wp2_with fail
   have hM := HM.out.only0 (HO2.out.same oC)
   have h0 : FgAt w G b V S ms gone (.slice ag gone.length cg) q9 0 G { V with ns := flatN (noteQ S.learnt ms) } wC := by
    have hfr : ∀ k, wr.heap.size ≤ k → (G k).1 = 0 := fun k hk => HH.out.fresh k (Nat.le_trans HM.out.2.2.size hk)
    refine ⟨?_, rfl, rfl, rfl, Agree.refl _ _, hM.2.2.mono fun q hq => by unfold Mine; rw [hq]; decide, cC, Ints.of_own (own_only HRg.out oC (fun _ _ f => f)) ?_, hfr _ (by rw [← hq9]; exact HO2.out.size), fun hp k hk => ?_⟩
    ·rw [List.take_zero, Sv.gone1_nil]
     exact hM.1
    ·intro k hk
     obtain ⟨x, hx, hxk, -⟩ := HGone.out.sub k hk
     obtain ⟨m, hm, hlm⟩ := HHo.out.lnum x hx
     have h1 := hlm.1
     have h2 := HI.out.ok.cb
     unfold InI64; omega
    ·obtain ⟨bq, cq, hq, -, -⟩ := own_some HRg.out hp
     simp only [Value.slice.injEq] at hq
     obtain ⟨rfl, -, -⟩ := hq
     simp [Value.blk] at hk
     subst hk
     exact hfr _ (HNb.out _ rfl)
   have H0 := Lib.hid h0
   clear h0 hM hwB hwC cB fB cC oC
   go_loopw [70] (fun vi wr => ∃ (j : Nat) (G1 : Tag) (V1 : SvV), vi = .int .i64 j ∧ j ≤ gone.length ∧ Hid (FgAt w G b V S ms gone (.slice ag gone.length cg) q9 j G1 V1 wr)) (fun v _ => gone.length - (intOf v).toNat)
   case atStart => exact ⟨0, _, _, rfl, Nat.zero_le _, H0⟩
   case round =>
    clear H0
    obtain ⟨j, G1, V1, rfl, hj, HF⟩ := hrel
    by_cases cj : j < gone.length
    ·obtain ⟨k, hgk, hl1, hl2, hck, hinv⟩ := Sv.dropAll_clause HHo.out HGone.out cj
     obtain ⟨c, hcc⟩ : ∃ c, Cnf.formL (S.T.cl k) = c := ⟨_, rfl⟩
     have hc1 : S.T.clauseL k = some c := by rw [clauseL_live hl1, hcc]
     rw [hc1] at hck
     have hg := Sv.cl_good HI.out.ok hl1
     have hcg : ∀ l ∈ c, l ≠ 0 ∧ l.natAbs ≤ S.T.n := fun l hl => hg.lit l (by rw [← hcc] at hl; exact (Cnf.mem_formL _ _).1 hl)
     have hn2 := HI.out.ok.n
     have hF := HF.out
     obtain ⟨bq, oq, hbq, _, hcs⟩ := hF.row.cells _ _ _ rfl (by omega)
     subst hbq
     have qg := hcs j cj
     rw [hgk] at qg
     obtain ⟨t, U, t1, t2⟩ := hF.at_.trail
     obtain ⟨bt1, hbt1⟩ : ∃ bt1, V1.bt = bt1 := ⟨_, rfl⟩
     rw [hbt1] at t1
     have s1 := hF.at_.f1
     rw [hbt1] at s1
     obtain ⟨ap, cp, hvp, -, -⟩ := own_slice hF.at_.proof.own
     have s8 := hF.at_.f8
     rw [hvp] at s8
     have f8 := hF.at_.free 8
     have hlen : (S.gone1 (gone.take j)).proof.length = S.proof.length + j := by
      unfold Sv.St.gone1
      rw [List.length_append, List.length_map, List.length_take]; omega
     rw [hlen] at hvp s8
     obtain ⟨P, hP⟩ : ∃ P, S.proof.length + j = P := ⟨_, rfl⟩
     rw [hP] at hvp s8 hlen
     have hPb : P + 1 ≤ 1099511627776 := by have := HSz.out; omega
     have hrow : RowZ wr G1 (7, 0) 76 2 (.slice ap P cp) P (stepCells V1.us (S.gone1 (gone.take j)).proof) := by
      have := hF.at_.proof
      rw [hlen, hvp] at this
      exact this
     have HCl := Lib.hid (show ∀ W, Only (fun _ => False) wr W → Calls Tryz.prog 80 #[.pointer (some ⟨bt1, 0, none⟩), .int .i64 (k : Int)] W (ClaTo W (some c)) from fun W oW => by
      have := prop_Clause_any (t1.only0 oW) hinv.ok (k : Int)
      rw [show (S.gone1 (gone.take j)).T.clauseL (k : Int) = some c from hck] at this
      exact this)
     have HS5 := Lib.hid (show ∀ W, Only (fun q => G1 q = (7, 0)) wr W → W.cell? ⟨b, 8, none⟩ = some (.slice ap P cp) ∧ W.frozen? ⟨b, 8, none⟩ = false ∧ W.cell? ⟨b, 1, none⟩ = some (.pointer (some ⟨bt1, 0, none⟩)) from fun W oW => by
      have hb : ¬ G1 b = (7, 0) := by rw [hF.at_.tb]; decide
      exact ⟨cell_keep s8 oW hb, free_keep s8 f8 oW hb, cell_keep s1 oW hb⟩)
     have hS0 := HS5.out wr.drew ((Only.refl _ _).drew)
     have HRow := Lib.hid hrow
     have HPb := Lib.hid hPb
     have HCk := Lib.hid (And.intro hc1 (And.intro hl2 (And.intro hinv (And.intro hgk hcg))))
     have HLen := Lib.hid hlen
     have HN2 := Lib.hid hn2
     have HBt1 := Lib.hid hbt1
     clear hl1 hl2 hck hinv hcc hc1 hg hcg hn2 hcs hgk t1 t2 s1 s8 f8 hvp hrow hP hPb hF hlen hbt1
     go_wp2_with fail
     clear qg
     refine wp_region_G (n := 17) (E := fun i => i == 16) (S := fun W => W.cell? ⟨b, 8, none⟩ = some (.slice ap P cp) ∧ W.frozen? ⟨b, 8, none⟩ = false ∧ W.cell? ⟨b, 1, none⟩ = some (.pointer (some ⟨bt1, 0, none⟩))) (by kernel_rfl) rfl hS0 (fun hHeld => ?_)
     refine tqW (i := 0) (v := ?_) rfl (.inr (by assumption)) ?_ ?_
     rotate_left
     ·(intro w; go_simp <;> (try with_reducible rfl))
     try simp only [Act.put, zq1, zq3, zq4, zq5, zq6]
     refine tqW (i := 1) (v := ?_) rfl (.inr (by assumption)) ?_ ?_
     rotate_left
     ·(intro w; go_simp <;> (try with_reducible rfl))
     try simp only [Act.put, zq1, zq2, zq3, zq4, zq5, zq6]
     refine tqW (i := 2) (v := ?_) rfl (.inr (by assumption)) ?_ ?_
     rotate_left
     ·(intro w; go_simp <;> (try with_reducible rfl))
     try simp only [Act.put, zq1, zq2, zq3, zq4, zq5, zq6]
     refine tqW (i := 3) (v := ?_) rfl (.inr (by assumption)) ?_ ?_
     rotate_left
     ·(intro w; go_simp <;> (try with_reducible rfl))
     try simp only [Act.put, zq1, zq2, zq3, zq4, zq5, zq6]
     refine tqK (i := 4) (v := ?_) rfl ?_ ?_
     rotate_left
     ·(intro w hSw; (try dsimp only at hSw); go_simp <;> (try with_reducible rfl))
     try simp only [Act.put, zq1, zq2, zq3, zq4, zq5, zq6]
     refine tqW (i := 5) (v := ?_) rfl (.inr (by assumption)) ?_ ?_
     rotate_left
     ·(intro w; go_simp <;> (try with_reducible rfl))
     try simp only [Act.put, zq1, zq2, zq3, zq4, zq5, zq6]
     refine tqW (i := 6) (v := ?_) rfl (.inr (by assumption)) ?_ ?_
     rotate_left
     ·(intro w; go_simp <;> (try with_reducible rfl))
     try simp only [Act.put, zq1, zq2, zq3, zq4, zq5, zq6]
     refine tqW (i := 7) (v := ?_) rfl (.inr (by assumption)) ?_ ?_
     rotate_left
     ·(intro w; go_simp <;> (try with_reducible rfl))
     try simp only [Act.put, zq1, zq2, zq3, zq4, zq5, zq6]
     refine tqK (i := 8) (v := ?_) rfl ?_ ?_
     rotate_left
     ·(intro w hSw; (try dsimp only at hSw); go_simp <;> (try with_reducible rfl))
     try simp only [Act.put, zq1, zq2, zq3, zq4, zq5, zq6]
     refine tqW (i := 9) (v := ?_) rfl (.inr (by assumption)) ?_ ?_
     rotate_left
     ·(intro w; go_simp <;> (try with_reducible rfl))
     try simp only [Act.put, zq1, zq2, zq3, zq4, zq5, zq6]
     refine wpAnyG_ready (rs := [10]) (by kernel_rfl) (by simp) ?_
     refine AllReadyG.cons (i := 10) rfl (fun K hK => ?_) ?_
     ·(obtain ⟨s1, s2, s3⟩ := hHeld; go_simp; refine (HCl.out _ ((Only.refl _ _).drew)).mono ?_; rintro e w10 ⟨ac, cc, rfl, hown, hnew, O10⟩; have HOx := Lib.hid (show Only (fun q => G1 q = (7, 0)) wr w10 from ((Only.refl _ _).drew).same (O10.mono fun _ f => f.elim)); have HRL := Lib.hid (HRow.out.drew.only O10 (fun _ _ f => f)); try go_wp2_with fail)
      refine hK.out _ _ ?_ (fun hHeld => ?_)
      ·(try dsimp only) <;> (exact HS5.out _ (by repeat (first | exact HOx.out | exact Only.refl _ _ | apply Only.drew | apply Only.alloc | apply Only.drewN)))
      clear hK K
      try simp only [Act.put, zq1, zq2, zq3, zq4, zq5, zq6]
      refine tqW (i := 11) (v := ?_) rfl (.inr (by assumption)) ?_ ?_
      rotate_left
      ·(intro w; go_simp <;> (try with_reducible rfl))
      try simp only [Act.put, zq1, zq2, zq3, zq4, zq5, zq6]
      refine wpAnyG_ready (rs := [12]) (by kernel_rfl) (by simp) ?_
      refine AllReadyG.cons (i := 12) rfl (fun K hK => ?_) ?_
      ·go_simp
       refine hK.out _ _ ?_ (fun hHeld => ?_)
       ·(try dsimp only) <;> (exact HS5.out _ (by repeat (first | exact HOx.out | exact Only.refl _ _ | apply Only.drew | apply Only.alloc | apply Only.drewN)))
       clear hK K
       try simp only [Act.put, zq1, zq2, zq3, zq4, zq5, zq6]
       refine wpAnyG_ready (rs := [13]) (by kernel_rfl) (by simp) ?_
       refine AllReadyG.cons (i := 13) rfl (fun K hK => ?_) ?_
       ·(refine RowZ.step (us := [.bool true, .slice (some ac) c.length cc]) slStep (by rfl) (.tmp 78) (.tmp 86) (by rfl) (by rfl) (by rfl) rfl (by intro j hj; match j, hj with | 0, _ => simp | 1, _ => simp) (by intro u hu; simp at hu; rcases hu with rfl | rfl <;> rfl) (by repeat (first | exact HRL.out | apply RowZ.drew | apply RowZ.alloc | apply RowZ.drewN)) HPb.out (by decide) ?_; intro bb cap w6 rr1 rr2)
        refine hK.out _ _ ?_ (fun hHeld => ?_)
        ·(try dsimp only) <;> (exact HS5.out _ (Only.same (by repeat (first | exact HOx.out | exact Only.refl _ _ | apply Only.drew | apply Only.alloc | apply Only.drewN)) rr2))
        clear hK K
        try simp only [Act.put, zq1, zq2, zq3, zq4, zq5, zq6]
        refine tqW (i := 14) (v := ?_) rfl (.inr (by assumption)) ?_ ?_
        rotate_left
        ·(intro w; go_simp <;> (try with_reducible rfl))
        try simp only [Act.put, zq1, zq2, zq3, zq4, zq5, zq6]
        refine tqW (i := 15) (v := ?_) rfl (.inr (by assumption)) ?_ ?_
        rotate_left
        ·(intro w; go_simp <;> (try with_reducible rfl))
        try simp only [Act.put, zq1, zq2, zq3, zq4, zq5, zq6]
        refine wpAnyG_ready (rs := [16]) (by kernel_rfl) (by simp) ?_
        refine AllReadyG.late (i := 16) rfl (by kernel_rfl) (fun K hK => ?_) ?_
        ·(obtain ⟨s1, s2, s3⟩ := hHeld; go_simp)
         refine hK.out _ _ ?_
         clear hK K
         try simp only [Act.put, zq1, zq2, zq3, zq4, zq5, zq6]
         refine wpAnyG_done (by kernel_rfl) ?_ _
         have hF := HF.out
         obtain ⟨hc1, hl2, hinv, hgk, hcg⟩ := HCk.out
         have hIc : Ints w10 (.slice (some ac) c.length cc) c := Ints.of_own hown (fun y hy => by have := hcg y hy; have := HN2.out; unfold InI64; omega)
         have rr1' := rr1
         rw [← HLen.out] at rr1'
         obtain ⟨G5, H5, A5, O5⟩ := hF.at_.papp (x := true) (c := c) (u := .slice (some ac) c.length cc) rr2 (by simp) (hIc.only0 (by repeat (first | exact Only.refl _ _ | apply Only.drew | apply Only.alloc | apply Only.drewN))) (fun hp q hq => by
          obtain ⟨bx, cx, hx, -, -⟩ := own_some hown hp
          simp only [Value.slice.injEq] at hx
          obtain ⟨hx1, -, -⟩ := hx
          injection hx1 with hx1
          subst hx1
          simp [Value.blk] at hq
          subst hq
          have h1 := hnew _ rfl
          have h2 := own_lt hown (k := bx) rfl
          exact ⟨h1, by simp; omega⟩) rr1' (by repeat (first | exact (((Only.refl _ _).drew).same O10) | exact Only.refl _ _ | apply Only.drew | apply Only.alloc | apply Only.drewN))
         obtain ⟨w7, hw7⟩ : ∃ w7, w6.setCell ⟨b, 8, none⟩ (.slice (some ⟨bb, 0, none⟩) (P + 1) cap) = w7 := ⟨_, rfl⟩
         rw [HLen.out] at H5 O5
         rw [hw7] at H5 O5
         try rw [hw7]
         have q1 := H5.f1
         obtain ⟨t', U', t1', t2'⟩ := H5.trail
         have hdr := prop_Drop_yes t1' hinv k hl2
         rw [show ({ V1 with vp := Value.slice (some ⟨bb, 0, none⟩) (P + 1) cap, us := V1.us ++ [Value.slice (some ac) c.length cc] } : SvV).bt = bt1 from HBt1.out] at hdr q1
         have HDr := Lib.hid hdr
         have HH5 := Lib.hid H5
         have HA5 := Lib.hid A5
         have HO5 := Lib.hid O5
         have HT1 := Lib.hid t1'
         have HT2 := Lib.hid t2'
         clear hdr H5 A5 O5 t1' t2' hw7 hIc rr1 rr1' rr2 hF hc1 hl2 hinv hgk hcg hown hnew O10 s1 s2 s3 hS0
         have ewj : IntKind.i64.wrap ((j : Int) + 1) = (j : Int) + 1 := by rw [IntKind.wrap_i64]; omega
         go_wp2_with fail
         refine HDr.out.mono ?_
         rintro e w8 ⟨rfl, h8⟩
         have hnext : ∃ G6 V6, FgAt w G b V S ms gone (.slice (some ⟨bq, oq, none⟩) gone.length cg) q9 (j + 1) G6 V6 w8 := by
          have hF := HF.out
          obtain ⟨hc1, hl2, hinv, hgk, hcg⟩ := HCk.out
          have hd := drop_ents (dropAll S.T (gone.take j)) (k : Int)
          rw [← HBt1.out] at h8
          obtain ⟨G6, H6, A6, O6⟩ := HH5.out.setT HT1.out HT2.out (T' := (dropAll S.T (gone.take j)).drop (k : Int)) hd.2.1 h8
          have hs5 := HO5.out.size
          have hag : Agree wr G1 G6 := HA5.out.trans A6 hs5
          have hon : Only (Mine G1) wr w8 := HO5.out.mine HA5.out (O6.mono fun q hq => by unfold Mine; rw [hq]; decide)
          have hlt : q9 < wr.heap.size := World.block_lt_of_cell? _ _ hF.cell
          refine ⟨G6, { V1 with vp := .slice (some ⟨bb, 0, none⟩) (P + 1) cap, us := V1.us ++ [.slice (some ac) c.length cc] }, ⟨?_, hF.vl, hF.ns, hF.aa, hF.ag.trans hag hF.on.size, hF.on.mine hF.ag hon, cell_keep hF.cell hon (fun h => h hF.tq), hF.row.mine hF.tv hon, by rw [hag _ hlt]; exact hF.tq, hF.tv.agree hF.row hag⟩⟩
          rw [take_snocI gone j cj, hgk, Sv.gone1_snoc S (gone.take j) k hc1]
          exact H6
         obtain ⟨G6, V6, h6⟩ := hnext
         have H6 := Lib.hid h6
         clear h6 h8 q1
         go_wp2_with fail
         go_roundw
         case rel => exact ⟨j + 1, G6, V6, by first | rfl | go_num, by omega, H6⟩
         case measure => simp [intOf] <;> omega
        exact AllReadyG.nil
       exact AllReadyG.nil
      exact AllReadyG.nil
     exact AllReadyG.nil
    ·obtain rfl : j = gone.length := by omega
     have hF := HF.out
     have hat := hF.at_
     rw [List.take_of_length_le (Nat.le_refl _)] at hat
     have s4 := hat.f4
     rw [hF.vl, HVl.out] at s4
     have hrow := hat.learnt.own
     rw [hF.vl, HVl.out, hF.ns] at hrow
     have hnr : NRow wr (.slice al n cl) (noteQ S.learnt ms) := by
      unfold NRow
      rw [noteQ_len HMa.out.len]
      exact hrow
     have ht5 : ∀ k, (Value.slice al n cl).ownBlock = some k → G1 k = (5, 0) := fun k hk => hat.learnt.tg k (by rw [hF.vl, HVl.out]; exact hk)
     have hpr := forgets1_any (F := fun k => (Value.slice al n cl).ownBlock = some k) hF.cell hF.row (by omega) HGo.out.ord (fun h => by have h1 := ht5 _ h; have h2 := hF.tq; rw [h1] at h2; cases h2) (fun hp k hk h => by have h1 := ht5 _ h; have h2 := hF.tv hp k hk; rw [h1] at h2; cases h2)
     have hde := DeleteN_any (p := fun x => gone.contains x.num) hnr (by rw [noteQ_len HMa.out.len, HN.out]; exact hnb) enter_forgets1 hpr
     have HDe := Lib.hid hde
     have HNr := Lib.hid hnr
     have HT5 := Lib.hid ht5
     have HAt := Lib.hid hat
     clear hF hat hrow hnr hpr hde ht5
     go_wp2_with fail
     refine HDe.out.mono ?_
     rintro e w4 ⟨v4, rfl, r4, b4, O4⟩
     have hb4 := only_block HAt.out.blk O4 (fun h => by have h1 := HT5.out _ h; rw [HAt.out.tb] at h1; cases h1)
     have f4 : w4.frozen? ⟨b, 4, none⟩ = false := free_block hb4 4
     have c4 : ∃ u, w4.cell? ⟨b, 4, none⟩ = some u := ⟨_, by rw [cell_block hb4]; rfl⟩
     obtain ⟨u4, c4⟩ := c4
     obtain ⟨ms', hms', hf'⟩ := Sv.noteQ_filter (fun z => !gone.contains z) S.learnt ms HMa.out.len
     have hfin := HAt.out.setL (w1 := w4) (v' := v4) (L' := S.learnt.filter fun x => !gone.contains x.num) (xs' := flatN (noteQ (S.learnt.filter fun x => !gone.contains x.num) ms')) (O4.mono fun q hq => HT5.out q hq) (by
      unfold NRow at r4
      rw [hf', noteQ_len hms'] at r4
      exact r4) (noteQ_cells.2 ⟨ms', hms', rfl⟩) (fun q hq => HT5.out q (by rw [← b4]; exact hq))
     obtain ⟨a4, k4, hv4, -, -⟩ := own_slice r4
     obtain ⟨m4, hm4⟩ : ∃ m4, (List.filter (fun x => !gone.contains x.num) (noteQ S.learnt ms)).length = m4 := ⟨_, rfl⟩
     rw [hm4] at hv4
     subst hv4
     have hF := HF.out
     have hok : SvOk w G b (S.forget gone) (w4.setCell ⟨b, 4, none⟩ (.slice a4 m4 k4)) := by
      obtain ⟨h1, h2⟩ := hfin
      refine ⟨G1, _, h1, ?_, hF.ag, hF.on.mine hF.ag h2⟩
      exact hF.val HOp.out (S' := S.forget gone) (dropAll_n gone S.T) (fun x => Sv.dropAll_val S.T gone x)
     have HOk := Lib.hid hok
     clear hfin hF hok hb4 hf' hms' r4 b4 O4 hm4
     go_wp2_with fail
     go_end0
     exact ⟨rfl, gone, HGone.out, HOk.out⟩
end
end Go.Proofs.YtjedgdamommgeaaGreat
