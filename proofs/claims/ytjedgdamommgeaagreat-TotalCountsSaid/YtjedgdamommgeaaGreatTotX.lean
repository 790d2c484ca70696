/- The walk of cooperlaw23.TotalCounts. -/
import Derived.Test.YtjedgdamommgeaaGreatTotW
set_option linter.unusedVariables false
namespace Go.Proofs.YtjedgdamommgeaaGreat
open Go.RowKit
open Cnf (soB)
section
variable {w : World}
theorem wpA1G {P : Program} {w : World} {u : Value} {ops : Array Oper} {rest : List Oper} {o : Oper} {a : Act} {Q : Exit → Act → World → Prop} {t e : TypeId} {bytes : Nat} (T : SlT P t e 1 bytes)
  (hw : Region.wanted o (yielded ops a.tmps) = true) (s x : Operand)
  (ho : o.op = .call { callee := .builtin .append, args := #[s, x], argTypes := #[t, t] })
  {v : Value} {n : Nat} {xs : List Value} {g : Nat} (hs : a.eval s = v) (hx : a.eval x = .slice (some ⟨g, 0, none⟩) 1 1) (hc : w.cell? ⟨g, 0, none⟩ = some u) (hu : u.oneCell' = true) (hown : w.ownsRow 0 e 1 v n xs)
  (h63 : n + 1 ≤ 1099511627776) (hbytes : bytes ≤ 64)
  (h : ∀ v' w', w'.ownsRow 0 e 1 v' (n + 1) (xs ++ [u]) → Only (fun k => v.ownBlock = some k) w w' → AppTo w v v' (n + 1) → wpList P ops Q rest (a.put o.dst v') w') :
  wpList P ops Q (o :: rest) a w := by
 have hb : (n + 1) * bytes ≤ 1099511627776 * 64 := Nat.mul_le_mul h63 hbytes
 obtain ⟨v', w', hr, r1, r2, r3, r4⟩ := run_append_x (P := P) (ty := o.type) w T v n xs hown ⟨g, 0, none⟩ 1 1 [u] rfl (by
  intro j x hj
  match j, hj with
  | 0, hj =>
   simp at hj; subst hj
   simpa [Addr.add] using hc) (by intro x hxm; simp at hxm; subst hxm; exact hu) (by unfold maxLen; omega) (by omega)
 rw [wpList, if_pos hw]
 left
 unfold Oper.wp execOp
 simp only [ho, resolve, invoke, builtin, Sem.run_bind, Sem.run_pure, Result.andThen_ok, List.map_toArray, List.map_cons, List.map_nil, hs, hx, hr]
 refine h v' w' r1 ((Only.refl _ w).grown r2 fun k hk => .inl hk) ?_
 obtain ⟨g, cap, rfl, hc1, hc2⟩ := own_some r1 (by omega)
 exact ⟨g, cap, rfl, hc1, hc2, r3 g rfl⟩
theorem bldBad_any {g : Tag} {b : Nat} {V : BldV} {B : Bld} (H : BldAt w g b V B) : Calls Tryz.prog 28 #[.pointer (some ⟨b, 0, none⟩)] w fun e w' => e = .returned (.bool B.bad) ∧ w' = w := by
 have q1 : w.cell? ⟨b, 1, none⟩ = some (.bool B.bad) := by rw [cell_block H.blk]; rfl
 go_enter Tryz.func28, Tryz.ntmps28
 go_wp2_with fail
 go_ret
 exact ⟨rfl, rfl⟩
theorem counts_call {w0 : World} {bt bb k : Nat} {gt : Tag} {Vt : TabV} {gb : Tag} {Vb : BldV} {hp : Nat} {g : Tag} (h : LawX w0 bt bb k ⟨[], false, false⟩ [] [] [] nilS nilS nilS gt Vt gb Vb hp g w) (h1 : 1 ≤ k) (h12 : k ≤ 12) (so : List Bool) {v : Value} {row : List Int} (hI : Ints w0 v row) (hv : ∀ z ∈ row, Tot.Vd k z) (h20 : row.length ≤ 20) (cap : Int) (hc : cap ≤ 9223372036854775807) :
  Calls Tryz.prog 23 #[.pointer (some ⟨bt, 0, none⟩), .pointer (some ⟨bb, 0, none⟩), v, .int .i64 cap] w fun e w' => ∃ v' out N Bf gt2 Vt2 gb2 Vb2 hp2 g2, e = .returned v' ∧ LawX w0 bt bb N Bf [] [] [] nilS nilS nilS gt2 Vt2 gb2 Vb2 hp2 g2 w' ∧ Ints w' v' out ∧ Tot.CountsP k so row out N Bf.cls ∧ Bf.bad = false ∧ (out.length : Int) = max 0 (min (row.length : Int) cap) := by
 have hI1 := hI.only0 h.on
 by_cases c : cap < 1
 ·refine (Count_zero hI1 (.inr ⟨_, rfl⟩) (.inr ⟨_, rfl⟩) cap (.inr (.inr (.inl c)))).mono ?_
  rintro e w' ⟨rfl, rfl⟩
  exact ⟨_, [], k, ⟨[], false, false⟩, gt, Vt, gb, Vb, hp, g, rfl, h, Ints.nilI _, Tot.CountsP.zero h12 so row, rfl, by simp only [List.length_nil]; omega⟩
 ·obtain ⟨r, hr⟩ : ∃ r, Tot.count cap 5000 row k false ⟨[], false, false⟩ = r := ⟨_, rfl⟩
  obtain ⟨f1, f2, f3, P⟩ := Tot.counts_law h1 h12 so hv h20 (show 1 ≤ cap by omega) hr
  have h0 : row.contains 0 = false := by
   cases hz : row.contains 0
   ·rfl
   ·exact absurd rfl (hv 0 (by simpa using hz)).1
  have hlo : ∀ q, 0 < row.length → Value.blk v = some q → q < w0.heap.size := fun q hp hq => hI.lt hp hq
  refine (h.count hI1 (by omega) (fun hp q hq => ?_) (fun hp q hq => ?_) (fun z hz => by have := hv z hz; unfold Tot.Vd at this; omega) cap (by omega) hc h0 hr f1).mono ?_
  ·by_cases c2 : (gt q).1 = 0
   ·exact c2
   ·have := h.lo q (.inl c2); have := hlo q hp hq; omega
  ·by_cases c2 : (gb q).1 = 0
   ·exact c2
   ·have := h.lo q (.inr (.inl c2)); have := hlo q hp hq; omega
  rintro e w' ⟨v', gt2, Vt2, gb2, Vb2, hp2, rfl, H, hO, -, -, -, -, -⟩
  exact ⟨v', r.1, r.2.1, r.2.2.2, gt2, Vt2, gb2, Vb2, hp2, g, rfl, H, hO, P, f2, by omega⟩
theorem cw_up {i k : Nat} (h : i < k) (hk : k ≤ 12) : IntKind.i64.wrap ((i : Int) + 1 + 1) = (i : Int) + 1 + 1 := IntWalk.i64_in _ (by omega)
theorem cw_neg {i k : Nat} (h : i < k) (hk : k ≤ 12) : IntKind.i64.wrap (-((i : Int) + 1)) = -((i : Int) + 1) := IntWalk.i64_in _ (by omega)
theorem cw_down {i k : Nat} (h : i < k) (hk : k ≤ 12) : IntKind.i64.wrap ((i : Int) + 1 - 1) = (i : Int) := by rw [show (i : Int) + 1 - 1 = (i : Int) by omega]; exact IntWalk.i64_in _ (by omega)
theorem cw_id {i k : Nat} (h : i < k) (hk : k ≤ 12) : IntKind.i64.wrap (i : Int) = (i : Int) := IntWalk.i64_in _ (by omega)
theorem field_state (u a b c : Value) (W : World) : (Instr.field 30 (.agg #[u, a, b, c]) 0).run Tryz.prog W = .ok u W := by
 unfold Instr.field
 rw [Sem.run_bind, run_underlying Tryz.underlying30]
 simp [asAgg, part, isAgg]
theorem cnt_take {so : List Bool} {row : List Int} {j : Nat} (h : j < row.length) : Tot.cnt (Tot.sOf so) (row.take (j + 1)) = Tot.cnt (Tot.sOf so) (row.take j) + if Tot.T (Tot.sOf so) (row.getD j 0) then 1 else 0 := by
 rw [take_snocI row j h]
 unfold Tot.cnt
 rw [List.filter_append, List.length_append]
 congr 1
 generalize row.getD j 0 = x
 cases c : Tot.T (Tot.sOf so) x <;> simp [c]
set_option maxRecDepth 100000 in
set_option maxHeartbeats 1600000 in
theorem TotalCounts_walk {z : Int} (hz : 0 ≤ z ∧ z ≤ 255) {vr : Value} {row : List Int} (hI : Ints w vr row) {cap : Int} (hc : -9223372036854775808 ≤ cap ∧ cap ≤ 9223372036854775807) {vs : Value} {so : List Bool} (hB : Bools w vs so) {u : Int} (hu : 0 ≤ u ∧ u ≤ 255) :
  Calls Tryz.prog 7 #[.int .u8 z, vr, .int .i64 cap, vs, .int .u8 u] w fun e w' => e = .returned (.bool true) ∧ Only (fun _ => False) w w' := by
 obtain ⟨ar, cr, rfl, -, -⟩ := hI.shape
 obtain ⟨az, ca, rfl, -, -⟩ := hB.shape
 obtain ⟨m, hm⟩ : ∃ m : Nat, z % 12 = (m : Int) := ⟨(z % 12).toNat, by omega⟩
 have hm2 : m ≤ 11 := by omega
 have tm : z.tmod 12 = (m : Int) := by rw [Int.tmod_eq_emod_of_nonneg hz.1]; exact hm
 have ewz : IntKind.i64.wrap z = z := IntWalk.i64_in _ (by omega)
 obtain ⟨k, hk⟩ : ∃ k, k = m + 1 := ⟨_, rfl⟩
 have ewk : IntKind.i64.wrap (1 + (m : Int)) = (k : Int) := by rw [IntWalk.i64_in _ (by omega)]; omega
 have ewm : IntKind.i64.wrap (m : Int) = (m : Int) := IntWalk.i64_in _ (by omega)
 have hk1 : 1 ≤ k := by omega
 have hk12 : k ≤ 12 := by omega
 clear hm hk hz
 by_cases c1 : 20 < row.length
 ·have d1 : decide ((20 : Int) < (row.length : Int)) = true := decide_eq_true (by omega)
  clear hB hI
  go_enter Tryz.func7, Tryz.ntmps7
  go_wp2_with fail
  refine law23_fixed.mono ?_
  rintro e w1 ⟨rfl, O1⟩
  go_wp2_with fail
  go_ret
  exact ⟨rfl, O1⟩
 have d1 : decide ((20 : Int) < (row.length : Int)) = false := decide_eq_false (by omega)
 have h20 : row.length ≤ 20 := by omega
 clear c1
 by_cases c2 : 100 < so.length
 ·have d2 : decide ((100 : Int) < (so.length : Int)) = true := decide_eq_true (by omega)
  clear hB hI
  go_enter Tryz.func7, Tryz.ntmps7
  go_wp2_with fail
  refine law23_fixed.mono ?_
  rintro e w1 ⟨rfl, O1⟩
  go_wp2_with fail
  go_ret
  exact ⟨rfl, O1⟩
 have d2 : decide ((100 : Int) < (so.length : Int)) = false := decide_eq_false (by omega)
 have h100 : so.length ≤ 100 := by omega
 clear c2
 have HB := Lib.hid hB
 have HI := Lib.hid hI
 have HNT := Lib.hid (atomsNew_any w 5000 (by simp [InI64]) 5000 (by decide))
 clear hB hI
 go_enter Tryz.func7, Tryz.ntmps7
 go_wp2_with fail
 clear tm ewz ewk ewm
 refine HNT.out.mono ?_
 rintro e w1 ⟨bt, gt, Vt, rfl, hT1, hm1, O1⟩
 have HNB := Lib.hid (cnfNew_any w1)
 clear HNT
 go_wp2_with fail
 refine HNB.out.mono ?_
 rintro e w2 ⟨bb, gb, Vb, rfl, hB2, hm2, O2⟩
 have HS := Lib.hid (show LawAt w bt bb 0 ⟨[], false, false⟩ [] [] [] nilS nilS nilS w2 from LawX.start hT1 hm1 O1 hB2 hm2 O2)
 clear hT1 hm1 O1 hB2 hm2 O2 HNB
 go_wp2_with fail
 go_loopw [45] (fun vi wr => ∃ i : Nat, vi = .int .i64 i ∧ i ≤ k ∧ LawAt w bt bb i ⟨[], false, false⟩ [] [] [] nilS nilS nilS wr) (fun v _ => k - (intOf v).toNat)
 case atStart => exact ⟨0, rfl, Nat.zero_le _, HS.out⟩
 case round =>
  clear HS
  obtain ⟨i, rfl, hi, gt, Vt, gb, Vb, hp, g, H⟩ := hrel
  by_cases ci : i < k
  ·have HHelp := Lib.hid (H.help (by omega))
   clear H
   go_wp2_with fail
   refine HHelp.out.mono ?_
   rintro e w3 ⟨rfl, h3⟩
   have H3 := Lib.hid h3
   clear h3 HHelp
   go_wp2_with fail
   go_roundw
   case rel => exact ⟨i + 1, by first | rfl | go_num, by omega, H3.out⟩
   case measure => simp [intOf] <;> omega
  ·obtain rfl : k = i := by omega
   have HH := Lib.hid H
   have HIr := Lib.hid (HI.out.only0 H.on)
   have HOn := Lib.hid H.on
   clear H
   go_wp2_with fail
   go_loopw [52] (fun vi w3 => wr = w3 ∧ ∃ j : Nat, vi = .int .i64 j ∧ j ≤ row.length ∧ ∀ x ∈ row.take j, Tot.Vd k x) (fun v _ => row.length - (intOf v).toNat)
   case atStart => exact ⟨rfl, 0, rfl, Nat.zero_le _, by simp⟩
   case round =>
    obtain ⟨rfl, j, rfl, hj, hA⟩ := hrel
    have HA := Lib.hid hA
    clear hA
    by_cases cj : j < row.length
    ·obtain ⟨bl, ol, rfl, _, hcs⟩ := HIr.out.cells _ _ _ rfl (by omega)
     have qx := hcs j cj
     have hx := HI.out.range' j
     obtain ⟨x, hxe⟩ : ∃ x, row.getD j 0 = x := ⟨_, rfl⟩
     have htk := take_snocI row j cj
     rw [hxe] at qx hx htk
     have HTk := Lib.hid htk
     have ewj : IntKind.i64.wrap ((j : Int) + 1) = ((j + 1 : Nat) : Int) := by rw [IntWalk.i64_in _ (by omega)]; rfl
     clear hcs hxe htk
     by_cases hw : Cnf.wr x = true
     ·have HN := Lib.hid (None_any (w := wr) x hx true hw)
      go_wp2_with fail
      refine HN.out.mono ?_
      rintro e w2 ⟨rfl, rfl⟩
      go_wp2_with fail
      refine law23_fixed.mono ?_
      rintro e w2 ⟨rfl, O2⟩
      go_wp2_with fail
      go_ret
      exact ⟨rfl, HOn.out.same O2⟩
     ·have hw : Cnf.wr x = false := by simpa using hw
      have HN := Lib.hid (None_any (w := wr) x hx false hw)
      have HAt := Lib.hid (Atom_any (w := wr) x hx hw)
      have h0 : x ≠ 0 := by
       intro e; subst e; revert hw; decide
      clear hw hx
      by_cases hgt : k < x.natAbs
      ·have dg : decide ((k : Int) < (x.natAbs : Int)) = true := decide_eq_true (by omega)
       have dg2 : decide (k < x.natAbs) = true := decide_eq_true hgt
       go_wp2_with fail
       refine HN.out.mono ?_
       rintro e w2 ⟨rfl, rfl⟩
       go_wp2_with fail
       refine HAt.out.mono ?_
       rintro e w2 ⟨rfl, rfl⟩
       go_wp2_with fail
       refine law23_fixed.mono ?_
       rintro e w2 ⟨rfl, O2⟩
       go_wp2_with fail
       go_ret
       exact ⟨rfl, HOn.out.same O2⟩
      ·have dg : decide ((k : Int) < (x.natAbs : Int)) = false := decide_eq_false (by omega)
       have dg2 : decide (k < x.natAbs) = false := decide_eq_false hgt
       have hnew : ∀ y ∈ row.take (j + 1), Tot.Vd k y := fun y hy => by
        rw [HTk.out] at hy
        rcases List.mem_append.1 hy with h | h
        ·exact HA.out y h
        ·rw [List.mem_singleton] at h; subst h; exact ⟨h0, by omega⟩
       have HNew := Lib.hid hnew
       clear hnew
       go_wp2_with fail
       refine HN.out.mono ?_
       rintro e w2 ⟨rfl, rfl⟩
       go_wp2_with fail
       refine HAt.out.mono ?_
       rintro e w2 ⟨rfl, rfl⟩
       go_wp2_with fail
       go_roundw
       case rel => exact ⟨by first | rfl | trivial, j + 1, by first | rfl | go_num, by omega, HNew.out⟩
       case measure => simp [intOf] <;> omega
    ·have hjl : j = row.length := by omega
     subst hjl
     have hv := HA.out
     rw [List.take_of_length_le (Nat.le_refl _)] at hv
     have HV := Lib.hid hv
     have HCa := Lib.hid (counts_call HH.out hk1 hk12 so HI.out hv h20 cap hc.2)
     clear hv HA HH
     go_wp2_with fail
     refine HCa.out.mono ?_
     clear HCa
     rintro e w3 ⟨vo, out, N, Bf, gt, Vt, gb, Vb, hp, g, rfl, H, hO, P, hbad, hlen⟩
     obtain ⟨ao, co, rfl, -, -⟩ := hO.shape
     have hfull := tabFull_any H.tab
     have hbb := bldBad_any H.bld
     rw [hbad] at hbb
     have HFull := Lib.hid hfull
     have HBb := Lib.hid hbb
     have HO := Lib.hid hO
     have HP := Lib.hid P
     have HH := Lib.hid H
     have hmx : max (0 : Int) (min (row.length : Int) cap) = (out.length : Int) := hlen.symm
     have hol := P.ol
     have hone : row.length = 1 → 0 < cap → out.length = 1 := fun h1 h2 => by omega
     clear hfull hbb hO P H hbad hlen
     go_upto_region 16 with fail
     go_cut [105] (fun v wx => v = .bool false ∧ w3 = wx)
     case first =>
      have e1 : ((out.length : Int) != (out.length : Int)) = false := by simp
      by_cases c1 : row.length = 1
      ·have e2 : ((row.length : Int) == 1) = true := by simp; omega
       have e2' : decide ((row.length : Int) = 1) = true := by simp; omega
       by_cases c2 : 0 < cap
       ·have d3 : decide (0 < cap) = true := decide_eq_true c2
        have e3 : ((out.length : Int) != 1) = false := by simp; have := hone c1 c2; omega
        clear c1 c2 hone
        go_wp2_with fail
        refine HFull.out.mono ?_
        rintro e w4 ⟨rfl, rfl⟩
        go_wp2_with fail
        refine HBb.out.mono ?_
        rintro e w4 ⟨rfl, rfl⟩
        go_wp2_with fail
        go_meet
        exact ⟨rfl, rfl⟩
       ·have d3 : decide (0 < cap) = false := decide_eq_false c2
        clear c1 c2 hone
        go_wp2_with fail
        refine HFull.out.mono ?_
        rintro e w4 ⟨rfl, rfl⟩
        go_wp2_with fail
        refine HBb.out.mono ?_
        rintro e w4 ⟨rfl, rfl⟩
        go_wp2_with fail
        go_meet
        exact ⟨rfl, rfl⟩
      ·have e2 : ((row.length : Int) == 1) = false := by simp; omega
       have e2' : decide ((row.length : Int) = 1) = false := by simp; omega
       clear c1 hone
       go_wp2_with fail
       refine HFull.out.mono ?_
       rintro e w4 ⟨rfl, rfl⟩
       go_wp2_with fail
       refine HBb.out.mono ?_
       rintro e w4 ⟨rfl, rfl⟩
       go_wp2_with fail
       go_meet
       exact ⟨rfl, rfl⟩
     case rest =>
      obtain ⟨rfl, rfl⟩ := hcut
      have HBs3 := Lib.hid (HB.out.only0 HH.out.on)
      have HI3 := Lib.hid (HI.out.only0 HH.out.on)
      clear HFull HBb hmx hone
      go_wp2_with fail
      go_loopw [17, 108] (fun v17 vi w4 => w3 = w4 ∧ ∃ j : Nat, vi = .int .i64 j ∧ j ≤ row.length ∧ v17 = .int .i64 (Tot.cnt (Tot.sOf so) (row.take j))) (fun _ v _ => row.length - (intOf v).toNat)
      case atStart => exact ⟨rfl, 0, rfl, Nat.zero_le _, rfl⟩
      case round =>
       obtain ⟨rfl, j, rfl, hj, rfl⟩ := hrel
       by_cases cj : j < row.length
       ·obtain ⟨bl, ol, rfl, _, hcs⟩ := HI3.out.cells _ _ _ rfl (by omega)
        have qx := hcs j cj
        have hx := HI.out.range' j
        have hxv := HV.out _ (getD_mem' 0 cj)
        have hct := cnt_take (so := so) cj
        obtain ⟨x, hxe⟩ : ∃ x, row.getD j 0 = x := ⟨_, rfl⟩
        rw [hxe] at qx hx hxv hct
        obtain ⟨y, hy⟩ : ∃ y, Cnf.soB x so = y := ⟨_, rfl⟩
        have HSo := Lib.hid (So_any HBs3.out x hx y hy)
        rw [Tot.soB_T (by omega) hxv so] at hy
        rw [hy] at hct
        have HCt := Lib.hid hct
        have hcl := Tot.cnt_le (Tot.sOf so) (row.take j)
        rw [List.length_take] at hcl
        generalize Tot.cnt (Tot.sOf so) (row.take j) = cn at *
        have ewj : IntKind.i64.wrap ((j : Int) + 1) = ((j + 1 : Nat) : Int) := by rw [IntWalk.i64_in _ (by omega)]; rfl
        have ewc : IntKind.i64.wrap ((cn : Int) + 1) = ((cn + 1 : Nat) : Int) := by rw [IntWalk.i64_in _ (by omega)]; rfl
        clear hcs hxe hct hy hx hxv hcl
        cases y
        all_goals
         go_wp2_with fail
         refine HSo.out.mono ?_
         rintro e w4 ⟨rfl, rfl⟩
         go_wp2_with fail
         go_roundw
         case rel => exact ⟨by first | rfl | trivial, j + 1, by first | rfl | go_num, by omega, by rw [HCt.out]; rfl⟩
         case measure => simp [intOf] <;> omega
       ·have hjl : j = row.length := by omega
        subst hjl
        rw [List.take_of_length_le (Nat.le_refl _)]
        have hcl := Tot.cnt_le (Tot.sOf so) row
        obtain ⟨cn, hcn⟩ : ∃ cn, Tot.cnt (Tot.sOf so) row = cn := ⟨_, rfl⟩
        rw [hcn] at hcl ⊢
        have HCn := Lib.hid hcn
        clear hcn HI3 hj
        go_wp2_with fail
        go_loopw [20, 21] (fun v20 v21 w4 => ∃ (i : Nat) (aa : Option Addr) (ca2 : Nat), v21 = .int .i64 ((i : Int) + 1) ∧ i ≤ k ∧ v20 = .slice aa i ca2 ∧ w4.ownsRow 0 3 1 v20 i ((Tot.litsOf i so).map cI) ∧ (∀ q, v20.ownBlock = some q → w3.heap.size ≤ q) ∧ Only (fun _ => False) w3 w4) (fun _ v _ => k + 1 - (intOf v).toNat)
        case atStart => exact ⟨0, none, 0, rfl, Nat.zero_le _, rfl, World.ownsRow_nil _ _ _ _, fun k hk => by simp [Value.ownBlock] at hk, Only.refl _ _⟩
        case round =>
         obtain ⟨i, aa, ca2, rfl, hi, rfl, hrow, hnew, hO⟩ := hrel
         by_cases ci : i < k
         ·have dk : decide ((i : Int) + 1 ≤ (k : Int)) = true := decide_eq_true (by omega)
          have ewi : IntKind.i64.wrap ((i : Int) + 1 + 1) = (i : Int) + 1 + 1 := cw_up ci hk12
          have ewn : IntKind.i64.wrap (-((i : Int) + 1)) = -((i : Int) + 1) := cw_neg ci hk12
          have ews : IntKind.i64.wrap ((i : Int) + 1 - 1) = (i : Int) := cw_down ci hk12
          have EW := Lib.hid (And.intro ewi (And.intro ewn (And.intro ews (cw_id ci hk12))))
          have hil : i + 1 ≤ 1099511627776 := Nat.le_trans (Nat.succ_le_of_lt ci) (Nat.le_trans hk12 (by decide))
          clear ewi ewn ews
          have hsn := Tot.litsOf_succ i so
          obtain ⟨y, hy⟩ : ∃ y, so.getD i false = y := ⟨_, rfl⟩
          rw [hy] at hsn
          have HSn := Lib.hid hsn
          have HRow := Lib.hid hrow
          have HNw := Lib.hid hnew
          have HO4 := Lib.hid hO
          have hstep : ∀ (l : Int) (v7 : Value) (w7 : World), (if y then (i : Int) + 1 else -((i : Int) + 1)) = l → w7.ownsRow 0 3 1 v7 (i + 1) ((Tot.litsOf i so).map cI ++ [.int .i64 l]) → w7.ownsRow 0 3 1 v7 (i + 1) ((Tot.litsOf (i + 1) so).map cI) := fun l v7 w7 e h => by
           rw [HSn.out, e, List.map_append]; exact h
          have HStep := Lib.hid hstep
          clear hrow hnew hO hsn hstep
          by_cases cs : i < so.length
          ·obtain ⟨bs, os, rfl, _, hcb⟩ := (HBs3.out.only0 HO4.out).cells _ _ _ rfl (by omega)
           have qb := hcb i cs
           rw [hy] at qb
           have ds : decide ((i : Int) + 1 ≤ (so.length : Int)) = true := decide_eq_true (by omega)
           have ds2 : decide (i + 1 ≤ so.length) = true := decide_eq_true (by omega)
           clear hcb hy
           cases y with
           | false =>
            obtain ⟨ewi, ewn, ews, ewd⟩ := EW.out
            go_wp2_with (at_builtin; go_must (refine wpA1 (u := .int .i64 (-((i : Int) + 1))) slInt rfl (.tmp 137) (.tmp 139) rfl rfl rfl (cell_new0 _ _ _) rfl (own_only HRow.out ((Only.refl (fun _ => False) _).alloc _) (fun _ _ f => f)) hil (by decide) ?_))
            clear ewi ewn ews ewd
            intro v7 w7 r7 o7 t7
            obtain ⟨g7, c7, rfl, -, -, hg7⟩ := t7
            have hz := HStep.out (-((i : Int) + 1)) _ _ rfl (by simpa using r7)
            have ho7 : Only (fun _ => False) w3 w7 := (HO4.out.alloc (.cells #[.int .i64 (-((i : Int) + 1))] 3)).trans o7 (fun k hk => .inr (HNw.out k hk))
            have hn7 : ∀ q, (Value.slice (some ⟨g7, 0, none⟩) (i + 1) c7).ownBlock = some q → w3.heap.size ≤ q := fun q hq => by
             simp [Value.ownBlock] at hq
             subst hq
             rcases hg7 with h | h
             ·exact HNw.out _ h
             ·exact Nat.le_trans HO4.out.size (by have := (Only.refl (fun _ => False) wr).alloc (.cells #[.int .i64 (-((i : Int) + 1))] 3) |>.size; omega)
            have HZ := Lib.hid (And.intro hz (And.intro hn7 ho7))
            clear hz hn7 ho7 r7 o7 hg7
            obtain ⟨ewi, ewn, ews, ewd⟩ := EW.out
            go_wp2_with fail
            clear ewi ewn ews ewd
            go_roundw
            case rel => exact ⟨i + 1, some ⟨g7, 0, none⟩, c7, by first | rfl | go_num, by omega, rfl, HZ.out.1, HZ.out.2.1, HZ.out.2.2⟩
            case measure => simp [intOf] <;> omega
           | true =>
            obtain ⟨ewi, ewn, ews, ewd⟩ := EW.out
            go_wp2_with (at_builtin; go_must (refine wpA1 (u := .int .i64 ((i : Int) + 1)) slInt rfl (.tmp 137) (.tmp 139) rfl rfl rfl (cell_new0 _ _ _) rfl (own_only HRow.out ((Only.refl (fun _ => False) _).alloc _) (fun _ _ f => f)) hil (by decide) ?_))
            clear ewi ewn ews ewd
            intro v7 w7 r7 o7 t7
            obtain ⟨g7, c7, rfl, -, -, hg7⟩ := t7
            have hz := HStep.out ((i : Int) + 1) _ _ rfl (by simpa using r7)
            have ho7 : Only (fun _ => False) w3 w7 := (HO4.out.alloc (.cells #[.int .i64 ((i : Int) + 1)] 3)).trans o7 (fun k hk => .inr (HNw.out k hk))
            have hn7 : ∀ q, (Value.slice (some ⟨g7, 0, none⟩) (i + 1) c7).ownBlock = some q → w3.heap.size ≤ q := fun q hq => by
             simp [Value.ownBlock] at hq
             subst hq
             rcases hg7 with h | h
             ·exact HNw.out _ h
             ·exact Nat.le_trans HO4.out.size (by have := (Only.refl (fun _ => False) wr).alloc (.cells #[.int .i64 ((i : Int) + 1)] 3) |>.size; omega)
            have HZ := Lib.hid (And.intro hz (And.intro hn7 ho7))
            clear hz hn7 ho7 r7 o7 hg7
            obtain ⟨ewi, ewn, ews, ewd⟩ := EW.out
            go_wp2_with fail
            clear ewi ewn ews ewd
            go_roundw
            case rel => exact ⟨i + 1, some ⟨g7, 0, none⟩, c7, by first | rfl | go_num, by omega, rfl, HZ.out.1, HZ.out.2.1, HZ.out.2.2⟩
            case measure => simp [intOf] <;> omega
          ·have hyf : y = false := by rw [← hy, List.getD_eq_getElem?_getD, List.getElem?_eq_none (by omega)]; rfl
           subst hyf
           have ds : decide ((i : Int) + 1 ≤ (so.length : Int)) = false := decide_eq_false (by omega)
           clear hy
           obtain ⟨ewi, ewn, ews, ewd⟩ := EW.out
           go_wp2_with (at_builtin; go_must (refine wpA1 (u := .int .i64 (-((i : Int) + 1))) slInt rfl (.tmp 137) (.tmp 139) rfl rfl rfl (cell_new0 _ _ _) rfl (own_only HRow.out ((Only.refl (fun _ => False) _).alloc _) (fun _ _ f => f)) hil (by decide) ?_))
           clear ewi ewn ews ewd
           intro v7 w7 r7 o7 t7
           obtain ⟨g7, c7, rfl, -, -, hg7⟩ := t7
           have hz := HStep.out (-((i : Int) + 1)) _ _ rfl (by simpa using r7)
           have ho7 : Only (fun _ => False) w3 w7 := (HO4.out.alloc (.cells #[.int .i64 (-((i : Int) + 1))] 3)).trans o7 (fun k hk => .inr (HNw.out k hk))
           have hn7 : ∀ q, (Value.slice (some ⟨g7, 0, none⟩) (i + 1) c7).ownBlock = some q → w3.heap.size ≤ q := fun q hq => by
            simp [Value.ownBlock] at hq
            subst hq
            rcases hg7 with h | h
            ·exact HNw.out _ h
            ·exact Nat.le_trans HO4.out.size (by have := (Only.refl (fun _ => False) wr).alloc (.cells #[.int .i64 (-((i : Int) + 1))] 3) |>.size; omega)
           have HZ := Lib.hid (And.intro hz (And.intro hn7 ho7))
           clear hz hn7 ho7 r7 o7 hg7
           obtain ⟨ewi, ewn, ews, ewd⟩ := EW.out
           go_wp2_with fail
           clear ewi ewn ews ewd
           go_roundw
           case rel => exact ⟨i + 1, some ⟨g7, 0, none⟩, c7, by first | rfl | go_num, by omega, rfl, HZ.out.1, HZ.out.2.1, HZ.out.2.2⟩
           case measure => simp [intOf] <;> omega
         ·obtain rfl : k = i := by omega
          have dk : decide ((k : Int) + 1 ≤ (k : Int)) = false := decide_eq_false (by omega)
          have hN5 := HP.out.N5
          have H4 := HH.out.only0 hO
          have hcl2 := Clauses_any H4.bld
          have hlen : Calls Tryz.prog 24 #[.pointer (some ⟨bt, 0, none⟩)] wr fun e w' => e = .returned (.int .i64 (N : Int)) ∧ w' = wr := by
           have := tabLen_any H4.tab
           simpa [Tot.hT] using this
          have hbase : Ints wr (.slice aa k ca2) (Tot.litsOf k so) := by
           have hlk := Tot.litsOf_len k so
           have := Ints.of_own (xs := Tot.litsOf k so) (by rw [hlk]; exact hrow) (vd_rng (N := k) (by omega) (fun z hz => ((Tot.mem_litsOf (by omega)).1 hz).1))
           exact this
          have HCl := Lib.hid hcl2
          have HLen := Lib.hid hlen
          have HBase := Lib.hid hbase
          have HRow := Lib.hid hrow
          have HNw := Lib.hid hnew
          have HO4 := Lib.hid hO
          have HOn4 := Lib.hid H4.on
          clear H4 hcl2 hlen hbase hrow hnew hO HBs3
          go_wp2_with fail
          refine HLen.out.mono ?_
          rintro e w5 ⟨rfl, rfl⟩
          go_wp2_with fail
          refine HCl.out.mono ?_
          rintro e w6 ⟨vc, us, rfl, hcs, O6⟩
          have hcI := hcs.intsS
          obtain ⟨ac, cc, rfl, -, -⟩ := hcI.shape
          have HNs := Lib.hid (solve_New_any w6 (N : Int) (by unfold InI64; omega) N (by omega) hcI (by have := HP.out.len; omega) (fun c hc => by
           obtain ⟨h1, h2⟩ := HP.out.vd c hc
           have := abs_lenT h1 h2
           omega))
          have HO6 := Lib.hid O6
          clear hcs hcI O6 HCl HLen
          go_wp2_with fail
          refine HNs.out.mono ?_
          rintro e w7 ⟨b, rfl, h7⟩
          obtain ⟨s, hs1, hs2⟩ := HP.out.model
          have hlk := Tot.litsOf_len k so
          have HAsk := Lib.hid (counts_ask h7 (by omega) HP.out.vd (by have := HP.out.len; omega) (HBase.out.only0 HO6.out) (by omega) HP.out.det hs1 hs2)
          have HS1 := Lib.hid hs1
          have HS2 := Lib.hid hs2
          clear h7 HNs hs1 hs2 HBase
          go_wp2_with fail
          refine HAsk.out.mono ?_
          rintro e w8 ⟨S2, M, met, cs, rfl, hA, -, hSat, hMb, h8, hi8, hin8⟩
          obtain ⟨vm, rfl, r3, -⟩ := hA
          obtain ⟨am, cm, rfl, -, -⟩ := own_slice r3
          obtain ⟨Bk, hBk⟩ : ∃ Bk, w8.heap.size = Bk := ⟨_, rfl⟩
          obtain ⟨wA, hwA⟩ : ∃ wA, w8.alloc (.cells #[.int .u8 0, nilS, nilS, .int .i64 0] 30) = wA := ⟨_, rfl⟩
          have hbA : wA.heap[Bk]? = some (.cells #[.int .u8 0, nilS, nilS, .int .i64 0] 30 (0, 0)) := by rw [← hwA, ← hBk]; exact heap_alloc_new _ _
          obtain ⟨w9, hw9⟩ : ∃ w9, wA.setRow Bk #[.int .u8 1, .slice am M.length cm, nilS, .int .i64 met] = w9 := ⟨_, rfl⟩
          have hb9 : w9.heap[Bk]? = some (.cells #[.int .u8 1, .slice am M.length cm, nilS, .int .i64 met] 30 (0, 0)) := by rw [← hw9]; exact setRow_heap _ _ _ _ _ _ hbA
          have o9 : Only (fun _ => False) w8 w9 := by rw [← hw9, ← hwA]; exact ((Only.refl _ _).alloc _).trans (only_setRow _ _ _) (fun k hk => .inr (by omega))
          have o49 : Only (fun _ => False) w5 w9 := (HO6.out.same h8.on).same o9
          have hIo := HO.out.only0 (HO4.out.same o49)
          have hM9 := (Bools.of_own r3).only0 o9
          have q0 : w9.cell? ⟨Bk, 0, none⟩ = some (.int .u8 1) := by rw [cell_block hb9]; rfl
          have q1 : w9.cell? ⟨Bk, 1, none⟩ = some (.slice am M.length cm) := by rw [cell_block hb9]; rfl
          have htl := HP.out.tells M hSat hMb
          rw [HCn.out] at htl
          have HTl := Lib.hid htl
          have HBA := Lib.hid hbA
          have HIo := Lib.hid hIo
          have HM9 := Lib.hid hM9
          have H8 := Lib.hid h8
          have HI8 := Lib.hid hi8
          have HN8 := Lib.hid hin8
          have HO9 := Lib.hid o9
          have HO49 := Lib.hid o49
          clear htl hbA hb9 o9 o49 hIo hM9 r3 hSat hMb h8 hi8 hin8 HAsk
          go_wp2_with ((refine wpList_store_row rfl 30 (.tmp 24) (.tmp 148) rfl Bk #[.int .u8 1, .slice am M.length cm, nilS, .int .i64 met] rfl rfl 30 #[.int .u8 0, nilS, nilS, .int .i64 0] HBA.out (by kernel_rfl) rfl (by first | kernel_rfl | rfl | simp [Value.oneCell']) ?_); rw [hw9])
          go_loopw [154] (fun vi wx => w9 = wx ∧ ∃ i : Nat, vi = .int .i64 i ∧ i ≤ out.length) (fun v _ => out.length - (intOf v).toNat)
          case atStart => exact ⟨rfl, 0, rfl, Nat.zero_le _⟩
          case round =>
           obtain ⟨rfl, i, rfl, hi⟩ := hrel
           by_cases ci : i < out.length
           ·obtain ⟨bp, op, rfl, _, hcp⟩ := HIo.out.cells _ _ _ rfl (by omega)
            have qp := hcp i ci
            have hsm := HTl.out i ci
            have hxp := HIo.out.range' i
            generalize out.getD i 0 = xp at *
            have HSo := Lib.hid (So_any HM9.out xp hxp _ hsm)
            have ewi : IntKind.i64.wrap ((i : Int) + 1) = (i : Int) + 1 := IntWalk.i64_in _ (by omega)
            clear hcp hsm hxp
            by_cases cc2 : i < cn
            ·have d5 : decide (i < cn) = true := decide_eq_true cc2
             have d6 : decide ((i : Int) < (cn : Int)) = true := decide_eq_true (by omega)
             rw [d5] at HSo
             go_wp2_with fail
             refine HSo.out.mono ?_
             rintro e w10 ⟨rfl, rfl⟩
             go_wp2_with fail
             go_roundw
             case rel => exact ⟨by first | rfl | trivial, i + 1, by first | rfl | go_num, by omega⟩
             case measure => simp [intOf] <;> omega
            ·have d5 : decide (i < cn) = false := decide_eq_false cc2
             have d6 : decide ((i : Int) < (cn : Int)) = false := decide_eq_false (by omega)
             rw [d5] at HSo
             go_wp2_with fail
             refine HSo.out.mono ?_
             rintro e w10 ⟨rfl, rfl⟩
             go_wp2_with fail
             go_roundw
             case rel => exact ⟨by first | rfl | trivial, i + 1, by first | rfl | go_num, by omega⟩
             case measure => simp [intOf] <;> omega
           ·obtain rfl : out.length = i := by omega
            clear hi ci
            by_cases cz : out.length = 0
            ·have e0 : ((out.length : Int) == 0) = true := beq_iff_eq.2 (by omega)
             have e0' : decide ((out.length : Int) = 0) = true := decide_eq_true (by omega)
             go_wp2_with fail
             refine law23_fixed.mono ?_
             rintro e w10 ⟨rfl, O10⟩
             go_wp2_with fail
             go_ret
             exact ⟨rfl, (HOn4.out.same HO49.out).same O10⟩
            ·have e0 : ((out.length : Int) == 0) = false := by rw [beq_eq_false_iff_ne]; omega
             have e0' : decide ((out.length : Int) = 0) = false := decide_eq_false (by omega)
             obtain ⟨t, ht⟩ : ∃ t : Nat, u = t := ⟨u.toNat, by omega⟩
             subst ht
             have ewt : IntKind.i64.wrap (t : Int) = t := IntWalk.i64_in _ (by omega)
             obtain ⟨ix, hix⟩ : ∃ ix, t % out.length = ix := ⟨_, rfl⟩
             have hix2 : ix < out.length := by rw [← hix]; exact Nat.mod_lt _ (by omega)
             have tm2 : Int.tmod (t : Int) (out.length : Int) = (ix : Int) := by
              rw [Int.tmod_eq_emod_of_nonneg (by omega), ← hix]
              rfl
             have HTm2 := Lib.hid tm2
             clear tm2
             have ewix : IntKind.i64.wrap (ix : Int) = (ix : Int) := IntWalk.i64_in _ (by omega)
             obtain ⟨bp, op, rfl, _, hcp⟩ := HIo.out.cells _ _ _ rfl (by omega)
             have qp := hcp ix hix2
             have hxv := HP.out.lits _ (getD_mem' 0 hix2)
             have hno : ∀ M2, Rup.Sat Bf.cls M2 → (∀ a ∈ Tot.litsOf k so, soB a M2 = true) → soB (out.getD ix 0) M2 = decide (ix < cn) := fun M2 h1 h2 => by
              rw [← HCn.out]; exact HP.out.tells M2 h1 h2 ix hix2
             obtain ⟨x, hxe⟩ : ∃ x, out.getD ix 0 = x := ⟨_, rfl⟩
             rw [hxe] at qp hxv hno
             have HNo := Lib.hid hno
             have HXv := Lib.hid hxv
             have ewx : IntKind.i64.wrap (-x) = -x := by unfold Tot.Vd at hxv; exact IntWalk.i64_in _ (by omega)
             clear hcp hix hxe hno hxv
             by_cases cc2 : ix < cn
             ·have d6 : decide ((ix : Int) < (cn : Int)) = true := decide_eq_true (by omega)
              have HFx := Lib.hid (law23_fixed (w := w9))
              have tm2 := HTm2.out
              go_wp2_with fail
              clear tm2
              refine HFx.out.mono ?_
              rintro e w10 ⟨rfl, O10⟩
              have hrow10 := own_only HRow.out (HO49.out.same O10) (fun _ _ f => f)
              have HRow10 := Lib.hid hrow10
              have HO10 := Lib.hid O10
              clear hrow10 O10
              go_wp2_with (at_builtin; go_must (refine wpA1G (u := .int .i64 (-x)) slInt rfl (.tmp 189) (.tmp 191) rfl rfl rfl (cell_new0 _ _ _) rfl (own_only HRow10.out ((Only.refl (fun _ => False) _).alloc _) (fun _ _ f => f)) (by omega) (by decide) ?_))
              intro v11 w11 r11 o11 t11
              obtain ⟨g11, c11, rfl, -, -, hg11⟩ := t11
              have hI11 : Ints w11 (.slice (some ⟨g11, 0, none⟩) (k + 1) c11) (Tot.litsOf k so ++ [-x]) := by
               have hll : (Tot.litsOf k so ++ [-x]).length = k + 1 := by rw [List.length_append, hlk]; rfl
               have := Ints.of_own (xs := Tot.litsOf k so ++ [-x]) (w := w11) (v := .slice (some ⟨g11, 0, none⟩) (k + 1) c11) (by rw [hll, List.map_append]; exact r11) (fun y hy => by
                rcases List.mem_append.1 hy with hy | hy
                ·exact vd_rng (N := k) (by omega) (fun z hz => ((Tot.mem_litsOf (by omega)).1 hz).1) y hy
                ·rw [List.mem_singleton.1 hy]
                 have := HXv.out
                 unfold Tot.Vd at this
                 unfold InI64; omega)
               exact this
              have o8b : Only (fun q => (Value.slice aa k ca2).ownBlock = some q) w8 w11 := ((((HO9.out.same HO10.out).alloc (.cells #[.int .i64 (-x)] 3)).mono fun _ f => f.elim).trans o11 fun q hq => .inl hq)
              have hlt : ∀ q, (Value.slice aa k ca2).ownBlock = some q → q < w6.heap.size := fun q hq => Nat.lt_of_lt_of_le (own_lt HRow.out hq) HO6.out.size
              have hask := counts_ask2 H8.out o8b hlt (by omega) HP.out.vd hI11 (by omega) (fun q hq => by
               simp [Value.blk] at hq
               subst hq
               rcases hg11 with h | h
               ·exact .inl (hlt _ h)
               ·refine .inr (Nat.le_trans ((HO9.out.same HO10.out).alloc (.cells #[.int .i64 (-x)] 3)).size h)) HP.out.det HS1.out HS2.out (by have := HXv.out; unfold Tot.Vd at *; omega) HI8.out HN8.out (fun M2 h1 h2 => by
               have h3 := HNo.out M2 h1 h2
               rw [decide_eq_true cc2] at h3
               exact Sv.so_opp (by have := HXv.out; unfold Tot.Vd at this; omega) (by have := HXv.out; unfold Tot.Vd at this; omega) (by rw [Int.neg_neg]; exact h3))
              have HAs2 := Lib.hid hask
              clear hI11 o8b r11 o11 hg11 hask
              have fst := field_state
              go_wp2_with fail
              refine HAs2.out.mono ?_
              rintro e w12 ⟨va, vb, met2, rfl, O12⟩
              have hfin : Only (fun _ => False) w w12 := (HOn4.out.same HO6.out).trans O12 fun q hq => .inr (Nat.le_trans HH.out.on.size (HNw.out q hq))
              go_wp2_with fail
              go_ret
              exact ⟨rfl, hfin⟩
             ·have d6 : decide ((ix : Int) < (cn : Int)) = false := decide_eq_false (by omega)
              have HFx := Lib.hid (law23_fixed (w := w9))
              have tm2 := HTm2.out
              go_wp2_with fail
              clear tm2
              refine HFx.out.mono ?_
              rintro e w10 ⟨rfl, O10⟩
              have hrow10 := own_only HRow.out (HO49.out.same O10) (fun _ _ f => f)
              have HRow10 := Lib.hid hrow10
              have HO10 := Lib.hid O10
              clear hrow10 O10
              go_wp2_with (at_builtin; go_must (refine wpA1G (u := .int .i64 (x)) slInt rfl (.tmp 189) (.tmp 191) rfl rfl rfl (cell_new0 _ _ _) rfl (own_only HRow10.out ((Only.refl (fun _ => False) _).alloc _) (fun _ _ f => f)) (by omega) (by decide) ?_))
              intro v11 w11 r11 o11 t11
              obtain ⟨g11, c11, rfl, -, -, hg11⟩ := t11
              have hI11 : Ints w11 (.slice (some ⟨g11, 0, none⟩) (k + 1) c11) (Tot.litsOf k so ++ [x]) := by
               have hll : (Tot.litsOf k so ++ [x]).length = k + 1 := by rw [List.length_append, hlk]; rfl
               have := Ints.of_own (xs := Tot.litsOf k so ++ [x]) (w := w11) (v := .slice (some ⟨g11, 0, none⟩) (k + 1) c11) (by rw [hll, List.map_append]; exact r11) (fun y hy => by
                rcases List.mem_append.1 hy with hy | hy
                ·exact vd_rng (N := k) (by omega) (fun z hz => ((Tot.mem_litsOf (by omega)).1 hz).1) y hy
                ·rw [List.mem_singleton.1 hy]
                 have := HXv.out
                 unfold Tot.Vd at this
                 unfold InI64; omega)
               exact this
              have o8b : Only (fun q => (Value.slice aa k ca2).ownBlock = some q) w8 w11 := ((((HO9.out.same HO10.out).alloc (.cells #[.int .i64 (x)] 3)).mono fun _ f => f.elim).trans o11 fun q hq => .inl hq)
              have hlt : ∀ q, (Value.slice aa k ca2).ownBlock = some q → q < w6.heap.size := fun q hq => Nat.lt_of_lt_of_le (own_lt HRow.out hq) HO6.out.size
              have hask := counts_ask2 H8.out o8b hlt (by omega) HP.out.vd hI11 (by omega) (fun q hq => by
               simp [Value.blk] at hq
               subst hq
               rcases hg11 with h | h
               ·exact .inl (hlt _ h)
               ·refine .inr (Nat.le_trans ((HO9.out.same HO10.out).alloc (.cells #[.int .i64 (x)] 3)).size h)) HP.out.det HS1.out HS2.out (by have := HXv.out; unfold Tot.Vd at *; omega) HI8.out HN8.out (fun M2 h1 h2 => by
               have h3 := HNo.out M2 h1 h2
               rw [decide_eq_false cc2] at h3
               exact h3)
              have HAs2 := Lib.hid hask
              clear hI11 o8b r11 o11 hg11 hask
              have fst := field_state
              go_wp2_with fail
              refine HAs2.out.mono ?_
              rintro e w12 ⟨va, vb, met2, rfl, O12⟩
              have hfin : Only (fun _ => False) w w12 := (HOn4.out.same HO6.out).trans O12 fun q hq => .inr (Nat.le_trans HH.out.on.size (HNw.out q hq))
              go_wp2_with fail
              go_ret
              exact ⟨rfl, hfin⟩
end
end Go.Proofs.YtjedgdamommgeaaGreat
