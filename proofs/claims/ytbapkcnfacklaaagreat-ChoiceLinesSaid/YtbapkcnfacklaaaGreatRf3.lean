/- The document's checks: May, twice, settings, wish. Printed by gen_rf3.py. -/
import Derived.Test.YtbapkcnfacklaaaGreatRfS
import Derived.Test.YtbapkcnfacklaaaGreatRowB
import Derived.Test.YtbapkcnfacklaaaGreatRegion5
import Derived.Deep.QuietTactic
import Derived.BigQuiet
set_option linter.unusedVariables false
namespace Go.Proofs.YtbapkcnfacklaaaGreat
open Go.RowKit
def VarOk (v : VarD) : Prop := 1 ≤ v.values.length ∧ v.values.length ≤ 4
def VarsOk (l : List VarD) : Prop := l.length ≤ 4 ∧ ∀ v ∈ l, VarOk v
section
variable {w w' : World} {B : Nat}
def MayEnd (l : List VarD) (w w' : World) (e : Ending) : Prop := ∃ b, e = .returned (.bool b) ∧ (b = true → VarsOk l) ∧ Only (fun _ => False) w w'
theorem MayEnd.mk {l : List VarD} (b : Bool) {w w' : World} {e : Ending} (he : e = .returned (.bool b)) (hb : b = true → VarsOk l) (ho : Only (fun _ => False) w w') : MayEnd l w w' e := ⟨b, he, hb, ho⟩
set_option maxRecDepth 100000 in
set_option maxHeartbeats 4000000 in
theorem May_any {vl : Value} {l : List VarD} (hl : RowT 2 VarC B w vl l) :
  Calls Tryz.prog 94 #[vl] w fun e w' => MayEnd l w w' e := by
 obtain ⟨a_l, c_l, rfl, g_l, g2_l⟩ := hl.shape
 obtain ⟨n_l, e1⟩ : ∃ n, l.length = n := ⟨_, rfl⟩
 have N_l := Lib.hid e1
 rw [e1] at hl g_l ⊢
 have RR_l := Lib.hid hl
 clear e1 hl
 obtain ⟨W0, hW0⟩ : ∃ W0, W0 = w := ⟨_, rfl⟩
 have HOB : Hid (Only (fun _ => False) w W0) := by rw [hW0]; exact Only.refl _ _
 have HR_l : Hid (∀ W, Only (fun _ => False) W0 W → RowT 2 VarC B W (.slice a_l n_l c_l) l) := fun W ho => RR_l.out.keep VarC.keep (Kp.of0 (HOB.out.same ho))
 clear RR_l
 by_cases c4 : 4 < n_l
 ·subst hW0
  go_enter Tryz.func94, Tryz.ntmps94
  go_wp2_with fail
  go_ret
  exact MayEnd.mk _ rfl (fun h => by cases h) (HOB.out.same (Only.refl _ _))
 ·subst hW0
  go_enter Tryz.func94, Tryz.ntmps94
  go_wp2_with fail
  have HOC : Hid (Only (fun _ => False) W0 W0) := Only.refl _ _
  go_loopw [12] (fun vi wri => Hid (Only (fun _ => False) W0 wri) ∧ ∃ i : Nat, vi = .int .i64 i ∧ i ≤ n_l ∧ Hid (∀ v ∈ l.take i, VarOk v)) (fun v _ => n_l - (RowKit.intOf v).toNat)
  case atStart => exact ⟨HOC, 0, rfl, Nat.zero_le _, show Hid _ from fun v hv => by simp at hv⟩
  case round =>
   obtain ⟨wri, rfl⟩ : ∃ W, W = wr := ⟨_, rfl⟩
   clear HOC
   obtain ⟨HOi, i, rfl, hi, HZ⟩ := hrel
   by_cases ci : i < n_l
   ·have ewi : IntKind.i64.wrap ((i : Int) + 1) = (i : Int) + 1 := by rw [IntKind.wrap_i64]; omega
    obtain ⟨yy, hxy⟩ : ∃ y, l[i]? = some y := ⟨_, List.getElem?_eq_getElem (by rw [N_l.out]; omega)⟩
    obtain ⟨bky, offy, ay1, ny1, cy1, hey, N0y1, oky1, HE0y⟩ := VarC_at (HR_l.out W0 (Only.refl _ _)) hxy
    first
     | subst hey
     | (simp only [Option.some.injEq, Addr.mk.injEq, and_true] at hey; obtain ⟨rfl, rfl⟩ := hey)
    have Ny1 := Lib.hid N0y1
    have HEy := Lib.hid HE0y
    have HXy := Lib.hid hxy
    clear HE0y hxy N0y1
    have HRy1 : Hid (∀ W, Only (fun _ => False) W0 W → RowT 1 StrC B W (.slice ay1 ny1 cy1) yy.values) := fun W ho => (HEy.out W ho).2.1
    have HCy : Hid (∀ W, Only (fun _ => False) W0 W → VarC B W [.string yy.name, .slice ay1 ny1 cy1] yy) := fun W ho => (HEy.out W ho).2.2
    have hry := (HEy.out wri HOi.out).1
    have gy0 := hry 0 _ rfl
    have gy1 := hry 1 _ rfl
    rw [Nat.add_zero] at gy0
    clear hry
    have HNm := Lib.hid (Name_some (w := wri) yy.name oky1)
    go_wp2_with fail
    refine HNm.out.mono ?_
    rintro e w1 ⟨bb, rfl, O1⟩
    have HO1 := Lib.hid (HOi.out.same O1)
    clear O1 HNm gy0 gy1
    have hry := (HEy.out w1 HO1.out).1
    have gy0 := hry 0 _ rfl
    have gy1 := hry 1 _ rfl
    rw [Nat.add_zero] at gy0
    clear hry
    cases bb with
    | false =>
     go_wp2_with fail
     go_ret
     exact MayEnd.mk _ rfl (fun h => by cases h) (HOB.out.same HO1.out)
    | true =>
     by_cases z1 : ny1 = 0
     ·subst z1
      go_wp2_with fail
      go_ret
      exact MayEnd.mk _ rfl (fun h => by cases h) (HOB.out.same HO1.out)
     ·have z3 : ((ny1 : Int) == 0) = false := by rw [beq_eq_false_iff_ne]; omega
      by_cases z2 : 4 < ny1
      ·go_wp2_with fail
       go_ret
       exact MayEnd.mk _ rfl (fun h => by cases h) (HOB.out.same HO1.out)
      ·have HZ2 : Hid (∀ v ∈ l.take (i + 1), VarOk v) := fun v hv => by
        rcases mem_take_snoc HXy.out hv with h | rfl
        ·exact HZ.out v h
        ·exact ⟨by rw [Ny1.out]; omega, by rw [Ny1.out]; omega⟩
       go_wp2_with fail
       have HOC := HO1
       clear gy0 gy1 z3
       go_loopw [4] (fun vm wrm => Hid (Only (fun _ => False) W0 wrm) ∧ ∃ m : Nat, vm = .int .i64 m ∧ m ≤ i) (fun v _ => i - (RowKit.intOf v).toNat)
       case atStart => exact ⟨HOC, 0, rfl, Nat.zero_le _⟩
       case round =>
        obtain ⟨wrm, rfl⟩ : ∃ W, W = wr := ⟨_, rfl⟩
        clear HOC
        obtain ⟨HOm, m, rfl, hm⟩ := hrel
        by_cases cm : m < i
        ·have ewm : IntKind.i64.wrap ((m : Int) + 1) = (m : Int) + 1 := by rw [IntKind.wrap_i64]; omega
         obtain ⟨yz, hxz⟩ : ∃ y, l[m]? = some y := ⟨_, List.getElem?_eq_getElem (by rw [N_l.out]; omega)⟩
         obtain ⟨bkz, offz, az1, nz1, cz1, hez, N0z1, okz1, HE0z⟩ := VarC_at (HR_l.out W0 (Only.refl _ _)) hxz
         first
          | subst hez
          | (simp only [Option.some.injEq, Addr.mk.injEq, and_true] at hez; obtain ⟨rfl, rfl⟩ := hez)
         have Nz1 := Lib.hid N0z1
         have HEz := Lib.hid HE0z
         have HXz := Lib.hid hxz
         clear HE0z hxz N0z1
         have HRz1 : Hid (∀ W, Only (fun _ => False) W0 W → RowT 1 StrC B W (.slice az1 nz1 cz1) yz.values) := fun W ho => (HEz.out W ho).2.1
         have HCz : Hid (∀ W, Only (fun _ => False) W0 W → VarC B W [.string yz.name, .slice az1 nz1 cz1] yz) := fun W ho => (HEz.out W ho).2.2
         have hry := (HEy.out wrm HOm.out).1
         have gy0 := hry 0 _ rfl
         rw [Nat.add_zero] at gy0
         clear hry
         have hrz := (HEz.out wrm HOm.out).1
         have gz0 := hrz 0 _ rfl
         rw [Nat.add_zero] at gz0
         clear hrz
         have hbd := bytes_dec yz.name yy.name
         obtain ⟨bb, hbb⟩ : ∃ b, decide (yz.name = yy.name) = b := ⟨_, rfl⟩
         rw [hbb] at hbd
         clear hbb
         go_wp2_with fail
         go_quiet (fail)
         cases bb with
         | true =>
          go_wp2_with fail
          go_ret
          exact MayEnd.mk _ rfl (fun h => by cases h) (HOB.out.same (HOm.out.drewN _))
         | false =>
          go_wp2_with fail
          go_roundw
          case rel => exact ⟨show Hid _ from (HOm.out.drewN _), m + 1, by first | rfl | go_num, by omega⟩
          case measure => simp [RowKit.intOf] <;> omega
        ·obtain rfl : i = m := by omega
         have hry := (HEy.out wrm HOm.out).1
         have gy1 := hry 1 _ rfl
         clear hry
         have HOC := HOm
         go_wp2_with fail
         clear gy1
         go_loopw [62] (fun vk wrk => Hid (Only (fun _ => False) W0 wrk) ∧ ∃ k : Nat, vk = .int .i64 k ∧ k ≤ ny1) (fun v _ => ny1 - (RowKit.intOf v).toNat)
         case atStart => exact ⟨HOC, 0, rfl, Nat.zero_le _⟩
         case round =>
          obtain ⟨wrk, rfl⟩ : ∃ W, W = wr := ⟨_, rfl⟩
          clear HOC
          obtain ⟨HOk, k, rfl, hk⟩ := hrel
          by_cases ck : k < ny1
          ·have ewk : IntKind.i64.wrap ((k : Int) + 1) = (k : Int) + 1 := by rw [IntKind.wrap_i64]; omega
           obtain ⟨ys, hxs⟩ : ∃ y, yy.values[k]? = some y := ⟨_, List.getElem?_eq_getElem (by rw [Ny1.out]; omega)⟩
           obtain ⟨bks, offs, hes, oks1, HE0s⟩ := StrC_at (HRy1.out W0 (Only.refl _ _)) hxs
           first
            | subst hes
            | (simp only [Option.some.injEq, Addr.mk.injEq, and_true] at hes; obtain ⟨rfl, rfl⟩ := hes)
           have HEs := Lib.hid HE0s
           have HXs := Lib.hid hxs
           clear HE0s hxs
           have HCs : Hid (∀ W, Only (fun _ => False) W0 W → StrC B W [.string ys] ys) := fun W ho => (HEs.out W ho).2
           have hry := (HEy.out wrk HOk.out).1
           have gy1 := hry 1 _ rfl
           clear hry
           have hrs := (HEs.out wrk HOk.out).1
           have gs0 := hrs 0 _ rfl
           rw [Nat.add_zero] at gs0
           rw [Nat.mul_one] at gs0
           clear hrs
           have HVl := Lib.hid (Value_some (w := wrk) ys oks1)
           go_wp2_with fail
           refine HVl.out.mono ?_
           rintro e w2 ⟨bb, rfl, O2⟩
           have HO2 := Lib.hid (HOk.out.same O2)
           clear O2 HVl gy1 gs0
           cases bb with
           | false =>
            go_wp2_with fail
            go_ret
            exact MayEnd.mk _ rfl (fun h => by cases h) (HOB.out.same HO2.out)
           | true =>
            have HOC := HO2
            clear ewk
            go_wp2_with fail
            go_loopw [6] (fun vn wrn => Hid (Only (fun _ => False) W0 wrn) ∧ ∃ n : Nat, vn = .int .i64 n ∧ n ≤ k) (fun v _ => k - (RowKit.intOf v).toNat)
            case atStart => exact ⟨HOC, 0, rfl, Nat.zero_le _⟩
            case round =>
             obtain ⟨wrn, rfl⟩ : ∃ W, W = wr := ⟨_, rfl⟩
             clear HOC
             obtain ⟨HOn, n, rfl, hn⟩ := hrel
             by_cases cn : n < k
             ·have ewn : IntKind.i64.wrap ((n : Int) + 1) = (n : Int) + 1 := by rw [IntKind.wrap_i64]; omega
              obtain ⟨yt, hxt⟩ : ∃ y, yy.values[n]? = some y := ⟨_, List.getElem?_eq_getElem (by rw [Ny1.out]; omega)⟩
              obtain ⟨bkt, offt, het, okt1, HE0t⟩ := StrC_at (HRy1.out W0 (Only.refl _ _)) hxt
              first
               | subst het
               | (simp only [Option.some.injEq, Addr.mk.injEq, and_true] at het; obtain ⟨rfl, rfl⟩ := het)
              have HEt := Lib.hid HE0t
              have HXt := Lib.hid hxt
              clear HE0t hxt
              have HCt : Hid (∀ W, Only (fun _ => False) W0 W → StrC B W [.string yt] yt) := fun W ho => (HEt.out W ho).2
              have hry := (HEy.out wrn HOn.out).1
              have gy1 := hry 1 _ rfl
              clear hry
              have hrs := (HEs.out wrn HOn.out).1
              have gs0 := hrs 0 _ rfl
              rw [Nat.add_zero] at gs0
              rw [Nat.mul_one] at gs0
              clear hrs
              have hrt := (HEt.out wrn HOn.out).1
              have gt0 := hrt 0 _ rfl
              rw [Nat.add_zero] at gt0
              rw [Nat.mul_one] at gt0
              clear hrt
              have hbd := bytes_dec yt ys
              obtain ⟨bb, hbb⟩ : ∃ b, decide (yt = ys) = b := ⟨_, rfl⟩
              rw [hbb] at hbd
              clear hbb
              go_wp2_with fail
              go_quiet (fail)
              cases bb with
              | true =>
               go_wp2_with fail
               go_ret
               exact MayEnd.mk _ rfl (fun h => by cases h) (HOB.out.same (HOn.out.drewN _))
              | false =>
               go_wp2_with fail
               go_roundw
               case rel => exact ⟨show Hid _ from (HOn.out.drewN _), n + 1, by first | rfl | go_num, by omega⟩
               case measure => simp [RowKit.intOf] <;> omega
             ·obtain rfl : k = n := by omega
              go_wp2_with fail
              go_roundw
              case rel => exact ⟨HOn, k + 1, by first | rfl | go_num, by omega⟩
              case measure => simp [RowKit.intOf] <;> omega
          ·obtain rfl : ny1 = k := by omega
           go_wp2_with fail
           go_roundw
           case rel => exact ⟨HOk, i + 1, by first | rfl | go_num, by omega, HZ2⟩
           case measure => simp [RowKit.intOf] <;> omega
   ·obtain rfl : n_l = i := by omega
    go_wp2_with fail
    go_ret
    refine MayEnd.mk _ rfl (fun _ => ⟨by rw [N_l.out]; omega, fun v hv => HZ.out v ?_⟩) (HOB.out.same HOi.out)
    rw [List.take_of_length_le (Nat.le_of_eq N_l.out)]
    exact hv
set_option maxRecDepth 100000 in
set_option maxHeartbeats 4000000 in
theorem Twice_any {vl : Value} {l : List Str} (hl : RowT 1 StrC B w vl l) :
  Calls Tryz.prog 93 #[vl] w fun e w' => SomeBool w w' e := by
 obtain ⟨a_l, c_l, rfl, g_l, g2_l⟩ := hl.shape
 obtain ⟨n_l, e1⟩ : ∃ n, l.length = n := ⟨_, rfl⟩
 have N_l := Lib.hid e1
 rw [e1] at hl g_l ⊢
 have RR_l := Lib.hid hl
 clear e1 hl
 obtain ⟨W0, hW0⟩ : ∃ W0, W0 = w := ⟨_, rfl⟩
 have HOB : Hid (Only (fun _ => False) w W0) := by rw [hW0]; exact Only.refl _ _
 have HR_l : Hid (∀ W, Only (fun _ => False) W0 W → RowT 1 StrC B W (.slice a_l n_l c_l) l) := fun W ho => RR_l.out.keep StrC.keep (Kp.of0 (HOB.out.same ho))
 clear RR_l
 subst hW0
 go_enter Tryz.func93, Tryz.ntmps93
 go_wp2_with fail
 have HOC : Hid (Only (fun _ => False) W0 W0) := Only.refl _ _
 go_loopw [7] (fun vi wri => Hid (Only (fun _ => False) W0 wri) ∧ ∃ i : Nat, vi = .int .i64 i ∧ i ≤ n_l) (fun v _ => n_l - (RowKit.intOf v).toNat)
 case atStart => exact ⟨HOC, 0, rfl, Nat.zero_le _⟩
 case round =>
  obtain ⟨wri, rfl⟩ : ∃ W, W = wr := ⟨_, rfl⟩
  clear HOC
  obtain ⟨HOi, i, rfl, hi⟩ := hrel
  by_cases ci : i < n_l
  ·have ewi : IntKind.i64.wrap ((i : Int) + 1) = (i : Int) + 1 := by rw [IntKind.wrap_i64]; omega
   obtain ⟨ys, hxs⟩ : ∃ y, l[i]? = some y := ⟨_, List.getElem?_eq_getElem (by rw [N_l.out]; omega)⟩
   obtain ⟨bks, offs, hes, oks1, HE0s⟩ := StrC_at (HR_l.out W0 (Only.refl _ _)) hxs
   first
    | subst hes
    | (simp only [Option.some.injEq, Addr.mk.injEq, and_true] at hes; obtain ⟨rfl, rfl⟩ := hes)
   have HEs := Lib.hid HE0s
   have HXs := Lib.hid hxs
   clear HE0s hxs
   have HCs : Hid (∀ W, Only (fun _ => False) W0 W → StrC B W [.string ys] ys) := fun W ho => (HEs.out W ho).2
   have HOC := HOi
   go_wp2_with fail
   go_loopw [4] (fun vk wrk => Hid (Only (fun _ => False) W0 wrk) ∧ ∃ k : Nat, vk = .int .i64 k ∧ k ≤ i) (fun v _ => i - (RowKit.intOf v).toNat)
   case atStart => exact ⟨HOC, 0, rfl, Nat.zero_le _⟩
   case round =>
    obtain ⟨wrk, rfl⟩ : ∃ W, W = wr := ⟨_, rfl⟩
    clear HOC
    obtain ⟨HOk, k, rfl, hk⟩ := hrel
    by_cases ck : k < i
    ·have ewk : IntKind.i64.wrap ((k : Int) + 1) = (k : Int) + 1 := by rw [IntKind.wrap_i64]; omega
     obtain ⟨yt, hxt⟩ : ∃ y, l[k]? = some y := ⟨_, List.getElem?_eq_getElem (by rw [N_l.out]; omega)⟩
     obtain ⟨bkt, offt, het, okt1, HE0t⟩ := StrC_at (HR_l.out W0 (Only.refl _ _)) hxt
     first
      | subst het
      | (simp only [Option.some.injEq, Addr.mk.injEq, and_true] at het; obtain ⟨rfl, rfl⟩ := het)
     have HEt := Lib.hid HE0t
     have HXt := Lib.hid hxt
     clear HE0t hxt
     have HCt : Hid (∀ W, Only (fun _ => False) W0 W → StrC B W [.string yt] yt) := fun W ho => (HEt.out W ho).2
     have hrs := (HEs.out wrk HOk.out).1
     have gs0 := hrs 0 _ rfl
     rw [Nat.add_zero] at gs0
     rw [Nat.mul_one] at gs0
     clear hrs
     have hrt := (HEt.out wrk HOk.out).1
     have gt0 := hrt 0 _ rfl
     rw [Nat.add_zero] at gt0
     rw [Nat.mul_one] at gt0
     clear hrt
     have hbd := bytes_dec ys yt
     obtain ⟨bb, hbb⟩ : ∃ b, decide (ys = yt) = b := ⟨_, rfl⟩
     rw [hbb] at hbd
     clear hbb
     go_wp2_with fail
     go_quiet (fail)
     cases bb with
     | true =>
      go_wp2_with fail
      go_ret
      exact SomeBool.mk _ rfl (HOB.out.same (HOk.out.drewN _))
     | false =>
      go_wp2_with fail
      go_roundw
      case rel => exact ⟨show Hid _ from (HOk.out.drewN _), k + 1, by first | rfl | go_num, by omega⟩
      case measure => simp [RowKit.intOf] <;> omega
    ·obtain rfl : i = k := by omega
     go_wp2_with fail
     go_roundw
     case rel => exact ⟨HOk, i + 1, by first | rfl | go_num, by omega⟩
     case measure => simp [RowKit.intOf] <;> omega
  ·obtain rfl : n_l = i := by omega
   go_wp2_with fail
   go_ret
   exact SomeBool.mk _ rfl (HOB.out.same HOi.out)
attribute [local irreducible] wpQuiet
def setV (s : SetD) (v : VarD) : Bool := decide (v.name = s.name) && hasS v.values s.value
def setIn (p : PackD) (s : SetD) : Bool := p.vars.any (setV s)
def settingsD (p : PackD) (l : List SetD) : Bool := l.all (setIn p)
theorem any_take_snoc {α : Type} {g : α → Bool} {xs : List α} {k : Nat} {x : α} (hx : xs[k]? = some x) : (xs.take (k + 1)).any g = ((xs.take k).any g || g x) := by
 rw [List.take_add_one, hx]
 simp [List.any_append]
set_option maxRecDepth 100000 in
set_option maxHeartbeats 4000000 in
theorem Settings_any {csp : List Value} {p : PackD} (hp : PackC B w csp p) {vl : Value} {l : List SetD} (hl : RowT 2 SetC B w vl l) :
  Calls Tryz.prog 95 #[.agg csp.toArray, vl] w fun e w' => e = .returned (.bool (settingsD p l)) ∧ Only (fun _ => False) w w' := by
 have HH_p := Lib.hid hp
 obtain ⟨u1, u2, u3, u4, u5, u6, rfl, -, -, r1, r2, r3, r4, r5, r6⟩ := hp
 obtain ⟨a_p_rels, c_p_rels, rfl, g_p_rels, h_p_rels⟩ := r1.shape
 obtain ⟨n_p_rels, e1⟩ : ∃ n, p.rels.length = n := ⟨_, rfl⟩
 have N_p_rels := Lib.hid e1
 obtain ⟨a_p_vars, c_p_vars, rfl, g_p_vars, h_p_vars⟩ := r2.shape
 obtain ⟨n_p_vars, e2⟩ : ∃ n, p.vars.length = n := ⟨_, rfl⟩
 have N_p_vars := Lib.hid e2
 obtain ⟨a_p_provides, c_p_provides, rfl, g_p_provides, h_p_provides⟩ := r3.shape
 obtain ⟨n_p_provides, e3⟩ : ∃ n, p.provides.length = n := ⟨_, rfl⟩
 have N_p_provides := Lib.hid e3
 obtain ⟨a_p_deps, c_p_deps, rfl, g_p_deps, h_p_deps⟩ := r4.shape
 obtain ⟨n_p_deps, e4⟩ : ∃ n, p.deps.length = n := ⟨_, rfl⟩
 have N_p_deps := Lib.hid e4
 obtain ⟨a_p_cons, c_p_cons, rfl, g_p_cons, h_p_cons⟩ := r5.shape
 obtain ⟨n_p_cons, e5⟩ : ∃ n, p.cons.length = n := ⟨_, rfl⟩
 have N_p_cons := Lib.hid e5
 obtain ⟨a_p_files, c_p_files, rfl, g_p_files, h_p_files⟩ := r6.shape
 obtain ⟨n_p_files, e6⟩ : ∃ n, p.files.length = n := ⟨_, rfl⟩
 have N_p_files := Lib.hid e6
 rw [e1, e2, e3, e4, e5, e6] at HH_p
 rw [e1] at r1 g_p_rels
 have RR_p_rels := Lib.hid r1
 rw [e2] at r2 g_p_vars
 have RR_p_vars := Lib.hid r2
 rw [e3] at r3 g_p_provides
 have RR_p_provides := Lib.hid r3
 rw [e4] at r4 g_p_deps
 have RR_p_deps := Lib.hid r4
 rw [e5] at r5 g_p_cons
 have RR_p_cons := Lib.hid r5
 rw [e6] at r6 g_p_files
 have RR_p_files := Lib.hid r6
 rw [e1, e2, e3, e4, e5, e6]
 clear e1 e2 e3 e4 e5 e6 r1 r2 r3 r4 r5 r6
 obtain ⟨a_l, c_l, rfl, g_l, g2_l⟩ := hl.shape
 obtain ⟨n_l, e1⟩ : ∃ n, l.length = n := ⟨_, rfl⟩
 have N_l := Lib.hid e1
 rw [e1] at hl g_l ⊢
 have RR_l := Lib.hid hl
 clear e1 hl
 obtain ⟨W0, hW0⟩ : ∃ W0, W0 = (w.alloc (.cells #[.string p.name, .int .i64 p.line, .slice a_p_rels n_p_rels c_p_rels, .slice a_p_vars n_p_vars c_p_vars, .slice a_p_provides n_p_provides c_p_provides, .slice a_p_deps n_p_deps c_p_deps, .slice a_p_cons n_p_cons c_p_cons, .slice a_p_files n_p_files c_p_files] 43)) := ⟨_, rfl⟩
 have HOB : Hid (Only (fun _ => False) w W0) := by rw [hW0]; exact (Only.refl _ _).alloc _
 have HSz : Hid (W0.heap.size = w.heap.size + 1) := by rw [hW0]; simp [Hid]
 have HBox : Hid (∀ W, Only (fun _ => False) W0 W → W.cell? ⟨w.heap.size, 0, none⟩ = some (.string p.name) ∧ W.cell? ⟨w.heap.size, 1, none⟩ = some (.int .i64 p.line) ∧ W.cell? ⟨w.heap.size, 2, none⟩ = some (.slice a_p_rels n_p_rels c_p_rels) ∧ W.cell? ⟨w.heap.size, 3, none⟩ = some (.slice a_p_vars n_p_vars c_p_vars) ∧ W.cell? ⟨w.heap.size, 4, none⟩ = some (.slice a_p_provides n_p_provides c_p_provides) ∧ W.cell? ⟨w.heap.size, 5, none⟩ = some (.slice a_p_deps n_p_deps c_p_deps) ∧ W.cell? ⟨w.heap.size, 6, none⟩ = some (.slice a_p_cons n_p_cons c_p_cons) ∧ W.cell? ⟨w.heap.size, 7, none⟩ = some (.slice a_p_files n_p_files c_p_files)) := fun W ho => by
  have b0 : W0.heap[w.heap.size]? = some (.cells #[.string p.name, .int .i64 p.line, .slice a_p_rels n_p_rels c_p_rels, .slice a_p_vars n_p_vars c_p_vars, .slice a_p_provides n_p_provides c_p_provides, .slice a_p_deps n_p_deps c_p_deps, .slice a_p_cons n_p_cons c_p_cons, .slice a_p_files n_p_files c_p_files] 43) := by rw [hW0]; exact alloc_at rfl
  have d0 := only_block b0 ho (fun f => f)
  exact ⟨by rw [cell_block d0]; rfl, by rw [cell_block d0]; rfl, by rw [cell_block d0]; rfl, by rw [cell_block d0]; rfl, by rw [cell_block d0]; rfl, by rw [cell_block d0]; rfl, by rw [cell_block d0]; rfl, by rw [cell_block d0]; rfl⟩
 have HK_p : Hid (∀ W, Only (fun _ => False) W0 W → PackC B W [.string p.name, .int .i64 p.line, .slice a_p_rels n_p_rels c_p_rels, .slice a_p_vars n_p_vars c_p_vars, .slice a_p_provides n_p_provides c_p_provides, .slice a_p_deps n_p_deps c_p_deps, .slice a_p_cons n_p_cons c_p_cons, .slice a_p_files n_p_files c_p_files] p) := fun W ho => PackC.keep HH_p.out (Kp.of0 (HOB.out.same ho) : Kp B w W)
 have HR_p_rels : Hid (∀ W, Only (fun _ => False) W0 W → RowT 2 RelC B W (.slice a_p_rels n_p_rels c_p_rels) p.rels) := fun W ho => RR_p_rels.out.keep RelC.keep (Kp.of0 (HOB.out.same ho))
 clear RR_p_rels
 have HR_p_vars : Hid (∀ W, Only (fun _ => False) W0 W → RowT 2 VarC B W (.slice a_p_vars n_p_vars c_p_vars) p.vars) := fun W ho => RR_p_vars.out.keep VarC.keep (Kp.of0 (HOB.out.same ho))
 clear RR_p_vars
 have HR_p_provides : Hid (∀ W, Only (fun _ => False) W0 W → RowT 1 StrC B W (.slice a_p_provides n_p_provides c_p_provides) p.provides) := fun W ho => RR_p_provides.out.keep StrC.keep (Kp.of0 (HOB.out.same ho))
 clear RR_p_provides
 have HR_p_deps : Hid (∀ W, Only (fun _ => False) W0 W → RowT 7 DepC B W (.slice a_p_deps n_p_deps c_p_deps) p.deps) := fun W ho => RR_p_deps.out.keep DepC.keep (Kp.of0 (HOB.out.same ho))
 clear RR_p_deps
 have HR_p_cons : Hid (∀ W, Only (fun _ => False) W0 W → RowT 7 ConC B W (.slice a_p_cons n_p_cons c_p_cons) p.cons) := fun W ho => RR_p_cons.out.keep ConC.keep (Kp.of0 (HOB.out.same ho))
 clear RR_p_cons
 have HR_p_files : Hid (∀ W, Only (fun _ => False) W0 W → RowT 1 StrC B W (.slice a_p_files n_p_files c_p_files) p.files) := fun W ho => RR_p_files.out.keep StrC.keep (Kp.of0 (HOB.out.same ho))
 clear RR_p_files
 clear HH_p
 have HR_l : Hid (∀ W, Only (fun _ => False) W0 W → RowT 2 SetC B W (.slice a_l n_l c_l) l) := fun W ho => RR_l.out.keep SetC.keep (Kp.of0 (HOB.out.same ho))
 clear RR_l
 clear g_p_rels h_p_rels N_p_rels HR_p_rels g_p_provides h_p_provides N_p_provides HR_p_provides g_p_deps h_p_deps N_p_deps HR_p_deps g_p_cons h_p_cons N_p_cons HR_p_cons g_p_files h_p_files N_p_files HR_p_files
 obtain ⟨r, hr⟩ : ∃ r, settingsD p l = r := ⟨_, rfl⟩
 rw [hr]
 have HRes := Lib.hid hr
 clear hr
 go_enter Tryz.func95, Tryz.ntmps95
 go_wp2_with fail
 rw [← hW0]
 clear hW0
 have HBV : Hid (∀ W, Only (fun _ => False) W0 W → W.cell? ⟨w.heap.size, 3, none⟩ = some (.slice a_p_vars n_p_vars c_p_vars)) := fun W ho => (HBox.out W ho).2.2.2.1
 clear HBox
 have HOC : Hid (Only (fun _ => False) W0 W0) := Only.refl _ _
 go_wp2_with fail
 go_loopw [10] (fun vi wri => Hid (Only (fun _ => False) W0 wri) ∧ ∃ i : Nat, vi = .int .i64 i ∧ i ≤ n_l ∧ Hid (∀ s ∈ l.take i, setIn p s = true)) (fun v _ => n_l - (RowKit.intOf v).toNat)
 case atStart => exact ⟨HOC, 0, rfl, Nat.zero_le _, show Hid _ from fun v hv => by simp at hv⟩
 case round =>
  obtain ⟨wri, rfl⟩ : ∃ W, W = wr := ⟨_, rfl⟩
  clear HOC
  obtain ⟨HOi, i, rfl, hi, HZ⟩ := hrel
  by_cases ci : i < n_l
  ·have ewi : IntKind.i64.wrap ((i : Int) + 1) = (i : Int) + 1 := by rw [IntKind.wrap_i64]; omega
   obtain ⟨ys, hxs⟩ : ∃ y, l[i]? = some y := ⟨_, List.getElem?_eq_getElem (by rw [N_l.out]; omega)⟩
   obtain ⟨bks, offs, hes, oks1, oks2, HE0s⟩ := SetC_at (HR_l.out W0 (Only.refl _ _)) hxs
   first
    | subst hes
    | (simp only [Option.some.injEq, Addr.mk.injEq, and_true] at hes; obtain ⟨rfl, rfl⟩ := hes)
   have HEs := Lib.hid HE0s
   have HXs := Lib.hid hxs
   clear HE0s hxs
   have HCs : Hid (∀ W, Only (fun _ => False) W0 W → SetC B W [.string ys.name, .string ys.value] ys) := fun W ho => (HEs.out W ho).2
   have HOC := HOi
   have q0 := HBV.out wri HOi.out
   go_wp2_with fail
   clear q0
   go_loopw [16, 6] (fun vk vf wrk => Hid (Only (fun _ => False) W0 wrk) ∧ ∃ (k : Nat) (f : Bool), vk = .int .i64 k ∧ k ≤ n_p_vars ∧ vf = .bool f ∧ Hid ((p.vars.take k).any (setV ys) = f)) (fun v _ _ => n_p_vars - (RowKit.intOf v).toNat)
   case atStart => exact ⟨HOC, 0, false, rfl, Nat.zero_le _, rfl, show Hid _ from rfl⟩
   case round =>
    obtain ⟨wrk, rfl⟩ : ∃ W, W = wr := ⟨_, rfl⟩
    clear HOC
    obtain ⟨HOk, k, f, rfl, hk, rfl, HA⟩ := hrel
    by_cases ck : k < n_p_vars
    ·have ewk : IntKind.i64.wrap ((k : Int) + 1) = (k : Int) + 1 := by rw [IntKind.wrap_i64]; omega
     obtain ⟨yz, hxz⟩ : ∃ y, p.vars[k]? = some y := ⟨_, List.getElem?_eq_getElem (by rw [N_p_vars.out]; omega)⟩
     obtain ⟨bkz, offz, az1, nz1, cz1, hez, N0z1, okz1, HE0z⟩ := VarC_at (HR_p_vars.out W0 (Only.refl _ _)) hxz
     first
      | subst hez
      | (simp only [Option.some.injEq, Addr.mk.injEq, and_true] at hez; obtain ⟨rfl, rfl⟩ := hez)
     have Nz1 := Lib.hid N0z1
     have HEz := Lib.hid HE0z
     have HXz := Lib.hid hxz
     clear HE0z hxz N0z1
     have HRz1 : Hid (∀ W, Only (fun _ => False) W0 W → RowT 1 StrC B W (.slice az1 nz1 cz1) yz.values) := fun W ho => (HEz.out W ho).2.1
     have HCz : Hid (∀ W, Only (fun _ => False) W0 W → VarC B W [.string yz.name, .slice az1 nz1 cz1] yz) := fun W ho => (HEz.out W ho).2.2
     have hrs := (HEs.out wrk HOk.out).1
     have gs0 := hrs 0 _ rfl
     have gs1 := hrs 1 _ rfl
     rw [Nat.add_zero] at gs0
     clear hrs
     have hrz := (HEz.out wrk HOk.out).1
     have gz0 := hrz 0 _ rfl
     have gz1 := hrz 1 _ rfl
     rw [Nat.add_zero] at gz0
     clear hrz
     have q0 := HBV.out wrk HOk.out
     have hbd := bytes_dec yz.name ys.name
     obtain ⟨bb, hbb⟩ : ∃ b, decide (yz.name = ys.name) = b := ⟨_, rfl⟩
     rw [hbb] at hbd
     have HBB := Lib.hid hbb
     clear hbb
     cases f with
     | true =>
      go_wp2_with fail
      refine wp_region_Q (fun w' => Only (fun _ => False) W0 w') (by kernel_rfl) (by kernel_rfl) (by exact HOk.out.drew) ?_
      refine wpQ_val (v := ?_) (by rfl) ?_ ?_
      rotate_left
      ·(intro w hSw; (try dsimp only at hSw); go_simp <;> (try with_reducible rfl))
      try simp only [Act.put, zq4, zq5, zq6]
      refine wpQ_val (v := ?_) (by rfl) ?_ ?_
      rotate_left
      ·(intro w hSw; (try dsimp only at hSw); go_simp <;> (try with_reducible rfl))
      try simp only [Act.put, zq4, zq5, zq6]
      refine wpQ_skip (by kernel_rfl) ?_
      try simp only [Act.put, zq4, zq5, zq6]
      refine wpQ_skip (by kernel_rfl) ?_
      try simp only [Act.put, zq4, zq5, zq6]
      refine wpQ_skip (by kernel_rfl) ?_
      try simp only [Act.put, zq4, zq5, zq6]
      refine wpQ_skip (by kernel_rfl) ?_
      try simp only [Act.put, zq4, zq5, zq6]
      refine wpQ_skip (by kernel_rfl) ?_
      try simp only [Act.put, zq4, zq5, zq6]
      refine wpQ_skip (by kernel_rfl) ?_
      try simp only [Act.put, zq4, zq5, zq6]
      refine wpQ_skip (by kernel_rfl) ?_
      try simp only [Act.put, zq4, zq5, zq6]
      refine wpQ_skip (by kernel_rfl) ?_
      try simp only [Act.put, zq4, zq5, zq6]
      refine wpQ_skip (by kernel_rfl) ?_
      try simp only [Act.put, zq4, zq5, zq6]
      refine wpQ_skip (by kernel_rfl) ?_
      try simp only [Act.put, zq4, zq5, zq6]
      refine wpQ_skip (by kernel_rfl) ?_
      try simp only [Act.put, zq4, zq5, zq6]
      refine wpQ_skip (by kernel_rfl) ?_
      try simp only [Act.put, zq4, zq5, zq6]
      refine wpQ_skip (by kernel_rfl) ?_
      try simp only [Act.put, zq4, zq5, zq6]
      refine wpQ_skip (by kernel_rfl) ?_
      try simp only [Act.put, zq4, zq5, zq6]
      refine wpQ_skip (by kernel_rfl) ?_
      try simp only [Act.put, zq4, zq5, zq6]
      refine wpQ_skip (by kernel_rfl) ?_
      try simp only [Act.put, zq4, zq5, zq6]
      refine wpQ_skip (by kernel_rfl) ?_
      try simp only [Act.put, zq4, zq5, zq6]
      refine wpQ_skip (by kernel_rfl) ?_
      try simp only [Act.put, zq4, zq5, zq6]
      refine wpQ_skip (by kernel_rfl) ?_
      try simp only [Act.put, zq4, zq5, zq6]
      refine wpQ_skip (by kernel_rfl) ?_
      try simp only [Act.put, zq4, zq5, zq6]
      refine wpQ_skip (by kernel_rfl) ?_
      try simp only [Act.put, zq4, zq5, zq6]
      refine wpQ_skip (by kernel_rfl) ?_
      try simp only [Act.put, zq4, zq5, zq6]
      refine wpQ_skip (by kernel_rfl) ?_
      try simp only [Act.put, zq4, zq5, zq6]
      refine wpQ_skip (by kernel_rfl) ?_
      try simp only [Act.put, zq4, zq5, zq6]
      refine wpQ_skip (by kernel_rfl) ?_
      try simp only [Act.put, zq4, zq5, zq6]
      refine wpQ_skip (by kernel_rfl) ?_
      try simp only [Act.put, zq4, zq5, zq6]
      refine wpQ_val (v := ?_) (by rfl) ?_ ?_
      rotate_left
      ·(intro w hSw; (try dsimp only at hSw); go_simp <;> (try with_reducible rfl))
      try simp only [Act.put, zq4, zq5, zq6]
      refine wpQ_val (v := ?_) (by rfl) ?_ ?_
      rotate_left
      ·(intro w hSw; (try dsimp only at hSw); go_simp <;> (try with_reducible rfl))
      try simp only [Act.put, zq4, zq5, zq6]
      refine wpQuiet_nil ?_
      (intro w9 hw9; have HO9 := Lib.hid hw9; clear hw9)
      have HA2 : Hid ((p.vars.take (k + 1)).any (setV ys) = true) := by
       have h1 := any_take_snoc (g := setV ys) HXz.out
       rw [HA.out] at h1
       rw [Hid, h1]
       simp
      go_wp2_with fail
      go_roundw
      case rel => exact ⟨HO9, k + 1, true, by first | rfl | go_num, by omega, by first | rfl | simp, HA2⟩
      case measure => simp [RowKit.intOf] <;> omega
     | false =>
      cases bb with
      | false =>
       go_wp2_with fail
       refine wp_region_Q (fun w' => Only (fun _ => False) W0 w') (by kernel_rfl) (by kernel_rfl) (by exact HOk.out.drew) ?_
       refine wpQ_val (v := ?_) (by rfl) ?_ ?_
       rotate_left
       ·(intro w hSw; (try dsimp only at hSw); go_simp <;> (try with_reducible rfl))
       try simp only [Act.put, zq4, zq5, zq6]
       refine wpQ_val (v := ?_) (by rfl) ?_ ?_
       rotate_left
       ·(intro w hSw; (try dsimp only at hSw); go_simp <;> (try with_reducible rfl))
       try simp only [Act.put, zq4, zq5, zq6]
       refine wpQ_val (v := ?_) (by rfl) ?_ ?_
       rotate_left
       ·(intro w hSw; (try dsimp only at hSw); go_simp <;> (try with_reducible rfl))
       try simp only [Act.put, zq4, zq5, zq6]
       refine wpQ_val (v := ?_) (by rfl) ?_ ?_
       rotate_left
       ·(intro w hSw; (try dsimp only at hSw); have q0 := HBV.out w hSw; have hrs := (HEs.out w hSw).1; have gs0 := hrs 0 _ rfl; have gs1 := hrs 1 _ rfl; rw [Nat.add_zero] at gs0; clear hrs; have hrz := (HEz.out w hSw).1; have gz0 := hrz 0 _ rfl; have gz1 := hrz 1 _ rfl; rw [Nat.add_zero] at gz0; clear hrz; go_simp <;> (try with_reducible rfl))
       try simp only [Act.put, zq4, zq5, zq6]
       refine wpQ_val (v := ?_) (by rfl) ?_ ?_
       rotate_left
       ·(intro w hSw; (try dsimp only at hSw); go_simp <;> (try with_reducible rfl))
       try simp only [Act.put, zq4, zq5, zq6]
       refine wpQ_val (v := ?_) (by rfl) ?_ ?_
       rotate_left
       ·(intro w hSw; (try dsimp only at hSw); go_simp <;> (try with_reducible rfl))
       try simp only [Act.put, zq4, zq5, zq6]
       refine wpQ_val (v := ?_) (by rfl) ?_ ?_
       rotate_left
       ·(intro w hSw; (try dsimp only at hSw); go_simp <;> (try with_reducible rfl))
       try simp only [Act.put, zq4, zq5, zq6]
       refine wpQ_val (v := ?_) (by rfl) ?_ ?_
       rotate_left
       ·(intro w hSw; (try dsimp only at hSw); have q0 := HBV.out w hSw; have hrs := (HEs.out w hSw).1; have gs0 := hrs 0 _ rfl; have gs1 := hrs 1 _ rfl; rw [Nat.add_zero] at gs0; clear hrs; have hrz := (HEz.out w hSw).1; have gz0 := hrz 0 _ rfl; have gz1 := hrz 1 _ rfl; rw [Nat.add_zero] at gz0; clear hrz; go_simp <;> (try with_reducible rfl))
       try simp only [Act.put, zq4, zq5, zq6]
       refine wpQ_val (v := ?_) (by rfl) ?_ ?_
       rotate_left
       ·(intro w hSw; (try dsimp only at hSw); go_simp <;> (try with_reducible rfl))
       try simp only [Act.put, zq4, zq5, zq6]
       refine wpQ_val (v := ?_) (by rfl) ?_ ?_
       rotate_left
       ·(intro w hSw; (try dsimp only at hSw); go_simp <;> (try with_reducible rfl))
       try simp only [Act.put, zq4, zq5, zq6]
       refine wpQ_val (v := ?_) (by rfl) ?_ ?_
       rotate_left
       ·(intro w hSw; (try dsimp only at hSw); go_simp <;> (try with_reducible rfl))
       try simp only [Act.put, zq4, zq5, zq6]
       refine wpQ_val (v := ?_) (by rfl) ?_ ?_
       rotate_left
       ·(intro w hSw; (try dsimp only at hSw); go_simp <;> (try with_reducible rfl))
       try simp only [Act.put, zq4, zq5, zq6]
       refine wpQ_val (v := ?_) (by rfl) ?_ ?_
       rotate_left
       ·(intro w hSw; (try dsimp only at hSw); have q0 := HBV.out w hSw; have hrs := (HEs.out w hSw).1; have gs0 := hrs 0 _ rfl; have gs1 := hrs 1 _ rfl; rw [Nat.add_zero] at gs0; clear hrs; have hrz := (HEz.out w hSw).1; have gz0 := hrz 0 _ rfl; have gz1 := hrz 1 _ rfl; rw [Nat.add_zero] at gz0; clear hrz; go_simp <;> (try with_reducible rfl))
       try simp only [Act.put, zq4, zq5, zq6]
       refine wpQ_val (v := ?_) (by rfl) ?_ ?_
       rotate_left
       ·(intro w hSw; (try dsimp only at hSw); go_simp <;> (try with_reducible rfl))
       try simp only [Act.put, zq4, zq5, zq6]
       refine wpQ_val (v := ?_) (by rfl) ?_ ?_
       rotate_left
       ·(intro w hSw; (try dsimp only at hSw); go_simp <;> (try with_reducible rfl))
       try simp only [Act.put, zq4, zq5, zq6]
       refine wpQ_skip (by kernel_rfl) ?_
       try simp only [Act.put, zq4, zq5, zq6]
       refine wpQ_skip (by kernel_rfl) ?_
       try simp only [Act.put, zq4, zq5, zq6]
       refine wpQ_skip (by kernel_rfl) ?_
       try simp only [Act.put, zq4, zq5, zq6]
       refine wpQ_skip (by kernel_rfl) ?_
       try simp only [Act.put, zq4, zq5, zq6]
       refine wpQ_skip (by kernel_rfl) ?_
       try simp only [Act.put, zq4, zq5, zq6]
       refine wpQ_skip (by kernel_rfl) ?_
       try simp only [Act.put, zq4, zq5, zq6]
       refine wpQ_skip (by kernel_rfl) ?_
       try simp only [Act.put, zq4, zq5, zq6]
       refine wpQ_skip (by kernel_rfl) ?_
       try simp only [Act.put, zq4, zq5, zq6]
       refine wpQ_skip (by kernel_rfl) ?_
       try simp only [Act.put, zq4, zq5, zq6]
       refine wpQ_skip (by kernel_rfl) ?_
       try simp only [Act.put, zq4, zq5, zq6]
       refine wpQ_skip (by kernel_rfl) ?_
       try simp only [Act.put, zq4, zq5, zq6]
       refine wpQ_skip (by kernel_rfl) ?_
       try simp only [Act.put, zq4, zq5, zq6]
       refine wpQ_val (v := ?_) (by rfl) ?_ ?_
       rotate_left
       ·(intro w hSw; (try dsimp only at hSw); go_simp <;> (try with_reducible rfl))
       try simp only [Act.put, zq4, zq5, zq6]
       refine wpQ_val (v := ?_) (by rfl) ?_ ?_
       rotate_left
       ·(intro w hSw; (try dsimp only at hSw); go_simp <;> (try with_reducible rfl))
       try simp only [Act.put, zq4, zq5, zq6]
       refine wpQ_val (v := ?_) (by rfl) ?_ ?_
       rotate_left
       ·(intro w hSw; (try dsimp only at hSw); go_simp <;> (try with_reducible rfl))
       try simp only [Act.put, zq4, zq5, zq6]
       refine wpQuiet_nil ?_
       (intro w9 hw9; have HO9 := Lib.hid hw9; clear hw9)
       have HA2 : Hid ((p.vars.take (k + 1)).any (setV ys) = false) := by
        have h1 := any_take_snoc (g := setV ys) HXz.out
        rw [HA.out] at h1
        rw [Hid, h1]
        simp only [setV, HBB.out]; rfl
       go_wp2_with fail
       go_roundw
       case rel => exact ⟨HO9, k + 1, false, by first | rfl | go_num, by omega, by first | rfl | simp, HA2⟩
       case measure => simp [RowKit.intOf] <;> omega
      | true =>
       go_wp2_with fail
       refine wp_region_Q (fun w' => Only (fun _ => False) W0 w') (by kernel_rfl) (by kernel_rfl) (by exact HOk.out.drew) ?_
       refine wpQ_val (v := ?_) (by rfl) ?_ ?_
       rotate_left
       ·(intro w hSw; (try dsimp only at hSw); go_simp <;> (try with_reducible rfl))
       try simp only [Act.put, zq4, zq5, zq6]
       refine wpQ_val (v := ?_) (by rfl) ?_ ?_
       rotate_left
       ·(intro w hSw; (try dsimp only at hSw); go_simp <;> (try with_reducible rfl))
       try simp only [Act.put, zq4, zq5, zq6]
       refine wpQ_val (v := ?_) (by rfl) ?_ ?_
       rotate_left
       ·(intro w hSw; (try dsimp only at hSw); go_simp <;> (try with_reducible rfl))
       try simp only [Act.put, zq4, zq5, zq6]
       refine wpQ_val (v := ?_) (by rfl) ?_ ?_
       rotate_left
       ·(intro w hSw; (try dsimp only at hSw); have q0 := HBV.out w hSw; have hrs := (HEs.out w hSw).1; have gs0 := hrs 0 _ rfl; have gs1 := hrs 1 _ rfl; rw [Nat.add_zero] at gs0; clear hrs; have hrz := (HEz.out w hSw).1; have gz0 := hrz 0 _ rfl; have gz1 := hrz 1 _ rfl; rw [Nat.add_zero] at gz0; clear hrz; go_simp <;> (try with_reducible rfl))
       try simp only [Act.put, zq4, zq5, zq6]
       refine wpQ_val (v := ?_) (by rfl) ?_ ?_
       rotate_left
       ·(intro w hSw; (try dsimp only at hSw); go_simp <;> (try with_reducible rfl))
       try simp only [Act.put, zq4, zq5, zq6]
       refine wpQ_val (v := ?_) (by rfl) ?_ ?_
       rotate_left
       ·(intro w hSw; (try dsimp only at hSw); go_simp <;> (try with_reducible rfl))
       try simp only [Act.put, zq4, zq5, zq6]
       refine wpQ_val (v := ?_) (by rfl) ?_ ?_
       rotate_left
       ·(intro w hSw; (try dsimp only at hSw); go_simp <;> (try with_reducible rfl))
       try simp only [Act.put, zq4, zq5, zq6]
       refine wpQ_val (v := ?_) (by rfl) ?_ ?_
       rotate_left
       ·(intro w hSw; (try dsimp only at hSw); have q0 := HBV.out w hSw; have hrs := (HEs.out w hSw).1; have gs0 := hrs 0 _ rfl; have gs1 := hrs 1 _ rfl; rw [Nat.add_zero] at gs0; clear hrs; have hrz := (HEz.out w hSw).1; have gz0 := hrz 0 _ rfl; have gz1 := hrz 1 _ rfl; rw [Nat.add_zero] at gz0; clear hrz; go_simp <;> (try with_reducible rfl))
       try simp only [Act.put, zq4, zq5, zq6]
       refine wpQ_val (v := ?_) (by rfl) ?_ ?_
       rotate_left
       ·(intro w hSw; (try dsimp only at hSw); go_simp <;> (try with_reducible rfl))
       try simp only [Act.put, zq4, zq5, zq6]
       refine wpQ_val (v := ?_) (by rfl) ?_ ?_
       rotate_left
       ·(intro w hSw; (try dsimp only at hSw); go_simp <;> (try with_reducible rfl))
       try simp only [Act.put, zq4, zq5, zq6]
       refine wpQ_val (v := ?_) (by rfl) ?_ ?_
       rotate_left
       ·(intro w hSw; (try dsimp only at hSw); go_simp <;> (try with_reducible rfl))
       try simp only [Act.put, zq4, zq5, zq6]
       refine wpQ_val (v := ?_) (by rfl) ?_ ?_
       rotate_left
       ·(intro w hSw; (try dsimp only at hSw); go_simp <;> (try with_reducible rfl))
       try simp only [Act.put, zq4, zq5, zq6]
       refine wpQ_val (v := ?_) (by rfl) ?_ ?_
       rotate_left
       ·(intro w hSw; (try dsimp only at hSw); have q0 := HBV.out w hSw; have hrs := (HEs.out w hSw).1; have gs0 := hrs 0 _ rfl; have gs1 := hrs 1 _ rfl; rw [Nat.add_zero] at gs0; clear hrs; have hrz := (HEz.out w hSw).1; have gz0 := hrz 0 _ rfl; have gz1 := hrz 1 _ rfl; rw [Nat.add_zero] at gz0; clear hrz; go_simp <;> (try with_reducible rfl))
       try simp only [Act.put, zq4, zq5, zq6]
       refine wpQ_val (v := ?_) (by rfl) ?_ ?_
       rotate_left
       ·(intro w hSw; (try dsimp only at hSw); go_simp <;> (try with_reducible rfl))
       try simp only [Act.put, zq4, zq5, zq6]
       refine wpQ_val (v := ?_) (by rfl) ?_ ?_
       rotate_left
       ·(intro w hSw; (try dsimp only at hSw); go_simp <;> (try with_reducible rfl))
       try simp only [Act.put, zq4, zq5, zq6]
       refine wpQ_val (v := ?_) (by rfl) ?_ ?_
       rotate_left
       ·(intro w hSw; (try dsimp only at hSw); go_simp <;> (try with_reducible rfl))
       try simp only [Act.put, zq4, zq5, zq6]
       refine wpQ_val (v := ?_) (by rfl) ?_ ?_
       rotate_left
       ·(intro w hSw; (try dsimp only at hSw); have q0 := HBV.out w hSw; have hrs := (HEs.out w hSw).1; have gs0 := hrs 0 _ rfl; have gs1 := hrs 1 _ rfl; rw [Nat.add_zero] at gs0; clear hrs; have hrz := (HEz.out w hSw).1; have gz0 := hrz 0 _ rfl; have gz1 := hrz 1 _ rfl; rw [Nat.add_zero] at gz0; clear hrz; go_simp <;> (try with_reducible rfl))
       try simp only [Act.put, zq4, zq5, zq6]
       refine wpQ_val (v := ?_) (by rfl) ?_ ?_
       rotate_left
       ·(intro w hSw; (try dsimp only at hSw); go_simp <;> (try with_reducible rfl))
       try simp only [Act.put, zq4, zq5, zq6]
       refine wpQ_val (v := ?_) (by rfl) ?_ ?_
       rotate_left
       ·(intro w hSw; (try dsimp only at hSw); go_simp <;> (try with_reducible rfl))
       try simp only [Act.put, zq4, zq5, zq6]
       refine wpQ_val (v := ?_) (by rfl) ?_ ?_
       rotate_left
       ·(intro w hSw; (try dsimp only at hSw); go_simp <;> (try with_reducible rfl))
       try simp only [Act.put, zq4, zq5, zq6]
       refine wpQ_val (v := ?_) (by rfl) ?_ ?_
       rotate_left
       ·(intro w hSw; (try dsimp only at hSw); have q0 := HBV.out w hSw; have hrs := (HEs.out w hSw).1; have gs0 := hrs 0 _ rfl; have gs1 := hrs 1 _ rfl; rw [Nat.add_zero] at gs0; clear hrs; have hrz := (HEz.out w hSw).1; have gz0 := hrz 0 _ rfl; have gz1 := hrz 1 _ rfl; rw [Nat.add_zero] at gz0; clear hrz; go_simp <;> (try with_reducible rfl))
       try simp only [Act.put, zq4, zq5, zq6]
       refine wpQ_val (v := ?_) (by rfl) ?_ ?_
       rotate_left
       ·(intro w hSw; (try dsimp only at hSw); go_simp <;> (try with_reducible rfl))
       try simp only [Act.put, zq4, zq5, zq6]
       refine wpQ_val (v := ?_) (by rfl) ?_ ?_
       rotate_left
       ·(intro w hSw; (try dsimp only at hSw); go_simp <;> (try with_reducible rfl))
       try simp only [Act.put, zq4, zq5, zq6]
       refine wpQ_val (v := ?_) (by rfl) ?_ ?_
       rotate_left
       ·(intro w hSw; (try dsimp only at hSw); go_simp <;> (try with_reducible rfl))
       try simp only [Act.put, zq4, zq5, zq6]
       refine wpQ_val (v := ?_) (by rfl) ?_ ?_
       rotate_left
       ·(intro w hSw; (try dsimp only at hSw); go_simp <;> (try with_reducible rfl))
       try simp only [Act.put, zq4, zq5, zq6]
       refine wpQ_val (v := ?_) (by rfl) ?_ ?_
       rotate_left
       ·(intro w hSw; (try dsimp only at hSw); have q0 := HBV.out w hSw; have hrs := (HEs.out w hSw).1; have gs0 := hrs 0 _ rfl; have gs1 := hrs 1 _ rfl; rw [Nat.add_zero] at gs0; clear hrs; have hrz := (HEz.out w hSw).1; have gz0 := hrz 0 _ rfl; have gz1 := hrz 1 _ rfl; rw [Nat.add_zero] at gz0; clear hrz; go_simp <;> (try with_reducible rfl))
       try simp only [Act.put, zq4, zq5, zq6]
       refine wpQ_call (v := .bool (hasS yz.values ys.value)) (f := 96) (args := #[.slice az1 nz1 cz1, .string ys.value]) (by rfl) ?_ ?_ ?_
       ·(intro w; go_simp <;> (try with_reducible rfl))
       ·(intro w hSw; exact (Has9_any (HRz1.out w hSw) _).mono fun _ _ ⟨he, ho⟩ => ⟨he, hSw.same ho⟩)
       try simp only [Act.put, zq4, zq5, zq6]
       refine wpQ_val (v := ?_) (by rfl) ?_ ?_
       rotate_left
       ·(intro w hSw; (try dsimp only at hSw); go_simp <;> (try with_reducible rfl))
       try simp only [Act.put, zq4, zq5, zq6]
       refine wpQ_val (v := ?_) (by rfl) ?_ ?_
       rotate_left
       ·(intro w hSw; (try dsimp only at hSw); go_simp <;> (try with_reducible rfl))
       try simp only [Act.put, zq4, zq5, zq6]
       refine wpQ_val (v := ?_) (by rfl) ?_ ?_
       rotate_left
       ·(intro w hSw; (try dsimp only at hSw); go_simp <;> (try with_reducible rfl))
       try simp only [Act.put, zq4, zq5, zq6]
       refine wpQuiet_nil ?_
       (intro w9 hw9; have HO9 := Lib.hid hw9; clear hw9)
       have HA2 : Hid ((p.vars.take (k + 1)).any (setV ys) = (hasS yz.values ys.value)) := by
        have h1 := any_take_snoc (g := setV ys) HXz.out
        rw [HA.out] at h1
        rw [Hid, h1]
        simp only [setV, HBB.out]; simp
       go_wp2_with fail
       go_roundw
       case rel => exact ⟨HO9, k + 1, (hasS yz.values ys.value), by first | rfl | go_num, by omega, by first | rfl | simp, HA2⟩
       case measure => simp [RowKit.intOf] <;> omega
    ·obtain rfl : n_p_vars = k := by omega
     have HS : Hid (setIn p ys = f) := by
      have h1 := HA.out
      rw [List.take_of_length_le (Nat.le_of_eq N_p_vars.out)] at h1
      exact h1
     cases f with
     | false =>
      have hrf : r = false := by
       rw [← HRes.out, Bool.eq_false_iff]
       intro h
       have := List.all_eq_true.1 h ys (List.mem_of_getElem? HXs.out)
       rw [HS.out] at this
       cases this
      subst hrf
      go_wp2_with fail
      go_ret
      exact ⟨rfl, HOB.out.same HOk.out⟩
     | true =>
      have HZ2 : Hid (∀ s ∈ l.take (i + 1), setIn p s = true) := fun v hv => by
       rcases mem_take_snoc HXs.out hv with h | rfl
       ·exact HZ.out v h
       ·exact HS.out
      go_wp2_with fail
      go_roundw
      case rel => exact ⟨HOk, i + 1, by first | rfl | go_num, by omega, HZ2⟩
      case measure => simp [RowKit.intOf] <;> omega
  ·obtain rfl : n_l = i := by omega
   have hrt : r = true := by
    rw [← HRes.out]
    refine List.all_eq_true.2 fun v hv => HZ.out v ?_
    rw [List.take_of_length_le (Nat.le_of_eq N_l.out)]
    exact hv
   subst hrt
   go_wp2_with fail
   go_ret
   exact ⟨rfl, HOB.out.same HOi.out⟩
end
end Go.Proofs.YtbapkcnfacklaaaGreat
