/- Rf5 Rf6 Rf7, in one text. -/
import Derived.Test.YtbapkcnfacklaaaGreatRf4
import Derived.Test.YtbapkcnfacklaaaGreatStepA
import Derived.Test.YtbapkcnfacklaaaGreatNdA
import Derived.Deep.MidRow
import Derived.BigFrame
import Derived.Carry
import Derived.Laws.ResultCell
import Derived.Test.YtbapkcnfacklaaaGreatRegion5
import Derived.Deep.QuietTactic
import Derived.BigQuiet
set_option linter.unusedVariables false
namespace Go.Proofs.YtbapkcnfacklaaaGreat
open Go.RowKit
section
variable {w w' : World} {B : Nat}
structure PackOk (p : PackD) : Prop where
 some : 1 ≤ p.rels.length
 rels : p.rels.length ≤ 10
 vars : VarsOk p.vars
def AloneEnd (p : PackD) (w w' : World) (e : Ending) : Prop := ∃ c : Int, e = .returned (.int .u8 c) ∧ (0 ≤ c ∧ c ≤ 255) ∧ (c = 0 → PackOk p) ∧ Only (fun _ => False) w w'
theorem AloneEnd.mk {p : PackD} (c : Int) {w w' : World} {e : Ending} (he : e = .returned (.int .u8 c)) (hc : 0 ≤ c ∧ c ≤ 255) (hb : c = 0 → PackOk p) (ho : Only (fun _ => False) w w') : AloneEnd p w w' e := ⟨c, he, hc, hb, ho⟩
def strs9 (l : List Str) : List Value := l.map Value.string
theorem slStr9 : SlT Tryz.prog 39 9 1 16 := SlT.mk' (z := .string .empty) Tryz.underlying39 (by kernel_rfl) rfl (by decide)
theorem own_litS (w : World) : (w.alloc (.cells #[] 9)).ownsRow 0 9 1 (.slice (some ⟨w.heap.size, 0, none⟩) 0 0) 0 [] :=
 World.ownsRow_lit (base := 0) (e := 9) (size := 1) w #[] 0 (Nat.zero_le _) (by unfold maxLen; omega) (by simp)
def versTo (l : List RelD) (j : Nat) : List Str := (l.take j).map RelD.version
theorem versTo_succ {l : List RelD} {j : Nat} {r : RelD} (h : l[j]? = some r) : versTo l (j + 1) = versTo l j ++ [r.version] := by
 unfold versTo
 rw [List.take_add_one, h]
 simp
theorem versTo_len {l : List RelD} {j : Nat} (h : j ≤ l.length) : (versTo l j).length = j := by
 unfold versTo
 simp; omega
theorem strs_read {v : Value} {l : List Str} {n : Nat} (hn : l.length = n) (h : w.ownsRow 0 9 1 v n (strs9 l)) (hk : ∀ s ∈ l, okS s) : RowT 1 StrC w.heap.size w v l := by
 subst hn
 refine RowT.of_own h fun i hi => ⟨[.string l[i]], rfl, fun j u hu => ?_, rfl, hk _ (List.getElem_mem hi)⟩
 obtain rfl : j = 0 := by
  have := (List.getElem?_eq_some_iff.1 hu).1
  simpa using this
 simp at hu
 subst hu
 simp [strs9, hi]
set_option maxRecDepth 100000 in
set_option maxHeartbeats 4000000 in
theorem Alone_any {csx : List Value} {x : RecD} (hx : RecC B w csx x) (hlen : x.packs.length ≤ 1000000) {i : Nat} (hi : i < x.packs.length) :
  Calls Tryz.prog 73 #[.agg csx.toArray, .int .i64 (i : Int)] w fun e w' => AloneEnd (x.pack i) w w' e := by
 have HH_x := Lib.hid hx
 obtain ⟨u1, u2, rfl, r1, r2⟩ := hx
 obtain ⟨a_x_packs, c_x_packs, rfl, g_x_packs, h_x_packs⟩ := r1.shape
 obtain ⟨n_x_packs, e1⟩ : ∃ n, x.packs.length = n := ⟨_, rfl⟩
 have N_x_packs := Lib.hid e1
 obtain ⟨a_x_prefs, c_x_prefs, rfl, g_x_prefs, h_x_prefs⟩ := r2.shape
 obtain ⟨n_x_prefs, e2⟩ : ∃ n, x.prefs.length = n := ⟨_, rfl⟩
 have N_x_prefs := Lib.hid e2
 rw [e1, e2] at HH_x
 rw [e1] at r1 g_x_packs
 have RR_x_packs := Lib.hid r1
 rw [e2] at r2 g_x_prefs
 have RR_x_prefs := Lib.hid r2
 rw [e1, e2]
 clear e1 e2 r1 r2
 obtain ⟨W0, hW0⟩ : ∃ W0, W0 = (w.alloc (.cells #[.slice a_x_packs n_x_packs c_x_packs, .slice a_x_prefs n_x_prefs c_x_prefs] 25)) := ⟨_, rfl⟩
 have HOB : Hid (Only (fun _ => False) w W0) := by rw [hW0]; exact (Only.refl _ _).alloc _
 have HSz : Hid (W0.heap.size = w.heap.size + 1) := by rw [hW0]; simp [Hid]
 have HBox : Hid (∀ W, Only (fun _ => False) W0 W → W.cell? ⟨w.heap.size, 0, none⟩ = some (.slice a_x_packs n_x_packs c_x_packs) ∧ W.cell? ⟨w.heap.size, 1, none⟩ = some (.slice a_x_prefs n_x_prefs c_x_prefs)) := fun W ho => by
  have b0 : W0.heap[w.heap.size]? = some (.cells #[.slice a_x_packs n_x_packs c_x_packs, .slice a_x_prefs n_x_prefs c_x_prefs] 25) := by rw [hW0]; exact alloc_at rfl
  have d0 := only_block b0 ho (fun f => f)
  exact ⟨by rw [cell_block d0]; rfl, by rw [cell_block d0]; rfl⟩
 have HK_x : Hid (∀ W, Only (fun _ => False) W0 W → RecC B W [.slice a_x_packs n_x_packs c_x_packs, .slice a_x_prefs n_x_prefs c_x_prefs] x) := fun W ho => RecC.keep HH_x.out (Kp.of0 (HOB.out.same ho) : Kp B w W)
 have HR_x_packs : Hid (∀ W, Only (fun _ => False) W0 W → RowT 8 PackC B W (.slice a_x_packs n_x_packs c_x_packs) x.packs) := fun W ho => RR_x_packs.out.keep PackC.keep (Kp.of0 (HOB.out.same ho))
 clear RR_x_packs
 have HR_x_prefs : Hid (∀ W, Only (fun _ => False) W0 W → RowT 3 PrefC B W (.slice a_x_prefs n_x_prefs c_x_prefs) x.prefs) := fun W ho => RR_x_prefs.out.keep PrefC.keep (Kp.of0 (HOB.out.same ho))
 clear RR_x_prefs
 clear HH_x
 clear g_x_prefs h_x_prefs N_x_prefs HR_x_prefs
 rw [N_x_packs.out] at hlen hi
 obtain ⟨yy, hxy⟩ : ∃ y, x.packs[i]? = some y := ⟨_, List.getElem?_eq_getElem (by rw [N_x_packs.out]; omega)⟩
 obtain ⟨bky, offy, ay1, ny1, cy1, ay2, ny2, cy2, ay3, ny3, cy3, ay4, ny4, cy4, ay5, ny5, cy5, ay6, ny6, cy6, hey, N0y1, N0y2, N0y3, N0y4, N0y5, N0y6, oky1, iny1, HE0y⟩ := PackC_at (HR_x_packs.out W0 (Only.refl _ _)) hxy
 first
  | subst hey
  | (simp only [Option.some.injEq, Addr.mk.injEq, and_true] at hey; obtain ⟨rfl, rfl⟩ := hey)
 have Ny1 := Lib.hid N0y1
 have Ny2 := Lib.hid N0y2
 have Ny3 := Lib.hid N0y3
 have Ny4 := Lib.hid N0y4
 have Ny5 := Lib.hid N0y5
 have Ny6 := Lib.hid N0y6
 have HEy := Lib.hid HE0y
 have HXy := Lib.hid hxy
 clear HE0y hxy N0y1 N0y2 N0y3 N0y4 N0y5 N0y6
 have HRy1 : Hid (∀ W, Only (fun _ => False) W0 W → RowT 2 RelC B W (.slice ay1 ny1 cy1) yy.rels) := fun W ho => (HEy.out W ho).2.1
 have HRy2 : Hid (∀ W, Only (fun _ => False) W0 W → RowT 2 VarC B W (.slice ay2 ny2 cy2) yy.vars) := fun W ho => (HEy.out W ho).2.2.1
 have HRy3 : Hid (∀ W, Only (fun _ => False) W0 W → RowT 1 StrC B W (.slice ay3 ny3 cy3) yy.provides) := fun W ho => (HEy.out W ho).2.2.2.1
 have HRy4 : Hid (∀ W, Only (fun _ => False) W0 W → RowT 7 DepC B W (.slice ay4 ny4 cy4) yy.deps) := fun W ho => (HEy.out W ho).2.2.2.2.1
 have HRy5 : Hid (∀ W, Only (fun _ => False) W0 W → RowT 7 ConC B W (.slice ay5 ny5 cy5) yy.cons) := fun W ho => (HEy.out W ho).2.2.2.2.2.1
 have HRy6 : Hid (∀ W, Only (fun _ => False) W0 W → RowT 1 StrC B W (.slice ay6 ny6 cy6) yy.files) := fun W ho => (HEy.out W ho).2.2.2.2.2.2.1
 have HCy : Hid (∀ W, Only (fun _ => False) W0 W → PackC B W [.string yy.name, .int .i64 yy.line, .slice ay1 ny1 cy1, .slice ay2 ny2 cy2, .slice ay3 ny3 cy3, .slice ay4 ny4 cy4, .slice ay5 ny5 cy5, .slice ay6 ny6 cy6] yy) := fun W ho => (HEy.out W ho).2.2.2.2.2.2.2
 have hpk : x.pack i = yy := by unfold RecD.pack; rw [List.getD_eq_getElem?_getD, HXy.out]; rfl
 rw [hpk]
 clear hpk
 obtain ⟨f, hf⟩ : ∃ f, x.find yy.name = f := ⟨_, rfl⟩
 obtain ⟨pn, hpn⟩ : ∃ f, (x.provs yy.name).length = f := ⟨_, rfl⟩
 have HF : Hid (∀ W, Only (fun _ => False) W0 W → Calls Tryz.prog 82 #[.agg #[.slice (some ⟨bky, offy, none⟩) n_x_packs c_x_packs, .slice a_x_prefs n_x_prefs c_x_prefs], .string yy.name] W fun e w' => e = .returned (.int .i64 f) ∧ Only (fun _ => False) W w') := fun W hW => by rw [← hf]; exact Find9_any (HK_x.out W hW) yy.name
 have HPv : Hid (∀ W, Only (fun _ => False) W0 W → Calls Tryz.prog 83 #[.agg #[.slice (some ⟨bky, offy, none⟩) n_x_packs c_x_packs, .slice a_x_prefs n_x_prefs c_x_prefs], .string yy.name] W fun e w' => ∃ a c, e = .returned (.slice a pn c) ∧ Only (fun _ => False) W w') := fun W hW => (Providers9_any (HK_x.out W hW) (by rw [N_x_packs.out]; exact hlen) yy.name).mono fun e w' ⟨v, he, h1, _, h3⟩ => by
  rw [hpn] at h1
  obtain ⟨a, c, rfl, -, -⟩ := own_slice h1
  exact ⟨a, c, he, h3⟩
 have HPn : Hid (pn ≤ n_x_packs) := by
  rw [← hpn, ← N_x_packs.out]
  unfold RecD.provs RecD.provTo
  have := List.length_filter_le (fun i => hasS (x.pack i).provides yy.name) (List.range x.packs.length)
  simpa [Hid] using this
 clear hf hpn
 have hry := Lib.hid (HEy.out W0 (Only.refl _ _)).1
 obtain ⟨W1, hW1⟩ : ∃ W1, W1 = W0.alloc (.cells #[.string yy.name, .int .i64 yy.line, .slice ay1 ny1 cy1, .slice ay2 ny2 cy2, .slice ay3 ny3 cy3, .slice ay4 ny4 cy4, .slice ay5 ny5 cy5, .slice ay6 ny6 cy6] 43) := ⟨_, rfl⟩
 have HO1 : Hid (Only (fun _ => False) W0 W1) := by rw [hW1]; exact (Only.refl _ _).alloc _
 have HBy : Hid (∀ W, Only (fun _ => False) W0 W → Only (fun _ => False) W1 W → W.cell? ⟨w.heap.size + 1, 0, none⟩ = some (.string yy.name) ∧ W.cell? ⟨w.heap.size + 1, 1, none⟩ = some (.int .i64 yy.line) ∧ W.cell? ⟨w.heap.size + 1, 2, none⟩ = some (.slice ay1 ny1 cy1) ∧ W.cell? ⟨w.heap.size + 1, 3, none⟩ = some (.slice ay2 ny2 cy2) ∧ W.cell? ⟨w.heap.size + 1, 4, none⟩ = some (.slice ay3 ny3 cy3) ∧ W.cell? ⟨w.heap.size + 1, 5, none⟩ = some (.slice ay4 ny4 cy4) ∧ W.cell? ⟨w.heap.size + 1, 6, none⟩ = some (.slice ay5 ny5 cy5) ∧ W.cell? ⟨w.heap.size + 1, 7, none⟩ = some (.slice ay6 ny6 cy6)) := fun W _ ho => by
  have b0 : W1.heap[w.heap.size + 1]? = some (.cells #[.string yy.name, .int .i64 yy.line, .slice ay1 ny1 cy1, .slice ay2 ny2 cy2, .slice ay3 ny3 cy3, .slice ay4 ny4 cy4, .slice ay5 ny5 cy5, .slice ay6 ny6 cy6] 43) := by rw [hW1, ← HSz.out]; exact heap_alloc_new W0 _
  have b1 := only_block b0 ho (fun f => f)
  exact ⟨by rw [cell_block b1]; rfl, by rw [cell_block b1]; rfl, by rw [cell_block b1]; rfl, by rw [cell_block b1]; rfl, by rw [cell_block b1]; rfl, by rw [cell_block b1]; rfl, by rw [cell_block b1]; rfl, by rw [cell_block b1]; rfl⟩
 rw [hW0] at hry
 go_enter Tryz.func73, Tryz.ntmps73
 go_wp2_with (refine wpList_load_mid rfl 43 (.tmp 11) rfl bky (offy + i * 8) rfl _ _ hry.out Tryz.underlying43 rfl (by kernel_rfl) ?_)
 rw [← hW0, ← hW1]
 clear hW0 hW1 hry
 have HP0 : Hid (Only (fun _ => False) W1 W1) := Only.refl _ _
 obtain ⟨k0, k1⟩ := HBox.out W1 (HO1.out.same HP0.out)
 obtain ⟨p0, p1, p2, p3, p4, p5, p6, p7⟩ := HBy.out W1 (HO1.out.same HP0.out) HP0.out
 go_wp2_with fail
 refine (HF.out W1 HO1.out).mono ?_
 rintro e w1 ⟨rfl, O1⟩
 have HP1 := Lib.hid O1
 clear O1 HP0 k0 k1 p0 p1 p2 p3 p4 p5 p6 p7
 obtain ⟨k0, k1⟩ := HBox.out w1 (HO1.out.same HP1.out)
 obtain ⟨p0, p1, p2, p3, p4, p5, p6, p7⟩ := HBy.out w1 (HO1.out.same HP1.out) HP1.out
 by_cases hfi : f = (i : Int)
 ·subst hfi
  go_wp2_with fail
  refine (HPv.out w1 (HO1.out.same HP1.out)).mono ?_
  rintro e w2 ⟨ap, cp, rfl, O1⟩
  have HP2 := Lib.hid (HP1.out.same O1)
  have hpn := HPn.out
  clear O1 k0 k1 p0 p1 p2 p3 p4 p5 p6 p7
  obtain ⟨k0, k1⟩ := HBox.out w2 (HO1.out.same HP2.out)
  obtain ⟨p0, p1, p2, p3, p4, p5, p6, p7⟩ := HBy.out w2 (HO1.out.same HP2.out) HP2.out
  by_cases cpn : 0 < pn
  ·go_wp2_with fail
   go_ret
   exact AloneEnd.mk _ rfl (by decide) (fun h => by cases h) (HOB.out.same (HO1.out.same HP2.out))
  ·by_cases z1 : ny1 = 0
   ·subst z1
    go_wp2_with fail
    go_ret
    exact AloneEnd.mk _ rfl (by decide) (fun h => by cases h) (HOB.out.same (HO1.out.same HP2.out))
   ·have z3 : ((ny1 : Int) == 0) = false := by rw [beq_eq_false_iff_ne]; omega
    by_cases q1 : 10 < ny1
    ·go_wp2_with fail
     go_ret
     exact AloneEnd.mk _ rfl (by decide) (fun h => by cases h) (HOB.out.same (HO1.out.same HP2.out))
    ·by_cases q2 : 16 < ny4
     ·go_wp2_with fail
      go_ret
      exact AloneEnd.mk _ rfl (by decide) (fun h => by cases h) (HOB.out.same (HO1.out.same HP2.out))
     ·by_cases q3 : 8 < ny5
      ·go_wp2_with fail
       go_ret
       exact AloneEnd.mk _ rfl (by decide) (fun h => by cases h) (HOB.out.same (HO1.out.same HP2.out))
      ·by_cases q4 : 4 < ny3
       ·go_wp2_with fail
        go_ret
        exact AloneEnd.mk _ rfl (by decide) (fun h => by cases h) (HOB.out.same (HO1.out.same HP2.out))
       ·by_cases q5 : 8 < ny6
        ·go_wp2_with fail
         go_ret
         exact AloneEnd.mk _ rfl (by decide) (fun h => by cases h) (HOB.out.same (HO1.out.same HP2.out))
        ·have HV0 : Hid ((w2.alloc (.cells #[] 9)).ownsRow 0 9 1 (.slice (some ⟨w2.heap.size, 0, none⟩) 0 0) 0 (strs9 (versTo yy.rels 0))) := own_litS w2
         have HP0 : Hid (Only (fun _ => False) W1 (w2.alloc (.cells #[] 9))) := HP2.out.alloc _
         have HB0 : Hid (∀ k, (Value.slice (some ⟨w2.heap.size, 0, none⟩) 0 0).ownBlock = some k → W1.heap.size ≤ k) := fun k hk => by simp [Value.ownBlock] at hk; have := HP2.out.size; omega
         have HOkR : Hid (∀ r ∈ yy.rels, okS r.version) := fun r hr => by
          obtain ⟨k, hk⟩ := List.mem_iff_getElem?.1 hr
          obtain ⟨_, _, _, h, _⟩ := RelC_at (HRy1.out W0 (Only.refl _ _)) hk
          exact h
         obtain ⟨-, -, o2, -, -, -, -, -⟩ := HBy.out _ (HO1.out.same HP0.out) HP0.out
         go_wp2_with fail
         clear o2
         go_loopw [6, 61] (fun vo vj wrj => Hid (Only (fun _ => False) W1 wrj) ∧ ∃ j : Nat, vj = .int .i64 j ∧ j ≤ ny1 ∧ Hid (wrj.ownsRow 0 9 1 vo j (strs9 (versTo yy.rels j))) ∧ Hid (∀ k, vo.ownBlock = some k → W1.heap.size ≤ k)) (fun _ v _ => ny1 - (RowKit.intOf v).toNat)
         case atStart => exact ⟨HP0, 0, rfl, Nat.zero_le _, HV0, HB0⟩
         case round =>
          obtain ⟨wrj, rfl⟩ : ∃ W, W = wr := ⟨_, rfl⟩
          clear HP0 HV0 HB0 k0 k1 p0 p1 p2 p3 p4 p5 p6 p7
          obtain ⟨HPj, j, rfl, hj, HV, HBj⟩ := hrel
          have HOj := HPj
          obtain ⟨k0, k1⟩ := HBox.out wrj (HO1.out.same HPj.out)
          obtain ⟨p0, p1, p2, p3, p4, p5, p6, p7⟩ := HBy.out wrj (HO1.out.same HPj.out) HPj.out
          obtain ⟨au, cu, rfl, -, -⟩ := own_slice HV.out
          by_cases cj : j < ny1
          ·have ewi : IntKind.i64.wrap ((j : Int) + 1) = (j : Int) + 1 := by rw [IntKind.wrap_i64]; omega
           obtain ⟨yz, hxz⟩ : ∃ y, yy.rels[j]? = some y := ⟨_, List.getElem?_eq_getElem (by rw [Ny1.out]; omega)⟩
           obtain ⟨bkz, offz, hez, okz1, HE0z⟩ := RelC_at (HRy1.out W0 (Only.refl _ _)) hxz
           first
            | subst hez
            | (simp only [Option.some.injEq, Addr.mk.injEq, and_true] at hez; obtain ⟨rfl, rfl⟩ := hez)
           have HEz := Lib.hid HE0z
           have HXz := Lib.hid hxz
           clear HE0z hxz
           have HCz : Hid (∀ W, Only (fun _ => False) W0 W → RelC B W [.string yz.version, .bool yz.old] yz) := fun W ho => (HEz.out W ho).2
           have hrz := (HEz.out wrj (HO1.out.same HPj.out)).1
           have gz0 := hrz 0 _ rfl
           rw [Nat.add_zero] at gz0
           clear hrz
           go_wp2_with (at_builtin; go_must (refine wpA1 (u := .string yz.version) slStr9 rfl (.tmp 64) (.tmp 71) rfl rfl rfl (cell_new0 _ _ _) rfl (own_only HV.out ((Only.refl (fun _ => False) _).alloc _) (fun _ _ f => f)) (by omega) (by decide) ?_))
           intro v' w2 r1 r2 r3
           have HVv : Hid (w2.ownsRow 0 9 1 v' (j + 1) (strs9 (versTo yy.rels (j + 1)))) := by
            rw [versTo_succ HXz.out]
            simpa [strs9, Hid] using r1
           have HOv := Lib.hid (((HOj.out.alloc _).trans r2 fun k hk => .inr (HBj.out k hk)))
           have HBv : Hid (∀ k, v'.ownBlock = some k → W1.heap.size ≤ k) := by
            intro k hk
            obtain ⟨g, cap', rfl, -, -, h | h⟩ := r3
            ·simp [Value.ownBlock] at hk; subst hk; exact HBj.out _ h
            ·simp [Value.ownBlock] at hk; subst hk
             have := HOj.out.size
             simp at h; omega
           obtain ⟨g, cap', rfl, -, -, -⟩ := r3
           clear r1 r2
           go_wp2_with fail
           go_roundw
           case rel => exact ⟨HOv, j + 1, by first | rfl | go_num, by omega, HVv, HBv⟩
           case measure => simp [RowKit.intOf] <;> omega
          ·obtain rfl : ny1 = j := by omega
           go_wp2_with fail
           have HTw := Lib.hid (Twice_any (w := wrj) (strs_read (versTo_len (by rw [Ny1.out]; exact Nat.le_refl _)) HV.out (fun s hs => by
            unfold versTo at hs
            obtain ⟨r, hr, rfl⟩ := List.mem_map.1 hs
            exact HOkR.out r (List.mem_of_mem_take hr))))
           refine (HTw.out).mono ?_
           rintro e w3 ⟨b1, rfl, O1⟩
           have HP3 := Lib.hid (HOj.out.same O1)
           clear O1 k0 k1 p0 p1 p2 p3 p4 p5 p6 p7
           obtain ⟨k0, k1⟩ := HBox.out w3 (HO1.out.same HP3.out)
           obtain ⟨p0, p1, p2, p3, p4, p5, p6, p7⟩ := HBy.out w3 (HO1.out.same HP3.out) HP3.out
           cases b1 with
           | false =>
            clear HTw HV HBj
            go_wp2_with fail
            refine (May_any (HRy2.out w3 (HO1.out.same HP3.out))).mono ?_
            rintro e w4 ⟨b2, rfl, hvs, O1⟩
            have HP4 := Lib.hid (HP3.out.same O1)
            clear O1 k0 k1 p0 p1 p2 p3 p4 p5 p6 p7
            obtain ⟨k0, k1⟩ := HBox.out w4 (HO1.out.same HP4.out)
            obtain ⟨p0, p1, p2, p3, p4, p5, p6, p7⟩ := HBy.out w4 (HO1.out.same HP4.out) HP4.out
            cases b2 with
            | false =>
             go_wp2_with fail
             go_ret
             exact AloneEnd.mk _ rfl (by decide) (fun h => by cases h) (HOB.out.same (HO1.out.same HP4.out))
            | true =>
             have HVs := Lib.hid (hvs rfl)
             clear hvs
             go_wp2_with fail
             refine ((Twice_any (HRy3.out w4 (HO1.out.same HP4.out)))).mono ?_
             rintro e w5 ⟨b3, rfl, O1⟩
             have HP5 := Lib.hid (HP4.out.same O1)
             clear O1 k0 k1 p0 p1 p2 p3 p4 p5 p6 p7
             obtain ⟨k0, k1⟩ := HBox.out w5 (HO1.out.same HP5.out)
             obtain ⟨p0, p1, p2, p3, p4, p5, p6, p7⟩ := HBy.out w5 (HO1.out.same HP5.out) HP5.out
             cases b3 with
             | false =>
              go_wp2_with fail
              refine ((Twice_any (HRy6.out w5 (HO1.out.same HP5.out)))).mono ?_
              rintro e w6 ⟨b4, rfl, O1⟩
              have HP6 := Lib.hid (HP5.out.same O1)
              clear O1 k0 k1 p0 p1 p2 p3 p4 p5 p6 p7
              obtain ⟨k0, k1⟩ := HBox.out w6 (HO1.out.same HP6.out)
              obtain ⟨p0, p1, p2, p3, p4, p5, p6, p7⟩ := HBy.out w6 (HO1.out.same HP6.out) HP6.out
              cases b4 with
              | false =>
               go_wp2_with fail
               go_ret
               exact AloneEnd.mk _ rfl (by decide) (fun _ => ⟨by rw [Ny1.out]; omega, by rw [Ny1.out]; omega, HVs.out⟩) (HOB.out.same (HO1.out.same HP6.out))
              | true =>
               go_wp2_with fail
               go_ret
               exact AloneEnd.mk _ rfl (by decide) (fun h => by cases h) (HOB.out.same (HO1.out.same HP6.out))
             | true =>
              go_wp2_with fail
              go_ret
              exact AloneEnd.mk _ rfl (by decide) (fun h => by cases h) (HOB.out.same (HO1.out.same HP5.out))
           | true =>
            go_wp2_with fail
            go_ret
            exact AloneEnd.mk _ rfl (by decide) (fun h => by cases h) (HOB.out.same (HO1.out.same HP3.out))
 ·have hfi2 : (f == (i : Int)) = false := by rw [beq_eq_false_iff_ne]; exact hfi
  go_wp2_with fail
  go_ret
  exact AloneEnd.mk _ rfl (by decide) (fun h => by cases h) (HOB.out.same (HO1.out.same HP1.out))
end
section
variable {w w' : World} {B : Nat}
def depCode (x : RecD) (p : PackD) (d : DepD) : Int := if x.wish d.on = 0 ∧ settingsD p d.cond.sets = false then 8 else x.wish d.on
def conCode (x : RecD) (p : PackD) (d : ConD) : Int := if settingsD p d.cond.sets = false then 8 else if d.with'.name.toList.isEmpty = true then 0 else if x.find d.with'.name < 0 then 7 else x.wish d.with'
def rulesD (x : RecD) (p : PackD) : Int × Int :=
 match p.deps.find? fun d => decide (depCode x p d ≠ 0) with
 | some d => (depCode x p d, d.line)
 | none => match p.cons.find? fun d => decide (conCode x p d ≠ 0) with
  | some d => (conCode x p d, d.line)
  | none => (0, 0)
theorem find_first {α : Type} {f : α → Int} {l : List α} {i : Nat} {d : α} (h : ∀ d ∈ l.take i, f d = 0) (hd : l[i]? = some d) (hn : f d ≠ 0) : (l.find? fun d => decide (f d ≠ 0)) = some d := by
 obtain ⟨hlt, rfl⟩ := List.getElem?_eq_some_iff.1 hd
 have e : ∀ g : α → Bool, l.find? g = (l.take i ++ l[i] :: l.drop (i + 1)).find? g := fun g => by rw [← List.drop_eq_getElem_cons hlt, List.take_append_drop]
 rw [e, List.find?_append, List.find?_eq_none.2 (fun d hd => by simp [h d hd]), Option.none_or, List.find?_cons_of_pos (by simpa using hn)]
theorem find_nil {α : Type} {f : α → Int} {l : List α} (h : ∀ d ∈ l, f d = 0) : (l.find? fun d => decide (f d ≠ 0)) = none :=
 List.find?_eq_none.2 fun d hd => by simp [h d hd]
theorem rulesD_dep {x : RecD} {p : PackD} {i : Nat} {d : DepD} {c : Int} (h : ∀ d ∈ p.deps.take i, depCode x p d = 0) (hd : p.deps[i]? = some d) (hc : depCode x p d = c) (hn : c ≠ 0) : rulesD x p = (c, d.line) := by
 subst hc
 unfold rulesD
 rw [find_first h hd hn]
theorem rulesD_con {x : RecD} {p : PackD} {i : Nat} {d : ConD} {c : Int} (h0 : ∀ d ∈ p.deps, depCode x p d = 0) (h : ∀ d ∈ p.cons.take i, conCode x p d = 0) (hd : p.cons[i]? = some d) (hc : conCode x p d = c) (hn : c ≠ 0) : rulesD x p = (c, d.line) := by
 subst hc
 unfold rulesD
 rw [find_nil h0, find_first h hd hn]
theorem rulesD_nil {x : RecD} {p : PackD} (h0 : ∀ d ∈ p.deps, depCode x p d = 0) (h : ∀ d ∈ p.cons, conCode x p d = 0) : rulesD x p = (0, 0) := by
 unfold rulesD
 rw [find_nil h0, find_nil h]
theorem only_setRow (w : World) (g : Nat) (cs : Array Value) : Only (fun k => k = g) w (w.setRow g cs) :=
 ⟨rfl, rfl, rfl, by simp [World.setRow], fun k hk hn => by
  unfold World.setRow
  simp only [Array.getElem?_modify]
  rw [if_neg (fun e => hn e.symm)]⟩
theorem results_cell {fn : Func} {p : Tmp} {ty : TypeId} (h : fn.results = #[.cell p ty]) (tmps : Array Value) (P : Program) (w : World) :
  (results fn tmps).run P w = ((asAddr (tmps.getD p undef)).run P w).andThen fun a w₁ => (loadVar ty a).run P w₁ := by
 simp only [results, h]
 simp [Sem.run_bind, Result.andThen]
theorem ret_prob {fn : Func} {p : Tmp} {Q : Ending → World → Prop} {a : Act} {W : World} {B : Nat} {cs : Array Value} (hf : fn.results = #[.cell p 122]) (hp : a.tmps.getD p undef = .pointer (some ⟨B, 0, none⟩)) (hd : a.defers = []) (hs : cs.size = 2) (hg : W.heap[B]? = some (.cells cs 122 (0, 0)))
  (h : Q (.returned (.agg cs)) W) : bodyPost Tryz.prog fn Q Exit.ret a W := by
 refine bodyPost_ret (v := .agg cs) ?_ hd h
 rw [results_cell hf, hp]
 simp only [asAddr, Sem.run_pure, Result.andThen_ok]
 exact run_loadVar_row W B 122 122 cs (0, 0) _ hg Tryz.underlying122 rfl (by rw [hs]; kernel_rfl)
set_option maxRecDepth 100000 in
set_option maxHeartbeats 4000000 in
theorem Rules9_any {csx : List Value} {x : RecD} (hx : RecC B w csx x) {csp : List Value} {p : PackD} (hp : PackC B w csp p) (hlen : x.packs.length ≤ 1000000) :
  Calls Tryz.prog 74 #[.agg csx.toArray, .agg csp.toArray] w fun e w' => e = .returned (.agg #[.int .u8 (rulesD x p).1, .int .i64 (rulesD x p).2]) ∧ Only (fun _ => False) w w' := by
 have HH_x := Lib.hid hx
 obtain ⟨u1, u2, rfl, r1, r2⟩ := hx
 obtain ⟨a_x_packs, c_x_packs, rfl, g_x_packs, h_x_packs⟩ := r1.shape
 obtain ⟨n_x_packs, e1⟩ : ∃ n, x.packs.length = n := ⟨_, rfl⟩
 have N_x_packs := Lib.hid e1
 obtain ⟨a_x_prefs, c_x_prefs, rfl, g_x_prefs, h_x_prefs⟩ := r2.shape
 obtain ⟨n_x_prefs, e2⟩ : ∃ n, x.prefs.length = n := ⟨_, rfl⟩
 have N_x_prefs := Lib.hid e2
 rw [e1, e2] at HH_x
 rw [e1] at r1 g_x_packs
 have RR_x_packs := Lib.hid r1
 rw [e2] at r2 g_x_prefs
 have RR_x_prefs := Lib.hid r2
 rw [e1, e2]
 clear e1 e2 r1 r2
 have HH_p := Lib.hid hp
 obtain ⟨u1, u2, u3, u4, u5, u6, rfl, -, -, r1, r2, r3, r4, r5, r6⟩ := hp
 obtain ⟨a_p_rels, c_p_rels, rfl, g_p_rels, h_p_rels⟩ := r1.shape
 obtain ⟨n_p_rels, e1⟩ : ∃ n, p.rels.length = n := ⟨_, rfl⟩
 have N_p_rels := Lib.hid e1
 obtain ⟨a_p_vars, c_p_vars, rfl, g_p_vars, h_p_vars⟩ := r2.shape
 obtain ⟨n_p_vars, e2⟩ : ∃ n, p.vars.length = n := ⟨_, rfl⟩
 have N_p_vars := Lib.hid e2
 obtain ⟨a_p_provides, c_p_provides, rfl, g_p_provides, h_p_provides⟩ := r3.shape
 obtain ⟨n_p_provides, e3⟩ : ∃ n, p.provides.length = n := ⟨_, rfl⟩
 have N_p_provides := Lib.hid e3
 obtain ⟨a_p_deps, c_p_deps, rfl, g_p_deps, h_p_deps⟩ := r4.shape
 obtain ⟨n_p_deps, e4⟩ : ∃ n, p.deps.length = n := ⟨_, rfl⟩
 have N_p_deps := Lib.hid e4
 obtain ⟨a_p_cons, c_p_cons, rfl, g_p_cons, h_p_cons⟩ := r5.shape
 obtain ⟨n_p_cons, e5⟩ : ∃ n, p.cons.length = n := ⟨_, rfl⟩
 have N_p_cons := Lib.hid e5
 obtain ⟨a_p_files, c_p_files, rfl, g_p_files, h_p_files⟩ := r6.shape
 obtain ⟨n_p_files, e6⟩ : ∃ n, p.files.length = n := ⟨_, rfl⟩
 have N_p_files := Lib.hid e6
 rw [e1, e2, e3, e4, e5, e6] at HH_p
 rw [e1] at r1 g_p_rels
 have RR_p_rels := Lib.hid r1
 rw [e2] at r2 g_p_vars
 have RR_p_vars := Lib.hid r2
 rw [e3] at r3 g_p_provides
 have RR_p_provides := Lib.hid r3
 rw [e4] at r4 g_p_deps
 have RR_p_deps := Lib.hid r4
 rw [e5] at r5 g_p_cons
 have RR_p_cons := Lib.hid r5
 rw [e6] at r6 g_p_files
 have RR_p_files := Lib.hid r6
 rw [e1, e2, e3, e4, e5, e6]
 clear e1 e2 e3 e4 e5 e6 r1 r2 r3 r4 r5 r6
 obtain ⟨W0, hW0⟩ : ∃ W0, W0 = ((w.alloc (.cells #[.slice a_x_packs n_x_packs c_x_packs, .slice a_x_prefs n_x_prefs c_x_prefs] 25)).alloc (.cells #[.string p.name, .int .i64 p.line, .slice a_p_rels n_p_rels c_p_rels, .slice a_p_vars n_p_vars c_p_vars, .slice a_p_provides n_p_provides c_p_provides, .slice a_p_deps n_p_deps c_p_deps, .slice a_p_cons n_p_cons c_p_cons, .slice a_p_files n_p_files c_p_files] 43)) := ⟨_, rfl⟩
 have HOB : Hid (Only (fun _ => False) w W0) := by rw [hW0]; exact ((Only.refl _ _).alloc _).alloc _
 have HSz : Hid (W0.heap.size = w.heap.size + 2) := by rw [hW0]; simp [Hid]
 have HBox : Hid (∀ W, Only (fun _ => False) W0 W → W.cell? ⟨w.heap.size, 0, none⟩ = some (.slice a_x_packs n_x_packs c_x_packs) ∧ W.cell? ⟨w.heap.size, 1, none⟩ = some (.slice a_x_prefs n_x_prefs c_x_prefs) ∧ W.cell? ⟨w.heap.size + 1, 0, none⟩ = some (.string p.name) ∧ W.cell? ⟨w.heap.size + 1, 1, none⟩ = some (.int .i64 p.line) ∧ W.cell? ⟨w.heap.size + 1, 2, none⟩ = some (.slice a_p_rels n_p_rels c_p_rels) ∧ W.cell? ⟨w.heap.size + 1, 3, none⟩ = some (.slice a_p_vars n_p_vars c_p_vars) ∧ W.cell? ⟨w.heap.size + 1, 4, none⟩ = some (.slice a_p_provides n_p_provides c_p_provides) ∧ W.cell? ⟨w.heap.size + 1, 5, none⟩ = some (.slice a_p_deps n_p_deps c_p_deps) ∧ W.cell? ⟨w.heap.size + 1, 6, none⟩ = some (.slice a_p_cons n_p_cons c_p_cons) ∧ W.cell? ⟨w.heap.size + 1, 7, none⟩ = some (.slice a_p_files n_p_files c_p_files)) := fun W ho => by
  have b0 : W0.heap[w.heap.size]? = some (.cells #[.slice a_x_packs n_x_packs c_x_packs, .slice a_x_prefs n_x_prefs c_x_prefs] 25) := by rw [hW0]; exact alloc_block (alloc_at rfl) _
  have d0 := only_block b0 ho (fun f => f)
  have b1 : W0.heap[w.heap.size + 1]? = some (.cells #[.string p.name, .int .i64 p.line, .slice a_p_rels n_p_rels c_p_rels, .slice a_p_vars n_p_vars c_p_vars, .slice a_p_provides n_p_provides c_p_provides, .slice a_p_deps n_p_deps c_p_deps, .slice a_p_cons n_p_cons c_p_cons, .slice a_p_files n_p_files c_p_files] 43) := by rw [hW0]; exact alloc_at (by simp)
  have d1 := only_block b1 ho (fun f => f)
  exact ⟨by rw [cell_block d0]; rfl, by rw [cell_block d0]; rfl, by rw [cell_block d1]; rfl, by rw [cell_block d1]; rfl, by rw [cell_block d1]; rfl, by rw [cell_block d1]; rfl, by rw [cell_block d1]; rfl, by rw [cell_block d1]; rfl, by rw [cell_block d1]; rfl, by rw [cell_block d1]; rfl⟩
 have HK_x : Hid (∀ W, Only (fun _ => False) W0 W → RecC B W [.slice a_x_packs n_x_packs c_x_packs, .slice a_x_prefs n_x_prefs c_x_prefs] x) := fun W ho => RecC.keep HH_x.out (Kp.of0 (HOB.out.same ho) : Kp B w W)
 have HR_x_packs : Hid (∀ W, Only (fun _ => False) W0 W → RowT 8 PackC B W (.slice a_x_packs n_x_packs c_x_packs) x.packs) := fun W ho => RR_x_packs.out.keep PackC.keep (Kp.of0 (HOB.out.same ho))
 clear RR_x_packs
 have HR_x_prefs : Hid (∀ W, Only (fun _ => False) W0 W → RowT 3 PrefC B W (.slice a_x_prefs n_x_prefs c_x_prefs) x.prefs) := fun W ho => RR_x_prefs.out.keep PrefC.keep (Kp.of0 (HOB.out.same ho))
 clear RR_x_prefs
 clear HH_x
 have HK_p : Hid (∀ W, Only (fun _ => False) W0 W → PackC B W [.string p.name, .int .i64 p.line, .slice a_p_rels n_p_rels c_p_rels, .slice a_p_vars n_p_vars c_p_vars, .slice a_p_provides n_p_provides c_p_provides, .slice a_p_deps n_p_deps c_p_deps, .slice a_p_cons n_p_cons c_p_cons, .slice a_p_files n_p_files c_p_files] p) := fun W ho => PackC.keep HH_p.out (Kp.of0 (HOB.out.same ho) : Kp B w W)
 have HR_p_rels : Hid (∀ W, Only (fun _ => False) W0 W → RowT 2 RelC B W (.slice a_p_rels n_p_rels c_p_rels) p.rels) := fun W ho => RR_p_rels.out.keep RelC.keep (Kp.of0 (HOB.out.same ho))
 clear RR_p_rels
 have HR_p_vars : Hid (∀ W, Only (fun _ => False) W0 W → RowT 2 VarC B W (.slice a_p_vars n_p_vars c_p_vars) p.vars) := fun W ho => RR_p_vars.out.keep VarC.keep (Kp.of0 (HOB.out.same ho))
 clear RR_p_vars
 have HR_p_provides : Hid (∀ W, Only (fun _ => False) W0 W → RowT 1 StrC B W (.slice a_p_provides n_p_provides c_p_provides) p.provides) := fun W ho => RR_p_provides.out.keep StrC.keep (Kp.of0 (HOB.out.same ho))
 clear RR_p_provides
 have HR_p_deps : Hid (∀ W, Only (fun _ => False) W0 W → RowT 7 DepC B W (.slice a_p_deps n_p_deps c_p_deps) p.deps) := fun W ho => RR_p_deps.out.keep DepC.keep (Kp.of0 (HOB.out.same ho))
 clear RR_p_deps
 have HR_p_cons : Hid (∀ W, Only (fun _ => False) W0 W → RowT 7 ConC B W (.slice a_p_cons n_p_cons c_p_cons) p.cons) := fun W ho => RR_p_cons.out.keep ConC.keep (Kp.of0 (HOB.out.same ho))
 clear RR_p_cons
 have HR_p_files : Hid (∀ W, Only (fun _ => False) W0 W → RowT 1 StrC B W (.slice a_p_files n_p_files c_p_files) p.files) := fun W ho => RR_p_files.out.keep StrC.keep (Kp.of0 (HOB.out.same ho))
 clear RR_p_files
 clear HH_p
 clear g_x_prefs h_x_prefs N_x_prefs HR_x_prefs
 clear g_p_rels h_p_rels N_p_rels HR_p_rels g_p_vars h_p_vars N_p_vars HR_p_vars g_p_provides h_p_provides N_p_provides HR_p_provides g_p_files h_p_files N_p_files HR_p_files
 rw [N_x_packs.out] at hlen
 obtain ⟨r, hr⟩ : ∃ r, rulesD x p = r := ⟨_, rfl⟩
 rw [hr]
 have HRes := Lib.hid hr
 clear hr
 obtain ⟨W1, hW1⟩ : ∃ W, W = W0.alloc (.cells #[.int .u8 0, .int .i64 0] 122) := ⟨_, rfl⟩
 have HO1 : Hid (Only (fun _ => False) W0 W1) := by rw [hW1]; exact (Only.refl _ _).alloc _
 have HRr : Hid (∀ W, Only (fun _ => False) W1 W → W.heap[w.heap.size + 2]? = some (.cells #[.int .u8 0, .int .i64 0] 122)) := fun W ho => by
  have b0 : W1.heap[w.heap.size + 2]? = some (.cells #[.int .u8 0, .int .i64 0] 122) := by rw [hW1, ← HSz.out]; exact heap_alloc_new W0 _
  exact only_block b0 ho (fun f => f)
 go_enter Tryz.func74, Tryz.ntmps74
 go_wp2_with fail
 rw [← hW0, ← hW1]
 clear hW0 hW1
 have HOC : Hid (Only (fun _ => False) W1 W1) := Only.refl _ _
 go_loopw [14] (fun vi wri => Hid (Only (fun _ => False) W1 wri) ∧ ∃ i : Nat, vi = .int .i64 i ∧ i ≤ n_p_deps ∧ Hid (∀ d ∈ p.deps.take i, depCode x p d = 0)) (fun v _ => n_p_deps - (RowKit.intOf v).toNat)
 case atStart => exact ⟨HOC, 0, rfl, Nat.zero_le _, show Hid _ from fun v hv => by simp at hv⟩
 case round =>
  obtain ⟨wri, rfl⟩ : ∃ W, W = wr := ⟨_, rfl⟩
  clear HOC
  obtain ⟨HPi, i, rfl, hi, HZ⟩ := hrel
  obtain ⟨k0, k1, k2, k3, k4, k5, k6, k7, k8, k9⟩ := HBox.out wri (HO1.out.same HPi.out)
  by_cases ci : i < n_p_deps
  ·clear k0 k1 k2 k3 k4 k5 k6 k7 k8 k9
   have ewi : IntKind.i64.wrap ((i : Int) + 1) = (i : Int) + 1 := by rw [IntKind.wrap_i64]; omega
   obtain ⟨yy, hxy⟩ : ∃ y, p.deps[i]? = some y := ⟨_, List.getElem?_eq_getElem (by rw [N_p_deps.out]; omega)⟩
   obtain ⟨bky, offy, ay1, ny1, cy1, ay2, ny2, cy2, ay3, ny3, cy3, ay4, ny4, cy4, hey, N0y1, N0y2, N0y3, N0y4, oky1, oky2, iny1, HE0y⟩ := DepC_at (HR_p_deps.out W0 (Only.refl _ _)) hxy
   first
    | subst hey
    | (simp only [Option.some.injEq, Addr.mk.injEq, and_true] at hey; obtain ⟨rfl, rfl⟩ := hey)
   have Ny1 := Lib.hid N0y1
   have Ny2 := Lib.hid N0y2
   have Ny3 := Lib.hid N0y3
   have Ny4 := Lib.hid N0y4
   have HEy := Lib.hid HE0y
   have HXy := Lib.hid hxy
   clear HE0y hxy N0y1 N0y2 N0y3 N0y4
   have HRy1 : Hid (∀ W, Only (fun _ => False) W0 W → RowT 2 SpanC B W (.slice ay1 ny1 cy1) yy.on.spans) := fun W ho => (HEy.out W ho).2.1
   have HRy2 : Hid (∀ W, Only (fun _ => False) W0 W → RowT 2 SetC B W (.slice ay2 ny2 cy2) yy.on.sets) := fun W ho => (HEy.out W ho).2.2.1
   have HRy3 : Hid (∀ W, Only (fun _ => False) W0 W → RowT 2 SpanC B W (.slice ay3 ny3 cy3) yy.cond.spans) := fun W ho => (HEy.out W ho).2.2.2.1
   have HRy4 : Hid (∀ W, Only (fun _ => False) W0 W → RowT 2 SetC B W (.slice ay4 ny4 cy4) yy.cond.sets) := fun W ho => (HEy.out W ho).2.2.2.2.1
   have HCy : Hid (∀ W, Only (fun _ => False) W0 W → DepC B W [.string yy.on.name, .slice ay1 ny1 cy1, .slice ay2 ny2 cy2, .string yy.cond.name, .slice ay3 ny3 cy3, .slice ay4 ny4 cy4, .int .i64 yy.line] yy) := fun W ho => (HEy.out W ho).2.2.2.2.2
   have HWs : Hid (∀ W, Only (fun _ => False) W0 W → Calls Tryz.prog 76 #[.agg #[.slice a_x_packs n_x_packs c_x_packs, .slice a_x_prefs n_x_prefs c_x_prefs], .agg #[.string yy.on.name, .slice ay1 ny1 cy1, .slice ay2 ny2 cy2]] W fun e w' => e = .returned (.int .u8 (x.wish yy.on)) ∧ Only (fun _ => False) W w') := fun W hW => Wish_any (HK_x.out W hW) (⟨_, _, rfl, oky1, HRy1.out W hW, HRy2.out W hW⟩ : SpecC B W [.string yy.on.name, .slice ay1 ny1 cy1, .slice ay2 ny2 cy2] yy.on) (by rw [N_x_packs.out]; exact hlen)
   have HSt : Hid (∀ W, Only (fun _ => False) W0 W → Calls Tryz.prog 95 #[.agg #[.string p.name, .int .i64 p.line, .slice a_p_rels n_p_rels c_p_rels, .slice a_p_vars n_p_vars c_p_vars, .slice a_p_provides n_p_provides c_p_provides, .slice (some ⟨bky, offy, none⟩) n_p_deps c_p_deps, .slice a_p_cons n_p_cons c_p_cons, .slice a_p_files n_p_files c_p_files], .slice ay4 ny4 cy4] W fun e w' => e = .returned (.bool (settingsD p yy.cond.sets)) ∧ Only (fun _ => False) W w') := fun W hW => Settings_any (HK_p.out W hW) (HRy4.out W hW)
   have hry := Lib.hid (HEy.out wri (HO1.out.same HPi.out)).1
   obtain ⟨W2, hW2⟩ : ∃ W, W = wri.alloc (.cells #[.string yy.on.name, .slice ay1 ny1 cy1, .slice ay2 ny2 cy2, .string yy.cond.name, .slice ay3 ny3 cy3, .slice ay4 ny4 cy4, .int .i64 yy.line] 53) := ⟨_, rfl⟩
   have HP2 : Hid (Only (fun _ => False) W1 W2) := by rw [hW2]; exact (HPi.out).alloc _
   have HBd : Hid (∀ W, Only (fun _ => False) W2 W → W.cell? ⟨wri.heap.size, 0, none⟩ = some (.string yy.on.name) ∧ W.cell? ⟨wri.heap.size, 1, none⟩ = some (.slice ay1 ny1 cy1) ∧ W.cell? ⟨wri.heap.size, 2, none⟩ = some (.slice ay2 ny2 cy2) ∧ W.cell? ⟨wri.heap.size, 3, none⟩ = some (.string yy.cond.name) ∧ W.cell? ⟨wri.heap.size, 4, none⟩ = some (.slice ay3 ny3 cy3) ∧ W.cell? ⟨wri.heap.size, 5, none⟩ = some (.slice ay4 ny4 cy4) ∧ W.cell? ⟨wri.heap.size, 6, none⟩ = some (.int .i64 yy.line)) := fun W ho => by
    have b0 : W2.heap[wri.heap.size]? = some (.cells #[.string yy.on.name, .slice ay1 ny1 cy1, .slice ay2 ny2 cy2, .string yy.cond.name, .slice ay3 ny3 cy3, .slice ay4 ny4 cy4, .int .i64 yy.line] 53) := by rw [hW2]; exact heap_alloc_new wri _
    have b1 := only_block b0 ho (fun f => f)
    exact ⟨by rw [cell_block b1]; rfl, by rw [cell_block b1]; rfl, by rw [cell_block b1]; rfl, by rw [cell_block b1]; rfl, by rw [cell_block b1]; rfl, by rw [cell_block b1]; rfl, by rw [cell_block b1]; rfl⟩
   obtain ⟨m0, m1, m2, m3, m4, m5, m6, m7, m8, m9⟩ := HBox.out W2 (HO1.out.same HP2.out)
   rw [hW2] at m0 m1 m2 m3 m4 m5 m6 m7 m8 m9
   obtain ⟨k0, k1, k2, k3, k4, k5, k6, k7, k8, k9⟩ := HBox.out wri (HO1.out.same HPi.out)
   obtain ⟨d0, d1, d2, d3, d4, d5, d6⟩ := HBd.out W2 (Only.refl _ _)
   rw [hW2] at d0 d1 d2 d3 d4 d5 d6
   go_wp2_with (refine wpList_load_mid rfl 53 (.tmp 20) rfl bky (offy + i * 7) rfl _ _ hry.out Tryz.underlying53 rfl (by kernel_rfl) ?_)
   rw [← hW2]
   clear m0 m1 m2 m3 m4 m5 m6 m7 m8 m9 d0 d1 d2 d3 d4 d5 d6 hW2 hry
   refine (HWs.out W2 (HO1.out.same HP2.out)).mono ?_
   rintro e w3 ⟨rfl, O1⟩
   have HP3 := Lib.hid (HP2.out.same O1)
   have HQ3 : Hid (Only (fun _ => False) W2 w3) := O1
   clear O1 k0 k1 k2 k3 k4 k5 k6 k7 k8 k9
   obtain ⟨k0, k1, k2, k3, k4, k5, k6, k7, k8, k9⟩ := HBox.out w3 (HO1.out.same HP3.out)
   obtain ⟨d0, d1, d2, d3, d4, d5, d6⟩ := HBd.out w3 (HQ3.out)
   obtain ⟨c, hc⟩ : ∃ c, x.wish yy.on = c := ⟨_, rfl⟩
   obtain ⟨sb, hsb⟩ : ∃ b, settingsD p yy.cond.sets = b := ⟨_, rfl⟩
   simp only [hsb] at HSt
   rw [hc]
   have HC := Lib.hid hc
   have HSb := Lib.hid hsb
   clear hc hsb
   by_cases c0 : c = 0
   ·subst c0
    go_wp2_with fail
    refine (HSt.out w3 (HO1.out.same HP3.out)).mono ?_
    rintro e w4 ⟨rfl, O1⟩
    have HP4 := Lib.hid (HP3.out.same O1)
    have HQ4 : Hid (Only (fun _ => False) W2 w4) := HQ3.out.same O1
    clear O1 k0 k1 k2 k3 k4 k5 k6 k7 k8 k9 d0 d1 d2 d3 d4 d5 d6
    obtain ⟨k0, k1, k2, k3, k4, k5, k6, k7, k8, k9⟩ := HBox.out w4 (HO1.out.same HP4.out)
    obtain ⟨d0, d1, d2, d3, d4, d5, d6⟩ := HBd.out w4 (HQ4.out)
    cases sb with
    | true =>
     have hcode : depCode x p yy = 0 := by
      unfold depCode
      rw [HC.out, HSb.out]
      simp
     have HZ2 : Hid (∀ d ∈ p.deps.take (i + 1), depCode x p d = 0) := fun v hv => by
      rcases mem_take_snoc HXy.out hv with h | rfl
      ·exact HZ.out v h
      ·exact hcode
     go_wp2_with fail
     go_roundw
     case rel => exact ⟨HP4, i + 1, by first | rfl | go_num, by omega, HZ2⟩
     case measure => simp [RowKit.intOf] <;> omega
    | false =>
     have hr2 : r = (8, yy.line) := by
      rw [← HRes.out]
      exact rulesD_dep HZ.out HXy.out (by unfold depCode; rw [HC.out, HSb.out]; simp) (by first | decide | assumption)
     subst hr2
     go_wp2_with (refine wpList_store_row rfl 122 (.tmp 4) (.tmp 41) rfl (w.heap.size + 2) #[.int .u8 8, .int .i64 yy.line] rfl rfl 122 #[.int .u8 0, .int .i64 0] (HRr.out w4 HP4.out) (by kernel_rfl) rfl (by kernel_rfl) ?_)
     refine ret_prob (p := 4) rfl rfl rfl rfl (setRow_heap _ _ _ _ _ _ (HRr.out w4 HP4.out)) ?_
     exact ⟨rfl, (HOB.out.same (HO1.out.same HP4.out)).trans (only_setRow _ _ _) (fun k hk => .inr (by omega))⟩
   ·have c1 : ((c : Int) == 0) = false := by rw [beq_eq_false_iff_ne]; exact c0
    have hr2 : r = (c, yy.line) := by
     rw [← HRes.out]
     exact rulesD_dep HZ.out HXy.out (by unfold depCode; rw [HC.out]; simp [c0]) (by first | decide | assumption)
    subst hr2
    go_wp2_with (refine wpList_store_row rfl 122 (.tmp 4) (.tmp 41) rfl (w.heap.size + 2) #[.int .u8 c, .int .i64 yy.line] rfl rfl 122 #[.int .u8 0, .int .i64 0] (HRr.out w3 HP3.out) (by kernel_rfl) rfl (by kernel_rfl) ?_)
    refine ret_prob (p := 4) rfl rfl rfl rfl (setRow_heap _ _ _ _ _ _ (HRr.out w3 HP3.out)) ?_
    exact ⟨rfl, (HOB.out.same (HO1.out.same HP3.out)).trans (only_setRow _ _ _) (fun k hk => .inr (by omega))⟩
  ·obtain rfl : n_p_deps = i := by omega
   have HZa : Hid (∀ d ∈ p.deps, depCode x p d = 0) := fun d hd => HZ.out d (by
    rw [List.take_of_length_le (Nat.le_of_eq N_p_deps.out)]
    exact hd)
   have HOC := HPi
   go_wp2_with fail
   go_loopw [46] (fun vj wrj => Hid (Only (fun _ => False) W1 wrj) ∧ ∃ j : Nat, vj = .int .i64 j ∧ j ≤ n_p_cons ∧ Hid (∀ d ∈ p.cons.take j, conCode x p d = 0)) (fun v _ => n_p_cons - (RowKit.intOf v).toNat)
   case atStart => exact ⟨HOC, 0, rfl, Nat.zero_le _, show Hid _ from fun v hv => by simp at hv⟩
   case round =>
    obtain ⟨wrj, rfl⟩ : ∃ W, W = wr := ⟨_, rfl⟩
    clear HOC
    obtain ⟨HPj, j, rfl, hj, HZj⟩ := hrel
    clear k0 k1 k2 k3 k4 k5 k6 k7 k8 k9
    obtain ⟨k0, k1, k2, k3, k4, k5, k6, k7, k8, k9⟩ := HBox.out wrj (HO1.out.same HPj.out)
    by_cases cj : j < n_p_cons
    ·clear k0 k1 k2 k3 k4 k5 k6 k7 k8 k9
     have ewi : IntKind.i64.wrap ((j : Int) + 1) = (j : Int) + 1 := by rw [IntKind.wrap_i64]; omega
     obtain ⟨yz, hxz⟩ : ∃ y, p.cons[j]? = some y := ⟨_, List.getElem?_eq_getElem (by rw [N_p_cons.out]; omega)⟩
     obtain ⟨bkz, offz, az1, nz1, cz1, az2, nz2, cz2, az3, nz3, cz3, az4, nz4, cz4, hez, N0z1, N0z2, N0z3, N0z4, okz1, okz2, inz1, HE0z⟩ := ConC_at (HR_p_cons.out W0 (Only.refl _ _)) hxz
     first
      | subst hez
      | (simp only [Option.some.injEq, Addr.mk.injEq, and_true] at hez; obtain ⟨rfl, rfl⟩ := hez)
     have Nz1 := Lib.hid N0z1
     have Nz2 := Lib.hid N0z2
     have Nz3 := Lib.hid N0z3
     have Nz4 := Lib.hid N0z4
     have HEz := Lib.hid HE0z
     have HXz := Lib.hid hxz
     clear HE0z hxz N0z1 N0z2 N0z3 N0z4
     have HRz1 : Hid (∀ W, Only (fun _ => False) W0 W → RowT 2 SpanC B W (.slice az1 nz1 cz1) yz.cond.spans) := fun W ho => (HEz.out W ho).2.1
     have HRz2 : Hid (∀ W, Only (fun _ => False) W0 W → RowT 2 SetC B W (.slice az2 nz2 cz2) yz.cond.sets) := fun W ho => (HEz.out W ho).2.2.1
     have HRz3 : Hid (∀ W, Only (fun _ => False) W0 W → RowT 2 SpanC B W (.slice az3 nz3 cz3) yz.with'.spans) := fun W ho => (HEz.out W ho).2.2.2.1
     have HRz4 : Hid (∀ W, Only (fun _ => False) W0 W → RowT 2 SetC B W (.slice az4 nz4 cz4) yz.with'.sets) := fun W ho => (HEz.out W ho).2.2.2.2.1
     have HCz : Hid (∀ W, Only (fun _ => False) W0 W → ConC B W [.string yz.cond.name, .slice az1 nz1 cz1, .slice az2 nz2 cz2, .string yz.with'.name, .slice az3 nz3 cz3, .slice az4 nz4 cz4, .int .i64 yz.line] yz) := fun W ho => (HEz.out W ho).2.2.2.2.2
     have HWs : Hid (∀ W, Only (fun _ => False) W0 W → Calls Tryz.prog 76 #[.agg #[.slice a_x_packs n_x_packs c_x_packs, .slice a_x_prefs n_x_prefs c_x_prefs], .agg #[.string yz.with'.name, .slice az3 nz3 cz3, .slice az4 nz4 cz4]] W fun e w' => e = .returned (.int .u8 (x.wish yz.with')) ∧ Only (fun _ => False) W w') := fun W hW => Wish_any (HK_x.out W hW) (⟨_, _, rfl, okz2, HRz3.out W hW, HRz4.out W hW⟩ : SpecC B W [.string yz.with'.name, .slice az3 nz3 cz3, .slice az4 nz4 cz4] yz.with') (by rw [N_x_packs.out]; exact hlen)
     have HF : Hid (∀ W, Only (fun _ => False) W0 W → Calls Tryz.prog 82 #[.agg #[.slice a_x_packs n_x_packs c_x_packs, .slice a_x_prefs n_x_prefs c_x_prefs], .string yz.with'.name] W fun e w' => e = .returned (.int .i64 (x.find yz.with'.name)) ∧ Only (fun _ => False) W w') := fun W hW => Find9_any (HK_x.out W hW) _
     have HSt : Hid (∀ W, Only (fun _ => False) W0 W → Calls Tryz.prog 95 #[.agg #[.string p.name, .int .i64 p.line, .slice a_p_rels n_p_rels c_p_rels, .slice a_p_vars n_p_vars c_p_vars, .slice a_p_provides n_p_provides c_p_provides, .slice a_p_deps n_p_deps c_p_deps, .slice (some ⟨bkz, offz, none⟩) n_p_cons c_p_cons, .slice a_p_files n_p_files c_p_files], .slice az2 nz2 cz2] W fun e w' => e = .returned (.bool (settingsD p yz.cond.sets)) ∧ Only (fun _ => False) W w') := fun W hW => Settings_any (HK_p.out W hW) (HRz2.out W hW)
     have hrz := Lib.hid (HEz.out wrj (HO1.out.same HPj.out)).1
     obtain ⟨W4, hW4⟩ : ∃ W, W = wrj.alloc (.cells #[.string yz.cond.name, .slice az1 nz1 cz1, .slice az2 nz2 cz2, .string yz.with'.name, .slice az3 nz3 cz3, .slice az4 nz4 cz4, .int .i64 yz.line] 55) := ⟨_, rfl⟩
     have HP4 : Hid (Only (fun _ => False) W1 W4) := by rw [hW4]; exact (HPj.out).alloc _
     have HBd : Hid (∀ W, Only (fun _ => False) W4 W → W.cell? ⟨wrj.heap.size, 0, none⟩ = some (.string yz.cond.name) ∧ W.cell? ⟨wrj.heap.size, 1, none⟩ = some (.slice az1 nz1 cz1) ∧ W.cell? ⟨wrj.heap.size, 2, none⟩ = some (.slice az2 nz2 cz2) ∧ W.cell? ⟨wrj.heap.size, 3, none⟩ = some (.string yz.with'.name) ∧ W.cell? ⟨wrj.heap.size, 4, none⟩ = some (.slice az3 nz3 cz3) ∧ W.cell? ⟨wrj.heap.size, 5, none⟩ = some (.slice az4 nz4 cz4) ∧ W.cell? ⟨wrj.heap.size, 6, none⟩ = some (.int .i64 yz.line)) := fun W ho => by
      have b0 : W4.heap[wrj.heap.size]? = some (.cells #[.string yz.cond.name, .slice az1 nz1 cz1, .slice az2 nz2 cz2, .string yz.with'.name, .slice az3 nz3 cz3, .slice az4 nz4 cz4, .int .i64 yz.line] 55) := by rw [hW4]; exact heap_alloc_new wrj _
      have b1 := only_block b0 ho (fun f => f)
      exact ⟨by rw [cell_block b1]; rfl, by rw [cell_block b1]; rfl, by rw [cell_block b1]; rfl, by rw [cell_block b1]; rfl, by rw [cell_block b1]; rfl, by rw [cell_block b1]; rfl, by rw [cell_block b1]; rfl⟩
     obtain ⟨m0, m1, m2, m3, m4, m5, m6, m7, m8, m9⟩ := HBox.out W4 (HO1.out.same HP4.out)
     rw [hW4] at m0 m1 m2 m3 m4 m5 m6 m7 m8 m9
     obtain ⟨k0, k1, k2, k3, k4, k5, k6, k7, k8, k9⟩ := HBox.out wrj (HO1.out.same HPj.out)
     obtain ⟨d0, d1, d2, d3, d4, d5, d6⟩ := HBd.out W4 (Only.refl _ _)
     rw [hW4] at d0 d1 d2 d3 d4 d5 d6
     obtain ⟨e0, he0⟩ : ∃ b, yz.with'.name.toList.isEmpty = b := ⟨_, rfl⟩
     obtain ⟨sb, hsb⟩ : ∃ b, settingsD p yz.cond.sets = b := ⟨_, rfl⟩
     simp only [hsb] at HSt
     have HSb := Lib.hid hsb
     have HE0 := Lib.hid he0
     clear hsb
     cases e0 with
     | true =>
      go_wp2_with (refine wpList_load_mid rfl 55 (.tmp 52) rfl bkz (offz + j * 7) rfl _ _ hrz.out Tryz.underlying55 rfl (by kernel_rfl) ?_)
      rw [← hW4]
      clear m0 m1 m2 m3 m4 m5 m6 m7 m8 m9 hW4 hrz
      clear k0 k1 k2 k3 k4 k5 k6 k7 k8 k9
      obtain ⟨k0, k1, k2, k3, k4, k5, k6, k7, k8, k9⟩ := HBox.out W4 (HO1.out.same HP4.out)
      go_wp2_with fail
      refine (HSt.out W4 (HO1.out.same HP4.out)).mono ?_
      rintro e w5 ⟨rfl, O1⟩
      have HP5 := Lib.hid (HP4.out.same O1)
      have HQ5 : Hid (Only (fun _ => False) W4 w5) := O1
      clear O1 k0 k1 k2 k3 k4 k5 k6 k7 k8 k9 d0 d1 d2 d3 d4 d5 d6
      obtain ⟨k0, k1, k2, k3, k4, k5, k6, k7, k8, k9⟩ := HBox.out w5 (HO1.out.same HP5.out)
      obtain ⟨d0, d1, d2, d3, d4, d5, d6⟩ := HBd.out w5 (HQ5.out)
      cases sb with
      | false =>
       have hr2 : r = (8, yz.line) := by
        rw [← HRes.out]
        exact rulesD_con HZa.out HZj.out HXz.out (by unfold conCode; rw [HSb.out]; simp) (by first | decide | assumption)
       subst hr2
       go_wp2_with (refine wpList_store_row rfl 122 (.tmp 4) (.tmp 79) rfl (w.heap.size + 2) #[.int .u8 8, .int .i64 yz.line] rfl rfl 122 #[.int .u8 0, .int .i64 0] (HRr.out w5 HP5.out) (by kernel_rfl) rfl (by kernel_rfl) ?_)
       refine ret_prob (p := 4) rfl rfl rfl rfl (setRow_heap _ _ _ _ _ _ (HRr.out w5 HP5.out)) ?_
       exact ⟨rfl, (HOB.out.same (HO1.out.same HP5.out)).trans (only_setRow _ _ _) (fun k hk => .inr (by omega))⟩
      | true =>
       have hcode : conCode x p yz = 0 := by
        unfold conCode
        rw [HSb.out, HE0.out]
        simp
       have HZ3 : Hid (∀ d ∈ p.cons.take (j + 1), conCode x p d = 0) := fun v hv => by
        rcases mem_take_snoc HXz.out hv with h | rfl
        ·exact HZj.out v h
        ·exact hcode
       go_wp2_with fail
       go_roundw
       case rel => exact ⟨HP5, j + 1, by first | rfl | go_num, by omega, HZ3⟩
       case measure => simp [RowKit.intOf] <;> omega
     | false =>
      go_wp2_with (refine wpList_load_mid rfl 55 (.tmp 52) rfl bkz (offz + j * 7) rfl _ _ hrz.out Tryz.underlying55 rfl (by kernel_rfl) ?_)
      rw [← hW4]
      clear m0 m1 m2 m3 m4 m5 m6 m7 m8 m9 hW4 hrz
      clear k0 k1 k2 k3 k4 k5 k6 k7 k8 k9
      obtain ⟨k0, k1, k2, k3, k4, k5, k6, k7, k8, k9⟩ := HBox.out W4 (HO1.out.same HP4.out)
      go_wp2_with fail
      refine (HWs.out W4 (HO1.out.same HP4.out)).mono ?_
      rintro e w5 ⟨rfl, O1⟩
      have HP5 := Lib.hid (HP4.out.same O1)
      have HQ5 : Hid (Only (fun _ => False) W4 w5) := O1
      clear O1 k0 k1 k2 k3 k4 k5 k6 k7 k8 k9 d0 d1 d2 d3 d4 d5 d6
      obtain ⟨k0, k1, k2, k3, k4, k5, k6, k7, k8, k9⟩ := HBox.out w5 (HO1.out.same HP5.out)
      obtain ⟨d0, d1, d2, d3, d4, d5, d6⟩ := HBd.out w5 (HQ5.out)
      obtain ⟨c, hc⟩ : ∃ c, x.wish yz.with' = c := ⟨_, rfl⟩
      rw [hc]
      have HC := Lib.hid hc
      clear hc
      go_wp2_with fail
      refine (HF.out w5 (HO1.out.same HP5.out)).mono ?_
      rintro e w6 ⟨rfl, O1⟩
      have HP6 := Lib.hid (HP5.out.same O1)
      have HQ6 : Hid (Only (fun _ => False) W4 w6) := HQ5.out.same O1
      clear O1 k0 k1 k2 k3 k4 k5 k6 k7 k8 k9 d0 d1 d2 d3 d4 d5 d6
      obtain ⟨k0, k1, k2, k3, k4, k5, k6, k7, k8, k9⟩ := HBox.out w6 (HO1.out.same HP6.out)
      obtain ⟨d0, d1, d2, d3, d4, d5, d6⟩ := HBd.out w6 (HQ6.out)
      obtain ⟨f, hf⟩ : ∃ f, x.find yz.with'.name = f := ⟨_, rfl⟩
      rw [hf]
      by_cases fl : f < 0
      ·have HFl : Hid (x.find yz.with'.name < 0) := by rw [hf]; exact fl
       clear hf
       go_wp2_with fail
       refine (HSt.out w6 (HO1.out.same HP6.out)).mono ?_
       rintro e w7 ⟨rfl, O1⟩
       have HP7 := Lib.hid (HP6.out.same O1)
       have HQ7 : Hid (Only (fun _ => False) W4 w7) := HQ6.out.same O1
       clear O1 k0 k1 k2 k3 k4 k5 k6 k7 k8 k9 d0 d1 d2 d3 d4 d5 d6
       obtain ⟨k0, k1, k2, k3, k4, k5, k6, k7, k8, k9⟩ := HBox.out w7 (HO1.out.same HP7.out)
       obtain ⟨d0, d1, d2, d3, d4, d5, d6⟩ := HBd.out w7 (HQ7.out)
       cases sb with
       | false =>
        have hr2 : r = (8, yz.line) := by
         rw [← HRes.out]
         exact rulesD_con HZa.out HZj.out HXz.out (by unfold conCode; rw [HSb.out]; simp) (by first | decide | assumption)
        subst hr2
        go_wp2_with (refine wpList_store_row rfl 122 (.tmp 4) (.tmp 79) rfl (w.heap.size + 2) #[.int .u8 8, .int .i64 yz.line] rfl rfl 122 #[.int .u8 0, .int .i64 0] (HRr.out w7 HP7.out) (by kernel_rfl) rfl (by kernel_rfl) ?_)
        refine ret_prob (p := 4) rfl rfl rfl rfl (setRow_heap _ _ _ _ _ _ (HRr.out w7 HP7.out)) ?_
        exact ⟨rfl, (HOB.out.same (HO1.out.same HP7.out)).trans (only_setRow _ _ _) (fun k hk => .inr (by omega))⟩
       | true =>
        have hr2 : r = (7, yz.line) := by
         rw [← HRes.out]
         exact rulesD_con HZa.out HZj.out HXz.out (by unfold conCode; rw [HSb.out, HE0.out, if_neg (by simp), if_neg (by simp), if_pos HFl.out]) (by first | decide | assumption)
        subst hr2
        go_wp2_with (refine wpList_store_row rfl 122 (.tmp 4) (.tmp 79) rfl (w.heap.size + 2) #[.int .u8 7, .int .i64 yz.line] rfl rfl 122 #[.int .u8 0, .int .i64 0] (HRr.out w7 HP7.out) (by kernel_rfl) rfl (by kernel_rfl) ?_)
        refine ret_prob (p := 4) rfl rfl rfl rfl (setRow_heap _ _ _ _ _ _ (HRr.out w7 HP7.out)) ?_
        exact ⟨rfl, (HOB.out.same (HO1.out.same HP7.out)).trans (only_setRow _ _ _) (fun k hk => .inr (by omega))⟩
      ·have HFl : Hid (0 ≤ x.find yz.with'.name) := by rw [hf, Hid]; omega
       clear hf
       go_wp2_with fail
       refine (HSt.out w6 (HO1.out.same HP6.out)).mono ?_
       rintro e w7 ⟨rfl, O1⟩
       have HP7 := Lib.hid (HP6.out.same O1)
       have HQ7 : Hid (Only (fun _ => False) W4 w7) := HQ6.out.same O1
       clear O1 k0 k1 k2 k3 k4 k5 k6 k7 k8 k9 d0 d1 d2 d3 d4 d5 d6
       obtain ⟨k0, k1, k2, k3, k4, k5, k6, k7, k8, k9⟩ := HBox.out w7 (HO1.out.same HP7.out)
       obtain ⟨d0, d1, d2, d3, d4, d5, d6⟩ := HBd.out w7 (HQ7.out)
       cases sb with
       | false =>
        have hr2 : r = (8, yz.line) := by
         rw [← HRes.out]
         exact rulesD_con HZa.out HZj.out HXz.out (by unfold conCode; rw [HSb.out]; simp) (by first | decide | assumption)
        subst hr2
        go_wp2_with (refine wpList_store_row rfl 122 (.tmp 4) (.tmp 79) rfl (w.heap.size + 2) #[.int .u8 8, .int .i64 yz.line] rfl rfl 122 #[.int .u8 0, .int .i64 0] (HRr.out w7 HP7.out) (by kernel_rfl) rfl (by kernel_rfl) ?_)
        refine ret_prob (p := 4) rfl rfl rfl rfl (setRow_heap _ _ _ _ _ _ (HRr.out w7 HP7.out)) ?_
        exact ⟨rfl, (HOB.out.same (HO1.out.same HP7.out)).trans (only_setRow _ _ _) (fun k hk => .inr (by omega))⟩
       | true =>
        by_cases c0 : c = 0
        ·subst c0
         have hcode : conCode x p yz = 0 := by
          unfold conCode
          rw [HSb.out, HE0.out, if_neg (by simp), if_neg (by simp), if_neg (by have := HFl.out; omega), HC.out]
         have HZ3 : Hid (∀ d ∈ p.cons.take (j + 1), conCode x p d = 0) := fun v hv => by
          rcases mem_take_snoc HXz.out hv with h | rfl
          ·exact HZj.out v h
          ·exact hcode
         go_wp2_with fail
         go_roundw
         case rel => exact ⟨HP7, j + 1, by first | rfl | go_num, by omega, HZ3⟩
         case measure => simp [RowKit.intOf] <;> omega
        ·have c1 : ((c : Int) == 0) = false := by rw [beq_eq_false_iff_ne]; exact c0
         have hr2 : r = (c, yz.line) := by
          rw [← HRes.out]
          exact rulesD_con HZa.out HZj.out HXz.out (by unfold conCode; rw [HSb.out, HE0.out, if_neg (by simp), if_neg (by simp), if_neg (by have := HFl.out; omega), HC.out]) (by first | decide | assumption)
         subst hr2
         go_wp2_with (refine wpList_store_row rfl 122 (.tmp 4) (.tmp 79) rfl (w.heap.size + 2) #[.int .u8 c, .int .i64 yz.line] rfl rfl 122 #[.int .u8 0, .int .i64 0] (HRr.out w7 HP7.out) (by kernel_rfl) rfl (by kernel_rfl) ?_)
         refine ret_prob (p := 4) rfl rfl rfl rfl (setRow_heap _ _ _ _ _ _ (HRr.out w7 HP7.out)) ?_
         exact ⟨rfl, (HOB.out.same (HO1.out.same HP7.out)).trans (only_setRow _ _ _) (fun k hk => .inr (by omega))⟩
    ·obtain rfl : n_p_cons = j := by omega
     have hr2 : r = (0, 0) := by
      rw [← HRes.out]
      refine rulesD_nil HZa.out fun d hd => HZj.out d ?_
      rw [List.take_of_length_le (Nat.le_of_eq N_p_cons.out)]
      exact hd
     subst hr2
     go_wp2_with (refine wpList_store_row rfl 122 (.tmp 4) (.tmp 81) rfl (w.heap.size + 2) #[.int .u8 0, .int .i64 0] rfl rfl 122 #[.int .u8 0, .int .i64 0] (HRr.out wrj HPj.out) (by kernel_rfl) rfl (by kernel_rfl) ?_)
     refine ret_prob (p := 4) rfl rfl rfl rfl (setRow_heap _ _ _ _ _ _ (HRr.out wrj HPj.out)) ?_
     exact ⟨rfl, (HOB.out.same (HO1.out.same HPj.out)).trans (only_setRow _ _ _) (fun k hk => .inr (by omega))⟩
end
section
variable {w w' : World} {B : Nat}
attribute [local irreducible] wpQuiet
set_option maxRecDepth 100000 in
set_option maxHeartbeats 4000000 in
theorem Prefer9_any {csx : List Value} {x : RecD} (hx : RecC B w csx x) (hlen : x.packs.length ≤ 1000000) {i : Nat} (hi : i < x.prefs.length) :
  Calls Tryz.prog 75 #[.agg csx.toArray, .int .i64 (i : Int)] w fun e w' => SomeBool w w' e := by
 have HH_x := Lib.hid hx
 obtain ⟨u1, u2, rfl, r1, r2⟩ := hx
 obtain ⟨a_x_packs, c_x_packs, rfl, g_x_packs, h_x_packs⟩ := r1.shape
 obtain ⟨n_x_packs, e1⟩ : ∃ n, x.packs.length = n := ⟨_, rfl⟩
 have N_x_packs := Lib.hid e1
 obtain ⟨a_x_prefs, c_x_prefs, rfl, g_x_prefs, h_x_prefs⟩ := r2.shape
 obtain ⟨n_x_prefs, e2⟩ : ∃ n, x.prefs.length = n := ⟨_, rfl⟩
 have N_x_prefs := Lib.hid e2
 rw [e1, e2] at HH_x
 rw [e1] at r1 g_x_packs
 have RR_x_packs := Lib.hid r1
 rw [e2] at r2 g_x_prefs
 have RR_x_prefs := Lib.hid r2
 rw [e1, e2]
 clear e1 e2 r1 r2
 obtain ⟨W0, hW0⟩ : ∃ W0, W0 = (w.alloc (.cells #[.slice a_x_packs n_x_packs c_x_packs, .slice a_x_prefs n_x_prefs c_x_prefs] 25)) := ⟨_, rfl⟩
 have HOB : Hid (Only (fun _ => False) w W0) := by rw [hW0]; exact (Only.refl _ _).alloc _
 have HSz : Hid (W0.heap.size = w.heap.size + 1) := by rw [hW0]; simp [Hid]
 have HBox : Hid (∀ W, Only (fun _ => False) W0 W → W.cell? ⟨w.heap.size, 0, none⟩ = some (.slice a_x_packs n_x_packs c_x_packs) ∧ W.cell? ⟨w.heap.size, 1, none⟩ = some (.slice a_x_prefs n_x_prefs c_x_prefs)) := fun W ho => by
  have b0 : W0.heap[w.heap.size]? = some (.cells #[.slice a_x_packs n_x_packs c_x_packs, .slice a_x_prefs n_x_prefs c_x_prefs] 25) := by rw [hW0]; exact alloc_at rfl
  have d0 := only_block b0 ho (fun f => f)
  exact ⟨by rw [cell_block d0]; rfl, by rw [cell_block d0]; rfl⟩
 have HK_x : Hid (∀ W, Only (fun _ => False) W0 W → RecC B W [.slice a_x_packs n_x_packs c_x_packs, .slice a_x_prefs n_x_prefs c_x_prefs] x) := fun W ho => RecC.keep HH_x.out (Kp.of0 (HOB.out.same ho) : Kp B w W)
 have HR_x_packs : Hid (∀ W, Only (fun _ => False) W0 W → RowT 8 PackC B W (.slice a_x_packs n_x_packs c_x_packs) x.packs) := fun W ho => RR_x_packs.out.keep PackC.keep (Kp.of0 (HOB.out.same ho))
 clear RR_x_packs
 have HR_x_prefs : Hid (∀ W, Only (fun _ => False) W0 W → RowT 3 PrefC B W (.slice a_x_prefs n_x_prefs c_x_prefs) x.prefs) := fun W ho => RR_x_prefs.out.keep PrefC.keep (Kp.of0 (HOB.out.same ho))
 clear RR_x_prefs
 clear HH_x
 rw [N_x_packs.out] at hlen
 rw [N_x_prefs.out] at hi
 obtain ⟨yy, hxy⟩ : ∃ y, x.prefs[i]? = some y := ⟨_, List.getElem?_eq_getElem (by rw [N_x_prefs.out]; omega)⟩
 obtain ⟨bky, offy, ay1, ny1, cy1, hey, N0y1, oky1, iny1, HE0y⟩ := PrefC_at (HR_x_prefs.out W0 (Only.refl _ _)) hxy
 first
  | subst hey
  | (simp only [Option.some.injEq, Addr.mk.injEq, and_true] at hey; obtain ⟨rfl, rfl⟩ := hey)
 have Ny1 := Lib.hid N0y1
 have HEy := Lib.hid HE0y
 have HXy := Lib.hid hxy
 clear HE0y hxy N0y1
 have HRy1 : Hid (∀ W, Only (fun _ => False) W0 W → RowT 1 StrC B W (.slice ay1 ny1 cy1) yy.names) := fun W ho => (HEy.out W ho).2.1
 have HCy : Hid (∀ W, Only (fun _ => False) W0 W → PrefC B W [.string yy.virtual, .slice ay1 ny1 cy1, .int .i64 yy.line] yy) := fun W ho => (HEy.out W ho).2.2
 have hbn : ny1 ≤ 9223372036854775807 := by
  obtain ⟨_, _, _, g1, g2⟩ := (HRy1.out W0 (Only.refl _ _)).shape
  rw [Ny1.out] at g1
  omega
 have hry := Lib.hid (HEy.out W0 (Only.refl _ _)).1
 obtain ⟨W1, hW1⟩ : ∃ W, W = W0.alloc (.cells #[.string yy.virtual, .slice ay1 ny1 cy1, .int .i64 yy.line] 118) := ⟨_, rfl⟩
 have HO1 : Hid (Only (fun _ => False) W0 W1) := by rw [hW1]; exact (Only.refl _ _).alloc _
 have HBd : Hid (∀ W, Only (fun _ => False) W1 W → W.cell? ⟨(w.heap.size + 1), 0, none⟩ = some (.string yy.virtual) ∧ W.cell? ⟨(w.heap.size + 1), 1, none⟩ = some (.slice ay1 ny1 cy1) ∧ W.cell? ⟨(w.heap.size + 1), 2, none⟩ = some (.int .i64 yy.line)) := fun W ho => by
  have b0 : W1.heap[(w.heap.size + 1)]? = some (.cells #[.string yy.virtual, .slice ay1 ny1 cy1, .int .i64 yy.line] 118) := by rw [hW1, ← HSz.out]; exact heap_alloc_new W0 _
  have b1 := only_block b0 ho (fun f => f)
  exact ⟨by rw [cell_block b1]; rfl, by rw [cell_block b1]; rfl, by rw [cell_block b1]; rfl⟩
 rw [hW0] at hry
 go_enter Tryz.func75, Tryz.ntmps75
 go_wp2_with (refine wpList_load_mid rfl 118 (.tmp 12) rfl bky (offy + i * 3) rfl _ _ hry.out Tryz.underlying118 rfl (by kernel_rfl) ?_)
 rw [← hW0, ← hW1]
 clear hW0 hW1 hry
 have HOC : Hid (Only (fun _ => False) W1 W1) := Only.refl _ _
 go_wp2_with fail
 go_loopw [6] (fun vk wrk => Hid (Only (fun _ => False) W1 wrk) ∧ ∃ k : Nat, vk = .int .i64 k ∧ k ≤ i) (fun v _ => i - (RowKit.intOf v).toNat)
 case atStart => exact ⟨HOC, 0, rfl, Nat.zero_le _⟩
 case round =>
  obtain ⟨wrk, rfl⟩ : ∃ W, W = wr := ⟨_, rfl⟩
  clear HOC
  obtain ⟨HPk, k, rfl, hk⟩ := hrel
  obtain ⟨k0, k1⟩ := HBox.out wrk (HO1.out.same HPk.out)
  obtain ⟨d0, d1, d2⟩ := HBd.out wrk HPk.out
  by_cases ck : k < i
  ·have ewi : IntKind.i64.wrap ((k : Int) + 1) = (k : Int) + 1 := by rw [IntKind.wrap_i64]; omega
   obtain ⟨yz, hxz⟩ : ∃ y, x.prefs[k]? = some y := ⟨_, List.getElem?_eq_getElem (by rw [N_x_prefs.out]; omega)⟩
   obtain ⟨bkz, offz, az1, nz1, cz1, hez, N0z1, okz1, inz1, HE0z⟩ := PrefC_at (HR_x_prefs.out W0 (Only.refl _ _)) hxz
   first
    | subst hez
    | (simp only [Option.some.injEq, Addr.mk.injEq, and_true] at hez; obtain ⟨rfl, rfl⟩ := hez)
   have Nz1 := Lib.hid N0z1
   have HEz := Lib.hid HE0z
   have HXz := Lib.hid hxz
   clear HE0z hxz N0z1
   have HRz1 : Hid (∀ W, Only (fun _ => False) W0 W → RowT 1 StrC B W (.slice az1 nz1 cz1) yz.names) := fun W ho => (HEz.out W ho).2.1
   have HCz : Hid (∀ W, Only (fun _ => False) W0 W → PrefC B W [.string yz.virtual, .slice az1 nz1 cz1, .int .i64 yz.line] yz) := fun W ho => (HEz.out W ho).2.2
   have hrz := (HEz.out wrk (HO1.out.same HPk.out)).1
   have gz0 := hrz 0 _ rfl
   rw [Nat.add_zero] at gz0
   clear hrz
   have hbd := bytes_dec yz.virtual yy.virtual
   obtain ⟨bb, hbb⟩ : ∃ b, decide (yz.virtual = yy.virtual) = b := ⟨_, rfl⟩
   rw [hbb] at hbd
   clear hbb
   go_wp2_with fail
   go_quiet (fail)
   cases bb with
   | true =>
    go_wp2_with fail
    go_ret
    exact SomeBool.mk _ rfl (HOB.out.same (HO1.out.same (HPk.out.drewN _)))
   | false =>
    go_wp2_with fail
    go_roundw
    case rel => exact ⟨show Hid _ from (HPk.out.drewN _), k + 1, by first | rfl | go_num, by omega⟩
    case measure => simp [RowKit.intOf] <;> omega
  ·obtain rfl : i = k := by omega
   have HOC := HPk
   go_wp2_with fail
   clear k0 k1 d0 d1 d2
   go_loopw [31] (fun vm wrm => Hid (Only (fun _ => False) W1 wrm) ∧ ∃ m : Nat, vm = .int .i64 m ∧ m ≤ ny1) (fun v _ => ny1 - (RowKit.intOf v).toNat)
   case atStart => exact ⟨HOC, 0, rfl, Nat.zero_le _⟩
   case round =>
    obtain ⟨wrm, rfl⟩ : ∃ W, W = wr := ⟨_, rfl⟩
    clear HOC
    obtain ⟨HPm, m, rfl, hm⟩ := hrel
    obtain ⟨k0, k1⟩ := HBox.out wrm (HO1.out.same HPm.out)
    obtain ⟨d0, d1, d2⟩ := HBd.out wrm HPm.out
    by_cases cm : m < ny1
    ·have ewi : IntKind.i64.wrap ((m : Int) + 1) = (m : Int) + 1 := by rw [IntKind.wrap_i64]; omega
     obtain ⟨ys, hxs⟩ : ∃ y, yy.names[m]? = some y := ⟨_, List.getElem?_eq_getElem (by rw [Ny1.out]; omega)⟩
     obtain ⟨bks, offs, hes, oks1, HE0s⟩ := StrC_at (HRy1.out W0 (Only.refl _ _)) hxs
     first
      | subst hes
      | (simp only [Option.some.injEq, Addr.mk.injEq, and_true] at hes; obtain ⟨rfl, rfl⟩ := hes)
     have HEs := Lib.hid HE0s
     have HXs := Lib.hid hxs
     clear HE0s hxs
     have HCs : Hid (∀ W, Only (fun _ => False) W0 W → StrC B W [.string ys] ys) := fun W ho => (HEs.out W ho).2
     obtain ⟨f, hf⟩ : ∃ f, x.find ys = f := ⟨_, rfl⟩
     have hflt := x.find_lt ys
     rw [hf, N_x_packs.out] at hflt
     have HF : Hid (∀ W, Only (fun _ => False) W0 W → Calls Tryz.prog 82 #[.agg #[.slice a_x_packs n_x_packs c_x_packs, .slice (some ⟨bky, offy, none⟩) n_x_prefs c_x_prefs], .string ys] W fun e w' => e = .returned (.int .i64 f) ∧ Only (fun _ => False) W w') := fun W hW => by rw [← hf]; exact Find9_any (HK_x.out W hW) ys
     clear hf
     go_wp2_with fail
     clear k0 k1 d0 d1 d2
     refine wp_region_Q (fun w' => Only (fun _ => False) W1 w') (by kernel_rfl) (by kernel_rfl) (by exact (HPm.out).drew) ?_
     refine wpQ_val (v := ?_) (by rfl) ?_ ?_
     rotate_left
     ·(intro w hSw; (try dsimp only at hSw); obtain ⟨k0, k1⟩ := HBox.out w (HO1.out.same hSw); obtain ⟨d0, d1, d2⟩ := HBd.out w hSw; have hrs := (HEs.out w (HO1.out.same hSw)).1; have gs0 := hrs 0 _ rfl; rw [Nat.add_zero] at gs0; rw [Nat.mul_one] at gs0; clear hrs; go_simp <;> (try with_reducible rfl))
     try simp only [Act.put, zq4, zq5, zq6]
     refine wpQ_val (v := ?_) (by rfl) ?_ ?_
     rotate_left
     ·(intro w hSw; (try dsimp only at hSw); go_simp <;> (try with_reducible rfl))
     try simp only [Act.put, zq4, zq5, zq6]
     refine wpQ_val (v := ?_) (by rfl) ?_ ?_
     rotate_left
     ·(intro w hSw; (try dsimp only at hSw); obtain ⟨k0, k1⟩ := HBox.out w (HO1.out.same hSw); obtain ⟨d0, d1, d2⟩ := HBd.out w hSw; have hrs := (HEs.out w (HO1.out.same hSw)).1; have gs0 := hrs 0 _ rfl; rw [Nat.add_zero] at gs0; rw [Nat.mul_one] at gs0; clear hrs; go_simp <;> (try with_reducible rfl))
     try simp only [Act.put, zq4, zq5, zq6]
     refine wpQ_val (v := ?_) (by rfl) ?_ ?_
     rotate_left
     ·(intro w hSw; (try dsimp only at hSw); go_simp <;> (try with_reducible rfl))
     try simp only [Act.put, zq4, zq5, zq6]
     refine wpQ_val (v := ?_) (by rfl) ?_ ?_
     rotate_left
     ·(intro w hSw; (try dsimp only at hSw); go_simp <;> (try with_reducible rfl))
     try simp only [Act.put, zq4, zq5, zq6]
     refine wpQ_val (v := ?_) (by rfl) ?_ ?_
     rotate_left
     ·(intro w hSw; (try dsimp only at hSw); obtain ⟨k0, k1⟩ := HBox.out w (HO1.out.same hSw); obtain ⟨d0, d1, d2⟩ := HBd.out w hSw; have hrs := (HEs.out w (HO1.out.same hSw)).1; have gs0 := hrs 0 _ rfl; rw [Nat.add_zero] at gs0; rw [Nat.mul_one] at gs0; clear hrs; go_simp <;> (try with_reducible rfl))
     try simp only [Act.put, zq4, zq5, zq6]
     refine wpQ_call (v := .int .i64 f) (f := 82) (args := #[.agg #[.slice a_x_packs n_x_packs c_x_packs, .slice (some ⟨bky, offy, none⟩) n_x_prefs c_x_prefs], .string ys]) (by rfl) ?_ ?_ ?_
     ·(intro w; go_simp <;> (try with_reducible rfl))
     ·(intro w hSw; exact (HF.out w (HO1.out.same hSw)).mono fun _ _ ⟨he, ho⟩ => ⟨he, hSw.same ho⟩)
     try simp only [Act.put, zq4, zq5, zq6]
     refine wpQ_val (v := ?_) (by rfl) ?_ ?_
     rotate_left
     ·(intro w hSw; (try dsimp only at hSw); go_simp <;> (try with_reducible rfl))
     try simp only [Act.put, zq4, zq5, zq6]
     refine wpQuiet_nil ?_
     (intro w9 hw9; have HO9 := Lib.hid hw9; clear hw9)
     clear HF
     go_wp2_with fail
     by_cases fl : f < 0
     ·refine wp_region_Q (fun w' => Only (fun _ => False) W1 w') (by kernel_rfl) (by kernel_rfl) (by exact (HO9.out).drew) ?_
      refine wpQ_val (v := ?_) (by rfl) ?_ ?_
      rotate_left
      ·(intro w hSw; (try dsimp only at hSw); go_simp <;> (try with_reducible rfl))
      try simp only [Act.put, zq4, zq5, zq6]
      refine wpQ_val (v := ?_) (by rfl) ?_ ?_
      rotate_left
      ·(intro w hSw; (try dsimp only at hSw); go_simp <;> (try with_reducible rfl))
      try simp only [Act.put, zq4, zq5, zq6]
      refine wpQ_val (v := ?_) (by rfl) ?_ ?_
      rotate_left
      ·(intro w hSw; (try dsimp only at hSw); go_simp <;> (try with_reducible rfl))
      try simp only [Act.put, zq4, zq5, zq6]
      refine wpQ_skip (by kernel_rfl) ?_
      try simp only [Act.put, zq4, zq5, zq6]
      refine wpQ_skip (by kernel_rfl) ?_
      try simp only [Act.put, zq4, zq5, zq6]
      refine wpQ_skip (by kernel_rfl) ?_
      try simp only [Act.put, zq4, zq5, zq6]
      refine wpQ_skip (by kernel_rfl) ?_
      try simp only [Act.put, zq4, zq5, zq6]
      refine wpQ_skip (by kernel_rfl) ?_
      try simp only [Act.put, zq4, zq5, zq6]
      refine wpQ_skip (by kernel_rfl) ?_
      try simp only [Act.put, zq4, zq5, zq6]
      refine wpQ_skip (by kernel_rfl) ?_
      try simp only [Act.put, zq4, zq5, zq6]
      refine wpQ_skip (by kernel_rfl) ?_
      try simp only [Act.put, zq4, zq5, zq6]
      refine wpQ_skip (by kernel_rfl) ?_
      try simp only [Act.put, zq4, zq5, zq6]
      refine wpQ_skip (by kernel_rfl) ?_
      try simp only [Act.put, zq4, zq5, zq6]
      refine wpQ_val (v := ?_) (by rfl) ?_ ?_
      rotate_left
      ·(intro w hSw; (try dsimp only at hSw); go_simp <;> (try with_reducible rfl))
      try simp only [Act.put, zq4, zq5, zq6]
      refine wpQuiet_nil ?_
      (intro w8 hw8; have HO8 := Lib.hid hw8; clear hw8)
      go_wp2_with fail
      go_ret
      exact SomeBool.mk _ rfl (HOB.out.same (HO1.out.same HO8.out))
     ·obtain ⟨fn, rfl⟩ : ∃ i : Nat, f = i := ⟨f.toNat, by omega⟩
      obtain ⟨yv, hxv⟩ : ∃ y, x.packs[fn]? = some y := ⟨_, List.getElem?_eq_getElem (by rw [N_x_packs.out]; omega)⟩
      obtain ⟨bkv, offv, av1, nv1, cv1, av2, nv2, cv2, av3, nv3, cv3, av4, nv4, cv4, av5, nv5, cv5, av6, nv6, cv6, hev, N0v1, N0v2, N0v3, N0v4, N0v5, N0v6, okv1, inv1, HE0v⟩ := PackC_at (HR_x_packs.out W0 (Only.refl _ _)) hxv
      first
       | subst hev
       | (simp only [Option.some.injEq, Addr.mk.injEq, and_true] at hev; obtain ⟨rfl, rfl⟩ := hev)
      have Nv1 := Lib.hid N0v1
      have Nv2 := Lib.hid N0v2
      have Nv3 := Lib.hid N0v3
      have Nv4 := Lib.hid N0v4
      have Nv5 := Lib.hid N0v5
      have Nv6 := Lib.hid N0v6
      have HEv := Lib.hid HE0v
      have HXv := Lib.hid hxv
      clear HE0v hxv N0v1 N0v2 N0v3 N0v4 N0v5 N0v6
      have HRv1 : Hid (∀ W, Only (fun _ => False) W0 W → RowT 2 RelC B W (.slice av1 nv1 cv1) yv.rels) := fun W ho => (HEv.out W ho).2.1
      have HRv2 : Hid (∀ W, Only (fun _ => False) W0 W → RowT 2 VarC B W (.slice av2 nv2 cv2) yv.vars) := fun W ho => (HEv.out W ho).2.2.1
      have HRv3 : Hid (∀ W, Only (fun _ => False) W0 W → RowT 1 StrC B W (.slice av3 nv3 cv3) yv.provides) := fun W ho => (HEv.out W ho).2.2.2.1
      have HRv4 : Hid (∀ W, Only (fun _ => False) W0 W → RowT 7 DepC B W (.slice av4 nv4 cv4) yv.deps) := fun W ho => (HEv.out W ho).2.2.2.2.1
      have HRv5 : Hid (∀ W, Only (fun _ => False) W0 W → RowT 7 ConC B W (.slice av5 nv5 cv5) yv.cons) := fun W ho => (HEv.out W ho).2.2.2.2.2.1
      have HRv6 : Hid (∀ W, Only (fun _ => False) W0 W → RowT 1 StrC B W (.slice av6 nv6 cv6) yv.files) := fun W ho => (HEv.out W ho).2.2.2.2.2.2.1
      have HCv : Hid (∀ W, Only (fun _ => False) W0 W → PackC B W [.string yv.name, .int .i64 yv.line, .slice av1 nv1 cv1, .slice av2 nv2 cv2, .slice av3 nv3 cv3, .slice av4 nv4 cv4, .slice av5 nv5 cv5, .slice av6 nv6 cv6] yv) := fun W ho => (HEv.out W ho).2.2.2.2.2.2.2
      obtain ⟨hb, hhb⟩ : ∃ b, hasS yv.provides yy.virtual = b := ⟨_, rfl⟩
      have HHas : Hid (∀ W, Only (fun _ => False) W0 W → Calls Tryz.prog 96 #[.slice av3 nv3 cv3, .string yy.virtual] W fun e w' => e = .returned (.bool hb) ∧ Only (fun _ => False) W w') := fun W hW => by rw [← hhb]; exact Has9_any (HRv3.out W hW) _
      clear hhb
      refine wp_region_Q (fun w' => Only (fun _ => False) W1 w') (by kernel_rfl) (by kernel_rfl) (by exact (HO9.out).drew) ?_
      refine wpQ_val (v := ?_) (by rfl) ?_ ?_
      rotate_left
      ·(intro w hSw; (try dsimp only at hSw); go_simp <;> (try with_reducible rfl))
      try simp only [Act.put, zq4, zq5, zq6]
      refine wpQ_val (v := ?_) (by rfl) ?_ ?_
      rotate_left
      ·(intro w hSw; (try dsimp only at hSw); go_simp <;> (try with_reducible rfl))
      try simp only [Act.put, zq4, zq5, zq6]
      refine wpQ_val (v := ?_) (by rfl) ?_ ?_
      rotate_left
      ·(intro w hSw; (try dsimp only at hSw); go_simp <;> (try with_reducible rfl))
      try simp only [Act.put, zq4, zq5, zq6]
      refine wpQ_val (v := ?_) (by rfl) ?_ ?_
      rotate_left
      ·(intro w hSw; (try dsimp only at hSw); go_simp <;> (try with_reducible rfl))
      try simp only [Act.put, zq4, zq5, zq6]
      refine wpQ_val (v := ?_) (by rfl) ?_ ?_
      rotate_left
      ·(intro w hSw; (try dsimp only at hSw); obtain ⟨k0, k1⟩ := HBox.out w (HO1.out.same hSw); obtain ⟨d0, d1, d2⟩ := HBd.out w hSw; have hrv := (HEv.out w (HO1.out.same hSw)).1; have gv4 := hrv 4 _ rfl; clear hrv; go_simp <;> (try with_reducible rfl))
      try simp only [Act.put, zq4, zq5, zq6]
      refine wpQ_val (v := ?_) (by rfl) ?_ ?_
      rotate_left
      ·(intro w hSw; (try dsimp only at hSw); go_simp <;> (try with_reducible rfl))
      try simp only [Act.put, zq4, zq5, zq6]
      refine wpQ_val (v := ?_) (by rfl) ?_ ?_
      rotate_left
      ·(intro w hSw; (try dsimp only at hSw); go_simp <;> (try with_reducible rfl))
      try simp only [Act.put, zq4, zq5, zq6]
      refine wpQ_val (v := ?_) (by rfl) ?_ ?_
      rotate_left
      ·(intro w hSw; (try dsimp only at hSw); go_simp <;> (try with_reducible rfl))
      try simp only [Act.put, zq4, zq5, zq6]
      refine wpQ_val (v := ?_) (by rfl) ?_ ?_
      rotate_left
      ·(intro w hSw; (try dsimp only at hSw); obtain ⟨k0, k1⟩ := HBox.out w (HO1.out.same hSw); obtain ⟨d0, d1, d2⟩ := HBd.out w hSw; have hrv := (HEv.out w (HO1.out.same hSw)).1; have gv4 := hrv 4 _ rfl; clear hrv; go_simp <;> (try with_reducible rfl))
      try simp only [Act.put, zq4, zq5, zq6]
      refine wpQ_val (v := ?_) (by rfl) ?_ ?_
      rotate_left
      ·(intro w hSw; (try dsimp only at hSw); go_simp <;> (try with_reducible rfl))
      try simp only [Act.put, zq4, zq5, zq6]
      refine wpQ_val (v := ?_) (by rfl) ?_ ?_
      rotate_left
      ·(intro w hSw; (try dsimp only at hSw); obtain ⟨k0, k1⟩ := HBox.out w (HO1.out.same hSw); obtain ⟨d0, d1, d2⟩ := HBd.out w hSw; have hrv := (HEv.out w (HO1.out.same hSw)).1; have gv4 := hrv 4 _ rfl; clear hrv; go_simp <;> (try with_reducible rfl))
      try simp only [Act.put, zq4, zq5, zq6]
      refine wpQ_call (v := .bool hb) (f := 96) (args := #[.slice av3 nv3 cv3, .string yy.virtual]) (by rfl) ?_ ?_ ?_
      ·(intro w; go_simp <;> (try with_reducible rfl))
      ·(intro w hSw; exact (HHas.out w (HO1.out.same hSw)).mono fun _ _ ⟨he, ho⟩ => ⟨he, hSw.same ho⟩)
      try simp only [Act.put, zq4, zq5, zq6]
      refine wpQ_val (v := ?_) (by rfl) ?_ ?_
      rotate_left
      ·(intro w hSw; (try dsimp only at hSw); go_simp <;> (try with_reducible rfl))
      try simp only [Act.put, zq4, zq5, zq6]
      refine wpQ_val (v := ?_) (by rfl) ?_ ?_
      rotate_left
      ·(intro w hSw; (try dsimp only at hSw); go_simp <;> (try with_reducible rfl))
      try simp only [Act.put, zq4, zq5, zq6]
      refine wpQuiet_nil ?_
      (intro w8 hw8; have HO8 := Lib.hid hw8; clear hw8)
      cases hb with
      | true =>
       go_wp2_with fail
       go_roundw
       case rel => exact ⟨HO8, m + 1, by first | rfl | go_num, by omega⟩
       case measure => simp [RowKit.intOf] <;> omega
      | false =>
       go_wp2_with fail
       go_ret
       exact SomeBool.mk _ rfl (HOB.out.same (HO1.out.same HO8.out))
    ·obtain rfl : ny1 = m := by omega
     obtain ⟨vb, hvb⟩ : ∃ f, x.virt yy.virtual = f := ⟨_, rfl⟩
     have HVt : Hid (∀ W, Only (fun _ => False) W0 W → Calls Tryz.prog 88 #[.agg #[.slice a_x_packs n_x_packs c_x_packs, .slice (some ⟨bky, offy, none⟩) n_x_prefs c_x_prefs], .string yy.virtual] W fun e w' => e = .returned (.bool vb) ∧ Only (fun _ => False) W w') := fun W hW => by rw [← hvb]; exact Virtual9_any (HK_x.out W hW) (by rw [N_x_packs.out]; exact hlen) yy.virtual
     clear hvb
     go_wp2_with fail
     refine (HVt.out wrm (HO1.out.same HPm.out)).mono ?_
     rintro e w2 ⟨rfl, O2⟩
     have HP2 := Lib.hid (HPm.out.same O2)
     clear O2 HVt
     clear k0 k1 d0 d1 d2
     obtain ⟨k0, k1⟩ := HBox.out w2 (HO1.out.same HP2.out)
     obtain ⟨d0, d1, d2⟩ := HBd.out w2 HP2.out
     cases vb with
     | false =>
      go_wp2_with fail
      go_ret
      exact SomeBool.mk _ rfl (HOB.out.same (HO1.out.same HP2.out))
     | true =>
      go_wp2_with fail
      refine (Twice_any (HRy1.out w2 (HO1.out.same HP2.out))).mono ?_
      rintro e w3 ⟨bb, rfl, O3⟩
      have HP3 := Lib.hid (HP2.out.same O3)
      clear O3
      cases bb with
      | false =>
       go_wp2_with fail
       go_ret
       exact SomeBool.mk _ rfl (HOB.out.same (HO1.out.same HP3.out))
      | true =>
       go_wp2_with fail
       go_ret
       exact SomeBool.mk _ rfl (HOB.out.same (HO1.out.same HP3.out))
end
end Go.Proofs.YtbapkcnfacklaaaGreat
