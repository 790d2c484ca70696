/- The document's checks: alone. Printed by gen_rf5.py. -/
import Derived.Test.YtbapkcnfacklaaaGreatRf4
import Derived.Test.YtbapkcnfacklaaaGreatStepA
import Derived.Test.YtbapkcnfacklaaaGreatNd3
import Derived.Deep.MidRow
import Derived.BigFrame
import Derived.Carry
set_option linter.unusedVariables false
namespace Go.Proofs.YtbapkcnfacklaaaGreat
open Go.RowKit
section
variable {w w' : World} {B : Nat}
structure PackOk (p : PackD) : Prop where
 some : 1 ≤ p.rels.length
 rels : p.rels.length ≤ 10
 vars : VarsOk p.vars
def AloneEnd (p : PackD) (w w' : World) (e : Ending) : Prop := ∃ c : Int, e = .returned (.int .u8 c) ∧ (0 ≤ c ∧ c ≤ 255) ∧ (c = 0 → PackOk p) ∧ Only (fun _ => False) w w'
theorem AloneEnd.mk {p : PackD} (c : Int) {w w' : World} {e : Ending} (he : e = .returned (.int .u8 c)) (hc : 0 ≤ c ∧ c ≤ 255) (hb : c = 0 → PackOk p) (ho : Only (fun _ => False) w w') : AloneEnd p w w' e := ⟨c, he, hc, hb, ho⟩
def strs9 (l : List Str) : List Value := l.map Value.string
theorem slStr9 : SlT Tryz.prog 39 9 1 16 := SlT.mk' (z := .string .empty) Tryz.underlying39 (by kernel_rfl) rfl (by decide)
theorem own_litS (w : World) : (w.alloc (.cells #[] 9)).ownsRow 0 9 1 (.slice (some ⟨w.heap.size, 0, none⟩) 0 0) 0 [] :=
 World.ownsRow_lit (base := 0) (e := 9) (size := 1) w #[] 0 (Nat.zero_le _) (by unfold maxLen; omega) (by simp)
def versTo (l : List RelD) (j : Nat) : List Str := (l.take j).map RelD.version
theorem versTo_succ {l : List RelD} {j : Nat} {r : RelD} (h : l[j]? = some r) : versTo l (j + 1) = versTo l j ++ [r.version] := by
 unfold versTo
 rw [List.take_add_one, h]
 simp
theorem versTo_len {l : List RelD} {j : Nat} (h : j ≤ l.length) : (versTo l j).length = j := by
 unfold versTo
 simp; omega
theorem strs_read {v : Value} {l : List Str} {n : Nat} (hn : l.length = n) (h : w.ownsRow 0 9 1 v n (strs9 l)) (hk : ∀ s ∈ l, okS s) : RowT 1 StrC w.heap.size w v l := by
 subst hn
 refine RowT.of_own h fun i hi => ⟨[.string l[i]], rfl, fun j u hu => ?_, rfl, hk _ (List.getElem_mem hi)⟩
 obtain rfl : j = 0 := by
  have := (List.getElem?_eq_some_iff.1 hu).1
  simpa using this
 simp at hu
 subst hu
 simp [strs9, hi]
set_option maxRecDepth 100000 in
set_option maxHeartbeats 4000000 in
theorem Alone_any {csx : List Value} {x : RecD} (hx : RecC B w csx x) (hlen : x.packs.length ≤ 1000000) {i : Nat} (hi : i < x.packs.length) :
  Calls Tryz.prog 73 #[.agg csx.toArray, .int .i64 (i : Int)] w fun e w' => AloneEnd (x.pack i) w w' e := by
 have HH_x := Lib.hid hx
 obtain ⟨u1, u2, rfl, r1, r2⟩ := hx
 obtain ⟨a_x_packs, c_x_packs, rfl, g_x_packs, h_x_packs⟩ := r1.shape
 obtain ⟨n_x_packs, e1⟩ : ∃ n, x.packs.length = n := ⟨_, rfl⟩
 have N_x_packs := Lib.hid e1
 obtain ⟨a_x_prefs, c_x_prefs, rfl, g_x_prefs, h_x_prefs⟩ := r2.shape
 obtain ⟨n_x_prefs, e2⟩ : ∃ n, x.prefs.length = n := ⟨_, rfl⟩
 have N_x_prefs := Lib.hid e2
 rw [e1, e2] at HH_x
 rw [e1] at r1 g_x_packs
 have RR_x_packs := Lib.hid r1
 rw [e2] at r2 g_x_prefs
 have RR_x_prefs := Lib.hid r2
 rw [e1, e2]
 clear e1 e2 r1 r2
 obtain ⟨W0, hW0⟩ : ∃ W0, W0 = (w.alloc (.cells #[.slice a_x_packs n_x_packs c_x_packs, .slice a_x_prefs n_x_prefs c_x_prefs] 25)) := ⟨_, rfl⟩
 have HOB : Hid (Only (fun _ => False) w W0) := by rw [hW0]; exact (Only.refl _ _).alloc _
 have HSz : Hid (W0.heap.size = w.heap.size + 1) := by rw [hW0]; simp [Hid]
 have HBox : Hid (∀ W, Only (fun _ => False) W0 W → W.cell? ⟨w.heap.size, 0, none⟩ = some (.slice a_x_packs n_x_packs c_x_packs) ∧ W.cell? ⟨w.heap.size, 1, none⟩ = some (.slice a_x_prefs n_x_prefs c_x_prefs)) := fun W ho => by
  have b0 : W0.heap[w.heap.size]? = some (.cells #[.slice a_x_packs n_x_packs c_x_packs, .slice a_x_prefs n_x_prefs c_x_prefs] 25) := by rw [hW0]; exact alloc_at rfl
  have d0 := only_block b0 ho (fun f => f)
  exact ⟨by rw [cell_block d0]; rfl, by rw [cell_block d0]; rfl⟩
 have HK_x : Hid (∀ W, Only (fun _ => False) W0 W → RecC B W [.slice a_x_packs n_x_packs c_x_packs, .slice a_x_prefs n_x_prefs c_x_prefs] x) := fun W ho => RecC.keep HH_x.out (Kp.of0 (HOB.out.same ho) : Kp B w W)
 have HR_x_packs : Hid (∀ W, Only (fun _ => False) W0 W → RowT 8 PackC B W (.slice a_x_packs n_x_packs c_x_packs) x.packs) := fun W ho => RR_x_packs.out.keep PackC.keep (Kp.of0 (HOB.out.same ho))
 clear RR_x_packs
 have HR_x_prefs : Hid (∀ W, Only (fun _ => False) W0 W → RowT 3 PrefC B W (.slice a_x_prefs n_x_prefs c_x_prefs) x.prefs) := fun W ho => RR_x_prefs.out.keep PrefC.keep (Kp.of0 (HOB.out.same ho))
 clear RR_x_prefs
 clear HH_x
 clear g_x_prefs h_x_prefs N_x_prefs HR_x_prefs
 rw [N_x_packs.out] at hlen hi
 obtain ⟨yy, hxy⟩ : ∃ y, x.packs[i]? = some y := ⟨_, List.getElem?_eq_getElem (by rw [N_x_packs.out]; omega)⟩
 obtain ⟨bky, offy, ay1, ny1, cy1, ay2, ny2, cy2, ay3, ny3, cy3, ay4, ny4, cy4, ay5, ny5, cy5, ay6, ny6, cy6, hey, N0y1, N0y2, N0y3, N0y4, N0y5, N0y6, oky1, iny1, HE0y⟩ := PackC_at (HR_x_packs.out W0 (Only.refl _ _)) hxy
 first
  | subst hey
  | (simp only [Option.some.injEq, Addr.mk.injEq, and_true] at hey; obtain ⟨rfl, rfl⟩ := hey)
 have Ny1 := Lib.hid N0y1
 have Ny2 := Lib.hid N0y2
 have Ny3 := Lib.hid N0y3
 have Ny4 := Lib.hid N0y4
 have Ny5 := Lib.hid N0y5
 have Ny6 := Lib.hid N0y6
 have HEy := Lib.hid HE0y
 have HXy := Lib.hid hxy
 clear HE0y hxy N0y1 N0y2 N0y3 N0y4 N0y5 N0y6
 have HRy1 : Hid (∀ W, Only (fun _ => False) W0 W → RowT 2 RelC B W (.slice ay1 ny1 cy1) yy.rels) := fun W ho => (HEy.out W ho).2.1
 have HRy2 : Hid (∀ W, Only (fun _ => False) W0 W → RowT 2 VarC B W (.slice ay2 ny2 cy2) yy.vars) := fun W ho => (HEy.out W ho).2.2.1
 have HRy3 : Hid (∀ W, Only (fun _ => False) W0 W → RowT 1 StrC B W (.slice ay3 ny3 cy3) yy.provides) := fun W ho => (HEy.out W ho).2.2.2.1
 have HRy4 : Hid (∀ W, Only (fun _ => False) W0 W → RowT 7 DepC B W (.slice ay4 ny4 cy4) yy.deps) := fun W ho => (HEy.out W ho).2.2.2.2.1
 have HRy5 : Hid (∀ W, Only (fun _ => False) W0 W → RowT 7 ConC B W (.slice ay5 ny5 cy5) yy.cons) := fun W ho => (HEy.out W ho).2.2.2.2.2.1
 have HRy6 : Hid (∀ W, Only (fun _ => False) W0 W → RowT 1 StrC B W (.slice ay6 ny6 cy6) yy.files) := fun W ho => (HEy.out W ho).2.2.2.2.2.2.1
 have HCy : Hid (∀ W, Only (fun _ => False) W0 W → PackC B W [.string yy.name, .int .i64 yy.line, .slice ay1 ny1 cy1, .slice ay2 ny2 cy2, .slice ay3 ny3 cy3, .slice ay4 ny4 cy4, .slice ay5 ny5 cy5, .slice ay6 ny6 cy6] yy) := fun W ho => (HEy.out W ho).2.2.2.2.2.2.2
 have hpk : x.pack i = yy := by unfold RecD.pack; rw [List.getD_eq_getElem?_getD, HXy.out]; rfl
 rw [hpk]
 clear hpk
 obtain ⟨f, hf⟩ : ∃ f, x.find yy.name = f := ⟨_, rfl⟩
 obtain ⟨pn, hpn⟩ : ∃ f, (x.provs yy.name).length = f := ⟨_, rfl⟩
 have HF : Hid (∀ W, Only (fun _ => False) W0 W → Calls Tryz.prog 82 #[.agg #[.slice (some ⟨bky, offy, none⟩) n_x_packs c_x_packs, .slice a_x_prefs n_x_prefs c_x_prefs], .string yy.name] W fun e w' => e = .returned (.int .i64 f) ∧ Only (fun _ => False) W w') := fun W hW => by rw [← hf]; exact Find9_any (HK_x.out W hW) yy.name
 have HPv : Hid (∀ W, Only (fun _ => False) W0 W → Calls Tryz.prog 83 #[.agg #[.slice (some ⟨bky, offy, none⟩) n_x_packs c_x_packs, .slice a_x_prefs n_x_prefs c_x_prefs], .string yy.name] W fun e w' => ∃ a c, e = .returned (.slice a pn c) ∧ Only (fun _ => False) W w') := fun W hW => (Providers9_any (HK_x.out W hW) (by rw [N_x_packs.out]; exact hlen) yy.name).mono fun e w' ⟨v, he, h1, _, h3⟩ => by
  rw [hpn] at h1
  obtain ⟨a, c, rfl, -, -⟩ := own_slice h1
  exact ⟨a, c, he, h3⟩
 have HPn : Hid (pn ≤ n_x_packs) := by
  rw [← hpn, ← N_x_packs.out]
  unfold RecD.provs RecD.provTo
  have := List.length_filter_le (fun i => hasS (x.pack i).provides yy.name) (List.range x.packs.length)
  simpa [Hid] using this
 clear hf hpn
 have hry := Lib.hid (HEy.out W0 (Only.refl _ _)).1
 obtain ⟨W1, hW1⟩ : ∃ W1, W1 = W0.alloc (.cells #[.string yy.name, .int .i64 yy.line, .slice ay1 ny1 cy1, .slice ay2 ny2 cy2, .slice ay3 ny3 cy3, .slice ay4 ny4 cy4, .slice ay5 ny5 cy5, .slice ay6 ny6 cy6] 43) := ⟨_, rfl⟩
 have HO1 : Hid (Only (fun _ => False) W0 W1) := by rw [hW1]; exact (Only.refl _ _).alloc _
 have HBy : Hid (∀ W, Only (fun _ => False) W0 W → Only (fun _ => False) W1 W → W.cell? ⟨w.heap.size + 1, 0, none⟩ = some (.string yy.name) ∧ W.cell? ⟨w.heap.size + 1, 1, none⟩ = some (.int .i64 yy.line) ∧ W.cell? ⟨w.heap.size + 1, 2, none⟩ = some (.slice ay1 ny1 cy1) ∧ W.cell? ⟨w.heap.size + 1, 3, none⟩ = some (.slice ay2 ny2 cy2) ∧ W.cell? ⟨w.heap.size + 1, 4, none⟩ = some (.slice ay3 ny3 cy3) ∧ W.cell? ⟨w.heap.size + 1, 5, none⟩ = some (.slice ay4 ny4 cy4) ∧ W.cell? ⟨w.heap.size + 1, 6, none⟩ = some (.slice ay5 ny5 cy5) ∧ W.cell? ⟨w.heap.size + 1, 7, none⟩ = some (.slice ay6 ny6 cy6)) := fun W _ ho => by
  have b0 : W1.heap[w.heap.size + 1]? = some (.cells #[.string yy.name, .int .i64 yy.line, .slice ay1 ny1 cy1, .slice ay2 ny2 cy2, .slice ay3 ny3 cy3, .slice ay4 ny4 cy4, .slice ay5 ny5 cy5, .slice ay6 ny6 cy6] 43) := by rw [hW1, ← HSz.out]; exact heap_alloc_new W0 _
  have b1 := only_block b0 ho (fun f => f)
  exact ⟨by rw [cell_block b1]; rfl, by rw [cell_block b1]; rfl, by rw [cell_block b1]; rfl, by rw [cell_block b1]; rfl, by rw [cell_block b1]; rfl, by rw [cell_block b1]; rfl, by rw [cell_block b1]; rfl, by rw [cell_block b1]; rfl⟩
 rw [hW0] at hry
 go_enter Tryz.func73, Tryz.ntmps73
 go_wp2_with (refine wpList_load_mid rfl 43 (.tmp 11) rfl bky (offy + i * 8) rfl _ _ hry.out Tryz.underlying43 rfl (by kernel_rfl) ?_)
 rw [← hW0, ← hW1]
 clear hW0 hW1 hry
 have HP0 : Hid (Only (fun _ => False) W1 W1) := Only.refl _ _
 obtain ⟨k0, k1⟩ := HBox.out W1 (HO1.out.same HP0.out)
 obtain ⟨p0, p1, p2, p3, p4, p5, p6, p7⟩ := HBy.out W1 (HO1.out.same HP0.out) HP0.out
 go_wp2_with fail
 refine (HF.out W1 HO1.out).mono ?_
 rintro e w1 ⟨rfl, O1⟩
 have HP1 := Lib.hid O1
 clear O1 HP0 k0 k1 p0 p1 p2 p3 p4 p5 p6 p7
 obtain ⟨k0, k1⟩ := HBox.out w1 (HO1.out.same HP1.out)
 obtain ⟨p0, p1, p2, p3, p4, p5, p6, p7⟩ := HBy.out w1 (HO1.out.same HP1.out) HP1.out
 by_cases hfi : f = (i : Int)
 ·subst hfi
  go_wp2_with fail
  refine (HPv.out w1 (HO1.out.same HP1.out)).mono ?_
  rintro e w2 ⟨ap, cp, rfl, O1⟩
  have HP2 := Lib.hid (HP1.out.same O1)
  have hpn := HPn.out
  clear O1 k0 k1 p0 p1 p2 p3 p4 p5 p6 p7
  obtain ⟨k0, k1⟩ := HBox.out w2 (HO1.out.same HP2.out)
  obtain ⟨p0, p1, p2, p3, p4, p5, p6, p7⟩ := HBy.out w2 (HO1.out.same HP2.out) HP2.out
  by_cases cpn : 0 < pn
  ·go_wp2_with fail
   go_ret
   exact AloneEnd.mk _ rfl (by decide) (fun h => by cases h) (HOB.out.same (HO1.out.same HP2.out))
  ·by_cases z1 : ny1 = 0
   ·subst z1
    go_wp2_with fail
    go_ret
    exact AloneEnd.mk _ rfl (by decide) (fun h => by cases h) (HOB.out.same (HO1.out.same HP2.out))
   ·have z3 : ((ny1 : Int) == 0) = false := by rw [beq_eq_false_iff_ne]; omega
    by_cases q1 : 10 < ny1
    ·go_wp2_with fail
     go_ret
     exact AloneEnd.mk _ rfl (by decide) (fun h => by cases h) (HOB.out.same (HO1.out.same HP2.out))
    ·by_cases q2 : 16 < ny4
     ·go_wp2_with fail
      go_ret
      exact AloneEnd.mk _ rfl (by decide) (fun h => by cases h) (HOB.out.same (HO1.out.same HP2.out))
     ·by_cases q3 : 8 < ny5
      ·go_wp2_with fail
       go_ret
       exact AloneEnd.mk _ rfl (by decide) (fun h => by cases h) (HOB.out.same (HO1.out.same HP2.out))
      ·by_cases q4 : 4 < ny3
       ·go_wp2_with fail
        go_ret
        exact AloneEnd.mk _ rfl (by decide) (fun h => by cases h) (HOB.out.same (HO1.out.same HP2.out))
       ·by_cases q5 : 8 < ny6
        ·go_wp2_with fail
         go_ret
         exact AloneEnd.mk _ rfl (by decide) (fun h => by cases h) (HOB.out.same (HO1.out.same HP2.out))
        ·have HV0 : Hid ((w2.alloc (.cells #[] 9)).ownsRow 0 9 1 (.slice (some ⟨w2.heap.size, 0, none⟩) 0 0) 0 (strs9 (versTo yy.rels 0))) := own_litS w2
         have HP0 : Hid (Only (fun _ => False) W1 (w2.alloc (.cells #[] 9))) := HP2.out.alloc _
         have HB0 : Hid (∀ k, (Value.slice (some ⟨w2.heap.size, 0, none⟩) 0 0).ownBlock = some k → W1.heap.size ≤ k) := fun k hk => by simp [Value.ownBlock] at hk; have := HP2.out.size; omega
         have HOkR : Hid (∀ r ∈ yy.rels, okS r.version) := fun r hr => by
          obtain ⟨k, hk⟩ := List.mem_iff_getElem?.1 hr
          obtain ⟨_, _, _, h, _⟩ := RelC_at (HRy1.out W0 (Only.refl _ _)) hk
          exact h
         obtain ⟨-, -, o2, -, -, -, -, -⟩ := HBy.out _ (HO1.out.same HP0.out) HP0.out
         go_wp2_with fail
         clear o2
         go_loopw [6, 61] (fun vo vj wrj => Hid (Only (fun _ => False) W1 wrj) ∧ ∃ j : Nat, vj = .int .i64 j ∧ j ≤ ny1 ∧ Hid (wrj.ownsRow 0 9 1 vo j (strs9 (versTo yy.rels j))) ∧ Hid (∀ k, vo.ownBlock = some k → W1.heap.size ≤ k)) (fun _ v _ => ny1 - (RowKit.intOf v).toNat)
         case atStart => exact ⟨HP0, 0, rfl, Nat.zero_le _, HV0, HB0⟩
         case round =>
          obtain ⟨wrj, rfl⟩ : ∃ W, W = wr := ⟨_, rfl⟩
          clear HP0 HV0 HB0 k0 k1 p0 p1 p2 p3 p4 p5 p6 p7
          obtain ⟨HPj, j, rfl, hj, HV, HBj⟩ := hrel
          have HOj := HPj
          obtain ⟨k0, k1⟩ := HBox.out wrj (HO1.out.same HPj.out)
          obtain ⟨p0, p1, p2, p3, p4, p5, p6, p7⟩ := HBy.out wrj (HO1.out.same HPj.out) HPj.out
          obtain ⟨au, cu, rfl, -, -⟩ := own_slice HV.out
          by_cases cj : j < ny1
          ·have ewi : IntKind.i64.wrap ((j : Int) + 1) = (j : Int) + 1 := by rw [IntKind.wrap_i64]; omega
           obtain ⟨yz, hxz⟩ : ∃ y, yy.rels[j]? = some y := ⟨_, List.getElem?_eq_getElem (by rw [Ny1.out]; omega)⟩
           obtain ⟨bkz, offz, hez, okz1, HE0z⟩ := RelC_at (HRy1.out W0 (Only.refl _ _)) hxz
           first
            | subst hez
            | (simp only [Option.some.injEq, Addr.mk.injEq, and_true] at hez; obtain ⟨rfl, rfl⟩ := hez)
           have HEz := Lib.hid HE0z
           have HXz := Lib.hid hxz
           clear HE0z hxz
           have HCz : Hid (∀ W, Only (fun _ => False) W0 W → RelC B W [.string yz.version, .bool yz.old] yz) := fun W ho => (HEz.out W ho).2
           have hrz := (HEz.out wrj (HO1.out.same HPj.out)).1
           have gz0 := hrz 0 _ rfl
           rw [Nat.add_zero] at gz0
           clear hrz
           go_wp2_with (at_builtin; go_must (refine wpA1 (u := .string yz.version) slStr9 rfl (.tmp 64) (.tmp 71) rfl rfl rfl (cell_new0 _ _ _) rfl (own_only HV.out ((Only.refl (fun _ => False) _).alloc _) (fun _ _ f => f)) (by omega) (by decide) ?_))
           intro v' w2 r1 r2 r3
           have HVv : Hid (w2.ownsRow 0 9 1 v' (j + 1) (strs9 (versTo yy.rels (j + 1)))) := by
            rw [versTo_succ HXz.out]
            simpa [strs9, Hid] using r1
           have HOv := Lib.hid (((HOj.out.alloc _).trans r2 fun k hk => .inr (HBj.out k hk)))
           have HBv : Hid (∀ k, v'.ownBlock = some k → W1.heap.size ≤ k) := by
            intro k hk
            obtain ⟨g, cap', rfl, -, -, h | h⟩ := r3
            ·simp [Value.ownBlock] at hk; subst hk; exact HBj.out _ h
            ·simp [Value.ownBlock] at hk; subst hk
             have := HOj.out.size
             simp at h; omega
           obtain ⟨g, cap', rfl, -, -, -⟩ := r3
           clear r1 r2
           go_wp2_with fail
           go_roundw
           case rel => exact ⟨HOv, j + 1, by first | rfl | go_num, by omega, HVv, HBv⟩
           case measure => simp [RowKit.intOf] <;> omega
          ·obtain rfl : ny1 = j := by omega
           go_wp2_with fail
           have HTw := Lib.hid (Twice_any (w := wrj) (strs_read (versTo_len (by rw [Ny1.out]; exact Nat.le_refl _)) HV.out (fun s hs => by
            unfold versTo at hs
            obtain ⟨r, hr, rfl⟩ := List.mem_map.1 hs
            exact HOkR.out r (List.mem_of_mem_take hr))))
           refine (HTw.out).mono ?_
           rintro e w3 ⟨b1, rfl, O1⟩
           have HP3 := Lib.hid (HOj.out.same O1)
           clear O1 k0 k1 p0 p1 p2 p3 p4 p5 p6 p7
           obtain ⟨k0, k1⟩ := HBox.out w3 (HO1.out.same HP3.out)
           obtain ⟨p0, p1, p2, p3, p4, p5, p6, p7⟩ := HBy.out w3 (HO1.out.same HP3.out) HP3.out
           cases b1 with
           | false =>
            clear HTw HV HBj
            go_wp2_with fail
            refine (May_any (HRy2.out w3 (HO1.out.same HP3.out))).mono ?_
            rintro e w4 ⟨b2, rfl, hvs, O1⟩
            have HP4 := Lib.hid (HP3.out.same O1)
            clear O1 k0 k1 p0 p1 p2 p3 p4 p5 p6 p7
            obtain ⟨k0, k1⟩ := HBox.out w4 (HO1.out.same HP4.out)
            obtain ⟨p0, p1, p2, p3, p4, p5, p6, p7⟩ := HBy.out w4 (HO1.out.same HP4.out) HP4.out
            cases b2 with
            | false =>
             go_wp2_with fail
             go_ret
             exact AloneEnd.mk _ rfl (by decide) (fun h => by cases h) (HOB.out.same (HO1.out.same HP4.out))
            | true =>
             have HVs := Lib.hid (hvs rfl)
             clear hvs
             go_wp2_with fail
             refine ((Twice_any (HRy3.out w4 (HO1.out.same HP4.out)))).mono ?_
             rintro e w5 ⟨b3, rfl, O1⟩
             have HP5 := Lib.hid (HP4.out.same O1)
             clear O1 k0 k1 p0 p1 p2 p3 p4 p5 p6 p7
             obtain ⟨k0, k1⟩ := HBox.out w5 (HO1.out.same HP5.out)
             obtain ⟨p0, p1, p2, p3, p4, p5, p6, p7⟩ := HBy.out w5 (HO1.out.same HP5.out) HP5.out
             cases b3 with
             | false =>
              go_wp2_with fail
              refine ((Twice_any (HRy6.out w5 (HO1.out.same HP5.out)))).mono ?_
              rintro e w6 ⟨b4, rfl, O1⟩
              have HP6 := Lib.hid (HP5.out.same O1)
              clear O1 k0 k1 p0 p1 p2 p3 p4 p5 p6 p7
              obtain ⟨k0, k1⟩ := HBox.out w6 (HO1.out.same HP6.out)
              obtain ⟨p0, p1, p2, p3, p4, p5, p6, p7⟩ := HBy.out w6 (HO1.out.same HP6.out) HP6.out
              cases b4 with
              | false =>
               go_wp2_with fail
               go_ret
               exact AloneEnd.mk _ rfl (by decide) (fun _ => ⟨by rw [Ny1.out]; omega, by rw [Ny1.out]; omega, HVs.out⟩) (HOB.out.same (HO1.out.same HP6.out))
              | true =>
               go_wp2_with fail
               go_ret
               exact AloneEnd.mk _ rfl (by decide) (fun h => by cases h) (HOB.out.same (HO1.out.same HP6.out))
             | true =>
              go_wp2_with fail
              go_ret
              exact AloneEnd.mk _ rfl (by decide) (fun h => by cases h) (HOB.out.same (HO1.out.same HP5.out))
           | true =>
            go_wp2_with fail
            go_ret
            exact AloneEnd.mk _ rfl (by decide) (fun h => by cases h) (HOB.out.same (HO1.out.same HP3.out))
 ·have hfi2 : (f == (i : Int)) = false := by rw [beq_eq_false_iff_ne]; exact hfi
  go_wp2_with fail
  go_ret
  exact AloneEnd.mk _ rfl (by decide) (fun h => by cases h) (HOB.out.same (HO1.out.same HP1.out))
end
end Go.Proofs.YtbapkcnfacklaaaGreat
