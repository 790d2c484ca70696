/- cooperlaw10.NeedsRow, walked. -/
import Derived.Test.YtmlfchjompfmaaaDoorWv9
import Derived.Test.YtmlfchjompfmaaaDoorVnP5
import Derived.Test.YtmlfchjompfmaaaDoorNd6
import Derived.Test.YtmlfchjompfmaaaDoorOwnT
import Derived.Deep.DeepCutAuto
import Derived.BigFrame
set_option linter.unusedVariables false
namespace Go.Proofs.YtmlfchjompfmaaaDoor
open Go.RowKit
section
variable {w w' : World} {B : Nat}
def pkC (v : Value) : Array Value := #[.string ⟨#[]⟩, .int .i64 0, v, .slice none 0 0, .slice none 0 0, .slice none 0 0, .slice none 0 0, .slice none 0 0]
def PkB (W : World) (P : Nat) (v : Value) : Prop := W.heap[P]? = some (.cells (pkC v) 30 (0, 0))
def flatV (l : List Str) : List Value := l.flatMap fun s => [.string s, .bool false]
def GoodV (l : List Str) : Prop := (∀ s ∈ l, mayB s.toList = true) ∧ l.Nodup
theorem PkB.only {W W' : World} {P : Nat} {v : Value} (h : PkB W P v) (ho : Only (fun _ => False) W W') : PkB W' P v := (ho.block P (Array.getElem?_eq_some_iff.1 h).1 (fun f => f)).trans h
theorem PkB.set {W : World} {P : Nat} {v : Value} (h : PkB W P v) (u : Value) : PkB (W.setCell ⟨P, 2, none⟩ u) P u := by
 obtain ⟨hlt, hk⟩ := Array.getElem?_eq_some_iff.1 h
 show (W.heap.modify P _)[P]? = _
 rw [Array.getElem?_eq_getElem (by rw [Array.size_modify]; exact hlt), Array.getElem_modify_self, hk]
 rfl
theorem slRel : SlT Tryd.prog 25 33 2 24 := SlT.mk' (z := .agg #[.string .empty, .bool false]) Tryd.underlying25 (by kernel_rfl) rfl (by decide)
theorem GoodV.snoc {l : List Str} {y : Str} (h : GoodV l) (hy : mayB y.toList = true) (hn : y ∉ l) : GoodV (l ++ [y]) :=
 ⟨fun s hs => by rcases List.mem_append.1 hs with g | g; exact h.1 s g; rw [List.mem_singleton.1 g]; exact hy, List.nodup_append.2 ⟨h.2, by simp, fun a ha b hb e => by rw [List.mem_singleton.1 hb] at e; exact hn (e ▸ ha)⟩⟩
def pkD (vs : List Str) : PackD := { name := ⟨#[]⟩, line := 0, rels := vs.map relOf, vars := [], provides := [], deps := [], cons := [], files := [] }
theorem flatV_at : ∀ (vs : List Str) (i : Nat) (h : i < vs.length) (j : Nat) (u : Value), [Value.string vs[i], .bool false][j]? = some u → (flatV vs)[i * 2 + j]? = some u
 | [], i, h, _, _, _ => by simp at h
 | v :: vs, 0, h, j, u, hu => by
  have e : flatV (v :: vs) = [Value.string v, .bool false] ++ flatV vs := rfl
  have hj : j < 2 := by have := (List.getElem?_eq_some_iff.1 hu).1; simpa using this
  rw [e, List.getElem?_append_left (by simp; omega), Nat.zero_mul, Nat.zero_add]
  exact hu
 | v :: vs, i + 1, h, j, u, hu => by
  have e : flatV (v :: vs) = [Value.string v, .bool false] ++ flatV vs := rfl
  have ih := flatV_at vs i (by simpa using h) j u (by simpa using hu)
  rw [e, List.getElem?_append_right (by simp; omega)]
  rw [show (i + 1) * 2 + j - [Value.string v, Value.bool false].length = i * 2 + j by simp; omega]
  exact ih
theorem pk_read {W : World} {rv : Value} {vs : List Str} {n : Nat} (hr : W.ownsRow 0 33 2 rv n (flatV vs)) (hn : vs.length = n) (hg : GoodV vs) : PackC W.heap.size W [.string ⟨#[]⟩, .int .i64 0, rv, .slice none 0 0, .slice none 0 0, .slice none 0 0, .slice none 0 0, .slice none 0 0] (pkD vs) := by
 refine ⟨_, _, _, _, _, _, rfl, (Nat.zero_le _ : okS ⟨#[]⟩), by show InI64 0; unfold InI64; omega, ?_, RowT.nilRow, RowT.nilRow, RowT.nilRow, RowT.nilRow, RowT.nilRow⟩
 subst hn
 refine RowT.of_own (by show W.ownsRow 0 _ 2 rv (vs.map relOf).length _; rw [List.length_map]; exact hr) fun i hi => ?_
 have hi' : i < vs.length := by simpa [pkD] using hi
 refine ⟨[.string vs[i], .bool false], rfl, fun j u hu => flatV_at vs i hi' j u hu, ?_⟩
 have e : (pkD vs).rels[i] = relOf vs[i] := by simp [pkD]
 rw [e]
 exact ⟨rfl, by have := mayB_size (hg.1 _ (List.getElem_mem hi')); show okS vs[i]; unfold okS maxLen; omega⟩
theorem rank_pk {W : World} {rv : Value} {vs : List Str} {n : Nat} (hr : W.ownsRow 0 33 2 rv n (flatV vs)) (hn : vs.length = n) (hg : GoodV vs) (h30 : n ≤ 30) (hL : Laid W) {z : Str} (hz : z ∈ vs) (c : Nat) (hc : cntB nw vs z = c) :
  Calls Tryd.prog 11 #[.agg (pkC rv), .string z] W (fun e w' => e = .returned (.int .i64 (c : Int)) ∧ Only (fun _ => False) W w') := by
 have hk : okS z := by have := mayB_size (hg.1 _ hz); unfold okS maxLen; omega
 have h := Rank_x (pk_read hr hn hg) (Nat.le_refl _) (by simp [pkD]; omega) z hk hL
 rw [rank_cnt (vs := vs) rfl hz, hc] at h
 exact h
def SeenV (vs : List Str) (j : Nat) (bs : List Bool) : Prop := bs.length = vs.length ∧ ∀ k, bs[k]? = some true → ∃ m z, m < j ∧ vs[m]? = some z ∧ cntB nw vs z = k
theorem SeenV.new {vs : List Str} {j : Nat} {bs : List Bool} (h : SeenV vs j bs) (hg : GoodV vs) {y : Str} (hy : vs[j]? = some y) : cntB nw vs y < vs.length ∧ bs[cntB nw vs y]? = some false := by
 have hm : y ∈ vs := List.mem_of_getElem? hy
 have hl := rank_lt hg.1 hm
 refine ⟨hl, ?_⟩
 have h1 : cntB nw vs y < bs.length := by rw [h.1]; exact hl
 cases hb : bs[cntB nw vs y]'h1 with
 | false => rw [List.getElem?_eq_getElem h1, hb]
 | true =>
  obtain ⟨m, z, h2, h3, h4⟩ := h.2 _ (by rw [List.getElem?_eq_getElem h1, hb])
  have hne : z ≠ y := by
   rintro rfl
   have := (List.getElem?_inj (List.getElem?_eq_some_iff.1 h3).1 hg.2).1 (h3.trans hy.symm)
   omega
  exact absurd h4 (rank_inj hg.1 (List.mem_of_getElem? h3) hm hne)
theorem SeenV.next {vs : List Str} {j : Nat} {bs : List Bool} (h : SeenV vs j bs) {y : Str} (hy : vs[j]? = some y) : SeenV vs (j + 1) (bs.set (cntB nw vs y) true) := by
 refine ⟨by rw [List.length_set]; exact h.1, fun k hk => ?_⟩
 by_cases e : cntB nw vs y = k
 ·exact ⟨j, y, by omega, hy, e⟩
 ·rw [List.getElem?_set_ne e] at hk
  obtain ⟨m, z, h1, h2⟩ := h.2 k hk
  exact ⟨m, z, by omega, h2⟩
set_option maxRecDepth 100000 in
set_option maxHeartbeats 8000000 in
theorem NeedsRow_walk {v : Value} {vs : List Str} (h : RowT 1 StrC w.heap.size w v vs) (hL : Laid w) : Calls Tryd.prog 3 #[v] w (fun e w' => e = .returned (.bool true) ∧ Only (fun _ => False) w w') := by
 have HRow := Lib.hid h
 have HG := Lib.hid (Great1_some h)
 have HL := Lib.hid hL
 have HF : Hid (∀ W, Calls Tryd.prog 9 #[] W fun e w' => e = .returned (.bool true) ∧ Only (fun _ => False) W w') := fun W => fixed10_any W
 obtain ⟨ao, cap, rfl, k1, k2⟩ := h.shape
 obtain ⟨n, hn⟩ : ∃ n, vs.length = n := ⟨_, rfl⟩
 have HN := Lib.hid hn
 rw [hn] at HRow HG k1 ⊢
 clear h hn hL
 go_enter Tryd.func3, Tryd.ntmps3
 by_cases c30 : 30 < n
 ·have c30' : (30 : Int) < (n : Int) := by omega
  go_wp2_with fail
  refine (HF.out _).mono ?_
  rintro e w1 ⟨rfl, O1⟩
  go_wp2_with fail
  go_ret
  exact ⟨rfl, O1⟩
 ·have c30' : ¬ (30 : Int) < (n : Int) := by omega
  go_wp2_with fail
  refine HG.out.mono ?_
  rintro e w1 ⟨bg, rfl, O1⟩
  have HO1 := Lib.hid O1
  clear O1 HG
  cases bg with
  | true =>
   go_wp2_with fail
   refine (HF.out _).mono ?_
   rintro e w2 ⟨rfl, O2⟩
   go_wp2_with fail
   go_ret
   exact ⟨rfl, HO1.out.same O2⟩
  | false =>
   have hP : PkB (w1.alloc (.cells (pkC (.slice none 0 0)) 30)) w1.heap.size (.slice none 0 0) := heap_alloc_new _ _
   have HP := Lib.hid hP
   clear hP
   obtain ⟨P, hPs⟩ : ∃ x, w1.heap.size = x := ⟨_, rfl⟩
   obtain ⟨wp, hwp⟩ : ∃ x, w1.alloc (.cells (pkC (.slice none 0 0)) 30) = x := ⟨_, rfl⟩
   have op : Only (fun _ => False) w wp := by rw [← hwp]; exact HO1.out.alloc _
   rw [hwp, hPs] at HP
   have HOp := Lib.hid op
   have HPS := Lib.hid hPs
   have hsz : w.heap.size ≤ P := by rw [← hPs]; exact HO1.out.size
   unfold pkC at hwp
   clear op hPs
   go_wp2_with fail
   rw [HPS.out]
   go_loopw [24] (fun vi wr => Hid (Only (fun _ => False) w wr) ∧ ∃ (i : Nat) (rv : Value), vi = .int .i64 i ∧ i ≤ n ∧ Hid (PkB wr P rv) ∧ Hid (wr.ownsRow 0 33 2 rv i (flatV (vs.take i))) ∧ Hid (∀ k, rv.ownBlock = some k → P < k) ∧ Hid (GoodV (vs.take i))) (fun v _ => n - (RowKit.intOf v).toNat)
   case atStart => exact ⟨HOp, 0, _, rfl, Nat.zero_le _, HP, World.ownsRow_nil _ _ _ _, show Hid _ from (fun k hk => by simp [Value.ownBlock] at hk), show Hid _ from ⟨fun s hs => by simp at hs, by simp⟩⟩
   case round =>
    obtain ⟨HOi, i, rv, rfl, hi, HPi, HRi, HBi, HGi⟩ := hrel
    by_cases ci : i < n
    ·have ewi : IntKind.i64.wrap ((i : Int) + 1) = (i : Int) + 1 := by rw [IntKind.wrap_i64]; omega
     obtain ⟨y, hx⟩ : ∃ y, vs[i]? = some y := ⟨_, List.getElem?_eq_getElem (by rw [HN.out]; exact ci)⟩
     obtain ⟨b, off, he, hok, hE⟩ := StrC_at (HRow.out.keep StrC.keep (Kp.of0 HOi.out)) hx
     subst he
     have hr := (hE wr (Only.refl _ _)).1
     have g0 := hr 0 _ rfl
     rw [Nat.add_zero, Nat.mul_one] at g0
     obtain ⟨my, hmy⟩ : ∃ x, mayB y.toList = x := ⟨_, rfl⟩
     have HM := Lib.hid (May_x (w := wr) y hok my hmy)
     have HMy := Lib.hid hmy
     have HX := Lib.hid hx
     clear hr hE hx hok hmy
     go_wp2_with fail
     refine HM.out.mono ?_
     rintro e w2 ⟨rfl, O2⟩
     have HO2 := Lib.hid (HOi.out.same O2)
     have HP2 := Lib.hid (PkB.only HPi.out O2)
     have HR2 := Lib.hid (own_only HRi.out O2 (fun _ _ f => f))
     clear O2 HM HPi HRi g0
     cases my with
     | false =>
      go_wp2_with fail
      refine (HF.out _).mono ?_
      rintro e w3 ⟨rfl, O3⟩
      go_wp2_with fail
      go_ret
      exact ⟨rfl, HO2.out.same O3⟩
     | true =>
      go_wp2_with fail
      go_loopw [37] (fun vj wj => Hid (w2 = wj) ∧ ∃ j : Nat, vj = .int .i64 j ∧ j ≤ i ∧ Hid (∀ (k : Nat) (z : Str), k < j → vs[k]? = some z → z ≠ y)) (fun v _ => i - (RowKit.intOf v).toNat)
      case atStart => exact ⟨rfl, 0, rfl, Nat.zero_le _, show Hid _ from fun k z hk => by omega⟩
      case round =>
       obtain ⟨hw, j, rfl, hj, HNe⟩ := hrel
       obtain rfl := hw.out
       by_cases cj : j < i
       ·have ewj : IntKind.i64.wrap ((j : Int) + 1) = (j : Int) + 1 := by rw [IntKind.wrap_i64]; omega
        obtain ⟨z, hz⟩ : ∃ z, vs[j]? = some z := ⟨_, List.getElem?_eq_getElem (by rw [HN.out]; omega)⟩
        obtain ⟨b', off', he', -, hE'⟩ := StrC_at (HRow.out.keep StrC.keep (Kp.of0 HO2.out)) hz
        cases he'
        have hr := (hE' _ (Only.refl _ _)).1
        have g0 := hr 0 _ rfl
        rw [Nat.add_zero, Nat.mul_one] at g0
        have hd := bytes_dec y z
        have HZ := Lib.hid hz
        clear hr hE' hz
        by_cases e : y = z
        ·rw [decide_eq_true e] at hd
         clear e
         go_wp2_with fail
         refine (HF.out _).mono ?_
         rintro e w3 ⟨rfl, O3⟩
         go_wp2_with fail
         go_ret
         exact ⟨rfl, HO2.out.same O3⟩
        ·rw [decide_eq_false e] at hd
         have HE := Lib.hid e
         clear e
         go_wp2_with fail
         go_roundw
         case rel => exact ⟨by first | exact rfl | exact trivial, j + 1, by first | rfl | go_num, by omega, show Hid _ from fun k z' hk hz' => by
          by_cases ek : k = j
          ·subst ek
           rw [HZ.out] at hz'
           cases hz'
           exact fun e => HE.out e.symm
          ·exact HNe.out k z' (by omega) hz'⟩
         case measure => simp [RowKit.intOf] <;> omega
       ·obtain rfl : j = i := by omega
        obtain ⟨ra, rc, rfl, l1, l2⟩ := own_slice HR2.out
        have c2 : w2.cell? ⟨P, 2, none⟩ = some (.slice ra j rc) := by rw [cell_block HP2.out]; rfl
        have f2 : w2.frozen? ⟨P, 2, none⟩ = false := by simp [World.frozen?, show w2.heap[P]? = _ from HP2.out]
        have o3 : Only (fun _ => False) w2 (w2.alloc (.cells #[.string y, .bool false] 33)) := (Only.refl _ _).alloc _
        have hn3 : (w2.alloc (.cells #[.string y, .bool false] 33)).heap[w2.heap.size]? = some (.cells #[.string y, .bool false] 33 (0, 0)) := heap_alloc_new _ _
        have HC3 : Hid (∀ (j : Nat) (u : Value), [Value.string y, .bool false][j]? = some u → (w2.alloc (.cells #[.string y, .bool false] 33)).cell? ((⟨w2.heap.size, 0, none⟩ : Addr).add j) = some u) := fun j u hu => by
         match j, hu with
         | 0, hu => simp at hu; subst hu; rw [show (⟨w2.heap.size, 0, none⟩ : Addr).add 0 = ⟨w2.heap.size, 0, none⟩ from rfl, cell_block hn3]; rfl
         | 1, hu => simp at hu; subst hu; rw [show (⟨w2.heap.size, 0, none⟩ : Addr).add 1 = ⟨w2.heap.size, 1, none⟩ from rfl, cell_block hn3]; rfl
         | k + 2, hu => simp at hu
        have HR3 := Lib.hid (own_only HR2.out o3 (fun _ _ f => f))
        have HO3 := Lib.hid o3
        clear o3 hn3
        go_wp2_with (at_builtin; go_must (refine wpA (news := [.string y, .bool false]) slRel rfl (.tmp 47) (.tmp 50) rfl rfl HR3.out (ad := ⟨w2.heap.size, 0, none⟩) (m := 1) (c := 1) rfl rfl HC3.out (by simp [Value.oneCell']) (by unfold maxLen; omega) (by omega) ?_))
        intro v' w3 r1 r2 r3 r4 r5
        obtain ⟨g, cap', rfl⟩ := ownsRow_succ r1
        have hb3 : ∀ k, (Value.slice ra j rc).ownBlock = some k → P < k := HBi.out
        have hP3 : PkB w3 P (.slice ra j rc) := (r2.block P (Array.getElem?_eq_some_iff.1 (PkB.only HP2.out HO3.out)).1 (fun e => by have := hb3 P e.symm; omega)).trans (PkB.only HP2.out HO3.out)
        have hPl : P < w2.heap.size := (Array.getElem?_eq_some_iff.1 HP2.out).1
        have hg : P < g := by
         rcases r3 g rfl with h | h
         ·exact hb3 g h
         ·omega
        have HO4 := Lib.hid ((HO2.out.same HO3.out).grown r2 fun k hk => .inr (by have := hb3 k hk; omega))
        have HP3 := Lib.hid hP3
        have HR4 := Lib.hid r1
        have HG := Lib.hid hg
        have c3 : w3.cell? ⟨P, 2, none⟩ = some (.slice ra j rc) := by rw [cell_block hP3]; rfl
        have f3 : w3.frozen? ⟨P, 2, none⟩ = false := by simp [World.frozen?, show w3.heap[P]? = _ from hP3]
        clear r1 r2 r3 r4 r5 hP3 hg c2 f2
        go_wp2_with fail
        go_roundw
        case rel => exact ⟨HO4.out.setCell (p := ⟨P, 2, none⟩) (.inr hsz) _, j + 1, _, by first | rfl | go_num, by omega, PkB.set HP3.out _, by
         have e : flatV (vs.take (j + 1)) = flatV (vs.take j) ++ [.string y, .bool false] := by rw [List.take_add_one, HX.out]; simp [flatV]
         rw [e]
         exact own_only HR4.out ((Only.refl (fun k => k = P) _).setCell (p := ⟨P, 2, none⟩) (.inl rfl) _) (fun k hk e => by simp [Value.ownBlock] at hk; have := HG.out; omega), show Hid _ from (fun k hk => by simp [Value.ownBlock] at hk; have := HG.out; omega), by
         have e : vs.take (j + 1) = vs.take j ++ [y] := by rw [List.take_add_one, HX.out]; rfl
         rw [e]
         refine HGi.out.snoc HMy.out fun hm => ?_
         obtain ⟨k, hk⟩ := List.mem_iff_getElem?.1 hm
         rw [List.getElem?_take] at hk
         split at hk
         ·exact HNe.out k y (by assumption) hk rfl
         ·cases hk⟩
        case measure => simp [RowKit.intOf] <;> omega
    ·obtain rfl : i = n := by omega
     have hn30 : i ≤ 30 := by omega
     have hg : GoodV vs := by have h := HGi.out; rw [List.take_of_length_le (Nat.le_of_eq HN.out)] at h; exact h
     have hr := HRi.out
     rw [List.take_of_length_le (Nat.le_of_eq HN.out)] at hr
     have HGood := Lib.hid hg
     have HRel := Lib.hid hr
     clear hg hr HGi HRi
     go_wp2_with (at_make; go_must (refine wpM (bytes := 1) (z := .bool false) Tryd.underlying34 (by kernel_rfl) rfl rfl _ _ rfl i rfl rfl rfl rfl (by omega) (by decide) ?_))
     intro w4 m1 m2 m3
     obtain ⟨S, hS⟩ : ∃ x, wr.heap.size = x := ⟨_, rfl⟩
     rw [hS] at m1 m3 ⊢
     have HO4 := Lib.hid (HOi.out.same m2)
     have HPk := Lib.hid (PkB.only HPi.out m2)
     have HRl := Lib.hid (own_only HRel.out m2 (fun _ _ f => f))
     have HSn := Lib.hid m1
     have HSz : Hid (w.heap.size ≤ S) := show w.heap.size ≤ S by rw [← hS]; exact HOi.out.size
     clear m1 m2 m3 hS HRel
     have hne : ∀ k, rv.ownBlock = some k → k ≠ S := fun k hk e => own_ty (by decide) HRl.out HSn.out hk (by rw [e]; rfl)
     have hPS : P ≠ S := fun e => own_blk (by decide) HSn.out HPk.out (by rw [e]; rfl)
     have HNe := Lib.hid hne
     have HPS2 := Lib.hid hPS
     clear hne hPS HBi HPi
     generalize wr = wo at *
     go_wp2_with fail
     go_loopw [59] (fun vi wr => Hid (Only (fun _ => False) w wr) ∧ ∃ (j : Nat) (bs : List Bool), vi = .int .i64 j ∧ j ≤ i ∧ Hid (PkB wr P rv) ∧ Hid (wr.ownsRow 0 33 2 rv i (flatV vs)) ∧ Hid (wr.ownsRow 0 4 1 (.slice (some ⟨S, 0, none⟩) i i) i (bs.map Value.bool)) ∧ Hid (SeenV vs j bs)) (fun v _ => i - (RowKit.intOf v).toNat)
     case atStart => exact ⟨HO4, 0, List.replicate i false, rfl, Nat.zero_le _, HPk, HRl, by rw [List.map_replicate]; exact HSn, show SeenV _ _ _ from ⟨by rw [List.length_replicate, HN.out], fun k hk => by rw [List.getElem?_replicate] at hk; split at hk <;> simp at hk⟩⟩
     case round =>
      obtain ⟨HOj, j, bs, rfl, hj, HPj, HRj, HSj, HSe⟩ := hrel
      by_cases cj : j < i
      ·have ewj : IntKind.i64.wrap ((j : Int) + 1) = (j : Int) + 1 := by rw [IntKind.wrap_i64]; omega
       obtain ⟨y, hy⟩ : ∃ y, vs[j]? = some y := ⟨_, List.getElem?_eq_getElem (by rw [HN.out]; exact cj)⟩
       obtain ⟨b, off, he, hok, hE⟩ := StrC_at (HRow.out.keep StrC.keep (Kp.of0 HOj.out)) hy
       subst he
       have hr := (hE wr (Only.refl _ _)).1
       have g0 := hr 0 _ rfl
       rw [Nat.add_zero, Nat.mul_one] at g0
       obtain ⟨c, hc⟩ : ∃ c, cntB nw vs y = c := ⟨_, rfl⟩
       have hnew := HSe.out.new HGood.out hy
       rw [hc, HN.out] at hnew
       obtain ⟨hci, hbc⟩ := hnew
       have HC := Lib.hid hc
       have HY := Lib.hid hy
       have HBc := Lib.hid hbc
       have HRk := Lib.hid (rank_pk HRj.out HN.out HGood.out hn30 (HL.out.only HOj.out) (List.mem_of_getElem? hy) c hc)
       have hc0 : ¬ (c : Int) < 0 := by omega
       have hci' : ¬ (c : Int) ≥ (i : Int) := by omega
       have dc0 : decide ((c : Int) < 0) = false := decide_eq_false (by omega)
       have dci : decide (i ≤ c) = false := decide_eq_false (by omega)
       clear hr hE hok hc hy hbc
       go_wp2_with (refine wpList_load_row rfl 30 (.tmp 3) rfl P rfl 30 (pkC rv) (0, 0) _ HPj.out Tryd.underlying30 rfl (by kernel_rfl) ?_)
       refine HRk.out.mono ?_
       rintro e w5 ⟨rfl, O5⟩
       have HO5 := Lib.hid (HOj.out.same O5)
       have HP5 := Lib.hid (PkB.only HPj.out O5)
       have HR5 := Lib.hid (own_only HRj.out O5 (fun _ _ f => f))
       have hS5 := own_only HSj.out O5 (fun _ _ f => f)
       have qc : w5.cell? ⟨S, c, none⟩ = some (.bool false) := by rw [hS5.cellAt c (by omega), List.getElem?_map, HBc.out]; rfl
       have qf := hS5.frozenAt c
       have oS : Only (fun k => k = S) w5 (w5.setCell ⟨S, c, none⟩ (.bool true)) := (Only.refl (fun k => k = S) w5).setCell (p := ⟨S, c, none⟩) (.inl rfl) _
       have HS6 : Hid ((w5.setCell ⟨S, c, none⟩ (.bool true)).ownsRow 0 4 1 (.slice (some ⟨S, 0, none⟩) i i) i ((bs.set c true).map Value.bool)) := by
        rw [List.map_set]
        exact (hS5.stored c (.bool true)).1
       have HO6 : Hid (Only (fun _ => False) w (w5.setCell ⟨S, c, none⟩ (.bool true))) := HO5.out.setCell (p := ⟨S, c, none⟩) (.inr HSz.out) _
       have HP6 : Hid (PkB (w5.setCell ⟨S, c, none⟩ (.bool true)) P rv) := (oS.block P (Array.getElem?_eq_some_iff.1 HP5.out).1 HPS2.out).trans HP5.out
       have HR6 : Hid ((w5.setCell ⟨S, c, none⟩ (.bool true)).ownsRow 0 33 2 rv i (flatV vs)) := own_only HR5.out oS (fun k hk e => HNe.out k hk e)
       have HSe6 : Hid (SeenV vs (j + 1) (bs.set c true)) := by
        have h := HSe.out.next HY.out
        rw [HC.out] at h
        exact h
       clear O5 hS5 oS HRk HPj HRj HSj HO5 HP5 HR5 g0
       go_wp2_with fail
       obtain ⟨w6, hw6⟩ : ∃ x, w5.setCell ⟨S, c, none⟩ (.bool true) = x := ⟨_, rfl⟩
       rw [hw6] at HS6 HO6 HP6 HR6 ⊢
       clear hw6 qc qf
       generalize wr = wo2 at *
       go_loopw [85] (fun vk wr => Hid (Only (fun _ => False) w6 wr) ∧ ∃ k : Nat, vk = .int .i64 k ∧ k ≤ i) (fun v _ => i - (RowKit.intOf v).toNat)
       case atStart => exact ⟨Only.refl _ _, 0, rfl, Nat.zero_le _⟩
       case round =>
        obtain ⟨HOk, k, rfl, hk⟩ := hrel
        by_cases ck : k < i
        ·have ewk : IntKind.i64.wrap ((k : Int) + 1) = (k : Int) + 1 := by rw [IntKind.wrap_i64]; omega
         obtain ⟨z, hz⟩ : ∃ z, vs[k]? = some z := ⟨_, List.getElem?_eq_getElem (by rw [HN.out]; exact ck)⟩
         obtain ⟨b', off', he', hok', hE'⟩ := StrC_at (HRow.out.keep StrC.keep (Kp.of0 (HO6.out.same HOk.out))) hz
         cases he'
         have hr := (hE' wr (Only.refl _ _)).1
         have g0 := hr 0 _ rfl
         rw [Nat.add_zero, Nat.mul_one] at g0
         obtain ⟨lb, hlb⟩ : ∃ x, lessB y.toList z.toList = x := ⟨_, rfl⟩
         have hoky : okS y := by have := mayB_size (HGood.out.1 _ (List.mem_of_getElem? HY.out)); unfold okS maxLen; omega
         have HLs := Lib.hid (Less_x (w := wr) y z hoky hok' lb hlb)
         have HLb := Lib.hid hlb
         have HZ := Lib.hid hz
         clear hr hE' hok' hz hlb hoky
         cases lb with
         | false =>
          go_wp2_with fail
          refine HLs.out.mono ?_
          rintro e w7 ⟨rfl, O7⟩
          have HO7 := Lib.hid (HOk.out.same O7)
          clear O7 HLs
          go_wp2_with fail
          go_roundw
          case rel => exact ⟨HO7, k + 1, by first | rfl | go_num, by omega⟩
          case measure => simp [RowKit.intOf] <;> omega
         | true =>
          obtain ⟨d, hd⟩ : ∃ d, cntB nw vs z = d := ⟨_, rfl⟩
          have hzm := List.mem_of_getElem? HZ.out
          have hym := List.mem_of_getElem? HY.out
          have hdc : d < c := by rw [← hd, ← HC.out]; exact rank_anti HGood.out.1 hym hzm (less_nw HGood.out.1 hym hzm HLb.out)
          have hdc' : ¬ (d : Int) ≥ (c : Int) := by omega
          have HD := Lib.hid hd
          have HZm := Lib.hid hzm
          clear hd hzm hym
          go_wp2_with fail
          refine HLs.out.mono ?_
          rintro e w7 ⟨rfl, O7⟩
          have HO7 := Lib.hid (HOk.out.same O7)
          have HP7 := Lib.hid (PkB.only HP6.out (HOk.out.same O7))
          have HRk := Lib.hid (rank_pk (own_only HR6.out (HOk.out.same O7) (fun _ _ f => f)) HN.out HGood.out hn30 (HL.out.only (HO6.out.same HO7.out)) HZm.out d HD.out)
          clear O7 HLs g0
          have q0 : w7.cell? ⟨P, 0, none⟩ = some (.string ⟨#[]⟩) := by rw [cell_block HP7.out]; rfl
          have q1 : w7.cell? ⟨P, 1, none⟩ = some (.int .i64 0) := by rw [cell_block HP7.out]; rfl
          have q2 : w7.cell? ⟨P, 2, none⟩ = some rv := by rw [cell_block HP7.out]; rfl
          have q3 : w7.cell? ⟨P, 3, none⟩ = some (.slice none 0 0) := by rw [cell_block HP7.out]; rfl
          have q4 : w7.cell? ⟨P, 4, none⟩ = some (.slice none 0 0) := by rw [cell_block HP7.out]; rfl
          have q5 : w7.cell? ⟨P, 5, none⟩ = some (.slice none 0 0) := by rw [cell_block HP7.out]; rfl
          have q6 : w7.cell? ⟨P, 6, none⟩ = some (.slice none 0 0) := by rw [cell_block HP7.out]; rfl
          have q7 : w7.cell? ⟨P, 7, none⟩ = some (.slice none 0 0) := by rw [cell_block HP7.out]; rfl
          go_wp2_with fail
          refine HRk.out.mono ?_
          rintro e w8 ⟨rfl, O8⟩
          have HO8 := Lib.hid (HO7.out.same O8)
          clear O8 HRk
          go_wp2_with fail
          go_roundw
          case rel => exact ⟨HO8, k + 1, by first | rfl | go_num, by omega⟩
          case measure => simp [RowKit.intOf] <;> omega
        ·obtain rfl : k = i := by omega
         go_wp2_with fail
         go_roundw
         case rel => exact ⟨HO6.out.same HOk.out, j + 1, bs.set c true, by first | rfl | go_num, by omega, PkB.only HP6.out HOk.out, own_only HR6.out HOk.out (fun _ _ f => f), own_only HS6.out HOk.out (fun _ _ f => f), HSe6⟩
         case measure => simp [RowKit.intOf] <;> omega
      ·obtain rfl : j = i := by omega
       go_wp2_with fail
       refine (HF.out _).mono ?_
       rintro e w9 ⟨rfl, O9⟩
       go_wp2_with fail
       go_ret
       exact ⟨rfl, HOj.out.same O9⟩
end
end Go.Proofs.YtmlfchjompfmaaaDoor
