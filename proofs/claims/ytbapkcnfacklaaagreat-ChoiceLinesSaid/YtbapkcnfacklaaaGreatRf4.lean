/- The document's checks: wish. Printed by gen_rf4.py. -/
import Derived.Test.YtbapkcnfacklaaaGreatRf3
set_option linter.unusedVariables false
namespace Go.Proofs.YtbapkcnfacklaaaGreat
open Go.RowKit
section
variable {w w' : World} {B : Nat}
attribute [local irreducible] wpQuiet
def anyOne : List SpanD → Bool
 | [a] => a.lo.toList.isEmpty && a.hi.toList.isEmpty
 | _ => false
def RecD.wish (x : RecD) (s : SpecD) : Int :=
 if 0 ≤ x.find s.name then (if settingsD (x.pack (x.find s.name).toNat) s.sets then 0 else 8)
 else if x.virt s.name then (if 0 < s.sets.length then 9 else if anyOne s.spans then 0 else 9) else 7
set_option maxRecDepth 100000 in
set_option maxHeartbeats 4000000 in
theorem Wish_any {csx : List Value} {x : RecD} (hx : RecC B w csx x) {css : List Value} {s : SpecD} (hs : SpecC B w css s) (hlen : x.packs.length ≤ 1000000) :
  Calls Tryz.prog 76 #[.agg csx.toArray, .agg css.toArray] w fun e w' => e = .returned (.int .u8 (x.wish s)) ∧ Only (fun _ => False) w w' := by
 have HH_x := Lib.hid hx
 obtain ⟨u1, u2, rfl, r1, r2⟩ := hx
 obtain ⟨a_x_packs, c_x_packs, rfl, g_x_packs, h_x_packs⟩ := r1.shape
 obtain ⟨n_x_packs, e1⟩ : ∃ n, x.packs.length = n := ⟨_, rfl⟩
 have N_x_packs := Lib.hid e1
 obtain ⟨a_x_prefs, c_x_prefs, rfl, g_x_prefs, h_x_prefs⟩ := r2.shape
 obtain ⟨n_x_prefs, e2⟩ : ∃ n, x.prefs.length = n := ⟨_, rfl⟩
 have N_x_prefs := Lib.hid e2
 rw [e1, e2] at HH_x
 rw [e1] at r1 g_x_packs
 have RR_x_packs := Lib.hid r1
 rw [e2] at r2 g_x_prefs
 have RR_x_prefs := Lib.hid r2
 rw [e1, e2]
 clear e1 e2 r1 r2
 have HH_s := Lib.hid hs
 obtain ⟨u1, u2, rfl, -, r1, r2⟩ := hs
 obtain ⟨a_s_spans, c_s_spans, rfl, g_s_spans, h_s_spans⟩ := r1.shape
 obtain ⟨n_s_spans, e1⟩ : ∃ n, s.spans.length = n := ⟨_, rfl⟩
 have N_s_spans := Lib.hid e1
 obtain ⟨a_s_sets, c_s_sets, rfl, g_s_sets, h_s_sets⟩ := r2.shape
 obtain ⟨n_s_sets, e2⟩ : ∃ n, s.sets.length = n := ⟨_, rfl⟩
 have N_s_sets := Lib.hid e2
 rw [e1, e2] at HH_s
 rw [e1] at r1 g_s_spans
 have RR_s_spans := Lib.hid r1
 rw [e2] at r2 g_s_sets
 have RR_s_sets := Lib.hid r2
 rw [e1, e2]
 clear e1 e2 r1 r2
 obtain ⟨W0, hW0⟩ : ∃ W0, W0 = ((w.alloc (.cells #[.slice a_x_packs n_x_packs c_x_packs, .slice a_x_prefs n_x_prefs c_x_prefs] 25)).alloc (.cells #[.string s.name, .slice a_s_spans n_s_spans c_s_spans, .slice a_s_sets n_s_sets c_s_sets] 49)) := ⟨_, rfl⟩
 have HOB : Hid (Only (fun _ => False) w W0) := by rw [hW0]; exact ((Only.refl _ _).alloc _).alloc _
 have HSz : Hid (W0.heap.size = w.heap.size + 2) := by rw [hW0]; simp [Hid]
 have HBox : Hid (∀ W, Only (fun _ => False) W0 W → W.cell? ⟨w.heap.size, 0, none⟩ = some (.slice a_x_packs n_x_packs c_x_packs) ∧ W.cell? ⟨w.heap.size, 1, none⟩ = some (.slice a_x_prefs n_x_prefs c_x_prefs) ∧ W.cell? ⟨w.heap.size + 1, 0, none⟩ = some (.string s.name) ∧ W.cell? ⟨w.heap.size + 1, 1, none⟩ = some (.slice a_s_spans n_s_spans c_s_spans) ∧ W.cell? ⟨w.heap.size + 1, 2, none⟩ = some (.slice a_s_sets n_s_sets c_s_sets)) := fun W ho => by
  have b0 : W0.heap[w.heap.size]? = some (.cells #[.slice a_x_packs n_x_packs c_x_packs, .slice a_x_prefs n_x_prefs c_x_prefs] 25) := by rw [hW0]; exact alloc_block (alloc_at rfl) _
  have d0 := only_block b0 ho (fun f => f)
  have b1 : W0.heap[w.heap.size + 1]? = some (.cells #[.string s.name, .slice a_s_spans n_s_spans c_s_spans, .slice a_s_sets n_s_sets c_s_sets] 49) := by rw [hW0]; exact alloc_at (by simp)
  have d1 := only_block b1 ho (fun f => f)
  exact ⟨by rw [cell_block d0]; rfl, by rw [cell_block d0]; rfl, by rw [cell_block d1]; rfl, by rw [cell_block d1]; rfl, by rw [cell_block d1]; rfl⟩
 have HK_x : Hid (∀ W, Only (fun _ => False) W0 W → RecC B W [.slice a_x_packs n_x_packs c_x_packs, .slice a_x_prefs n_x_prefs c_x_prefs] x) := fun W ho => RecC.keep HH_x.out (Kp.of0 (HOB.out.same ho) : Kp B w W)
 have HR_x_packs : Hid (∀ W, Only (fun _ => False) W0 W → RowT 8 PackC B W (.slice a_x_packs n_x_packs c_x_packs) x.packs) := fun W ho => RR_x_packs.out.keep PackC.keep (Kp.of0 (HOB.out.same ho))
 clear RR_x_packs
 have HR_x_prefs : Hid (∀ W, Only (fun _ => False) W0 W → RowT 3 PrefC B W (.slice a_x_prefs n_x_prefs c_x_prefs) x.prefs) := fun W ho => RR_x_prefs.out.keep PrefC.keep (Kp.of0 (HOB.out.same ho))
 clear RR_x_prefs
 clear HH_x
 have HK_s : Hid (∀ W, Only (fun _ => False) W0 W → SpecC B W [.string s.name, .slice a_s_spans n_s_spans c_s_spans, .slice a_s_sets n_s_sets c_s_sets] s) := fun W ho => SpecC.keep HH_s.out (Kp.of0 (HOB.out.same ho) : Kp B w W)
 have HR_s_spans : Hid (∀ W, Only (fun _ => False) W0 W → RowT 2 SpanC B W (.slice a_s_spans n_s_spans c_s_spans) s.spans) := fun W ho => RR_s_spans.out.keep SpanC.keep (Kp.of0 (HOB.out.same ho))
 clear RR_s_spans
 have HR_s_sets : Hid (∀ W, Only (fun _ => False) W0 W → RowT 2 SetC B W (.slice a_s_sets n_s_sets c_s_sets) s.sets) := fun W ho => RR_s_sets.out.keep SetC.keep (Kp.of0 (HOB.out.same ho))
 clear RR_s_sets
 clear HH_s
 rw [N_x_packs.out] at hlen
 obtain ⟨f, hf⟩ : ∃ f, x.find s.name = f := ⟨_, rfl⟩
 obtain ⟨vb, hvb⟩ : ∃ f, x.virt s.name = f := ⟨_, rfl⟩
 have hflt := x.find_lt s.name
 rw [hf, N_x_packs.out] at hflt
 have HF : Hid (∀ W, Only (fun _ => False) W0 W → Calls Tryz.prog 82 #[.agg #[.slice a_x_packs n_x_packs c_x_packs, .slice a_x_prefs n_x_prefs c_x_prefs], .string s.name] W fun e w' => e = .returned (.int .i64 f) ∧ Only (fun _ => False) W w') := fun W hW => by rw [← hf]; exact Find9_any (HK_x.out W hW) s.name
 have HVt : Hid (∀ W, Only (fun _ => False) W0 W → Calls Tryz.prog 88 #[.agg #[.slice a_x_packs n_x_packs c_x_packs, .slice a_x_prefs n_x_prefs c_x_prefs], .string s.name] W fun e w' => e = .returned (.bool vb) ∧ Only (fun _ => False) W w') := fun W hW => by rw [← hvb]; exact Virtual9_any (HK_x.out W hW) (by rw [N_x_packs.out]; exact hlen) s.name
 obtain ⟨r, hr⟩ : ∃ r, x.wish s = r := ⟨_, rfl⟩
 rw [hr]
 have HRes : Hid (r = if 0 ≤ f then (if settingsD (x.pack f.toNat) s.sets then 0 else 8)
  else if vb then (if 0 < n_s_sets then 9 else if anyOne s.spans then 0 else 9) else 7) := by
  rw [← hr, RecD.wish, hf, hvb, N_s_sets.out]
  exact rfl
 clear hf hvb hr
 go_enter Tryz.func76, Tryz.ntmps76
 go_wp2_with fail
 rw [← hW0]
 clear hW0
 obtain ⟨k0, k1, k2, k3, k4⟩ := HBox.out W0 (Only.refl _ _)
 go_wp2_with fail
 refine (HF.out W0 (Only.refl _ _)).mono ?_
 rintro e w1 ⟨rfl, O1⟩
 have HO1 := Lib.hid O1
 clear O1 k0 k1 k2 k3 k4
 obtain ⟨k0, k1, k2, k3, k4⟩ := HBox.out w1 HO1.out
 by_cases hf : 0 ≤ f
 ·obtain ⟨i, rfl⟩ : ∃ i : Nat, f = i := ⟨f.toNat, by omega⟩
  have ci : i < n_x_packs := by omega
  obtain ⟨yy, hxy⟩ : ∃ y, x.packs[i]? = some y := ⟨_, List.getElem?_eq_getElem (by rw [N_x_packs.out]; omega)⟩
  obtain ⟨bky, offy, ay1, ny1, cy1, ay2, ny2, cy2, ay3, ny3, cy3, ay4, ny4, cy4, ay5, ny5, cy5, ay6, ny6, cy6, hey, N0y1, N0y2, N0y3, N0y4, N0y5, N0y6, oky1, iny1, HE0y⟩ := PackC_at (HR_x_packs.out W0 (Only.refl _ _)) hxy
  first
   | subst hey
   | (simp only [Option.some.injEq, Addr.mk.injEq, and_true] at hey; obtain ⟨rfl, rfl⟩ := hey)
  have Ny1 := Lib.hid N0y1
  have Ny2 := Lib.hid N0y2
  have Ny3 := Lib.hid N0y3
  have Ny4 := Lib.hid N0y4
  have Ny5 := Lib.hid N0y5
  have Ny6 := Lib.hid N0y6
  have HEy := Lib.hid HE0y
  have HXy := Lib.hid hxy
  clear HE0y hxy N0y1 N0y2 N0y3 N0y4 N0y5 N0y6
  have HRy1 : Hid (∀ W, Only (fun _ => False) W0 W → RowT 2 RelC B W (.slice ay1 ny1 cy1) yy.rels) := fun W ho => (HEy.out W ho).2.1
  have HRy2 : Hid (∀ W, Only (fun _ => False) W0 W → RowT 2 VarC B W (.slice ay2 ny2 cy2) yy.vars) := fun W ho => (HEy.out W ho).2.2.1
  have HRy3 : Hid (∀ W, Only (fun _ => False) W0 W → RowT 1 StrC B W (.slice ay3 ny3 cy3) yy.provides) := fun W ho => (HEy.out W ho).2.2.2.1
  have HRy4 : Hid (∀ W, Only (fun _ => False) W0 W → RowT 7 DepC B W (.slice ay4 ny4 cy4) yy.deps) := fun W ho => (HEy.out W ho).2.2.2.2.1
  have HRy5 : Hid (∀ W, Only (fun _ => False) W0 W → RowT 7 ConC B W (.slice ay5 ny5 cy5) yy.cons) := fun W ho => (HEy.out W ho).2.2.2.2.2.1
  have HRy6 : Hid (∀ W, Only (fun _ => False) W0 W → RowT 1 StrC B W (.slice ay6 ny6 cy6) yy.files) := fun W ho => (HEy.out W ho).2.2.2.2.2.2.1
  have HCy : Hid (∀ W, Only (fun _ => False) W0 W → PackC B W [.string yy.name, .int .i64 yy.line, .slice ay1 ny1 cy1, .slice ay2 ny2 cy2, .slice ay3 ny3 cy3, .slice ay4 ny4 cy4, .slice ay5 ny5 cy5, .slice ay6 ny6 cy6] yy) := fun W ho => (HEy.out W ho).2.2.2.2.2.2.2
  have hpk : x.pack i = yy := by unfold RecD.pack; rw [List.getD_eq_getElem?_getD, HXy.out]; rfl
  obtain ⟨sb, hsb⟩ : ∃ b, settingsD yy s.sets = b := ⟨_, rfl⟩
  have hres := HRes.out
  rw [if_pos hf, Int.toNat_natCast, hpk, hsb] at hres
  have HSt : Hid (∀ W, Only (fun _ => False) W0 W → Calls Tryz.prog 95 #[.agg #[.string yy.name, .int .i64 yy.line, .slice ay1 ny1 cy1, .slice ay2 ny2 cy2, .slice ay3 ny3 cy3, .slice ay4 ny4 cy4, .slice ay5 ny5 cy5, .slice ay6 ny6 cy6], .slice a_s_sets n_s_sets c_s_sets] W fun e w' => e = .returned (.bool sb) ∧ Only (fun _ => False) W w') := fun W hW => by rw [← hsb]; exact Settings_any (HCy.out W hW) (HR_s_sets.out W hW)
  clear hpk hsb
  go_wp2_with fail
  refine wp_region_Q (fun w' => Only (fun _ => False) W0 w') (by kernel_rfl) (by kernel_rfl) (by exact (HO1.out).drew) ?_
  refine wpQ_val (v := ?_) (by rfl) ?_ ?_
  rotate_left
  ·(intro w hSw; (try dsimp only at hSw); go_simp <;> (try with_reducible rfl))
  try simp only [Act.put, zq4, zq5, zq6]
  refine wpQ_val (v := ?_) (by rfl) ?_ ?_
  rotate_left
  ·(intro w hSw; (try dsimp only at hSw); obtain ⟨k0, k1, k2, k3, k4⟩ := HBox.out w hSw; have hry := (HEy.out w hSw).1; have gy0 := hry 0 _ rfl; have gy1 := hry 1 _ rfl; have gy2 := hry 2 _ rfl; have gy3 := hry 3 _ rfl; have gy4 := hry 4 _ rfl; have gy5 := hry 5 _ rfl; have gy6 := hry 6 _ rfl; have gy7 := hry 7 _ rfl; rw [Nat.add_zero] at gy0; clear hry; go_simp <;> (try with_reducible rfl))
  try simp only [Act.put, zq4, zq5, zq6]
  refine wpQ_val (v := ?_) (by rfl) ?_ ?_
  rotate_left
  ·(intro w hSw; (try dsimp only at hSw); go_simp <;> (try with_reducible rfl))
  try simp only [Act.put, zq4, zq5, zq6]
  refine wpQ_val (v := ?_) (by rfl) ?_ ?_
  rotate_left
  ·(intro w hSw; (try dsimp only at hSw); go_simp <;> (try with_reducible rfl))
  try simp only [Act.put, zq4, zq5, zq6]
  refine wpQ_val (v := ?_) (by rfl) ?_ ?_
  rotate_left
  ·(intro w hSw; (try dsimp only at hSw); obtain ⟨k0, k1, k2, k3, k4⟩ := HBox.out w hSw; have hry := (HEy.out w hSw).1; have gy0 := hry 0 _ rfl; have gy1 := hry 1 _ rfl; have gy2 := hry 2 _ rfl; have gy3 := hry 3 _ rfl; have gy4 := hry 4 _ rfl; have gy5 := hry 5 _ rfl; have gy6 := hry 6 _ rfl; have gy7 := hry 7 _ rfl; rw [Nat.add_zero] at gy0; clear hry; go_simp <;> (try with_reducible rfl))
  try simp only [Act.put, zq4, zq5, zq6]
  refine wpQ_val (v := ?_) (by rfl) ?_ ?_
  rotate_left
  ·(intro w hSw; (try dsimp only at hSw); go_simp <;> (try with_reducible rfl))
  try simp only [Act.put, zq4, zq5, zq6]
  refine wpQ_val (v := ?_) (by rfl) ?_ ?_
  rotate_left
  ·(intro w hSw; (try dsimp only at hSw); obtain ⟨k0, k1, k2, k3, k4⟩ := HBox.out w hSw; have hry := (HEy.out w hSw).1; have gy0 := hry 0 _ rfl; have gy1 := hry 1 _ rfl; have gy2 := hry 2 _ rfl; have gy3 := hry 3 _ rfl; have gy4 := hry 4 _ rfl; have gy5 := hry 5 _ rfl; have gy6 := hry 6 _ rfl; have gy7 := hry 7 _ rfl; rw [Nat.add_zero] at gy0; clear hry; go_simp <;> (try with_reducible rfl))
  try simp only [Act.put, zq4, zq5, zq6]
  refine wpQ_call (v := .bool sb) (f := 95) (args := #[.agg #[.string yy.name, .int .i64 yy.line, .slice ay1 ny1 cy1, .slice ay2 ny2 cy2, .slice ay3 ny3 cy3, .slice ay4 ny4 cy4, .slice ay5 ny5 cy5, .slice ay6 ny6 cy6], .slice a_s_sets n_s_sets c_s_sets]) (by rfl) ?_ ?_ ?_
  ·(intro w; go_simp <;> (try with_reducible rfl))
  ·(intro w hSw; exact (HSt.out w hSw).mono fun _ _ ⟨he, ho⟩ => ⟨he, hSw.same ho⟩)
  try simp only [Act.put, zq4, zq5, zq6]
  refine wpQ_val (v := ?_) (by rfl) ?_ ?_
  rotate_left
  ·(intro w hSw; (try dsimp only at hSw); go_simp <;> (try with_reducible rfl))
  try simp only [Act.put, zq4, zq5, zq6]
  refine wpQuiet_nil ?_
  (intro w9 hw9; have HO9 := Lib.hid hw9; clear hw9)
  cases sb with
  | true =>
   rw [if_pos rfl] at hres
   subst hres
   clear HRes
   go_wp2_with fail
   go_ret
   exact ⟨rfl, HOB.out.same HO9.out⟩
  | false =>
   rw [if_neg (by simp)] at hres
   subst hres
   clear HRes
   go_wp2_with fail
   go_ret
   exact ⟨rfl, HOB.out.same HO9.out⟩
 ·have hf2 : f < 0 := by omega
  go_wp2_with fail
  refine (HVt.out w1 HO1.out).mono ?_
  rintro e w2 ⟨rfl, O2⟩
  have HO2 := Lib.hid (HO1.out.same O2)
  clear O2 HF HVt
  clear k0 k1 k2 k3 k4
  obtain ⟨k0, k1, k2, k3, k4⟩ := HBox.out w2 HO2.out
  have hres := HRes.out
  rw [if_neg (by omega : ¬ (0 ≤ f))] at hres
  cases vb with
  | false =>
   replace hres : r = 7 := by simpa using hres
   subst hres
   clear HRes
   go_wp2_with fail
   go_ret
   exact ⟨rfl, HOB.out.same HO2.out⟩
  | true =>
   rw [if_pos rfl] at hres
   by_cases c1 : 0 < n_s_sets
   ·rw [if_pos c1] at hres
    subst hres
    clear HRes
    go_wp2_with fail
    go_ret
    exact ⟨rfl, HOB.out.same HO2.out⟩
   ·rw [if_neg c1] at hres
    by_cases c2 : n_s_spans = 1
    ·have c3 : 0 < n_s_spans := by omega
     subst c2
     obtain ⟨yz, hxz⟩ : ∃ y, s.spans[0]? = some y := ⟨_, List.getElem?_eq_getElem (by rw [N_s_spans.out]; omega)⟩
     obtain ⟨bkz, offz, hez, okz1, okz2, HE0z⟩ := SpanC_at (HR_s_spans.out W0 (Only.refl _ _)) hxz
     first
      | subst hez
      | (simp only [Option.some.injEq, Addr.mk.injEq, and_true] at hez; obtain ⟨rfl, rfl⟩ := hez)
     have HEz := Lib.hid HE0z
     have HXz := Lib.hid hxz
     clear HE0z hxz
     have HCz : Hid (∀ W, Only (fun _ => False) W0 W → SpanC B W [.string yz.lo, .string yz.hi] yz) := fun W ho => (HEz.out W ho).2
     obtain ⟨za, hza⟩ := List.length_eq_one_iff.1 N_s_spans.out
     have hzz : za = yz := by
      have := HXz.out
      rw [hza] at this
      simpa using this
     subst hzz
     rw [hza] at hres
     clear hza
     obtain ⟨b1, hb1⟩ : ∃ b, za.lo.toList.isEmpty = b := ⟨_, rfl⟩
     obtain ⟨b2, hb2⟩ : ∃ b, za.hi.toList.isEmpty = b := ⟨_, rfl⟩
     simp only [anyOne, hb1, hb2] at hres
     have hrz := (HEz.out w2 HO2.out).1
     have gz0 := hrz 0 _ rfl
     have gz1 := hrz 1 _ rfl
     rw [Nat.add_zero] at gz0
     clear hrz
     simp only [Nat.zero_mul, Nat.add_zero] at gz0 gz1
     cases b1 with
     | false =>
      replace hres : r = 9 := by simpa using hres
      subst hres
      clear HRes
      go_wp2_with fail
      go_ret
      exact ⟨rfl, HOB.out.same HO2.out⟩
     | true =>
      cases b2 with
      | false =>
       replace hres : r = 9 := by simpa using hres
       subst hres
       clear HRes
       go_wp2_with fail
       go_ret
       exact ⟨rfl, HOB.out.same HO2.out⟩
      | true =>
       replace hres : r = 0 := by simpa using hres
       subst hres
       clear HRes
       go_wp2_with fail
       go_wp2_with fail
       go_ret
       exact ⟨rfl, HOB.out.same HO2.out⟩
    ·have c3 : ((n_s_spans : Int) == 1) = false := by rw [beq_eq_false_iff_ne]; omega
     replace hres : r = 9 := by
      rw [hres, if_neg]
      intro h
      have := N_s_spans.out
      unfold anyOne at h
      split at h
      ·next h2 => rw [h2] at this; simp at this; omega
      ·cases h
     subst hres
     clear HRes
     go_wp2_with fail
     go_ret
     exact ⟨rfl, HOB.out.same HO2.out⟩
end
end Go.Proofs.YtbapkcnfacklaaaGreat
