/- The walks of learn.reason$1, learn.reason. (Printed by gen_lrn3.py.) -/
import Derived.Test.YtjedgdamommgeaaLrn2
import Derived.Test.YtjedgdamommgeaaRegion5
set_option linter.unusedVariables false
namespace Go.Proofs.Ytjedgdamommgeaa
open Go.RowKit
open Tr

section
variable {w : World} {g : Tag} {b : Nat} {V : TrV} {T : Trail}

theorem enter_reason1 : ∀ args w, (callFunc 71 args).run Try.prog w = .ok (.enter 71 args) w := enters_of Try.func71 (by kernel_rfl) rfl

set_option maxRecDepth 100000 in
set_option maxHeartbeats 1600000 in
theorem reason1_any (H : TrAt w g b V T) (o : Ok T) (bl bt : Nat) (l : Int) (hl : InI64 l) (hbl : w.cell? ⟨bl, 0, none⟩ = some (cI l)) (hbt : w.cell? ⟨bt, 0, none⟩ = some (.pointer (some ⟨b, 0, none⟩))) (x : Int) (hx : InI64 x) :
    Calls Try.prog 71 #[.int .i64 x, .pointer (some ⟨bl, 0, none⟩), .pointer (some ⟨bt, 0, none⟩)] w fun e w' => e = .returned (.bool (T.rsP l x)) ∧ Only (fun _ => False) w w' := by
  obtain ⟨ax, hax⟩ : ∃ a, Cnf.absW x = a := ⟨_, rfl⟩
  obtain ⟨al, hal⟩ : ∃ a, Cnf.absW l = a := ⟨_, rfl⟩
  have hS : ∀ W, Only (fun _ => False) w W → W.cell? ⟨bl, 0, none⟩ = some (cI l) ∧ W.cell? ⟨bt, 0, none⟩ = some (.pointer (some ⟨b, 0, none⟩)) := fun W oW => ⟨cell_keep hbl oW (fun f => f), cell_keep hbt oW (fun f => f)⟩
  have ha1 := fun W : World => learn_abs_any (w := W) x ax hax
  have ha2 := fun W : World => learn_abs_any (w := W) l al hal
  have HA1 := Lib.hid ha1
  have HA2 := Lib.hid ha2
  obtain ⟨q, hq⟩ : ∃ q, T.lvl x = q := ⟨_, rfl⟩
  have hlv : ∀ W, Only (fun _ => False) w W → Calls Try.prog 37 #[.pointer (some ⟨b, 0, none⟩), .int .i64 x] W fun e w' => e = .returned (.int .i64 q) ∧ Only (fun _ => False) w w' := fun W oW =>
    (learn_level_any (H.only0 oW) o x hx q hq).mono fun _ _ ⟨he, ho⟩ => ⟨he, oW.same ho⟩
  have HLv := Lib.hid hlv
  have hres : T.rsP l x = (ax == al || q == 0) := by unfold Trail.rsP; rw [hax, hal, hq]
  rw [hres]
  have HS := Lib.hid hS
  have o0 : Only (fun _ => False) w w.drew := (Only.refl _ _).drew
  clear hS ha1 ha2 hlv hres hax hal hq H o hbl hbt
  by_cases he : ax = al
  · subst he
    go_enter Try.func71, Try.ntmps71
    go_wp2_with fail
    refine wp_region_Q (fun w' => Only (fun _ => False) w w') (by kernel_rfl) (by kernel_rfl) (by assumption) ?_
    refine wpQ_val (v := ?_) (by rfl) ?_ ?_
    rotate_left
    · (intro w hSw; (try dsimp only at hSw); have hcc := HS.out w hSw; obtain ⟨hc1, hc2⟩ := hcc; go_simp <;> (try with_reducible rfl))
    try simp only [Act.put, List.setIfInBounds_toArray, List.set_cons_zero, List.set_cons_succ]
    refine wpQ_call (v := cI ax) (f := 48) (args := #[.int .i64 x]) (by rfl) ?_ ?_ ?_
    · (intro w; go_simp <;> (try with_reducible rfl))
    · (intro w hSw; exact (HA1.out w).mono fun _ _ ⟨he, hw⟩ => ⟨he, by rw [← hw]; exact hSw⟩)
    try simp only [Act.put, List.setIfInBounds_toArray, List.set_cons_zero, List.set_cons_succ]
    refine wpQ_val (v := ?_) (by rfl) ?_ ?_
    rotate_left
    · (intro w hSw; (try dsimp only at hSw); have hcc := HS.out w hSw; obtain ⟨hc1, hc2⟩ := hcc; go_simp <;> (try with_reducible rfl))
    try simp only [Act.put, List.setIfInBounds_toArray, List.set_cons_zero, List.set_cons_succ]
    refine wpQ_call (v := cI ax) (f := 48) (args := #[.int .i64 l]) (by rfl) ?_ ?_ ?_
    · (intro w; go_simp <;> (try with_reducible rfl))
    · (intro w hSw; exact (HA2.out w).mono fun _ _ ⟨he, hw⟩ => ⟨he, by rw [← hw]; exact hSw⟩)
    try simp only [Act.put, List.setIfInBounds_toArray, List.set_cons_zero, List.set_cons_succ]
    refine wpQ_val (v := ?_) (by rfl) ?_ ?_
    rotate_left
    · (intro w hSw; (try dsimp only at hSw); have hcc := HS.out w hSw; obtain ⟨hc1, hc2⟩ := hcc; go_simp <;> (try with_reducible rfl))
    try simp only [Act.put, List.setIfInBounds_toArray, List.set_cons_zero, List.set_cons_succ]
    refine wpQ_val (v := ?_) (by rfl) ?_ ?_
    rotate_left
    · (intro w hSw; (try dsimp only at hSw); have hcc := HS.out w hSw; obtain ⟨hc1, hc2⟩ := hcc; go_simp <;> (try with_reducible rfl))
    try simp only [Act.put, List.setIfInBounds_toArray, List.set_cons_zero, List.set_cons_succ]
    refine wpQ_skip (by rfl) ?_
    try simp only [Act.put, List.setIfInBounds_toArray, List.set_cons_zero, List.set_cons_succ]
    refine wpQ_skip (by rfl) ?_
    try simp only [Act.put, List.setIfInBounds_toArray, List.set_cons_zero, List.set_cons_succ]
    refine wpQ_skip (by rfl) ?_
    try simp only [Act.put, List.setIfInBounds_toArray, List.set_cons_zero, List.set_cons_succ]
    refine wpQ_skip (by rfl) ?_
    try simp only [Act.put, List.setIfInBounds_toArray, List.set_cons_zero, List.set_cons_succ]
    refine wpQ_val (v := ?_) (by rfl) ?_ ?_
    rotate_left
    · (intro w hSw; (try dsimp only at hSw); have hcc := HS.out w hSw; obtain ⟨hc1, hc2⟩ := hcc; go_simp <;> (try with_reducible rfl))
    try simp only [Act.put, List.setIfInBounds_toArray, List.set_cons_zero, List.set_cons_succ]
    refine wpQ_val (v := ?_) (by rfl) ?_ ?_
    rotate_left
    · (intro w hSw; (try dsimp only at hSw); have hcc := HS.out w hSw; obtain ⟨hc1, hc2⟩ := hcc; go_simp <;> (try with_reducible rfl))
    try simp only [Act.put, List.setIfInBounds_toArray, List.set_cons_zero, List.set_cons_succ]
    refine wpQuiet_nil ?_
    intro w1 O1
    go_wp2_with fail
    go_ret
    exact ⟨by first | (simp; done) | (rw [d1]; rfl) | simp [d1], O1⟩
  · have d1 : (ax == al) = false := by rw [beq_eq_false_iff_ne]; exact he
    go_enter Try.func71, Try.ntmps71
    go_wp2_with fail
    refine wp_region_Q (fun w' => Only (fun _ => False) w w') (by kernel_rfl) (by kernel_rfl) (by assumption) ?_
    refine wpQ_val (v := ?_) (by rfl) ?_ ?_
    rotate_left
    · (intro w hSw; (try dsimp only at hSw); have hcc := HS.out w hSw; obtain ⟨hc1, hc2⟩ := hcc; go_simp <;> (try with_reducible rfl))
    try simp only [Act.put, List.setIfInBounds_toArray, List.set_cons_zero, List.set_cons_succ]
    refine wpQ_call (v := cI ax) (f := 48) (args := #[.int .i64 x]) (by rfl) ?_ ?_ ?_
    · (intro w; go_simp <;> (try with_reducible rfl))
    · (intro w hSw; exact (HA1.out w).mono fun _ _ ⟨he, hw⟩ => ⟨he, by rw [← hw]; exact hSw⟩)
    try simp only [Act.put, List.setIfInBounds_toArray, List.set_cons_zero, List.set_cons_succ]
    refine wpQ_val (v := ?_) (by rfl) ?_ ?_
    rotate_left
    · (intro w hSw; (try dsimp only at hSw); have hcc := HS.out w hSw; obtain ⟨hc1, hc2⟩ := hcc; go_simp <;> (try with_reducible rfl))
    try simp only [Act.put, List.setIfInBounds_toArray, List.set_cons_zero, List.set_cons_succ]
    refine wpQ_call (v := cI al) (f := 48) (args := #[.int .i64 l]) (by rfl) ?_ ?_ ?_
    · (intro w; go_simp <;> (try with_reducible rfl))
    · (intro w hSw; exact (HA2.out w).mono fun _ _ ⟨he, hw⟩ => ⟨he, by rw [← hw]; exact hSw⟩)
    try simp only [Act.put, List.setIfInBounds_toArray, List.set_cons_zero, List.set_cons_succ]
    refine wpQ_val (v := ?_) (by rfl) ?_ ?_
    rotate_left
    · (intro w hSw; (try dsimp only at hSw); have hcc := HS.out w hSw; obtain ⟨hc1, hc2⟩ := hcc; go_simp <;> (try with_reducible rfl))
    try simp only [Act.put, List.setIfInBounds_toArray, List.set_cons_zero, List.set_cons_succ]
    refine wpQ_val (v := ?_) (by rfl) ?_ ?_
    rotate_left
    · (intro w hSw; (try dsimp only at hSw); have hcc := HS.out w hSw; obtain ⟨hc1, hc2⟩ := hcc; go_simp <;> (try with_reducible rfl))
    try simp only [Act.put, List.setIfInBounds_toArray, List.set_cons_zero, List.set_cons_succ]
    refine wpQ_val (v := ?_) (by rfl) ?_ ?_
    rotate_left
    · (intro w hSw; (try dsimp only at hSw); have hcc := HS.out w hSw; obtain ⟨hc1, hc2⟩ := hcc; go_simp <;> (try with_reducible rfl))
    try simp only [Act.put, List.setIfInBounds_toArray, List.set_cons_zero, List.set_cons_succ]
    refine wpQ_val (v := ?_) (by rfl) ?_ ?_
    rotate_left
    · (intro w hSw; (try dsimp only at hSw); have hcc := HS.out w hSw; obtain ⟨hc1, hc2⟩ := hcc; go_simp <;> (try with_reducible rfl))
    try simp only [Act.put, List.setIfInBounds_toArray, List.set_cons_zero, List.set_cons_succ]
    refine wpQ_call (v := cI q) (f := 37) (args := #[.pointer (some ⟨b, 0, none⟩), .int .i64 x]) (by rfl) ?_ ?_ ?_
    · (intro w; go_simp <;> (try with_reducible rfl))
    · (intro w hSw; exact HLv.out w hSw)
    try simp only [Act.put, List.setIfInBounds_toArray, List.set_cons_zero, List.set_cons_succ]
    refine wpQ_val (v := ?_) (by rfl) ?_ ?_
    rotate_left
    · (intro w hSw; (try dsimp only at hSw); have hcc := HS.out w hSw; obtain ⟨hc1, hc2⟩ := hcc; go_simp <;> (try with_reducible rfl))
    try simp only [Act.put, List.setIfInBounds_toArray, List.set_cons_zero, List.set_cons_succ]
    refine wpQ_val (v := ?_) (by rfl) ?_ ?_
    rotate_left
    · (intro w hSw; (try dsimp only at hSw); have hcc := HS.out w hSw; obtain ⟨hc1, hc2⟩ := hcc; go_simp <;> (try with_reducible rfl))
    try simp only [Act.put, List.setIfInBounds_toArray, List.set_cons_zero, List.set_cons_succ]
    refine wpQ_val (v := ?_) (by rfl) ?_ ?_
    rotate_left
    · (intro w hSw; (try dsimp only at hSw); have hcc := HS.out w hSw; obtain ⟨hc1, hc2⟩ := hcc; go_simp <;> (try with_reducible rfl))
    try simp only [Act.put, List.setIfInBounds_toArray, List.set_cons_zero, List.set_cons_succ]
    refine wpQuiet_nil ?_
    intro w1 O1
    go_wp2_with fail
    go_ret
    exact ⟨by first | (simp; done) | (rw [d1]; rfl) | simp [d1], O1⟩

/-- what reason leaves -/
def ReaTo (w : World) (r : Option (List Int)) (e : Ending) (w' : World) : Prop :=
  match r with
  | none => e = .returned (.tuple #[nilS, .bool false]) ∧ Only (fun _ => False) w w'
  | some c => ∃ ao cap, e = .returned (.tuple #[.slice ao c.length cap, .bool true]) ∧ w'.ownsRow 0 3 1 (.slice ao c.length cap) c.length (c.map cI) ∧ (∀ k, Value.ownBlock (.slice ao c.length cap) = some k → w.heap.size ≤ k) ∧ Only (fun _ => False) w w'

theorem keepF_filter (p : Int → Bool) (c : List Int) : keepF p c = c.filter fun x => !p x := rfl

theorem Tr.Ok.why_lt {T : Trail} (o : Ok T) (l : Int) : -1 ≤ T.why l ∧ T.why l < 2147483648 := by
  unfold Trail.why Trail.at
  split
  · unfold atomOf
    split
    · rename_i x hx
      have hm := List.mem_of_find?_eq_some hx
      have := o.rea x hm
      exact ⟨this.1, this.2.1⟩
    · simp
  · simp

set_option maxRecDepth 100000 in
set_option maxHeartbeats 3200000 in
theorem reason_any (H : TrAt w g b V T) (o : Ok T) (l : Int) (hl : InI64 l) : Calls Try.prog 49 #[.pointer (some ⟨b, 0, none⟩), .int .i64 l] w (ReaTo w (T.reasonL l)) := by
  obtain ⟨a, ha⟩ : ∃ a, Cnf.absW l = a := ⟨_, rfl⟩
  obtain ⟨p1, r, hp⟩ : ∃ p1 r, T.at a = (p1, r) := ⟨_, _, rfl⟩
  have hr : T.why l = r := by unfold Trail.why; rw [ha, hp]
  have hrr := o.why_lt l
  rw [hr] at hrr
  obtain ⟨w1, hw1⟩ : ∃ w1, (w.alloc (.cells #[.pointer (some ⟨b, 0, none⟩)] 26)).alloc (.cells #[.int .i64 l] 3) = w1 := ⟨_, rfl⟩
  obtain ⟨bt, hbt⟩ : ∃ bt, w.heap.size = bt := ⟨_, rfl⟩
  have o1 : Only (fun _ => False) w w1 := by rw [← hw1]; exact ((Only.refl _ _).alloc _).alloc _
  have h1 : w1.cell? ⟨bt, 0, none⟩ = some (.pointer (some ⟨b, 0, none⟩)) := by
    rw [← hw1, ← hbt]; exact cell_keep (cell_newE _ _ _ _ rfl) ((Only.refl (fun _ => False) _).alloc _) (fun f => f)
  have h2 : w1.cell? ⟨bt + 1, 0, none⟩ = some (cI l) := by
    rw [← hw1, ← hbt]; exact cell_newE _ _ _ _ (by simp)
  have hC : ∀ W, Only (fun _ => False) w1 W → W.cell? ⟨bt, 0, none⟩ = some (.pointer (some ⟨b, 0, none⟩)) ∧ W.cell? ⟨bt + 1, 0, none⟩ = some (cI l) := fun W oW => ⟨cell_keep h1 oW (fun f => f), cell_keep h2 oW (fun f => f)⟩
  have hat : ∀ W, Only (fun _ => False) w1 W → Calls Try.prog 18 #[.pointer (some ⟨b, 0, none⟩), .int .i64 a] W fun e w' => e = .returned (.tuple #[.int .i64 p1, .int .i64 r]) ∧ Only (fun _ => False) w1 w' := fun W oW =>
    (prop_At_any ((H.only0 o1).only0 oW) o a (by rw [← ha]; exact absW_in hl) _ hp).mono fun _ _ ⟨he, ho⟩ => ⟨he, oW.same ho⟩
  have hab := fun W : World => learn_abs_any (w := W) l a ha
  have hcl : ∀ W, Only (fun _ => False) w1 W → Calls Try.prog 15 #[.pointer (some ⟨b, 0, none⟩), .int .i64 r] W (ClaTo W (T.clauseL r)) := fun W oW => prop_Clause_any ((H.only0 o1).only0 oW) o r
  have hpr : ∀ W, Only (fun _ => False) w1 W → ∀ x, InI64 x → Calls Try.prog 71 #[.int .i64 x, .pointer (some ⟨bt + 1, 0, none⟩), .pointer (some ⟨bt, 0, none⟩)] W fun e w' => e = .returned (.bool (T.rsP l x)) ∧ Only (fun _ => False) W w' := fun W oW x hx =>
    reason1_any ((H.only0 o1).only0 oW) o (bt + 1) bt l hl (hC W oW).2 (hC W oW).1 x hx
  have hrl : T.reasonL l = if r < 0 then none else (T.clauseL r).map fun c => c.filter fun x => !T.rsP l x := by unfold Trail.reasonL; rw [hr]
  have hgood : ∀ c, T.clauseL r = some c → (∀ x ∈ c, InI64 x) ∧ c.length ≤ 65536 := by
    intro c hc
    unfold Trail.clauseL at hc
    split at hc
    · rename_i hth
      obtain rfl := Option.some.inj hc
      unfold Trail.there at hth
      simp only [Bool.and_eq_true, decide_eq_true_eq] at hth
      have hg := o.cl (k := r.toNat) (by omega)
      have hn := o.n
      have := hg.len
      have := formL_len (T.cl r.toNat)
      exact ⟨fun x hx => by have := hg.lit x ((Cnf.mem_formL _ x).1 hx); unfold InI64; omega, by omega⟩
    · cases hc
  have HAb := Lib.hid hab
  have HAt := Lib.hid hat
  have HCl := Lib.hid hcl
  have HPr := Lib.hid hpr
  have HRl := Lib.hid hrl
  have HGd := Lib.hid hgood
  have HC := Lib.hid hC
  have HO1 := Lib.hid o1
  have o0 : Only (fun _ => False) w1 w1.drew := (Only.refl _ _).drew
  have heqn := slNe
  have hmf : ∀ (fn : Fn) (first cap : Array Value) (w : World), (Instr.makeFunc fn first cap).run Try.prog w = .ok (.func fn first cap) w := fun _ _ _ _ => rfl
  clear hab hat hcl hpr hrl hgood hC o1 h1 h2 ha hp hr H o
  go_enter Try.func49, Try.ntmps49
  go_wp2_with fail
  refine wp_region_Q (fun w' => Only (fun _ => False) w1 w') (by kernel_rfl) (by kernel_rfl) (by assumption) ?_
  refine wpQ_val (v := ?_) (by rfl) ?_ ?_
  rotate_left
  · (intro w hSw; (try dsimp only at hSw); have hcc := HC.out w hSw; obtain ⟨hc1, hc2⟩ := hcc; go_simp <;> (try with_reducible rfl))
  try simp only [Act.put, List.setIfInBounds_toArray, List.set_cons_zero, List.set_cons_succ]
  refine wpQ_val (v := ?_) (by rfl) ?_ ?_
  rotate_left
  · (intro w hSw; (try dsimp only at hSw); have hcc := HC.out w hSw; obtain ⟨hc1, hc2⟩ := hcc; go_simp <;> (try with_reducible rfl))
  try simp only [Act.put, List.setIfInBounds_toArray, List.set_cons_zero, List.set_cons_succ]
  refine wpQ_call (v := cI a) (f := 48) (args := #[.int .i64 l]) (by rfl) ?_ ?_ ?_
  · (intro w; go_simp <;> (try with_reducible rfl))
  · (intro w hSw; exact (HAb.out w).mono fun _ _ ⟨he, hw⟩ => ⟨he, by rw [← hw]; exact hSw⟩)
  try simp only [Act.put, List.setIfInBounds_toArray, List.set_cons_zero, List.set_cons_succ]
  refine wpQ_call (v := .tuple #[.int .i64 p1, .int .i64 r]) (f := 18) (args := #[.pointer (some ⟨b, 0, none⟩), .int .i64 a]) (by rfl) ?_ ?_ ?_
  · (intro w; go_simp <;> (try with_reducible rfl))
  · (intro w hSw; exact HAt.out w hSw)
  try simp only [Act.put, List.setIfInBounds_toArray, List.set_cons_zero, List.set_cons_succ]
  refine wpQ_val (v := ?_) (by rfl) ?_ ?_
  rotate_left
  · (intro w hSw; (try dsimp only at hSw); have hcc := HC.out w hSw; obtain ⟨hc1, hc2⟩ := hcc; go_simp <;> (try with_reducible rfl))
  try simp only [Act.put, List.setIfInBounds_toArray, List.set_cons_zero, List.set_cons_succ]
  refine wpQ_val (v := ?_) (by rfl) ?_ ?_
  rotate_left
  · (intro w hSw; (try dsimp only at hSw); have hcc := HC.out w hSw; obtain ⟨hc1, hc2⟩ := hcc; go_simp <;> (try with_reducible rfl))
  try simp only [Act.put, List.setIfInBounds_toArray, List.set_cons_zero, List.set_cons_succ]
  refine wpQ_val (v := ?_) (by rfl) ?_ ?_
  rotate_left
  · (intro w hSw; (try dsimp only at hSw); have hcc := HC.out w hSw; obtain ⟨hc1, hc2⟩ := hcc; go_simp <;> (try with_reducible rfl))
  try simp only [Act.put, List.setIfInBounds_toArray, List.set_cons_zero, List.set_cons_succ]
  refine wpQ_val (v := ?_) (by rfl) ?_ ?_
  rotate_left
  · (intro w hSw; (try dsimp only at hSw); have hcc := HC.out w hSw; obtain ⟨hc1, hc2⟩ := hcc; go_simp <;> (try with_reducible rfl))
  try simp only [Act.put, List.setIfInBounds_toArray, List.set_cons_zero, List.set_cons_succ]
  refine wpQ_val (v := ?_) (by rfl) ?_ ?_
  rotate_left
  · (intro w hSw; (try dsimp only at hSw); have hcc := HC.out w hSw; obtain ⟨hc1, hc2⟩ := hcc; go_simp <;> (try with_reducible rfl))
  try simp only [Act.put, List.setIfInBounds_toArray, List.set_cons_zero, List.set_cons_succ]
  refine wpQuiet_nil ?_
  intro w2 O2
  have hcc2 := HC.out w2 O2
  obtain ⟨e1, e2⟩ := hcc2
  by_cases hr0 : r < 0
  · have hres : T.reasonL l = none := by rw [HRl.out, if_pos hr0]
    have HRes := Lib.hid hres
    have hfin := HO1.out.same O2
    clear hres
    go_wp2_with fail
    go_ret2
    rw [HRes.out]
    exact ⟨rfl, hfin⟩
  · have hrl := HRl.out
    rw [if_neg hr0] at hrl
    have HRl2 := Lib.hid hrl
    have hcl := HCl.out w2 O2
    have HCl2 := Lib.hid hcl
    have d0 : decide (r < 0) = false := decide_eq_false hr0
    clear hrl hcl HRl HCl
    go_wp2_with fail
    refine HCl2.out.mono ?_
    intro e w3 hq
    unfold ClaTo at hq
    cases hc : T.clauseL r with
    | none =>
      rw [hc] at hq
      obtain ⟨rfl, rfl⟩ := hq
      have hres : T.reasonL l = none := by rw [HRl2.out, hc]; rfl
      have HRes := Lib.hid hres
      have hdel := DeleteFunc_own (w := w2) (v := nilS) (xs := []) (World.ownsRow_nil _ _ _ _) (fun x hx => by cases hx) (by simp) 71 #[.pointer (some ⟨bt + 1, 0, none⟩), .pointer (some ⟨bt, 0, none⟩)] (fun x => T.rsP l x) enter_reason1 (fun x hx => by cases hx)
      have HDel := Lib.hid hdel
      have HO2 := Lib.hid (HO1.out.same O2)
      clear hdel hres hc HCl2 O2
      go_wp2_with fail
      refine HDel.out.mono ?_
      rintro e w4 ⟨ao, cap, rfl, r4, o4, b4⟩
      have hcap : ao = none ∧ cap = 0 := by
        cases ao with
        | none => exact ⟨rfl, (own_nil r4).2⟩
        | some ad =>
          rcases r4.2 with ⟨h', _⟩ | ⟨g', cap', cur, h', _⟩
          · simp at h'
          · rw [h'] at b4; simp [Value.ownBlock] at b4
      obtain ⟨rfl, rfl⟩ := hcap
      have hfin := HO2.out.same (o4.mono fun k hk => by simp [Value.ownBlock] at hk)
      clear r4 b4 o4
      go_wp2_with fail
      go_ret2
      rw [HRes.out]
      exact ⟨rfl, hfin⟩
    | some c =>
      rw [hc] at hq
      obtain ⟨ao, cap, rfl, r3, n3, o3⟩ := hq
      obtain ⟨hgr, hgl⟩ := HGd.out c hc
      have hres : T.reasonL l = some (keepF (fun x => T.rsP l x) c) := by rw [HRl2.out, hc]; rfl
      have HRes := Lib.hid hres
      have O3 := O2.same o3
      have hnn : ∀ k, Value.ownBlock (.slice (some ao) c.length cap) = some k → w1.heap.size ≤ k := fun k hk => by have := n3 k hk; have := O2.size; omega
      have hdel := DeleteFunc_own r3 hgr (by omega) 71 #[.pointer (some ⟨bt + 1, 0, none⟩), .pointer (some ⟨bt, 0, none⟩)] (fun x => T.rsP l x) enter_reason1 (fun x hx W oW => HPr.out W (O3.trans oW fun k hk => .inr (hnn k hk)) x (hgr x hx))
      have HDel := Lib.hid hdel
      have HO3 := Lib.hid (HO1.out.same O3)
      have HNn := Lib.hid hnn
      clear hdel hres hc HCl2 O2 O3 r3 n3 o3 hnn
      go_wp2_with fail
      refine HDel.out.mono ?_
      rintro e w4 ⟨ao2, cap2, rfl, r4, o4, b4⟩
      have hfin : ReaTo w (some (keepF (fun x => T.rsP l x) c)) (.returned (.tuple #[.slice ao2 (keepF (fun x => T.rsP l x) c).length cap2, .bool true])) w4 :=
        ⟨ao2, cap2, rfl, r4, fun k hk => by have := HNn.out k (by rw [← b4]; exact hk); have := HO1.out.size; omega, HO3.out.trans o4 fun k hk => .inr (by have := HNn.out k hk; have := HO1.out.size; omega)⟩
      have HFin := Lib.hid hfin
      clear r4 b4 o4 hfin
      generalize keepF (fun x => T.rsP l x) c = cc at *
      go_wp2_with fail
      go_ret2
      rw [HRes.out]
      exact HFin.out
end
end Go.Proofs.Ytjedgdamommgeaa
