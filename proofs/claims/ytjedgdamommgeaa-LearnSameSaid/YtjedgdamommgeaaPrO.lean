/- PropO PropH, in one text. -/
import Derived.Test.YtjedgdamommgeaaPrD
import Derived.Test.YtjedgdamommgeaaPrE
import Derived.Test.YtjedgdamommgeaaPrP
import Derived.Test.YtjedgdamommgeaaCnfA
/- One trail, and two, made since a world; what the exported functions of package prop make of them. -/
set_option linter.unusedVariables false
namespace Go.Proofs.Ytjedgdamommgeaa
open Go.RowKit
open Tr

namespace Tr
/-- a clause added, if it may be -/
def Trail.addX (T : Trail) (xs : List Int) : Trail :=
  match Cnf.form xs with
  | some f => if f.all T.is then T.add f else T
  | none => T
def Trail.addR (T : Trail) (xs : List Int) : Int :=
  match Cnf.form xs with
  | some f => if f.all T.is then (T.cls.length : Int) else -1
  | none => -1
def Trail.decX (T : Trail) (x : Int) : Trail := if T.is x = true ∧ T.val x = 0 then T.dec x else T
def Trail.decR (T : Trail) (x : Int) : Bool := decide (T.is x = true ∧ T.val x = 0)

theorem form_good {n : Nat} {xs f : List Int} (hr : ∀ x ∈ xs, InI64 x) (h : Cnf.form xs = some f) (hf : ∀ x ∈ f, x ≠ 0 ∧ x.natAbs ≤ n) : Up.Good n f := by
  have hm : ∀ y, y ∈ f → y ∈ xs := by
    intro y hy
    unfold Cnf.form at h
    split at h
    · cases h
    · split at h
      · cases h
      · simp at h; subst h; exact (Cnf.mem_formL xs y).1 hy
  refine ⟨hf, ?_⟩
  have hlit : ∀ x ∈ f, Cnf.Lit x := fun x hx => by
    refine ⟨hr x (hm x hx), ?_⟩
    unfold Cnf.form at h
    split at h
    · cases h
    · rename_i hw
      rw [Bool.not_eq_true, List.any_eq_false] at hw
      have := hw x (hm x hx)
      simpa using this
  unfold Cnf.form at h
  split at h
  · cases h
  · split at h
    · cases h
    · rename_i hcl
      simp at h; subst h
      have hs := Cnf.formL_strict xs
      unfold Cnf.Strict at hs
      have habs : Cnf.AbsStrict (Cnf.formL xs) := by
        unfold Cnf.AbsStrict
        rw [List.pairwise_iff_getElem] at hs ⊢
        have step : ∀ i (hi : i + 1 < (Cnf.formL xs).length), ((Cnf.formL xs)[i]).natAbs < ((Cnf.formL xs)[i + 1]).natAbs := by
          intro i hi
          have h1 := hs i (i + 1) (by omega) hi (by omega)
          have l1 := hlit _ (List.getElem_mem (show i < (Cnf.formL xs).length by omega))
          have l2 := hlit _ (List.getElem_mem hi)
          rw [Cnf.lt_iff, l1.abs, l2.abs] at h1
          rcases h1 with h1 | ⟨h1, h2⟩
          · omega
          · exfalso
            apply hcl
            unfold Cnf.clash
            rw [List.any_eq_true]
            refine ⟨i + 1, by simpa using hi, ?_⟩
            have e1 : (Cnf.formL xs).getD (i + 1) 0 = (Cnf.formL xs)[i + 1] := by simp [List.getD_eq_getElem?_getD, hi]
            have e2 : (Cnf.formL xs).getD (i + 1 - 1) 0 = (Cnf.formL xs)[i] := by simp [List.getD_eq_getElem?_getD, show i < (Cnf.formL xs).length by omega]
            rw [e1, e2, l1.wrap]
            simp
            omega
        intro i j hi hj hij
        clear hs
        obtain ⟨d, rfl⟩ : ∃ d, j = i + 1 + d := ⟨j - (i + 1), by omega⟩
        clear hij
        induction d with
        | zero => exact step i hj
        | succ d ih => exact Nat.lt_trans (ih (by omega)) (step (i + 1 + d) hj)
      unfold List.Nodup
      rw [List.pairwise_map]
      exact habs.imp fun h => Nat.ne_of_lt h

theorem is_iff {T : Trail} {x : Int} : T.is x = true ↔ x ≠ 0 ∧ x.natAbs ≤ T.n := decide_eq_true_iff
end Tr

section
variable {w : World} {g : Tag} {b : Nat} {V : TrV} {T : Trail}

theorem TrTo.quiet (H : TrAt w g b V T) {w' : World} (ho : Only (fun _ => False) w w') : TrTo w g b T w' := ⟨g, V, H.only0 ho, Agree.refl _ _, ho.mono fun _ f => f.elim⟩

theorem prop_Add_any (H : TrAt w g b V T) (I : Inv T) (hcb : T.cls.length < 2147483648) {v : Value} {xs : List Int} (hI : Ints w v xs) (hb : xs.length ≤ 17592186043904) :
    Calls Try.prog 29 #[.pointer (some ⟨b, 0, none⟩), v] w fun e w' => e = .returned (.int .i64 (T.addR xs)) ∧ TrTo w g b (T.addX xs) w' := by
  unfold Trail.addR Trail.addX
  cases hf : Cnf.form xs with
  | none =>
    exact (prop_Add_no H I.ok.n hI hb (.inl hf)).mono fun e w' ⟨he, ho⟩ => ⟨he, TrTo.quiet H ho⟩
  | some f =>
    have hm : ∀ y, y ∈ f → y ∈ xs := by
      intro y hy
      unfold Cnf.form at hf
      split at hf
      · cases hf
      · split at hf
        · cases hf
        · simp at hf; subst hf; exact (Cnf.mem_formL xs y).1 hy
    by_cases hall : f.all T.is = true
    · simp only [hall, if_true]
      refine prop_Add_yes H I hcb hI hb hf (form_good hI.range hf fun x hx => ?_)
      rw [List.all_eq_true] at hall
      exact is_iff.1 (hall x hx)
    · simp only [hall]
      refine (prop_Add_no H I.ok.n hI hb (.inr ⟨f, hf, fun x hx => hI.range x (hm x hx), ?_⟩)).mono fun e w' ⟨he, ho⟩ => ⟨he, TrTo.quiet H ho⟩
      rw [List.all_eq_true] at hall
      rw [List.any_eq_true]
      by_cases h : ∃ x ∈ f, T.is x = false
      · obtain ⟨x, hx, e⟩ := h; exact ⟨x, hx, by rw [e]; rfl⟩
      · refine absurd (fun x hx => ?_) hall
        cases e : T.is x
        · exact absurd ⟨x, hx, e⟩ h
        · rfl

theorem prop_Decide_any (H : TrAt w g b V T) (o : Ok T) (x : Int) (hx : InI64 x) :
    Calls Try.prog 31 #[.pointer (some ⟨b, 0, none⟩), .int .i64 x] w fun e w' => e = .returned (.bool (T.decR x)) ∧ TrTo w g b (T.decX x) w' := by
  unfold Trail.decR Trail.decX
  by_cases h : T.is x = true ∧ T.val x = 0
  · rw [if_pos h, decide_eq_true h]
    exact prop_Decide_yes H o x (is_iff.1 h.1) h.2
  · rw [if_neg h, decide_eq_false h]
    refine (prop_Decide_no H o x hx ?_).mono fun e w' ⟨he, hw⟩ => ⟨he, by rw [← hw]; exact TrTo.refl H⟩
    cases his : T.is x
    · exact .inl rfl
    · exact .inr fun h0 => h ⟨his, h0⟩

theorem prop_Back_any (H : TrAt w g b V T) (I : Inv T) (x : Int) (hx : InI64 x) :
    Calls Try.prog 24 #[.pointer (some ⟨b, 0, none⟩), .int .i64 x] w fun e w' => e = .returned (.tuple #[]) ∧ TrTo w g b (T.back x) w' := by
  have hs := I.shortl
  have hc := I.ok.cb
  unfold Trail.back
  split
  · rename_i h; exact prop_Back_go H I.ok (by omega) x x.toNat (by omega) h
  · rename_i h; exact prop_Back_stay H x x.toNat (by omega) h
end

/-- a trail that was made since w0; nothing older has changed -/
def One (w0 w : World) (b : Nat) (T : Trail) : Prop := ∃ g V, TrAt w g b V T ∧ (∀ k, Mine g k → w0.heap.size ≤ k) ∧ Only (fun _ => False) w0 w
/-- two of them -/
def Two (w0 w : World) (b : Nat) (T : Trail) (c : Nat) (U : Trail) : Prop := ∃ g V h X, TrAt w g b V T ∧ TrAt w h c X U ∧ (∀ k, Mine g k → ¬ Mine h k) ∧ (∀ k, Mine g k ∨ Mine h k → w0.heap.size ≤ k) ∧ Only (fun _ => False) w0 w

section
variable {w0 w w' : World} {b c : Nat} {T U : Trail}

theorem Two.symm (h : Two w0 w b T c U) : Two w0 w c U b T := by
  obtain ⟨g, V, h, X, H1, H2, hd, hm, ho⟩ := h
  exact ⟨h, X, g, V, H2, H1, fun k h1 h2 => hd k h2 h1, fun k hk => hm k hk.symm, ho⟩
theorem Two.on (h : Two w0 w b T c U) : Only (fun _ => False) w0 w := by obtain ⟨_, _, _, _, _, _, _, _, ho⟩ := h; exact ho
theorem One.on (h : One w0 w b T) : Only (fun _ => False) w0 w := by obtain ⟨_, _, _, _, ho⟩ := h; exact ho
theorem One.quiet (h : One w0 w b T) (ho : Only (fun _ => False) w w') : One w0 w' b T := by
  obtain ⟨g, V, H, hm, h0⟩ := h
  exact ⟨g, V, H.only0 ho, hm, h0.same ho⟩
theorem Two.quiet (h : Two w0 w b T c U) (ho : Only (fun _ => False) w w') : Two w0 w' b T c U := by
  obtain ⟨g, V, h, X, H1, H2, hd, hm, h0⟩ := h
  exact ⟨g, V, h, X, H1.only0 ho, H2.only0 ho, hd, hm, h0.same ho⟩

theorem mine_new {g g' : Tag} {w w' : World} {b : Nat} {V : TrV} {T' : Trail} (H : TrAt w' g' b V T') (ha : Agree w g g') {k : Nat} (hk : Mine g' k) : Mine g k ∨ (w.heap.size ≤ k ∧ k < w'.heap.size) := by
  rcases Nat.lt_or_ge k w.heap.size with c | c
  · left; unfold Mine at *; rw [← ha k c]; exact hk
  · refine .inr ⟨c, ?_⟩
    rcases Nat.lt_or_ge k w'.heap.size with d | d
    · exact d
    · exact absurd (H.fresh k d) hk

theorem One.op {g : Tag} {V : TrV} {T' : Trail} (_ : TrAt w g b V T) (hm : ∀ k, Mine g k → w0.heap.size ≤ k) (h0 : Only (fun _ => False) w0 w) (h : TrTo w g b T' w') : One w0 w' b T' := by
  obtain ⟨g', V', H', A, O⟩ := h
  refine ⟨g', V', H', fun k hk => ?_, h0.trans O fun k hk => .inr (hm k hk)⟩
  rcases mine_new H' A hk with h | ⟨h, _⟩
  · exact hm k h
  · have := h0.size; omega

theorem Two.op {g h : Tag} {V X : TrV} {T' : Trail} (H1 : TrAt w g b V T) (H2 : TrAt w h c X U) (hd : ∀ k, Mine g k → ¬ Mine h k) (hm : ∀ k, Mine g k ∨ Mine h k → w0.heap.size ≤ k) (h0 : Only (fun _ => False) w0 w) (ht : TrTo w g b T' w') : Two w0 w' b T' c U := by
  obtain ⟨g', V', H', A, O⟩ := ht
  refine ⟨g', V', h, X, H', H2.only O (fun k hk hF => hd k hF hk), fun k hk hk2 => ?_, fun k hk => ?_, h0.trans O fun k hk => .inr (hm k (.inl hk))⟩
  · rcases mine_new H' A hk with h3 | ⟨h3, _⟩
    · exact hd k h3 hk2
    · exact hk2 (H2.fresh k h3)
  · rcases hk with hk | hk
    · rcases mine_new H' A hk with h3 | ⟨h3, _⟩
      · exact hm k (.inl h3)
      · have := h0.size; omega
    · exact hm k (.inr hk)

/-- one trail: the exported functions -/
theorem one_New (w : World) (x : Int) (hx : InI64 x) (n : Nat) (hn : min (max x 0) 65536 = (n : Int)) : Calls Try.prog 10 #[.int .i64 x] w fun e w' => ∃ b, e = .returned (.pointer (some ⟨b, 0, none⟩)) ∧ One w w' b (Tr.new n) :=
  (prop_New_any w x hx n hn).mono fun e w' h => by
    obtain ⟨b, g, V, he, H, hm, ho⟩ := h
    exact ⟨b, he, g, V, H, hm, ho⟩
theorem two_New (h : One w0 w b T) (x : Int) (hx : InI64 x) (n : Nat) (hn : min (max x 0) 65536 = (n : Int)) : Calls Try.prog 10 #[.int .i64 x] w fun e w' => ∃ c, e = .returned (.pointer (some ⟨c, 0, none⟩)) ∧ Two w0 w' b T c (Tr.new n) :=
  (prop_New_any w x hx n hn).mono fun e w' h2 => by
    obtain ⟨g, V, H1, hm1, h0⟩ := h
    obtain ⟨c, h, X, he, H, hm, ho⟩ := h2
    refine ⟨c, he, g, V, h, X, H1.only0 ho, H, fun k h1 h2 => ?_, fun k hk => ?_, h0.same ho⟩
    · have h3 := hm k h2
      exact h1 (H1.fresh k h3)
    · rcases hk with hk | hk
      · exact hm1 k hk
      · have := hm k hk; have := h0.size; omega

theorem one_Add (h : One w0 w b T) (I : Inv T) (hcb : T.cls.length < 2147483648) {v : Value} {xs : List Int} (hI : Ints w v xs) (hb : xs.length ≤ 17592186043904) :
    Calls Try.prog 29 #[.pointer (some ⟨b, 0, none⟩), v] w fun e w' => e = .returned (.int .i64 (T.addR xs)) ∧ One w0 w' b (T.addX xs) := by
  obtain ⟨g, V, H, hm, h0⟩ := h
  exact (prop_Add_any H I hcb hI hb).mono fun e w' ⟨he, ht⟩ => ⟨he, One.op H hm h0 ht⟩
theorem two_Add (h : Two w0 w b T c U) (I : Inv T) (hcb : T.cls.length < 2147483648) {v : Value} {xs : List Int} (hI : Ints w v xs) (hb : xs.length ≤ 17592186043904) :
    Calls Try.prog 29 #[.pointer (some ⟨b, 0, none⟩), v] w fun e w' => e = .returned (.int .i64 (T.addR xs)) ∧ Two w0 w' b (T.addX xs) c U := by
  obtain ⟨g, V, h, X, H1, H2, hd, hm, h0⟩ := h
  exact (prop_Add_any H1 I hcb hI hb).mono fun e w' ⟨he, ht⟩ => ⟨he, Two.op H1 H2 hd hm h0 ht⟩

theorem one_Decide (h : One w0 w b T) (o : Ok T) (x : Int) (hx : InI64 x) : Calls Try.prog 31 #[.pointer (some ⟨b, 0, none⟩), .int .i64 x] w fun e w' => e = .returned (.bool (T.decR x)) ∧ One w0 w' b (T.decX x) := by
  obtain ⟨g, V, H, hm, h0⟩ := h
  exact (prop_Decide_any H o x hx).mono fun e w' ⟨he, ht⟩ => ⟨he, One.op H hm h0 ht⟩
theorem two_Decide (h : Two w0 w b T c U) (o : Ok T) (x : Int) (hx : InI64 x) : Calls Try.prog 31 #[.pointer (some ⟨b, 0, none⟩), .int .i64 x] w fun e w' => e = .returned (.bool (T.decR x)) ∧ Two w0 w' b (T.decX x) c U := by
  obtain ⟨g, V, h, X, H1, H2, hd, hm, h0⟩ := h
  exact (prop_Decide_any H1 o x hx).mono fun e w' ⟨he, ht⟩ => ⟨he, Two.op H1 H2 hd hm h0 ht⟩

theorem one_Follow (h : One w0 w b T) (I : Inv T) : Calls Try.prog 30 #[.pointer (some ⟨b, 0, none⟩)] w fun e w' => ∃ r T', e = .returned (.int .i64 r) ∧ Foll T T' r ∧ One w0 w' b T' := by
  obtain ⟨g, V, H, hm, h0⟩ := h
  exact (prop_Follow_any H I).mono fun e w' ⟨r, T', he, hf, ht⟩ => ⟨r, T', he, hf, One.op H hm h0 ht⟩
theorem two_Follow (h : Two w0 w b T c U) (I : Inv T) : Calls Try.prog 30 #[.pointer (some ⟨b, 0, none⟩)] w fun e w' => ∃ r T', e = .returned (.int .i64 r) ∧ Foll T T' r ∧ Two w0 w' b T' c U := by
  obtain ⟨g, V, h, X, H1, H2, hd, hm, h0⟩ := h
  exact (prop_Follow_any H1 I).mono fun e w' ⟨r, T', he, hf, ht⟩ => ⟨r, T', he, hf, Two.op H1 H2 hd hm h0 ht⟩

theorem one_Back (h : One w0 w b T) (I : Inv T) (x : Int) (hx : InI64 x) : Calls Try.prog 24 #[.pointer (some ⟨b, 0, none⟩), .int .i64 x] w fun e w' => e = .returned (.tuple #[]) ∧ One w0 w' b (T.back x) := by
  obtain ⟨g, V, H, hm, h0⟩ := h
  exact (prop_Back_any H I x hx).mono fun e w' ⟨he, ht⟩ => ⟨he, One.op H hm h0 ht⟩
theorem two_Back (h : Two w0 w b T c U) (I : Inv T) (x : Int) (hx : InI64 x) : Calls Try.prog 24 #[.pointer (some ⟨b, 0, none⟩), .int .i64 x] w fun e w' => e = .returned (.tuple #[]) ∧ Two w0 w' b (T.back x) c U := by
  obtain ⟨g, V, h, X, H1, H2, hd, hm, h0⟩ := h
  exact (prop_Back_any H1 I x hx).mono fun e w' ⟨he, ht⟩ => ⟨he, Two.op H1 H2 hd hm h0 ht⟩

theorem one_List (h : One w0 w b T) (o : Ok T) : Calls Try.prog 33 #[.pointer (some ⟨b, 0, none⟩)] w fun e w' => ∃ v, e = .returned v ∧ w'.ownsRow 0 3 1 v T.lits.length (T.lits.map cI) ∧ (∀ k, v.ownBlock = some k → w.heap.size ≤ k) ∧ Only (fun _ => False) w w' := by
  obtain ⟨g, V, H, hm, h0⟩ := h
  exact prop_List_any H o
theorem one_Value (h : One w0 w b T) (o : Ok T) (x : Int) (hx : InI64 x) (r : Int) (hr : T.val x = r) : Calls Try.prog 22 #[.pointer (some ⟨b, 0, none⟩), .int .i64 x] w fun e w' => e = .returned (.int .i64 r) ∧ w = w' := by
  obtain ⟨g, V, H, hm, h0⟩ := h
  exact prop_Value_any H o x hx r hr
theorem one_Level (h : One w0 w b T) : Calls Try.prog 21 #[.pointer (some ⟨b, 0, none⟩)] w fun e w' => e = .returned (cN T.levels.length) ∧ w = w' := by
  obtain ⟨g, V, H, hm, h0⟩ := h
  exact prop_Level_any H
theorem one_At (h : One w0 w b T) (o : Ok T) (x : Int) (hx : InI64 x) (r : Int × Int) (hr : T.at x = r) : Calls Try.prog 18 #[.pointer (some ⟨b, 0, none⟩), .int .i64 x] w fun e w' => e = .returned (.tuple #[.int .i64 r.1, .int .i64 r.2]) ∧ Only (fun _ => False) w w' := by
  obtain ⟨g, V, H, hm, h0⟩ := h
  exact prop_At_any H o x hx r hr
theorem Two.one (h : Two w0 w b T c U) : One w0 w b T := by
  obtain ⟨g, V, h, X, H1, H2, hd, hm, h0⟩ := h
  exact ⟨g, V, H1, fun k hk => hm k (.inl hk), h0⟩
end
end Go.Proofs.Ytjedgdamommgeaa

/- Trails to which clauses were added, decided, followed: what they hold. -/
namespace Go.Proofs.Ytjedgdamommgeaa
open Go.RowKit
open Tr

theorem ints_blk {w : World} {b : Nat} {xs : List Int} {t : TypeId} {f : Nat × Nat} (h : w.heap[b]? = some (.cells (xs.map cI).toArray t f)) (hr : ∀ x ∈ xs, InI64 x) (hl : xs.length ≤ 9223372036854775807) : Ints w (.slice (some ⟨b, 0, none⟩) xs.length xs.length) xs := by
  refine ⟨⟨_, _, rfl, Nat.le_refl _, hl⟩, fun ao len cap hv hp => ?_, hr, fun len cap hv => by simp at hv⟩
  simp only [Value.slice.injEq] at hv
  obtain ⟨rfl, rfl, rfl⟩ := hv
  refine ⟨b, 0, rfl, lt_block h, fun i hi => ?_⟩
  rw [cell_block h]
  simp [List.getD_eq_getElem?_getD, hi]
theorem ints_mk (w : World) (xs : List Int) (t : TypeId) (n : Nat) (hn : n = w.heap.size) (hr : ∀ x ∈ xs, InI64 x) (hl : xs.length ≤ 9223372036854775807) : Ints (w.alloc (.cells (xs.map cI).toArray t)) (.slice (some ⟨n, 0, none⟩) xs.length xs.length) xs := by
  subst hn
  exact ints_blk (heap_alloc_new w _) hr hl

theorem getD_rev {α : Type} (l : List α) (d : α) {i : Nat} (h : i < l.length) : l.getD (l.length - 1 - i) d = l.reverse.getD i d := by
  simp [List.getD_eq_getElem?_getD, h, show l.length - 1 - i < l.length by omega]
theorem take_snocC {α : Type} (xs : List α) (d : α) (k : Nat) (h : k < xs.length) : xs.take (k + 1) = xs.take k ++ [xs.getD k d] := by
  rw [List.take_succ_eq_append_getElem h]
  simp [List.getD_eq_getElem?_getD, h]

namespace Tr
theorem addX_form {T : Trail} {xs f : List Int} (h : Cnf.form xs = some f) (ha : ∀ x ∈ f, x ≠ 0 ∧ x.natAbs ≤ T.n) : T.addX xs = T.add f := by
  unfold Trail.addX
  rw [h]
  have : f.all T.is = true := List.all_eq_true.2 fun x hx => is_iff.2 (ha x hx)
  simp only [this, if_true]

theorem lit_of {x : Int} (h0 : x ≠ 0) (h1 : x.natAbs ≤ 65536) : Cnf.Lit x := by
  refine ⟨by unfold InI64; omega, ?_⟩
  unfold Cnf.wr Cnf.minI
  simp only [Bool.or_eq_false_iff, beq_eq_false_iff_ne]
  omega

theorem form_self {xs : List Int} (hx : ∀ x ∈ xs, x ≠ 0 ∧ x.natAbs ≤ 65536) (ha : Cnf.AbsStrict xs) : Cnf.form xs = some xs :=
  Cnf.form_some (fun x h => lit_of (hx x h).1 (hx x h).2) ha (fun _ => Iff.rfl)

theorem good_of {n : Nat} {c : List Int} (h1 : ∀ x ∈ c, x ≠ 0 ∧ x.natAbs ≤ n) (h2 : (c.map Int.natAbs).Nodup) : Up.Good n c := ⟨h1, h2⟩
/-- clauses added, one behind the other -/
def Trail.addAll (T : Trail) (css : List (List Int)) : Trail := css.foldl Trail.addX T

theorem addAll_snoc (T : Trail) (css : List (List Int)) (c : List Int) : T.addAll (css ++ [c]) = (T.addAll css).addX c := by
  unfold Trail.addAll; rw [List.foldl_append]; rfl

theorem addX_cases (T : Trail) (xs : List Int) : (∃ f, Cnf.form xs = some f ∧ (∀ x ∈ f, x ≠ 0 ∧ x.natAbs ≤ T.n) ∧ T.addX xs = T.add f) ∨ ((∀ f, Cnf.form xs = some f → ¬ ∀ x ∈ f, x ≠ 0 ∧ x.natAbs ≤ T.n) ∧ T.addX xs = T) := by
  cases hf : Cnf.form xs with
  | none => exact .inr ⟨(fun f h => by cases h), (by unfold Trail.addX; rw [hf])⟩
  | some f =>
    by_cases h : ∀ x ∈ f, x ≠ 0 ∧ x.natAbs ≤ T.n
    · exact .inl ⟨f, rfl, h, addX_form hf h⟩
    · refine .inr ⟨fun f' h' => by obtain rfl := Option.some.inj h'; exact h, ?_⟩
      unfold Trail.addX
      rw [hf]
      have : f.all T.is = false := by
        rw [← Bool.not_eq_true, List.all_eq_true]
        exact fun h2 => h fun x hx => is_iff.1 (h2 x hx)
      simp only [this]; rfl

/-- the clauses that may be, of atoms up to n -/
def Right (n : Nat) (css : List (List Int)) (f : List Int) : Prop := (∃ c ∈ css, Cnf.form c = some f) ∧ ∀ x ∈ f, x ≠ 0 ∧ x.natAbs ≤ n

/-- a trail to which these clauses were added -/
structure Has (T : Trail) (n : Nat) (css : List (List Int)) : Prop where
  inv : Inv T
  whole : T.whole
  hn : T.n = n
  fwd : ∀ f, Right n css f → ∃ d ∈ T.cls, f.Perm d
  bwd : ∀ d ∈ T.cls, ∃ f, Right n css f ∧ d.Perm f
  len : T.cls.length ≤ css.length

theorem Has.new {n : Nat} (hn : n ≤ 65536) : Has (Tr.new n) n [] :=
  ⟨Inv.new hn, (fun k hk => by simp [Tr.new] at hk), rfl, (fun f h => by obtain ⟨⟨c, hc, _⟩, _⟩ := h; cases hc), (fun d hd => by simp [Tr.new] at hd), Nat.zero_le _⟩

theorem Has.mono {T : Trail} {n : Nat} {css ds : List (List Int)} (h : Has T n css) (h1 : ∀ c, c ∈ css ↔ c ∈ ds) (h2 : css.length ≤ ds.length) : Has T n ds :=
  ⟨h.inv, h.whole, h.hn, fun f hf => h.fwd f ⟨by obtain ⟨⟨c, hc, e⟩, _⟩ := hf; exact ⟨c, (h1 c).2 hc, e⟩, hf.2⟩, fun d hd => by obtain ⟨f, hf, p⟩ := h.bwd d hd; exact ⟨f, ⟨by obtain ⟨⟨c, hc, e⟩, _⟩ := hf; exact ⟨c, (h1 c).1 hc, e⟩, hf.2⟩, p⟩, Nat.le_trans h.len h2⟩

theorem Has.add {T : Trail} {n : Nat} {css : List (List Int)} (h : Has T n css) {c : List Int} (hr : ∀ x ∈ c, InI64 x) (hb : css.length < 2147483648) : Has (T.addX c) n (css ++ [c]) := by
  have hn := h.hn
  rcases addX_cases T c with ⟨f, h1, h2, h3⟩ | ⟨h1, h2⟩
  · rw [h3]
    have hg : Up.Good T.n f := form_good hr h1 h2
    have hi := h.inv.add hg (by have := h.len; omega)
    have hgl := h.inv.ok.gl
    refine ⟨hi, fun k hk => ?_, hn, fun f' hf' => ?_, fun d hd => ?_, ?_⟩
    · show (T.gone ++ [false]).getD k true = false
      have hk : k < (T.cls ++ [f]).length := hk
      rw [List.length_append, List.length_singleton] at hk
      by_cases e : k < T.cls.length
      · rw [getD_app_l _ _ _ (by omega)]; exact h.whole k e
      · rw [getD_app_r _ _ _ (by omega), show k - T.gone.length = 0 by omega]; rfl
    · obtain ⟨⟨c', hc', e⟩, h5⟩ := hf'
      rcases List.mem_append.1 hc' with hc' | hc'
      · obtain ⟨d, hd, p⟩ := h.fwd f' ⟨⟨c', hc', e⟩, h5⟩
        exact ⟨d, List.mem_append_left _ hd, p⟩
      · simp at hc'; subst hc'
        rw [h1] at e
        obtain rfl := Option.some.inj e
        exact ⟨f, List.mem_append_right _ (by simp), List.Perm.refl _⟩
    · have hd : d ∈ T.cls ++ [f] := hd
      rcases List.mem_append.1 hd with hd | hd
      · obtain ⟨f', ⟨⟨c', hc', e⟩, h5⟩, p⟩ := h.bwd d hd
        exact ⟨f', ⟨⟨c', List.mem_append_left _ hc', e⟩, h5⟩, p⟩
      · simp at hd; subst hd
        exact ⟨d, ⟨⟨c, by simp, h1⟩, by rw [← hn]; exact h2⟩, List.Perm.refl _⟩
    · show (T.cls ++ [f]).length ≤ _
      simp; exact h.len
  · rw [h2]
    refine ⟨h.inv, h.whole, hn, fun f' hf' => ?_, fun d hd => ?_, by simp; have := h.len; omega⟩
    · obtain ⟨⟨c', hc', e⟩, h5⟩ := hf'
      rcases List.mem_append.1 hc' with hc' | hc'
      · exact h.fwd f' ⟨⟨c', hc', e⟩, h5⟩
      · simp at hc'; subst hc'
        exact absurd (by rw [hn]; exact h5) (h1 f' e)
    · obtain ⟨f', ⟨⟨c', hc', e⟩, h5⟩, p⟩ := h.bwd d hd
      exact ⟨f', ⟨⟨c', List.mem_append_left _ hc', e⟩, h5⟩, p⟩

theorem Has.like {T U : Trail} {n : Nat} {css ds : List (List Int)} (h : Has T n css) (k : Has U n ds) (hs : ∀ c ∈ css, c ∈ ds) : Like T.cls U.cls := fun d hd => by
  obtain ⟨f, ⟨⟨c, hc, e⟩, h2⟩, p⟩ := h.bwd d hd
  obtain ⟨d', hd', q⟩ := k.fwd f ⟨⟨c, hs c hc, e⟩, h2⟩
  exact ⟨d', hd', p.trans q⟩

theorem addX_ents (T : Trail) (c : List Int) : (T.addX c).ents = T.ents ∧ (T.addX c).levels = T.levels := by
  rcases addX_cases T c with ⟨f, _, _, h⟩ | ⟨_, h⟩ <;> rw [h] <;> exact ⟨rfl, rfl⟩

theorem Has.twin {T U : Trail} {n : Nat} {css ds : List (List Int)} (h : Has T n css) (k : Has U n ds) (hs : ∀ c, c ∈ css ↔ c ∈ ds) (e1 : T.ents = []) (e2 : U.ents = []) (l1 : T.levels = []) (l2 : U.levels = []) : Twin T U :=
  Twin.start h.inv k.inv h.whole k.whole (by rw [h.hn, k.hn]) (h.like k fun c hc => (hs c).1 hc) (k.like h fun c hc => (hs c).2 hc) e1 e2 l1 l2

theorem Twin.decX {T U : Trail} (W : Twin T U) (x : Int) : Twin (T.decX x) (U.decX x) ∧ U.decR x = T.decR x := by
  have h1 : U.is x = T.is x := by unfold Trail.is; rw [W.n]
  unfold Trail.decX Trail.decR
  rw [h1, W.val]
  refine ⟨?_, rfl⟩
  split
  · rename_i h; exact W.decide (is_iff.1 h.1) h.2
  · exact W

theorem Twin.at_ {T U : Trail} (W : Twin T U) (x : Int) : (U.at x).1 = (T.at x).1 := by
  have h1 := W.lev x.natAbs
  unfold Trail.lev at h1
  unfold Trail.at
  rw [W.val]
  split
  · exact h1
  · rfl

theorem Has.follow {T T' : Trail} {n : Nat} {css : List (List Int)} {r : Int} (h : Has T n css) (hf : Foll T T' r) : Has T' n css := by
  obtain ⟨i, e, _⟩ := foll_post hf h.inv
  refine ⟨i, e.whole h.whole, by rw [e.n, h.hn], fun f hr => ?_, fun d hd => ?_, by rw [e.len]; exact h.len⟩
  · obtain ⟨d, hd, p⟩ := h.fwd f hr
    obtain ⟨d', hd', q⟩ := e.like d hd
    exact ⟨d', hd', p.trans q⟩
  · obtain ⟨d', hd', q⟩ := e.like' d hd
    obtain ⟨f, hr, p⟩ := h.bwd d' hd'
    exact ⟨f, hr, q.trans p⟩

theorem Has.decX {T : Trail} {n : Nat} {css : List (List Int)} (h : Has T n css) (x : Int) : Has (T.decX x) n css := by
  unfold Trail.decX
  split
  · rename_i hx
    exact ⟨h.inv.decide (is_iff.1 hx.1) hx.2, h.whole, h.hn, h.fwd, h.bwd, h.len⟩
  · exact h

theorem Has.back {T : Trail} {n : Nat} {css : List (List Int)} (h : Has T n css) (x : Int) : Has (T.back x) n css := by
  have hi := h.inv.back x
  unfold Trail.back at hi ⊢
  split
  · rename_i hx
    rw [if_pos hx] at hi
    exact ⟨hi, h.whole, h.hn, h.fwd, h.bwd, h.len⟩
  · exact h

theorem back0 (T : Trail) : (T.back 0).levels = [] := by
  unfold Trail.back
  split
  · show T.levels.take 0 = []; rfl
  · rename_i h
    simpa using h

end Tr
end Go.Proofs.Ytjedgdamommgeaa

