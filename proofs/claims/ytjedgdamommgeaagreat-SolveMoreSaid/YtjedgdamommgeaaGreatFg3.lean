/- slices.SortStableFunc, IndexFunc, Clone and DeleteFunc at rows of notes. -/
import Derived.Test.YtjedgdamommgeaaGreatFg2
import Derived.Deep.MidRow
import Derived.Lib.SliceRun
set_option linter.unusedVariables false
namespace Go.Proofs.YtjedgdamommgeaaGreat
open Go.Shelf Go.RowKit Go.Lib Go.Sort
section
variable {w w' : World}
theorem note_agg : ∀ w, (isAgg 116).run Tryz.prog w = .ok true w := fun w => by
 unfold isAgg
 rw [Sem.run_bind, run_underlying Tryz.underlying116]
 rfl
theorem note_size : ∀ w, (Go.sizeOf 116).run Tryz.prog w = .ok 4 w := fun w => by
 have h : (Tryz.prog.info? 116).map (·.size) = some 4 := by kernel_rfl
 cases hq : Tryz.prog.info? 116 with
 | none => simp [hq] at h
 | some i =>
  have hs : i.size = 4 := by simpa [hq] using h
  simp [Go.sizeOf, typeInfo, hq, hs]
theorem note_cmp (w0 : World) (blk off size : Nat) : CmpLays Tryz.prog 129 #[] encN 4 cfN blk off size w0 := fun m os dk _ x y => worse_any x y _
theorem stable_none (v : Value) (w : World) : Calls Tryz.prog 166 #[v, .int .i64 0, .int .i64 0, .func (.func 129) #[] #[]] w fun e w' => e = .returned (.tuple #[]) ∧ w' = w := by
 go_enter Tryz.func166, Tryz.ntmps166
 go_wp2_with fail
 refine wp_loop_rounds 1 ?_
 rw [rounds_succ]
 go_wp2_with fail
 go_end0
 exact ⟨rfl, rfl⟩
theorem stable_zero (v : Value) (w : World) : Calls Tryz.prog 152 #[v, .int .i64 0, .func (.func 129) #[] #[]] w fun e w' => e = .returned (.tuple #[]) ∧ w' = w := by
 have HN := Lib.hid (stable_none v w)
 go_enter Tryz.func152, Tryz.ntmps152
 go_wp2_with fail
 refine wp_loop_rounds 1 ?_
 rw [rounds_succ]
 go_wp2_with fail
 refine HN.out.mono ?_
 rintro e w1 ⟨rfl, rfl⟩
 go_wp2_with fail
 refine wp_loop_rounds 1 ?_
 rw [rounds_succ]
 go_wp2_with fail
 go_end0
 exact ⟨rfl, rfl⟩
theorem SortStable_any {v : Value} {L : List NQ} (h : NRow w v L) (hn : L.length ≤ 1099511627776) :
  Calls Tryz.prog 128 #[v, .func (.func 129) #[] #[]] w fun e w' => e = .returned (.tuple #[]) ∧ ∃ L', L'.Perm L ∧ NRow w' v L' ∧ Only (fun k => v.ownBlock = some k) w w' := by
 by_cases h0 : L.length = 0
 ·have hx : L = [] := List.eq_nil_of_length_eq_zero h0
  subst hx
  obtain ⟨ao, cap, rfl, _, _⟩ := own_slice h
  have HZ := Lib.hid (stable_zero (.slice ao 0 cap) w)
  have HH := Lib.hid h
  clear h
  go_enter Tryz.func128, Tryz.ntmps128
  go_wp2_with fail
  refine HZ.out.mono ?_
  rintro e w1 ⟨rfl, rfl⟩
  go_wp2_with fail
  go_end0
  exact ⟨rfl, [], List.Perm.refl _, HH.out, Only.refl _ _⟩
 ·obtain ⟨g, cap, rfl, _, _⟩ := own_some h (by omega)
  have hlt := own_lt h (k := g) rfl
  have hE : SrtK 4 encN cfN w g 0 L.toArray := ⟨note_agg, note_size, note_cmp _ _ _ _, ⟨encN_len, encN_one, h.holds, hlt⟩⟩
  have key := stable_any hE rfl (by simpa using hn) (SWK.start h.holds) cap
  simp only [List.size_toArray] at key
  have HK := Lib.hid key
  have HH := Lib.hid h
  obtain ⟨n, hnn⟩ : ∃ n, L.length = n := ⟨_, rfl⟩
  have HN := Lib.hid hnn
  rw [hnn] at HK ⊢
  clear h hE key hnn h0 hn
  go_enter Tryz.func128, Tryz.ntmps128
  go_wp2_with fail
  refine HK.out.mono ?_
  rintro e w1 ⟨rfl, d', hp, m, os, rfl⟩
  go_wp2_with fail
  go_end0
  have hsz : d'.size = n := by rw [hp.size]; simpa using HN.out
  have hl : d'.toList.length = L.length := by rw [HN.out]; simpa using hsz
  refine ⟨rfl, d'.toList, by simpa [PmA] using hp, ?_, ?_⟩
  ·have e0 := HH.out
   unfold NRow at e0 ⊢
   rw [hl]
   rw [HN.out] at e0 ⊢
   unfold sortWorldK putRowK
   have h1 := own_putRowZ (w := Sort.ahead w m) (g := g) (n := n) (cap := cap) (size := 4) (e := 116) e0 (flatK encN 4 d') (by simp [hsz])
   have h2 := own_only h1 (only_grow (Only.refl (fun _ => False) _) os) (fun _ _ f => f)
   have h3 := flatN_flatK d'.toList
   simp only [Array.toArray_toList] at h3
   rw [h3] at h2
   exact h2
  ·unfold sortWorldK putRowK
   refine only_grow ?_ os
   have := (only_ahead (Only.refl (fun k => k = g) w) m).same (only_putRowZ (Sort.ahead w m) g (flatK encN 4 d'))
   exact this.mono fun i hi => by subst hi; rfl
theorem NRow.range {g n cap : Nat} {L : List NQ} (h : NRow w (.slice (some ⟨g, 0, none⟩) n cap) L) {i : Nat} (hi : i < L.length) : w.rangeAt g (i * 4) (encN (L.getD i default)) := by
 obtain ⟨ao, cap', he, _, _⟩ := own_slice h
 simp only [Value.slice.injEq] at he
 obtain ⟨-, rfl, -⟩ := he
 intro j v hv
 have hj : j < 4 := (List.getElem?_eq_some_iff.1 hv).1
 rw [h.cellAt (i * 4 + j) (by omega), flatN_get L hi hj]
 exact hv
theorem NRow.len {g n cap : Nat} {L : List NQ} (h : NRow w (.slice (some ⟨g, 0, none⟩) n cap) L) : n = L.length := by
 obtain ⟨ao, cap', he, _, _⟩ := own_slice h
 simp only [Value.slice.injEq] at he
 exact he.2.1
theorem NRow.there {g n cap : Nat} {L : List NQ} (h : NRow w (.slice (some ⟨g, 0, none⟩) n cap) L) {i : Nat} (hi : i < L.length) : w.there g (i * 4) 4 := by
 have hn := h.len
 subst hn
 intro j hj
 refine ⟨?_, h.frozenAt _⟩
 rw [h.cellAt (i * 4 + j) (by omega), flatN_get L hi hj, List.getElem?_eq_getElem (show j < (encN (L.getD i default)).length from hj)]
 rfl
theorem NRow.only {v : Value} {L : List NQ} (h : NRow w v L) {F : Nat → Prop} (ho : Only F w w') (hF : ∀ k, v.ownBlock = some k → ¬ F k) : NRow w' v L := own_only h ho hF
def setL (xs : List Value) : Nat → List Value → List Value
 | _, [] => xs
 | o, v :: r => setL (xs.set o v) (o + 1) r
theorem setL_take (vs : List Value) : ∀ (xs : List Value) (o m : Nat), m ≤ o → (setL xs o vs).take m = xs.take m := by
 induction vs with
 | nil => intro xs o m _; rfl
 | cons v r ih => intro xs o m h; rw [setL, ih _ _ _ (by omega), List.take_set_of_le h]
theorem setL_mid (vs : List Value) : ∀ (a b c : List Value), b.length = vs.length → setL (a ++ b ++ c) a.length vs = a ++ vs ++ c := by
 induction vs with
 | nil => intro a b c h; have : b = [] := List.eq_nil_of_length_eq_zero h; subst this; simp [setL]
 | cons v r ih =>
  intro a b c h
  match b, h with
  | x :: b, h =>
   rw [setL]
   have e : (a ++ x :: b ++ c).set a.length v = (a ++ [v]) ++ b ++ c := by simp []
   rw [e]
   have := ih (a ++ [v]) b c (by simpa using h)
   rw [List.length_append, List.length_singleton] at this
   rw [this]
   simp
theorem setCells_ownZ {e : TypeId} {size g n cap : Nat} (vs : List Value) : ∀ {w : World} {xs : List Value} (o : Nat), w.ownsRow 0 e size (.slice (some ⟨g, 0, none⟩) n cap) n xs → (w.setCells g o vs).ownsRow 0 e size (.slice (some ⟨g, 0, none⟩) n cap) n (setL xs o vs) := by
 induction vs with
 | nil => intro w xs o h; exact h
 | cons v r ih => intro w xs o h; exact ih (o + 1) (h.stored o v).1
theorem only_setCells (g : Nat) (vs : List Value) : ∀ (w : World) (o : Nat), Only (fun k => k = g) w (w.setCells g o vs) := by
 induction vs with
 | nil => intro w o; exact Only.refl _ _
 | cons v r ih => intro w o; exact ((Only.refl (fun k => k = g) w).setCell (p := ⟨g, o, none⟩) (.inl rfl) v).same (ih _ _)
theorem flatN_set (L : List NQ) {i : Nat} (hi : i < L.length) (x : NQ) : setL (flatN L) (i * 4) (encN x) = flatN (L.set i x) := by
 have e1 : L = L.take i ++ [L[i]] ++ L.drop (i + 1) := by simp
 have e2 : L.set i x = L.take i ++ [x] ++ L.drop (i + 1) := by rw [List.set_eq_take_append_cons_drop, if_pos hi]; simp
 rw [e2]
 conv => lhs; rw [e1]
 rw [flatN_append, flatN_append, flatN_append, flatN_append]
 have hl : (flatN (L.take i)).length = i * 4 := by rw [flatN_len, List.length_take, Nat.min_eq_left (Nat.le_of_lt hi)]
 have := setL_mid (encN x) (flatN (L.take i)) (flatN [L[i]]) (flatN (L.drop (i + 1))) rfl
 rw [hl] at this
 rw [this]
 simp [flatN]
theorem NRow.set {g n cap : Nat} {L : List NQ} (h : NRow w (.slice (some ⟨g, 0, none⟩) n cap) L) {i : Nat} (hi : i < L.length) (x : NQ) : NRow (w.setCells g (i * 4) (encN x)) (.slice (some ⟨g, 0, none⟩) n cap) (L.set i x) := by
 have hn := h.len
 subst hn
 have := setCells_ownZ (encN x) (i * 4) h
 rw [flatN_set L hi x] at this
 unfold NRow
 rw [List.length_set]
 exact this
theorem own_cutZ {e : TypeId} {size g n cap : Nat} {xs : List Value} (h : w.ownsRow 0 e size (.slice (some ⟨g, 0, none⟩) n cap) n xs) (m : Nat) (hm : m ≤ n) :
  w.ownsRow 0 e size (.slice (some ⟨g, 0, none⟩) m cap) m (xs.take (m * size)) := by
 rcases h.2 with ⟨h', _⟩ | ⟨g', cap', cur, h', hb, hg, h1, h2, h3, htake⟩
 ·simp at h'
 ·simp only [Value.slice.injEq, Option.some.injEq, Addr.mk.injEq, and_true, true_and] at h'
  obtain ⟨rfl, rfl⟩ := h'
  have hx := h.1
  have hms : m * size ≤ n * size := Nat.mul_le_mul_right _ hm
  refine ⟨by rw [List.length_take, hx]; omega, .inr ⟨g, cap, cur, rfl, Nat.zero_le _, hg, by omega, h2, h3, ?_⟩⟩
  rw [← htake, List.take_take, Nat.min_eq_left hms]
theorem flatN_take (L : List NQ) (m : Nat) (hm : m ≤ L.length) : (flatN L).take (m * 4) = flatN (L.take m) := by
 have e1 : flatN L = flatN (L.take m) ++ flatN (L.drop m) := by rw [← flatN_append, List.take_append_drop]
 rw [e1, List.take_left' (by rw [flatN_len, List.length_take, Nat.min_eq_left hm])]
end
end Go.Proofs.YtjedgdamommgeaaGreat
