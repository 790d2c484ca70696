/- Sol8 Sol9 Sol10 Sol11 Sol12 Sol13 Sol14, in one text. -/
import Derived.Test.YtjedgdamommgeaaGreatSolA
import Derived.Test.YtjedgdamommgeaaGreatLrnC
import Derived.Test.YtjedgdamommgeaaGreatShelf2
set_option linter.unusedVariables false
namespace Go.Proofs.YtjedgdamommgeaaGreat
open Go.RowKit
open Tr
theorem flatMap_snoc {α β : Type} (l : List α) (x : α) (f : α → List β) : (l ++ [x]).flatMap f = l.flatMap f ++ f x := by rw [List.flatMap_append]; simp
theorem stepCells_snoc (us : List Value) (P : List (Bool × List Int)) (h : us.length = P.length) (u : Value) (p : Bool × List Int) : stepCells (us ++ [u]) (P ++ [p]) = stepCells us P ++ [.bool p.1, u] := by
 unfold stepCells
 rw [List.zip_append h.symm]
 show (P.zip us ++ [(p, u)]).flatMap _ = _
 rw [flatMap_snoc]
theorem NoteCells.snoc {L : List Sv.Note} {xs : List Value} (h : NoteCells L xs) (x : Sv.Note) (r : Bool) : NoteCells (L ++ [x]) (xs ++ [.int .i64 x.num, .int .i64 x.size, .int .i64 x.levels, .bool r]) := by
 obtain ⟨ms, h1, rfl⟩ := h
 refine ⟨ms ++ [r], by simp [h1], ?_⟩
 rw [List.zip_append h1.symm]
 show _ = (L.zip ms ++ [(x, r)]).flatMap _
 rw [flatMap_snoc]
theorem RowZ.app {P : Program} {w : World} {g : Tag} {t : Nat × Nat} {e : TypeId} {size n : Nat} {v : Value} {xs us : List Value} {ops : Array Oper} {rest : List Oper} {o : Oper} {a : Act} {Q : Exit → Act → World → Prop} {tt : TypeId} {bytes : Nat} (T : SlT P tt e size bytes)
  (hgd : o.guard = none) (s x : Operand)
  (ho : o.op = .call { callee := .builtin .append, args := #[s, x], argTypes := #[tt, tt] })
  {gb : Nat} (hs : a.eval s = v) (hx : a.eval x = .slice (some ⟨gb, 0, none⟩) 1 1) (hul : us.length = size) (hc : ∀ j, j < us.length → w.cell? ⟨gb, j, none⟩ = us[j]?) (hu : ∀ u ∈ us, u.oneCell' = true) (h : RowZ w g t e size v n xs)
  (h63 : n + 1 ≤ 1099511627776) (hbytes : bytes ≤ 64)
  (hK : ∀ v' w', RowZ w' (Tag.put g w.heap.size w'.heap.size t) t e size v' (n + 1) (xs ++ us) → Only (fun k => g k = t) w w' → wpList P ops Q rest (a.put o.dst v') w') : wpList P ops Q (o :: rest) a w := by
 refine wpA T hgd s x ho (news := us) hs h.own hx (by omega) ?_ hu (by unfold maxLen; omega) ?_ ?_
 ·intro j x hj
  have hj' := (List.getElem?_eq_some_iff.1 hj).1
  have := hc j hj'
  rw [Go.WideShapes.add_plain, Nat.zero_add, this]; exact hj
 ·have : (n + 1) * bytes ≤ 1099511627776 * 64 := Nat.mul_le_mul h63 hbytes
  omega
 ·intro v' w' r1 r2 r3 r4
  refine hK v' w' ⟨r1, fun k hk => ?_⟩ (((Only.refl _ w).grown r2 fun k hk => .inl hk).mono fun k hk => h.tg k hk)
  rcases r3 k hk with hh | hh
  ·rw [Tag.put_old _ _ (own_lt h.own hh)]; exact h.tg _ hh
  ·exact Tag.put_new _ _ hh (own_lt r1 hk)
section
variable {w w' : World} {G G' : Tag} {b : Nat} {V : SvV} {S : Sv.St}
theorem SvAt.hne (H : SvAt w G b V S) {u : Nat × Nat} : ∀ (t : Nat × Nat), t ≠ u → t ≠ (1, 0) → ∀ k, G k = t → ¬ (G k = u ∨ k = b) := fun t h1 h2 k hk hc => by
 rcases hc with hc | rfl
 ·exact h1 (hk.symm.trans hc)
 ·exact h2 (hk.symm.trans H.tb)
theorem SvAt.hme (H : SvAt w G b V S) {u : Nat × Nat} (hu : u.1 ≠ 0) : ∀ k, (G k = u ∨ k = b) → Mine G k := fun k hk => by
 unfold Mine
 rcases hk with hk | rfl
 ·rw [hk]; exact hu
 ·rw [H.tb]; decide
theorem SvAt.steps_keep2 (H : SvAt w G b V S) {t : Nat × Nat} (ht : t ≠ (8, 0)) (ho : Only (fun k => G k = t ∨ k = b) w w') (hg : Agree w G G') {i : Nat} (hi : i < S.proof.length) :
  Ints w' (V.us.getD i nilS) (S.proof.getD i (false, [])).2 ∧ StepMine G' (V.us.getD i nilS) (S.proof.getD i (false, [])).2 := by
 obtain ⟨s1, s2⟩ := H.steps i hi
 exact ⟨s1.only' ho (fun hp k hk hc => H.hne _ (Ne.symm ht) (by decide) k (s2 hp k hk) hc), s2.agree s1 hg⟩
theorem SvAt.papp (H : SvAt w G b V S) {v' u : Value} {x : Bool} {c : List Int} {wA w5 : World} {s : Nat} (o5 : Only (fun q => G q = (7, 0)) wA w5) (hs : wA.heap.size = s) (hu : Ints wA u c) (hk : 0 < c.length → ∀ k, Value.blk u = some k → w.heap.size ≤ k ∧ k < wA.heap.size)
  (r5 : RowZ w5 (Tag.put G s w5.heap.size (7, 0)) (7, 0) 76 2 v' (S.proof.length + 1) (stepCells V.us S.proof ++ [.bool x, u])) (oA : Only (fun _ => False) w wA) :
  ∃ G5, SvAt (w5.setCell ⟨b, 8, none⟩ v') G5 b { V with vp := v', us := V.us ++ [u] } { S with proof := S.proof ++ [(x, c)] } ∧ Agree w G G5 ∧ Only (Mine G) w (w5.setCell ⟨b, 8, none⟩ v') := by
 subst hs
 obtain ⟨G5, hG5⟩ : ∃ G5 : Tag, G5 = Tag.put (Tag.put G wA.heap.size w5.heap.size (7, 0)) w.heap.size wA.heap.size (8, 0) := ⟨_, rfl⟩
 have ag : Agree w G G5 := fun k hk => by rw [hG5, Tag.put_old _ _ hk, Tag.put_old _ _ (Nat.lt_of_lt_of_le hk oA.size)]
 have o25 : Only (fun q => G q = (7, 0)) w w5 := (oA.mono fun _ f => f.elim).same o5
 have hb5 := only_block H.blk o25 (by rw [H.tb]; decide)
 have ho5 : Only (fun q => G q = (7, 0) ∨ q = b) wA (w5.setCell ⟨b, 8, none⟩ v') := (o5.mono fun q hq => .inl hq).setCell (.inl (.inr rfl)) _
 have ho : Only (fun q => G q = (7, 0) ∨ q = b) w (w5.setCell ⟨b, 8, none⟩ v') := (o25.mono fun q hq => .inl hq).setCell (.inl (.inr rfl)) _
 have r5' : RowZ w5 G5 (7, 0) 76 2 v' (S.proof.length + 1) (stepCells V.us S.proof ++ [.bool x, u]) := ⟨r5.own, fun k hk => by
  have h1 := r5.tg k hk
  rw [hG5]
  by_cases c1 : k < wA.heap.size
  ·rw [Tag.put_old _ _ c1] at h1
   by_cases c2 : k < w.heap.size
   ·rw [Tag.put_old _ _ c2, Tag.put_old _ _ c1]; exact h1
   ·have := H.fresh k (by omega)
    rw [h1] at this; cases this
  ·rw [Tag.put_far _ _ (by omega)]; exact h1⟩
 refine ⟨G5, ⟨?_, (ag _ H.lb).trans H.tb, trail_keep H.trail ho (H.hne _ (by decide) (by decide)) ag, H.heap.keep ho (H.hne _ (by decide) (by decide)) ag, H.pace.only ho (H.hne _ (by decide) (by decide) _ H.tp), (ag _ H.lp).trans H.tp, H.learnt.keep ho (H.hne _ (by decide) (by decide)) ag, H.nc, H.last.keep ho (H.hne _ (by decide) (by decide)) ag, H.ll, ?_, ?_, fun j hj => ?_, H.yb, ?_⟩, ag, ho.mono (H.hme (by decide))⟩
 ·rw [set_block hb5]; rfl
 ·show RowZ _ _ _ _ 2 v' (S.proof ++ [(x, c)]).length (stepCells (V.us ++ [u]) (S.proof ++ [(x, c)]))
  rw [stepCells_snoc _ _ H.ul, List.length_append]
  refine r5'.far ?_ v'
  show G5 b ≠ (7, 0)
  rw [ag b H.lb, H.tb]; decide
 ·show (V.us ++ [u]).length = (S.proof ++ [(x, c)]).length
  simp [H.ul]
 ·have hj : j < (S.proof ++ [(x, c)]).length := hj
  rw [List.length_append] at hj
  show Ints _ ((V.us ++ [u]).getD j nilS) ((S.proof ++ [(x, c)]).getD j (false, [])).2 ∧ StepMine _ ((V.us ++ [u]).getD j nilS) ((S.proof ++ [(x, c)]).getD j (false, [])).2
  by_cases hjl : j < S.proof.length
  ·rw [getD_app_l _ _ _ (by rw [H.ul]; exact hjl), getD_app_l _ _ _ hjl]
   exact H.steps_keep2 (by decide) ho ag hjl
  ·have e : j = S.proof.length := by simp at hj; omega
   subst e
   rw [getD_app_r _ _ _ (by rw [H.ul]; exact Nat.le_refl _), getD_app_r _ _ _ (Nat.le_refl _), H.ul, Nat.sub_self]
   refine ⟨hu.only' ho5 fun hp k hk2 hc => ?_, fun hp k hk2 => ?_⟩
   ·have h1 := hk hp k hk2
    have h2 := H.fresh k h1.1
    have := H.hme (by decide) k hc
    exact this h2
   ·have h1 := hk hp k hk2
    rw [hG5]; exact Tag.put_new _ _ h1.1 h1.2
 ·intro k hk2
  have hk3 : w5.heap.size ≤ k := by simpa [World.setCell] using hk2
  have h1 := o5.size
  rw [hG5, Tag.put_far _ _ (by omega), Tag.put_far _ _ hk3]
  exact H.fresh k (Nat.le_trans o25.size hk3)
theorem SvAt.lapp (H : SvAt w G b V S) {v' : Value} {x : Sv.Note} {wA w5 : World} {s : Nat} (o5 : Only (fun q => G q = (5, 0)) wA w5) (hs : wA.heap.size = s)
  (r5 : RowZ w5 (Tag.put G s w5.heap.size (5, 0)) (5, 0) 116 4 v' (S.learnt.length + 1) (V.ns ++ [.int .i64 x.num, .int .i64 x.size, .int .i64 x.levels, .bool false])) (oA : Only (fun _ => False) w wA) :
  ∃ G5, SvAt (w5.setCell ⟨b, 4, none⟩ v') G5 b { V with vl := v', ns := V.ns ++ [.int .i64 x.num, .int .i64 x.size, .int .i64 x.levels, .bool false] } { S with learnt := S.learnt ++ [x] } ∧ Agree w G G5 ∧ Only (Mine G) w (w5.setCell ⟨b, 4, none⟩ v') := by
 subst hs
 have ag : Agree w G (Tag.put G wA.heap.size w5.heap.size (5, 0)) := Agree.put G _ oA.size
 have o25 : Only (fun q => G q = (5, 0)) w w5 := (oA.mono fun _ f => f.elim).same o5
 have hb5 := only_block H.blk o25 (by rw [H.tb]; decide)
 have ho : Only (fun q => G q = (5, 0) ∨ q = b) w (w5.setCell ⟨b, 4, none⟩ v') := (o25.mono fun q hq => .inl hq).setCell (.inl (.inr rfl)) _
 refine ⟨_, ⟨?_, (ag _ H.lb).trans H.tb, trail_keep H.trail ho (H.hne _ (by decide) (by decide)) ag, H.heap.keep ho (H.hne _ (by decide) (by decide)) ag, H.pace.only ho (H.hne _ (by decide) (by decide) _ H.tp), (ag _ H.lp).trans H.tp, ?_, H.nc.snoc x false, H.last.keep ho (H.hne _ (by decide) (by decide)) ag, H.ll, H.proof.keep ho (H.hne _ (by decide) (by decide)) ag, H.ul, fun j hj => H.steps_keep2 (by decide) ho ag hj, H.yb, ?_⟩, ag, ho.mono (H.hme (by decide))⟩
 ·rw [set_block hb5]; rfl
 ·show RowZ _ _ _ _ 4 v' (S.learnt ++ [x]).length _
  rw [List.length_append]
  refine r5.far ?_ v'
  show Tag.put G wA.heap.size w5.heap.size (5, 0) b ≠ (5, 0)
  rw [ag b H.lb, H.tb]; decide
 ·exact (Fresh.put (w := wA) (5, 0) (H.fresh.more oA.size) o5.size).more (by simp [World.setCell])
theorem SvAt.own1 (H : SvAt w G b V S) (i : Nat) (u : Value) : Only (fun q => G q = (1, 0) ∨ q = b) w (w.setCell ⟨b, i, none⟩ u) := Only.setCell (Only.refl _ _) (.inl (.inr rfl)) _
theorem SvAt.setY (H : SvAt w G b V S) {y : Nat} (hy : 1 ≤ y ∧ y ≤ 1099511627776) : SvAt (w.setCell ⟨b, 6, none⟩ (.int .u64 (y : Int))) G b { V with y := y } S ∧ Only (Mine G) w (w.setCell ⟨b, 6, none⟩ (.int .u64 (y : Int))) := by
 have ho := H.own1 6 (.int .u64 (y : Int))
 have ag := Agree.refl w G
 refine ⟨⟨?_, H.tb, trail_keep H.trail ho (H.hne _ (by decide) (by decide)) ag, H.heap.keep ho (H.hne _ (by decide) (by decide)) ag, H.pace.only ho (H.hne _ (by decide) (by decide) _ H.tp), H.tp, H.learnt.keep ho (H.hne _ (by decide) (by decide)) ag, H.nc, H.last.keep ho (H.hne _ (by decide) (by decide)) ag, H.ll, H.proof.keep ho (H.hne _ (by decide) (by decide)) ag, H.ul, fun j hj => H.steps_keep2 (by decide) ho ag hj, hy, H.fresh.more ho.size⟩, ho.mono (H.hme (by decide))⟩
 rw [set_block H.blk]; rfl
theorem SvAt.setD (H : SvAt w G b V S) (d : Bool) : SvAt (w.setCell ⟨b, 7, none⟩ (.bool d)) G b V { S with dead := d } ∧ Only (Mine G) w (w.setCell ⟨b, 7, none⟩ (.bool d)) := by
 have ho := H.own1 7 (.bool d)
 have ag := Agree.refl w G
 refine ⟨⟨?_, H.tb, trail_keep H.trail ho (H.hne _ (by decide) (by decide)) ag, H.heap.keep ho (H.hne _ (by decide) (by decide)) ag, H.pace.only ho (H.hne _ (by decide) (by decide) _ H.tp), H.tp, H.learnt.keep ho (H.hne _ (by decide) (by decide)) ag, H.nc, H.last.keep ho (H.hne _ (by decide) (by decide)) ag, H.ll, H.proof.keep ho (H.hne _ (by decide) (by decide)) ag, H.ul, fun j hj => H.steps_keep2 (by decide) ho ag hj, H.yb, H.fresh.more ho.size⟩, ho.mono (H.hme (by decide))⟩
 rw [set_block H.blk]; rfl
theorem SvAt.setPace (H : SvAt w G b V S) {l t k : Int} (ho : Only (fun q => q = V.bp) w w') (h : PaceAt w' V.bp l t k) : SvAt w' G b V { S with left := l, turns := t, keep := k } ∧ Only (Mine G) w w' := by
 have ag := Agree.refl w G
 have hne : ∀ (t : Nat × Nat), t ≠ (4, 0) → ∀ k, G k = t → ¬ k = V.bp := fun t h1 k hk hc => by
  subst hc; exact h1 (hk.symm.trans H.tp)
 have hm : Only (Mine G) w w' := ho.mono fun q hq => by subst hq; unfold Mine; rw [H.tp]; decide
 refine ⟨⟨only_block H.blk ho (hne _ (by decide) _ H.tb), H.tb, trail_keep H.trail ho (hne _ (by decide)) ag, H.heap.keep ho (hne _ (by decide)) ag, h, H.tp, H.learnt.keep ho (hne _ (by decide)) ag, H.nc, H.last.keep ho (hne _ (by decide)) ag, H.ll, H.proof.keep ho (hne _ (by decide)) ag, H.ul, fun j hj => ?_, H.yb, H.fresh.more ho.size⟩, hm⟩
 obtain ⟨s1, s2⟩ := H.steps j hj
 exact ⟨s1.only' ho fun hp k hk hc => hne _ (by decide) k (s2 hp k hk) hc, s2⟩
theorem SvAt.off (H : SvAt w G b V S) {q : Nat} (h0 : (G q).1 = 0) (ho : Only (fun k => k = q) w w') : SvAt w' G b V S := by
 have ag := Agree.refl w G
 have hne : ∀ (t : Nat × Nat), t.1 ≠ 0 → ∀ k, G k = t → ¬ k = q := fun t h1 k hk hc => by
  subst hc; rw [hk] at h0; exact h1 h0
 refine ⟨only_block H.blk ho (hne _ (by decide) _ H.tb), H.tb, trail_keep H.trail ho (hne _ (by decide)) ag, H.heap.keep ho (hne _ (by decide)) ag, H.pace.only ho (hne _ (by decide) _ H.tp), H.tp, H.learnt.keep ho (hne _ (by decide)) ag, H.nc, H.last.keep ho (hne _ (by decide)) ag, H.ll, H.proof.keep ho (hne _ (by decide)) ag, H.ul, fun j hj => ?_, H.yb, H.fresh.more ho.size⟩
 obtain ⟨s1, s2⟩ := H.steps j hj
 exact ⟨s1.only' ho fun hp k hk hc => hne _ (by decide) k (s2 hp k hk) hc, s2⟩
end
theorem asks_on {T : Trail} {qs : List Int} {j : Nat} (hj : j < qs.length) (hv : T.val (qs.getD j 0) = 1) : Sv.asks T (qs.drop j) = Sv.asks T (qs.drop (j + 1)) := by
 rw [List.drop_eq_getElem_cons hj]
 have e : qs[j] = qs.getD j 0 := by simp [List.getD_eq_getElem?_getD, hj]
 rw [← e] at hv
 rw [Sv.asks, hv, if_neg (by decide), if_neg (by decide)]
theorem asks_neg {T : Trail} {qs : List Int} {j : Nat} (hj : j < qs.length) (hv : T.val (qs.getD j 0) = -1) : Sv.asks T (qs.drop j) = some (qs.getD j 0, true) := by
 rw [List.drop_eq_getElem_cons hj]
 have e : qs[j] = qs.getD j 0 := by simp [List.getD_eq_getElem?_getD, hj]
 rw [e, Sv.asks, hv, if_pos rfl]
theorem asks_zero {T : Trail} {qs : List Int} {j : Nat} (hj : j < qs.length) (hv : T.val (qs.getD j 0) = 0) : Sv.asks T (qs.drop j) = some (qs.getD j 0, false) := by
 rw [List.drop_eq_getElem_cons hj]
 have e : qs[j] = qs.getD j 0 := by simp [List.getD_eq_getElem?_getD, hj]
 rw [e, Sv.asks, hv, if_neg (by decide), if_pos rfl]
theorem dec_open {T : Trail} (o : Ok T) {l x : Int} (o' : Ok (T.dec l)) (h : (T.dec l).val x = 0) : T.val x = 0 ∧ x.natAbs ≠ l.natAbs := by
 have hls : (T.dec l).lits = T.lits ++ [l] := lits_put _ l (-1)
 have h1 : x ∉ (T.dec l).lits := fun hm => by have := o'.one.2 hm; omega
 have h2 : -x ∉ (T.dec l).lits := fun hm => by have := o'.neg1.2 hm; omega
 rw [hls, List.mem_append, List.mem_singleton] at h1 h2
 refine ⟨?_, fun e => ?_⟩
 ·rcases val3 T x with c | c | c
  ·exact c
  ·exact absurd (.inl (o.one.1 c)) h1
  ·exact absurd (.inl (o.neg1.1 c)) h2
 ·rcases Int.natAbs_eq_natAbs_iff.1 e with c | c
  ·exact h1 (.inr c)
  ·exact h2 (.inr (by omega))
section
variable {w w' : World} {G G' : Tag} {b : Nat} {V : SvV} {S : Sv.St}
theorem decide_ok (H : SvAt w G b V S) (I : Inv S.T) {l : Int} (hl : l ≠ 0 ∧ l.natAbs ≤ S.T.n) (hv : S.T.val l = 0) (hop : ∀ a : Nat, a < S.T.n → S.T.val ((a : Int) + 1) = 0 → V.A a ∨ a + 1 = l.natAbs) :
  Calls Tryz.prog 70 #[.pointer (some ⟨V.bt, 0, none⟩), .int .i64 l] w fun e w' => e = .returned (.bool true) ∧ SvOk w G b { S with T := S.T.dec l } w' := by
 obtain ⟨g, U, t1, t2⟩ := H.trail
 have I' : Inv (S.T.dec l) := I.decide hl hv
 refine (prop_Decide_yes t1 I.ok l hl hv).mono ?_
 rintro e w2 ⟨he, h2⟩
 obtain ⟨G2, H2, A2, O2⟩ := H.setT (T' := S.T.dec l) t1 t2 rfl h2
 refine ⟨he, G2, _, H2, fun a ha hva => ?_, A2, O2.mono fun q hq => by unfold Mine; rw [hq]; decide⟩
 obtain ⟨d1, d2⟩ := dec_open I.ok I'.ok hva
 rcases hop a ha d1 with c | c
 ·exact c
 ·exact absurd (by omega) d2
def NextTo (w : World) (G : Tag) (b : Nat) (S : Sv.St) (qs : List Int) (e : Ending) (w' : World) : Prop :=
 (∃ l, Sv.asks S.T qs = some (l, true) ∧ e = .returned (.tuple #[.int .i64 l, .bool false]) ∧ SvOk w G b S w') ∨
 (∃ l, Sv.asks S.T qs = some (l, false) ∧ e = .returned (.tuple #[.int .i64 0, .bool false]) ∧ SvOk w G b { S with T := S.T.dec l } w') ∨
 (Sv.asks S.T qs = none ∧ (∀ a : Nat, a < S.T.n → S.T.val ((a : Int) + 1) ≠ 0) ∧ e = .returned (.tuple #[.int .i64 0, .bool true]) ∧ SvOk w G b S w') ∨
 (Sv.asks S.T qs = none ∧ ∃ l, l ≠ 0 ∧ l.natAbs ≤ S.T.n ∧ S.T.val l = 0 ∧ e = .returned (.tuple #[.int .i64 0, .bool false]) ∧ SvOk w G b { S with T := S.T.dec l } w')
end
theorem slStep : SlT Tryz.prog 36 76 2 32 := SlT.mk' (z := .agg #[.bool false, nilS]) Tryz.underlying36 (by kernel_rfl) rfl (by decide)
section
variable {w w' : World} {G G' : Tag} {b : Nat} {V : SvV} {S : Sv.St}
theorem SvOk.refl (H : SvAt w G b V S) (hop : Opens V S) : SvOk w G b S w := ⟨G, V, H, hop, Agree.refl _ _, Only.refl _ _⟩
theorem SvOk.pre {S2 : Sv.St} {w1 : World} {G1 : Tag} (h : SvOk w1 G1 b S2 w') (ag : Agree w G G1) (on : Only (Mine G) w w1) : SvOk w G b S2 w' := by
 obtain ⟨G2, V2, H2, p2, A2, O2⟩ := h
 exact ⟨G2, V2, H2, p2, ag.trans A2 on.size, on.mine ag O2⟩
theorem SvOk.only0 {S2 : Sv.St} {w1 : World} (h : SvOk w G b S2 w1) (on : Only (fun _ => False) w1 w') : SvOk w G b S2 w' := by
 obtain ⟨G2, V2, H2, p2, A2, O2⟩ := h
 exact ⟨G2, V2, H2.only0 on, p2, A2, O2.same (on.mono fun _ f => f.elim)⟩
set_option maxRecDepth 100000 in
set_option maxHeartbeats 1600000 in
theorem solve_proves_any (H : SvAt w G b V S) (hop : Opens V S) {v : Value} {c : List Int} (hI : Ints w v c) (hcb : c.length ≤ 17592186043904) (hp : S.proof.length + 1 ≤ 1099511627776) :
  Calls Tryz.prog 73 #[.pointer (some ⟨b, 0, none⟩), v] w fun e w' => e = .returned (.tuple #[]) ∧ SvOk w G b { S with proof := S.proof ++ Sv.proves c } w' := by
 have hF := Form_anyR hI hcb
 unfold FormPost at hF
 unfold Sv.proves
 have HF := Lib.hid hF
 have hrg := hI.range
 clear hF hI
 cases hf : Cnf.form c with
 | none =>
  rw [hf] at HF
  have HH := Lib.hid H
  have HP := Lib.hid hop
  clear H hop
  go_enter Tryz.func73, Tryz.ntmps73
  go_wp2_with fail
  refine HF.out.mono ?_
  rintro e w1 ⟨rfl, O1⟩
  have HO1 := Lib.hid O1
  clear O1
  go_wp2_with fail
  go_end0
  refine ⟨rfl, ?_⟩
  simp only [List.append_nil]
  exact (SvOk.refl HH.out HP.out).only0 HO1.out
 | some f =>
  rw [hf] at HF
  have hfr : ∀ x ∈ f, InI64 x := by
   intro x hx
   refine hrg x ?_
   unfold Cnf.form at hf
   split at hf
   ·cases hf
   ·split at hf
    ·cases hf
    ·simp at hf; subst hf; exact (Cnf.mem_formL c x).1 hx
  have HH := Lib.hid H
  have HP := Lib.hid hop
  have HFr := Lib.hid hfr
  clear H hop hfr
  go_enter Tryz.func73, Tryz.ntmps73
  go_wp2_with fail
  refine HF.out.mono ?_
  rintro e w1 ⟨v1, rfl, R1, N1, O1⟩
  have H1 := HH.out.only0 O1
  have q8 := H1.f8
  have f8 := H1.free 8
  obtain ⟨ap, cp, hvp, -, -⟩ := own_slice H1.proof.own
  have hrow := H1.proof
  rw [hvp] at q8 hrow
  obtain ⟨af, cf, rfl, -, -⟩ := own_slice R1
  have hnm : 0 < f.length → ∀ k, Value.blk (.slice af f.length cf) = some k → w.heap.size ≤ k ∧ k < w1.heap.size := fun hp k hk => by
   obtain ⟨q, cq, hq, -, -⟩ := own_some R1 hp
   simp only [Value.slice.injEq] at hq
   obtain ⟨rfl, -, -⟩ := hq
   simp [Value.blk] at hk
   subst hk
   exact ⟨N1 _ rfl, own_lt R1 rfl⟩
  have hI1 : Ints w1 (.slice af f.length cf) f := Ints.of_own R1 HFr.out
  obtain ⟨w2, hw2⟩ : ∃ w2, w1.alloc (.cells #[.bool false, .slice af f.length cf] 76) = w2 := ⟨_, rfl⟩
  have O2 : Only (fun _ => False) w1 w2 := by rw [← hw2]; exact (Only.refl _ _).alloc _
  have hc0 : w2.cell? ⟨w1.heap.size, 0, none⟩ = some (.bool false) := by rw [← hw2, cell_block (heap_alloc_new _ _)]; rfl
  have hc1 : w2.cell? ⟨w1.heap.size, 1, none⟩ = some (.slice af f.length cf) := by rw [← hw2, cell_block (heap_alloc_new _ _)]; rfl
  have hrow2 := hrow.only O2 (fun _ _ f => f)
  have hfin : ∀ v' w5, RowZ w5 (Tag.put G w2.heap.size w5.heap.size (7, 0)) (7, 0) 76 2 v' (S.proof.length + 1) (stepCells V.us S.proof ++ [.bool false, .slice af f.length cf]) → Only (fun k => G k = (7, 0)) w2 w5 → w5.frozen? ⟨b, 8, none⟩ = false ∧ (∃ u, w5.cell? ⟨b, 8, none⟩ = some u) ∧ SvOk w G b { S with proof := S.proof ++ [(false, f)] } (w5.setCell ⟨b, 8, none⟩ v') := by
   intro v' w5 r5 o5
   obtain ⟨G5, H5, A5, O5⟩ := HH.out.papp o5 rfl (hI1.only0 O2) (fun hp k hk => ⟨(hnm hp k hk).1, Nat.lt_of_lt_of_le (hnm hp k hk).2 O2.size⟩) r5 (O1.same O2)
   have hq := only_block (only_block H1.blk O2 (fun f => f)) o5 (by rw [H1.tb]; decide)
   exact ⟨free_block hq 8, ⟨_, by rw [cell_block hq]; rfl⟩, G5, _, H5, HP.out, A5, O5⟩
  have HFin := Lib.hid hfin
  have HRow := Lib.hid hrow2
  clear hfin hrow hrow2 H1 R1 N1 hI1 hnm O2 hvp
  go_wp2_with (at_builtin; go_must (refine RowZ.app (us := [.bool false, .slice af f.length cf]) slStep rfl (.tmp 16) (.tmp 19) rfl rfl rfl rfl ?hc ?hu HRow.out hp (by decide) ?hK))
  case hc => intro j hj; match j, hj with | 0, _ => exact hc0 | 1, _ => exact hc1
  case hu => intro u hu; simp at hu; rcases hu with rfl | rfl <;> rfl
  case hK =>
   intro v' w5 r5 o5
   obtain ⟨a5, c5, rfl, -, -⟩ := own_slice r5.own
   obtain ⟨g8, ⟨u8, q8'⟩, hok⟩ := HFin.out _ w5 r5 o5
   have HOk := Lib.hid hok
   clear hok r5 o5
   go_wp2_with fail
   go_end0
   exact ⟨rfl, HOk.out⟩
end
section
variable {w w' : World} {G G' : Tag} {b : Nat} {V : SvV} {S : Sv.St}
theorem trail_value (H : SvAt w G b V S) (o : Ok S.T) (x : Int) (hx : InI64 x) (r : Int) (hr : S.T.val x = r) :
  Calls Tryz.prog 69 #[.pointer (some ⟨V.bt, 0, none⟩), .int .i64 x] w fun e w' => e = .returned (.int .i64 r) ∧ w = w' := by
 obtain ⟨g, U, t1, t2⟩ := H.trail
 exact prop_Value_any t1 o x hx r hr
set_option maxRecDepth 100000 in
set_option maxHeartbeats 3200000 in
theorem solve_next_any (H : SvAt w G b V S) (I : Inv S.T) (hop : Opens V S) {v : Value} {qs : List Int} (hI : Ints w v qs) (hqb : qs.length ≤ 1099511627776) (has : ∀ a ∈ qs, a ≠ 0 ∧ a.natAbs ≤ S.T.n) :
  Calls Tryz.prog 40 #[.pointer (some ⟨b, 0, none⟩), v] w (NextTo w G b S qs) := by
 obtain ⟨ai, ci, rfl, -, -⟩ := hI.shape
 have q1 := H.f1
 have hn := I.ok.n
 have hV := fun x hx r hr => trail_value H I.ok x hx r hr
 have hD : ∀ l : Int, (l ≠ 0 ∧ l.natAbs ≤ S.T.n) → S.T.val l = 0 → Calls Tryz.prog 70 #[.pointer (some ⟨V.bt, 0, none⟩), .int .i64 l] w fun e w' => e = .returned (.bool true) ∧ SvOk w G b { S with T := S.T.dec l } w' := fun l h1 h2 => decide_ok H I h1 h2 fun a ha hv => .inl (hop a ha hv)
 have hOpen := solve_open_any H I.ok hop
 have hok := SvOk.refl H hop
 obtain ⟨bt, hbt⟩ : ∃ bt, V.bt = bt := ⟨_, rfl⟩
 rw [hbt] at q1 hV hD
 have HV := Lib.hid hV
 have HD := Lib.hid hD
 have HOpen := Lib.hid hOpen
 have HOk := Lib.hid hok
 have HI := Lib.hid hI
 have HInv := Lib.hid I
 have HAs := Lib.hid has
 clear H I hop hI hV hD hOpen hok hbt has
 go_enter Tryz.func40, Tryz.ntmps40
 go_wp2_with fail
 go_loopw [11] (fun v wr => w = wr ∧ ∃ j : Nat, v = .int .i64 j ∧ j ≤ qs.length ∧ Sv.asks S.T qs = Sv.asks S.T (qs.drop j)) (fun v _ => qs.length - (intOf v).toNat)
 case atStart => exact ⟨rfl, 0, rfl, Nat.zero_le _, rfl⟩
 case round =>
  obtain ⟨rfl, j, rfl, hj, hA⟩ := hrel
  have HA := Lib.hid hA
  clear hA
  by_cases cj : j < qs.length
  ·obtain ⟨bl, ol, rfl, _, hcs⟩ := HI.out.cells _ _ _ rfl (by omega)
   have qx := hcs j cj
   have hx := HI.out.range' j
   have hxs := HAs.out _ (getD_mem' 0 cj)
   obtain ⟨x, hxe⟩ : ∃ x, qs.getD j 0 = x := ⟨_, rfl⟩
   obtain ⟨r, hr⟩ : ∃ r, S.T.val x = r := ⟨_, rfl⟩
   have h3 := val3 S.T x
   have HXe := Lib.hid hxe
   rw [hxe] at qx hx hxs
   rw [hr] at h3
   have HVx := Lib.hid (HV.out x hx r hr)
   have HR := Lib.hid hr
   have HXs := Lib.hid hxs
   have ewj : IntKind.i64.wrap ((j : Int) + 1) = ((j + 1 : Nat) : Int) := by rw [IntWalk.i64_in _ (by omega)]; rfl
   clear hcs hxe hr hxs
   by_cases c1 : r = -1
   ·subst c1
    clear h3
    go_wp2_with fail
    refine HVx.out.mono ?_
    rintro e w1 ⟨rfl, rfl⟩
    go_wp2_with fail
    go_ret2
    refine .inl ⟨x, ?_, rfl, HOk.out⟩
    rw [HA.out, asks_neg cj (by rw [HXe.out, HR.out]), HXe.out]
   ·by_cases c0 : r = 0
    ·subst c0
     clear h3 c1
     go_wp2_with fail
     refine HVx.out.mono ?_
     rintro e w1 ⟨rfl, rfl⟩
     go_wp2_with fail
     refine (HD.out x HXs.out HR.out).mono ?_
     rintro e w2 ⟨rfl, hok2⟩
     have HOk2 := Lib.hid hok2
     clear hok2
     go_wp2_with fail
     go_ret2
     refine .inr (.inl ⟨x, ?_, rfl, HOk2.out⟩)
     rw [HA.out, asks_zero cj (by rw [HXe.out, HR.out]), HXe.out]
    ·have hr1 : r = 1 := by omega
     subst hr1
     clear h3 c1 c0
     go_wp2_with fail
     refine HVx.out.mono ?_
     rintro e w1 ⟨rfl, rfl⟩
     go_wp2_with fail
     go_roundw
     case rel => exact ⟨by first | rfl | trivial, j + 1, by first | rfl | go_num, by omega, by rw [HA.out, asks_on cj (by rw [HXe.out, HR.out])]⟩
     case measure => simp [intOf] <;> omega
  ·have hjl : j = qs.length := by omega
   subst hjl
   have hA := HA.out
   rw [List.drop_length] at hA
   have hA : Sv.asks S.T qs = none := hA
   have HA2 := Lib.hid hA
   clear hA HA
   go_wp2_with fail
   refine HOpen.out.mono ?_
   rintro e w1 ⟨l, rfl, hl, G1, V1, H1, p1, A1, O1⟩
   rcases hl with ⟨rfl, hall⟩ | ⟨h0, hln, hv⟩
   ·have hok2 : SvOk _ G b S w1 := ⟨G1, V1, H1, fun a ha hv => absurd hv (hall a ha), A1, O1⟩
    have HOk2 := Lib.hid hok2
    have HAll := Lib.hid hall
    clear hok2 hall H1 p1 A1 O1
    go_wp2_with fail
    go_ret2
    exact .inr (.inr (.inl ⟨HA2.out, HAll.out, rfl, HOk2.out⟩))
   ·have q1' := H1.f1
    have hd := (decide_ok H1 HInv.out ⟨h0, hln⟩ hv p1).mono (R' := fun e w' => e = .returned (.bool true) ∧ SvOk _ G b { S with T := S.T.dec l } w') (fun e w' h => ⟨h.1, h.2.pre A1 O1⟩)
    have HD2 := Lib.hid hd
    have dl : (l == 0) = false := beq_eq_false_iff_ne.2 h0
    have HL := Lib.hid (show l ≠ 0 ∧ l.natAbs ≤ S.T.n ∧ S.T.val l = 0 from ⟨h0, hln, hv⟩)
    clear hd H1 p1 A1 O1 h0 hln hv
    go_wp2_with fail
    refine HD2.out.mono ?_
    rintro e w2 ⟨rfl, hok2⟩
    have HOk2 := Lib.hid hok2
    clear hok2
    go_wp2_with fail
    go_ret2
    exact .inr (.inr (.inr ⟨HA2.out, l, HL.out.1, HL.out.2.1, HL.out.2.2, rfl, HOk2.out⟩))
end
theorem infoBool : (Tryz.prog.info? 4).map (fun i => (i.zero, i.size, i.bytes)) = some (some (.bool false), 1, 1) := by kernel_rfl
def modelTo (T : Trail) (j : Nat) : List Bool := (List.range T.n).map fun (i : Nat) => if i < j then decide (0 < T.val ((i : Int) + 1)) else false
theorem modelTo_len (T : Trail) (j : Nat) : (modelTo T j).length = T.n := by simp [modelTo]
theorem modelTo_zero (T : Trail) : modelTo T 0 = List.replicate T.n false := by
 refine List.ext_getElem (by simp [modelTo]) fun i h1 h2 => ?_
 simp [modelTo]
theorem modelTo_all (T : Trail) : modelTo T T.n = Sv.modelL T := by
 refine List.ext_getElem (by simp [modelTo, Sv.modelL]) fun i h1 h2 => ?_
 rw [modelTo_len] at h1
 simp only [modelTo, Sv.modelL, List.getElem_map, List.getElem_range]
 rw [if_pos h1]
theorem modelTo_set (T : Trail) {j : Nat} (hj : j < T.n) : (modelTo T j).set j (decide (0 < T.val ((j : Int) + 1))) = modelTo T (j + 1) := by
 refine List.ext_getElem (by simp [modelTo]) fun i h1 h2 => ?_
 rw [List.getElem_set]
 simp only [modelTo, List.getElem_map, List.getElem_range]
 by_cases e : j = i
 ·subst e; rw [if_pos rfl, if_pos (by omega)]
 ·rw [if_neg e]
  by_cases c : i < j
  ·rw [if_pos c, if_pos (by omega)]
  ·rw [if_neg c, if_neg (by omega)]
section
variable {w w' : World} {G G' : Tag} {b : Nat} {V : SvV} {S : Sv.St}
set_option maxRecDepth 100000 in
set_option maxHeartbeats 3200000 in
theorem solve_model_any (H : SvAt w G b V S) (o : Ok S.T) : Calls Tryz.prog 42 #[.pointer (some ⟨b, 0, none⟩)] w fun e w' => ∃ v, e = .returned v ∧ w'.ownsRow 0 4 1 v (Sv.modelL S.T).length ((Sv.modelL S.T).map Value.bool) ∧ (∀ k, v.ownBlock = some k → w.heap.size ≤ k) ∧ Only (fun _ => False) w w' := by
 have q0 := H.f0
 have hn := o.n
 have hml : (Sv.modelL S.T).length = S.T.n := by simp [Sv.modelL]
 obtain ⟨T, hT⟩ : ∃ T, S.T = T := ⟨_, rfl⟩
 rw [hT] at q0 hn hml ⊢
 obtain ⟨n, hnn⟩ : ∃ n, T.n = n := ⟨_, rfl⟩
 rw [hnn] at q0 hn hml
 have hval : ∀ W, Only (fun _ => False) w W → ∃ bt, W.cell? ⟨b, 1, none⟩ = some (.pointer (some ⟨bt, 0, none⟩)) ∧ ∀ x, InI64 x → ∀ r, T.val x = r → Calls Tryz.prog 69 #[.pointer (some ⟨bt, 0, none⟩), .int .i64 x] W fun e w' => e = .returned (.int .i64 r) ∧ W = w' := fun W hW => ⟨V.bt, (H.only0 hW).f1, fun x hx r hr => trail_value (H.only0 hW) o x hx r (by rw [hT]; exact hr)⟩
 have HVal := Lib.hid hval
 obtain ⟨B, hB⟩ : ∃ B, w.heap.size = B := ⟨_, rfl⟩
 have HBe := Lib.hid hB
 have HT := Lib.hid hT
 have HN := Lib.hid hnn
 have HM := Lib.hid hml
 clear H o hval hT hnn hml
 rw [HM.out]
 go_enter Tryz.func42, Tryz.ntmps42
 go_wp2_with (at_make; go_must (refine wpM Tryz.underlying28 infoBool rfl rfl _ _ rfl n rfl rfl rfl rfl (by omega) (by omega) ?_))
 intro w1 r1 O1 s1
 try rw [hB] at r1
 try rw [hB] at s1
 have hst : w1.ownsRow 0 4 1 (.slice (some ⟨B, 0, none⟩) n n) n ((modelTo T 0).map Value.bool) := by
  rw [modelTo_zero, HN.out, List.map_replicate]; exact r1
 have HSt := Lib.hid hst
 have HO1 := Lib.hid O1
 clear hst r1 O1
 go_wp2_with fail
 go_loopw [12] (fun v wr => ∃ j : Nat, v = .int .i64 j ∧ j ≤ n ∧ wr.ownsRow 0 4 1 (.slice (some ⟨B, 0, none⟩) n n) n ((modelTo T j).map Value.bool) ∧ Only (fun _ => False) w wr) (fun v _ => n - (intOf v).toNat)
 case atStart => exact ⟨0, rfl, Nat.zero_le _, HSt.out, HO1.out⟩
 case round =>
  clear HSt HO1
  obtain ⟨j, rfl, hj, hr, hO⟩ := hrel
  have HR := Lib.hid hr
  have HO := Lib.hid hO
  by_cases cj : j < n
  ·obtain ⟨bt, q1, hv⟩ := HVal.out wr hO
   obtain ⟨r, hr0⟩ : ∃ r, T.val ((j : Int) + 1) = r := ⟨_, rfl⟩
   have HV := Lib.hid (hv _ (show InI64 ((j : Int) + 1) by unfold InI64; omega) r hr0)
   have kc : wr.cell? ⟨B, j, none⟩ = some (((modelTo T j).map Value.bool)[j]'(by rw [List.length_map, modelTo_len, HN.out]; exact cj)) := by
    rw [hr.cellAt j (by omega)]; exact List.getElem?_eq_getElem _
   have kf := hr.frozenAt j
   obtain ⟨u, hu⟩ : ∃ u, (((modelTo T j).map Value.bool)[j]'(by rw [List.length_map, modelTo_len, HN.out]; exact cj)) = u := ⟨_, rfl⟩
   rw [hu] at kc
   have ewj : IntKind.i64.wrap ((j : Int) + 1) = ((j + 1 : Nat) : Int) := by rw [IntWalk.i64_in _ (by omega)]; rfl
   have hnew : (wr.setCell ⟨B, j, none⟩ (.bool (decide (r > 0)))).ownsRow 0 4 1 (.slice (some ⟨B, 0, none⟩) n n) n ((modelTo T (j + 1)).map Value.bool) ∧ Only (fun _ => False) w (wr.setCell ⟨B, j, none⟩ (.bool (decide (r > 0)))) := by
    refine ⟨?_, hO.setCell (.inr (Nat.le_of_eq HBe.out)) _⟩
    have := (hr.stored j (.bool (decide (r > 0)))).1
    rw [← modelTo_set T (by rw [HN.out]; exact cj), hr0, List.map_set]
    simpa using this
   have HNew := Lib.hid hnew
   have ewj2 : IntKind.i64.wrap ((j : Int) + 1) = (j : Int) + 1 := IntWalk.i64_in _ (by omega)
   clear hr hO hv hr0 hu hnew ewj
   go_wp2_with fail
   refine HV.out.mono ?_
   rintro e w2 ⟨rfl, rfl⟩
   obtain ⟨w4, hw4⟩ : ∃ w4, wr.setCell ⟨B, j, none⟩ (.bool (decide (r > 0))) = w4 := ⟨_, rfl⟩
   rw [hw4] at HNew
   go_wp2_with fail
   go_roundw
   case rel => exact ⟨j + 1, by first | rfl | go_num, by omega, HNew.out.1, HNew.out.2⟩
   case measure => simp [intOf] <;> omega
  ·have hjn : j = n := by omega
   subst hjn
   clear hr hO
   go_wp2_with fail
   go_ret
   refine ⟨_, rfl, ?_, fun k hk => ?_, HO.out⟩
   ·have := HR.out
    rw [← HN.out, modelTo_all, HN.out] at this
    exact this
   ·simp [Value.ownBlock] at hk; rw [← hk]; exact Nat.le_of_eq HBe.out
end
theorem whyFold_sub (T : Trail) : ∀ (l : List Int) (st : List Int × List Int), ∀ x ∈ (l.foldl T.whyStep st).2, x ∈ st.2 ∨ x ∈ l
 | [], st, x, h => .inl h
 | y :: l, st, x, h => by
  rcases whyFold_sub T l (T.whyStep st y) x h with h1 | h1
  ·unfold Trail.whyStep at h1
   split at h1
   ·exact .inl h1
   ·split at h1
    ·rcases List.mem_append.1 h1 with h2 | h2
     ·exact .inl h2
     ·rw [List.mem_singleton] at h2; exact .inr (by simp [h2])
    ·exact .inl h1
  ·exact .inr (List.mem_cons_of_mem _ h1)
theorem whyL_sub (T : Trail) (y : Int) : ∀ x ∈ T.whyL y, x ∈ T.lits := by
 intro x hx
 unfold Trail.whyL at hx
 split at hx
 ·cases hx
 ·have hx := (List.mergeSort_perm _ _).mem_iff.1 hx
  unfold Trail.whyTo at hx
  rcases whyFold_sub T _ _ x hx with h | h
  ·cases h
  ·exact List.mem_reverse.1 h
section
variable {w w' : World} {G G' : Tag} {b : Nat} {V : SvV} {S : Sv.St}
theorem Contains_ints {v : Value} {xs : List Int} (hI : Ints w v xs) (x : Int) (r : Bool) (hr : xs.contains x = r) :
  Calls Tryz.prog 53 #[v, .int .i64 x] w fun e w' => e = .returned (.bool r) ∧ w = w' := by
 subst hr
 obtain ⟨ao, cap, rfl, h1, h2⟩ := hI.shape
 by_cases h0 : xs.length = 0
 ·have hx : xs = [] := List.eq_nil_of_length_eq_zero h0
  subst hx
  exact (Tryz.slices_Contains_int_empty ao cap x w).mono fun e w' ⟨he, hw⟩ => ⟨by rw [he]; rfl, hw.symm⟩
 ·obtain ⟨b, off, rfl, _, hc⟩ := hI.cells _ _ _ rfl (by omega)
  refine (Tryz.slices_Contains_int b off xs.length cap xs x w (Nat.le_refl _) (by omega) hc).mono fun e w' ⟨he, hw⟩ => ⟨?_, hw.symm⟩
  rw [he, List.take_of_length_le (Nat.le_refl _)]
theorem coreTo_snoc (l : Int) (why : List Int) (a : Int) : ∀ (qs out : List Int), Sv.coreTo l why (qs ++ [a]) out = if (a == l || why.contains a) && !(Sv.coreTo l why qs out).contains a then Sv.coreTo l why qs out ++ [a] else Sv.coreTo l why qs out
 | [], out => rfl
 | x :: r, out => by rw [List.cons_append, Sv.coreTo, coreTo_snoc l why a r, Sv.coreTo]
def CoreTo (w : World) (G : Tag) (b : Nat) (S : Sv.St) (L : List Int) (e : Ending) (w' : World) : Prop :=
 ∃ v, e = .returned v ∧ w'.ownsRow 0 3 1 v L.length (L.map cI) ∧ (∀ k, v.ownBlock = some k → w.heap.size ≤ k) ∧ SvOk w G b { S with proof := S.proof ++ Sv.proves (L.map fun x => -x) } w'
structure CoreAt (w : World) (L : List Int) (vo vc : Value) (g : Tag) (wr : World) : Prop where
 out : Row wr g (1, 0) 3 vo (L.map cI)
 neg : Row wr g (2, 0) 3 vc ((L.map fun x => -x).map cI)
 fr : Fresh wr g
 new : ∀ k, (g k).1 ≠ 0 → w.heap.size ≤ k
 on : Only (fun _ => False) w wr
theorem CoreAt.alloc {L : List Int} {vo vc : Value} {g : Tag} {wr : World} (h : CoreAt w L vo vc g wr) (o : Obj) : CoreAt w L vo vc g (wr.alloc o) :=
 ⟨h.out.alloc o, h.neg.alloc o, h.fr.more ((Only.refl (fun _ => False) wr).alloc o).size, h.new, h.on.alloc o⟩
structure CoreHalf (w : World) (L : List Int) (a : Int) (vo vc : Value) (g : Tag) (wr : World) : Prop where
 out : Row wr g (1, 0) 3 vo ((L ++ [a]).map cI)
 neg : Row wr g (2, 0) 3 vc ((L.map fun x => -x).map cI)
 fr : Fresh wr g
 new : ∀ k, (g k).1 ≠ 0 → w.heap.size ≤ k
 on : Only (fun _ => False) w wr
theorem CoreHalf.alloc {L : List Int} {a : Int} {vo vc : Value} {g : Tag} {wr : World} (h : CoreHalf w L a vo vc g wr) (o : Obj) : CoreHalf w L a vo vc g (wr.alloc o) :=
 ⟨h.out.alloc o, h.neg.alloc o, h.fr.more ((Only.refl (fun _ => False) wr).alloc o).size, h.new, h.on.alloc o⟩
theorem CoreAt.half {L : List Int} {a : Int} {vo vc v' : Value} {g : Tag} {wr w5 : World} (h : CoreAt w L vo vc g wr) {s : Nat} (hs : wr.heap.size = s) (r5 : Row w5 (Tag.put g s w5.heap.size (1, 0)) (1, 0) 3 v' (L.map cI ++ [cI a])) (o5 : Only (fun k => g k = (1, 0)) wr w5) : ∃ g', CoreHalf w L a v' vc g' w5 := by
 subst hs
 have ag := Agree.put (w := wr) g (hi := w5.heap.size) (1, 0) (Nat.le_refl wr.heap.size)
 refine ⟨_, by simpa using r5, h.neg.keep o5 (fun k hk => by rw [hk]; decide) ag, h.fr.put _ o5.size, fun k hk => ?_, h.on.trans o5 fun k hk => .inr (h.new k (by rw [hk]; decide))⟩
 by_cases c : k < wr.heap.size
 ·rw [ag k c] at hk; exact h.new k hk
 ·exact Nat.le_trans h.on.size (by omega)
theorem CoreHalf.whole {L : List Int} {a : Int} {vo vc v' : Value} {g : Tag} {wr w5 : World} (h : CoreHalf w L a vo vc g wr) {s : Nat} (hs : wr.heap.size = s) (r5 : Row w5 (Tag.put g s w5.heap.size (2, 0)) (2, 0) 3 v' ((L.map fun x => -x).map cI ++ [cI (-a)])) (o5 : Only (fun k => g k = (2, 0)) wr w5) : ∃ g', CoreAt w (L ++ [a]) vo v' g' w5 := by
 subst hs
 have ag := Agree.put (w := wr) g (hi := w5.heap.size) (2, 0) (Nat.le_refl wr.heap.size)
 refine ⟨_, h.out.keep o5 (fun k hk => by rw [hk]; decide) ag, by simpa using r5, h.fr.put _ o5.size, fun k hk => ?_, h.on.trans o5 fun k hk => .inr (h.new k (by rw [hk]; decide))⟩
 by_cases c : k < wr.heap.size
 ·rw [ag k c] at hk; exact h.new k hk
 ·exact Nat.le_trans h.on.size (by omega)
set_option maxRecDepth 100000 in
set_option maxHeartbeats 6400000 in
theorem solve_core_any (H : SvAt w G b V S) (I : Inv S.T) (hop : Opens V S) {v : Value} {qs : List Int} (hI : Ints w v qs) (hqb : qs.length ≤ 1099511627) (has : ∀ a ∈ qs, a ≠ 0 ∧ a.natAbs ≤ S.T.n) (hp : S.proof.length + 1 ≤ 1099511627776) (l : Int) (hl : l ≠ 0 ∧ l.natAbs ≤ S.T.n) :
  Calls Tryz.prog 41 #[.pointer (some ⟨b, 0, none⟩), v, .int .i64 l] w (CoreTo w G b S (Sv.coreL qs l (S.T.whyL (-l)))) := by
 obtain ⟨av, cv, rfl, -, -⟩ := hI.shape
 have hn := I.ok.n
 have q1 := H.f1
 have ewl : IntKind.i64.wrap (-l) = -l := IntWalk.i64_in _ (by omega)
 obtain ⟨g, U, t1, t2⟩ := H.trail
 have hw := Why_any t1 I.ok (-l) (by unfold InI64; omega)
 obtain ⟨why, hwhy⟩ : ∃ why, S.T.whyL (-l) = why := ⟨_, rfl⟩
 rw [hwhy] at hw ⊢
 have hwr : ∀ x ∈ why, InI64 x := by
  intro x hx
  rw [← hwhy] at hx
  have := I.ok.good.lit x (whyL_sub _ _ x hx)
  unfold InI64; omega
 have hfin : ∀ w1, Only (fun _ => False) w w1 → ∀ L vo vc g wr, L = Sv.coreL qs l why → L.length ≤ qs.length → CoreAt w1 L vo vc g wr → Calls Tryz.prog 73 #[.pointer (some ⟨b, 0, none⟩), vc] wr fun e w' => e = .returned (.tuple #[]) ∧ CoreTo w G b S (Sv.coreL qs l why) (.returned vo) w' := by
  intro w1 hw1 L vo vc g wr hL hlen hC
  have hon := hw1.same hC.on
  have hr : ∀ x ∈ L.map (fun x => -x), InI64 x := by
   intro x hx
   obtain ⟨y, hy, rfl⟩ := List.mem_map.1 hx
   rw [hL] at hy
   have := has y (((Sv.coreL_spec qs l why).2 y).1 hy).1
   unfold InI64; omega
  refine (solve_proves_any (H.only0 hon) hop (hC.neg.ints hr) (by rw [List.length_map]; omega) hp).mono ?_
  rintro e w' ⟨he, h2⟩
  rw [← hL]
  obtain ⟨G2, V2, H2, p2, A2, O2⟩ := h2
  have hvo : ∀ k, vo.ownBlock = some k → w.heap.size ≤ k := fun k hk => Nat.le_trans hw1.size (hC.new k (by rw [hC.out.tg k hk]; decide))
  refine ⟨he, vo, rfl, ?_, hvo, G2, V2, H2, p2, fun k hk => A2 k (Nat.lt_of_lt_of_le hk hon.size), (hon.mono fun _ f => f.elim).same O2⟩
  have := own_only hC.out.own O2 fun k hk => fun hm => hm (H.fresh k (hvo k hk))
  simpa using this
 have HW := Lib.hid hw
 have HWr := Lib.hid hwr
 have HFin := Lib.hid hfin
 have HI := Lib.hid hI
 have HAs := Lib.hid has
 clear hw hwr hfin hI hp hop H I t1 t2 hwhy
 go_enter Tryz.func41, Tryz.ntmps41
 go_wp2_with fail
 refine HW.out.mono ?_
 rintro e w1 ⟨vw, rfl, R1, N1, O1⟩
 have hIw : Ints w1 vw why := Ints.of_own R1 HWr.out
 obtain ⟨aw, cw, rfl, -, -⟩ := hIw.shape
 have hst : CoreAt w1 [] nilS nilS (fun _ => (0, 0)) w1 := ⟨Row.nil _ _ _ _, Row.nil _ _ _ _, fun _ _ => rfl, fun k hk => absurd rfl hk, Only.refl _ _⟩
 have HSt := Lib.hid hst
 have HIw := Lib.hid hIw
 have HO1 := Lib.hid O1
 clear hst hIw R1 N1 O1 HW HWr
 go_wp2_with fail
 go_loopw [8, 9, 21] (fun v8 v9 v wr => ∃ (j : Nat) (g : Tag) (L : List Int) (a8 a9 : Option Addr) (c8 c9 : Nat), v = .int .i64 j ∧ v8 = .slice a8 L.length c8 ∧ v9 = .slice a9 L.length c9 ∧ j ≤ qs.length ∧ L.length ≤ j ∧ Sv.coreTo l why (qs.take j) [] = L ∧ CoreAt w1 L v8 v9 g wr) (fun v8 v9 v _ => qs.length - (intOf v).toNat)
 case atStart => exact ⟨0, _, [], none, none, 0, 0, rfl, rfl, rfl, Nat.zero_le _, Nat.le_refl _, rfl, HSt.out⟩
 case round =>
  obtain ⟨j, g, L, a8, a9, c8, c9, rfl, rfl, rfl, hj, hLj, hL, hC⟩ := hrel
  have HC := Lib.hid hC
  by_cases cj : j < qs.length
  ·obtain ⟨bl, ol, rfl, _, hcs⟩ := ((HI.out.only0 HO1.out).only0 hC.on).cells _ _ _ rfl (by omega)
   have qx := hcs j cj
   have hx := HI.out.range' j
   have hxs := HAs.out _ (getD_mem' 0 cj)
   have hsn := coreTo_snoc l why (qs.getD j 0) (qs.take j) []
   rw [← take_snocI qs j cj, hL] at hsn
   obtain ⟨x, hxe⟩ : ∃ x, qs.getD j 0 = x := ⟨_, rfl⟩
   rw [hxe] at qx hx hxs hsn
   have ewx : IntKind.i64.wrap (-x) = -x := IntWalk.i64_in _ (by omega)
   have ewj : IntKind.i64.wrap ((j : Int) + 1) = ((j + 1 : Nat) : Int) := by rw [IntWalk.i64_in _ (by omega)]; rfl
   have hLr : ∀ y ∈ L, InI64 y := by
    intro y hy
    rw [← hL] at hy
    rcases ((Sv.coreTo_spec l why (qs.take j) [] List.nodup_nil).2 y).1 hy with h | h
    ·cases h
    ·have := HAs.out y (List.mem_of_mem_take h.1)
     unfold InI64; omega
   obtain ⟨z, hz⟩ : ∃ z, (x == l) = z := ⟨_, rfl⟩
   obtain ⟨r1, hr1⟩ : ∃ r, why.contains x = r := ⟨_, rfl⟩
   obtain ⟨r2, hr2⟩ : ∃ r, L.contains x = r := ⟨_, rfl⟩
   have hc1 := Contains_ints (HIw.out.only0 hC.on) x r1 hr1
   have hc2 := Contains_ints (hC.out.ints hLr) x r2 hr2
   have HC1 := Lib.hid hc1
   have HC2 := Lib.hid hc2
   have HSn := Lib.hid hsn
   have HZ := Lib.hid hz
   have HR1 := Lib.hid hr1
   have HR2 := Lib.hid hr2
   clear hcs hxe hsn hr1 hr2 hc1 hc2 hC hL hLr hxs
   cases z with
   | true =>
    go_wp2_with fail
    refine HC2.out.mono ?_
    rintro e w2 ⟨rfl, rfl⟩
    cases r2 with
    | true =>
     go_wp2_with fail
     go_roundw
     case rel => exact ⟨j + 1, g, L, a8, a9, c8, c9, by first | rfl | go_num, rfl, rfl, by omega, by omega, HSn.out.trans (by rw [HZ.out, HR1.out, HR2.out]; simp), HC.out⟩
     case measure => simp [intOf] <;> omega
    | false =>
     go_wp2_with (at_builtin; go_must (refine Row.app (u := .int .i64 x) slInt rfl (.tmp 39) (.tmp 41) rfl rfl rfl (cell_new0 _ _ _) rfl (HC.out.alloc _).out (by rw [List.length_map]; omega) (by decide) ?_))
     intro v' w5 r5 o5
     obtain ⟨g5, hH⟩ := (HC.out.alloc _).half (by simp) r5 o5
     obtain ⟨a5, c5, rfl, -, -⟩ := hH.out.shape
     have HH := Lib.hid hH
     clear hH r5 o5
     go_wp2_with (at_builtin; go_must (refine Row.app (u := .int .i64 (-x)) slInt rfl (.tmp 43) (.tmp 46) rfl rfl rfl (cell_new0 _ _ _) rfl (HH.out.alloc _).neg (by rw [List.length_map, List.length_map]; omega) (by decide) ?_))
     intro v'' w6 r6 o6
     obtain ⟨g6, hC6⟩ := (HH.out.alloc _).whole (s := w5.heap.size + 1) (by simp) (by simpa using r6) o6
     obtain ⟨a6, c6, rfl, -, -⟩ := hC6.neg.shape
     have HC6 := Lib.hid hC6
     clear hC6 r6 o6
     go_wp2_with fail
     go_roundw
     case rel => exact ⟨j + 1, g6, L ++ [x], a5, a6, c5, c6, by first | rfl | go_num, by simp, by simp, by omega, by simp; omega, HSn.out.trans (by rw [HZ.out, HR1.out, HR2.out]; simp), by simpa using HC6.out⟩
     case measure => simp [intOf] <;> omega
   | false =>
    go_wp2_with fail
    refine HC1.out.mono ?_
    rintro e w2 ⟨rfl, rfl⟩
    cases r1 with
    | false =>
     go_wp2_with fail
     go_roundw
     case rel => exact ⟨j + 1, g, L, a8, a9, c8, c9, by first | rfl | go_num, rfl, rfl, by omega, by omega, HSn.out.trans (by rw [HZ.out, HR1.out, HR2.out]; simp), HC.out⟩
     case measure => simp [intOf] <;> omega
    | true =>
     go_wp2_with fail
     refine HC2.out.mono ?_
     rintro e w2 ⟨rfl, rfl⟩
     cases r2 with
     | true =>
      go_wp2_with fail
      go_roundw
      case rel => exact ⟨j + 1, g, L, a8, a9, c8, c9, by first | rfl | go_num, rfl, rfl, by omega, by omega, HSn.out.trans (by rw [HZ.out, HR1.out, HR2.out]; simp), HC.out⟩
      case measure => simp [intOf] <;> omega
     | false =>
      go_wp2_with (at_builtin; go_must (refine Row.app (u := .int .i64 x) slInt rfl (.tmp 39) (.tmp 41) rfl rfl rfl (cell_new0 _ _ _) rfl (HC.out.alloc _).out (by rw [List.length_map]; omega) (by decide) ?_))
      intro v' w5 r5 o5
      obtain ⟨g5, hH⟩ := (HC.out.alloc _).half (by simp) r5 o5
      obtain ⟨a5, c5, rfl, -, -⟩ := hH.out.shape
      have HH := Lib.hid hH
      clear hH r5 o5
      go_wp2_with (at_builtin; go_must (refine Row.app (u := .int .i64 (-x)) slInt rfl (.tmp 43) (.tmp 46) rfl rfl rfl (cell_new0 _ _ _) rfl (HH.out.alloc _).neg (by rw [List.length_map, List.length_map]; omega) (by decide) ?_))
      intro v'' w6 r6 o6
      obtain ⟨g6, hC6⟩ := (HH.out.alloc _).whole (s := w5.heap.size + 1) (by simp) (by simpa using r6) o6
      obtain ⟨a6, c6, rfl, -, -⟩ := hC6.neg.shape
      have HC6 := Lib.hid hC6
      clear hC6 r6 o6
      go_wp2_with fail
      go_roundw
      case rel => exact ⟨j + 1, g6, L ++ [x], a5, a6, c5, c6, by first | rfl | go_num, by simp, by simp, by omega, by simp; omega, HSn.out.trans (by rw [HZ.out, HR1.out, HR2.out]; simp), by simpa using HC6.out⟩
      case measure => simp [intOf] <;> omega
  ·have hjl : j = qs.length := by omega
   subst hjl
   rw [List.take_of_length_le (Nat.le_refl _)] at hL
   have hf := HFin.out w1 HO1.out L _ _ g _ hL.symm hLj hC
   have HF := Lib.hid hf
   clear hf hC hL
   go_wp2_with fail
   refine HF.out.mono ?_
   rintro e w2 ⟨rfl, hcore⟩
   have HCo := Lib.hid hcore
   clear hcore
   go_wp2_with fail
   go_ret
   exact HCo.out
end
theorem follow_open {T T' : Trail} (o : Ok T) (ex : Ext T T') {x : Int} (h : T'.val x = 0) : T.val x = 0 := by
 obtain ⟨r, hr⟩ := ex.lits
 rcases val3 T x with c | c | c
 ·exact c
 ·have := o.one.1 c
  have hx : x ∈ T'.lits := by rw [hr]; exact List.mem_append_left _ this
  obtain ⟨a1, a2⟩ := Up.value_zero.1 h
  exact absurd hx a1
 ·have := o.neg1.1 c
  have hx : -x ∈ T'.lits := by rw [hr]; exact List.mem_append_left _ this
  obtain ⟨a1, a2⟩ := Up.value_zero.1 h
  exact absurd hx a2
theorem lesson_atoms {T : Trail} (o : Ok T) {k : Int} {L : Less} (h : T.lesson k = some (some L)) : ∀ a ∈ L.atoms, 1 ≤ a ∧ a ≤ (T.n : Int) := by
 unfold Trail.lesson at h
 cases hc : T.clauseL k with
 | none => rw [hc] at h; cases h
 | some c =>
  rw [hc] at h
  simp only at h
  split at h
  ·cases h
  ·split at h
   ·simp at h
   ·have hkg : Kg T.n (T.goes (T.top c) (T.takes (T.top c) Stu.new c) T.lits.reverse).1 := goes_kg o _ _ _ (Kg.takes o.n T _ c ⟨fun x hx => (by cases hx), fun x hx => (by cases hx)⟩ (clauseL_ok o hc).1)
    split at h
    ·cases h
    ·rename_i s first he
     rw [he] at hkg
     simp only [Option.some.injEq] at h
     subst h
     intro a ha
     exact hkg.ms a ((List.mergeSort_perm _ _).mem_iff.1 ha)
section
variable {w wr w' : World} {G G' : Tag} {b : Nat} {V : SvV} {S : Sv.St}
theorem SvOk.on (h : SvOk w G b S wr) : Only (Mine G) w wr := by obtain ⟨_, _, _, _, _, O⟩ := h; exact O
theorem SvOk.f (h : SvOk w G b S wr) : wr.cell? ⟨b, 0, none⟩ = some (cN S.T.n) ∧ wr.cell? ⟨b, 7, none⟩ = some (.bool S.dead) ∧ wr.frozen? ⟨b, 6, none⟩ = false ∧ wr.frozen? ⟨b, 7, none⟩ = false ∧ wr.frozen? ⟨b, 4, none⟩ = false := by
 obtain ⟨G1, V1, H1, p1, A1, O1⟩ := h
 exact ⟨H1.f0, H1.f7, H1.free 6, H1.free 7, H1.free 4⟩
theorem SvOk.bump (h : SvOk w G b S wr) : ∃ bh y, wr.cell? ⟨b, 2, none⟩ = some (.pointer (some ⟨bh, 0, none⟩)) ∧ wr.cell? ⟨b, 6, none⟩ = some (.int .u64 ((y : Nat) : Int)) ∧ (1 ≤ y ∧ y ≤ 1099511627776) ∧
  ∀ a : Nat, a < S.T.n → Calls Tryz.prog 76 #[.pointer (some ⟨bh, 0, none⟩), .int .i64 ((a : Int) + 1), .int .u64 (y : Int)] wr fun e w' => e = .returned (.tuple #[]) ∧ SvOk w G b S w' := by
 obtain ⟨G1, V1, H1, p1, A1, O1⟩ := h
 refine ⟨V1.bh, V1.y, H1.f2, H1.f6, H1.yb, fun a ha => (H1.heap.bump ha V1.y (by have := H1.yb; omega)).mono ?_⟩
 rintro e w' ⟨he, h1, h2⟩
 obtain ⟨vl, va, vs, x, K, o', r, hx, hA, hf⟩ := h1
 obtain ⟨G2, H2, A2⟩ := H1.setH (A' := V1.A) ⟨vl, va, vs, x, K, o', r, hx, hA, fun k hk => .inl (hf k hk)⟩ h2
 exact ⟨he, G2, _, H2, p1, A1.trans A2 O1.size, O1.mine A1 (h2.mono fun q hq => by unfold Mine; rw [hq]; decide)⟩
theorem SvOk.setY (h : SvOk w G b S wr) {y : Nat} (hy : 1 ≤ y ∧ y ≤ 1099511627776) : SvOk w G b S (wr.setCell ⟨b, 6, none⟩ (.int .u64 (y : Int))) := by
 obtain ⟨G1, V1, H1, p1, A1, O1⟩ := h
 obtain ⟨H2, O2⟩ := H1.setY hy
 exact ⟨G1, _, H2, p1, A1, O1.mine A1 O2⟩
theorem SvOk.setD (h : SvOk w G b S wr) (d : Bool) : SvOk w G b { S with dead := d } (wr.setCell ⟨b, 7, none⟩ (.bool d)) := by
 obtain ⟨G1, V1, H1, p1, A1, O1⟩ := h
 obtain ⟨H2, O2⟩ := H1.setD d
 exact ⟨G1, _, H2, p1, A1, O1.mine A1 O2⟩
theorem SvOk.back (h : SvOk w G b S wr) (I : Inv S.T) (x : Int) (hx : InI64 x) :
  Calls Tryz.prog 38 #[.pointer (some ⟨b, 0, none⟩), .int .i64 x] wr fun e w' => e = .returned (.tuple #[]) ∧ SvOk w G b { S with T := S.T.back x } w' := by
 obtain ⟨G1, V1, H1, p1, A1, O1⟩ := h
 exact (solve_back_any H1 I p1 x hx).mono fun e w' h => ⟨h.1, h.2.pre A1 O1⟩
theorem SvOk.proves (h : SvOk w G b S wr) {v : Value} {c : List Int} (hI : Ints wr v c) (hcb : c.length ≤ 17592186043904) (hp : S.proof.length + 1 ≤ 1099511627776) :
  Calls Tryz.prog 73 #[.pointer (some ⟨b, 0, none⟩), v] wr fun e w' => e = .returned (.tuple #[]) ∧ SvOk w G b { S with proof := S.proof ++ Sv.proves c } w' := by
 obtain ⟨G1, V1, H1, p1, A1, O1⟩ := h
 exact (solve_proves_any H1 p1 hI hcb hp).mono fun e w' h => ⟨h.1, h.2.pre A1 O1⟩
theorem SvOk.next (h : SvOk w G b S wr) (I : Inv S.T) {v : Value} {qs : List Int} (hI : Ints wr v qs) (hqb : qs.length ≤ 1099511627776) (has : ∀ a ∈ qs, a ≠ 0 ∧ a.natAbs ≤ S.T.n) :
  Calls Tryz.prog 40 #[.pointer (some ⟨b, 0, none⟩), v] wr (NextTo w G b S qs) := by
 obtain ⟨G1, V1, H1, p1, A1, O1⟩ := h
 refine (solve_next_any H1 I p1 hI hqb has).mono ?_
 rintro e w' (⟨l, h1, h2, h3⟩ | ⟨l, h1, h2, h3⟩ | ⟨h1, h2, h3, h4⟩ | ⟨h1, l, h2, h3, h4, h5, h6⟩)
 ·exact .inl ⟨l, h1, h2, h3.pre A1 O1⟩
 ·exact .inr (.inl ⟨l, h1, h2, h3.pre A1 O1⟩)
 ·exact .inr (.inr (.inl ⟨h1, h2, h3, h4.pre A1 O1⟩))
 ·exact .inr (.inr (.inr ⟨h1, l, h2, h3, h4, h5, h6.pre A1 O1⟩))
theorem SvOk.core (h : SvOk w G b S wr) (I : Inv S.T) {v : Value} {qs : List Int} (hI : Ints wr v qs) (hqb : qs.length ≤ 1099511627) (has : ∀ a ∈ qs, a ≠ 0 ∧ a.natAbs ≤ S.T.n) (hp : S.proof.length + 1 ≤ 1099511627776) (l : Int) (hl : l ≠ 0 ∧ l.natAbs ≤ S.T.n) :
  Calls Tryz.prog 41 #[.pointer (some ⟨b, 0, none⟩), v, .int .i64 l] wr (CoreTo w G b S (Sv.coreL qs l (S.T.whyL (-l)))) := by
 obtain ⟨G1, V1, H1, p1, A1, O1⟩ := h
 refine (solve_core_any H1 I p1 hI hqb has hp l hl).mono ?_
 rintro e w' ⟨v, h1, h2, h3, h4⟩
 exact ⟨v, h1, h2, fun k hk => Nat.le_trans O1.size (h3 k hk), h4.pre A1 O1⟩
theorem SvOk.model (h : SvOk w G b S wr) (o : Ok S.T) : Calls Tryz.prog 42 #[.pointer (some ⟨b, 0, none⟩)] wr fun e w' => ∃ v, e = .returned v ∧ w'.ownsRow 0 4 1 v (Sv.modelL S.T).length ((Sv.modelL S.T).map Value.bool) ∧ (∀ k, v.ownBlock = some k → w.heap.size ≤ k) ∧ SvOk w G b S w' := by
 have h' := h
 obtain ⟨G1, V1, H1, p1, A1, O1⟩ := h
 refine (solve_model_any H1 o).mono ?_
 rintro e w' ⟨v, h1, h2, h3, h4⟩
 exact ⟨v, h1, h2, fun k hk => Nat.le_trans O1.size (h3 k hk), h'.only0 h4⟩
theorem SvOk.follow (h : SvOk w G b S wr) (I : Inv S.T) : ∃ bt, wr.cell? ⟨b, 1, none⟩ = some (.pointer (some ⟨bt, 0, none⟩)) ∧
  Calls Tryz.prog 39 #[.pointer (some ⟨bt, 0, none⟩)] wr fun e w' => ∃ T' r, Foll S.T T' r ∧ e = .returned (.int .i64 r) ∧ SvOk w G b { S with T := T' } w' := by
 obtain ⟨G1, V1, H1, p1, A1, O1⟩ := h
 obtain ⟨g, U, t1, t2⟩ := H1.trail
 refine ⟨V1.bt, H1.f1, (prop_Follow_any t1 I).mono ?_⟩
 rintro e w2 ⟨r, T', he, hf, h2⟩
 obtain ⟨_, ex, _⟩ := foll_post hf I
 obtain ⟨G2, H2, A2, O2⟩ := H1.setT t1 t2 ex.n h2
 refine ⟨T', r, hf, he, G2, _, H2, fun a ha hv => ?_, A1.trans A2 O1.size, O1.mine A1 (O2.mono fun q hq => by unfold Mine; rw [hq]; decide)⟩
 have ha : a < T'.n := ha
 exact p1 a (by rw [← ex.n]; exact ha) (follow_open I.ok ex hv)
theorem SvOk.add (h : SvOk w G b S wr) (I : Inv S.T) (hcb : S.T.cls.length < 2147483648) {v : Value} {xs : List Int} (hI : Ints wr v xs) (hxb : xs.length ≤ 17592186043904) : ∃ bt, wr.cell? ⟨b, 1, none⟩ = some (.pointer (some ⟨bt, 0, none⟩)) ∧
  Calls Tryz.prog 46 #[.pointer (some ⟨bt, 0, none⟩), v] wr fun e w' => e = .returned (.int .i64 (S.T.addR xs)) ∧ SvOk w G b { S with T := S.T.addX xs } w' := by
 obtain ⟨G1, V1, H1, p1, A1, O1⟩ := h
 obtain ⟨g, U, t1, t2⟩ := H1.trail
 refine ⟨V1.bt, H1.f1, (prop_Add_any t1 I hcb hI hxb).mono ?_⟩
 rintro e w2 ⟨he, h2⟩
 obtain ⟨G2, H2, A2, O2⟩ := H1.setT t1 t2 (addX_same _ xs).1 h2
 exact ⟨he, G2, V1, H2, p1.addX xs, A1.trans A2 O1.size, O1.mine A1 (O2.mono fun q hq => by unfold Mine; rw [hq]; decide)⟩
theorem SvOk.levels (h : SvOk w G b S wr) (o : Ok S.T) {v : Value} {l : List Int} (hI : Ints wr v l) (hlen : l.length ≤ 1099511627776) : ∃ bt, wr.cell? ⟨b, 1, none⟩ = some (.pointer (some ⟨bt, 0, none⟩)) ∧
  Calls Tryz.prog 75 #[.pointer (some ⟨bt, 0, none⟩), v] wr fun e w' => e = .returned (.int .i64 ((S.T.levs l).length : Int)) ∧ SvOk w G b S w' := by
 have h' := h
 obtain ⟨G1, V1, H1, p1, A1, O1⟩ := h
 obtain ⟨g, U, t1, t2⟩ := H1.trail
 exact ⟨V1.bt, H1.f1, (Levels_any t1 o hI hlen).mono fun e w' h => ⟨h.1, h'.only0 h.2⟩⟩
theorem SvOk.from (h : SvOk w G b S wr) (o : Ok S.T) (k : Int) : ∃ bt, wr.cell? ⟨b, 1, none⟩ = some (.pointer (some ⟨bt, 0, none⟩)) ∧
  Calls Tryz.prog 74 #[.pointer (some ⟨bt, 0, none⟩), .int .i64 k] wr (LesTo wr (S.T.lesson k)) := by
 obtain ⟨G1, V1, H1, p1, A1, O1⟩ := h
 obtain ⟨g, U, t1, t2⟩ := H1.trail
 exact ⟨V1.bt, H1.f1, From_any t1 o k⟩
theorem SvOk.conflict (h : SvOk w G b S wr) (hL : 1 ≤ S.left ∧ S.left ≤ 1000000000000) (ht : 0 ≤ S.turns ∧ S.turns ≤ 100000000) (hk : 1 ≤ S.keep ∧ S.keep ≤ 9223372036854775807) (hn : S.learnt.length ≤ 1099511627776) :
  ∃ bp al cl, wr.cell? ⟨b, 3, none⟩ = some (.pointer (some ⟨bp, 0, none⟩)) ∧ wr.cell? ⟨b, 4, none⟩ = some (.slice al S.learnt.length cl) ∧
  Calls Tryz.prog 44 #[.pointer (some ⟨bp, 0, none⟩), .int .i64 (S.learnt.length : Int)] wr fun e w' => ∃ L' t' k' anew fg, Sv.paceF S.left S.turns S.keep S.learnt.length = ((L', t', k'), anew, fg) ∧ e = .returned (.tuple #[.bool anew, .bool fg]) ∧ SvOk w G b { S with left := L', turns := t', keep := k' } w' := by
 obtain ⟨G1, V1, H1, p1, A1, O1⟩ := h
 obtain ⟨al, cl, hv, -, -⟩ := own_slice H1.learnt.own
 have q4 := H1.f4
 rw [hv] at q4
 refine ⟨V1.bp, al, cl, H1.f3, q4, (luby_Conflict_any H1.pace hL ht hk _ hn).mono ?_⟩
 rintro e w' ⟨L', t', k', an, fg, h1, h2, h3, h4⟩
 obtain ⟨H2, O2⟩ := H1.setPace h4 h3
 exact ⟨L', t', k', an, fg, h1, h2, G1, V1, H2, p1, A1, O1.mine A1 O2⟩
theorem SvOk.cell6 (h : SvOk w G b S wr) (y : Nat) : (wr.setCell ⟨b, 6, none⟩ (.int .u64 (y : Int))).cell? ⟨b, 6, none⟩ = some (.int .u64 (y : Int)) ∧ (wr.setCell ⟨b, 6, none⟩ (.int .u64 (y : Int))).frozen? ⟨b, 6, none⟩ = false := by
 obtain ⟨G1, V1, H, p1, A1, O1⟩ := h
 have hb1 := set_block H.blk 6 (.int .u64 (y : Int))
 exact ⟨by rw [cell_block hb1]; rfl, free_block hb1 6⟩
theorem SvOk.halveY (h : SvOk w G b S wr) (y : Nat) : ∃ bh, (wr.setCell ⟨b, 6, none⟩ (.int .u64 (y : Int))).cell? ⟨b, 2, none⟩ = some (.pointer (some ⟨bh, 0, none⟩)) ∧
  Calls Tryz.prog 77 #[.pointer (some ⟨bh, 0, none⟩)] (wr.setCell ⟨b, 6, none⟩ (.int .u64 (y : Int))) fun e w' => e = .returned (.tuple #[]) ∧ w'.cell? ⟨b, 6, none⟩ = some (.int .u64 (y : Int)) ∧ w'.frozen? ⟨b, 6, none⟩ = false ∧
   ∀ z : Nat, 1 ≤ z ∧ z ≤ 1099511627776 → SvOk w G b S (w'.setCell ⟨b, 6, none⟩ (.int .u64 (z : Int))) := by
 obtain ⟨G1, V1, H, p1, A1, O1⟩ := h
 have hb1 := set_block H.blk 6 (.int .u64 (y : Int))
 obtain ⟨W, hW⟩ : ∃ W, wr.setCell ⟨b, 6, none⟩ (.int .u64 (y : Int)) = W := ⟨_, rfl⟩
 have oW : Only (fun k => G1 k = (1, 0) ∨ k = b) wr W := by rw [← hW]; exact H.own1 6 _
 rw [hW] at hb1 ⊢
 have hh : HeapS W V1.bh S.T.n V1.A (fun k => G1 k = (3, 0)) := H.heap.only oW (H.hne _ (by decide) (by decide))
 refine ⟨V1.bh, by rw [cell_block hb1]; rfl, hh.halve.mono ?_⟩
 rintro e w' ⟨he, h1, h2⟩
 have hb2 := only_block hb1 h2 (by rw [H.tb]; decide)
 refine ⟨he, by rw [cell_block hb2]; rfl, free_block hb2 6, fun z hz => ?_⟩
 have ho3 : Only (fun k => G1 k = (3, 0) ∨ k = b) wr (w'.setCell ⟨b, 6, none⟩ (.int .u64 (z : Int))) :=
  (((by rw [← hW]; exact Only.setCell (Only.refl _ _) (.inl (.inr rfl)) _ : Only (fun k => G1 k = (3, 0) ∨ k = b) wr W)).same (h2.mono fun k hk => .inl hk)).setCell (.inl (.inr rfl)) _
 have ag := Agree.refl wr G1
 have hh3 : HeapS (w'.setCell ⟨b, 6, none⟩ (.int .u64 (z : Int))) V1.bh S.T.n V1.A (fun k => G1 k = (3, 0)) := h1.only (Only.setCell (Only.refl (fun k => k = b) w') (p := ⟨b, 6, none⟩) (.inl rfl) _) (fun k hk hc => by subst hc; rw [H.tb] at hk; cases hk)
 refine ⟨G1, { V1 with y := z }, ⟨?_, H.tb, trail_keep H.trail ho3 (H.hne _ (by decide) (by decide)) ag, hh3, H.pace.only ho3 (H.hne _ (by decide) (by decide) _ H.tp), H.tp, H.learnt.keep ho3 (H.hne _ (by decide) (by decide)) ag, H.nc, H.last.keep ho3 (H.hne _ (by decide) (by decide)) ag, H.ll, H.proof.keep ho3 (H.hne _ (by decide) (by decide)) ag, H.ul, fun j hj => H.steps_keep2 (by decide) ho3 ag hj, hz, H.fresh.more ho3.size⟩, p1, A1, O1.mine A1 (ho3.mono (H.hme (by decide)))⟩
 rw [set_block hb2]; rfl
theorem SvOk.lapp (h : SvOk w G b S wr) : ∃ G3 al cl ns, wr.cell? ⟨b, 4, none⟩ = some (.slice al S.learnt.length cl) ∧ RowZ wr G3 (5, 0) 116 4 (.slice al S.learnt.length cl) S.learnt.length ns ∧ (∀ W, Only (fun q => G3 q = (5, 0)) wr W → W.cell? ⟨b, 4, none⟩ = some (.slice al S.learnt.length cl) ∧ W.frozen? ⟨b, 4, none⟩ = false ∧ Only (Mine G) w W) ∧
  ∀ (x : Sv.Note) (v' : Value) (wA w5 : World) (s : Nat), Only (fun q => G3 q = (5, 0)) wA w5 → wA.heap.size = s → RowZ w5 (Tag.put G3 s w5.heap.size (5, 0)) (5, 0) 116 4 v' (S.learnt.length + 1) (ns ++ [.int .i64 x.num, .int .i64 x.size, .int .i64 x.levels, .bool false]) → Only (fun _ => False) wr wA → SvOk w G b { S with learnt := S.learnt ++ [x] } (w5.setCell ⟨b, 4, none⟩ v') := by
 obtain ⟨G1, V1, H, p1, A1, O1⟩ := h
 obtain ⟨al, cl, hv, -, -⟩ := own_slice H.learnt.own
 have q4 := H.f4
 have hr := H.learnt
 rw [hv] at q4 hr
 refine ⟨G1, al, cl, V1.ns, q4, hr, fun W hW => ⟨cell_keep q4 hW (by rw [H.tb]; decide), free_keep q4 (H.free 4) hW (by rw [H.tb]; decide), O1.mine A1 (hW.mono fun q hq => by unfold Mine; rw [hq]; decide)⟩, fun x v' wA w5 s o5 hs r5 oA => ?_⟩
 obtain ⟨G5, H5, A5, O5⟩ := H.lapp o5 hs r5 oA
 exact ⟨G5, _, H5, p1, A1.trans A5 O1.size, O1.mine A1 O5⟩
end
end Go.Proofs.YtjedgdamommgeaaGreat
