/- Nodes copied into a row of the call's own; a whole slice appended; a run of stores. -/
import Derived.Test.YtmlfchjompfmaaaDoorLkVD
set_option linter.unusedVariables false
namespace Go.Proofs.YtmlfchjompfmaaaDoor
open Go.RowKit
theorem wpAN {P : Program} {w : World} {ops : Array Oper} {rest : List Oper} {o : Oper} {a : Act} {Q : Exit → Act → World → Prop} {tt e : TypeId} {size bytes : Nat} (T : SlT P tt e size bytes)
  (hgd : o.guard = none) (s x : Operand)
  (ho : o.op = .call { callee := .builtin .append, args := #[s, x], argTypes := #[tt, tt] })
  {v : Value} {n : Nat} {xs : List Value} {ao : Option Addr} {m c : Nat} {news : List Value} (hs : a.eval s = v) (hown : w.ownsRow 0 e size v n xs) (hx : a.eval x = .slice ao m c) (hl : news.length = m * size) (hnone : ao = none → m = 0 ∧ c = 0)
  (hnews : ∀ ad, ao = some ad → ∀ j u, news[j]? = some u → w.cell? (ad.add j) = some u) (h1 : ∀ u ∈ news, u.oneCell' = true)
  (h63 : n + m ≤ 1099511627776) (hbytes : bytes ≤ 128)
  (h : ∀ ao' cap w', w'.ownsRow 0 e size (.slice ao' (n + m) cap) (n + m) (xs ++ news) → Only (fun k => v.ownBlock = some k) w w' → NewRow w v (.slice ao' (n + m) cap) → wpList P ops Q rest (a.put o.dst (.slice ao' (n + m) cap)) w') : wpList P ops Q (o :: rest) a w := by
 refine wpList_plain hgd fun K hK => ?_
 cases ao with
 | none =>
  obtain ⟨rfl, rfl⟩ := hnone rfl
  have hn : news = [] := List.eq_nil_of_length_eq_zero (by simpa using hl)
  subst hn
  obtain ⟨i, z, h2, h3, h4, h5, h6⟩ := T.info
  have hr := run_append_owned_none (P := P) w 0 tt o.type e i size T.und h2 v n xs hown
  obtain ⟨ao', cap', rfl, _, _⟩ := own_slice hown
  unfold Oper.wp execOp
  simp only [ho, resolve, invoke, builtin, Sem.run_bind, Sem.run_pure, Result.andThen_ok, List.map_toArray, List.map_cons, List.map_nil, hs, hx, hr]
  exact hK _ _ (h ao' cap' w (by simpa using hown) (Only.refl _ _) (fun k hk => .inl hk))
 | some ad =>
  have hmul : (n + m) * bytes ≤ 1099511627776 * 128 := Nat.mul_le_mul h63 hbytes
  obtain ⟨v', w', hr, r1, r2, r3, -⟩ := run_append_x (P := P) (ty := o.type) w T v n xs hown ad m c news hl (hnews ad rfl) h1 (by unfold maxLen; omega) (by omega)
  unfold Oper.wp execOp
  simp only [ho, resolve, invoke, builtin, Sem.run_bind, Sem.run_pure, Result.andThen_ok, List.map_toArray, List.map_cons, List.map_nil, hs, hx, hr]
  obtain ⟨ao', cap', rfl, _, _⟩ := own_slice r1
  exact hK _ _ (h ao' cap' w' r1 ((Only.refl _ w).grown r2 fun k hk => .inl hk) r3)
def setLK (xs : List Value) : Nat → List Value → List Value
 | _, [] => xs
 | o, v :: r => setLK (xs.set o v) (o + 1) r
theorem setLK_mid (vs : List Value) : ∀ (a b c : List Value), b.length = vs.length → setLK (a ++ b ++ c) a.length vs = a ++ vs ++ c := by
 induction vs with
 | nil => intro a b c h; have : b = [] := List.eq_nil_of_length_eq_zero h; subst this; simp [setLK]
 | cons v r ih =>
  intro a b c h
  match b, h with
  | x :: b, h =>
   rw [setLK]
   have e : (a ++ x :: b ++ c).set a.length v = (a ++ [v]) ++ b ++ c := by simp []
   rw [e]
   have := ih (a ++ [v]) b c (by simpa using h)
   rw [List.length_append, List.length_singleton] at this
   rw [this]
   simp
theorem setCells_ownK {e : TypeId} {size g n cap : Nat} (vs : List Value) : ∀ {w : World} {xs : List Value} (o : Nat), w.ownsRow 0 e size (.slice (some ⟨g, 0, none⟩) n cap) n xs → (w.setCells g o vs).ownsRow 0 e size (.slice (some ⟨g, 0, none⟩) n cap) n (setLK xs o vs) := by
 induction vs with
 | nil => intro w xs o h; exact h
 | cons v r ih => intro w xs o h; exact ih (o + 1) (h.stored o v).1
theorem only_setCellsK (g : Nat) (vs : List Value) : ∀ (w : World) (o : Nat), Only (fun k => k = g) w (w.setCells g o vs) := by
 induction vs with
 | nil => intro w o; exact Only.refl _ _
 | cons v r ih => intro w o; exact ((Only.refl (fun k => k = g) w).setCell (p := ⟨g, o, none⟩) (.inl rfl) v).same (ih _ _)
section
variable {w w' : World} {B : Nat}
theorem NodC.one {cs : List Value} {x : NodeD} (h : NodC B w cs x) : ∀ u ∈ cs, u.oneCell' = true := by
 obtain ⟨v1, v2, rfl, -, -, r1, r2⟩ := h
 obtain ⟨a1, c1, rfl, -, -⟩ := r1.shape
 obtain ⟨a2, c2, rfl, -, -⟩ := r2.shape
 intro u hu
 simp only [List.mem_cons, List.not_mem_nil, or_false] at hu
 rcases hu with rfl | rfl | rfl | rfl <;> rfl
theorem flatN_one {L : List LN} (h : ∀ n ∈ L, NodC B w n.cells n.x) : ∀ u ∈ flatN L, u.oneCell' = true := fun u hu => by
 obtain ⟨n, hn, hu⟩ := List.mem_flatMap.1 hu
 exact (h n hn).one u hu
structure CopyN (B : Nat) (w : World) (v : Value) (L : List LN) : Prop where
 own : w.ownsRow 0 80 4 v L.length (flatN L)
 new : ∀ k, v.ownBlock = some k → B ≤ k
theorem CopyN.only {v : Value} {L : List LN} {F : Nat → Prop} (h : CopyN B w v L) (ho : Only F w w') (h0 : ∀ k, v.ownBlock = some k → ¬ F k) : CopyN B w' v L :=
 ⟨own_only h.own ho h0, h.new⟩
theorem CopyN.only0 {v : Value} {L : List LN} (h : CopyN B w v L) (ho : Only (fun _ => False) w w') : CopyN B w' v L := h.only ho (fun _ _ f => f)
structure RowS (w : World) (v : Value) (L : List LN) : Prop where
 own : w.ownsRow 0 80 4 v L.length (flatN L)
 each : ∀ n ∈ L, OwnN 0 w n
theorem OwnN.grow {n : LN} (h : OwnN 0 w n) {R : Nat} (hR : w.heap.size ≤ R) (ho : Only (fun k => R ≤ k) w w') : OwnN 0 w' n :=
 h.only ho (fun k hk e => by have := own_lt h.sets hk; omega) (fun k hk e => by have := own_lt h.needs hk; omega)
theorem OwnN.blk {n : LN} (h : OwnN 0 w n) {P : Nat} {c : Array Value} {t : TypeId} {f : Nat × Nat} (hb : w.heap[P]? = some (.cells c t f)) (h2 : 60 ≠ t) (h3 : 9 ≠ t) (ho : Only (fun k => k = P) w w') : OwnN 0 w' n :=
 h.only ho (fun k hk e => own_blk h2 h.sets hb (e ▸ hk)) (fun k hk e => own_blk h3 h.needs hb (e ▸ hk))
theorem RowS.blk {v : Value} {L : List LN} (h : RowS w v L) {P : Nat} {c : Array Value} {t : TypeId} {f : Nat × Nat} (hb : w.heap[P]? = some (.cells c t f)) (h1 : 80 ≠ t) (h2 : 60 ≠ t) (h3 : 9 ≠ t) (ho : Only (fun k => k = P) w w') : RowS w' v L :=
 ⟨own_only h.own ho (fun k hk e => own_blk h1 h.own hb (e ▸ hk)), fun n hn => (h.each n hn).blk hb h2 h3 ho⟩
theorem RowS.only0 {v : Value} {L : List LN} (h : RowS w v L) (ho : Only (fun _ => False) w w') : RowS w' v L :=
 ⟨own_only h.own ho (fun _ _ f => f), fun n hn => (h.each n hn).only ho (fun _ _ f => f) (fun _ _ f => f)⟩
theorem RowS.nil {cap : Nat} (hc : cap = 0) : RowS w (.slice none 0 cap) [] := by subst hc; exact ⟨World.ownsRow_nil _ _ _ _, fun _ h => by cases h⟩
theorem RowS.read {v : Value} {L : List LN} (h : RowS w v L) : RowT 4 NodC w.heap.size w v (L.map LN.x) := by
 refine RowT.of_own (cs := flatN L) (e := 80) (by rw [List.length_map]; exact h.own) fun i hi => ?_
 rw [List.length_map] at hi
 exact ⟨L[i].cells, rfl, fun j u hu => flatN_at L i _ (List.getElem?_eq_getElem hi) j u hu, by rw [List.getElem_map]; exact (h.each _ (List.getElem_mem hi)).read⟩
end
end Go.Proofs.YtmlfchjompfmaaaDoor
