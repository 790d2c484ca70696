/- LkP1 LkP2 LkP3 LkP4, in one text. -/
import Derived.Test.YtmlfchjompfmaaaDoorVnJ
set_option linter.unusedVariables false
namespace Go.Proofs.YtmlfchjompfmaaaDoor.Lk
open Go.RowKit
open Vn (dgs lts isDg isLt partB numB)
abbrev By := List UInt8
structure NB where
 name : By
 version : By
 sets : List (By × By)
 needs : List By
def isNc (c : UInt8) : Bool := isLt c || isDg c || decide (c.toNat = 45)
def nameB (l : By) : Bool := decide (0 < l.length) && decide (l.length ≤ 24) && l.head?.any isLt && l.all isNc
def valueB (l : By) : Bool := nameB l || dgs l && decide (l.length ≤ 3)
def risB : List By → Bool
 | a :: b :: r => decide (a < b) && risB (b :: r)
 | _ => true
def nodeB (n : NB) : Bool := nameB n.name && mayB n.version && decide (n.sets.length ≤ 4) && decide (n.needs.length ≤ 24) && n.sets.all (fun s => nameB s.1 && valueB s.2) && (n.needs.all nameB && risB n.needs)
def graphB (G : List NB) : Bool := G.all nodeB && risB (G.map NB.name) && decide (G.length ≤ 24)
def headL : By := [108, 111, 99, 107, 32, 49]
def nodeP : By := [110, 111, 100, 101, 32]
def needP : By := [32, 32, 110, 101, 101, 100, 115, 32]
def setL (s : By × By) : By := s.1 ++ 61 :: s.2
def nodeL (n : NB) : By := nodeP ++ n.name ++ 32 :: n.version ++ n.sets.flatMap fun s => 32 :: setL s
def needL (s : By) : By := needP ++ s
def nodeLs (n : NB) : List By := nodeL n :: n.needs.map needL
def bodyG (G : List NB) : List By := G.flatMap nodeLs
def joinL (L : List By) : By := L.flatMap fun l => l ++ [10]
def textG (G : List NB) : By := joinL (headL :: bodyG G)
def cutAt (c : UInt8) : By → Option (By × By)
 | [] => none
 | b :: r => if b = c then some ([], r) else (cutAt c r).map fun p => (b :: p.1, p.2)
def setsOf : List By → Option (List (By × By))
 | [] => some []
 | w :: r => match cutAt 61 w with
  | none => none
  | some p => (setsOf r).map fun l => p :: l
def newNode (l : By) : Option NB := match cutB 32 l with
 | a :: b :: r => (setsOf r).map fun s => ⟨a, b, s, []⟩
 | _ => none
def withB (G : List NB) (line : By) : Option (List NB) :=
 if nodeP.isPrefixOf line = true then (newNode (line.drop 5)).map fun n => G ++ [n]
 else if needP.isPrefixOf line = true then (G.getLast?).map fun n => G.dropLast ++ [{ n with needs := n.needs ++ [line.drop 8] }]
 else none
def stepB (G : List NB) (line : By) : Option (List NB) := (withB G line).filter graphB
def goB : List By → Nat → List NB → Except Nat (List NB)
 | [], _, G => .ok G
 | [l], i, G =>
  if 0 < i ∧ l = [] then .ok G
  else if i = 0 then (if l = headL then .error 2 else .error 1)
  else match stepB G l with
   | none => .error (i + 1)
   | some _ => .error (i + 2)
 | l :: m :: r, i, G =>
  if i = 0 then (if l = headL then goB (m :: r) 1 G else .error 1)
  else match stepB G l with
   | none => .error (i + 1)
   | some G' => goB (m :: r) (i + 1) G'
def parseB (s : By) : Except Nat (List NB) := goB (cutB 10 s) 0 []
theorem cut_lines : ∀ {L : List By}, (∀ l ∈ L, ∀ b ∈ l, b ≠ 10) → cutB 10 (joinL L) = L ++ [[]]
 | [], _ => rfl
 | l :: L, h => by
  have ih := cut_lines (L := L) fun x hx => h x (List.mem_cons_of_mem _ hx)
  have e : joinL (l :: L) = l ++ 10 :: joinL L := by simp [joinL]
  rw [e, cutB_at (h l List.mem_cons_self), ih]; rfl
theorem joinB_lines : ∀ (L : List By), joinB 10 (L ++ [[]]) = joinL L
 | [] => rfl
 | [l] => by simp [joinB, joinL]
 | l :: m :: r => by
  have ih := joinB_lines (m :: r)
  have e : joinL (l :: m :: r) = l ++ 10 :: joinL (m :: r) := by simp [joinL]
  rw [e, ← ih]; rfl
theorem of_cut {s : By} {L : List By} (h : cutB 10 s = L ++ [[]]) : s = joinL L := by rw [← joinB_lines, ← h, join_cut]
theorem joinB_cons (c : UInt8) (a : By) : ∀ (r : List By), joinB c (a :: r) = a ++ r.flatMap fun x => c :: x
 | [] => by simp [joinB]
 | b :: r => by
  have ih := joinB_cons c b r
  show a ++ c :: joinB c (b :: r) = _
  rw [ih]; simp
theorem cut_rows {c : UInt8} : ∀ (r : List By) (a : By), (∀ b ∈ a, b ≠ c) → (∀ x ∈ r, ∀ b ∈ x, b ≠ c) → cutB c (a ++ r.flatMap fun x => c :: x) = a :: r
 | [], a, ha, _ => by simp; exact cutB_none ha
 | x :: r, a, ha, hr => by
  have ih := cut_rows r x (hr x List.mem_cons_self) fun y hy => hr y (List.mem_cons_of_mem _ hy)
  have e : (a ++ (x :: r).flatMap fun x => c :: x) = a ++ c :: (x ++ r.flatMap fun x => c :: x) := by simp
  rw [e, cutB_at ha, ih]
theorem cutAt_some {c : UInt8} : ∀ {l : By} {p : By × By}, cutAt c l = some p → l = p.1 ++ c :: p.2
 | [], p, h => by cases h
 | b :: r, p, h => by
  unfold cutAt at h
  by_cases e : b = c
  ·rw [if_pos e] at h
   cases h
   simp [e]
  ·rw [if_neg e] at h
   cases hc : cutAt c r with
   | none => rw [hc] at h; cases h
   | some q =>
    rw [hc] at h
    cases h
    simp [cutAt_some hc]
theorem cutAt_at {c : UInt8} : ∀ {l r : By}, (∀ b ∈ l, b ≠ c) → cutAt c (l ++ c :: r) = some (l, r)
 | [], r, _ => by simp [cutAt]
 | x :: l, r, h => by
  have ih := cutAt_at (r := r) fun b hb => h b (List.mem_cons_of_mem _ hb)
  show cutAt c (x :: (l ++ c :: r)) = _
  unfold cutAt
  rw [if_neg (h x List.mem_cons_self), ih]; rfl
theorem setsOf_some : ∀ {r : List By} {s : List (By × By)}, setsOf r = some s → r = s.map setL
 | [], s, h => by cases h; rfl
 | w :: r, s, h => by
  unfold setsOf at h
  cases hc : cutAt 61 w with
  | none => rw [hc] at h; cases h
  | some p =>
   rw [hc] at h
   cases hs : setsOf r with
   | none => simp [hs] at h
   | some l =>
    simp only [hs, Option.map_some, Option.some.injEq] at h
    subst h
    rw [List.map_cons, ← setsOf_some hs, setL, ← cutAt_some hc]
theorem setsOf_at : ∀ {s : List (By × By)}, (∀ p ∈ s, ∀ b ∈ p.1, b ≠ 61) → setsOf (s.map setL) = some s
 | [], _ => rfl
 | p :: s, h => by
  have ih := setsOf_at (s := s) fun q hq => h q (List.mem_cons_of_mem _ hq)
  rw [List.map_cons]
  unfold setsOf
  rw [setL, cutAt_at (h p List.mem_cons_self)]
  simp [ih]
theorem isNc_ne {c : UInt8} (h : isNc c = true) : c ≠ 10 ∧ c ≠ 32 ∧ c ≠ 61 := by
 unfold isNc isLt isDg at h
 simp only [Bool.or_eq_true, decide_eq_true_eq] at h
 refine ⟨?_, ?_, ?_⟩ <;> rintro rfl <;> revert h <;> decide
theorem name_ne {l : By} (h : nameB l = true) : ∀ b ∈ l, b ≠ 10 ∧ b ≠ 32 ∧ b ≠ 61 := fun b hb => by
 unfold nameB at h
 simp only [Bool.and_eq_true, List.all_eq_true] at h
 exact isNc_ne (h.2 b hb)
theorem dgs_ne {l : By} (h : dgs l = true) : ∀ b ∈ l, b ≠ 10 ∧ b ≠ 32 ∧ b ≠ 61 := fun b hb => by
 unfold dgs at h
 simp only [Bool.and_eq_true, List.all_eq_true] at h
 exact isNc_ne (by unfold isNc; rw [h.1 b hb]; simp)
theorem lts_ne {l : By} (h : lts l = true) : ∀ b ∈ l, b ≠ 10 ∧ b ≠ 32 ∧ b ≠ 61 := fun b hb => by
 unfold lts at h
 simp only [Bool.and_eq_true, List.all_eq_true] at h
 exact isNc_ne (by unfold isNc; rw [h.1 b hb]; simp)
theorem value_ne {l : By} (h : valueB l = true) : ∀ b ∈ l, b ≠ 10 ∧ b ≠ 32 := fun b hb => by
 unfold valueB at h
 simp only [Bool.or_eq_true, Bool.and_eq_true] at h
 rcases h with h | h
 ·exact ⟨(name_ne h b hb).1, (name_ne h b hb).2.1⟩
 ·exact ⟨(dgs_ne h.1 b hb).1, (dgs_ne h.1 b hb).2.1⟩
theorem part_ne10 {l : By} (h : partB l = true) : ∀ b ∈ l, b ≠ 10 ∧ b ≠ 32 := fun b hb => by
 unfold partB numB at h
 simp only [Bool.or_eq_true, Bool.and_eq_true] at h
 rcases h with h | h
 ·exact ⟨(lts_ne h b hb).1, (lts_ne h b hb).2.1⟩
 ·exact ⟨(dgs_ne h.1.1 b hb).1, (dgs_ne h.1.1 b hb).2.1⟩
theorem mem_joinB {c : UInt8} : ∀ {L : List By} {b : UInt8}, b ∈ joinB c L → b = c ∨ ∃ a ∈ L, b ∈ a
 | [], b, h => by cases h
 | [a], b, h => .inr ⟨a, List.mem_cons_self, h⟩
 | a :: a' :: r, b, h => by
  have h' : b ∈ a ++ c :: joinB c (a' :: r) := h
  rcases List.mem_append.1 h' with h | h
  ·exact .inr ⟨a, List.mem_cons_self, h⟩
  ·rcases List.mem_cons.1 h with h | h
   ·exact .inl h
   ·rcases mem_joinB h with h | ⟨x, hx, h⟩
    ·exact .inl h
    ·exact .inr ⟨x, List.mem_cons_of_mem _ hx, h⟩
theorem may_ne {l : By} (h : mayB l = true) : ∀ b ∈ l, b ≠ 10 ∧ b ≠ 32 := fun b hb => by
 have hp := may_parts h
 rw [← join_cut 46 l] at hb
 rcases mem_joinB hb with rfl | ⟨a, ha, hba⟩
 ·decide
 ·exact part_ne10 (hp a ha) b hba
structure Fine (n : NB) : Prop where
 name : nameB n.name = true
 ver : mayB n.version = true
 s4 : n.sets.length ≤ 4
 n24 : n.needs.length ≤ 24
 sets : ∀ s ∈ n.sets, nameB s.1 = true ∧ valueB s.2 = true
 needs : ∀ s ∈ n.needs, nameB s = true
 ris : risB n.needs = true
theorem nodeB_iff {n : NB} : nodeB n = true ↔ Fine n := by
 unfold nodeB
 simp only [Bool.and_eq_true, decide_eq_true_eq, List.all_eq_true]
 exact ⟨fun ⟨⟨⟨⟨⟨a, b⟩, c⟩, d⟩, e⟩, f, g⟩ => ⟨a, b, c, d, e, f, g⟩, fun ⟨a, b, c, d, e, f, g⟩ => ⟨⟨⟨⟨⟨a, b⟩, c⟩, d⟩, e⟩, f, g⟩⟩
theorem graphB_iff {G : List NB} : graphB G = true ↔ (∀ n ∈ G, Fine n) ∧ risB (G.map NB.name) = true ∧ G.length ≤ 24 := by
 unfold graphB
 simp only [Bool.and_eq_true, decide_eq_true_eq, List.all_eq_true, nodeB_iff]
 exact ⟨fun ⟨⟨a, b⟩, c⟩ => ⟨a, b, c⟩, fun ⟨a, b, c⟩ => ⟨⟨a, b⟩, c⟩⟩
def lastB (l : List By) (x : By) : Bool := match l.getLast? with
 | none => true
 | some a => decide (a < x)
theorem ris_snoc : ∀ {l : List By} {x : By}, risB (l ++ [x]) = (risB l && lastB l x)
 | [], x => rfl
 | [a], x => by simp [risB, lastB]
 | a :: b :: r, x => by
  have ih := ris_snoc (l := b :: r) (x := x)
  have e : risB (a :: b :: r ++ [x]) = (decide (a < b) && risB (b :: r ++ [x])) := rfl
  have e2 : risB (a :: b :: r) = (decide (a < b) && risB (b :: r)) := rfl
  have e3 : lastB (a :: b :: r) x = lastB (b :: r) x := by
   unfold lastB
   rw [show (a :: b :: r).getLast? = (b :: r).getLast? by simp [List.getLast?_cons]]
  rw [e, ih, e2, e3, Bool.and_assoc]
theorem graph_snoc {G : List NB} {n : NB} : graphB (G ++ [n]) = (graphB G && nodeB n && lastB (G.map NB.name) n.name && decide (G.length < 24)) := by
 unfold graphB
 rw [List.all_append, List.map_append, List.map_cons, List.map_nil, ris_snoc]
 have e2 : decide ((G ++ [n]).length ≤ 24) = (decide (G.length ≤ 24) && decide (G.length < 24)) := by
  rw [List.length_append, List.length_singleton, ← Bool.decide_and]
  exact decide_eq_decide.2 (by omega)
 rw [e2]
 have e3 : [n].all nodeB = nodeB n := by simp
 rw [e3]
 generalize lastB (G.map NB.name) n.name = m
 generalize G.all nodeB = p1
 generalize risB (G.map NB.name) = p2
 generalize decide (G.length ≤ 24) = p3
 generalize decide (G.length < 24) = p4
 generalize nodeB n = p5
 cases p1 <;> cases p2 <;> cases p3 <;> cases p4 <;> cases p5 <;> cases m <;> rfl
end Go.Proofs.YtmlfchjompfmaaaDoor.Lk
namespace Go.Proofs.YtmlfchjompfmaaaDoor.Lk
open Go.RowKit
open Vn (dgs lts isDg isLt partB numB)
theorem last_split {α : Type} {G : List α} {n : α} (h : G.getLast? = some n) : G = G.dropLast ++ [n] := by
 obtain ⟨ys, rfl⟩ := List.getLast?_eq_some_iff.1 h
 rw [List.dropLast_concat]
theorem graph_parts {G : List NB} (h : graphB G = true) : (∀ n ∈ G, Fine n) ∧ risB (G.map NB.name) = true ∧ G.length ≤ 24 := graphB_iff.1 h
theorem graph_init {G : List NB} {n : NB} (h : graphB (G ++ [n]) = true) : graphB G = true := by
 rw [graph_snoc] at h
 simp only [Bool.and_eq_true] at h
 exact h.1.1.1
theorem graph_same {G : List NB} {n m : NB} (h : graphB (G ++ [n]) = true) (hm : nodeB m = true) (hn : m.name = n.name) : graphB (G ++ [m]) = true := by
 rw [graph_snoc] at h ⊢
 rw [hm, hn]
 simp only [Bool.and_eq_true] at h
 simp [h.1.1.1, h.1.2, h.2]
theorem body_snoc (G : List NB) (n : NB) : bodyG (G ++ [n]) = bodyG G ++ nodeLs n := by simp [bodyG]
theorem pre_node (l : By) : nodeP.isPrefixOf (nodeP ++ l) = true := by rw [List.isPrefixOf_iff_prefix]; exact ⟨l, rfl⟩
theorem pre_need (l : By) : needP.isPrefixOf (needP ++ l) = true := by rw [List.isPrefixOf_iff_prefix]; exact ⟨l, rfl⟩
theorem not_node (l : By) : nodeP.isPrefixOf (needP ++ l) = false := rfl
theorem of_pre {p l : By} (h : p.isPrefixOf l = true) : l = p ++ l.drop p.length := by
 obtain ⟨r, rfl⟩ := List.isPrefixOf_iff_prefix.1 h
 simp
theorem newNode_some {l : By} {n : NB} (h : newNode l = some n) : nodeP ++ l = nodeL n ∧ n.needs = [] := by
 unfold newNode at h
 split at h
 ·rename_i a b r hc
  cases hs : setsOf r with
  | none => rw [hs] at h; cases h
  | some s =>
   rw [hs] at h
   cases h
   refine ⟨?_, rfl⟩
   have e := join_cut 32 l
   rw [hc, joinB_cons, setsOf_some hs] at e
   rw [← e]
   simp [nodeL, List.flatMap_map]
 ·cases h
theorem newNode_at {n : NB} (h : Fine n) (hn : n.needs = []) : newNode (n.name ++ 32 :: n.version ++ n.sets.flatMap fun s => 32 :: setL s) = some n := by
 have e : (n.name ++ 32 :: n.version ++ n.sets.flatMap fun s => 32 :: setL s) = n.name ++ (n.version :: n.sets.map setL).flatMap fun x => 32 :: x := by simp [List.flatMap_map]
 unfold newNode
 rw [e, cut_rows _ _ (fun b hb => (name_ne h.name b hb).2.1)]
 ·simp only
  rw [setsOf_at fun p hp b hb => (name_ne (h.sets p hp).1 b hb).2.2]
  obtain ⟨a, b, c, d⟩ := n
  cases hn
  rfl
 ·intro x hx b hb
  rcases List.mem_cons.1 hx with rfl | hx
  ·exact (may_ne h.ver b hb).2
  ·obtain ⟨s, hs, rfl⟩ := List.mem_map.1 hx
   have hs' := h.sets s hs
   rcases List.mem_append.1 hb with hb | hb
   ·exact (name_ne hs'.1 b hb).2.1
   ·rcases List.mem_cons.1 hb with rfl | hb
    ·decide
    ·exact (value_ne hs'.2 b hb).2
theorem step_some {G G' : List NB} {l : By} (h : stepB G l = some G') : graphB G' = true ∧ bodyG G' = bodyG G ++ [l] := by
 unfold stepB at h
 rw [Option.filter_eq_some_iff] at h
 obtain ⟨h, hg⟩ := h
 refine ⟨hg, ?_⟩
 unfold withB at h
 split at h
 ·rename_i hp
  cases hn : newNode (l.drop 5) with
  | none => rw [hn] at h; cases h
  | some n =>
   rw [hn] at h
   cases h
   obtain ⟨e1, e2⟩ := newNode_some hn
   have e3 : l = nodeL n := by rw [← e1]; exact of_pre hp
   rw [body_snoc, nodeLs, e2, ← e3]; rfl
 ·split at h
  ·rename_i hp
   cases hn : G.getLast? with
   | none => rw [hn] at h; cases h
   | some n =>
    rw [hn] at h
    cases h
    have e1 : G = G.dropLast ++ [n] := last_split hn
    have e2 : l = needL (l.drop 8) := of_pre hp
    rw [body_snoc]
    conv => rhs; rw [e1, body_snoc]
    rw [List.append_assoc]
    congr 1
    simp only [nodeLs, List.map_append, List.map_cons, List.map_nil, ← e2]
    rfl
  ·cases h
theorem step_node {G : List NB} {n : NB} (h : graphB (G ++ [n]) = true) (hn : n.needs = []) : stepB G (nodeL n) = some (G ++ [n]) := by
 have hf : Fine n := (graph_parts h).1 n (by simp)
 have e : nodeL n = nodeP ++ (n.name ++ 32 :: n.version ++ n.sets.flatMap fun s => 32 :: setL s) := by simp [nodeL]
 unfold stepB withB
 rw [e, if_pos (pre_node _)]
 have e2 : (nodeP ++ (n.name ++ 32 :: n.version ++ n.sets.flatMap fun s => 32 :: setL s)).drop 5 = n.name ++ 32 :: n.version ++ n.sets.flatMap fun s => 32 :: setL s := List.drop_left' rfl
 rw [e2, newNode_at hf hn, Option.map_some, Option.filter_some, if_pos h]
theorem step_need {G : List NB} {n : NB} {x : By} (h : graphB (G ++ [{ n with needs := n.needs ++ [x] }]) = true) : stepB (G ++ [n]) (needL x) = some (G ++ [{ n with needs := n.needs ++ [x] }]) := by
 unfold stepB withB needL
 rw [not_node, if_neg (by simp), if_pos (pre_need _)]
 have e2 : (needP ++ x).drop 8 = x := List.drop_left' rfl
 rw [e2, List.getLast?_concat, Option.map_some, List.dropLast_concat, Option.filter_some, if_pos h]
theorem ris_take {l : List By} : ∀ {m : List By}, risB (l ++ m) = true → risB l = true := by
 induction l with
 | nil => intro _ _; rfl
 | cons a r ih =>
  intro m h
  cases r with
  | nil => rfl
  | cons b r =>
   have e : risB (a :: b :: r ++ m) = (decide (a < b) && risB (b :: r ++ m)) := rfl
   rw [e, Bool.and_eq_true] at h
   show (decide (a < b) && risB (b :: r)) = true
   rw [h.1, ih h.2]; rfl
theorem node_less {n : NB} {a b : List By} (h : nodeB { n with needs := a ++ b } = true) : nodeB { n with needs := a } = true := by
 rw [nodeB_iff] at h ⊢
 exact ⟨h.name, h.ver, h.s4, by have := h.n24; simp at this; show a.length ≤ 24; omega, h.sets, fun s hs => h.needs s (List.mem_append_left _ hs), ris_take h.ris⟩
def runB (G : List NB) (L : List By) : Option (List NB) := L.foldlM stepB G
theorem run_nil (G : List NB) : runB G [] = some G := rfl
theorem run_cons (G : List NB) (l : By) (L : List By) : runB G (l :: L) = (stepB G l).bind fun G' => runB G' L := rfl
theorem run_append (G : List NB) (L M : List By) : runB G (L ++ M) = (runB G L).bind fun G' => runB G' M := by unfold runB; rw [List.foldlM_append]; rfl
theorem run_needs {G : List NB} {n : NB} : ∀ (r : List By) (a : List By), graphB (G ++ [{ n with needs := a ++ r }]) = true → runB (G ++ [{ n with needs := a }]) (r.map needL) = some (G ++ [{ n with needs := a ++ r }])
 | [], a, _ => by simp [run_nil]
 | x :: r, a, h => by
  have e : a ++ x :: r = (a ++ [x]) ++ r := by simp
  rw [e] at h ⊢
  have hg : graphB (G ++ [{ n with needs := a ++ [x] }]) = true := graph_same h (node_less (n := n) (b := r) (nodeB_iff.2 ((graph_parts h).1 { n with needs := (a ++ [x]) ++ r } (by simp)))) rfl
  have hs := step_need (G := G) (n := { n with needs := a }) (x := x) hg
  rw [List.map_cons, run_cons, hs, Option.bind_some]
  exact run_needs r (a ++ [x]) h
theorem run_node {G : List NB} {n : NB} (h : graphB (G ++ [n]) = true) : runB G (nodeLs n) = some (G ++ [n]) := by
 obtain ⟨a, b, c, d⟩ := n
 have hg : graphB (G ++ [⟨a, b, c, []⟩]) = true := graph_same h (node_less (n := ⟨a, b, c, d⟩) (a := []) (b := d) (nodeB_iff.2 ((graph_parts h).1 _ (by simp)))) rfl
 have h1 := step_node hg rfl
 have h2 := run_needs (G := G) (n := ⟨a, b, c, d⟩) d [] h
 unfold nodeLs
 rw [run_cons]
 have e : nodeL ⟨a, b, c, d⟩ = nodeL ⟨a, b, c, []⟩ := rfl
 rw [e, h1, Option.bind_some]
 exact h2
theorem run_body : ∀ (r G : List NB), graphB (G ++ r) = true → runB G (bodyG r) = some (G ++ r)
 | [], G, _ => by simp [bodyG, run_nil]
 | n :: r, G, h => by
  have e : G ++ n :: r = (G ++ [n]) ++ r := by simp
  rw [e] at h ⊢
  have hp : ∀ (r H : List NB), graphB (H ++ r) = true → graphB H = true := by
   intro r
   induction r with
   | nil => intro H h; simpa using h
   | cons m r ih =>
    intro H h
    have e : H ++ m :: r = (H ++ [m]) ++ r := by simp
    rw [e] at h
    exact graph_init (ih _ h)
  have e2 : bodyG (n :: r) = nodeLs n ++ bodyG r := by simp [bodyG]
  rw [e2, run_append, run_node (hp r _ h), Option.bind_some]
  exact run_body r _ h
theorem graph_nil : graphB [] = true := rfl
theorem run_some : ∀ {L : List By} {G G' : List NB}, graphB G = true → runB G L = some G' → graphB G' = true ∧ bodyG G' = bodyG G ++ L
 | [], G, G', hg, h => by
  cases h
  exact ⟨hg, by simp⟩
 | l :: L, G, G', hg, h => by
  rw [run_cons] at h
  cases hs : stepB G l with
  | none => rw [hs] at h; cases h
  | some G1 =>
   rw [hs, Option.bind_some] at h
   obtain ⟨h1, h2⟩ := step_some hs
   obtain ⟨h3, h4⟩ := run_some h1 h
   exact ⟨h3, by rw [h4, h2]; simp⟩
theorem line_ne {G : List NB} (h : graphB G = true) : ∀ l ∈ headL :: bodyG G, ∀ b ∈ l, b ≠ 10 := by
 intro l hl b hb
 rcases List.mem_cons.1 hl with rfl | hl
 ·rintro rfl
  exact absurd hb (by decide)
 ·obtain ⟨n, hn, hl⟩ := List.mem_flatMap.1 hl
  have hf := (graph_parts h).1 n hn
  rcases List.mem_cons.1 hl with rfl | hl
  ·simp only [nodeL, List.mem_append, List.mem_cons, List.mem_flatMap] at hb
   rcases hb with ((hb | hb) | hb | hb) | ⟨s, hs, hb⟩
   ·rintro rfl
    exact absurd hb (by decide)
   ·exact (name_ne hf.name b hb).1
   ·subst hb; decide
   ·exact (may_ne hf.ver b hb).1
   ·have hs' := hf.sets s hs
    simp only [setL, List.mem_append, List.mem_cons] at hb
    rcases hb with hb | hb | hb | hb
    ·subst hb; decide
    ·exact (name_ne hs'.1 b hb).1
    ·subst hb; decide
    ·exact (value_ne hs'.2 b hb).1
  ·obtain ⟨s, hs, rfl⟩ := List.mem_map.1 hl
   simp only [needL, List.mem_append] at hb
   rcases hb with hb | hb
   ·rintro rfl
    exact absurd hb (by decide)
   ·exact (name_ne (hf.needs s hs) b hb).1
theorem go_run : ∀ (L : List By) (i : Nat) (G : List NB), 0 < i → (goB (L ++ [[]]) i G = match runB G L with | some G' => .ok G' | none => goB (L ++ [[]]) i G)
 | [], i, G, hi => by simp [goB, run_nil, hi]
 | l :: L, i, G, hi => by
  rw [run_cons]
  have hne : ∃ m r, L ++ [[]] = m :: r := by cases L with
   | nil => exact ⟨_, _, rfl⟩
   | cons a t => exact ⟨_, _, rfl⟩
  obtain ⟨m, r, hm⟩ := hne
  have e : goB (l :: L ++ [[]]) i G = match stepB G l with | none => .error (i + 1) | some G' => goB (L ++ [[]]) (i + 1) G' := by
   show goB (l :: (L ++ [[]])) i G = _
   rw [hm]
   show (if i = 0 then _ else _) = _
   rw [if_neg (by omega)]
   try (cases stepB G l <;> rfl)
  cases hs : stepB G l with
  | none => rfl
  | some G1 =>
   rw [hs] at e
   simp only at e
   rw [Option.bind_some]
   cases hr : runB G1 L with
   | none => rfl
   | some G2 =>
    rw [e, go_run L (i + 1) G1 (by omega), hr]
theorem go_lines {L : List By} {G : List NB} (h : runB [] L = some G) : goB (headL :: L ++ [[]]) 0 [] = .ok G := by
 have hne : ∃ m r, L ++ [[]] = m :: r := by cases L with
  | nil => exact ⟨_, _, rfl⟩
  | cons a t => exact ⟨_, _, rfl⟩
 obtain ⟨m, r, hm⟩ := hne
 have e : goB (headL :: L ++ [[]]) 0 [] = goB (L ++ [[]]) 1 [] := by
  show goB (headL :: (L ++ [[]])) 0 [] = _
  rw [hm]; rfl
 rw [e, go_run L 1 [] (by omega), h]
theorem parse_lines {L : List By} {G : List NB} (h : runB [] L = some G) (hne : ∀ l ∈ L, ∀ b ∈ l, b ≠ 10) : parseB (joinL (headL :: L)) = .ok G := by
 unfold parseB
 rw [cut_lines]
 ·exact go_lines h
 ·intro l hl b hb
  rcases List.mem_cons.1 hl with rfl | hl
  ·rintro rfl
   exact absurd hb (by decide)
  ·exact hne l hl b hb
theorem parse_text {G : List NB} (h : graphB G = true) : parseB (textG G) = .ok G :=
 parse_lines (run_body G [] h) fun l hl => line_ne h l (List.mem_cons_of_mem _ hl)
theorem go_ok : ∀ {L : List By} {i : Nat} {G G' : List NB}, 0 < i → L ≠ [] → goB L i G = .ok G' → ∃ M, L = M ++ [[]] ∧ runB G M = some G'
 | [], i, G, G', hi, hne, h => absurd rfl hne
 | [l], i, G, G', hi, hne, h => by
  unfold goB at h
  split at h
  ·rename_i c
   cases h
   exact ⟨[], by rw [c.2]; rfl, rfl⟩
  ·rw [if_neg (by omega)] at h
   split at h <;> cases h
 | l :: m :: r, i, G, G', hi, hne, h => by
  unfold goB at h
  rw [if_neg (by omega)] at h
  cases hs : stepB G l with
  | none => rw [hs] at h; cases h
  | some G1 =>
   rw [hs] at h
   obtain ⟨M, e, hr⟩ := go_ok (by omega) (by simp) h
   exact ⟨l :: M, by rw [e]; rfl, by rw [run_cons, hs, Option.bind_some, hr]⟩
theorem parse_some {s : By} {G : List NB} (h : parseB s = .ok G) : graphB G = true ∧ textG G = s := by
 unfold parseB at h
 cases hc : cutB 10 s with
 | nil => exact absurd hc (cutB_ne 10 s)
 | cons l L =>
  rw [hc] at h
  cases L with
  | nil =>
   unfold goB at h
   rw [if_neg (by simp), if_pos rfl] at h
   split at h <;> cases h
  | cons m r =>
   unfold goB at h
   rw [if_pos rfl] at h
   split at h
   ·rename_i hl
    subst hl
    obtain ⟨M, e, hr⟩ := go_ok (by omega) (by simp) h
    obtain ⟨g1, g2⟩ := run_some graph_nil hr
    have g3 : bodyG G = M := by rw [g2]; rfl
    refine ⟨g1, ?_⟩
    unfold textG
    rw [g3]
    have : cutB 10 s = (headL :: M) ++ [[]] := by rw [hc, e]; rfl
    exact (of_cut this).symm
   ·cases h
end Go.Proofs.YtmlfchjompfmaaaDoor.Lk
namespace Go.Proofs.YtmlfchjompfmaaaDoor.Lk
open Go.RowKit
open Vn (dgs lts isDg isLt partB numB)
def okSet (p : By × By) : Bool := nameB p.1 && valueB p.2
def setsP : List By → Option (List (By × By))
 | [] => some []
 | w :: r => match cutAt 61 w with
  | none => none
  | some p => if okSet p = true then (setsP r).map fun l => p :: l else none
def lastLt (G : List NB) (a : By) : Bool := lastB (G.map NB.name) a
def lastNeed (n : NB) (x : By) : Bool := lastB n.needs x
def readsP (G : List NB) (l : By) : Option (List NB) := match cutB 32 l with
 | a :: b :: r => if r.length ≤ 4 ∧ G.length ≠ 24 ∧ nameB a = true ∧ mayB b = true ∧ lastLt G a = true then (setsP r).map fun s => G ++ [⟨a, b, s, []⟩] else none
 | _ => none
def wantsP (G : List NB) (x : By) : Option (List NB) := match G.getLast? with
 | none => none
 | some n => if nameB x = true ∧ n.needs.length ≠ 24 ∧ lastNeed n x = true then some (G.dropLast ++ [{ n with needs := n.needs ++ [x] }]) else none
def oneP (G : List NB) (line : By) : Option (List NB) :=
 if nodeP.isPrefixOf line = true then readsP G (line.drop 5)
 else if needP.isPrefixOf line = true then wantsP G (line.drop 8)
 else none
theorem setsP_eq : ∀ (r : List By), setsP r = (setsOf r).filter fun s => s.all okSet
 | [] => rfl
 | w :: r => by
  have ih := setsP_eq r
  unfold setsP setsOf
  cases cutAt 61 w with
  | none => rfl
  | some p =>
   simp only
   cases hs : setsOf r with
   | none => rw [ih, hs]; by_cases h : okSet p = true <;> simp [h]
   | some s =>
    rw [ih, hs]
    by_cases h : okSet p = true
    ·by_cases h2 : s.all okSet = true <;> simp [h, h2, Option.filter_some]
    ·simp [h, Option.filter_some]
theorem setsOf_len {r : List By} {s : List (By × By)} (h : setsOf r = some s) : s.length = r.length := by rw [setsOf_some h]; simp
theorem node_new (a b : By) (s : List (By × By)) : nodeB ⟨a, b, s, []⟩ = (nameB a && mayB b && decide (s.length ≤ 4) && s.all okSet) := by
 unfold nodeB
 have e : (s.all fun s => nameB s.1 && valueB s.2) = s.all okSet := rfl
 simp [e, risB]
theorem reads_new {G : List NB} (h : graphB G = true) (l : By) : readsP G l = ((newNode l).map fun n => G ++ [n]).filter graphB := by
 have hG := (graph_parts h).2.2
 unfold readsP newNode
 cases cutB 32 l with
 | nil => rfl
 | cons a r => cases r with
  | nil => rfl
  | cons b r =>
   simp only
   rw [setsP_eq]
   cases hs : setsOf r with
   | none => simp
   | some s =>
    have hl := setsOf_len hs
    simp only [Option.map_some, Option.filter_some, graph_snoc, node_new, h, Bool.true_and, hl]
    rw [show lastB (G.map NB.name) a = lastLt G a from rfl]
    by_cases c1 : r.length ≤ 4 ∧ G.length ≠ 24 ∧ nameB a = true ∧ mayB b = true ∧ lastLt G a = true
    ·rw [if_pos c1]
     obtain ⟨c1, c2, c3, c4, c5⟩ := c1
     have : G.length < 24 := by omega
     by_cases c6 : s.all okSet = true
     ·simp [c1, c3, c4, c5, c6, this]
     ·rw [Bool.not_eq_true] at c6
      simp [c6]
    ·rw [if_neg c1, if_neg]
     intro c
     simp only [Bool.and_eq_true, decide_eq_true_eq] at c
     exact c1 ⟨c.1.1.1.2, by omega, c.1.1.1.1.1, c.1.1.1.1.2, c.1.2⟩
theorem wants_new {G : List NB} (h : graphB G = true) (x : By) : wantsP G x = ((G.getLast?).map fun n => G.dropLast ++ [{ n with needs := n.needs ++ [x] }]).filter graphB := by
 unfold wantsP
 cases hn : G.getLast? with
 | none => rfl
 | some n =>
  have e1 : G = G.dropLast ++ [n] := last_split hn
  rw [e1] at h
  simp only [Option.map_some, Option.filter_some]
  have hs := h
  rw [graph_snoc] at hs
  simp only [Bool.and_eq_true] at hs
  have e3 : nodeB { n with needs := n.needs ++ [x] } = (nameB x && decide (n.needs.length ≠ 24) && lastNeed n x) := by
   have hn' : nodeB n = true := hs.1.1.2
   unfold nodeB at hn' ⊢
   simp only [Bool.and_eq_true] at hn'
   obtain ⟨⟨⟨⟨⟨a1, a2⟩, a3⟩, a4⟩, a5⟩, a6, a7⟩ := hn'
   have e4 : decide ((n.needs ++ [x]).length ≤ 24) = decide (n.needs.length ≠ 24) := decide_eq_decide.2 (by have := of_decide_eq_true a4; simp; omega)
   have e6 : (n.needs ++ [x]).all nameB = nameB x := by rw [List.all_append, a6]; simp
   rw [e4, e6, ris_snoc, a1, a2, a3, a5, a7]
   unfold lastNeed
   generalize nameB x = p1
   generalize decide (n.needs.length ≠ 24) = p2
   generalize lastB n.needs x = p3
   cases p1 <;> cases p2 <;> cases p3 <;> rfl
  have e2 : graphB (G.dropLast ++ [{ n with needs := n.needs ++ [x] }]) = (nameB x && decide (n.needs.length ≠ 24) && lastNeed n x) := by
   rw [graph_snoc, e3, hs.1.1.1, hs.2]
   have hl : lastB (G.dropLast.map NB.name) n.name = true := hs.1.2
   show (true && _ && lastB (G.dropLast.map NB.name) n.name && true) = _
   rw [hl]
   simp
  rw [e2]
  by_cases c : nameB x = true ∧ n.needs.length ≠ 24 ∧ lastNeed n x = true
  ·rw [if_pos c, if_pos (by simp [c.1, c.2.1, c.2.2])]
  ·rw [if_neg c, if_neg]
   intro h
   simp only [Bool.and_eq_true, decide_eq_true_eq] at h
   exact c ⟨h.1.1, h.1.2, h.2⟩
theorem one_step {G : List NB} (h : graphB G = true) (l : By) : oneP G l = stepB G l := by
 unfold oneP stepB withB
 split
 ·exact reads_new h _
 ·split
  ·exact wants_new h _
  ·rfl
end Go.Proofs.YtmlfchjompfmaaaDoor.Lk
namespace Go.Proofs.YtmlfchjompfmaaaDoor.Lk
open Go.RowKit
end Go.Proofs.YtmlfchjompfmaaaDoor.Lk
