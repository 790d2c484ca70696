/- Region Region2 Region3 Region4, in one text. -/
import Derived.WalkKit
import Derived.Deep.RegionHeld3
set_option linter.unusedVariables false
namespace Go.Proofs.YtmlfchjompfmaaaGreatDoor
section
variable {P : Program} {ops : Array Oper} {Q : Exit → Act → World → Prop} {md : Region.Mode} {S : World → Prop} {E : Nat → Bool}
def Gives (P : Program) (ops : Array Oper) (S : World → Prop) (o : Oper) (v : Value) (a : Act) : Prop :=
 (Region.wanted o (yielded ops a.tmps) = true ∧ ∀ w, S w → (execOp a.eval o).run P w = .ok (.value v) w ∨ ∃ f args, (execOp a.eval o).run P w = .ok (.enter f args) w ∧ Calls P f args w fun e w' => e = .returned v ∧ w = w') ∨
 (Region.wanted o (yielded ops a.tmps) = false ∧ v = undef)
theorem Gives.of_same {o : Oper} {v : Value} {a a' : Act} (hy : Gives P ops S o v a) (he : execOp a'.eval o = execOp a.eval o)
  (hw : Region.wanted o (yielded ops a'.tmps) = Region.wanted o (yielded ops a.tmps)) : Gives P ops S o v a' := by
 rcases hy with ⟨h1, h2⟩ | ⟨h1, h2⟩
 ·exact .inl ⟨by rw [hw]; exact h1, fun w hS => by rw [he]; exact h2 w hS⟩
 ·exact .inr ⟨by rw [hw]; exact h1, h2⟩
theorem Gives.wpOp {i : Nat} {o : Oper} {v : Value} {a : Act} (hi : ops[i]? = some o) (hy : Gives P ops S o v a)
  {K : Act → World → Prop} {w : World} (hS : S w) (h : K (a.put o.dst v) w) : wpOp P ops Q i K a w := by
 unfold Go.wpOp
 rcases hy with ⟨want, run⟩ | ⟨want, rfl⟩
 ·simp only [hi, want, if_true]
  refine .inl ?_
  unfold Oper.wp
  rcases run w hS with hr | ⟨f, args, hr, hc⟩
  ·rw [hr]
   simp only [Oper.upon]; exact h
  ·rw [hr]
   simp only [Oper.upon]
   refine hc.mono fun e w' he => ?_
   obtain ⟨rfl, rfl⟩ := he
   exact h
 ·simp only [hi, want, Bool.false_eq_true, if_false]
  exact h
theorem wpOp_putG {j : Nat} {oi oj : Oper} {v : Value} (hj : ops[j]? = some oj) (hap : oi.apart ops oj = true)
  (hsi : ∀ cs b, oi.op ≠ .select cs b) (hsj : ∀ cs b, oj.op ≠ .select cs b)
  (hQ : ∀ c a w, Q (.panic c) (a.put oi.dst v) w → Q (.panic c) a w) {K : Act → World → Prop} {a : Act} {w : World}
  (hy : Gives P ops S oi v a) (h : wpOp P ops Q j K (a.put oi.dst v) w) :
  wpOp P ops Q j (fun a' w' => Gives P ops S oi v a' ∧ K (a'.put oi.dst v) w') a w := by
 obtain ⟨h1, h2, h3⟩ := Oper.apart_spec hap
 have keep : ∀ (a : Act), Gives P ops S oi v a → ∀ u, Gives P ops S oi v (a.put oj.dst u) := fun a hy u =>
  hy.of_same (execOp_put oi hsi a oj.dst u h3) (wanted_put oi a oj.dst u h3)
 have keepD : ∀ d, Gives P ops S oi v { a with defers := d :: a.defers } := fun d => hy.of_same rfl rfl
 unfold wpOp at *
 simp only [hj] at *
 rw [wanted_put oj a oi.dst v h1] at h
 split
 ·rename_i hw
  simp only [hw, if_true] at h
  rcases h with h | ⟨hasks, hlets⟩
  case inr => exact .inr ⟨by unfold Oper.asks at *; rw [execOp_put oj hsj a oi.dst v h1] at hasks; exact hasks, hlets⟩
  refine .inl ?_
  unfold Oper.wp at *
  rw [execOp_put oj hsj a oi.dst v h1] at h
  generalize (execOp a.eval oj).run P w = r at *
  cases r with
  | ok n w' =>
   cases n <;> simp only [Oper.upon] at h ⊢
   case value u => exact ⟨keep a hy u, by rw [← Act.put_comm a v u h2]; exact h⟩
   case skip => exact ⟨keep a hy _, by rw [← Act.put_comm a v undef h2]; exact h⟩
   case defer d =>
    refine ⟨keep _ (keepD d) _, ?_⟩
    rw [← Act.put_comm _ v undef h2, ← Act.put_defers]
    exact h
   case enter f args =>
    refine Calls.mono h fun e w'' he => ?_
    cases e with
    | returned u => exact ⟨keep a hy u, by rw [← Act.put_comm a v u h2]; exact he⟩
    | panicked c => exact hQ _ _ _ he
    | outgrown => exact he
   case row row args => exact Rows.mono h fun u w'' he => ⟨keep a hy u, by rw [← Act.put_comm a v u h2]; exact he⟩
  | halt x w' =>
   cases x <;> simp only [Oper.upon] at h ⊢
   case panic u => exact hQ _ _ _ h
 ·rename_i hw
  simp only [hw] at h
  exact ⟨keep a hy _, by rw [← Act.put_comm a v undef h2]; exact h⟩
def lateIn (ops : Array Oper) (E : Nat → Bool) (listed : Array Bool) : Bool := (List.range ops.size).any fun j => E j && listed.getD j false
theorem lateIn_set {listed : Array Bool} {i : Nat} (h : E i = false) : lateIn ops E (listed.setIfInBounds i true) = lateIn ops E listed := by
 unfold lateIn
 congr 1
 funext j
 by_cases e : j = i
 ·subst e; rw [h]; simp
 ·rw [getD_set_ne false (Ne.symm e)]
theorem lateIn_mono {listed : Array Bool} {i : Nat} (h : lateIn ops E (listed.setIfInBounds i true) = false) : lateIn ops E listed = false := by
 unfold lateIn at *
 rw [List.any_eq_false] at *
 intro j hj hc
 refine h j hj ?_
 simp only [Bool.and_eq_true] at hc ⊢
 exact ⟨hc.1, getD_set_true hc.2⟩
def wpAnyG (P : Program) (md : Region.Mode) (ops : Array Oper) (Q : Exit → Act → World → Prop) (S : World → Prop) (E : Nat → Bool) : Nat → Array Bool → Act → World → Prop
 | 0, listed, a, w => Region.ready md ops listed = [] ∧ Q .normal a w
 | fuel + 1, listed, a, w =>
  (Region.ready md ops listed = [] → Q .normal a w) ∧
  ∀ i ∈ Region.ready md ops listed, wpOp P ops Q i (fun a' w' => (lateIn ops E (listed.setIfInBounds i true) = false → S w') ∧ wpAnyG P md ops Q S E fuel (listed.setIfInBounds i true) a' w') a w
theorem wpAny_of_G : ∀ (fuel : Nat) (listed : Array Bool) (a : Act) (w : World), wpAnyG P md ops Q S E fuel listed a w → wpAny P md ops Q fuel listed a w
 | 0, _, _, _, h => h
 | fuel + 1, _, _, _, h => ⟨h.1, fun i hi => wpOp_mono (fun a' w' h' => wpAny_of_G fuel _ a' w' h'.2) (h.2 i hi)⟩
def lateWait (ops : Array Oper) (md : Region.Mode) (E : Nat → Bool) (i : Nat) : Bool :=
 (List.range ops.size).all fun j => !E j || ((ops[j]?).map fun o => o.after.any fun e => Region.binds md e && e.on == i).getD true
theorem lateWait_spec {i : Nat} (h : lateWait ops md E i = true) : ∀ j oj, ops[j]? = some oj → E j = true → ∃ e ∈ oj.after, Region.binds md e = true ∧ e.on = i := by
 intro j oj hj hE
 unfold lateWait at h
 rw [List.all_eq_true] at h
 have := h j (by rw [List.mem_range]; exact (Array.getElem?_eq_some_iff.1 hj).1)
 rw [hE, hj] at this
 simp only [Bool.not_true, Bool.false_or, Option.map_some, Option.getD_some, Array.any_eq_true] at this
 obtain ⟨k, hk, h2⟩ := this
 simp only [Bool.and_eq_true, beq_iff_eq] at h2
 exact ⟨_, Array.getElem_mem hk, h2.1, h2.2⟩
theorem wpAnyG_first {SS : World → Prop} {i : Nat} {oi : Oper} {v : Value} (hi : ops[i]? = some oi) (hsel : ∀ (j : Nat) (o : Oper) cs b, ops[j]? = some o → o.op ≠ .select cs b)
  (hQ : ∀ c a w, Q (.panic c) (a.put oi.dst v) w → Q (.panic c) a w) (hEi : E i = false)
  (hc : (∀ w, SS w) ∨ ((∀ w, S w → SS w) ∧ ∀ j oj, ops[j]? = some oj → E j = true → ∃ e ∈ oj.after, Region.binds md e = true ∧ e.on = i)) :
  ∀ (fuel : Nat) (listed : Array Bool) (a : Act) (w : World),
   (∀ j oj, ops[j]? = some oj → j ≠ i → listed.getD j true = false → (∀ e ∈ oj.after, Region.binds md e = true → e.on ≠ i) → oi.apart ops oj = true) →
   i ∈ Region.ready md ops listed → Gives P ops SS oi v a → SS w → (lateIn ops E listed = false → S w) → ((∀ w, SS w) ∨ lateIn ops E listed = false) →
   wpAnyG P md ops Q S E fuel (listed.setIfInBounds i true) (a.put oi.dst v) w → wpAnyG P md ops Q S E (fuel + 1) listed a w := by
 intro fuel
 induction fuel with
 | zero =>
  intro listed a w _ hr hy hS hS2 _ H
  refine ⟨fun h => (by rw [h] at hr; cases hr), fun j hj => ?_⟩
  by_cases hji : j = i
  ·subst hji; exact hy.wpOp hi hS ⟨fun h => hS2 (lateIn_mono h), H⟩
  ·have := ready_mono hj hji
   rw [H.1] at this
   cases this
 | succ fuel ih =>
  intro listed a w hfree hr hy hS hS2 hD H
  refine ⟨fun h => (by rw [h] at hr; cases hr), fun j hj => ?_⟩
  by_cases hji : j = i
  ·subst hji; exact hy.wpOp hi hS ⟨fun h => hS2 (lateIn_mono h), H⟩
  ·have h1 := H.2 j (ready_mono hj hji)
   obtain ⟨hjun, oj, hoj, hall⟩ := mem_ready.1 hj
   have hnot : ∀ e ∈ oj.after, Region.binds md e = true → e.on ≠ i := fun e he hb heq => by
    have h1 := hall e he hb
    have h0 := (mem_ready.1 hr).1
    rw [heq] at h1
    rcases Nat.lt_or_ge i listed.size with h' | h'
    ·simp [h'] at h0 h1; rw [h0] at h1; cases h1
    ·simp [Array.getElem?_eq_none h'] at h1
   have h2 := wpOp_putG hoj (hfree j oj hoj hji hjun hnot) (fun cs b => hsel i oi cs b hi) (fun cs b => hsel j oj cs b hoj) hQ hy h1
   have hfree' : ∀ k ok, ops[k]? = some ok → k ≠ i → (listed.setIfInBounds j true).getD k true = false →
     (∀ e ∈ ok.after, Region.binds md e = true → e.on ≠ i) → oi.apart ops ok = true := fun k ok hk hki hun hno => by
    refine hfree k ok hk hki ?_ hno
    by_cases hjk : j = k
    ·subst hjk; exact hjun
    ·rw [getD_set_ne true hjk] at hun; exact hun
   refine wpOp_mono (fun a' w' h3 => ?_) h2
   have hS' : lateIn ops E (listed.setIfInBounds j true) = false → S w' := by
    have h4 := h3.2.1
    rw [Array.setIfInBounds_comm _ _ (Ne.symm hji), lateIn_set hEi] at h4
    exact h4
   have hw' : SS w' ∧ ((∀ w, SS w) ∨ lateIn ops E (listed.setIfInBounds j true) = false) := by
    rcases hc with h | ⟨hSS, hw⟩
    ·exact ⟨h w', .inl h⟩
    ·rcases hD with h | hD
     ·exact ⟨h w', .inl h⟩
     ·cases hEj : E j
      ·have h4 : lateIn ops E (listed.setIfInBounds j true) = false := by rw [lateIn_set hEj]; exact hD
       exact ⟨hSS w' (hS' h4), .inr h4⟩
      ·obtain ⟨e, he, hb, heq⟩ := hw j oj hoj hEj
       exact absurd heq (hnot e he hb)
   refine ⟨hS', ih (listed.setIfInBounds j true) a' w' hfree' (ready_mono hr (Ne.symm hji)) h3.1 hw'.1 hS' hw'.2 ?_⟩
   rw [Array.setIfInBounds_comm _ _ hji]
   exact h3.2.2
theorem wpAnyG_take {i : Nat} {oi : Oper} {v : Value} {fuel : Nat} {listed : Array Bool} {a : Act} {w : World} (hi : ops[i]? = some oi)
  (hs : Region.noSelect ops = true) (hf : Region.free md ops listed i = true) (hr : (Region.ready md ops listed).contains i = true) (hEi : E i = false) (hE : lateWait ops md E i = true) (hD : lateIn ops E listed = false)
  (hQ : ∀ c a w, Q (.panic c) (a.put oi.dst v) w → Q (.panic c) a w) (hS : S w) (hw : Region.wanted oi (yielded ops a.tmps) = true) (hy : ∀ w, S w → (execOp a.eval oi).run P w = .ok (.value v) w)
  (h : wpAnyG P md ops Q S E fuel (listed.setIfInBounds i true) (a.put oi.dst v) w) : wpAnyG P md ops Q S E (fuel + 1) listed a w :=
 wpAnyG_first (SS := S) hi (Region.noSelect_spec hs) hQ hEi (.inr ⟨fun _ h => h, lateWait_spec hE⟩) fuel listed a w (Region.free_spec hi hf) (by simpa using hr) (.inl ⟨hw, fun w hS => .inl (hy w hS)⟩) hS (fun _ => hS) (.inr hD) h
theorem wpAnyG_takeC {i : Nat} {oi : Oper} {v : Value} {fuel : Nat} {listed : Array Bool} {a : Act} {w : World} (hi : ops[i]? = some oi)
  (hs : Region.noSelect ops = true) (hf : Region.free md ops listed i = true) (hr : (Region.ready md ops listed).contains i = true) (hEi : E i = false) (hE : lateWait ops md E i = true) (hD : lateIn ops E listed = false)
  (hQ : ∀ c a w, Q (.panic c) (a.put oi.dst v) w → Q (.panic c) a w) (hS : S w) (hw : Region.wanted oi (yielded ops a.tmps) = true) {f : FuncId} {args : Array Value} (hy : ∀ w, (execOp a.eval oi).run P w = .ok (.enter f args) w) (hcall : ∀ w, S w → Calls P f args w fun e w' => e = .returned v ∧ w = w')
  (h : wpAnyG P md ops Q S E fuel (listed.setIfInBounds i true) (a.put oi.dst v) w) : wpAnyG P md ops Q S E (fuel + 1) listed a w :=
 wpAnyG_first (SS := S) hi (Region.noSelect_spec hs) hQ hEi (.inr ⟨fun _ h => h, lateWait_spec hE⟩) fuel listed a w (Region.free_spec hi hf) (by simpa using hr) (.inl ⟨hw, fun w hS => .inr ⟨f, args, hy w, hcall w hS⟩⟩) hS (fun _ => hS) (.inr hD) h
theorem wpAnyG_takeW {i : Nat} {oi : Oper} {v : Value} {fuel : Nat} {listed : Array Bool} {a : Act} {w : World} (hi : ops[i]? = some oi)
  (hs : Region.noSelect ops = true) (hf : Region.free md ops listed i = true) (hr : (Region.ready md ops listed).contains i = true) (hEi : E i = false)
  (hQ : ∀ c a w, Q (.panic c) (a.put oi.dst v) w → Q (.panic c) a w) (hS : lateIn ops E listed = true ∨ S w) (hw : Region.wanted oi (yielded ops a.tmps) = true) (hy : ∀ w, (execOp a.eval oi).run P w = .ok (.value v) w)
  (h : wpAnyG P md ops Q S E fuel (listed.setIfInBounds i true) (a.put oi.dst v) w) : wpAnyG P md ops Q S E (fuel + 1) listed a w :=
 wpAnyG_first (SS := fun _ => True) hi (Region.noSelect_spec hs) hQ hEi (.inl fun _ => trivial) fuel listed a w (Region.free_spec hi hf) (by simpa using hr) (.inl ⟨hw, fun w _ => .inl (hy w)⟩) trivial (fun e => hS.elim (fun h => by rw [h] at e; cases e) id) (.inl fun _ => trivial) h
theorem tqW {i : Nat} {oi : Oper} {v : Value} {fuel : Nat} {listed : Array Bool} {a : Act} {w : World} (hi : ops[i]? = some oi)
  (hS : lateIn ops E listed = true ∨ S w) (hy : ∀ w, (execOp a.eval oi).run P w = .ok (.value v) w)
  (h : wpAnyG P md ops Q S E fuel (listed.setIfInBounds i true) (a.put oi.dst v) w)
  (hs : Region.noSelect ops = true := by kernel_rfl) (hf : Region.free md ops listed i = true := by kernel_rfl) (hr : (Region.ready md ops listed).contains i = true := by kernel_rfl) (hEi : E i = false := by exact rfl)
  (hQ : ∀ c a w, Q (.panic c) (a.put oi.dst v) w → Q (.panic c) a w := by exact fun _ _ _ h => h) (hw : Region.wanted oi (yielded ops a.tmps) = true := by rfl) : wpAnyG P md ops Q S E (fuel + 1) listed a w :=
 wpAnyG_takeW hi hs hf hr hEi hQ hS hw hy h
theorem tqK {i : Nat} {oi : Oper} {v : Value} {fuel : Nat} {listed : Array Bool} {a : Act} {w : World} (hi : ops[i]? = some oi)
  (hy : ∀ w, S w → (execOp a.eval oi).run P w = .ok (.value v) w)
  (h : wpAnyG P md ops Q S E fuel (listed.setIfInBounds i true) (a.put oi.dst v) w)
  (hs : Region.noSelect ops = true := by kernel_rfl) (hf : Region.free md ops listed i = true := by kernel_rfl) (hr : (Region.ready md ops listed).contains i = true := by kernel_rfl) (hEi : E i = false := by exact rfl) (hE : lateWait ops md E i = true := by kernel_rfl) (hD : lateIn ops E listed = false := by kernel_rfl)
  (hQ : ∀ c a w, Q (.panic c) (a.put oi.dst v) w → Q (.panic c) a w := by exact fun _ _ _ h => h) (hS : S w := by assumption) (hw : Region.wanted oi (yielded ops a.tmps) = true := by rfl) : wpAnyG P md ops Q S E (fuel + 1) listed a w :=
 wpAnyG_take hi hs hf hr hEi hE hD hQ hS hw hy h
def AllReadyG (P : Program) (md : Region.Mode) (ops : Array Oper) (Q : Exit → Act → World → Prop) (S : World → Prop) (E : Nat → Bool) (fuel : Nat) (listed : Array Bool) (a : Act) (w : World) (rs : List Nat) : Prop :=
 ∀ i ∈ rs, wpOp P ops Q i (fun a' w' => (lateIn ops E (listed.setIfInBounds i true) = false → S w') ∧ wpAnyG P md ops Q S E fuel (listed.setIfInBounds i true) a' w') a w
theorem wpAnyG_ready {rs : List Nat} {fuel : Nat} {listed : Array Bool} {a : Act} {w : World} (hr : Region.ready md ops listed = rs) (hne : rs ≠ [])
  (h : AllReadyG P md ops Q S E fuel listed a w rs) : wpAnyG P md ops Q S E (fuel + 1) listed a w :=
 ⟨fun h0 => absurd (hr ▸ h0) hne, hr ▸ h⟩
theorem AllReadyG.nil {fuel : Nat} {listed : Array Bool} {a : Act} {w : World} : AllReadyG P md ops Q S E fuel listed a w [] := fun _ h => by cases h
theorem AllReadyG.cons {i : Nat} {o : Oper} {rs : List Nat} {fuel : Nat} {listed : Array Bool} {a : Act} {w : World} (ho : ops[i]? = some o)
  (h : ∀ K' : Act → World → Prop, Shut (∀ a w, S w → (S w → wpAnyG P md ops Q S E fuel (listed.setIfInBounds i true) a w) → K' a w) → if Region.wanted o (yielded ops a.tmps) = true then Oper.wp P o a w K' Q else K' (a.put o.dst undef) w)
  (hrs : AllReadyG P md ops Q S E fuel listed a w rs) : AllReadyG P md ops Q S E fuel listed a w (i :: rs) := by
 intro j hj
 rcases List.mem_cons.1 hj with rfl | hj
 ·exact wpOp_step ho (fun K' hK => h K' (fun a w hS hW => hK a w ⟨fun _ => hS, hW hS⟩))
 ·exact hrs j hj
theorem wpAnyG_done {listed : Array Bool} {a : Act} {w : World} (hr : Region.ready md ops listed = []) (h : Q .normal a w) :
  ∀ fuel, wpAnyG P md ops Q S E fuel listed a w
 | 0 => ⟨hr, h⟩
 | _ + 1 => ⟨fun _ => h, by rw [hr]; simp⟩
theorem wp_region_G {id n : Nat} {a : Act} {w : World} {S : World → Prop} {E : Nat → Bool} (hm : P.follows .mixedOrders = true) (hn : ops.size = n) (hS : S w.drew)
  (h : S w.drew → wpAnyG P .any ops Q S E n (Array.replicate n false) a w.drew) : (Code.region id ops true).wp P Q a w := by
 refine wp_region_any hm ?_
 rw [hn]
 exact wpAny_of_G _ _ _ _ (h hS)
end
end Go.Proofs.YtmlfchjompfmaaaGreatDoor
