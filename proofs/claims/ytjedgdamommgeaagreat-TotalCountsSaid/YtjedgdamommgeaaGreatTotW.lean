/- TotalCounts in plain words; its two questions. -/
import Derived.Test.YtjedgdamommgeaaGreatTotU
set_option linter.unusedVariables false
namespace Go.Proofs.YtjedgdamommgeaaGreat
open Go.RowKit
open Cnf (soB)
namespace Tot
open Cnf Up
structure CountsP (k : Nat) (so : List Bool) (row out : List Int) (N : Nat) (O : List (List Int)) : Prop where
 N5 : N ≤ 500
 le : k ≤ N
 vd : ∀ f ∈ O, AbsStrict f ∧ ∀ z ∈ f, Vd N z
 len : O.length ≤ 100000
 det : Sv.Det N O (litsOf k so)
 model : ∃ s : Nat → Bool, (∀ f ∈ O, ∃ z ∈ f, T s z = true) ∧ ∀ a ∈ litsOf k so, Vd N a ∧ T s a = true
 lits : ∀ z ∈ out, Vd N z
 ol : out.length ≤ 20
 tells : ∀ M, Rup.Sat O M → (∀ a ∈ litsOf k so, soB a M = true) → ∀ i, i < out.length → soB (out.getD i 0) M = decide (i < cnt (sOf so) row)
theorem CountsP.zero {k : Nat} (h12 : k ≤ 12) (so : List Bool) (row : List Int) : CountsP k so row [] k [] := by
 have t := Told.start (n := k) (by omega) so
 exact ⟨by omega, Nat.le_refl _, t.vd, by simp, t.toDet, t.model2 (by omega) fun a ha => ha, fun z hz => (by cases hz), by simp, fun M _ _ i hi => absurd hi (by simp)⟩
theorem counts_law {k : Nat} (h1 : 1 ≤ k) (h12 : k ≤ 12) (so : List Bool) {row : List Int} (hv : ∀ z ∈ row, Vd k z) (h20 : row.length ≤ 20) {cap : Int} (hc : 1 ≤ cap) {r : List Int × Nat × Bool × Bld} (hr : count cap 5000 row k false ⟨[], false, false⟩ = r) :
  r.2.2.1 = false ∧ r.2.2.2.bad = false ∧ (r.1.length : Int) = min (row.length : Int) cap ∧ CountsP k so row r.1 r.2.1 r.2.2.2.cls := by
 by_cases c : row.length = 0
 ·have : row = [] := List.length_eq_zero_iff.1 c
  subst this
  rw [count_short _ _ _ _ _ (by simp)] at hr
  subst hr
  exact ⟨rfl, rfl, by simp only [List.length_nil]; omega, CountsP.zero h12 so []⟩
 have hnn : row.length * row.length ≤ 400 := Nat.mul_le_mul h20 h20
 obtain ⟨S1, f1, b1, e1⟩ := count_place hc (B := ⟨[], false, false⟩) (by omega) h20 hv (by omega) (by simp only [List.length_nil]; omega) hr
 obtain ⟨CL, c1, d1, C1⟩ := S1.cl
 have c1 : r.2.2.2.cls = CL := by rw [c1]; rfl
 have m1 := S1.mono
 have t1 := (Told.start (n := k) (by omega) so).count C1 m1 (by omega) hv
 rw [List.nil_append, ← c1] at t1
 refine ⟨f1, S1.bad, e1, by omega, m1, t1.vd, by rw [c1]; omega, t1.toDet, t1.model2 (by omega) (fun a ha => ha), S1.lits, by have := S1.le; omega, fun M hM hb i hi => ?_⟩
 exact t1.tells C1 (fun f hf => by rw [c1]; exact hf) (Nat.le_refl _) m1 (by omega) hv hM (fun a ha => ⟨by have := ((mem_litsOf (by omega)).1 ha).1; unfold Vd at *; omega, hb a ha⟩) i hi
end Tot
theorem back_inM {m : List Bool} {T : Tr.Trail} (h : Sv.InM m T) (k : Int) : Sv.InM m (T.back k) := by
 intro x hx
 unfold Tr.Trail.back at hx
 split at hx
 ·unfold Tr.Trail.backTo Tr.Trail.lits at hx
  rw [List.map_take] at hx
  exact h x (List.mem_of_mem_take hx)
 ·exact h x hx
theorem back_levels (T : Tr.Trail) : (T.back 0).levels = [] := by
 unfold Tr.Trail.back
 split
 ·simp [Tr.Trail.backTo]
 ·rename_i c
  exact List.length_eq_zero_iff.1 (by simpa using c)
theorem counts_ask {w w1 : World} {b N : Nat} {O : List (List Int)} (h : NewSv w b ((Sv.St.new N).addAll O) w1) (hN : N ≤ 5000) (hO : ∀ f ∈ O, Cnf.AbsStrict f ∧ ∀ z ∈ f, Tot.Vd N z) (hlen : O.length ≤ 1000000) {v : Value} {base : List Int} (hI : Ints w v base) (hqb : base.length ≤ 1000000)
  (hd : Sv.Det N O base) {s : Nat → Bool} (hs : ∀ f ∈ O, ∃ z ∈ f, Tot.T s z = true) (hb : ∀ a ∈ base, Tot.Vd N a ∧ Tot.T s a = true) :
  Calls Tryz.prog 14 #[.pointer (some ⟨b, 0, none⟩), v, .int .i64 1048576] w1 fun e w' => ∃ S2 M met cs, e = .returned (.agg cs) ∧ AnsAt w1 w' (.sat M met) cs ∧ M.length = N ∧ Rup.Sat O M ∧ (∀ a ∈ base, soB a M = true) ∧ NewSv w b S2 w' ∧
   SolI N O 0 S2 0 ∧ Sv.InM (Tot.modOf N s) S2.T := by
 have hk := Tot.kept_self (n := N) (by omega) O hO
 have hr : ∀ c ∈ O, ∀ x ∈ c, InI64 x := fun c hc x hx => by have := (hO c hc).2 x hx; unfold Tot.Vd at this; unfold InI64; omega
 have hF := Sv.Fresh.addAll (n := N) (by omega) O hr (by omega)
 have hh := hF.holds
 rw [hk] at hh
 have hM : Rup.Sat O (Tot.modOf N s) := fun c hc => by
  obtain ⟨z, hz, hT⟩ := hs c hc
  exact ⟨z, hz, by rw [Tot.so_T (by omega) s ((hO c hc).2 z hz)]; exact hT⟩
 have hbM : ∀ a ∈ base, soB a (Tot.modOf N s) = true := fun a ha => by rw [Tot.so_T (by omega) s (hb a ha).1]; exact (hb a ha).2
 have has : ∀ a ∈ base, a ≠ 0 ∧ a.natAbs ≤ N := fun a ha => (hb a ha).1
 have hin : Sv.InM (Tot.modOf N s) ((Sv.St.new N).addAll O).T := fun x hx => by rw [Tr.Trail.lits, hF.ents] at hx; cases hx
 have hcalm : Calm base ((Sv.St.new N).addAll O) := by
  have := calm_of (rest := []) hd hM hbM (by simpa using has) hh hin
  rwa [List.append_nil] at this
 have hI0 := (fresh_solI hF hlen).1
 rw [hk] at hI0
 obtain ⟨e1, e2, e3, e4, e5, e6⟩ := hF.rest
 refine (ask_any h (by omega) hlen hr hI hqb has 1048576 (by unfold InI64; omega) (by omega) (.inr (.inr hcalm))).mono ?_
 rintro e w' ⟨S2, a, cs, h1, h2, h3, h4⟩
 have h1' : Sv.Run Sv.paceF (base ++ []) 1048576 ((Sv.St.new N).addAll O) 0 S2 a := by rw [List.append_nil]; exact h1
 obtain ⟨q1, q2, q3, q4, q5, q6, q7, q8, hns⟩ := Sv.Run.calm (rest := []) hd hM hbM (by simpa using has) h1' hh hin
 have hri := (hF.right has (by omega) hlen h1).2
 rw [hk] at hri
 have hS2 : SolI N O 0 S2 0 := by
  refine ⟨q7, Int.le_refl _, by rw [q2]; exact hI0.cls, ?_, by rw [q1]; exact hI0.lrn, by rw [q3, q4]; exact hI0.left, by rw [q4]; exact hI0.turns, by rw [q5]; exact hI0.keep⟩
  rw [q1]
  have hp := hI0.prf
  have : ((Sv.St.new N).addAll O).proof.length = 0 := by rw [e6]; rfl
  have : ((Sv.St.new N).addAll O).learnt.length = 0 := by rw [e1]; rfl
  omega
 cases a with
 | sat M met => exact ⟨S2, M, met, cs, h2, h3, hri.1, hri.2.1, hri.2.2, h4, hS2, q8⟩
 | unsat core met => exact absurd (fun x hx => hbM x (hri.2.1 x hx)) (hri.2.2 _ hM)
 | spent met => exact absurd rfl (hns met)
theorem SvAt.only {w w' : World} {G : Tag} {b : Nat} {V : SvV} {S : Sv.St} (H : SvAt w G b V S) {F : Nat → Prop} (ho : Only F w w') (hF : ∀ k, Mine G k → ¬ F k) : SvAt w' G b V S := by
 obtain ⟨g, U, t1, t2⟩ := H.trail
 have ht : ∀ (t : Nat × Nat), t.1 ≠ 0 → ∀ k, G k = t → ¬ F k := fun t h k hk => hF k (by unfold Mine; rw [hk]; exact h)
 exact ⟨only_block H.blk ho (ht _ (by decide) _ H.tb), H.tb, ⟨g, U, t1.only ho (fun k hk => ht (2, 0) (by decide) k (t2 k hk)), t2⟩, H.heap.only ho (ht _ (by decide)), H.pace.only ho (ht _ (by decide) _ H.tp), H.tp, H.learnt.only ho (ht _ (by decide)), H.nc, H.last.only ho (ht _ (by decide)), H.ll, H.proof.only ho (ht _ (by decide)), H.ul,
  fun i hi => ⟨(H.steps i hi).1.only' ho (fun hp b hb => ht (8, 0) (by decide) b ((H.steps i hi).2 hp b hb)), (H.steps i hi).2⟩, H.yb, H.fresh.more ho.size⟩
theorem counts_ask2 {w w7 w1 : World} {b N : Nat} {O : List (List Int)} {S2 : Sv.St} {F : Nat → Prop} (h : NewSv w b S2 w7) (ho : Only F w7 w1) (hF : ∀ k, F k → k < w.heap.size) (hN : N ≤ 5000) (hO : ∀ f ∈ O, Cnf.AbsStrict f ∧ ∀ z ∈ f, Tot.Vd N z) {v : Value} {base : List Int} {l : Int} (hI : Ints w1 v (base ++ [l])) (hqb : base.length ≤ 1000) (hnm : ∀ k, Value.blk v = some k → k < w.heap.size ∨ w7.heap.size ≤ k)
  (hd : Sv.Det N O base) {s : Nat → Bool} (hs : ∀ f ∈ O, ∃ z ∈ f, Tot.T s z = true) (hb : ∀ a ∈ base, Tot.Vd N a ∧ Tot.T s a = true) (hl : Tot.Vd N l) (hi : SolI N O 0 S2 0) (hin : Sv.InM (Tot.modOf N s) S2.T) (hno : ∀ M, Rup.Sat O M → (∀ a ∈ base, soB a M = true) → soB l M = false) :
  Calls Tryz.prog 14 #[.pointer (some ⟨b, 0, none⟩), v, .int .i64 1048576] w1 fun e w' => ∃ va vb met, e = .returned (.agg #[.int .u8 2, va, vb, .int .i64 met]) ∧ Only F w w' := by
 have hM : Rup.Sat O (Tot.modOf N s) := fun c hc => by
  obtain ⟨z, hz, hT⟩ := hs c hc
  exact ⟨z, hz, by rw [Tot.so_T (by omega) s ((hO c hc).2 z hz)]; exact hT⟩
 have hbM : ∀ a ∈ base, soB a (Tot.modOf N s) = true := fun a ha => by rw [Tot.so_T (by omega) s (hb a ha).1]; exact (hb a ha).2
 have has : ∀ a ∈ base ++ [l], a ≠ 0 ∧ a.natAbs ≤ N := fun a ha => by
  rcases List.mem_append.1 ha with ha | ha
  ·exact (hb a ha).1
  ·rw [List.mem_singleton.1 ha]; exact hl
 obtain ⟨G, V, H, p, hm, on⟩ := h
 have hb0 := hi.holds.back 0
 have hin0 := back_inM hin 0
 have hcalm : Calm (base ++ [l]) { S2 with T := S2.T.back 0 } := calm_of hd hM hbM has hb0 hin0
 have hnot : NotMine G v (base ++ [l]) := fun _ k hk => by
  rcases hnm k hk with c | c
  ·by_cases c2 : (G k).1 = 0
   ·exact c2
   ·have := hm k c2; omega
  ·exact H.fresh k c
 refine (solve_Solve_any (H.only ho (fun k hk hf => by have := hm k hk; have := hF k hf; omega)) p hi hI hnot (by rw [List.length_append, List.length_singleton]; omega) has 1048576 (by unfold InI64; omega) (by omega) (.inr (.inr hcalm)) (by omega)).mono ?_
 rintro e w' ⟨S3, a, cs, h1, rfl, h3, G2, V2, H2, p2, A2, O2⟩
 have hon : Only F w w' := ((on.mono fun _ f => f.elim).trans ho fun k hk => .inl hk).trans O2 fun q hq => .inr (hm q hq)
 have hns := (Sv.Run.calm hd hM hbM has h1 hb0 hin0).2.2.2.2.2.2.2.2
 have hcl := hi.cls
 have hri := (Sv.Run.law has h1 hb0 (Sv.DecOk.start (back_levels S2.T)) (by
  show (S2.T.back 0).cls.length + _ < _
  rw [(Tr.back_same S2.T 0).1]
  omega)).2
 cases a with
 | sat M met =>
  exfalso
  have h5 := hno M hri.2.1 fun a ha => hri.2.2 a (List.mem_append_left _ ha)
  rw [hri.2.2 l (by simp)] at h5
  cases h5
 | unsat core met =>
  obtain ⟨vm, rfl, r3, -⟩ := h3
  exact ⟨nilS, vm, met, rfl, hon⟩
 | spent met => exact absurd rfl (hns met)
end Go.Proofs.YtjedgdamommgeaaGreat
