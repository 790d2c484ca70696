/- The walks of package rup, last part: Check, Follows, Proves. -/
import Derived.Test.YtjbfgafkjejdjaaRup7
namespace Go.Proofs.Ytjbfgafkjejdjaa
open Go.RowKit

/-- what the predicate says of step k: it is the one that is sought, or the next one is looked at -/
def StepSays (w : World) (Inv : Nat → World → Prop) (R : Int) (k : Nat) (e : Ending) (W : World) : Prop :=
  (e = .returned (.bool true) ∧ R = k ∧ Only (fun _ => False) w W) ∨ (e = .returned (.bool false) ∧ Inv (k + 1) W)

section
variable {w : World}

set_option maxHeartbeats 1600000 in
theorem IndexFunc_step {w0 : World} {v : Value} {ps : List (Bool × List Int)} (hS : StepsAt w0 v ps) (hlen : ps.length ≤ 1099511627) (fn : Nat) (cb : Array Value) (eg : ∀ args w, (callFunc fn args).run Try.prog w = .ok (.enter fn args) w)
    (Inv : Nat → World → Prop) (R : Int) (h0 : Inv 0 w) (hO : ∀ k W, Inv k W → Only (fun _ => False) w0 W) (hend : ∀ W, Inv ps.length W → R = -1)
    (hp : ∀ k W u, k < ps.length → Inv k W → Ints W u (ps.getD k (false, [])).2 → Calls Try.prog fn (#[.agg #[.bool (ps.getD k (false, [])).1, u]] ++ cb) W (StepSays w0 Inv R k)) :
    Calls Try.prog 53 #[v, .func (.func fn) #[] cb] w fun e w' => e = .returned (.int .i64 R) ∧ Only (fun _ => False) w0 w' := by
  obtain ⟨ao, cap, rfl, hl, hm⟩ := hS.shape
  have HO := Lib.hid hO
  have HEnd := Lib.hid hend
  have HP := Lib.hid hp
  clear hO hend hp
  go_enter Try.func53, Try.ntmps53
  go_wp2_with fail
  go_loopw [8] (fun v wr => ∃ k : Nat, v = .int .i64 k ∧ k ≤ ps.length ∧ Inv k wr) (fun v _ => ps.length - (intOf v).toNat)
  case atStart => exact ⟨0, rfl, Nat.zero_le _, h0⟩
  case round =>
    obtain ⟨k, rfl, hk, hI⟩ := hrel
    have hOw := HO.out k wr hI
    by_cases ck : k < ps.length
    · obtain ⟨b, off, us, rfl, _, hcs⟩ := (hS.only0 hOw).cells _ _ _ rfl (by omega)
      obtain ⟨q1, q2, hu⟩ := hcs k ck
      have hc := HP.out k wr (us k) ck hI hu
      have HC := Lib.hid hc
      obtain ⟨au, cu, hue, _, _⟩ := hu.shape
      rw [hue] at q2 HC
      clear hcs hc hue hu hI
      generalize ps.getD k (false, []) = p at *
      go_wp2_with fail
      refine HC.out.mono ?_
      intro e w' hsay
      rcases hsay with ⟨rfl, rfl, O2⟩ | ⟨rfl, hI2⟩
      · go_wp2_with fail
        go_ret
        exact ⟨rfl, O2⟩
      · go_wp2_with fail
        go_roundw
        case rel => exact ⟨k + 1, by go_num, by omega, hI2⟩
        case measure => simp [intOf]; omega
    · have hk' : k = ps.length := by omega
      have hR : R = -1 := HEnd.out wr (by rw [← hk']; exact hI)
      have HR := Lib.hid hR
      clear hR hI
      go_wp2_with fail
      go_ret
      rw [HR.out]
      exact ⟨rfl, hOw⟩

/-- what holds while a proof is gone through -/
structure Going (w : World) (b bc N : Nat) (ps : List (Bool × List Int)) (R : Int) (k : Nat) (W : World) (C : Rup.Chk) (g : Tag) (V : RupV) : Prop where
  at_ : ChkAt W g b V C
  clr : ∀ k, k < w.heap.size → (g k).1 = 0
  only : Only (fun _ => False) w W
  cell : W.cell? ⟨bc, 0, none⟩ = some (.pointer (some ⟨b, 0, none⟩))
  tag : (g bc).1 = 0
  rest : C.Rest (ps.length - k)
  n : C.n = N
  bad : R = C.bad (ps.drop k) k

theorem Going.next {b bc N : Nat} {ps : List (Bool × List Int)} {R : Int} {k : Nat} {W W' : World} {C : Rup.Chk} {g : Tag} {V : RupV} (h : Going w b bc N ps R k W C g V) (hk : k < ps.length) {C' : Rup.Chk} (hr : ∀ x ∈ (ps.getD k (false, [])).2, InI64 x) (hs : C.step (ps.getD k (false, [])) = some C')
    (h2 : RupTo W g b C' W') : ∃ g' V', Going w b bc N ps R (k + 1) W' C' g' V' := by
  obtain ⟨g2, V2, H2, A2, O2⟩ := h2
  have hrest := h.rest
  rw [show ps.length - k = (ps.length - (k + 1)) + 1 by omega] at hrest
  obtain ⟨hr1, hr2⟩ := hrest.step hr hs
  have hbc := World.block_lt_of_cell? W _ h.cell
  simp only at hbc
  refine ⟨g2, V2, H2, fun j hj => ?_, RupBegun.mine h.clr h.only O2, cell_keep h.cell O2 (by unfold Mine; rw [h.tag]; simp), ?_, hr1, hr2.trans h.n, ?_⟩
  · have := h.only.size
    rw [A2 j (by omega)]; exact h.clr j hj
  · rw [A2 bc hbc]; exact h.tag
  · rw [h.bad, List.drop_eq_getElem_cons hk, Rup.Chk.bad]
    have e : ps[k] = ps.getD k (false, []) := by simp [List.getD_eq_getElem?_getD, hk]
    rw [e, hs]

theorem Going.hit {b bc N : Nat} {ps : List (Bool × List Int)} {R : Int} {k : Nat} {W : World} {C : Rup.Chk} {g : Tag} {V : RupV} (h : Going w b bc N ps R k W C g V) (hk : k < ps.length) (hs : C.step (ps.getD k (false, [])) = none) : R = k := by
  rw [h.bad, List.drop_eq_getElem_cons hk, Rup.Chk.bad]
  have e : ps[k] = ps.getD k (false, []) := by simp [List.getD_eq_getElem?_getD, hk]
  rw [e, hs]

/-- the checker that clauses make -/
def Rup.start (N : Nat) (css : List (List Int)) : Rup.Chk := (Rup.Chk.zero N).all css

theorem rup_start_rest {N : Nat} {css : List (List Int)} {m : Nat} (hok : (Rup.start N css).Ok) (hb : css.length + m ≤ 1000000) : (Rup.start N css).Rest m := by
  refine ⟨hok, (Rup.all_set _ _).trans rfl, ?_⟩
  have := Rup.all_len css (Rup.Chk.zero N)
  have h0 : (Rup.Chk.zero N).cls.length = 0 := rfl
  unfold Rup.start
  omega

set_option maxHeartbeats 1600000 in
theorem rup_Check_any {vcs vps : Value} {css : List (List Int)} {ps : List (Bool × List Int)} (hI : IntsS w vcs css) (hS : StepsAt w vps ps) (hb : css.length ≤ 100000) (hb2 : ∀ c ∈ css, c.length ≤ 1099511627776) (hp1 : ps.length ≤ 100000) (hp2 : ∀ p ∈ ps, p.2.length ≤ 1099511627776)
    (n : Int) (N : Nat) (hN : (N : Int) = min (max n 0) 65536) :
    Calls Try.prog 26 #[.int .i64 n, vcs, vps] w fun e w' => e = .returned (.int .i64 ((Rup.start N css).bad ps 0)) ∧ Only (fun _ => False) w w' := by
  have hmf : ∀ (fn : Fn) (first cap : Array Value) (w : World), (Instr.makeFunc fn first cap).run Try.prog w = .ok (.func fn first cap) w := fun _ _ _ _ => rfl
  have eg : ∀ args w, (callFunc 54 args).run Try.prog w = .ok (.enter 54 args) w := enters_of Try.func54 (by kernel_rfl) rfl
  have HEg := Lib.hid eg
  have hbeg := rup_begin_any hI hb hb2 n N hN
  have HBeg := Lib.hid hbeg
  have HP2 := Lib.hid hp2
  clear eg hbeg hN hp2
  obtain ⟨ac, cc, rfl, _, _⟩ := hI.shape
  obtain ⟨as_, cs, rfl, _, _⟩ := hS.shape
  go_enter Try.func26, Try.ntmps26
  go_wp2_with fail
  refine HBeg.out.mono ?_
  rintro e w1 ⟨b, rfl, hB, hok⟩
  obtain ⟨g, V, H, hclr, hO⟩ := hB
  have hW : ∀ o, Only (fun _ => False) w (w1.alloc o) := fun o => hO.alloc o
  go_wp2_with fail
  have hinv : Going w b w1.heap.size N ps ((Rup.start N css).bad ps 0) 0 (w1.alloc (.cells #[.pointer (some ⟨b, 0, none⟩)] 76)) (Rup.start N css) g V :=
    ⟨H.only0 ((Only.refl _ _).alloc _), hclr, hO.alloc _, cell_newE _ _ _ _ rfl, H.fresh _ (Nat.le_refl _), rup_start_rest hok (by omega), (Rup.all_n _ _).trans rfl, rfl⟩
  have HInv := Lib.hid hinv
  clear hinv hW
  generalize hWW : w1.alloc (.cells #[.pointer (some ⟨b, 0, none⟩)] 76) = W at *
  clear hWW
  refine (IndexFunc_step hS (by omega) 54 #[.pointer (some ⟨w1.heap.size, 0, none⟩)] HEg.out (fun k W' => ∃ C g V, Going w b w1.heap.size N ps ((Rup.start N css).bad ps 0) k W' C g V) ((Rup.start N css).bad ps 0) ⟨_, g, V, HInv.out⟩ ?_ ?_ ?_).mono ?_
  · rintro k W' ⟨C, g, V, h⟩
    exact h.only
  · rintro W' ⟨C, g, V, h⟩
    have := h.bad
    rw [List.drop_length] at this
    exact this
  · rintro k W' u hk ⟨C, g, V, h⟩ hu
    have hrest := h.rest
    rw [show ps.length - k = (ps.length - (k + 1)) + 1 by omega] at hrest
    have hc := rup_check1_any h.at_ hrest (ps.getD k (false, [])) hu (HP2.out _ (getD_mem' _ hk)) w1.heap.size h.cell
    refine hc.mono fun e W2 h2 => ?_
    cases hst : C.step (ps.getD k (false, [])) with
    | none =>
      rw [hst] at h2
      obtain ⟨h21, g2, V2, _, _, O2⟩ := h2
      exact .inl ⟨h21, h.hit hk hst, RupBegun.mine h.clr h.only O2⟩
    | some C' =>
      rw [hst] at h2
      obtain ⟨g', V', hn⟩ := h.next hk hu.range hst h2.2
      exact .inr ⟨h2.1, C', g', V', hn⟩
  · rintro e w2 ⟨rfl, O2⟩
    go_wp2_with fail
    go_ret
    exact ⟨rfl, O2⟩

/-- the predicate that Follows hands to ContainsFunc -/
theorem rup_follows1_any {g : Tag} {b : Nat} {V : RupV} {C : Rup.Chk} (H : ChkAt w g b V C) (hn : C.n ≤ 65536) (bc : Nat) (hbc : w.cell? ⟨bc, 0, none⟩ = some (.pointer (some ⟨b, 0, none⟩))) (x : Int) (hx : InI64 x) :
    Calls Try.prog 57 #[.int .i64 x, .pointer (some ⟨bc, 0, none⟩)] w fun e w' => e = .returned (.bool (!Cnf.okAt C.n x)) ∧ w = w' := by
  have hc := rup_is_any H hn x hx _ rfl
  have HC := Lib.hid hc
  clear hc H
  generalize Cnf.okAt C.n x = r at *
  go_enter Try.func57, Try.ntmps57
  go_wp2_with fail
  refine HC.out.mono ?_
  rintro e w' ⟨rfl, rfl⟩
  go_wp2_with fail
  go_ret
  exact ⟨rfl, rfl⟩

/-- what Follows answers -/
def Rup.followsB (N : Nat) (css : List (List Int)) (c : List Int) : Bool :=
  if c.any (fun x => !Cnf.okAt N x) then false else match Cnf.form c with | none => true | some f => (Up.conf N (Rup.start N css).live (f.map fun x => -x)).2

theorem formR_of_ok {N : Nat} {c : List Int} (h : c.any (fun x => !Cnf.okAt N x) = false) : Rup.formR N c = Cnf.form c := by
  unfold Rup.formR Cnf.right
  have e : c.all (Cnf.okAt N) = true := by
    rw [List.all_eq_true]
    intro x hx
    rw [List.any_eq_false] at h
    have := h x hx
    simpa using this
  rw [e]
  cases h2 : Cnf.form c <;> simp

set_option maxHeartbeats 1600000 in
theorem rup_Follows_any {vcs vc : Value} {css : List (List Int)} {c : List Int} (hI : IntsS w vcs css) (hc : Ints w vc c) (hb : css.length ≤ 100000) (hb2 : ∀ c ∈ css, c.length ≤ 1099511627776) (hcb : c.length ≤ 1099511627776)
    (n : Int) (N : Nat) (hN : (N : Int) = min (max n 0) 65536) (r : Bool) (hr : Rup.followsB N css c = r) :
    Calls Try.prog 27 #[.int .i64 n, vcs, vc] w fun e w' => e = .returned (.bool r) ∧ Only (fun _ => False) w w' := by
  have hmf : ∀ (fn : Fn) (first cap : Array Value) (w : World), (Instr.makeFunc fn first cap).run Try.prog w = .ok (.func fn first cap) w := fun _ _ _ _ => rfl
  have eg : ∀ args w, (callFunc 57 args).run Try.prog w = .ok (.enter 57 args) w := enters_of Try.func57 (by kernel_rfl) rfl
  have HEg := Lib.hid eg
  have hbeg := rup_begin_any hI hb hb2 n N hN
  have HBeg := Lib.hid hbeg
  have HR := Lib.hid hr
  have hN1 : N ≤ 65536 := by omega
  clear eg hbeg hN hr
  obtain ⟨ac, cc, rfl, _, _⟩ := hI.shape
  obtain ⟨al, cl, rfl, _, _⟩ := hc.shape
  go_enter Try.func27, Try.ntmps27
  go_wp2_with fail
  refine HBeg.out.mono ?_
  rintro e w1 ⟨b, rfl, hB, hok⟩
  obtain ⟨g, V, H, hclr, hO⟩ := hB
  have hrest := rup_start_rest (N := N) (css := css) (m := 0) hok (by omega)
  have hnN : (Rup.start N css).n = N := (Rup.all_n _ _).trans rfl
  have hH : ChkAt w1 g b V (Rup.start N css) := H
  have hR : Rup.followsB N css c = if c.any (fun x => !Cnf.okAt N x) then false else match Cnf.form c with | none => true | some f => (Up.conf N (Rup.start N css).live (f.map fun x => -x)).2 := rfl
  have HR2 := Lib.hid hR
  have HnN := Lib.hid hnN
  have HRest := Lib.hid hrest
  clear H hok hR hnN hrest
  generalize Rup.start N css = C at *
  have hOa : Only (fun _ => False) w (w1.alloc (.cells #[.pointer (some ⟨b, 0, none⟩)] 76)) := hO.alloc _
  have hca : (w1.alloc (.cells #[.pointer (some ⟨b, 0, none⟩)] 76)).cell? ⟨w1.heap.size, 0, none⟩ = some (.pointer (some ⟨b, 0, none⟩)) := cell_newE _ _ _ _ rfl
  have hHa : ChkAt (w1.alloc (.cells #[.pointer (some ⟨b, 0, none⟩)] 76)) g b V C := hH.only0 ((Only.refl _ _).alloc _)
  have HOa := Lib.hid hOa
  have HCa := Lib.hid hca
  have htag : (g w1.heap.size).1 = 0 := hH.fresh _ (Nat.le_refl _)
  have HTag := Lib.hid htag
  clear hOa hca htag
  go_wp2_with fail
  generalize w1.alloc (.cells #[.pointer (some ⟨b, 0, none⟩)] 76) = W at *
  generalize w1.heap.size = B at *
  have hcW := hc.only0 HOa.out
  have hpred : PredI W 57 #[.pointer (some ⟨B, 0, none⟩)] (fun x => !Cnf.okAt N x) c := fun x hx W' hW' => by
    have h1 := rup_follows1_any (hHa.only0 hW') (by rw [HnN.out]; exact hN1) B (cell_keep HCa.out hW' (fun f => f)) x (hc.range x hx)
    rw [HnN.out] at h1
    exact h1.mono fun _ _ ⟨he, hw⟩ => ⟨he, by rw [hw]; exact Only.refl _ _⟩
  have HPred := Lib.hid hpred
  clear hpred
  cases hany : c.any (fun x => !Cnf.okAt N x)
  · have hfr := formR_of_ok hany
    have HA := Lib.hid hany
    clear hany
    refine (ContainsFunc_int hcW 57 #[.pointer (some ⟨B, 0, none⟩)] _ HEg.out HPred.out false HA.out).mono ?_
    rintro e w2 ⟨rfl, O2⟩
    have hc2 := cell_keep HCa.out O2 (fun f => f)
    have hF := Form_any (hcW.only0 O2) hcb
    have HF := Lib.hid hF
    clear hF
    go_wp2_with fail
    refine HF.out.mono ?_
    intro e w3 hp
    unfold FormPost at hp
    cases hf : Cnf.form c with
    | none =>
      rw [hf] at hp
      obtain ⟨rfl, O3⟩ := hp
      have hres : r = true := by rw [← HR.out, HR2.out, HA.out, hf]; rfl
      have HRes := Lib.hid hres
      clear hf hres hfr
      go_wp2_with fail
      go_ret
      rw [HRes.out]
      exact ⟨rfl, (HOa.out.same O2).same O3⟩
    | some f =>
      rw [hf] at hp
      obtain ⟨vf, rfl, R1, N1, O3⟩ := hp
      rw [hf] at hfr
      have hfo := Rup.formR_ok hc.range hfr
      have hIf := Ints.of_own R1 (fun x hx => (hfo.2.1 x hx).r)
      have hres : (Up.conf C.n C.live (f.map fun x => -x)).2 = r := by rw [← HR.out, HR2.out, HA.out, hf, HnN.out]; rfl
      have hH2 := hHa.only0 (O2.same O3)
      have hN : NotMine g vf f := fun _ k hk => (hHa.only0 O2).fresh k (N1 k (Ints.blk_own (f := f) R1 hk))
      have hfol := rup_follows_any hH2 HRest.out.ok HRest.out.set hIf hN hfo.2.1 (by rw [HnN.out]; exact hfo.2.2.2) r hres
      have HFol := Lib.hid hfol
      have hc3 := cell_keep hc2 O3 (fun f => f)
      have hO3 : Only (fun _ => False) w w3 := (HOa.out.same O2).same O3
      clear hf hres hfol hN hfr hfo
      obtain ⟨af, cf, rfl, _, _⟩ := hIf.shape
      go_wp2_with fail
      refine HFol.out.mono ?_
      rintro e w4 ⟨rfl, g4, V4, _, _, O4⟩
      have hO4 : Only (fun _ => False) w w4 := RupBegun.mine hclr hO3 O4
      clear O4
      go_wp2_with fail
      go_ret
      exact ⟨rfl, hO4⟩
  · have HA := Lib.hid hany
    clear hany
    have hres : r = false := by rw [← HR.out, HR2.out, HA.out]; rfl
    have HRes := Lib.hid hres
    clear hres
    refine (ContainsFunc_int hcW 57 #[.pointer (some ⟨B, 0, none⟩)] _ HEg.out HPred.out true HA.out).mono ?_
    rintro e w2 ⟨rfl, O2⟩
    go_wp2_with fail
    go_ret
    rw [HRes.out]
    exact ⟨rfl, HOa.out.same O2⟩
end
end Go.Proofs.Ytjbfgafkjejdjaa
