/- The walk of cooperref21.Proof. -/
import Derived.Test.YtjbfgafkjejdjaaRupLaw3
import Derived.Test.YtjbfgafkjejdjaaRupL3
namespace Go.Proofs.Ytjbfgafkjejdjaa
open Go.RowKit

section
variable {w : World}

theorem Ref.cut_mem {L : List (List Int)} {i : Nat} {c : List Int} (h : c ∈ Ref.cutAt L i) : c ∈ L := by
  unfold Ref.cutAt at h
  rcases List.mem_append.1 h with h | h
  · exact List.mem_of_mem_take h
  · exact List.mem_of_mem_drop h

theorem Ref.cut_len (L : List (List Int)) (i : Nat) : (Ref.cutAt L i).length ≤ L.length := by
  unfold Ref.cutAt; simp; omega

set_option maxRecDepth 100000 in
set_option maxHeartbeats 3200000 in
theorem Proof_any {vL vps : Value} {L : List (List Int)} {ps : List (Bool × List Int)} (hL : IntsS w vL L) (hlit : ∀ c ∈ L, ∀ x ∈ c, Cnf.Lit x) (hS : StepsAt w vps ps) (N : Nat) (hN : N ≤ 1000) (hb : L.length + ps.length ≤ 10000) (hpb : ∀ p ∈ ps, p.2.length ≤ 10000) (nI : Int) (hnI : nI = N) :
    Calls Try.prog 24 #[.int .i64 nI, vL, vps] w fun e w' => ∃ v, e = .returned (.tuple #[.int .i64 (Ref.proof N L ps 0), v]) ∧ Only (fun _ => False) w w' := by
  subst hnI
  obtain ⟨aL, cL, rfl, _, _⟩ := hL.shape
  obtain ⟨as_, cs, rfl, hs1, hs2⟩ := hS.shape
  have HLit := Lib.hid hlit
  have HPB := Lib.hid hpb
  clear hlit hpb
  generalize hR : Ref.proof N L ps 0 = R at *
  have HR := Lib.hid hR
  clear hR
  go_enter Try.func24, Try.ntmps24
  go_wp2_with fail
  go_loopw [8, 18] (fun vl v wr => ∃ (k : Nat) (M : List (List Int)), v = .int .i64 k ∧ k ≤ ps.length ∧ IntsS wr vl M ∧ (∀ c ∈ M, ∀ x ∈ c, Cnf.Lit x) ∧ M.length ≤ L.length + k ∧ R = Ref.proof N M (ps.drop k) k ∧ Only (fun _ => False) w wr) (fun _ v _ => ps.length - (intOf v).toNat)
  case atStart => exact ⟨0, L, rfl, Nat.zero_le _, hL, HLit.out, by omega, HR.out.symm, Only.refl _ _⟩
  case round =>
    clear HR HLit
    obtain ⟨k, M, rfl, hk, hM, hlit, hMl, hR, hO⟩ := hrel
    have HLit := Lib.hid hlit
    clear hlit
    obtain ⟨aM, cM, rfl, hm1, hm2⟩ := hM.shape
    by_cases ck : k < ps.length
    · obtain ⟨b, off, us, rfl, _, hcs⟩ := (hS.only0 hO).cells _ _ _ rfl (by omega)
      obtain ⟨q1, q2, hu⟩ := hcs k ck
      have hpl := HPB.out _ (getD_mem' (false, []) ck)
      rw [List.drop_eq_getElem_cons ck, show ps[k] = ps.getD k (false, []) by simp [List.getD_eq_getElem?_getD, ck], Ref.proof] at hR
      have HR := Lib.hid hR
      clear hcs hR
      generalize hpe : ps.getD k (false, []) = p at *
      clear hpe
      obtain ⟨gone, c⟩ := p
      simp only at q1 q2 hu hpl HR
      obtain ⟨au, cu, hue, _, _⟩ := hu.shape
      rw [hue] at q2 hu
      clear hue
      have hrng := hu.range
      have HRng := Lib.hid hrng
      have kb : (k : Int) < (ps.length : Int) := by omega
      have hF := RForm_any hu (by omega)
      have HF := Lib.hid hF
      clear hF hrng
      go_wp2_with fail
      refine HF.out.mono ?_
      intro e w1 hp
      unfold RFormPost at hp
      have hfr : Rup.formR N c = if Cnf.right N c then Cnf.form c else none := rfl
      cases hr : Cnf.right N c
      · rw [hr] at hfr
        simp only [Bool.false_eq_true, if_false] at hfr
        have hRk : R = k := by rw [HR.out, hfr]
        have hex : ∃ v okb, e = .returned (.tuple #[v, .bool okb]) ∧ Only (fun _ => False) wr w1 ∧ ∃ ao l cp, v = .slice ao l cp := by
          cases hf : Cnf.form c with
          | none =>
            rw [hf] at hp
            obtain ⟨v, he, hrow, _, O1⟩ := hp
            obtain ⟨ao, cap, hv, _, _⟩ := own_slice hrow
            exact ⟨v, false, he, O1, ao, _, cap, hv⟩
          | some f =>
            rw [hf] at hp
            obtain ⟨v, he, hrow, _, O1⟩ := hp
            obtain ⟨ao, cap, hv, _, _⟩ := own_slice hrow
            exact ⟨v, true, he, O1, ao, _, cap, hv⟩
        obtain ⟨v, okb, rfl, O1, ao, l, cp, rfl⟩ := hex
        have q2' := cell_keep q2 O1 (fun f => f)
        have HRk := Lib.hid hRk
        have HRt := Lib.hid hr
        clear hp hfr hRk hr
        go_wp2_with fail
        refine (Right_any (hu.only0 O1) (by omega) N false HRt.out).mono ?_
        rintro e w2 ⟨rfl, O2⟩
        go_wp2_with fail
        go_ret2
        rw [HRk.out]
        exact ⟨_, rfl, (hO.same O1).same O2⟩
      · rw [hr] at hfr
        simp only [if_true] at hfr
        have hsome : ∃ f, Cnf.form c = some f := by
          have h := hr
          unfold Cnf.right at h
          simp only [Bool.and_eq_true] at h
          exact Option.isSome_iff_exists.1 h.2
        obtain ⟨f, hf⟩ := hsome
        rw [hf] at hp hfr
        obtain ⟨vf, rfl, R1, N1, O1⟩ := hp
        have hfo := Rup.formR_ok HRng.out hfr
        have hIf := Ints.of_own R1 (fun x hx => (hfo.2.1 x hx).r)
        have hff := Rup.form_again HRng.out hfr
        have hfl : f.length ≤ N := by have := hfo.2.2.2.len; simpa using this
        have q1' := cell_keep q1 O1 (fun f => f)
        have q2' := cell_keep q2 O1 (fun f => f)
        have HRt := Lib.hid hr
        have hR2 := HR.out
        rw [hfr] at hR2
        simp only at hR2
        have HR2 := Lib.hid hR2
        have HFo := Lib.hid hfo.2.1
        clear HR hr hf hR2 hfr hfo q1 q2
        obtain ⟨af, cf, rfl, _, _⟩ := hIf.shape
        cases gone
        · simp only [Bool.false_eq_true, if_false] at HR2
          cases hfo2 : refFollows N M f
          · have hRk : R = k := by rw [HR2.out, hfo2]; rfl
            have HRk := Lib.hid hRk
            have HFF := Lib.hid hfo2
            clear hRk hfo2
            go_wp2_with fail
            refine (Right_any (hu.only0 O1) (by omega) N true HRt.out).mono ?_
            rintro e w2 ⟨rfl, O2⟩
            have q1'' := cell_keep q1' O2 (fun f => f)
            have hmm := mulle (show N + 1 ≤ 1001 by omega) (show M.length ≤ 10000 by omega)
            have hfol := RFollows_any ((hM.only0 O1).only0 O2) HLit.out (hIf.only0 O2) N (by omega) (by omega) _ rfl false HFF.out
            have HFol := Lib.hid hfol
            clear hfol hmm
            go_wp2_with fail
            refine HFol.out.mono ?_
            rintro e w3 ⟨rfl, O3⟩
            go_wp2_with fail
            go_ret2
            rw [HRk.out]
            exact ⟨_, rfl, ((hO.same O1).same O2).same O3⟩
          · have hRk : R = Ref.proof N (M ++ [f]) (ps.drop (k + 1)) (k + 1) := by rw [HR2.out, hfo2]; rfl
            have HRk := Lib.hid hRk
            have HFF := Lib.hid hfo2
            clear hRk hfo2
            go_wp2_with fail
            refine (Right_any (hu.only0 O1) (by omega) N true HRt.out).mono ?_
            rintro e w2 ⟨rfl, O2⟩
            have q1'' := cell_keep q1' O2 (fun f => f)
            have hmm := mulle (show N + 1 ≤ 1001 by omega) (show M.length ≤ 10000 by omega)
            have hfol := RFollows_any ((hM.only0 O1).only0 O2) HLit.out (hIf.only0 O2) N (by omega) (by omega) _ rfl true HFF.out
            have HFol := Lib.hid hfol
            clear hfol hmm
            go_wp2_with fail
            refine HFol.out.mono ?_
            rintro e w3 ⟨rfl, O3⟩
            have hO3 := ((hO.same O1).same O2).same O3
            obtain ⟨ms, hCM, hAM⟩ := ((hM.only0 O1).only0 O2).only0 O3
            have hml := hAM.1
            have hIf3 := (hIf.only0 O2).only0 O3
            go_wp2_with (at_builtin; go_must (refine wpAS slInts rfl (.tmp 64) (.tmp 65) rfl (v := .slice (some ⟨w3.heap.size, 0, none⟩) 0 0) (n := 0) (xs := []) rfl (OwnS.lit0 w3 w3 (Nat.le_refl _)).row rfl (news := ms) (by omega) ?n1 (by exact (hCM.only0 ((Only.refl _ w3).alloc _)).news) hAM.one (by omega) (by decide) ?n2))
            case n1 => intro e; exact hCM.nil _ _ (by rw [e])
            case n2 =>
              intro v4 w4 r1 r2 r3
              have hv4 : ∀ k, v4.ownBlock = some k → w3.heap.size ≤ k := by
                intro k hk
                rcases r3 k hk with h | h
                · simp [Value.ownBlock] at h; omega
                · simp at h; omega
              have O4 : Only (fun _ => False) w3 w4 := ((Only.refl _ w3).alloc _).trans r2 (by intro i hi; simp [Value.ownBlock] at hi; exact .inr (by omega))
              have r1' : w4.ownsRow 0 22 1 v4 ms.length ms := by simpa [hml] using r1
              have HV4 := Lib.hid hv4
              clear r1 r2 r3 hv4
              go_wp2_with (at_builtin; go_must (refine wpA1 (u := .slice af f.length cf) slInts rfl (.tmp 67) (.tmp 69) rfl rfl rfl (cell_newE _ _ _ _ rfl) rfl (own_only r1' ((Only.refl (fun _ => False) _).alloc _) (fun _ _ f => f)) (by omega) (by decide) ?n3))
              intro v5 w5 s1 s2 s3
              have O5 : Only (fun _ => False) w3 w5 := (O4.alloc _).trans s2 (fun k hk => .inr (HV4.out k hk))
              have hM5 : IntsS w5 v5 (M ++ [f]) := IntsS.of_own' s1 ((hAM.only0 O5).snoc (hIf3.only0 O5))
              have hO5 := hO3.same O5
              clear s1 s2 s3 r1' HV4
              go_wp2_with fail
              go_roundw
              case rel =>
                refine ⟨k + 1, M ++ [f], by go_num, by omega, hM5, ?_, by simp; omega, HRk.out, hO5⟩
                intro d hd
                rcases List.mem_append.1 hd with h | h
                · exact HLit.out d h
                · simp at h; subst h; exact HFo.out
              case measure => simp [intOf]; omega
        · simp only [if_true] at HR2
          cases hlk : Ref.lastK M f M.length with
          | none =>
            have hRk : R = k := by rw [HR2.out, hlk]
            have HRk := Lib.hid hRk
            have HLK := Lib.hid hlk
            clear hRk hlk
            go_wp2_with fail
            refine (Right_any (hu.only0 O1) (by omega) N true HRt.out).mono ?_
            rintro e w2 ⟨rfl, O2⟩
            have q1'' := cell_keep q1' O2 (fun f => f)
            have hwo := without_any ((hM.only0 O1).only0 O2) (hIf.only0 O2) (by omega)
            have HWo := Lib.hid hwo
            clear hwo
            go_wp2_with fail
            refine HWo.out.mono ?_
            intro e w3 hp3
            unfold WithoutPost at hp3
            rw [HLK.out] at hp3
            obtain ⟨rfl, O3⟩ := hp3
            go_wp2_with fail
            go_ret2
            rw [HRk.out]
            exact ⟨_, rfl, ((hO.same O1).same O2).same O3⟩
          | some i =>
            have hRk : R = Ref.proof N (Ref.cutAt M i) (ps.drop (k + 1)) (k + 1) := by rw [HR2.out, hlk]
            have HRk := Lib.hid hRk
            have HLK := Lib.hid hlk
            clear hRk hlk
            go_wp2_with fail
            refine (Right_any (hu.only0 O1) (by omega) N true HRt.out).mono ?_
            rintro e w2 ⟨rfl, O2⟩
            have q1'' := cell_keep q1' O2 (fun f => f)
            have hwo := without_any ((hM.only0 O1).only0 O2) (hIf.only0 O2) (by omega)
            have HWo := Lib.hid hwo
            clear hwo
            go_wp2_with fail
            refine HWo.out.mono ?_
            intro e w3 hp3
            unfold WithoutPost at hp3
            rw [HLK.out] at hp3
            obtain ⟨v3, rfl, hM3, O3⟩ := hp3
            have hcl := Ref.cut_len M i
            obtain ⟨a3, c3, rfl, _, _⟩ := hM3.shape
            go_wp2_with fail
            go_roundw
            case rel => exact ⟨k + 1, Ref.cutAt M i, by go_num, by omega, hM3, fun d hd => HLit.out d (Ref.cut_mem hd), by omega, HRk.out, ((hO.same O1).same O2).same O3⟩
            case measure => simp [intOf]; omega
    · have hRk : R = -1 := by rw [hR, List.drop_of_length_le (by omega)]; rfl
      have HRk := Lib.hid hRk
      clear hRk hR
      go_wp2_with fail
      go_ret2
      rw [HRk.out]
      exact ⟨_, rfl, hO⟩
end
end Go.Proofs.Ytjbfgafkjejdjaa
