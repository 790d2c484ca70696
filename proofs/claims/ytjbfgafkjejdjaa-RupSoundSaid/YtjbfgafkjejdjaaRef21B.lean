/- The walks of cooperref21: without, Proof. -/
import Derived.Test.YtjbfgafkjejdjaaRef21
import Derived.Test.YtjbfgafkjejdjaaRup7
namespace Go.Proofs.Ytjbfgafkjejdjaa
open Go.RowKit

namespace Ref
/-- the last of the first k clauses that is f -/
def lastK (L : List (List Int)) (f : List Int) : Nat → Option Nat
  | 0 => none
  | k + 1 => if L.getD k [] == f then some k else lastK L f k

theorem lastK_lt {L : List (List Int)} {f : List Int} : ∀ {k i : Nat}, lastK L f k = some i → i < k
  | 0, i, h => by cases h
  | k + 1, i, h => by
    unfold lastK at h
    split at h
    · simp at h; omega
    · have := lastK_lt h; omega

def cutAt (L : List (List Int)) (i : Nat) : List (List Int) := L.take i ++ L.drop (i + 1)

/-- the proof, as the document goes through it -/
def proof (n : Nat) (L : List (List Int)) : List (Bool × List Int) → Nat → Int
  | [], _ => -1
  | p :: r, i => match Rup.formR n p.2 with
    | none => i
    | some f => if p.1 then (match lastK L f L.length with | none => (i : Int) | some j => proof n (cutAt L j) r (i + 1))
      else if refFollows n L f then proof n (L ++ [f]) r (i + 1) else i
end Ref

section
variable {w : World}

theorem AllInts.take {us : List Value} {css : List (List Int)} (h : AllInts w us css) (k : Nat) : AllInts w (us.take k) (css.take k) := by
  refine ⟨by simp [h.1], fun i hi => ?_⟩
  simp only [List.length_take] at hi
  have e1 : (us.take k).getD i nilS = us.getD i nilS := by
    simp only [List.getD_eq_getElem?_getD, List.getElem?_take]; rw [if_pos (by omega)]
  have e2 : (css.take k).getD i [] = css.getD i [] := by
    simp only [List.getD_eq_getElem?_getD, List.getElem?_take]; rw [if_pos (by omega)]
  rw [e1, e2]
  exact h.2 i (by omega)

theorem AllInts.drop {us : List Value} {css : List (List Int)} (h : AllInts w us css) (k : Nat) : AllInts w (us.drop k) (css.drop k) := by
  refine ⟨by simp [h.1], fun i hi => ?_⟩
  simp only [List.length_drop] at hi
  have e1 : (us.drop k).getD i nilS = us.getD (k + i) nilS := by simp only [List.getD_eq_getElem?_getD, List.getElem?_drop]
  have e2 : (css.drop k).getD i [] = css.getD (k + i) [] := by simp only [List.getD_eq_getElem?_getD, List.getElem?_drop]
  rw [e1, e2]
  exact h.2 _ (by omega)

theorem AllInts.append {us vs : List Value} {css dss : List (List Int)} (h : AllInts w us css) (h2 : AllInts w vs dss) : AllInts w (us ++ vs) (css ++ dss) := by
  refine ⟨by simp [h.1, h2.1], fun i hi => ?_⟩
  have hl := h.1
  by_cases hi' : i < css.length
  · rw [getD_app_l _ _ _ (by omega), getD_app_l _ _ _ hi']
    exact h.2 i hi'
  · rw [getD_app_r _ _ _ (by omega), getD_app_r _ _ _ (by omega), hl]
    simp only [List.length_append] at hi
    exact h2.2 _ (by omega)

/-- the first k of the cells -/
theorem Cells.pre {ao : Option Addr} {n cap : Nat} {us : List Value} (h : Cells w (.slice ao n cap) us) (k : Nat) (hk : k ≤ us.length) : Cells w (.slice ao k cap) (us.take k) := by
  obtain ⟨ao', cap', he, h1, h2⟩ := h.shape
  simp only [Value.slice.injEq] at he
  obtain ⟨rfl, rfl, rfl⟩ := he
  refine ⟨⟨ao, cap, by simp; omega, by simp; omega, h2⟩, fun ao' len' cap' hv hp => ?_, fun len' cap' hv => ?_⟩
  · simp only [List.length_take] at hp
    simp only [Value.slice.injEq] at hv
    obtain ⟨rfl, -, -⟩ := hv
    obtain ⟨b, off, rfl, hb, hc⟩ := h.cells _ _ _ rfl (by omega)
    refine ⟨b, off, rfl, hb, fun i hi => ?_⟩
    simp only [List.length_take] at hi
    rw [hc i (by omega)]
    simp only [List.getD_eq_getElem?_getD, List.getElem?_take]
    rw [if_pos (by omega)]
  · simp only [Value.slice.injEq] at hv
    obtain ⟨rfl, rfl, rfl⟩ := hv
    have := h.nil _ _ rfl
    omega

theorem IntsS.of_own' {v : Value} {us : List Value} {css : List (List Int)} {n : Nat} (h : w.ownsRow 0 22 1 v n us) (hA : AllInts w us css) : IntsS w v css := by
  have hn : us.length = n := by simpa using h.1
  subst hn
  exact ⟨us, Cells.of_own h, hA⟩

/-- What without hands back. -/
def WithoutPost (w : World) (vL : Value) (L : List (List Int)) (f : List Int) (e : Ending) (w' : World) : Prop :=
  match Ref.lastK L f L.length with
  | none => e = .returned (.tuple #[vL, .bool false]) ∧ Only (fun _ => False) w w'
  | some i => ∃ v, e = .returned (.tuple #[v, .bool true]) ∧ IntsS w' v (Ref.cutAt L i) ∧ Only (fun _ => False) w w'

set_option maxRecDepth 100000 in
set_option maxHeartbeats 1600000 in
theorem without_any {vL vf : Value} {L : List (List Int)} {f : List Int} (hL : IntsS w vL L) (hf : Ints w vf f) (hb : L.length ≤ 1000000) :
    Calls Try.prog 51 #[vL, vf] w (WithoutPost w vL L f) := by
  obtain ⟨us, hC, hA⟩ := hL
  have hL : IntsS w vL L := ⟨us, hC, hA⟩
  obtain ⟨aL, cL, rfl, hc1, hc2⟩ := hL.shape
  have hul := hA.1
  go_enter Try.func51, Try.ntmps51
  go_wp2_with fail
  go_loopw [6] (fun v wr => ∃ k : Nat, v = .int .i64 ((k : Int) - 1) ∧ k ≤ L.length ∧ Ref.lastK L f L.length = Ref.lastK L f k ∧ Only (fun _ => False) w wr) (fun v _ => (intOf v + 1).toNat)
  case atStart => exact ⟨L.length, rfl, Nat.le_refl _, rfl, Only.refl _ _⟩
  case round =>
    obtain ⟨k, rfl, hk, hD, hO⟩ := hrel
    have HD := Lib.hid hD
    clear hD
    by_cases ck : 0 < k
    · obtain ⟨j, rfl⟩ : ∃ j, k = j + 1 := ⟨k - 1, by omega⟩
      have hCr := hC.only0 hO
      have hAr := hA.only0 hO
      obtain ⟨bc, oc, rfl, hbc, hcs⟩ := hCr.cells _ _ _ rfl (by omega)
      have q := hcs j (by omega)
      have hu := hAr.2 j (by omega)
      have ej : ((j + 1 : Nat) : Int) - 1 = (j : Int) := by omega
      rw [ej]
      have jb : (j : Int) < (L.length : Int) := by omega
      clear hcs
      obtain ⟨au, cu, hue, _, _⟩ := hu.shape
      rw [hue] at q hu
      cases he : (L.getD j [] == f)
      · have hS := Same_any hu (hf.only0 hO)
        rw [he] at hS
        have HS := Lib.hid hS
        have hd2 : Ref.lastK L f (j + 1) = Ref.lastK L f j := by rw [Ref.lastK, he]; rfl
        have HD2 := Lib.hid hd2
        clear hd2 hS he hu hue
        generalize (L.getD j []).length = lj at *
        go_wp2_with fail
        refine HS.out.mono ?_
        rintro e w' ⟨rfl, O2⟩
        go_wp2_with fail
        go_roundw
        case rel => exact ⟨j, rfl, by omega, by rw [HD.out, HD2.out], hO.same O2⟩
        case measure => simp [intOf]
      · have hS := Same_any hu (hf.only0 hO)
        rw [he] at hS
        have HS := Lib.hid hS
        have hd2 : Ref.lastK L f (j + 1) = some j := by rw [Ref.lastK, he]; rfl
        have hres : Ref.lastK L f L.length = some j := by rw [HD.out, hd2]
        have HRes := Lib.hid hres
        clear hd2 hS he hu hue hres
        generalize (L.getD j []).length = lj at *
        have jl : j < L.length := by omega
        go_wp2_with fail
        refine HS.out.mono ?_
        rintro e w1 ⟨rfl, O2⟩
        have hO2 := hO.same O2
        have hC2 := hC.only0 hO2
        have hA2 := hA.only0 hO2
        have jc : (j : Int) ≤ (cL : Int) := by omega
        have hpre := hC2.pre j (by omega)
        go_wp2_with (at_builtin; go_must (refine wpAS slInts rfl (.tmp 22) (.tmp 25) rfl (v := .slice (some ⟨w1.heap.size, 0, none⟩) 0 0) (n := 0) (xs := []) rfl (OwnS.lit0 w1 w1 (Nat.le_refl _)).row rfl (news := us.take j) (by simp; omega) ?n1 (by exact (hpre.only0 ((Only.refl _ w1).alloc _)).news) (hA2.take j).one (by omega) (by decide) ?n2))
        case n1 => intro e; exact absurd e (by simp)
        case n2 =>
          intro v2 w2 r1 r2 r3
          have hv2 : ∀ k, v2.ownBlock = some k → w1.heap.size ≤ k := by
            intro k hk
            rcases r3 k hk with h | h
            · simp [Value.ownBlock] at h; omega
            · simp at h; omega
          have O3 : Only (fun _ => False) w1 w2 := ((Only.refl _ w1).alloc _).trans r2 (by intro i hi; simp [Value.ownBlock] at hi; exact .inr (by omega))
          have r1' : w2.ownsRow 0 22 1 v2 j (us.take j) := by simpa using r1
          have HV2 := Lib.hid hv2
          clear r1 r2 r3 hv2 hpre
          have hC3 := hC2.only0 O3
          have hA3 := hA2.only0 O3
          have hfin : ∀ v4 w4, w4.ownsRow 0 22 1 v4 (L.length - 1) (us.take j ++ us.drop (j + 1)) → Only (fun _ => False) w1 w4 → IntsS w4 v4 (Ref.cutAt L j) ∧ Only (fun _ => False) w w4 := fun v4 w4 h1 h2 =>
            ⟨IntsS.of_own' h1 (((hA2.only0 h2).take j).append ((hA2.only0 h2).drop (j + 1))), hO2.same h2⟩
          have HFin := Lib.hid hfin
          clear hfin
          by_cases hcj : cL = j + 1
          · have hjl : L.length = j + 1 := by omega
            have HJ := Lib.hid hjl
            clear hjl
            subst hcj
            rw [HJ.out]
            go_wp2_with (at_builtin; go_must (refine wpAS slInts rfl (.tmp 27) (.tmp 31) rfl (n := j) (xs := us.take j) rfl r1' (ao := some ⟨bc, oc, none⟩) (m := 0) (c := 0) rfl (news := []) rfl (by simp) (by simp) (by simp) (by omega) (by decide) ?n4))
            intro v4 w4 t1 t2 t3
            have O4 : Only (fun _ => False) w1 w4 := O3.trans t2 (fun k hk => .inr (HV2.out k hk))
            have t1' : w4.ownsRow 0 22 1 v4 (L.length - 1) (us.take j ++ us.drop (j + 1)) := by
              have hd : us.drop (j + 1) = [] := List.drop_of_length_le (by have := HJ.out; omega)
              rw [hd, HJ.out]; simpa using t1
            obtain ⟨h1, h2⟩ := HFin.out v4 w4 t1' O4
            clear t1 t2 t3 t1'
            go_wp2_with fail
            go_ret2
            unfold WithoutPost
            rw [HRes.out]
            exact ⟨_, rfl, h1, h2⟩
          · have hdr := hC3.cells _ _ _ rfl (by omega)
            obtain ⟨b9, o9, h9, _, hcs9⟩ := hdr
            simp only [Option.some.injEq, Addr.mk.injEq, and_true] at h9
            obtain ⟨rfl, rfl⟩ := h9
            have hN5 : ∀ ad, some (⟨bc, oc + (j + 1), none⟩ : Addr) = some ad → ∀ i u, (us.drop (j + 1))[i]? = some u → w2.cell? (ad.add i) = some u := by
              intro ad had i u hu
              simp only [Option.some.injEq] at had
              subst had
              have hi : i < us.length - (j + 1) := by
                have := (List.getElem?_eq_some_iff.1 hu).1
                simpa using this
              rw [Go.WideShapes.add_plain, Nat.add_assoc, hcs9 (j + 1 + i) (by omega), ← hu, List.getElem?_drop]
              simp [List.getD_eq_getElem?_getD, show j + 1 + i < us.length by omega]
            have HN5 := Lib.hid hN5
            clear hcs9 hN5
            go_wp2_with (at_builtin; go_must (refine wpAS slInts rfl (.tmp 27) (.tmp 31) rfl (n := j) (xs := us.take j) rfl r1' (ao := some ⟨bc, oc + (j + 1), none⟩) (m := L.length - (j + 1)) (c := cL - (j + 1)) rfl (news := us.drop (j + 1)) (by simp; omega) (by simp) (by exact HN5.out) (hA3.drop (j + 1)).one (by omega) (by decide) ?n6))
            case n6 =>
              intro v4 w4 t1 t2 t3
              have O4 : Only (fun _ => False) w1 w4 := O3.trans t2 (fun k hk => .inr (HV2.out k hk))
              have t1' : w4.ownsRow 0 22 1 v4 (L.length - 1) (us.take j ++ us.drop (j + 1)) := by
                rw [show L.length - 1 = j + (L.length - (j + 1)) by omega]; exact t1
              obtain ⟨h1, h2⟩ := HFin.out v4 w4 t1' O4
              clear t1 t2 t3 t1'
              go_wp2_with fail
              go_ret2
              unfold WithoutPost
              rw [HRes.out]
              exact ⟨_, rfl, h1, h2⟩
    · have hk0 : k = 0 := by omega
      subst hk0
      have hres : Ref.lastK L f L.length = none := by rw [HD.out]; rfl
      have HRes := Lib.hid hres
      clear hres
      go_wp2_with fail
      go_ret2
      unfold WithoutPost
      rw [HRes.out]
      exact ⟨rfl, hO⟩
end
end Go.Proofs.Ytjbfgafkjejdjaa
