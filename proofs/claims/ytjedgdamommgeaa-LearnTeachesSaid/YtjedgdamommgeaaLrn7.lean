/- The walk of (*learn.student).others. (Printed by gen_lrn7.py.) -/
import Derived.Test.YtjedgdamommgeaaLrn6
set_option linter.unusedVariables false
namespace Go.Proofs.Ytjedgdamommgeaa
open Go.RowKit
open Tr

namespace Tr
def Trail.keeps (T : Trail) (s : Stu) (first : Int) (a : Int) : Bool := !(s.f a == first || T.covers s (s.f a))
/-- what others has by then -/
def Trail.othersTo (T : Trail) (s : Stu) (first : Int) (l : List Int) : List Int := (l.filter (T.keeps s first)).map s.f
theorem others_to (T : Trail) (s : Stu) (first : Int) : T.others s first = T.othersTo s first (sortI s.ks) := by
  unfold Trail.others Trail.othersTo
  rw [List.filter_map]; rfl
theorem othersTo_snoc (T : Trail) (s : Stu) (first : Int) (l : List Int) (a : Int) : T.othersTo s first (l ++ [a]) = if T.keeps s first a then T.othersTo s first l ++ [s.f a] else T.othersTo s first l := by
  unfold Trail.othersTo
  rw [List.filter_append, List.map_append]
  cases h : T.keeps s first a <;> simp [h]
theorem othersTo_len (T : Trail) (s : Stu) (first : Int) (l : List Int) : (T.othersTo s first l).length ≤ l.length := by
  unfold Trail.othersTo; rw [List.length_map]; exact List.length_filter_le _ _
end Tr

section
variable {w : World} {g : Tag} {b : Nat} {V : TrV} {T : Trail} {bs bi bm : Nat} {top : Int} {s : Stu}

set_option maxRecDepth 100000 in
set_option maxHeartbeats 3200000 in
theorem others_any (H : TrAt w g b V T) (o : Ok T) (hS : StAt w bs bi bm b top s) (hkg : Kg T.n s) (first : Int) :
    Calls Try.prog 42 #[.pointer (some ⟨bs, 0, none⟩), .int .i64 first] w fun e w' => ∃ v, e = .returned v ∧ w'.ownsRow 0 3 1 v (T.others s first).length ((T.others s first).map cI) ∧ (∀ k, v.ownBlock = some k → w.heap.size ≤ k) ∧ Only (fun _ => False) w w' := by
  obtain ⟨w0, hw0⟩ : ∃ w0, w.alloc (.cells #[.pointer (some ⟨bs, 0, none⟩)] 61) = w0 := ⟨_, rfl⟩
  obtain ⟨bp, hbp⟩ : ∃ bp, w.heap.size = bp := ⟨_, rfl⟩
  have o0 : Only (fun _ => False) w w0 := by rw [← hw0]; exact (Only.refl _ _).alloc _
  have h1 : w0.cell? ⟨bp, 0, none⟩ = some (.pointer (some ⟨bs, 0, none⟩)) := by
    rw [← hw0, ← hbp]; exact cell_newE _ _ _ _ rfl
  have hks := keys_len hkg.ks hS.in_.nd
  have hn := o.n
  have H0 := H.only0 o0
  have hS0 := hS.only0 o0
  have hke := keys_any w0 bi
  have hso := sorted_any hS0.in_ (by omega)
  have hC : ∀ W, Only (fun _ => False) w0 W → W.cell? ⟨bp, 0, none⟩ = some (.pointer (some ⟨bs, 0, none⟩)) ∧ W.cell? ⟨bs, 0, none⟩ = some (.pointer (some ⟨b, 0, none⟩)) ∧ W.cell? ⟨bs, 2, none⟩ = some (.map (some bi)) ∧ ∀ a, InI64 a → (Instr.lookup 62 (.map (some bi)) (cI a) false).run Try.prog W = .ok (cI (s.f a)) W := fun W oW => ⟨cell_keep h1 oW (fun f => f), (hS0.only0 oW).c0, (hS0.only0 oW).c2, fun a ha => (hS0.only0 oW).in_.look ha⟩
  have hrea : ∀ W, Only (fun _ => False) w0 W → ∀ x, InI64 x → Calls Try.prog 49 #[.pointer (some ⟨b, 0, none⟩), .int .i64 x] W (ReaTo W (T.reasonL x)) := fun W oW x hx => reason_any (H0.only0 oW) o x hx
  have hpr : ∀ W, Only (fun _ => False) w0 W → ∀ x, InI64 x → Calls Try.prog 65 #[.int .i64 x, .pointer (some ⟨bp, 0, none⟩)] W fun e w' => e = .returned (.bool (s.f (Cnf.absW x) == 0)) ∧ Only (fun _ => False) W w' := fun W oW x hx =>
    others1_any (hS0.only0 oW) bp (cell_keep h1 oW (fun f => f)) x hx
  have hval := hS.in_.val
  have hrng := hS.in_.rng
  have hco := hC w0 (Only.refl _ _)
  obtain ⟨hc1, hc2, hc3, hc4⟩ := hco
  have HKe := Lib.hid hke
  have HSo := Lib.hid hso
  have HC := Lib.hid hC
  have HRea := Lib.hid hrea
  have HPr := Lib.hid hpr
  have HVal := Lib.hid hval
  have HRng := Lib.hid hrng
  have HOk := Lib.hid o
  have HO0 := Lib.hid o0
  have hsl := sortI_len s.ks
  rw [others_to]
  clear hke hso hC hrea hpr hval hrng hS hS0 H H0 o o0 h1 hkg hc4
  go_enter Try.func42, Try.ntmps42
  go_wp2_with fail
  refine HKe.out.mono ?_
  rintro e w' ⟨rfl, rfl⟩
  go_wp2_with fail
  refine HSo.out.mono ?_
  rintro e w1 ⟨v, rfl, R1, N1, O1⟩
  have hI : Ints w1 v (sortI s.ks) := Ints.of_own R1 fun x hx => HRng.out x (mem_sortI.1 hx)
  obtain ⟨ai, ci, rfl, -, -⟩ := hI.shape
  have HI := Lib.hid hI
  have HO1 := Lib.hid O1
  clear R1 N1 O1 hI HKe HSo hc1 hc2 hc3
  go_wp2_with fail
  go_loopw [5, 18] (fun vo v wr => ∃ j : Nat, v = .int .i64 j ∧ j ≤ (sortI s.ks).length ∧ wr.ownsRow 0 3 1 vo (T.othersTo s first ((sortI s.ks).take j)).length ((T.othersTo s first ((sortI s.ks).take j)).map cI) ∧ (∀ k, vo.ownBlock = some k → w1.heap.size ≤ k) ∧ Only (fun _ => False) w1 wr) (fun _ v _ => (sortI s.ks).length - (intOf v).toNat)
  case atStart => exact ⟨0, rfl, Nat.zero_le _, World.ownsRow_nil _ _ _ _, fun j hj => by simp [Value.ownBlock] at hj, Only.refl _ _⟩
  case round =>
    obtain ⟨j, rfl, hj, ro, rb, hO⟩ := hrel
    have HB := Lib.hid rb
    have HRo := Lib.hid ro
    have HOr := Lib.hid hO
    clear rb ro hO
    by_cases cj : j < (sortI s.ks).length
    · obtain ⟨bl, ol, rfl, _, hcs⟩ := (HI.out.only0 HOr.out).cells _ _ _ rfl (by omega)
      have qx := hcs j cj
      have hai : InI64 ((sortI s.ks).getD j 0) := HI.out.range' j
      have hsn := othersTo_snoc T s first ((sortI s.ks).take j) ((sortI s.ks).getD j 0)
      rw [← take_snocI _ j cj] at hsn
      have hol := othersTo_len T s first ((sortI s.ks).take j)
      rw [List.length_take] at hol
      obtain ⟨a, hae⟩ : ∃ a, (sortI s.ks).getD j 0 = a := ⟨_, rfl⟩
      rw [hae] at qx hai hsn
      obtain ⟨hc1, hc2, hc3, hc4⟩ := HC.out wr (HO1.out.same HOr.out)
      have hlk := hc4 a hai
      obtain ⟨x, hx⟩ : ∃ x, s.f a = x := ⟨_, rfl⟩
      have hxi : InI64 x := by rw [← hx]; exact HVal.out a
      have hkp : T.keeps s first a = !(x == first || T.covers s x) := by unfold Trail.keeps; rw [hx]
      rw [hx] at hlk
      rw [hkp, hx] at hsn
      have HSn := Lib.hid hsn
      have ewj : IntKind.i64.wrap ((j : Int) + 1) = ((j + 1 : Nat) : Int) := by rw [IntWalk.i64_in _ (by omega)]; rfl
      clear hcs hae hc4 hx hkp hsn
      obtain ⟨L, hL⟩ : ∃ L, T.othersTo s first ((sortI s.ks).take j) = L := ⟨_, rfl⟩
      rw [hL] at HRo HSn hol
      clear hL
      by_cases hxf : x = first
      · skip
        have dx : (x == first) = true := by rw [beq_iff_eq]; exact hxf
        have hL2 : T.othersTo s first ((sortI s.ks).take (j + 1)) = L := by rw [HSn.out, dx]; rfl
        have HL2 := Lib.hid hL2
        clear hL2
        go_wp2_with fail
        clear hlk qx
        go_roundw
        case rel => exact ⟨j + 1, by first | rfl | go_num, by omega, by rw [HL2.out]; exact HRo.out, HB.out, HOr.out⟩
        case measure => simp [intOf] <;> omega
        
      · have dx : (x == first) = false := by rw [beq_eq_false_iff_ne]; exact hxf
        obtain ⟨nx, hnx⟩ : ∃ nx, IntKind.i64.wrap (-x) = nx := ⟨_, rfl⟩
        have hni : InI64 nx := by rw [← hnx]; exact w64_in _
        have hre := HRea.out wr (HO1.out.same HOr.out) nx hni
        have HRe := Lib.hid hre
        have hcv : T.covers s x = match T.reasonL nx with | some l => !(l.any fun y => s.f (Cnf.absW y) == 0) | none => false := by unfold Trail.covers w64; rw [hnx]; rfl
        have HCv := Lib.hid hcv
        clear hre hcv
        go_wp2_with fail
        refine HRe.out.mono ?_
        intro e w2 hq
        clear hlk qx HRe
        cases hrn : T.reasonL nx with
        | none =>
          skip
          rw [hrn] at hq
          obtain ⟨rfl, O2⟩ := hq
          have hL2 : T.othersTo s first ((sortI s.ks).take (j + 1)) = L ++ [x] := by rw [HSn.out, HCv.out, hrn, dx]; rfl
          have HL2 := Lib.hid hL2
          have hO2 := HOr.out.same O2
          have ro := own_only HRo.out O2 (fun _ _ f => f)
          clear hL2 O2 hrn hc1 hc2 hc3
          go_wp2_with (at_builtin; go_must (refine wpA1 (u := .int .i64 x) slInt rfl (.tmp 48) (.tmp 50) rfl rfl rfl (cell_new0 _ _ _) rfl (own_only ro ((Only.refl (fun _ => False) _).alloc _) (fun _ _ f => f)) (by omega) (by decide) ?_))
          intro v2 w5 s1 s2 s3
          have O5 : Only (fun _ => False) w1 w5 := (hO2.alloc _).trans s2 (fun k hk => .inr (HB.out k hk))
          have hb2 : ∀ k, v2.ownBlock = some k → w1.heap.size ≤ k := by
            obtain ⟨g, cap, rfl, _, _, h⟩ := s3
            intro k hk
            simp [Value.ownBlock] at hk
            subst hk
            rcases h with h | h
            · exact HB.out _ h
            · have := hO2.size; simp at h; omega
          have HB2 := Lib.hid hb2
          have s1' : w5.ownsRow 0 3 1 v2 (L ++ [x]).length ((L ++ [x]).map cI) := by
            rw [List.map_append, List.length_append]
            simpa [cI] using s1
          clear hb2 s1 s2 s3 ro
          go_wp2_with fail
          go_roundw
          case rel => exact ⟨j + 1, by first | rfl | go_num, by omega, by rw [HL2.out]; exact s1', HB2.out, O5⟩
          case measure => simp [intOf] <;> omega
          
        | some l =>
          rw [hrn] at hq
          obtain ⟨ao, cap, rfl, R2, N2, O2⟩ := hq
          obtain ⟨hl1, hl2⟩ := reasonL_ok HOk.out hrn
          have hO2 := HOr.out.same O2
          have hO02 := HO1.out.same hO2
          have hr2 : ∀ y ∈ l, InI64 y := fun y hy => by have := hl1 y hy; unfold InI64; omega
          have hI2 := Ints.of_own R2 hr2
          have hcc : ∀ r, l.any (fun y => s.f (Cnf.absW y) == 0) = r → _ := fun r hr => ContainsFunc_int hI2 65 #[.pointer (some ⟨bp, 0, none⟩)] (fun y => s.f (Cnf.absW y) == 0) enter_others1 (fun y hy W oW => HPr.out W (hO02.same oW) y (hr2 y hy)) r hr
          cases hany : l.any (fun y => s.f (Cnf.absW y) == 0)
          · skip
            have hcf := hcc false hany
            have HCf := Lib.hid hcf
            have hL2 : T.othersTo s first ((sortI s.ks).take (j + 1)) = L := by rw [HSn.out, HCv.out, hrn, dx]; simp only [hany]; rfl
            have HL2 := Lib.hid hL2
            have ro := own_only HRo.out O2 (fun _ _ f => f)
            clear hcf hcc hL2 O2 hO02 hr2 hI2 hl1 hl2 R2 N2 hrn hc1 hc2 hc3
            go_wp2_with fail
            refine HCf.out.mono ?_
            rintro e w3 ⟨rfl, O3⟩
            go_wp2_with fail
            go_roundw
            case rel => exact ⟨j + 1, by first | rfl | go_num, by omega, by rw [HL2.out]; exact own_only ro O3 (fun _ _ f => f), HB.out, hO2.same O3⟩
            case measure => simp [intOf] <;> omega
            
          · skip
            have hcf := hcc true hany
            have HCf := Lib.hid hcf
            have hL2 : T.othersTo s first ((sortI s.ks).take (j + 1)) = L ++ [x] := by rw [HSn.out, HCv.out, hrn, dx]; simp only [hany]; rfl
            have HL2 := Lib.hid hL2
            have ro2 := own_only HRo.out O2 (fun _ _ f => f)
            have HO2 := Lib.hid hO2
            clear hcf hcc hL2 O2 hO2 hO02 hr2 hI2 hl1 hl2 R2 N2 hrn hc1 hc2 hc3
            go_wp2_with fail
            refine HCf.out.mono ?_
            rintro e w3 ⟨rfl, O3⟩
            have hO2 := HO2.out.same O3
            have ro := own_only ro2 O3 (fun _ _ f => f)
            clear ro2 O3
            go_wp2_with (at_builtin; go_must (refine wpA1 (u := .int .i64 x) slInt rfl (.tmp 48) (.tmp 50) rfl rfl rfl (cell_new0 _ _ _) rfl (own_only ro ((Only.refl (fun _ => False) _).alloc _) (fun _ _ f => f)) (by omega) (by decide) ?_))
            intro v2 w5 s1 s2 s3
            have O5 : Only (fun _ => False) w1 w5 := (hO2.alloc _).trans s2 (fun k hk => .inr (HB.out k hk))
            have hb2 : ∀ k, v2.ownBlock = some k → w1.heap.size ≤ k := by
              obtain ⟨g, cap, rfl, _, _, h⟩ := s3
              intro k hk
              simp [Value.ownBlock] at hk
              subst hk
              rcases h with h | h
              · exact HB.out _ h
              · have := hO2.size; simp at h; omega
            have HB2 := Lib.hid hb2
            have s1' : w5.ownsRow 0 3 1 v2 (L ++ [x]).length ((L ++ [x]).map cI) := by
              rw [List.map_append, List.length_append]
              simpa [cI] using s1
            clear hb2 s1 s2 s3 ro
            go_wp2_with fail
            go_roundw
            case rel => exact ⟨j + 1, by first | rfl | go_num, by omega, by rw [HL2.out]; exact s1', HB2.out, O5⟩
            case measure => simp [intOf] <;> omega
            
    · skip
      have hj' : j = (sortI s.ks).length := by omega
      subst hj'
      have ro := HRo.out
      rw [List.take_of_length_le (Nat.le_refl _)] at ro
      have HRo2 := Lib.hid ro
      have hfin : Only (fun _ => False) w wr := HO0.out.same (HO1.out.same HOr.out)
      have hszz := (HO0.out.same HO1.out).size
      clear ro HRo
      go_wp2_with fail
      go_ret
      exact ⟨_, rfl, HRo2.out, fun k hk => by have := HB.out k hk; omega, hfin⟩
      
end
end Go.Proofs.Ytjedgdamommgeaa
