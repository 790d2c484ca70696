/- The laws of layer 17 over slices: the walk of HeapAgain. -/
import Derived.Test.YtgbdmembacjooaaHeapLaw
namespace Go.Proofs.Ytgbdmembacjooaa
open Go.RowKit

namespace Hp
/-- fs: what was popped: in order, each one ahead of what is left; with what is left it is all. -/
structure Popped (ys : List Nat) (fs : List Nat) (h : Hp) : Prop where
  left : Left ys fs.length h
  sorted : ∀ i j, i < j → j < fs.length → ahead ys (fs.getD i 0) (fs.getD j 0) = true
  rest : ∀ a, h.has a → ∀ i, i < fs.length → ahead ys (fs.getD i 0) a = true
  lt : ∀ i, i < fs.length → fs.getD i 0 < ys.length

theorem Popped.zero {ys : List Nat} {h : Hp} (L : Left ys 0 h) : Popped ys [] h := ⟨L, by simp, by simp, by simp⟩

theorem getD_snoc (fs : List Nat) (x i : Nat) : (fs ++ [x]).getD i 0 = if i < fs.length then fs.getD i 0 else if i = fs.length then x else 0 := by
  simp only [List.getD_eq_getElem?_getD, List.getElem?_append]
  split
  · rfl
  · split
    · rename_i e; subst e; simp
    · rename_i h1 h2
      rw [List.getElem?_eq_none (by simp; omega)]; rfl

theorem Popped.succ {ys : List Nat} {fs : List Nat} {h : Hp} (P : Popped ys fs h) (hL : 0 < h.L.length) : Popped ys (fs ++ [h.at1 0]) h.pop := by
  obtain ⟨p1, p2, p3, p4, p5, p6, p7, p8⟩ := pop_all h P.left.ok P.left.ord hL
  have hlen := P.left.len
  rw [P.left.S] at p3 p6 p8
  refine ⟨⟨p1, p2, p3, by simp; omega⟩, ?_, ?_, ?_⟩
  · intro i j hij hj
    simp at hj
    rw [getD_snoc, getD_snoc, if_pos (by omega)]
    split
    · exact P.sorted i j hij (by assumption)
    · rw [if_pos (by omega)]
      exact P.rest _ p7 i (by omega)
  · intro a ha i hi
    simp at hi
    rw [getD_snoc]
    split
    · exact P.rest a ((p5 a).1 ha).1 i (by assumption)
    · rw [if_pos (by omega)]
      exact p6 a ha
  · intro i hi
    simp at hi
    rw [getD_snoc]
    split
    · exact P.lt i (by assumption)
    · rw [if_pos (by omega)]
      exact p8

theorem Popped.inj {ys : List Nat} {fs : List Nat} {h : Hp} (P : Popped ys fs h) {i j : Nat} (hi : i < fs.length) (hj : j < fs.length) (e : fs.getD i 0 = fs.getD j 0) : i = j := by
  rcases Nat.lt_trichotomy i j with c | c | c
  · have := P.sorted i j c hj
    rw [e, ahead_iff] at this; omega
  · exact c
  · have := P.sorted j i c hi
    rw [e, ahead_iff] at this; omega

/-- fs has been put in again, k of them, from the place t on. -/
structure Back (ys fs : List Nat) (t k : Nat) (h : Hp) : Prop where
  ok : h.Ok
  ord : HOrd h
  S : h.S = ys
  len : h.L.length = k
  has : ∀ a, h.has a ↔ ∃ i, i < k ∧ a = fs.getD ((i + t) % fs.length) 0

theorem Popped.back {ys fs : List Nat} {h : Hp} (P : Popped ys fs h) (hn : fs.length = ys.length) (t : Nat) : Back ys fs t 0 h := by
  have hl : h.L.length = 0 := by have := P.left.len; omega
  refine ⟨P.left.ok, P.left.ord, P.left.S, hl, fun a => ⟨?_, ?_⟩⟩
  · rintro ⟨j, hj, _⟩; omega
  · rintro ⟨i, hi, _⟩; omega

theorem mod_ne {n i k t : Nat} (hi : i < k) (hk : k < n) : (i + t) % n ≠ (k + t) % n := by
  intro e
  have h1 := Nat.mod_add_div (i + t) n
  have h2 := Nat.mod_add_div (k + t) n
  rw [e] at h1
  have h3 : (k + t) - (i + t) = n * ((k + t) / n) - n * ((i + t) / n) := by omega
  rw [← Nat.mul_sub] at h3
  have h4 : k - i = n * ((k + t) / n - (i + t) / n) := by omega
  rcases Nat.eq_zero_or_pos ((k + t) / n - (i + t) / n) with h5 | h5
  · rw [h5] at h4; omega
  · have := Nat.le_mul_of_pos_right n h5; omega

theorem Back.free {ys fs : List Nat} {t k : Nat} {h h0 : Hp} (B : Back ys fs t k h) (P : Popped ys fs h0) (hk : k < fs.length) : ¬ h.has (fs.getD ((k + t) % fs.length) 0) := by
  intro hh
  obtain ⟨i, hi, e⟩ := (B.has _).1 hh
  have hp : 0 < fs.length := by omega
  have := P.inj (Nat.mod_lt _ hp) (Nat.mod_lt _ hp) e
  exact mod_ne hi hk this.symm

theorem Back.succ {ys fs : List Nat} {t k : Nat} {h h0 : Hp} (B : Back ys fs t k h) (P : Popped ys fs h0) (hk : k < fs.length) :
    (fs.getD ((k + t) % fs.length) 0 < h.S.length ∧ h.A.getD (fs.getD ((k + t) % fs.length) 0) 0 < 0) ∧ Back ys fs t (k + 1) (h.push (fs.getD ((k + t) % fs.length) 0)) ∧ 0 ≤ (h.push (fs.getD ((k + t) % fs.length) 0)).A.getD (fs.getD ((k + t) % fs.length) 0) 0 := by
  have hx : fs.getD ((k + t) % fs.length) 0 < h.S.length := by rw [B.S]; exact P.lt _ (Nat.mod_lt _ (by omega))
  have hz := (A_neg B.ok hx).2 (B.free P hk)
  obtain ⟨q1, q2, q3, q4, q5⟩ := push_all h B.ok B.ord hx hz
  refine ⟨⟨hx, hz⟩, ⟨q1, q2, q3.trans B.S, by rw [q4, B.len], fun a => ?_⟩, ?_⟩
  · rw [q5, B.has]
    constructor
    · rintro (⟨i, hi, e⟩ | e)
      · exact ⟨i, by omega, e⟩
      · exact ⟨k, by omega, e⟩
    · rintro ⟨i, hi, e⟩
      by_cases c : i = k
      · subst c; exact .inr e
      · exact .inl ⟨i, by omega, e⟩
  · have hx' : fs.getD ((k + t) % fs.length) 0 < (h.push (fs.getD ((k + t) % fs.length) 0)).S.length := by rw [q3]; exact hx
    have := mt (A_neg q1 hx').1 (by rw [q5]; simp)
    omega

/-- the last pops: what is left is fs from k on -/
structure Again (ys fs : List Nat) (k : Nat) (h : Hp) : Prop where
  ok : h.Ok
  ord : HOrd h
  S : h.S = ys
  len : h.L.length + k = fs.length
  has : ∀ a, h.has a ↔ ∃ j, k ≤ j ∧ j < fs.length ∧ a = fs.getD j 0

theorem Back.again {ys fs : List Nat} {t : Nat} {h : Hp} (B : Back ys fs t fs.length h) : Again ys fs 0 h := by
  refine ⟨B.ok, B.ord, B.S, by rw [B.len]; rfl, fun a => (B.has a).trans ⟨?_, ?_⟩⟩
  · rintro ⟨i, hi, e⟩
    exact ⟨_, Nat.zero_le _, Nat.mod_lt _ (by omega), e⟩
  · rintro ⟨j, _, hj, e⟩
    refine ⟨(j + (fs.length - t % fs.length)) % fs.length, Nat.mod_lt _ (by omega), ?_⟩
    rw [e]
    congr 1
    have ht := Nat.mod_lt t (show 0 < fs.length by omega)
    have h1 : ((j + (fs.length - t % fs.length)) % fs.length + t) % fs.length = (j + (fs.length - t % fs.length) + t) % fs.length := by
      rw [Nat.mod_add_mod]
    rw [h1]
    have h2 := Nat.mod_add_div t fs.length
    have h3 : j + (fs.length - t % fs.length) + t = j + fs.length * (t / fs.length + 1) := by rw [Nat.mul_add]; omega
    rw [h3, Nat.add_mul_mod_self_left, Nat.mod_eq_of_lt hj]

theorem Again.succ {ys fs : List Nat} {k : Nat} {h h0 : Hp} (B : Again ys fs k h) (P : Popped ys fs h0) (hk : k < fs.length) : 0 < h.L.length ∧ h.at1 0 = fs.getD k 0 ∧ Again ys fs (k + 1) h.pop := by
  have hlen := B.len
  have hL : 0 < h.L.length := by omega
  obtain ⟨p1, p2, p3, p4, p5, p6, p7, p8⟩ := pop_all h B.ok B.ord hL
  have e : h.at1 0 = fs.getD k 0 := by
    obtain ⟨j, hj1, hj2, hj3⟩ := (B.has _).1 p7
    by_cases c : j = k
    · rw [hj3, c]
    · exfalso
      have h1 : h.has (fs.getD k 0) := (B.has _).2 ⟨k, Nat.le_refl _, hk, rfl⟩
      have hne : fs.getD k 0 ≠ h.at1 0 := fun e => c (P.inj hj2 hk (by rw [← hj3, e]))
      have h2 := p6 _ ((p5 _).2 ⟨h1, hne⟩)
      have h3 := P.sorted k j (by omega) hj2
      rw [B.S, hj3, ahead_iff] at h2
      rw [ahead_iff] at h3
      omega
  refine ⟨hL, e, p1, p2, p3.trans B.S, by omega, fun a => ?_⟩
  rw [p5, B.has, e]
  constructor
  · rintro ⟨⟨j, h1, h2, rfl⟩, h3⟩
    refine ⟨j, ?_, h2, rfl⟩
    rcases Nat.lt_or_ge k j with c | c
    · exact c
    · exact (h3 (by rw [show j = k by omega])).elim
  · rintro ⟨j, h1, h2, rfl⟩
    exact ⟨⟨j, by omega, h2, rfl⟩, fun e' => by have := P.inj h2 hk e'; omega⟩

end Hp

/-- the row of what was popped lies apart from the heap, in new memory -/
def FirstAt (w0 w : World) (b : Nat) (vl va vs vf : Value) (fs : List Nat) : Prop :=
  w.ownsRow 0 3 1 vf fs.length (fs.map cL) ∧ ∀ g, vf.ownBlock = some g → w0.heap.size ≤ g ∧ ¬ HFoot b vl va vs g

theorem FirstAt.keep {w0 w w' : World} {b : Nat} {vl va vs vf : Value} {fs : List Nat} (h : FirstAt w0 w b vl va vs vf fs) (ho : Only (HFoot b vl va vs) w w') : FirstAt w0 w' b vl va vs vf fs :=
  ⟨own_only h.1 ho (fun k hk => (h.2 k hk).2), h.2⟩

theorem FirstAt.keep2 {w0 w w' : World} {b : Nat} {vl vl' va vs vf : Value} {fs : List Nat} (h : FirstAt w0 w b vl va vs vf fs) (ho : Only (HFoot b vl va vs) w w') (hf : ∀ k, HFoot b vl' va vs k → HFoot b vl va vs k ∨ w.heap.size ≤ k) : FirstAt w0 w' b vl' va vs vf fs :=
  ⟨own_only h.1 ho (fun k hk => (h.2 k hk).2), fun g hg => ⟨(h.2 g hg).1, fun hh => by
    rcases hf g hh with h1 | h1
    · exact (h.2 g hg).2 h1
    · have := own_lt h.1 hg; omega⟩⟩

set_option maxHeartbeats 3200000 in
set_option maxRecDepth 100000 in
theorem HeapAgain_walk {w : World} {ao : Option Addr} {len cap : Nat} {ys : List Nat} (t : Nat) (ht : t < 256) (hI : IntsAt .u32 w ao len (ys.map (fun (y : Nat) => (y : Int)))) (hys : ∀ i, ys.getD i 0 < 4294967296) :
    Calls Try.prog 4 #[.slice ao len cap, .int .u8 t] w fun e w' => e = .returned (.bool true) ∧ Only (fun _ => False) w w' := by
  have hlen : len = ys.length := by have := hI.1; simpa using this.symm
  subst hlen
  have hm := hI.2.1
  by_cases hbig : 200 < ys.length
  · go_enter Try.func4, Try.ntmps4
    go_wp2_with fail
    refine fixed_any.mono ?_
    rintro e w1 ⟨rfl, O1⟩
    go_wp2_with fail
    go_ret
    exact ⟨rfl, O1⟩
  · go_enter Try.func4, Try.ntmps4
    go_wp2_with fail
    refine (New_any _ ys.length (by omega) (.inl rfl)).mono ?_
    rintro e w1 ⟨b, vl, va, vs, rfl, H, hF, O⟩
    go_wp2_with fail
    go_loopw [22] (fun v wr => ∃ (k : Nat) (h : Hp), v = .int .i64 k ∧ k ≤ ys.length ∧ HeapAt wr b vl va vs h ∧ Hp.Filled ys k h ∧ Only (fun _ => False) w wr) (fun v _ => ys.length - (intOf v).toNat)
    case atStart => exact ⟨0, _, rfl, Nat.zero_le _, H, Hp.Filled.zero ys (by omega), O⟩
    case round =>
      obtain ⟨k, h, rfl, hk, H1, F1, O1⟩ := hrel
      by_cases c : k < ys.length
      · obtain ⟨bb, off, rfl, hbb, hc⟩ := (hI.only O1).2.2 (by omega)
        have hc1 := hc k c
        rw [getD_map_cast] at hc1
        have hyk := hys k
        have hF2 := F1.succ c hyk
        have HF2 := Lib.hid hF2
        clear hc hF2
        generalize ys.getD k 0 = y at *
        go_wp2_with fail
        refine (Bump_at H1 F1.ok k (by rw [F1.len]; exact c) y (by omega) _ _ rfl rfl).mono ?_
        rintro e w2 ⟨rfl, H2, O2⟩
        go_wp2_with fail
        go_roundw
        case rel => exact ⟨k + 1, _, by go_num, by omega, H2, HF2.out, O1.trans O2 fun i hi => .inr (hF i hi)⟩
        case measure => simp [intOf]; omega
      · have hk' : k = ys.length := by omega
        subst hk'
        have P0 := Hp.Popped.zero F1.left
        go_wp2_with fail
        go_loopw [9, 35] (fun vf v wr => ∃ (k : Nat) (h : Hp) (vl : Value) (fs : List Nat), v = .int .i64 k ∧ k = fs.length ∧ k ≤ ys.length ∧ HeapAt wr b vl va vs h ∧ (∀ k, HFoot b vl va vs k → w.heap.size ≤ k) ∧ Hp.Popped ys fs h ∧ FirstAt w wr b vl va vs vf fs ∧ Only (fun _ => False) w wr) (fun _ v _ => ys.length - (intOf v).toNat)
        case atStart => exact ⟨0, h, vl, [], rfl, rfl, Nat.zero_le _, H1, hF, P0, ⟨World.ownsRow_nil _ _ _ _, fun g hg => by simp [Value.ownBlock] at hg⟩, O1⟩
        case round =>
          clear H1 F1 O1 hF H O hk P0
          obtain ⟨k, h', vl', fs, rfl, hkf, hk, H1, hF, P1, FA, O1⟩ := hrel
          subst hkf
          by_cases c : fs.length < ys.length
          · have hL : 0 < h'.L.length := by have := P1.left.len; omega
            have o1 := P1.left.ok
            have P2 := P1.succ hL
            have HP2 := Lib.hid P2
            clear P2 P1
            generalize hx : h'.at1 0 = x at *
            have HX := Lib.hid hx
            clear hx
            go_wp2_with fail
            refine (Pop_at H1 o1 hL ((x : Int) + 1) (by rw [HX.out])).mono ?_
            rintro e w2 ⟨rfl, ⟨vl2, H2, F2⟩, o2, O2⟩
            have FA2 := FA.keep2 O2 (fun k hk => .inl (F2 k hk))
            have O3 : Only (fun _ => False) w w2 := O1.trans O2 fun i hi => .inr (hF i hi)
            clear FA O2
            obtain ⟨af, cf, rfl, _, _⟩ := own_slice FA2.1
            go_wp2_with (at_builtin; go_must (refine wpA1 slInt (u := .int .i64 ((x : Int) + 1)) (n := fs.length) (v := .slice af fs.length cf) (xs := fs.map cL) rfl (.tmp 37) (.tmp 40) rfl rfl rfl ?hc rfl ?hown (by omega) (by omega) ?hK))
            case hc => exact cell_alloc0 _ _ _ _ (by simp)
            case hown => exact FA2.1.alloc _
            case hK =>
              intro v3 w3 hown3 hO3 hS3
              obtain ⟨g, cap3, rfl, hg1, hg2, hg3⟩ := hS3
              have hnot : ∀ k, (Value.slice af fs.length cf).ownBlock = some k → ¬ HFoot b vl2 va vs k := fun k hk => (FA2.2 k hk).2
              have H3 : HeapAt w3 b vl2 va vs h'.pop := (H2.alloc _).only hO3 (fun e => hnot _ e (.inl rfl)) (fun k hk e => hnot _ e (.inr (.inl hk))) (fun k hk e => hnot _ e (.inr (.inr (.inl hk)))) (fun k hk e => hnot _ e (.inr (.inr (.inr hk))))
              have FA3 : FirstAt w w3 b vl2 va vs (.slice (some ⟨g, 0, none⟩) (fs.length + 1) cap3) (fs ++ [x]) := by
                refine ⟨by simpa [cL] using hown3, ?_⟩
                intro g' hg'
                simp [Value.ownBlock] at hg'
                subst hg'
                rcases hg3 with h3 | h3
                · exact FA2.2 _ h3
                · simp at h3
                  refine ⟨by have := O3.size; omega, fun hh => ?_⟩
                  have := H2.lt hh; omega
              have O4 : Only (fun _ => False) w w3 := (O3.alloc _).trans hO3 fun i hi => .inr (FA2.2 i hi).1
              clear hO3 hown3 hg3 FA2 H2
              go_wp2_with fail
              go_roundw
              case rel => exact ⟨fs.length + 1, _, vl2, fs ++ [x], by go_num, by simp, by omega, H3, fun i hi => hF i (F2 i hi), HP2.out, FA3, O4⟩
              case measure => simp [intOf]; omega
          · have hk' : fs.length = ys.length := by omega
            have B0 := P1.back hk' t
            have hF0 := hF
            have hsl := FA.1
            rw [hk'] at hsl
            obtain ⟨af, cf, rfl, _, _⟩ := own_slice hsl
            have HK := Lib.hid hk'
            clear hk' hsl
            go_wp2_with fail
            go_loopw [44] (fun v wr => ∃ (k : Nat) (h : Hp) (vl : Value), v = .int .i64 k ∧ k ≤ ys.length ∧ HeapAt wr b vl va vs h ∧ (∀ k, HFoot b vl va vs k → w.heap.size ≤ k) ∧ Hp.Back ys fs t k h ∧ FirstAt w wr b vl va vs (.slice af ys.length cf) fs ∧ Only (fun _ => False) w wr) (fun v _ => ys.length - (intOf v).toNat)
            case atStart => exact ⟨0, h', vl', rfl, Nat.zero_le _, H1, hF, B0, FA, O1⟩
            case round =>
              clear H1 hF hF0 B0 FA O1 hk c
              obtain ⟨k, h3, vl3, rfl, hk, H1, hF, B1, FA, O1⟩ := hrel
              by_cases c : k < ys.length
              · have hkf : k < fs.length := by rw [HK.out]; exact c
                obtain ⟨⟨b1, b2⟩, b3, b4⟩ := B1.succ P1 hkf
                have o1 := B1.ok
                have hmod : (k + t) % ys.length < ys.length := Nat.mod_lt _ (by omega)
                have hrow := FA.1
                rw [HK.out] at b1 b2 b3 b4 hrow
                obtain ⟨g, cf', he, _, _⟩ := own_some hrow (by omega)
                simp only [Value.slice.injEq] at he
                obtain ⟨rfl, -, rfl⟩ := he
                have hcell : wr.cell? ⟨g, (k + t) % ys.length, none⟩ = some (.int .i64 ((fs.getD ((k + t) % ys.length) 0 : Nat) + 1)) := row_cell hrow 0 (by rw [HK.out]; exact hmod)
                have b0 := b1
                rw [B1.S] at b0
                generalize fs.getD ((k + t) % ys.length) 0 = x at *
                have m1 : (0 : Int) ≤ ((k : Int) + (t : Int)) % (ys.length : Int) := Int.emod_nonneg _ (by omega)
                have m2 : ((k : Int) + (t : Int)) % (ys.length : Int) < (ys.length : Int) := Int.emod_lt_of_pos _ (by omega)
                have HB3 := Lib.hid b3
                clear hrow b3 B1
                go_wp2_with fail
                refine (Push_any H1 o1 x b1 _ rfl b2).mono ?_
                rintro e w2 ⟨rfl, ⟨vl2, H2, F2⟩, o2, O2⟩
                have FA2 := FA.keep2 O2 F2
                have O3 : Only (fun _ => False) w w2 := O1.trans O2 fun i hi => .inr (hF i hi)
                have hF2 : ∀ k, HFoot b vl2 va vs k → w.heap.size ≤ k := by
                  intro i hi
                  rcases F2 i hi with h1 | h1
                  · exact hF i h1
                  · have := O1.size; omega
                have hrow := FA2.1
                rw [HK.out] at hrow
                have hcell2 : w2.cell? ⟨g, (k + t) % ys.length, none⟩ = some (.int .i64 ((x : Int) + 1)) := by
                  have hxx := hcell
                  rw [World.cell?_of_block (w := wr) (O2.block g (own_lt FA.1 rfl) (FA.2 g rfl).2)]
                  exact hcell
                have b5 : x < (h3.push x).S.length := by rw [HB3.out.S]; exact b0
                clear hcell O2 hrow
                go_wp2_with fail
                refine (Push_has H2 o2 x b5 _ rfl b4).mono ?_
                rintro e w3 ⟨rfl, rfl⟩
                go_wp2_with fail
                go_roundw
                case rel => exact ⟨k + 1, _, vl2, by go_num, by omega, H2, hF2, HB3.out, FA2, O3⟩
                case measure => simp [intOf]; omega
              · have hk3 : k = fs.length := by rw [HK.out]; omega
                subst hk3
                have A0 := B1.again
                go_wp2_with fail
                go_loopw [75] (fun v wr => ∃ (k : Nat) (h : Hp) (vl : Value), v = .int .i64 k ∧ k ≤ ys.length ∧ HeapAt wr b vl va vs h ∧ (∀ k, HFoot b vl va vs k → w.heap.size ≤ k) ∧ Hp.Again ys fs k h ∧ FirstAt w wr b vl va vs (.slice af ys.length cf) fs ∧ Only (fun _ => False) w wr) (fun v _ => ys.length - (intOf v).toNat)
                case atStart => exact ⟨0, h3, vl3, rfl, Nat.zero_le _, H1, hF, A0, FA, O1⟩
                case round =>
                  clear H1 hF A0 FA O1 hk c B1
                  obtain ⟨k, h4, vl4, rfl, hk, H1, hF, B1, FA, O1⟩ := hrel
                  by_cases c : k < ys.length
                  · have hkf : k < fs.length := by rw [HK.out]; exact c
                    obtain ⟨b1, b2, b3⟩ := B1.succ P1 hkf
                    have o1 := B1.ok
                    have hrow := FA.1
                    rw [HK.out] at hrow
                    obtain ⟨g, cf', he, _, _⟩ := own_some hrow (by omega)
                    simp only [Value.slice.injEq] at he
                    obtain ⟨rfl, -, rfl⟩ := he
                    have hcell : wr.cell? ⟨g, k, none⟩ = some (.int .i64 ((fs.getD k 0 : Nat) + 1)) := row_cell hrow 0 hkf
                    generalize fs.getD k 0 = x at *
                    have HB2 := Lib.hid b2
                    clear hrow B1 b2
                    go_wp2_with fail
                    refine (Pop_at H1 o1 b1 ((x : Int) + 1) (by rw [HB2.out])).mono ?_
                    rintro e w2 ⟨rfl, ⟨vl2, H2, F2⟩, o2, O2⟩
                    have FA2 := FA.keep2 O2 (fun k hk => .inl (F2 k hk))
                    have O3 : Only (fun _ => False) w w2 := O1.trans O2 fun i hi => .inr (hF i hi)
                    clear hcell O2
                    go_wp2_with fail
                    go_roundw
                    case rel => exact ⟨k + 1, _, vl2, by go_num, by omega, H2, fun i hi => hF i (F2 i hi), b3, FA2, O3⟩
                    case measure => simp [intOf]; omega
                  · have hL : h4.L.length = 0 := by have := B1.len; have := HK.out; omega
                    have HL := Lib.hid hL
                    clear hL
                    go_wp2_with fail
                    refine fixed_any.mono ?_
                    rintro e w2 ⟨rfl, O2⟩
                    have H2 := H1.only O2 (fun f => f) (fun _ _ f => f) (fun _ _ f => f) (fun _ _ f => f)
                    go_wp2_with fail
                    refine (Len_at H2 0 (by rw [HL.out]; rfl)).mono ?_
                    rintro e w3 ⟨rfl, rfl⟩
                    go_wp2_with fail
                    go_ret
                    exact ⟨rfl, O1.same O2⟩

end Go.Proofs.Ytgbdmembacjooaa
