/- slices.DeleteFunc at []int, onto a row of one's own. -/
import Derived.Test.YtjbfgafkjejdjaaMem2
import Derived.Test.YtjbfgafkjejdjaaCells
import Derived.Lib.SliceRun
namespace Go.Proofs.Ytjbfgafkjejdjaa
open Go.RowKit

theorem own_setCells {e : TypeId} {b n cap : Nat} : ∀ (vs : List Value) (o : Nat) (w : World) (xs : List Value), w.ownsRow 0 e 1 (.slice (some ⟨b, 0, none⟩) n cap) n xs →
    ∃ ys, (w.setCells b o vs).ownsRow 0 e 1 (.slice (some ⟨b, 0, none⟩) n cap) n ys ∧ ys.take o = xs.take o ∧ Only (fun k => k = b) w (w.setCells b o vs)
  | [], o, w, xs, h => ⟨xs, h, rfl, Only.refl _ _⟩
  | v :: vs, o, w, xs, h => by
    obtain ⟨ys, h1, h2, h3⟩ := own_setCells vs (o + 1) (w.setCell ⟨b, o, none⟩ v) (xs.set o v) (h.stored o v).1
    refine ⟨ys, h1, ?_, (Only.setCell (Only.refl (fun k => k = b) w) (p := ⟨b, o, none⟩) (.inl rfl) v).same h3⟩
    have h4 := congrArg (List.take o) h2
    rw [List.take_take, List.take_take, Nat.min_eq_left (by omega)] at h4
    rw [h4, List.take_set_of_le (by omega)]

/-- what is asked of the predicate: it only reads, and not the row -/
def PredD (w : World) (bk : Option Nat) (g : Nat) (cb : Array Value) (p : Int → Bool) (xs : List Int) : Prop :=
  ∀ x ∈ xs, ∀ W, Only (fun k => bk = some k) w W → Calls Try.prog g (#[.int .i64 x] ++ cb) W fun e W' => e = .returned (.bool (p x)) ∧ W = W'

def keepF (p : Int → Bool) (xs : List Int) : List Int := xs.filter fun x => !p x

theorem keepF_take {p : Int → Bool} {xs : List Int} {j : Nat} (h : j < xs.length) : keepF p (xs.take (j + 1)) = if p (xs.getD j 0) then keepF p (xs.take j) else keepF p (xs.take j) ++ [xs.getD j 0] := by
  unfold keepF
  rw [take_snocI xs j h, List.filter_append]
  cases hp : p (xs.getD j 0)
  · simp only [List.filter_cons, hp, List.filter_nil, Bool.not_false, if_true, Bool.false_eq_true, if_false]
  · simp only [List.filter_cons, hp, List.filter_nil, Bool.not_true, Bool.false_eq_true, if_false, if_true, List.append_nil]

theorem keepF_none {p : Int → Bool} {xs : List Int} {k : Nat} (h : NoneTo p xs k) (hk : k ≤ xs.length) : keepF p (xs.take k) = xs.take k := by
  unfold keepF
  rw [List.filter_eq_self]
  intro x hx
  obtain ⟨i, hi, e⟩ := List.getElem_of_mem hx
  have hi' := hi
  rw [List.length_take] at hi'
  have := h i (by omega)
  rw [List.getElem_take] at e
  rw [← e]
  simpa [List.getD_eq_getElem?_getD, show i < xs.length by omega] using this

theorem keepF_len (p : Int → Bool) (xs : List Int) : (keepF p xs).length ≤ xs.length := List.length_filter_le _ _

/-- in the midst of it -/
structure DelAt (w : World) (xs : List Int) (p : Int → Bool) (b cap i j : Nat) (u : List Int) (wr : World) : Prop where
  own : wr.ownsRow 0 3 1 (.slice (some ⟨b, 0, none⟩) xs.length cap) xs.length (u.map cI)
  ul : u.length = xs.length
  uk : u.take i = keepF p (xs.take j)
  ud : u.drop j = xs.drop j
  il : i = (keepF p (xs.take j)).length
  lt : i < j
  jl : j ≤ xs.length
  on : Only (fun k => k = b) w wr

theorem own_cellI {w : World} {e : TypeId} {g n cap : Nat} {xs : List Int} (h : w.ownsRow 0 e 1 (.slice (some ⟨g, 0, none⟩) n cap) n (xs.map cI)) {i : Nat} (hi : i < xs.length) : w.cell? ⟨g, i, none⟩ = some (cI (xs.getD i 0)) := by
  have hn : xs.length = n := by simpa using h.1
  rw [h.cellAt i (by omega)]
  simp [List.getD, List.getElem?_eq_getElem hi]

/-- what DeleteFunc leaves -/
def DelTo (w : World) (v : Value) (ys : List Int) (e : Ending) (w' : World) : Prop :=
  ∃ ao cap, e = .returned (.slice ao ys.length cap) ∧ w'.ownsRow 0 3 1 (.slice ao ys.length cap) ys.length (ys.map cI) ∧ Only (fun k => v.ownBlock = some k) w w' ∧ Value.ownBlock (.slice ao ys.length cap) = v.ownBlock

set_option maxRecDepth 100000 in
set_option maxHeartbeats 1600000 in
theorem DeleteFunc_own {w : World} {v : Value} {xs : List Int} (h : w.ownsRow 0 3 1 v xs.length (xs.map cI)) (hr : ∀ x ∈ xs, InI64 x) (hlen : xs.length ≤ 1099511627776) (g : Nat) (cb : Array Value) (p : Int → Bool)
    (eg : ∀ args w, (callFunc g args).run Try.prog w = .ok (.enter g args) w) (hp : PredD w v.ownBlock g cb p xs) :
    Calls Try.prog 76 #[v, .func (.func g) #[] cb] w (DelTo w v (keepF p xs)) := by
  have hI : Ints w v xs := Ints.of_own h hr
  have hpI : PredI w g cb p xs := fun x hx W oW => (hp x hx W (oW.mono fun _ f => f.elim)).mono fun e W' ⟨h1, h2⟩ => ⟨h1, by rw [h2]; exact Only.refl _ _⟩
  have hIF := IndexFunc_int hI g cb p eg hpI
  have HIF := Lib.hid hIF
  have HP := Lib.hid hp
  have HO := Lib.hid h
  have HE := Lib.hid eg
  by_cases hany : xs.any p = true
  · have hk : xs.findIdx p < xs.length := by
      rw [List.findIdx_lt_length]
      obtain ⟨x, hx, h2⟩ := List.any_eq_true.1 hany
      exact ⟨x, hx, h2⟩
    obtain ⟨k0, hk0⟩ : ∃ k0, xs.findIdx p = k0 := ⟨_, rfl⟩
    have hidx : idxI p xs = k0 := by unfold idxI; rw [if_pos hany, hk0]
    rw [hk0] at hk
    have hpk : p (xs.getD k0 0) = true := by
      rw [List.getD_eq_getElem?_getD, List.getElem?_eq_getElem hk]
      have := List.findIdx_getElem (xs := xs) (p := p) (w := by rw [hk0]; exact hk)
      simpa [hk0] using this
    have hnone : NoneTo p xs k0 := by
      intro j hj
      have := List.not_of_lt_findIdx (xs := xs) (p := p) (i := j) (by rw [hk0]; exact hj)
      rw [List.getD_eq_getElem?_getD, List.getElem?_eq_getElem (by omega)]
      simpa using this
    obtain ⟨b, cap, rfl, hc1, hc2⟩ := own_some h (by omega)
    rw [hidx] at HIF
    have hstart : ∀ W, Only (fun _ => False) w W → DelAt w xs p b cap k0 (k0 + 1) xs W := by
      intro W oW
      have e1 : keepF p (xs.take (k0 + 1)) = xs.take k0 := by rw [keepF_take hk, if_pos hpk, keepF_none hnone (by omega)]
      exact ⟨own_only HO.out oW (fun _ _ f => f), rfl, e1.symm, rfl, by rw [e1]; simp; omega, by omega, by omega, oW.mono fun _ f => f.elim⟩
    have HSt := Lib.hid hstart
    have dk : ((k0 : Int) == -1) = false := by rw [beq_eq_false_iff_ne]; omega
    have ewk : IntKind.i64.wrap ((k0 : Int) + 1) = ((k0 + 1 : Nat) : Int) := by rw [IntWalk.i64_in _ (by omega)]; rfl
    clear hIF hp h hpI hI hidx hstart hnone hpk hany hk0
    go_enter Try.func76, Try.ntmps76
    go_wp2_with fail
    refine HIF.out.mono ?_
    rintro e w1 ⟨rfl, O1⟩
    have hS1 := HSt.out w1 O1
    have HS1 := Lib.hid hS1
    clear hS1 HSt HIF
    go_wp2_with fail
    go_loopw [5, 6] (fun v5 v6 wr => ∃ (i j : Nat) (u : List Int), v5 = .int .i64 i ∧ v6 = .int .i64 j ∧ DelAt w xs p b cap i j u wr) (fun _ v _ => xs.length - (intOf v).toNat)
    case atStart => exact ⟨k0, k0 + 1, xs, rfl, by first | rfl | trivial, HS1.out⟩
    case round =>
      clear HS1 O1
      obtain ⟨i, j, u, rfl, rfl, hD⟩ := hrel
      by_cases cj : j < xs.length
      · have huj : u.getD j 0 = xs.getD j 0 := by
          have h1 : (u.drop j)[0]? = (xs.drop j)[0]? := by rw [hD.ud]
          rw [List.getElem?_drop, List.getElem?_drop] at h1
          rw [List.getD_eq_getElem?_getD, List.getD_eq_getElem?_getD]
          simpa using congrArg (fun o => o.getD 0) h1
        have hilt := hD.lt
        have hjl := hD.jl
        have q1 := own_cellI hD.own (i := j) (by rw [hD.ul]; exact cj)
        have q2 := own_cellI hD.own (i := i) (by rw [hD.ul]; omega)
        have f2 := hD.own.frozenAt i
        rw [huj] at q1
        have hkt := keepF_take (p := p) cj
        have hmem : xs.getD j 0 ∈ xs := getD_mem' 0 cj
        obtain ⟨x, hx⟩ : ∃ x, xs.getD j 0 = x := ⟨_, rfl⟩
        rw [hx] at q1 hkt hmem
        obtain ⟨y, hy⟩ : ∃ y, u.getD i 0 = y := ⟨_, rfl⟩
        rw [hy] at q2
        have hcall := HP.out x hmem wr (hD.on.mono fun k hk => by rw [hk]; rfl)
        have HC := Lib.hid hcall
        have ewj : IntKind.i64.wrap ((j : Int) + 1) = ((j + 1 : Nat) : Int) := by rw [IntWalk.i64_in _ (by omega)]; rfl
        have ewi : IntKind.i64.wrap ((i : Int) + 1) = ((i + 1 : Nat) : Int) := by rw [IntWalk.i64_in _ (by omega)]; rfl
        have hud1 : ∀ z, (u.set i z).drop (j + 1) = xs.drop (j + 1) := fun z => by
          rw [List.drop_set_of_lt (by omega)]
          have h9 := congrArg (List.drop 1) hD.ud
          simpa [List.drop_drop] using h9
        have hud0 : u.drop (j + 1) = xs.drop (j + 1) := by
          have h9 := congrArg (List.drop 1) hD.ud
          simpa [List.drop_drop] using h9
        cases hpx : p x
        · have hnext : DelAt w xs p b cap (i + 1) (j + 1) (u.set i x) (wr.setCell ⟨b, i, none⟩ (.int .i64 x)) := by
            rw [hpx] at hkt
            simp only [Bool.false_eq_true, if_false] at hkt
            refine ⟨?_, by simp [hD.ul], ?_, hud1 x, by rw [hkt, List.length_append, ← hD.il]; rfl, by omega, by omega, hD.on.setCell (.inl rfl) _⟩
            · have := (hD.own.stored i (cI x)).1
              simpa [List.map_set] using this
            · rw [hkt, ← hD.uk]
              rw [List.take_set, List.set_eq_take_append_cons_drop, if_pos (by rw [List.length_take, hD.ul]; omega)]
              simp [List.take_take]
          have HN := Lib.hid hnext
          have HPx := Lib.hid hpx
          clear hnext hpx hcall hkt hud1 hud0 hD
          go_wp2_with fail
          refine HC.out.mono ?_
          rintro e w2 ⟨rfl, rfl⟩
          rw [HPx.out]
          go_wp2_with fail
          go_roundw
          case rel => exact ⟨i + 1, j + 1, u.set i x, by first | rfl | trivial, by first | rfl | trivial, HN.out⟩
          case measure => simp [intOf]; omega
        · have hnext : DelAt w xs p b cap i (j + 1) u wr := by
            rw [hpx] at hkt
            simp only [if_true] at hkt
            exact ⟨hD.own, hD.ul, by rw [hkt]; exact hD.uk, hud0, by rw [hkt]; exact hD.il, by omega, by omega, hD.on⟩
          have HN := Lib.hid hnext
          have HPx := Lib.hid hpx
          clear hnext hpx hcall hkt hud1 hud0 hD
          go_wp2_with fail
          refine HC.out.mono ?_
          rintro e w2 ⟨rfl, rfl⟩
          rw [HPx.out]
          go_wp2_with fail
          go_roundw
          case rel => exact ⟨i, j + 1, u, rfl, by first | rfl | trivial, HN.out⟩
          case measure => simp [intOf]; omega
      · have hj' : j = xs.length := by have := hD.jl; omega
        subst hj'
        have hkx : keepF p (xs.take xs.length) = keepF p xs := by rw [List.take_of_length_le (Nat.le_refl _)]
        have hil := hD.il
        have huk := hD.uk
        rw [hkx] at hil huk
        have hilt := hD.lt
        have hbound : i < cap := by omega
        obtain ⟨ys, y1, y2, y3⟩ := own_setCells (List.replicate (xs.length - i) (cI 0)) i wr (u.map cI) hD.own
        have hcut := own_cut y1 i (by omega)
        rw [y2, ← List.map_take, huk] at hcut
        have hfin : DelTo w (.slice (some ⟨b, 0, none⟩) xs.length cap) (keepF p xs) (.returned (.slice (some ⟨b, 0, none⟩) i cap)) (wr.setCells b i (List.replicate (xs.length - i) (cI 0))) := by
          refine ⟨some ⟨b, 0, none⟩, cap, by rw [← hil], by rw [← hil]; exact hcut, (hD.on.same y3).mono fun k hk => by rw [hk]; rfl, rfl⟩
        have hcl : ∀ o (hty : o = o), (Builtin.clear_ #[22] o #[.slice (some ⟨b, i, none⟩) (xs.length - i) (cap - i)]).run Try.prog wr = .ok (.tuple #[]) (wr.setCells b i (List.replicate (xs.length - i) (cI 0))) := fun o _ =>
          Lib.run_clear_slice wr 22 3 o (.int .i64 0) Try.underlying22 (fun w => by kernel_rfl) rfl rfl b i (xs.length - i) (cap - i) (by omega) (fun j hj => by
            rw [own_cellI hD.own (i := i + j) (by rw [hD.ul]; omega)]; rfl) (fun j hj => hD.own.frozenAt _)
        have hcl' := fun o => hcl o rfl
        have HFin := Lib.hid hfin
        have dcap : ¬ cap = i := by omega
        clear hfin hcut y1 y2 y3 huk hkx hD hcl hil
        go_wp2_with fail
        go_ret
        exact HFin.out
  · have hall : keepF p xs = xs := by
      unfold keepF
      rw [List.filter_eq_self]
      intro x hx
      cases hpx : p x
      · rfl
      · exact absurd (List.any_eq_true.2 ⟨x, hx, hpx⟩) hany
    have hidx : idxI p xs = -1 := by unfold idxI; rw [if_neg hany]
    rw [hidx] at HIF
    obtain ⟨ao, cap, rfl, _, _⟩ := own_slice h
    have hfin : ∀ W, Only (fun _ => False) w W → DelTo w (.slice ao xs.length cap) (keepF p xs) (.returned (.slice ao xs.length cap)) W := fun W oW =>
      ⟨ao, cap, by rw [hall], by rw [hall]; exact own_only HO.out oW (fun _ _ f => f), oW.mono fun _ f => f.elim, by rw [hall]⟩
    have HFin := Lib.hid hfin
    clear hIF hp h hpI hI hidx hfin
    go_enter Try.func76, Try.ntmps76
    go_wp2_with fail
    refine HIF.out.mono ?_
    rintro e w1 ⟨rfl, O1⟩
    have hf := HFin.out w1 O1
    have HF := Lib.hid hf
    clear hf HFin
    go_wp2_with fail
    go_ret
    exact HF.out
end Go.Proofs.Ytjbfgafkjejdjaa
