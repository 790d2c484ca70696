/- The walks of package rup, fifth part: drop, follows. -/
import Derived.Test.YtjbfgafkjejdjaaRup4
namespace Go.Proofs.Ytjbfgafkjejdjaa
open Go.RowKit

section
variable {w : World} {g : Tag} {b : Nat} {V : RupV} {C : Rup.Chk}

/-- slices.Equal at []int -/
theorem Equal_any {va vb : Value} {xs ys : List Int} (ha : Ints w va xs) (hb : Ints w vb ys) (r : Bool) (hr : (xs == ys) = r) :
    Calls Try.prog 101 #[va, vb] w fun e w' => e = .returned (.bool r) ∧ Only (fun _ => False) w w' := by
  subst hr
  obtain ⟨ao, ca, rfl, ha1, ha2⟩ := ha.shape
  obtain ⟨bo, cb, rfl, hb1, hb2⟩ := hb.shape
  by_cases hl : xs.length = ys.length
  · by_cases h0 : xs.length = 0
    · have hx : xs = [] := List.eq_nil_of_length_eq_zero h0
      have hy : ys = [] := List.eq_nil_of_length_eq_zero (by omega)
      subst hx hy
      exact (Try.slices_Equal_int_empty ao bo ca 0 cb w (by decide)).mono fun e w' ⟨he, hw⟩ => ⟨he, by rw [hw]; exact Only.refl _ _⟩
    · obtain ⟨b1, o1, rfl, _, c1⟩ := ha.cells _ _ _ rfl (by omega)
      obtain ⟨b2, o2, rfl, _, c2⟩ := hb.cells _ _ _ rfl (by omega)
      refine (Try.slices_Equal_int b1 o1 xs.length ca b2 o2 ys.length cb xs ys w (Nat.le_refl _) (Nat.le_refl _) (by omega) (by omega) c1 c2).mono fun e w' ⟨he, q, hw⟩ => ⟨?_, by rw [hw]; exact (Only.refl _ _).drewN q⟩
      rw [he, List.take_of_length_le (Nat.le_refl _), List.take_of_length_le (Nat.le_refl _)]
  · have hne : (xs == ys) = false := beq_eq_false_iff_ne.2 (fun e => hl (by rw [e]))
    rw [hne]
    exact (Try.slices_Equal_int_lens ao bo xs.length ca ys.length cb w hl).mono fun e w' ⟨he, hw⟩ => ⟨he, by rw [hw]; exact Only.refl _ _⟩

namespace Rup
def Chk.hit (C : Chk) (f : List Int) (k : Nat) : Bool := !C.gone.getD k false && C.cls.getD k [] == f
/-- the last of the first k clauses that is there and is f -/
def Chk.dropK (C : Chk) (f : List Int) : Nat → Option Nat
  | 0 => none
  | k + 1 => if C.hit f k then some k else C.dropK f k
def Chk.dropped (C : Chk) (k : Nat) : Chk := { C with gone := C.gone.set k true }
def Chk.dropR (C : Chk) (f : List Int) : Chk := match C.dropK f C.cls.length with | none => C | some k => C.dropped k
theorem Chk.Ok.dropped {C : Chk} (o : C.Ok) (k : Nat) : (C.dropped k).Ok := ⟨o.n, by simp [Chk.dropped, o.len], o.cls, o.set, o.few, o.of_⟩
theorem Chk.Ok.dropR {C : Chk} (o : C.Ok) (f : List Int) : (C.dropR f).Ok := by
  unfold Chk.dropR
  split
  · exact o
  · exact o.dropped _
end Rup

theorem RupTo.after (H : ChkAt w g b V C) {w1 w2 : World} (o1 : Only (fun _ => False) w w1) {C2 : Rup.Chk} (h : RupTo w1 g b C2 w2) : RupTo w g b C2 w2 :=
  RupTo.trans (Agree.refl _ _) (o1.mono fun _ f => f.elim) h

theorem ChkAt.drop (H : ChkAt w g b V C) {gg n cap : Nat} (hv : V.vg = .slice (some ⟨gg, 0, none⟩) n cap) (k : Nat) : RupTo w g b (C.dropped k) (w.setCell ⟨gg, k, none⟩ (.bool true)) := by
  have hr := H.gn
  rw [hv] at hr
  have htg : g gg = (3, 0) := hr.tg gg rfl
  have hne : ∀ {t : Nat × Nat}, t.1 ≠ 3 → g gg ≠ t := fun {t} h e => by rw [htg] at e; rw [← e] at h; exact h rfl
  have hnb : b ≠ gg := by intro e; have := H.tb; rw [e, htg] at this; simp at this
  have h3 := hr.store k (.bool true)
  refine ⟨g, V, ⟨set_block_other H.blk hnb _, H.tb, H.c.far (hne (by decide)) _, ?_, H.ct, ?_, H.o.far (hne (by decide)) _, H.ol, fun p hp => (H.oi p hp).far (hne (by simp)) _, H.v.far (hne (by decide)) _, H.s.far (hne (by decide)) _, H.fresh.more (by simp [World.setCell])⟩, Agree.refl _ _, ?_⟩
  · exact H.ci.keepT (F := fun k => k = gg) H.ct (Only.setCell (Only.refl (fun k => k = gg) w) (p := ⟨gg, k, none⟩) (.inl rfl) _) (fun k hk hF => by rw [hF, htg] at hk; simp at hk)
  · rw [hv]; show Row _ _ _ _ _ ((C.gone.set k true).map Value.bool)
    rw [List.map_set]; exact h3
  · exact (Only.refl _ w).setCell (.inl (by unfold Mine; rw [htg]; simp)) _

set_option maxHeartbeats 1600000 in
theorem rup_drop_any (H : ChkAt w g b V C) (o : C.Ok) {vf : Value} {f : List Int} (hI : Ints w vf f) (r : Bool) (hr : (C.dropK f C.cls.length).isSome = r) :
    Calls Try.prog 84 #[.pointer (some ⟨b, 0, none⟩), vf] w fun e w' => e = .returned (.bool r) ∧ RupTo w g b (C.dropR f) w' := by
  have hlen := o.len
  have hfew := o.few
  have hul : V.us.length = C.cls.length := H.ci.1
  obtain ⟨ac, cc, hvc, hc1, hc2⟩ := H.c.shape
  have q1 := H.f1
  rw [hvc, hul] at q1
  have HR := Lib.hid hr
  clear hr
  go_enter Try.func84, Try.ntmps84
  go_wp2_with fail
  go_loopw [5] (fun v wr => ∃ k : Nat, v = .int .i64 ((k : Int) - 1) ∧ k ≤ C.cls.length ∧ C.dropK f C.cls.length = C.dropK f k ∧ Only (fun _ => False) w wr) (fun v _ => (intOf v + 1).toNat)
  case atStart => exact ⟨C.cls.length, rfl, Nat.le_refl _, rfl, Only.refl _ _⟩
  case round =>
    obtain ⟨k, rfl, hk, hD, hO⟩ := hrel
    have HD := Lib.hid hD
    clear hD
    by_cases ck : 0 < k
    · obtain ⟨j, rfl⟩ : ∃ j, k = j + 1 := ⟨k - 1, by omega⟩
      have Hr := H.only0 hO
      have q1r := Hr.f1
      have q2r := Hr.f2
      obtain ⟨gg, capg, hvg, hg1, hg2, htg, hltg⟩ := Hr.gn.pos (by simp; omega)
      obtain ⟨gc, capc, hvc', -, -, htc, hltc⟩ := Hr.c.pos (by omega)
      have hrg := Hr.gn
      have hrc := Hr.c
      have hdr := fun W (hW : ChkAt W g b V C) => hW.drop hvg j
      rw [hvg] at q2r hrg
      rw [hvc'] at q1r hrc
      have qg := hrg.cellM (f := Value.bool) false (i := j) (by omega)
      have qc := hrc.cell nilS (i := j) (by omega)
      have fg := hrg.free j
      have hci := Hr.ci.2 j (by omega)
      simp only [List.length_map, hlen] at q2r hrg
      simp only [hul] at q1r
      have hhit : C.hit f j = (!C.gone.getD j false && C.cls.getD j [] == f) := rfl
      have HH := Lib.hid hhit
      have HDr := Lib.hid hdr
      clear hhit hdr hvg hvc' hrc
      have ej : ((j + 1 : Nat) : Int) - 1 = (j : Int) := by omega
      rw [ej]
      have jb : (j : Int) < (C.cls.length : Int) := by omega
      generalize V.us.getD j nilS = u at *
      cases hgj : C.gone.getD j false
      · rw [hgj] at qg
        cases he : (C.cls.getD j [] == f)
        · have hE := Equal_any hci (hI.only0 hO) false he
          have HE := Lib.hid hE
          have hd2 : C.dropK f (j + 1) = C.dropK f j := by
            rw [Rup.Chk.dropK, HH.out, hgj, he]; rfl
          have HD2 := Lib.hid hd2
          clear hd2 hE he hgj
          go_wp2_with fail
          refine HE.out.mono ?_
          rintro e w' ⟨rfl, O2⟩
          go_wp2_with fail
          go_roundw
          case rel => exact ⟨j, rfl, by omega, by rw [HD.out, HD2.out], hO.same O2⟩
          case measure => simp [intOf]
        · have hE := Equal_any hci (hI.only0 hO) true he
          have HE := Lib.hid hE
          have hd2 : C.dropK f (j + 1) = some j := by
            rw [Rup.Chk.dropK, HH.out, hgj, he]; rfl
          have hres : r = true ∧ C.dropR f = C.dropped j := by
            constructor
            · rw [← HR.out, HD.out, hd2]; rfl
            · unfold Rup.Chk.dropR
              rw [HD.out, hd2]
          have HRes := Lib.hid hres
          clear hd2 hE he hgj hres
          go_wp2_with fail
          refine HE.out.mono ?_
          rintro e w' ⟨rfl, O2⟩
          have q2' := cell_keep q2r O2 (fun f => f)
          have qg' := cell_keep qg O2 (fun f => f)
          have fg' := free_keep qg fg O2 (fun f => f)
          have hfin : RupTo w g b (C.dropped j) (w'.setCell ⟨gg, j, none⟩ (.bool true)) := RupTo.after H (hO.same O2) (HDr.out w' (Hr.only0 O2))
          have HF := Lib.hid hfin
          clear hfin
          go_wp2_with fail
          go_ret
          obtain ⟨h1, h2⟩ := HRes.out
          rw [h1, h2]
          exact ⟨rfl, HF.out⟩
      · rw [hgj] at qg
        have hd2 : C.dropK f (j + 1) = C.dropK f j := by
          rw [Rup.Chk.dropK, HH.out, hgj]; rfl
        have HD2 := Lib.hid hd2
        clear hd2 hgj
        go_wp2_with fail
        go_roundw
        case rel => exact ⟨j, rfl, by omega, by rw [HD.out, HD2.out], hO⟩
        case measure => simp [intOf]
    · have hk0 : k = 0 := by omega
      subst hk0
      have hres : r = false ∧ C.dropR f = C := by
        constructor
        · rw [← HR.out, HD.out]; rfl
        · unfold Rup.Chk.dropR
          rw [HD.out]; rfl
      have HRes := Lib.hid hres
      have hfin : RupTo w g b C wr := RupTo.after H hO (RupTo.refl (H.only0 hO))
      have HF := Lib.hid hfin
      clear hres hfin
      go_wp2_with fail
      go_ret
      obtain ⟨h1, h2⟩ := HRes.out
      rw [h1, h2]
      exact ⟨rfl, HF.out⟩

set_option maxHeartbeats 1600000 in
theorem rup_follows_any (H : ChkAt w g b V C) (o : C.Ok) (hC : C.set = []) {vf : Value} {f : List Int} (hI : Ints w vf f) (hN : NotMine g vf f) (hlit : ∀ x ∈ f, Cnf.Lit x) (hg : Up.Good C.n (f.map fun x => -x)) (r : Bool) (hr : (Up.conf C.n C.live (f.map fun x => -x)).2 = r) :
    Calls Try.prog 60 #[.pointer (some ⟨b, 0, none⟩), vf] w fun e w' => e = .returned (.bool r) ∧ RupTo w g b C w' := by
  subst hr
  have hn := o.n
  have hlen : f.length ≤ C.n := by have := hg.len; simpa using this
  obtain ⟨af, cf, rfl, hf1, hf2⟩ := hI.shape
  have HL := Lib.hid hlit
  have HG := Lib.hid hg
  have HC := Lib.hid hC
  clear hlit hg hC
  generalize hR : (Up.conf C.n C.live (f.map fun x => -x)).2 = R at *
  have HR := Lib.hid hR
  clear hR
  go_enter Try.func60, Try.ntmps60
  go_wp2_with fail
  go_loopw [5, 10] (fun vo v wr => ∃ k : Nat, v = .int .i64 k ∧ k ≤ f.length ∧ wr.ownsRow 0 3 1 vo k (((f.take k).map fun x => -x).map cI) ∧ (∀ j, vo.ownBlock = some j → w.heap.size ≤ j) ∧ Only (fun _ => False) w wr) (fun _ v _ => f.length - (intOf v).toNat)
  case atStart => exact ⟨0, rfl, Nat.zero_le _, World.ownsRow_nil _ _ _ _, fun j hj => by simp [Value.ownBlock] at hj, Only.refl _ _⟩
  case round =>
    obtain ⟨k, rfl, hk, ro, rb, hO⟩ := hrel
    have HB := Lib.hid rb
    clear rb
    by_cases ck : k < f.length
    · obtain ⟨bf, of_, rfl, _, hcs⟩ := (hI.only0 hO).cells _ _ _ rfl (by omega)
      have q := hcs k ck
      have hx := (HL.out _ (getD_mem' 0 ck))
      have hts := take_snocI f k ck
      have HTS := Lib.hid hts
      clear hcs hts
      generalize f.getD k 0 = x at *
      have ew := hx.wrap
      obtain ⟨nx, hnx⟩ : ∃ nx, nx = -x := ⟨_, rfl⟩
      rw [← hnx] at ew
      have ew' : IntKind.i64.wrap (-x) = nx := by rw [← hnx]; exact ew
      have HNX := Lib.hid hnx
      clear hnx ew hx
      go_wp2_with (at_builtin; go_must (refine wpA1 (u := .int .i64 nx) slInt rfl (.tmp 14) (.tmp 17) rfl rfl rfl (cell_new0 _ _ _) rfl (own_only ro ((Only.refl (fun _ => False) _).alloc _) (fun _ _ f => f)) (by omega) (by decide) ?n3))
      intro v2 w2 s1 s2 s3
      have O2 : Only (fun _ => False) w w2 := (hO.alloc _).trans s2 (fun k hk => .inr (HB.out k hk))
      have hb2 : ∀ k, v2.ownBlock = some k → w.heap.size ≤ k := by
        obtain ⟨g, cap, rfl, _, _, h⟩ := s3
        intro k hk
        simp [Value.ownBlock] at hk
        subst hk
        rcases h with h | h
        · exact HB.out _ h
        · have := hO.size; simp at h; omega
      have HB2 := Lib.hid hb2
      have s1' : w2.ownsRow 0 3 1 v2 (k + 1) (((f.take (k + 1)).map fun x => -x).map cI) := by
        rw [HTS.out, List.map_append, List.map_append]
        simpa [cI, HNX.out] using s1
      clear hb2 s1 s2 s3 ro
      go_wp2_with fail
      go_roundw
      case rel => exact ⟨k + 1, by go_num, by omega, s1', HB2.out, O2⟩
      case measure => simp [intOf]; omega
    · have hk' : k = f.length := by omega
      subst hk'
      have ro' : wr.ownsRow 0 3 1 u5 (f.map fun x => -x).length ((f.map fun x => -x).map cI) := by
        rw [List.take_of_length_le (Nat.le_refl _)] at ro
        simpa using ro
      have hIl : Ints wr u5 (f.map fun x => -x) := Ints.of_own ro' (fun x hx => by
        obtain ⟨y, hy, rfl⟩ := List.mem_map.1 hx
        exact ((HL.out y hy).neg).r)
      have hNl : NotMine g u5 (f.map fun x => -x) := by
        intro _ j hj
        refine H.fresh j (HB.out j ?_)
        obtain ⟨ao, cap, rfl, _, _⟩ := own_slice ro'
        rcases ro'.2 with ⟨h', _⟩ | ⟨g', cap', cur, h', _⟩
        · rw [h'] at hj; simp [Value.blk] at hj
        · rw [h'] at hj ⊢; simpa [Value.blk, Value.ownBlock] using hj
      have hcon := rup_conflict_any (H.only0 hO) o HC.out hIl hNl HG.out
      rw [HR.out] at hcon
      have HCn := Lib.hid hcon
      clear hcon hIl hNl ro ro'
      go_wp2_with fail
      refine HCn.out.mono ?_
      rintro e w' ⟨rfl, h2⟩
      go_wp2_with fail
      go_ret
      exact ⟨rfl, RupTo.after H hO h2⟩
end
end Go.Proofs.Ytjbfgafkjejdjaa
