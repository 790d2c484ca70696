/- The walks of package rup, second part: conflict and the closure that it defers. -/
import Derived.Test.YtjbfgafkjejdjaaRup1
import Derived.Defers
namespace Go.Proofs.Ytjbfgafkjejdjaa
open Go.RowKit

section
variable {w : World} {g : Tag} {b : Nat} {V : RupV} {C : Rup.Chk}

set_option maxHeartbeats 1600000 in
theorem rup_back_any (H : ChkAt w g b V C) (o : C.Ok) (bc : Nat) (hbc : w.cell? ⟨bc, 0, none⟩ = some (.pointer (some ⟨b, 0, none⟩))) (hgc : (g bc).1 = 0) (hlc : bc < w.heap.size) (u : FrameMode) :
    CallsD Try.prog 105 #[.pointer (some ⟨bc, 0, none⟩)] u w fun e u' w' => u' = u ∧ (e = .returned (.tuple #[]) ∧ RupS w g b V { C with set := [] } w') := by
  have hn := o.n
  have hlen := Rup.valL_len C.n C.set
  have hset := o.set
  have hSl := o.set.len
  obtain ⟨as_, cs, hvs, hs1, hs2⟩ := H.s.shape
  have q5 := H.f5
  have hrs := H.s
  rw [hvs] at q5 hrs
  simp only [List.length_map] at q5 hrs hs1
  have HSet := Lib.hid hset
  clear hset
  go_enter_d Try.func105, Try.ntmps105
  go_wp2_with fail
  go_loopw [8] (fun v wr => ∃ j : Nat, v = .int .i64 j ∧ j ≤ C.set.length ∧ Row wr g (5, 0) 3 V.vv ((Rup.valBack C.n C.set j).map cI) ∧ Only (fun k => g k = (5, 0)) w wr) (fun v _ => C.set.length - (intOf v).toNat)
  case atStart => exact ⟨0, rfl, Nat.zero_le _, by rw [Rup.valBack_zero]; exact H.v, Only.refl _ _⟩
  case round =>
    obtain ⟨j, rfl, hj, hv, ho⟩ := hrel
    have hcb := only_block H.blk ho (by rw [H.tb]; simp)
    have q4 : wr.cell? ⟨b, 4, none⟩ = some V.vv := by rw [cell_block hcb]; rfl
    have q5' : wr.cell? ⟨b, 5, none⟩ = some V.vs := by rw [cell_block hcb]; rfl
    have f5' := free_block hcb 5
    have qc : wr.cell? ⟨bc, 0, none⟩ = some (.pointer (some ⟨b, 0, none⟩)) := by
      rw [World.cell?_of_block (w := w) (ho.block bc hlc (by intro e; rw [e] at hgc; simp at hgc))]; exact hbc
    by_cases cj : j < C.set.length
    · have hrs2 := hrs.only ho (fun k hk hF => by rw [hk] at hF; simp at hF)
      obtain ⟨gs, cap, he, -, -, htg, -⟩ := hrs2.pos (by simp; omega)
      simp only [Value.slice.injEq] at he
      obtain ⟨rfl, -, rfl⟩ := he
      have qx := hrs2.cellM (f := cI) 0 (i := j) cj
      have hx := HSet.out.lit _ (getD_mem' 0 cj)
      have hbs := Rup.valBack_succ C.n C.set cj hx
      have hlb := Rup.valBack_len C.n C.set j
      obtain ⟨gv, capv, hvv, -, -, htv, -⟩ := hv.pos (by simp [hlb]; omega)
      have hv2 := hv
      rw [hvv] at q4 hv2
      simp only [List.length_map, hlb] at q4 hv2
      have hgb : gv ≠ b := by intro e; rw [e, H.tb] at htv; simp at htv
      clear hv hrs2
      generalize C.set.getD j 0 = x at *
      obtain ⟨h0, h1⟩ := hx
      have HBS := Lib.hid hbs
      clear hbs
      by_cases hneg : x < 0
      · have q1 := hv2.cellM (f := cI) 0 (i := (-x).toNat - 1) (by rw [hlb]; omega)
        have f1 := hv2.free ((-x).toNat - 1)
        have b1 : -65536 ≤ x := by omega
        have b2 : -x ≤ (C.n : Int) := by omega
        have em : max x (-x) = -x := by omega
        have hst := hv2.store ((-x).toNat - 1) (cI 0)
        have hst' : Row (wr.setCell ⟨gv, (-x).toNat - 1, none⟩ (cI 0)) g (5, 0) 3 V.vv ((Rup.valBack C.n C.set (j + 1)).map cI) := by
          rw [HBS.out, hvv, show x.natAbs - 1 = (-x).toNat - 1 by omega, List.map_set]
          simpa [hlb] using hst
        have HST := Lib.hid hst'
        have ho' : Only (fun k => g k = (5, 0)) w (wr.setCell ⟨gv, (-x).toNat - 1, none⟩ (cI 0)) := ho.setCell (.inl htv) _
        generalize (Rup.valBack C.n C.set j).getD ((-x).toNat - 1) 0 = z at *
        clear hst hst' h1 hlb hlen
        go_wp2_with fail
        go_roundw
        case rel => exact ⟨j + 1, by go_num, by omega, HST.out, ho'⟩
        case measure => simp [intOf]; omega
      · have b0 : 0 < x := by omega
        have q1 := hv2.cellM (f := cI) 0 (i := x.toNat - 1) (by rw [hlb]; omega)
        have f1 := hv2.free (x.toNat - 1)
        have b1 : x ≤ 65536 := by omega
        have b2 : x ≤ (C.n : Int) := by omega
        have em : max x (-x) = x := by omega
        have hst := hv2.store (x.toNat - 1) (cI 0)
        have hst' : Row (wr.setCell ⟨gv, x.toNat - 1, none⟩ (cI 0)) g (5, 0) 3 V.vv ((Rup.valBack C.n C.set (j + 1)).map cI) := by
          rw [HBS.out, hvv, show x.natAbs - 1 = x.toNat - 1 by omega, List.map_set]
          simpa [hlb] using hst
        have HST := Lib.hid hst'
        have ho' : Only (fun k => g k = (5, 0)) w (wr.setCell ⟨gv, x.toNat - 1, none⟩ (cI 0)) := ho.setCell (.inl htv) _
        generalize (Rup.valBack C.n C.set j).getD (x.toNat - 1) 0 = z at *
        clear hst hst' h1 hlb hlen hneg
        go_wp2_with fail
        go_roundw
        case rel => exact ⟨j + 1, by go_num, by omega, HST.out, ho'⟩
        case measure => simp [intOf]; omega
    · have hj' : j = C.set.length := by omega
      have hfin := H.pushed (S' := []) (vs' := nilS) (by rw [hj', Rup.valBack_all] at hv; exact hv) ho (w2 := wr) (Row.nil _ _ _ _) (Only.refl _ _)
      have HF := Lib.hid hfin
      clear hfin hv hcb hrs
      go_wp2_with fail
      go_end0
      exact ⟨rfl, HF.out⟩

def Rup.Chk.at (C : Rup.Chk) (S : List Int) : Rup.Chk := { C with set := S }

/-- what holds while a conflict is sought -/
structure Seek (w : World) (g : Tag) (b : Nat) (V : RupV) (C : Rup.Chk) (bc : Nat) (S : List Int) (wr : World) (g1 : Tag) (vs1 : Value) : Prop where
  at_ : ChkAt wr g1 b { V with vs := vs1 } (C.at S)
  ok : (C.at S).Ok
  ag : Agree w g g1
  only : Only (fun k => T156 (g k).1) w wr
  cell : wr.cell? ⟨bc, 0, none⟩ = some (.pointer (some ⟨b, 0, none⟩))
  tag : (g1 bc).1 = 0
  lt : bc < w.heap.size

theorem Seek.next {bc : Nat} {S S2 : List Int} {wr w2 : World} {g1 : Tag} {vs1 : Value} (h : Seek w g b V C bc S wr g1 vs1) (h2 : RupS wr g1 b { V with vs := vs1 } (C.at S2) w2) (o2 : (C.at S2).Ok) :
    ∃ g2 vs2, Seek w g b V C bc S2 w2 g2 vs2 := by
  obtain ⟨g2, vs2, H2, A2, O2⟩ := h2
  have hlt : bc < wr.heap.size := Nat.lt_of_lt_of_le h.lt h.only.size
  refine ⟨g2, vs2, H2, o2, h.ag.trans A2 h.only.size, h.only.tags h.ag O2, ?_, ?_, h.lt⟩
  · rw [World.cell?_of_block (w := wr) (O2.block bc hlt (by rw [h.tag]; simp [T156]))]; exact h.cell
  · rw [A2 bc hlt]; exact h.tag

theorem Seek.back {bc : Nat} {S : List Int} {wr : World} {g1 : Tag} {vs1 : Value} (h : Seek w g b V C bc S wr g1 vs1) (hC : C.set = []) (u : FrameMode) :
    CallsD Try.prog 105 #[.pointer (some ⟨bc, 0, none⟩)] u wr fun e u' w' => u' = u ∧ (e = .returned (.tuple #[]) ∧ RupTo w g b C w') := by
  refine (rup_back_any h.at_ h.ok bc h.cell h.tag (Nat.lt_of_lt_of_le h.lt h.only.size) u).mono ?_
  rintro e u' w' ⟨rfl, rfl, h2⟩
  refine ⟨rfl, rfl, ?_⟩
  have e : ({ C.at S with set := [] } : Rup.Chk) = C := by cases C; simp at hC; subst hC; rfl
  rw [e] at h2
  exact (RupS.trans h.ag h.only h2).to

theorem Rup.at_live (C : Rup.Chk) (S : List Int) (ks : List Nat) : (C.at S).liveOf ks = C.liveOf ks := rfl
theorem Rup.at_look (C : Rup.Chk) (S T : List Int) (k : Nat) : (C.at S).lookF T k = C.lookF T k := rfl

theorem Good_take {n : Nat} {l : List Int} (h : Up.Good n l) (k : Nat) : Up.Good n (l.take k) :=
  ⟨fun x hx => h.lit x (List.mem_of_mem_take hx), by rw [List.map_take]; exact h.nod.sublist (List.take_sublist _ _)⟩

theorem Good_open {n : Nat} {l : List Int} (h : Up.Good n l) {k : Nat} (hk : k < l.length) : Cnf.value (l.take k) (l.getD k 0) = 0 := by
  have e : l.getD k 0 = l[k] := by simp [List.getD_eq_getElem?_getD, hk]
  have hP := List.pairwise_iff_getElem.1 (List.pairwise_map.1 h.nod)
  rw [Up.value_zero, e]
  constructor
  · intro hm
    obtain ⟨i, hi, he⟩ := List.getElem_of_mem hm
    simp at hi he
    have := hP i k (by omega) hk (by omega)
    rw [he] at this; exact this rfl
  · intro hm
    obtain ⟨i, hi, he⟩ := List.getElem_of_mem hm
    simp at hi he
    have := hP i k (by omega) hk (by omega)
    rw [he] at this; simp at this

theorem rup_place_quiet {n : Nat} (x : Int) (m : Nat) (hm : m ≤ 65536) (hx : x ≠ 0 ∧ x.natAbs ≤ m) (p : Int) (hp : p = (Rup.place x : Int)) : Calls Try.prog 100 #[.int .i64 x] (w.drewN n) fun e w'' => e = .returned (.int .i64 p) ∧ ∃ m, w'' = w.drewN m :=
  Calls.quiet_of_same ((rup_place_any x m hm hx p hp).mono fun _ _ h => ⟨h.1, h.2.symm⟩)

theorem range_drop {m k : Nat} (h : k < m) : (List.range m).drop k = k :: (List.range m).drop (k + 1) := by
  rw [List.drop_eq_getElem_cons (by simpa using h)]; simp

theorem Seek.drewN {bc : Nat} {S : List Int} {wr : World} {g1 : Tag} {vs1 : Value} (h : Seek w g b V C bc S wr g1 vs1) (n : Nat) : Seek w g b V C bc S (wr.drewN n) g1 vs1 :=
  ⟨h.at_.only0 ((Only.refl _ _).drewN n), h.ok, h.ag, h.only.drewN n, h.cell, h.tag, h.lt⟩

/-- where the seeking stands: the result is told by what is left -/
def SeekTo (R : Bool) (p : List Int × Bool) : Prop := R = p.2

theorem SeekTo.look {R : Bool} {C : Rup.Chk} {k : Nat} {ks : List Nat} {S : List Int} {f : List Int → List Int × Bool} (h : SeekTo R (Cnf.andThen (Cnf.pass (C.liveOf (k :: ks)) S) f)) :
    ((C.lookF S k).2 = true → SeekTo R (Cnf.andThen (Cnf.pass (C.liveOf ks) (C.lookF S k).1) f)) ∧ ((C.lookF S k).2 = false → R = true) := by
  unfold SeekTo at *
  rw [Rup.pass_look] at h
  refine ⟨fun e => ?_, fun e => ?_⟩
  · rw [e] at h; simpa using h
  · rw [e] at h; simpa [Cnf.andThen] using h

theorem look_len (C : Rup.Chk) (S : List Int) (k : Nat) : S.length ≤ (C.lookF S k).1.length := by
  unfold Rup.Chk.lookF
  split
  · exact Nat.le_refl _
  · split
    · exact Nat.le_refl _
    · split
      · simp
      · exact Nat.le_refl _

theorem ofN_lt {cls : List (List Int)} {p k : Nat} (h : k ∈ Rup.ofN cls p) : k < cls.length := by
  unfold Rup.ofN at h
  exact List.mem_range.1 (List.mem_filter.1 h).1

theorem getD_map_cast (ks : List Nat) (j : Nat) (h : j < ks.length) : (ks.map fun k => ((k : Nat) : Int)).getD j 0 = ((ks.getD j 0 : Nat) : Int) := by
  simp [List.getD_eq_getElem?_getD, h]

set_option maxHeartbeats 6400000 in
theorem rup_conflict_any (H : ChkAt w g b V C) (o : C.Ok) (hC : C.set = []) {vl : Value} {l : List Int} (hI : Ints w vl l) (hN : NotMine g vl l) (hl : Up.Good C.n l) :
    Calls Try.prog 93 #[.pointer (some ⟨b, 0, none⟩), vl] w fun e w' => e = .returned (.bool (Up.conf C.n C.live l).2) ∧ RupTo w g b C w' := by
  have hmf : ∀ (fn : Fn) (first cap : Array Value) (w : World), (Instr.makeFunc fn first cap).run Try.prog w = .ok (.func fn first cap) w := fun _ _ _ _ => rfl
  obtain ⟨al, cl, rfl, hl1, hl2⟩ := hI.shape
  have hI0 : Ints (w.alloc (.cells #[.pointer (some ⟨b, 0, none⟩)] 76)) (.slice al l.length cl) l := hI.only0 ((Only.refl _ _).alloc _)
  have hs0 : Seek (w.alloc (.cells #[.pointer (some ⟨b, 0, none⟩)] 76)) g b V C w.heap.size [] (w.alloc (.cells #[.pointer (some ⟨b, 0, none⟩)] 76)) g V.vs := by
    have e : C.at [] = C := by cases C; simp at hC; subst hC; rfl
    refine ⟨?_, by rw [e]; exact o, Agree.refl _ _, Only.refl _ _, cell_newE _ _ _ _ rfl, H.fresh _ (Nat.le_refl _), by simp⟩
    rw [e]; exact H.only0 ((Only.refl _ _).alloc _)
  have hto : ∀ w', RupTo (w.alloc (.cells #[.pointer (some ⟨b, 0, none⟩)] 76)) g b C w' → RupTo w g b C w' := fun w' h =>
    RupTo.trans (Agree.refl _ _) ((Only.refl _ w).alloc _) h
  have HTo := Lib.hid hto
  have HSt := Lib.hid hs0
  clear hto hs0
  have hn := o.n
  have hfew := o.few
  have hR0 : SeekTo (Up.conf C.n C.live l).2 (Cnf.andThen (Cnf.pass (C.liveOf ((List.range C.cls.length).drop 0)) l) (Up.work C.live (C.n + 1) 0)) := rfl
  generalize (Up.conf C.n C.live l).2 = R at *
  have HR0 := Lib.hid hR0
  clear hR0
  have HL := Lib.hid hl
  have HC := Lib.hid hC
  clear hl hC
  go_enter_defers Try.func93, Try.ntmps93
  go_wp2_with fail
  generalize hW : w.alloc (.cells #[.pointer (some ⟨b, 0, none⟩)] 76) = W at *
  clear hW
  generalize w.heap.size = B at *
  go_loopw [14] (fun v wr => ∃ (k : Nat) (g1 : Tag) (vs1 : Value), v = .int .i64 k ∧ k ≤ l.length ∧ Seek W g b V C B (l.take k) wr g1 vs1) (fun v _ => l.length - (intOf v).toNat)
  case atStart => exact ⟨0, g, V.vs, rfl, Nat.zero_le _, HSt.out⟩
  case round =>
    obtain ⟨k, g1, vs1, rfl, hk, hS⟩ := hrel
    have qB := hS.cell
    by_cases ck : k < l.length
    · have hIr := hI0.mine hN (hS.only.mono fun k hk => by unfold Mine; rcases hk with h | h | h <;> omega)
      obtain ⟨bl, ol, rfl, _, hcs⟩ := hIr.cells _ _ _ rfl (by omega)
      have q := hcs k ck
      have hx := HL.out.lit _ (getD_mem' 0 ck)
      have hv := Good_open HL.out ck
      have hts := take_snocI l k ck
      have HTS := Lib.hid hts
      have hput := rup_put_new hS.at_ hS.ok _ hx hv
      have hok := hS.ok.snoc hx hv
      have HP := Lib.hid hput
      have HOk := Lib.hid hok
      clear hcs hIr hts hput hok hv
      generalize l.getD k 0 = x at *
      go_wp2_with fail
      refine HP.out.mono ?_
      rintro e w' ⟨rfl, h2⟩
      obtain ⟨g2, vs2, hS2⟩ := hS.next (S2 := l.take k ++ [x]) h2 HOk.out
      clear h2
      go_wp2_with fail
      go_roundw
      case rel => exact ⟨k + 1, g2, vs2, by go_num, by omega, by rw [HTS.out]; exact hS2⟩
      case measure => simp [intOf]; omega
    · have hk' : k = l.length := by omega
      have hS' : Seek W g b V C B l wr g1 vs1 := by rw [hk', List.take_of_length_le (Nat.le_refl _)] at hS; exact hS
      have q1 := hS'.at_.f1
      obtain ⟨ac, cc, hvc, hc1, hc2⟩ := hS'.at_.c.shape
      have hul := hS'.at_.ci.1
      simp only at hvc q1 hc1 hul
      have hul' : V.us.length = C.cls.length := hul
      rw [hvc, hul'] at q1
      clear hS hvc hul hul' hc1
      go_wp2_with fail
      go_loopw [28] (fun v wr => ∃ (k : Nat) (S : List Int) (g1 : Tag) (vs1 : Value), v = .int .i64 k ∧ k ≤ C.cls.length ∧ Seek W g b V C B S wr g1 vs1 ∧ SeekTo R (Cnf.andThen (Cnf.pass (C.liveOf ((List.range C.cls.length).drop k)) S) (Up.work C.live (C.n + 1) 0))) (fun v _ => C.cls.length - (intOf v).toNat)
      case atStart => exact ⟨0, l, g1, vs1, rfl, Nat.zero_le _, hS', HR0.out⟩
      case round =>
        clear hS' qB q1 hk'
        obtain ⟨k, S, g1, vs1, rfl, hk, hS, hT⟩ := hrel
        have qB := hS.cell
        by_cases ck : k < C.cls.length
        · rw [range_drop ck] at hT
          obtain ⟨t1, t2⟩ := hT.look
          have T1 := Lib.hid t1
          have T2 := Lib.hid t2
          have hlook := rup_look_any hS.at_ hS.ok k ck _ rfl
          have HLk := Lib.hid hlook
          clear t1 t2 hT hlook
          cases hb : (C.lookF S k).2
          · have HB := Lib.hid hb
            clear hb
            go_wp2_with fail
            refine HLk.out.mono ?_
            rintro e w' ⟨rfl, h2, o2⟩
            obtain ⟨g2, vs2, hS2⟩ := hS.next (S2 := (C.lookF S k).1) h2 o2
            have hbb : ((C.at S).lookF (C.at S).set k).2 = false := HB.out
            rw [hbb]
            clear h2 o2 hbb
            go_wp2_with fail
            refine leaves_cons (f := 105) (args := #[.pointer (some ⟨B, 0, none⟩)]) (by simp) (by simp [go_sem]) ?_
            refine (hS2.back HC.out .returning).mono ?_
            rintro e u' w'' ⟨rfl, rfl, hfin⟩
            exact ⟨_, results_tmp rfl _ _ _, by rw [T2.out HB.out]; rfl, HTo.out _ hfin⟩
          · have HB := Lib.hid hb
            clear hb
            go_wp2_with fail
            refine HLk.out.mono ?_
            rintro e w' ⟨rfl, h2, o2⟩
            obtain ⟨g2, vs2, hS2⟩ := hS.next (S2 := (C.lookF S k).1) h2 o2
            have hbb : ((C.at S).lookF (C.at S).set k).2 = true := HB.out
            rw [hbb]
            clear h2 o2 hbb
            go_wp2_with fail
            go_roundw
            case rel => exact ⟨k + 1, _, g2, vs2, by go_num, by omega, hS2, T1.out HB.out⟩
            case measure => simp [intOf]; omega
        · have hT3 : SeekTo R (Up.work C.live (C.n + 1) 0 S) := by
            rw [List.drop_of_length_le (by simp; omega)] at hT
            simpa [Rup.Chk.liveOf, Cnf.pass, Cnf.andThen] using hT
          have HT3 := Lib.hid hT3
          clear hT hT3
          go_wp2_with fail
          go_loopw [8] (fun v wr => ∃ (i : Nat) (S : List Int) (g1 : Tag) (vs1 : Value), v = .int .i64 i ∧ i ≤ S.length ∧ Seek W g b V C B S wr g1 vs1 ∧ SeekTo R (Up.work C.live (C.n + 1 - i) i S)) (fun v _ => C.n + 1 - (intOf v).toNat)
          case atStart => exact ⟨0, S, g1, vs1, rfl, Nat.zero_le _, hS, HT3.out⟩
          case round =>
            clear hS qB
            obtain ⟨i, S, g1, vs1, rfl, hi, hS, hT⟩ := hrel
            have qB := hS.cell
            have q5 := hS.at_.f5
            have hrs := hS.at_.s
            have hSl : S.length ≤ C.n := hS.ok.set.len
            simp only at q5 hrs
            obtain ⟨as_, cs, rfl, hs1, hs2⟩ := hrs.shape
            have hSe : (C.at S).set = S := rfl
            rw [hSe] at hrs hs1 q5
            simp only [List.length_map] at q5 hrs hs1
            by_cases ci : i < S.length
            · obtain ⟨gs, cap, he, -, -, -, -⟩ := hrs.pos (by simp; omega)
              simp only [Value.slice.injEq] at he
              obtain ⟨rfl, -, rfl⟩ := he
              have qx := hrs.cellM (f := cI) 0 (i := i) ci
              have hx : S.getD i 0 ≠ 0 ∧ (S.getD i 0).natAbs ≤ C.n := hS.ok.set.lit _ (getD_mem' 0 ci)
              have hpl := Rup.place_lt hx
              have hlo : C.liveOf (Rup.ofN C.cls (Rup.place (S.getD i 0))) = C.live.filter fun c => c.contains (-(S.getD i 0)) := Rup.live_of (C.at S) hS.ok hx.1
              have hol : V.os.length = 2 * C.n := hS.at_.ol
              obtain ⟨go_, capo, hvo, -, -, -, -⟩ := hS.at_.o.pos (by simp only; omega)
              have hro := hS.at_.o
              have q3 := hS.at_.f3
              simp only at hvo hro q3
              rw [hvo] at hro q3
              have hT4 : SeekTo R (Cnf.andThen (Cnf.pass (C.liveOf ((Rup.ofN C.cls (Rup.place (S.getD i 0))).drop 0)) S) (Up.work C.live (C.n - i) (i + 1))) := by
                rw [show C.n + 1 - i = (C.n - i) + 1 by omega, Up.work, if_pos ci, ← hlo] at hT
                exact hT
              have HT4 := Lib.hid hT4
              generalize hxe : S.getD i 0 = x at *
              obtain ⟨p, hp⟩ : ∃ p, p = Rup.place x := ⟨_, rfl⟩
              rw [← hp] at hpl HT4
              have qu := hro.cell nilS (i := p) (by omega)
              have hru := hS.at_.oi p hpl
              have hku := fun k hk => ofN_lt (cls := C.cls) (p := p) (k := k) hk
              have hce : (C.at S).of p = Rup.ofL C.cls p := hS.ok.of_ p hpl
              rw [hce, Rup.ofL] at hru
              have hosD : V.os.getD p nilS = V.os.getD p nilS := rfl
              have hkl : (Rup.ofN C.cls p).length ≤ 1000000 := by
                have := List.length_filter_le (fun k => (C.cls.getD k []).any fun l => Rup.place (-l) == p) (List.range C.cls.length)
                unfold Rup.ofN
                simp at this ⊢
                omega
              generalize hks : Rup.ofN C.cls p = ks at *
              have HKS := Lib.hid hks
              rw [hol] at q3
              generalize hm2 : 2 * C.n = m2 at *
              have HM2 := Lib.hid hm2.symm
              clear hks hm2
              obtain ⟨au, cu, hvu, hu1, hu2⟩ := hru.shape
              rw [hvu] at qu
              simp only [List.length_map] at qu hu1 hvu
              have HKU := Lib.hid hku
              have HPl := Lib.hid hp
              have HVU := Lib.hid hvu
              have pb1 : (0 : Int) ≤ (p : Int) := by omega
              have pb2 : (p : Int) < (m2 : Int) := by omega
              have ib1 : (i : Int) < (S.length : Int) := by omega
              clear hku hp hvu hT hT4 hlo hru hro hvo hosD hxe hol
              go_wp2_with fail
              go_quiet ((go_at_call 100; exact rup_place_quiet x C.n hn hx (p : Int) (by rw [HPl.out])))
              have hS0 := hS.drewN nq
              clear hS qB q5 hrs qx q3 qu
              go_wp2_with fail
              go_loopw [60] (fun v wr => ∃ (j : Nat) (S : List Int) (g1 : Tag) (vs1 : Value), v = .int .i64 j ∧ j ≤ ks.length ∧ i < S.length ∧ Seek W g b V C B S wr g1 vs1 ∧ SeekTo R (Cnf.andThen (Cnf.pass (C.liveOf (ks.drop j)) S) (Up.work C.live (C.n - i) (i + 1)))) (fun v _ => ks.length - (intOf v).toNat)
              case atStart => exact ⟨0, S, g1, _, rfl, Nat.zero_le _, ci, hS0, HT4.out⟩
              case round =>
                clear hS0 hs1 ci hi ib1 hSl
                obtain ⟨j, S, g1, vs1, rfl, hj, hiS, hS, hT⟩ := hrel
                have qB := hS.cell
                by_cases cj : j < ks.length
                · have hru := hS.at_.oi p (HM2.out ▸ hpl)
                  have hce : (C.at S).of p = Rup.ofL C.cls p := hS.ok.of_ p (HM2.out ▸ hpl)
                  rw [hce, Rup.ofL, HKS.out, HVU.out] at hru
                  obtain ⟨gu, cap, he, -, -, -, -⟩ := hru.pos (by simp; omega)
                  simp only [Value.slice.injEq] at he
                  obtain ⟨rfl, -, rfl⟩ := he
                  have qk := hru.cellM (f := cI) 0 (i := j) (by simpa using cj)
                  rw [getD_map_cast ks j cj] at qk
                  have hk := HKU.out _ (getD_mem' 0 cj)
                  rw [List.drop_eq_getElem_cons cj, show ks[j] = ks.getD j 0 by simp [List.getD_eq_getElem?_getD, cj]] at hT
                  obtain ⟨t1, t2⟩ := hT.look
                  have T1 := Lib.hid t1
                  have T2 := Lib.hid t2
                  have hlook := rup_look_any hS.at_ hS.ok (ks.getD j 0) hk _ rfl
                  have HLk := Lib.hid hlook
                  have hle := look_len C S (ks.getD j 0)
                  clear t1 t2 hT hlook hru
                  generalize ks.getD j 0 = kk at *
                  cases hb : (C.lookF S kk).2
                  · have HB := Lib.hid hb
                    clear hb
                    go_wp2_with fail
                    refine HLk.out.mono ?_
                    rintro e w' ⟨rfl, h2, o2⟩
                    obtain ⟨g2, vs2, hS2⟩ := hS.next (S2 := (C.lookF S kk).1) h2 o2
                    have hbb : ((C.at S).lookF (C.at S).set kk).2 = false := HB.out
                    rw [hbb]
                    clear h2 o2 hbb
                    go_wp2_with fail
                    refine leaves_cons (f := 105) (args := #[.pointer (some ⟨B, 0, none⟩)]) (by simp) (by simp [go_sem]) ?_
                    refine (hS2.back HC.out .returning).mono ?_
                    rintro e u' w'' ⟨rfl, rfl, hfin⟩
                    exact ⟨_, results_tmp rfl _ _ _, by rw [T2.out HB.out]; rfl, HTo.out _ hfin⟩
                  · have HB := Lib.hid hb
                    clear hb
                    go_wp2_with fail
                    refine HLk.out.mono ?_
                    rintro e w' ⟨rfl, h2, o2⟩
                    obtain ⟨g2, vs2, hS2⟩ := hS.next (S2 := (C.lookF S kk).1) h2 o2
                    have hbb : ((C.at S).lookF (C.at S).set kk).2 = true := HB.out
                    rw [hbb]
                    clear h2 o2 hbb
                    go_wp2_with fail
                    go_roundw
                    case rel => exact ⟨j + 1, (C.lookF S kk).1, g2, vs2, by go_num, by omega, by omega, hS2, T1.out HB.out⟩
                    case measure => simp [intOf]; omega
                · have hT5 : SeekTo R (Up.work C.live (C.n - i) (i + 1) S) := by
                    rw [List.drop_of_length_le (by omega)] at hT
                    simpa [Rup.Chk.liveOf, Cnf.pass, Cnf.andThen] using hT
                  have HT5 := Lib.hid hT5
                  have hSl : S.length ≤ C.n := hS.ok.set.len
                  clear hT hT5
                  go_wp2_with fail
                  go_roundw
                  case rel => exact ⟨i + 1, S, g1, vs1, by go_num, by omega, hS, by rw [show C.n + 1 - (i + 1) = C.n - i by omega]; exact HT5.out⟩
                  case measure => simp [intOf]; omega
            · have hR : R = false := by
                unfold SeekTo at hT
                rw [show C.n + 1 - i = (C.n - i) + 1 by omega, Up.work, if_neg ci] at hT
                exact hT
              subst hR
              clear hT
              go_wp2_with fail
              refine leaves_cons (f := 105) (args := #[.pointer (some ⟨B, 0, none⟩)]) (by simp) (by simp [go_sem]) ?_
              refine (hS.back HC.out .returning).mono ?_
              rintro e u' w'' ⟨rfl, rfl, hfin⟩
              exact ⟨_, results_tmp rfl _ _ _, rfl, HTo.out _ hfin⟩
end
end Go.Proofs.Ytjbfgafkjejdjaa
