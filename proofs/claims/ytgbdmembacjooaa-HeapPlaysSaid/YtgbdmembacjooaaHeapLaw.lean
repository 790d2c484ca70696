/- The laws of layer 17 over slices: the walks of HeapAll and HeapAgain. -/
import Derived.Test.YtgbdmembacjooaaHeapFix
import Derived.Test.YtgbdmembacjooaaHeapOrd
namespace Go.Proofs.Ytgbdmembacjooaa
open Go.RowKit

/-- A slice that reads as these numbers. -/
def IntsAt (k : IntKind) (w : World) (ao : Option Addr) (len : Nat) (xs : List Int) : Prop :=
  xs.length = len ∧ len ≤ 9223372036854775807 ∧ (0 < len → ∃ b off, ao = some ⟨b, off, none⟩ ∧ b < w.heap.size ∧ ∀ i, i < len → w.cell? ⟨b, off + i, none⟩ = some (.int k (xs.getD i 0)))

theorem IntsAt.only {k : IntKind} {w w' : World} {ao : Option Addr} {len : Nat} {xs : List Int} (h : IntsAt k w ao len xs) (ho : Only (fun _ => False) w w') : IntsAt k w' ao len xs := by
  refine ⟨h.1, h.2.1, fun hp => ?_⟩
  obtain ⟨b, off, he, hb, hc⟩ := h.2.2 hp
  refine ⟨b, off, he, Nat.lt_of_lt_of_le hb ho.size, fun i hi => ?_⟩
  rw [World.cell?_of_block (w := w) (ho.block b hb (fun f => f))]
  exact hc i hi

theorem IntsAt.cells {k : IntKind} {w w' : World} {b off : Nat} {len : Nat} {xs : List Int} (h : IntsAt k w (some ⟨b, off, none⟩) len xs) (hp : 0 < len) (ho : Only (fun _ => False) w w') (i : Nat) (hi : i < len) : w'.cell? ⟨b, off + i, none⟩ = some (.int k (xs.getD i 0)) := by
  obtain ⟨b', off', he, hb, hc⟩ := h.2.2 hp
  simp only [Option.some.injEq, Addr.mk.injEq, and_true] at he
  obtain ⟨rfl, rfl⟩ := he
  rw [World.cell?_of_block (w := w) (ho.block b hb (fun f => f))]
  exact hc i hi

/-- Out of what a row says of a slice of integers. -/
theorem IntsAt.of_row {k : IntKind} {w : World} {a : Option Addr} {len cap : Nat} {zs : List Int}
    (h : (a = none ∧ len = 0 ∧ cap = 0 ∧ zs = []) ∨ ∃ x, a = some x ∧ len ≤ cap ∧ cap ≤ maxLen ∧ zs.length = cap ∧ (∀ i, i < zs.length → w.cell? (x.add i) = some (.int k (zs.getD i 0))) ∧ ∀ n ∈ zs, (Lit.int k n).wf = true) :
    IntsAt k w a len (zs.take len) ∧ ∀ n ∈ zs.take len, (Lit.int k n).wf = true := by
  rcases h with ⟨rfl, rfl, rfl, rfl⟩ | ⟨x, rfl, h1, h2, h3, h4, h5⟩
  · exact ⟨⟨rfl, by omega, fun h => by omega⟩, by simp⟩
  · unfold maxLen at h2
    refine ⟨⟨by simp; omega, by omega, fun hp => ?_⟩, fun n hn => h5 n (List.mem_of_mem_take hn)⟩
    obtain ⟨b, off, rfl, hc⟩ := ints_at h4 (by omega)
    refine ⟨b, off, rfl, ?_, fun i hi => ?_⟩
    · exact World.block_lt_of_cell? _ _ (hc 0 (by omega))
    · rw [hc i (by omega)]
      simp only [List.getD_eq_getElem?_getD, List.getElem?_take, hi, if_true]

theorem nat_list_u32 {zs : List Int} (h : ∀ n ∈ zs, (Lit.int .u32 n).wf = true) : ∃ ys : List Nat, zs = ys.map (fun (y : Nat) => (y : Int)) ∧ ∀ i, ys.getD i 0 < 4294967296 := by
  refine ⟨zs.map Int.toNat, ?_, ?_⟩
  · rw [List.map_map]
    conv => lhs; rw [← List.map_id zs]
    apply List.map_congr_left
    intro n hn
    have := bounds_u32 (h n hn)
    simp; omega
  · intro i
    rw [List.getD_eq_getElem?_getD, List.getElem?_map]
    cases hz : zs[i]? with
    | none => simp
    | some n =>
      have := bounds_u32 (h n (List.mem_of_getElem? hz))
      simp; omega

namespace Hp
theorem bump_small (h : Hp) (o : h.Ok) (ho : HOrd h) {a : Nat} (ha : a < h.S.length) (y : Nat) (hy : y < 4294967296) (hs : h.sc a = 0) :
    (h.bump a y).Ok ∧ HOrd (h.bump a y) ∧ (h.bump a y).S = h.S.set a y ∧ ∀ b, (h.bump a y).has b ↔ h.has b := by
  have hr : room y h a y = (h, y) := by
    have := roomI_eq h a y (o.sc_le a)
    rw [if_neg (by rw [hs]; unfold Hp.most; simp; omega)] at this
    exact this
  have := bump_all h o ho ha y (by rw [hr]; simp only; rw [hs]; unfold Hp.most; omega)
  rw [hr] at this
  simpa [hs] using this

theorem new_ord (n : Nat) : HOrd (new n) := by
  intro j h0 hj
  have hj : j < n := by simpa [new] using hj
  have hat : ∀ i, i < n → (new n).at1 i = i := by
    intro i hi
    simp [new, at1, List.getD_eq_getElem?_getD, hi]
  unfold OrdAt
  rw [hat j hj, hat _ (by omega), ahead_not]
  have : ∀ i, (new n).S.getD i 0 = 0 := by
    intro i
    simp only [new, List.getD_eq_getElem?_getD, List.getElem?_replicate]
    split <;> rfl
  rw [this, this]
  omega

theorem new_has (n a : Nat) : (new n).has a ↔ a < n := by
  have hat : ∀ i, i < n → (new n).at1 i = i := by
    intro i hi
    simp [new, at1, List.getD_eq_getElem?_getD, hi]
  constructor
  · rintro ⟨j, hj, rfl⟩
    have hj : j < n := by simpa [new] using hj
    rw [hat j hj]; exact hj
  · intro h
    exact ⟨a, by simpa [new] using h, hat a h⟩

/-- The heap with these scores, after the first k bumps of its making. -/
structure Filled (ys : List Nat) (k : Nat) (h : Hp) : Prop where
  ok : h.Ok
  ord : HOrd h
  len : h.S.length = ys.length
  done : ∀ j, j < k → h.S.getD j 0 = ys.getD j 0
  todo : ∀ j, k ≤ j → h.S.getD j 0 = 0
  has : ∀ a, h.has a ↔ a < ys.length

theorem Filled.zero (ys : List Nat) (hn : ys.length ≤ 65536) : Filled ys 0 (new ys.length) := by
  refine ⟨new_ok _ hn, new_ord _, by simp [new], fun j hj => by omega, fun j _ => ?_, new_has _⟩
  simp only [new, List.getD_eq_getElem?_getD, List.getElem?_replicate]
  split <;> rfl

theorem Filled.succ {ys : List Nat} {k : Nat} {h : Hp} (F : Filled ys k h) (hk : k < ys.length) (hy : ys.getD k 0 < 4294967296) : Filled ys (k + 1) (h.bump k (ys.getD k 0)) := by
  have hk' : k < h.S.length := by rw [F.len]; exact hk
  obtain ⟨q1, q2, q3, q4⟩ := bump_small h F.ok F.ord hk' (ys.getD k 0) hy (F.todo k (Nat.le_refl _))
  refine ⟨q1, q2, by rw [q3]; simpa using F.len, fun j hj => ?_, fun j hj => ?_, fun a => (q4 a).trans (F.has a)⟩
  · rw [q3, getD_set _ _ _ _ _ hk']
    split
    · rename_i e; rw [e]
    · exact F.done j (by omega)
  · rw [q3, getD_set _ _ _ _ _ hk', if_neg (by omega)]
    exact F.todo j (by omega)

theorem ext_getD {xs ys : List Nat} (h : xs.length = ys.length) (hg : ∀ j, j < ys.length → xs.getD j 0 = ys.getD j 0) : xs = ys := by
  apply List.ext_getElem h
  intro i h1 h2
  have := hg i h2
  simpa [List.getD_eq_getElem?_getD, h1, h2] using this

/-- The heap with these scores, after some pops; 'top' is ahead of all that is left. -/
structure Left (ys : List Nat) (k : Nat) (h : Hp) : Prop where
  ok : h.Ok
  ord : HOrd h
  S : h.S = ys
  len : h.L.length + k = ys.length

theorem card_of_has {h : Hp} (o : h.Ok) (n : Nat) (hh : ∀ a, h.has a ↔ a < n) : h.L.length = n := by
  have hmem : ∀ a, a ∈ h.L ↔ a < n := by
    intro a
    rw [← hh]
    constructor
    · intro hm
      obtain ⟨j, hj, e⟩ := List.getElem_of_mem hm
      exact ⟨j, hj, by unfold at1; simp [List.getD_eq_getElem?_getD, hj, e]⟩
    · rintro ⟨j, hj, rfl⟩; exact at1_mem hj
  have h1 := o.nodup.length_le_of_subset (l₂ := List.range n) (by intro a ha; simpa using (hmem a).1 ha)
  have h2 := (List.nodup_range (n := n)).length_le_of_subset (l₂ := h.L) (by intro a ha; exact (hmem a).2 (by simpa using ha))
  simp at h1 h2
  omega

theorem Filled.left {ys : List Nat} {h : Hp} (F : Filled ys ys.length h) : Left ys 0 h :=
  ⟨F.ok, F.ord, ext_getD F.len F.done, by rw [card_of_has F.ok ys.length F.has]; rfl⟩

end Hp

theorem getD_map_cast (ys : List Nat) (i : Nat) : (ys.map (fun (y : Nat) => (y : Int))).getD i 0 = ((ys.getD i 0 : Nat) : Int) := by
  simp only [List.getD_eq_getElem?_getD, List.getElem?_map]
  cases ys[i]? <;> rfl

theorem Bump_at {w : World} {b : Nat} {vl va vs : Value} {h : Hp} (H : HeapAt w b vl va vs h) (o : h.Ok) (a : Nat) (ha : a < h.S.length) (y : Nat) (hy : y < 18446744073709551616) (z zy : Int) (hz : z = a + 1) (hzy : zy = y) :
    Calls Try.prog 9 #[.pointer (some ⟨b, 0, none⟩), .int .i64 z, .int .u64 zy] w fun e w' =>
      e = .returned (.tuple #[]) ∧ HeapAt w' b vl va vs (h.bump a y) ∧ Only (HFoot b vl va vs) w w' :=
  (Bump_any H o a ha y hy z zy hz hzy).mono fun _ _ ⟨h1, h2, _, h3⟩ => ⟨h1, h2, h3⟩

set_option maxHeartbeats 3200000 in
set_option maxRecDepth 100000 in
theorem HeapAll_walk {w : World} {ao : Option Addr} {len cap : Nat} {ys : List Nat} (hI : IntsAt .u32 w ao len (ys.map (fun (y : Nat) => (y : Int)))) (hys : ∀ i, ys.getD i 0 < 4294967296) :
    Calls Try.prog 3 #[.slice ao len cap] w fun e w' => e = .returned (.bool true) ∧ Only (fun _ => False) w w' := by
  have hlen : len = ys.length := by have := hI.1; simpa using this.symm
  subst hlen
  have hm := hI.2.1
  by_cases hbig : 1000 < ys.length
  · go_enter Try.func3, Try.ntmps3
    go_wp2_with fail
    refine fixed_any.mono ?_
    rintro e w1 ⟨rfl, O1⟩
    go_wp2_with fail
    go_ret
    exact ⟨rfl, O1⟩
  · go_enter Try.func3, Try.ntmps3
    go_wp2_with fail
    refine (New_any _ ys.length (by omega) (.inl rfl)).mono ?_
    rintro e w1 ⟨b, vl, va, vs, rfl, H, hF, O⟩
    go_wp2_with fail
    go_loopw [17] (fun v wr => ∃ (k : Nat) (h : Hp), v = .int .i64 k ∧ k ≤ ys.length ∧ HeapAt wr b vl va vs h ∧ Hp.Filled ys k h ∧ Only (fun _ => False) w wr) (fun v _ => ys.length - (intOf v).toNat)
    case atStart => exact ⟨0, _, rfl, Nat.zero_le _, H, Hp.Filled.zero ys (by omega), O⟩
    case round =>
      obtain ⟨k, h, rfl, hk, H1, F1, O1⟩ := hrel
      by_cases c : k < ys.length
      · obtain ⟨bb, off, rfl, hbb, hc⟩ := (hI.only O1).2.2 (by omega)
        have hc1 := hc k c
        rw [getD_map_cast] at hc1
        have hyk := hys k
        have hF2 := F1.succ c hyk
        have HF2 := Lib.hid hF2
        clear hc hF2
        generalize ys.getD k 0 = y at *
        go_wp2_with fail
        refine (Bump_at H1 F1.ok k (by rw [F1.len]; exact c) y (by omega) _ _ rfl rfl).mono ?_
        rintro e w2 ⟨rfl, H2, O2⟩
        go_wp2_with fail
        go_roundw
        case rel => exact ⟨k + 1, _, by go_num, by omega, H2, HF2.out, O1.trans O2 fun i hi => .inr (hF i hi)⟩
        case measure => simp [intOf]; omega
      · have hk' : k = ys.length := by omega
        subst hk'
        go_wp2_with fail
        go_loopw [6, 31] (fun vlast v wr => ∃ (k : Nat) (h : Hp) (vl : Value) (last : Nat), v = .int .i64 k ∧ vlast = .int .i64 last ∧ k ≤ ys.length ∧ HeapAt wr b vl va vs h ∧ (∀ k, HFoot b vl va vs k → w.heap.size ≤ k) ∧ Hp.Left ys k h ∧ last ≤ ys.length ∧ (0 < last → ∀ a, h.has a → Hp.ahead ys (last - 1) a = true) ∧ Only (fun _ => False) w wr) (fun _ v _ => ys.length - (intOf v).toNat)
        case atStart => exact ⟨0, h, vl, 0, rfl, rfl, Nat.zero_le _, H1, hF, F1.left, Nat.zero_le _, by omega, O1⟩
        case round =>
          clear H1 F1 O1 hF H O hk
          obtain ⟨k, h', vl', last, rfl, rfl, hk, H1, hF, F1, hlast, hah, O1⟩ := hrel
          by_cases c : k < ys.length
          · have hL : 0 < h'.L.length := by have := F1.len; omega
            obtain ⟨p1, p2, p3, p4, p5, p6, p7, p8⟩ := Hp.pop_all h' F1.ok F1.ord hL
            rw [F1.S] at p3 p6 p8
            have hleft : Hp.Left ys (k + 1) h'.pop := ⟨p1, p2, p3, by have := F1.len; omega⟩
            have ha1 : 0 < last → Hp.ahead ys (last - 1) (h'.at1 0) = true := fun hl => hah hl _ p7
            have HL := Lib.hid hleft
            have H6 := Lib.hid p6
            clear p1 p2 p3 p4 p5 p6 p7 hleft hah
            obtain ⟨bb, off, rfl, hbb, hc⟩ := (hI.only O1).2.2 (by omega)
            have o1 := F1.ok
            clear hc F1
            generalize hx : h'.at1 0 = x at *
            have HX := Lib.hid hx
            clear hx
            rcases Nat.eq_zero_or_pos last with rfl | hl0
            · go_wp2_with fail
              refine (Pop_at H1 o1 hL ((x : Int) + 1) (by rw [HX.out])).mono ?_
              rintro e w2 ⟨rfl, ⟨vl2, H2, F2⟩, o2, O2⟩
              go_wp2_with fail
              go_quiet (fail)
              go_wp2_with fail
              go_roundw
              case rel => exact ⟨k + 1, _, vl2, x + 1, by go_num, by go_num, by omega, H2.drewN _, fun i hi => hF i (F2 i hi), HL.out, by omega, fun _ a ha => by simpa using H6.out a ha, (O1.trans O2 fun i hi => .inr (hF i hi)).drewN _⟩
              case measure => simp [intOf]; omega
            · obtain ⟨l, rfl⟩ : ∃ l, last = l + 1 := ⟨last - 1, by omega⟩
              simp only [Nat.add_sub_cancel] at ha1
              have ha2 := ha1 hl0
              rw [Hp.ahead_iff] at ha2
              clear ha1
              go_wp2_with fail
              refine (Pop_at H1 o1 hL ((x : Int) + 1) (by rw [HX.out])).mono ?_
              rintro e w2 ⟨rfl, ⟨vl2, H2, F2⟩, o2, O2⟩
              have O3 : Only (fun _ => False) w w2 := O1.trans O2 fun i hi => .inr (hF i hi)
              have hcx := hI.cells (by omega) O3 x p8
              have hcl := hI.cells (by omega) O3 l (by omega)
              rw [getD_map_cast] at hcx hcl
              generalize ys.getD x 0 = yx at *
              generalize ys.getD l 0 = yl at *
              have f1 : decide (yl < yx) = false := decide_eq_false (by omega)
              have f2 : (x : Int) < (ys.length : Int) := by omega
              have f3 : (l : Int) < (ys.length : Int) := by omega
              have f4 : IntKind.i64.wrap (x : Int) = x := IntWalk.i64_in _ (by omega)
              have f5 : IntKind.i64.wrap (l : Int) = l := IntWalk.i64_in _ (by omega)
              have f6 : decide ((0 : Int) < (l : Int) + 1) = true := decide_eq_true (by omega)
              rcases ha2 with ha2 | ⟨ha2, ha3⟩
              · have f7 : ((yx : Int) == (yl : Int)) = false := beq_eq_false_iff_ne.2 (by omega)
                go_wp2_with fail
                go_quiet (fail)
                go_wp2_with fail
                go_roundw
                case rel => exact ⟨k + 1, _, vl2, x + 1, by go_num, by go_num, by omega, H2.drewN _, fun i hi => hF i (F2 i hi), HL.out, by omega, fun _ a ha => by simpa using H6.out a ha, O3.drewN _⟩
                case measure => simp [intOf]; omega
              · subst ha2
                have f7 : decide (x ≤ l) = false := decide_eq_false (by omega)
                go_wp2_with fail
                go_quiet (fail)
                go_wp2_with fail
                go_roundw
                case rel => exact ⟨k + 1, _, vl2, x + 1, by go_num, by go_num, by omega, H2.drewN _, fun i hi => hF i (F2 i hi), HL.out, by omega, fun _ a ha => by simpa using H6.out a ha, O3.drewN _⟩
                case measure => simp [intOf]; omega
          · have hk' : k = ys.length := by omega
            subst hk'
            have hL : h'.L.length = 0 := by have := F1.len; omega
            have HL := Lib.hid hL
            clear hL
            go_wp2_with fail
            refine fixed_any.mono ?_
            rintro e w2 ⟨rfl, O2⟩
            have H2 := H1.only O2 (fun f => f) (fun _ _ f => f) (fun _ _ f => f) (fun _ _ f => f)
            go_wp2_with fail
            refine (Pop_none H2 HL.out).mono ?_
            rintro e w3 ⟨rfl, rfl⟩
            go_wp2_with fail
            refine (Len_at H2 0 (by rw [HL.out]; rfl)).mono ?_
            rintro e w3 ⟨rfl, rfl⟩
            go_wp2_with fail
            go_ret
            exact ⟨rfl, O1.same O2⟩

end Go.Proofs.Ytgbdmembacjooaa
