/- The walk of (*learn.student).goes. (Printed by gen_lrn5.py.) -/
import Derived.Test.YtjedgdamommgeaaLrn4
set_option linter.unusedVariables false
namespace Go.Proofs.Ytjedgdamommgeaa
open Go.RowKit
open Tr

namespace Tr
/-- the keys are atoms -/
structure Kg (n : Nat) (s : Stu) : Prop where
  ks : ∀ x ∈ s.ks, 1 ≤ x ∧ x ≤ (n : Int)
  ms : ∀ x ∈ s.ms, 1 ≤ x ∧ x ≤ (n : Int)

theorem keys_len {n : Nat} {ks : List Int} (h : ∀ x ∈ ks, 1 ≤ x ∧ x ≤ (n : Int)) (hd : ks.Nodup) : ks.length ≤ n := by
  have hg : Up.Good n ks := ⟨fun x hx => by have := h x hx; omega, by
    unfold List.Nodup at hd ⊢
    rw [List.pairwise_map]
    exact hd.imp_of_mem fun {x y} hx hy hne => by have := h x hx; have := h y hy; omega⟩
  exact hg.len

theorem absW_lit {n : Nat} {x : Int} (hx : x ≠ 0 ∧ x.natAbs ≤ n) (hn : n ≤ 65536) : Cnf.absW x = (x.natAbs : Int) :=
  (lit_of hx.1 (by omega)).abs

theorem Kg.take1 {n : Nat} (hn : n ≤ 65536) {s : Stu} (h : Kg n s) (T : Trail) (top : Int) {x : Int} (hx : x ≠ 0 ∧ x.natAbs ≤ n) : Kg n (T.take1 top s x) := by
  have ha := absW_lit hx hn
  unfold Trail.take1
  split
  · exact h
  · constructor <;> intro y hy <;> rcases mem_addK.1 hy with h1 | rfl
    · exact h.ks y h1
    · omega
    · exact h.ms y h1
    · omega
theorem Kg.takes {n : Nat} (hn : n ≤ 65536) (T : Trail) (top : Int) : ∀ (l : List Int) {s : Stu}, Kg n s → (∀ x ∈ l, x ≠ 0 ∧ x.natAbs ≤ n) → Kg n (T.takes top s l)
  | [], _, h, _ => h
  | x :: l, _, h, hl => Kg.takes hn T top l (h.take1 hn T top (hl x (by simp))) fun y hy => hl y (by simp [hy])
theorem Kg.del {n : Nat} {s : Stu} (h : Kg n s) (a : Int) : Kg n (s.del a) := ⟨fun x hx => h.ks x (List.mem_of_mem_erase hx), h.ms⟩

theorem clauseL_ok {T : Trail} (o : Ok T) {k : Int} {c : List Int} (h : T.clauseL k = some c) : (∀ y ∈ c, y ≠ 0 ∧ y.natAbs ≤ T.n) ∧ c.length ≤ 65536 := by
  unfold Trail.clauseL at h
  split at h
  · rename_i hth
    obtain rfl := Option.some.inj h
    unfold Trail.there at hth
    simp only [Bool.and_eq_true, decide_eq_true_eq] at hth
    have hg := o.cl (k := k.toNat) (by omega)
    have hn := o.n
    have := hg.len
    have := formL_len (T.cl k.toNat)
    exact ⟨fun x hx => hg.lit x ((Cnf.mem_formL _ x).1 hx), by omega⟩
  · cases h
theorem reasonL_ok {T : Trail} (o : Ok T) {x : Int} {l : List Int} (h : T.reasonL x = some l) : (∀ y ∈ l, y ≠ 0 ∧ y.natAbs ≤ T.n) ∧ l.length ≤ 65536 := by
  unfold Trail.reasonL at h
  split at h
  · cases h
  · cases hc : T.clauseL (T.why x) with
    | none => rw [hc] at h; cases h
    | some c =>
      rw [hc] at h
      obtain rfl := Option.some.inj h
      obtain ⟨h1, h2⟩ := clauseL_ok o hc
      exact ⟨fun y hy => h1 y (List.mem_filter.1 hy).1, Nat.le_trans (List.length_filter_le _ _) h2⟩

theorem goes_snoc (T : Trail) (top : Int) (s : Stu) {l : List Int} {k : Nat} (hk : k < l.length) : T.goes top s (l.take (k + 1)).reverse = T.goes top s (l.getD k 0 :: (l.take k).reverse) := by
  rw [take_snocI l k hk, List.reverse_append]; rfl
theorem goes_skip {T : Trail} {top : Int} {s : Stu} {x : Int} {r : List Int} (h : s.f (Cnf.absW x) = 0 ∨ T.lvl (Cnf.absW x) ≠ top) : T.goes top s (x :: r) = T.goes top s r := by
  rw [Trail.goes, if_pos h]
theorem goes_one {T : Trail} {top : Int} {s : Stu} {x : Int} {r : List Int} (h : ¬ (s.f (Cnf.absW x) = 0 ∨ T.lvl (Cnf.absW x) ≠ top)) (h1 : s.many = 1) : T.goes top s (x :: r) = (s, some (s.f (Cnf.absW x))) := by
  rw [Trail.goes, if_neg h, if_pos h1]
theorem goes_none {T : Trail} {top : Int} {s : Stu} {x : Int} {r : List Int} (h : ¬ (s.f (Cnf.absW x) = 0 ∨ T.lvl (Cnf.absW x) ≠ top)) (h1 : s.many ≠ 1) (h2 : T.reasonL x = none) : T.goes top s (x :: r) = (s, none) := by
  rw [Trail.goes, if_neg h, if_neg h1, h2]
theorem goes_some {T : Trail} {top : Int} {s : Stu} {x : Int} {r l : List Int} (h : ¬ (s.f (Cnf.absW x) = 0 ∨ T.lvl (Cnf.absW x) ≠ top)) (h1 : s.many ≠ 1) (h2 : T.reasonL x = some l) : T.goes top s (x :: r) = T.goes top (T.takes top (s.del (Cnf.absW x)) l) r := by
  rw [Trail.goes, if_neg h, if_neg h1, h2]
end Tr

section
variable {w : World} {g : Tag} {b : Nat} {V : TrV} {T : Trail} {bs bi bm : Nat} {top : Int} {s : Stu}

theorem blk_ownI {v : Value} {n : Nat} {xs : List Value} (h : w.ownsRow 0 3 1 v n xs) {k : Nat} (hk : Value.blk v = some k) : v.ownBlock = some k := by
  rcases h.2 with ⟨h', _⟩ | ⟨g', cap', cur, h', _⟩
  · rw [h'] at hk; simp [Value.blk] at hk
  · rw [h'] at hk ⊢; simpa [Value.blk, Value.ownBlock] using hk

/-- what goes leaves -/
def GoTo (w : World) (bs bi bm b : Nat) (top : Int) (r : Stu × Option Int) (e : Ending) (w' : World) : Prop :=
  e = .returned (.tuple #[.int .i64 (r.2.getD 0), .bool r.2.isSome]) ∧ StAt w' bs bi bm b top r.1 ∧ Only (StF bs bi bm) w w'

/-- in the midst of goes -/
structure GoAt (w1 : World) (bs bi bm b : Nat) (T : Trail) (top : Int) (s : Stu) (k : Nat) (s1 : Stu) (wr : World) : Prop where
  st : StAt wr bs bi bm b top s1
  on : Only (StF bs bi bm) w1 wr
  eq : T.goes top s T.lits.reverse = T.goes top s1 (T.lits.take k).reverse
  kg : Kg T.n s1

theorem StAt.lt (h : StAt w bs bi bm b top s) {k : Nat} (hk : StF bs bi bm k) : k < w.heap.size := by
  rcases hk with rfl | rfl | rfl
  · have h1 := h.blk
    by_cases hb : k < w.heap.size
    · exact hb
    · rw [Array.getElem?_eq_none (by omega)] at h1; cases h1
  · exact h.in_.lt
  · exact h.met.lt

set_option maxRecDepth 100000 in
set_option maxHeartbeats 3200000 in
theorem goes_any (H : TrAt w g b V T) (o : Ok T) (hf : Off g bs bi bm) (hS : StAt w bs bi bm b top s) (hkg : Kg T.n s) :
    Calls Try.prog 39 #[.pointer (some ⟨bs, 0, none⟩)] w (GoTo w bs bi bm b top (T.goes top s T.lits.reverse)) := by
  have hli := prop_List_any H o
  have HLi := Lib.hid hli
  have HSt := Lib.hid hS
  have HH := Lib.hid H
  have HOk := Lib.hid o
  have HKg := Lib.hid hkg
  have hgo := o.good
  have HGo := Lib.hid hgo
  have hnn := o.n
  have hlen := hgo.len
  have c0 := hS.c0
  clear hli H o hS hkg hgo
  go_enter Try.func39, Try.ntmps39
  go_wp2_with fail
  refine HLi.out.mono ?_
  rintro e w1 ⟨v, rfl, R1, N1, O1⟩
  have hI : Ints w1 v T.lits := Ints.of_own R1 fun x hx => by have := HGo.out.lit x hx; unfold InI64; omega
  have hN : ∀ k, Value.blk v = some k → ¬ StF bs bi bm k := fun k hk hs => by
    have := N1 k (blk_ownI R1 hk)
    have := HSt.out.lt hs
    omega
  have H1 : Hid (TrAt w1 g b V T) := Lib.hid (HH.out.only0 O1)
  have hst : GoAt w1 bs bi bm b T top s T.lits.length s w1 := ⟨HSt.out.only0 O1, Only.refl _ _, by rw [List.take_of_length_le (Nat.le_refl _)], HKg.out⟩
  have HO1 := Lib.hid O1
  have HGt := Lib.hid hst
  have HI := Lib.hid hI
  have HN := Lib.hid hN
  obtain ⟨ai, ci, rfl, -, -⟩ := hI.shape
  have ewl : IntKind.i64.wrap ((T.lits.length : Int) - 1) = (T.lits.length : Int) - 1 := by rw [IntWalk.i64_in _ (by omega)]
  clear R1 N1 O1 hI hN hst HSt HH HKg c0 HLi
  go_wp2_with fail
  go_loopw [5] (fun v wr => ∃ (k : Nat) (s1 : Stu), v = .int .i64 ((k : Int) - 1) ∧ k ≤ T.lits.length ∧ GoAt w1 bs bi bm b T top s k s1 wr) (fun v _ => (intOf v + 1).toNat)
  case atStart => exact ⟨T.lits.length, s, by first | rfl | go_num, Nat.le_refl _, HGt.out⟩
  case round =>
    clear HGt
    obtain ⟨k0, s1, hv, hk, hG⟩ := hrel
    have HG := Lib.hid hG
    clear hG
    cases k0 with
    | zero =>
      skip
      rw [show (((0 : Nat) : Int) - 1) = -1 by rfl] at hv
      subst hv
      have hfin : GoTo w bs bi bm b top (T.goes top s T.lits.reverse) (.returned (.tuple #[.int .i64 0, .bool false])) wr := by
        rw [HG.out.eq]
        exact ⟨rfl, HG.out.st, (HO1.out.mono fun _ f => f.elim).same HG.out.on⟩
      have HFin := Lib.hid hfin
      clear hfin HG
      go_wp2_with fail
      go_ret2
      exact HFin.out
      
    | succ k =>
      rw [show (((k + 1 : Nat) : Int) - 1) = (k : Int) by omega] at hv
      subst hv
      have ck : k < T.lits.length := by omega
      have dk : decide (0 ≤ (k : Int)) = true := decide_eq_true (by omega)
      have ewk : IntKind.i64.wrap ((k : Int) - 1) = (k : Int) - 1 := by rw [IntWalk.i64_in _ (by omega)]
      have hIw := HI.out.only' HG.out.on (fun _ k hk => HN.out k hk)
      obtain ⟨bl, ol, rfl, _, hcs⟩ := hIw.cells _ _ _ rfl (by omega)
      have qx := hcs k ck
      have hx := HI.out.range' k
      have hxl := HGo.out.lit (T.lits.getD k 0) (by rw [List.getD_eq_getElem?_getD, List.getElem?_eq_getElem ck]; exact List.getElem_mem ck)
      have hsn := HG.out.eq
      rw [goes_snoc T top s1 ck] at hsn
      have hks := keys_len HG.out.kg.ks HG.out.st.in_.nd
      have hms := keys_len HG.out.kg.ms HG.out.st.met.nd
      obtain ⟨x, hxe⟩ : ∃ x, T.lits.getD k 0 = x := ⟨_, rfl⟩
      rw [hxe] at qx hx hsn hxl
      obtain ⟨a, ha⟩ : ∃ a, Cnf.absW x = a := ⟨_, rfl⟩
      obtain ⟨q, hq⟩ : ∃ q, T.lvl a = q := ⟨_, rfl⟩
      have hai : InI64 a := by rw [← ha]; exact absW_in hx
      have hab := fun W : World => learn_abs_any (w := W) x a ha
      have HAb := Lib.hid hab
      have HSn := Lib.hid hsn
      have HA := Lib.hid ha
      have HQ := Lib.hid hq
      have HS1 := Lib.hid HG.out.st
      have HOn := Lib.hid HG.out.on
      have HKg := Lib.hid HG.out.kg
      have HX := Lib.hid hx
      have c0 := HS1.out.c0
      have c1 := HS1.out.c1
      have c2 := HS1.out.c2
      have hts : ∀ W s2, Only (StF bs bi bm) w1 W → StAt W bs bi bm b top s2 → Kg T.n s2 → T.goes top s T.lits.reverse = T.goes top s2 (T.lits.take k).reverse → ∃ (k' : Nat) (s3 : Stu), Value.int .i64 ((k : Int) - 1) = .int .i64 ((k' : Int) - 1) ∧ k' ≤ T.lits.length ∧ GoAt w1 bs bi bm b T top s k' s3 W := fun W s2 h1 h2 h3 h4 => ⟨k, s2, rfl, by omega, h2, h1, h4, h3⟩
      have HTs := Lib.hid hts
      clear hcs hxe hab hsn ha hq hIw HG hx hts
      go_wp2_with fail
      refine (HAb.out _).mono ?_
      rintro e w' ⟨rfl, rfl⟩
      by_cases hf0 : s1.f a = 0
      · skip
        have hlook : ∀ n, (Instr.lookup 62 (.map (some bi)) (cI a) false).run Try.prog (wr.drewN n) = .ok (cI 0) (wr.drewN n) := fun n => by
          have := (HS1.out.only0 ((Only.refl _ _).drewN n)).in_.look hai
          rw [hf0] at this; exact this
        have hz := fun n => HTs.out (wr.drewN n) s1 (HOn.out.same ((Only.refl _ _).drewN n)) (HS1.out.only0 ((Only.refl _ _).drewN n)) HKg.out (by rw [HSn.out, goes_skip (.inl (by rw [HA.out]; exact hf0))])
        have HZ := Lib.hid hz
        clear hz hf0
        go_wp2_with fail
        go_quiet (fail)
        clear hlook
        go_wp2_with fail
        go_roundw
        case rel => first | exact HZ.out _ | (rw [ewk]; exact HZ.out _)
        case measure => simp [intOf] <;> omega
        
      · have hC : ∀ W, Only (fun _ => False) wr W → W.cell? ⟨bs, 0, none⟩ = some (.pointer (some ⟨b, 0, none⟩)) ∧ W.cell? ⟨bs, 1, none⟩ = some (cI top) ∧ W.cell? ⟨bs, 2, none⟩ = some (.map (some bi)) ∧ (Instr.lookup 62 (.map (some bi)) (cI a) false).run Try.prog W = .ok (cI (s1.f a)) W := fun W oW => ⟨(HS1.out.only0 oW).c0, (HS1.out.only0 oW).c1, (HS1.out.only0 oW).c2, (HS1.out.only0 oW).in_.look hai⟩
        have HC := Lib.hid hC
        have hlv : ∀ W, Only (fun _ => False) wr W → Calls Try.prog 37 #[.pointer (some ⟨b, 0, none⟩), .int .i64 a] W fun e w' => e = .returned (.int .i64 q) ∧ Only (fun _ => False) wr w' := fun W oW =>
          (learn_level_any ((H1.out.off hf HOn.out).only0 oW) HOk.out a hai q HQ.out).mono fun _ _ ⟨he, ho⟩ => ⟨he, oW.same ho⟩
        have HLv := Lib.hid hlv
        have o0 : Only (fun _ => False) wr wr.drew := (Only.refl _ _).drew
        obtain ⟨y, hy⟩ : ∃ y, s1.f a = y := ⟨_, rfl⟩
        have HY := Lib.hid hy
        rw [hy] at hf0 HC
        have dy : (y == 0) = false := by rw [beq_eq_false_iff_ne]; exact hf0
        have HX0 := Lib.hid qx
        clear hC hlv c0 c1 c2 qx hy
        go_wp2_with fail
        refine wp_region_Q (fun w' => Only (fun _ => False) wr w') (by kernel_rfl) (by kernel_rfl) (by assumption) ?_
        refine wpQ_val (v := ?_) (by rfl) ?_ ?_
        rotate_left
        · (intro w hSw; (try dsimp only at hSw); have hcc := HC.out w hSw; obtain ⟨hc1, hc2, hc3, hc4⟩ := hcc; go_simp <;> (try with_reducible rfl))
        try simp only [Act.put, List.setIfInBounds_toArray, List.set_cons_zero, List.set_cons_succ]
        refine wpQ_val (v := ?_) (by rfl) ?_ ?_
        rotate_left
        · (intro w hSw; (try dsimp only at hSw); have hcc := HC.out w hSw; obtain ⟨hc1, hc2, hc3, hc4⟩ := hcc; go_simp <;> (try with_reducible rfl))
        try simp only [Act.put, List.setIfInBounds_toArray, List.set_cons_zero, List.set_cons_succ]
        refine wpQ_val (v := ?_) (by rfl) ?_ ?_
        rotate_left
        · (intro w hSw; (try dsimp only at hSw); have hcc := HC.out w hSw; obtain ⟨hc1, hc2, hc3, hc4⟩ := hcc; go_simp <;> (try with_reducible rfl))
        try simp only [Act.put, List.setIfInBounds_toArray, List.set_cons_zero, List.set_cons_succ]
        refine wpQ_val (v := ?_) (by rfl) ?_ ?_
        rotate_left
        · (intro w hSw; (try dsimp only at hSw); have hcc := HC.out w hSw; obtain ⟨hc1, hc2, hc3, hc4⟩ := hcc; go_simp <;> (try with_reducible rfl))
        try simp only [Act.put, List.setIfInBounds_toArray, List.set_cons_zero, List.set_cons_succ]
        refine wpQ_val (v := ?_) (by rfl) ?_ ?_
        rotate_left
        · (intro w hSw; (try dsimp only at hSw); have hcc := HC.out w hSw; obtain ⟨hc1, hc2, hc3, hc4⟩ := hcc; go_simp <;> (try with_reducible rfl))
        try simp only [Act.put, List.setIfInBounds_toArray, List.set_cons_zero, List.set_cons_succ]
        refine wpQ_val (v := ?_) (by rfl) ?_ ?_
        rotate_left
        · (intro w hSw; (try dsimp only at hSw); have hcc := HC.out w hSw; obtain ⟨hc1, hc2, hc3, hc4⟩ := hcc; go_simp <;> (try with_reducible rfl))
        try simp only [Act.put, List.setIfInBounds_toArray, List.set_cons_zero, List.set_cons_succ]
        refine wpQ_val (v := ?_) (by rfl) ?_ ?_
        rotate_left
        · (intro w hSw; (try dsimp only at hSw); have hcc := HC.out w hSw; obtain ⟨hc1, hc2, hc3, hc4⟩ := hcc; go_simp <;> (try with_reducible rfl))
        try simp only [Act.put, List.setIfInBounds_toArray, List.set_cons_zero, List.set_cons_succ]
        refine wpQ_val (v := ?_) (by rfl) ?_ ?_
        rotate_left
        · (intro w hSw; (try dsimp only at hSw); have hcc := HC.out w hSw; obtain ⟨hc1, hc2, hc3, hc4⟩ := hcc; go_simp <;> (try with_reducible rfl))
        try simp only [Act.put, List.setIfInBounds_toArray, List.set_cons_zero, List.set_cons_succ]
        refine wpQ_val (v := ?_) (by rfl) ?_ ?_
        rotate_left
        · (intro w hSw; (try dsimp only at hSw); have hcc := HC.out w hSw; obtain ⟨hc1, hc2, hc3, hc4⟩ := hcc; go_simp <;> (try with_reducible rfl))
        try simp only [Act.put, List.setIfInBounds_toArray, List.set_cons_zero, List.set_cons_succ]
        refine wpQ_val (v := ?_) (by rfl) ?_ ?_
        rotate_left
        · (intro w hSw; (try dsimp only at hSw); have hcc := HC.out w hSw; obtain ⟨hc1, hc2, hc3, hc4⟩ := hcc; go_simp <;> (try with_reducible rfl))
        try simp only [Act.put, List.setIfInBounds_toArray, List.set_cons_zero, List.set_cons_succ]
        refine wpQ_val (v := ?_) (by rfl) ?_ ?_
        rotate_left
        · (intro w hSw; (try dsimp only at hSw); have hcc := HC.out w hSw; obtain ⟨hc1, hc2, hc3, hc4⟩ := hcc; go_simp <;> (try with_reducible rfl))
        try simp only [Act.put, List.setIfInBounds_toArray, List.set_cons_zero, List.set_cons_succ]
        refine wpQ_val (v := ?_) (by rfl) ?_ ?_
        rotate_left
        · (intro w hSw; (try dsimp only at hSw); have hcc := HC.out w hSw; obtain ⟨hc1, hc2, hc3, hc4⟩ := hcc; go_simp <;> (try with_reducible rfl))
        try simp only [Act.put, List.setIfInBounds_toArray, List.set_cons_zero, List.set_cons_succ]
        refine wpQ_val (v := ?_) (by rfl) ?_ ?_
        rotate_left
        · (intro w hSw; (try dsimp only at hSw); have hcc := HC.out w hSw; obtain ⟨hc1, hc2, hc3, hc4⟩ := hcc; go_simp <;> (try with_reducible rfl))
        try simp only [Act.put, List.setIfInBounds_toArray, List.set_cons_zero, List.set_cons_succ]
        refine wpQ_call (v := cI q) (f := 37) (args := #[.pointer (some ⟨b, 0, none⟩), .int .i64 a]) (by rfl) ?_ ?_ ?_
        · (intro w; go_simp <;> (try with_reducible rfl))
        · (intro w hSw; exact HLv.out w hSw)
        try simp only [Act.put, List.setIfInBounds_toArray, List.set_cons_zero, List.set_cons_succ]
        refine wpQ_val (v := ?_) (by rfl) ?_ ?_
        rotate_left
        · (intro w hSw; (try dsimp only at hSw); have hcc := HC.out w hSw; obtain ⟨hc1, hc2, hc3, hc4⟩ := hcc; go_simp <;> (try with_reducible rfl))
        try simp only [Act.put, List.setIfInBounds_toArray, List.set_cons_zero, List.set_cons_succ]
        refine wpQ_val (v := ?_) (by rfl) ?_ ?_
        rotate_left
        · (intro w hSw; (try dsimp only at hSw); have hcc := HC.out w hSw; obtain ⟨hc1, hc2, hc3, hc4⟩ := hcc; go_simp <;> (try with_reducible rfl))
        try simp only [Act.put, List.setIfInBounds_toArray, List.set_cons_zero, List.set_cons_succ]
        refine wpQ_val (v := ?_) (by rfl) ?_ ?_
        rotate_left
        · (intro w hSw; (try dsimp only at hSw); have hcc := HC.out w hSw; obtain ⟨hc1, hc2, hc3, hc4⟩ := hcc; go_simp <;> (try with_reducible rfl))
        try simp only [Act.put, List.setIfInBounds_toArray, List.set_cons_zero, List.set_cons_succ]
        refine wpQ_val (v := ?_) (by rfl) ?_ ?_
        rotate_left
        · (intro w hSw; (try dsimp only at hSw); have hcc := HC.out w hSw; obtain ⟨hc1, hc2, hc3, hc4⟩ := hcc; go_simp <;> (try with_reducible rfl))
        try simp only [Act.put, List.setIfInBounds_toArray, List.set_cons_zero, List.set_cons_succ]
        refine wpQ_val (v := ?_) (by rfl) ?_ ?_
        rotate_left
        · (intro w hSw; (try dsimp only at hSw); have hcc := HC.out w hSw; obtain ⟨hc1, hc2, hc3, hc4⟩ := hcc; go_simp <;> (try with_reducible rfl))
        try simp only [Act.put, List.setIfInBounds_toArray, List.set_cons_zero, List.set_cons_succ]
        refine wpQ_val (v := ?_) (by rfl) ?_ ?_
        rotate_left
        · (intro w hSw; (try dsimp only at hSw); have hcc := HC.out w hSw; obtain ⟨hc1, hc2, hc3, hc4⟩ := hcc; go_simp <;> (try with_reducible rfl))
        try simp only [Act.put, List.setIfInBounds_toArray, List.set_cons_zero, List.set_cons_succ]
        refine wpQuiet_nil ?_
        intro w2 O2
        have hS2 := HS1.out.only0 O2
        have hO2 : Only (StF bs bi bm) w1 w2 := HOn.out.same (O2.mono fun _ f => f.elim)
        have qx2 := cell_keep HX0.out O2 (fun f => f)
        have HS2 := Lib.hid hS2
        have HO2 := Lib.hid hO2
        have HX2 := Lib.hid qx2
        clear hS2 hO2 qx2 o0 O2
        by_cases hqt : q = top
        · have dt : (q != top) = false := by subst hqt; simp
          have hng : ¬ (s1.f (Cnf.absW x) = 0 ∨ T.lvl (Cnf.absW x) ≠ top) := by
            rw [HA.out, HQ.out, HY.out]; rintro (h | h); exact hf0 h; exact h hqt
          have HNg := Lib.hid hng
          have c3 := HS2.out.c3
          clear hng
          by_cases hm1 : s1.many = 1
          · skip
            rw [hm1] at c3
            have c2 := HS2.out.c2
            have hlk := HS2.out.in_.look hai
            rw [HY.out] at hlk
            have hfin : GoTo w bs bi bm b top (T.goes top s T.lits.reverse) (.returned (.tuple #[.int .i64 y, .bool true])) w2 := by
              rw [HSn.out, goes_one HNg.out hm1, HA.out, HY.out]
              exact ⟨rfl, HS2.out, (HO1.out.mono fun _ f => f.elim).same HO2.out⟩
            have HFin := Lib.hid hfin
            clear hfin
            go_wp2_with fail
            go_ret2
            exact HFin.out
            
          · have dm : (s1.many == 1) = false := by rw [beq_eq_false_iff_ne]; exact hm1
            have hk9 : ∀ W, Only (fun _ => False) w2 W → W.cell? ⟨bs, 0, none⟩ = some (.pointer (some ⟨b, 0, none⟩)) ∧ W.cell? ⟨bl, ol + k, none⟩ = some (cI x) := fun W oW => ⟨(HS2.out.only0 oW).c0, cell_keep HX2.out oW (fun f => f)⟩
            have HK9 := Lib.hid hk9
            have hS9 := hk9 w2.drew ((Only.refl _ _).drew)
            clear hk9
            cases hrn : T.reasonL x with
            | none =>
              skip
              have HRn := Lib.hid hrn
              have hrea : ∀ W, Only (fun _ => False) w2 W → Calls Try.prog 49 #[.pointer (some ⟨b, 0, none⟩), .int .i64 x] W fun e w' => e = .returned (.tuple #[nilS, .bool false]) ∧ Only (fun _ => False) w2 w' := fun W oW =>
                (reason_any ((H1.out.off hf HO2.out).only0 oW) HOk.out x HX.out).mono fun e w' hq => by
                  rw [HRn.out] at hq
                  exact ⟨hq.1, oW.same hq.2⟩
              have HRea := Lib.hid hrea
              clear hrea hrn
              go_wp2_with fail
              refine wp_region_G (n := 14) (E := fun i => i == 8) (S := fun w' => w'.cell? ⟨bs, 0, none⟩ = some (.pointer (some ⟨b, 0, none⟩)) ∧ w'.cell? ⟨bl, ol + k, none⟩ = some (cI x)) (by kernel_rfl) rfl hS9 (fun hHeld => ?_)
              refine wpAnyG_takeW (i := 0) (v := ?_) rfl (by kernel_rfl) (by kernel_rfl) (by kernel_rfl) rfl (fun _ _ _ h => h) (Or.inr (by assumption)) (by rfl) ?_ ?_
              rotate_left
              · (intro w; go_simp <;> (try with_reducible rfl))
              try simp only [Act.put, List.getElem_toArray, List.getElem_cons_zero, List.setIfInBounds_toArray, List.set_cons_zero, List.set_cons_succ]
              refine wpAnyG_takeW (i := 1) (v := ?_) rfl (by kernel_rfl) (by kernel_rfl) (by kernel_rfl) rfl (fun _ _ _ h => h) (Or.inr (by assumption)) (by rfl) ?_ ?_
              rotate_left
              · (intro w; go_simp <;> (try with_reducible rfl))
              try simp only [Act.put, List.getElem_toArray, List.getElem_cons_succ, List.getElem_cons_zero, List.setIfInBounds_toArray, List.set_cons_zero, List.set_cons_succ]
              refine wpAnyG_takeW (i := 2) (v := ?_) rfl (by kernel_rfl) (by kernel_rfl) (by kernel_rfl) rfl (fun _ _ _ h => h) (Or.inr (by assumption)) (by rfl) ?_ ?_
              rotate_left
              · (intro w; go_simp <;> (try with_reducible rfl))
              try simp only [Act.put, List.getElem_toArray, List.getElem_cons_succ, List.getElem_cons_zero, List.setIfInBounds_toArray, List.set_cons_zero, List.set_cons_succ]
              refine wpAnyG_take (i := 3) (v := ?_) rfl (by kernel_rfl) (by kernel_rfl) (by kernel_rfl) rfl (by kernel_rfl) (by kernel_rfl) (fun _ _ _ h => h) (by assumption) (by rfl) ?_ ?_
              rotate_left
              · (intro w hSw; (try dsimp only at hSw); go_simp <;> (try with_reducible rfl))
              try simp only [Act.put, List.getElem_toArray, List.getElem_cons_succ, List.getElem_cons_zero, List.setIfInBounds_toArray, List.set_cons_zero, List.set_cons_succ]
              refine wpAnyG_takeW (i := 4) (v := ?_) rfl (by kernel_rfl) (by kernel_rfl) (by kernel_rfl) rfl (fun _ _ _ h => h) (Or.inr (by assumption)) (by rfl) ?_ ?_
              rotate_left
              · (intro w; go_simp <;> (try with_reducible rfl))
              try simp only [Act.put, List.getElem_toArray, List.getElem_cons_succ, List.getElem_cons_zero, List.setIfInBounds_toArray, List.set_cons_zero, List.set_cons_succ]
              refine wpAnyG_takeW (i := 5) (v := ?_) rfl (by kernel_rfl) (by kernel_rfl) (by kernel_rfl) rfl (fun _ _ _ h => h) (Or.inr (by assumption)) (by rfl) ?_ ?_
              rotate_left
              · (intro w; go_simp <;> (try with_reducible rfl))
              try simp only [Act.put, List.getElem_toArray, List.getElem_cons_succ, List.getElem_cons_zero, List.setIfInBounds_toArray, List.set_cons_zero, List.set_cons_succ]
              refine wpAnyG_takeW (i := 6) (v := ?_) rfl (by kernel_rfl) (by kernel_rfl) (by kernel_rfl) rfl (fun _ _ _ h => h) (Or.inr (by assumption)) (by rfl) ?_ ?_
              rotate_left
              · (intro w; go_simp <;> (try with_reducible rfl))
              try simp only [Act.put, List.getElem_toArray, List.getElem_cons_succ, List.getElem_cons_zero, List.setIfInBounds_toArray, List.set_cons_zero, List.set_cons_succ]
              refine wpAnyG_take (i := 7) (v := ?_) rfl (by kernel_rfl) (by kernel_rfl) (by kernel_rfl) rfl (by kernel_rfl) (by kernel_rfl) (fun _ _ _ h => h) (by assumption) (by rfl) ?_ ?_
              rotate_left
              · (intro w hSw; (try dsimp only at hSw); go_simp <;> (try with_reducible rfl))
              try simp only [Act.put, List.getElem_toArray, List.getElem_cons_succ, List.getElem_cons_zero, List.setIfInBounds_toArray, List.set_cons_zero, List.set_cons_succ]
              refine wpAnyG_ready (rs := [8]) (by kernel_rfl) (by simp) ?_
              refine AllReadyG.cons (i := 8) rfl (fun K hK => ?_) ?_
              · (go_simp; refine (HRea.out _ (by repeat (first | exact Only.refl _ _ | apply Only.drew | apply Only.alloc | apply Only.drewN))).mono ?_; rintro e w5 ⟨rfl, o5⟩; try go_wp2_with fail)
                refine hK.out _ _ ?_ (fun hHeld => ?_)
                · (try dsimp only) <;> (exact HK9.out _ o5)
                clear hK K
                try simp only [Act.put, List.getElem_toArray, List.getElem_cons_succ, List.getElem_cons_zero, List.setIfInBounds_toArray, List.set_cons_zero, List.set_cons_succ]
                refine wpAnyG_takeW (i := 9) (v := ?_) rfl (by kernel_rfl) (by kernel_rfl) (by kernel_rfl) rfl (fun _ _ _ h => h) (Or.inr (by assumption)) (by rfl) ?_ ?_
                rotate_left
                · (intro w; go_simp <;> (try with_reducible rfl))
                try simp only [Act.put, List.getElem_toArray, List.getElem_cons_succ, List.getElem_cons_zero, List.setIfInBounds_toArray, List.set_cons_zero, List.set_cons_succ]
                refine wpAnyG_takeW (i := 10) (v := ?_) rfl (by kernel_rfl) (by kernel_rfl) (by kernel_rfl) rfl (fun _ _ _ h => h) (Or.inr (by assumption)) (by rfl) ?_ ?_
                rotate_left
                · (intro w; go_simp <;> (try with_reducible rfl))
                try simp only [Act.put, List.getElem_toArray, List.getElem_cons_succ, List.getElem_cons_zero, List.setIfInBounds_toArray, List.set_cons_zero, List.set_cons_succ]
                refine wpAnyG_takeW (i := 11) (v := ?_) rfl (by kernel_rfl) (by kernel_rfl) (by kernel_rfl) rfl (fun _ _ _ h => h) (Or.inr (by assumption)) (by rfl) ?_ ?_
                rotate_left
                · (intro w; go_simp <;> (try with_reducible rfl))
                try simp only [Act.put, List.getElem_toArray, List.getElem_cons_succ, List.getElem_cons_zero, List.setIfInBounds_toArray, List.set_cons_zero, List.set_cons_succ]
                refine wpAnyG_takeW (i := 12) (v := ?_) rfl (by kernel_rfl) (by kernel_rfl) (by kernel_rfl) rfl (fun _ _ _ h => h) (Or.inr (by assumption)) (by rfl) ?_ ?_
                rotate_left
                · (intro w; go_simp <;> (try with_reducible rfl))
                try simp only [Act.put, List.getElem_toArray, List.getElem_cons_succ, List.getElem_cons_zero, List.setIfInBounds_toArray, List.set_cons_zero, List.set_cons_succ]
                refine wpAnyG_takeW (i := 13) (v := ?_) rfl (by kernel_rfl) (by kernel_rfl) (by kernel_rfl) rfl (fun _ _ _ h => h) (Or.inr (by assumption)) (by rfl) ?_ ?_
                rotate_left
                · (intro w; go_simp <;> (try with_reducible rfl))
                try simp only [Act.put, List.getElem_toArray, List.getElem_cons_succ, List.getElem_cons_zero, List.setIfInBounds_toArray, List.set_cons_zero, List.set_cons_succ]
                refine wpAnyG_done (by kernel_rfl) ?_ _
                have hfin : GoTo w bs bi bm b top (T.goes top s T.lits.reverse) (.returned (.tuple #[.int .i64 0, .bool false])) w5 := by
                  rw [HSn.out, goes_none HNg.out hm1 HRn.out]
                  exact ⟨rfl, HS2.out.only0 o5, (HO1.out.mono fun _ f => f.elim).same (HO2.out.same (o5.mono fun _ f => f.elim))⟩
                have HFin := Lib.hid hfin
                clear hfin o5
                go_wp2_with fail
                go_ret2
                exact HFin.out
              exact AllReadyG.nil
              
            | some l =>
              skip
              have HRn := Lib.hid hrn
              have hrea : ∀ W, Only (fun _ => False) w2 W → Calls Try.prog 49 #[.pointer (some ⟨b, 0, none⟩), .int .i64 x] W fun e w' => ∃ ao cap, e = .returned (.tuple #[.slice ao l.length cap, .bool true]) ∧ w'.ownsRow 0 3 1 (.slice ao l.length cap) l.length (l.map cI) ∧ (∀ k, Value.ownBlock (.slice ao l.length cap) = some k → w2.heap.size ≤ k) ∧ Only (fun _ => False) w2 w' := fun W oW =>
                (reason_any ((H1.out.off hf HO2.out).only0 oW) HOk.out x HX.out).mono fun e w' hq => by
                  rw [HRn.out] at hq
                  obtain ⟨ao, cap, h1, h2, h3, h4⟩ := hq
                  exact ⟨ao, cap, h1, h2, fun k hk => by have := h3 k hk; have := oW.size; omega, oW.same h4⟩
              have HRea := Lib.hid hrea
              clear hrea hrn
              go_wp2_with fail
              refine wp_region_G (n := 14) (E := fun i => i == 8) (S := fun w' => w'.cell? ⟨bs, 0, none⟩ = some (.pointer (some ⟨b, 0, none⟩)) ∧ w'.cell? ⟨bl, ol + k, none⟩ = some (cI x)) (by kernel_rfl) rfl hS9 (fun hHeld => ?_)
              refine wpAnyG_takeW (i := 0) (v := ?_) rfl (by kernel_rfl) (by kernel_rfl) (by kernel_rfl) rfl (fun _ _ _ h => h) (Or.inr (by assumption)) (by rfl) ?_ ?_
              rotate_left
              · (intro w; go_simp <;> (try with_reducible rfl))
              try simp only [Act.put, List.getElem_toArray, List.getElem_cons_zero, List.setIfInBounds_toArray, List.set_cons_zero, List.set_cons_succ]
              refine wpAnyG_takeW (i := 1) (v := ?_) rfl (by kernel_rfl) (by kernel_rfl) (by kernel_rfl) rfl (fun _ _ _ h => h) (Or.inr (by assumption)) (by rfl) ?_ ?_
              rotate_left
              · (intro w; go_simp <;> (try with_reducible rfl))
              try simp only [Act.put, List.getElem_toArray, List.getElem_cons_succ, List.getElem_cons_zero, List.setIfInBounds_toArray, List.set_cons_zero, List.set_cons_succ]
              refine wpAnyG_takeW (i := 2) (v := ?_) rfl (by kernel_rfl) (by kernel_rfl) (by kernel_rfl) rfl (fun _ _ _ h => h) (Or.inr (by assumption)) (by rfl) ?_ ?_
              rotate_left
              · (intro w; go_simp <;> (try with_reducible rfl))
              try simp only [Act.put, List.getElem_toArray, List.getElem_cons_succ, List.getElem_cons_zero, List.setIfInBounds_toArray, List.set_cons_zero, List.set_cons_succ]
              refine wpAnyG_take (i := 3) (v := ?_) rfl (by kernel_rfl) (by kernel_rfl) (by kernel_rfl) rfl (by kernel_rfl) (by kernel_rfl) (fun _ _ _ h => h) (by assumption) (by rfl) ?_ ?_
              rotate_left
              · (intro w hSw; (try dsimp only at hSw); go_simp <;> (try with_reducible rfl))
              try simp only [Act.put, List.getElem_toArray, List.getElem_cons_succ, List.getElem_cons_zero, List.setIfInBounds_toArray, List.set_cons_zero, List.set_cons_succ]
              refine wpAnyG_takeW (i := 4) (v := ?_) rfl (by kernel_rfl) (by kernel_rfl) (by kernel_rfl) rfl (fun _ _ _ h => h) (Or.inr (by assumption)) (by rfl) ?_ ?_
              rotate_left
              · (intro w; go_simp <;> (try with_reducible rfl))
              try simp only [Act.put, List.getElem_toArray, List.getElem_cons_succ, List.getElem_cons_zero, List.setIfInBounds_toArray, List.set_cons_zero, List.set_cons_succ]
              refine wpAnyG_takeW (i := 5) (v := ?_) rfl (by kernel_rfl) (by kernel_rfl) (by kernel_rfl) rfl (fun _ _ _ h => h) (Or.inr (by assumption)) (by rfl) ?_ ?_
              rotate_left
              · (intro w; go_simp <;> (try with_reducible rfl))
              try simp only [Act.put, List.getElem_toArray, List.getElem_cons_succ, List.getElem_cons_zero, List.setIfInBounds_toArray, List.set_cons_zero, List.set_cons_succ]
              refine wpAnyG_takeW (i := 6) (v := ?_) rfl (by kernel_rfl) (by kernel_rfl) (by kernel_rfl) rfl (fun _ _ _ h => h) (Or.inr (by assumption)) (by rfl) ?_ ?_
              rotate_left
              · (intro w; go_simp <;> (try with_reducible rfl))
              try simp only [Act.put, List.getElem_toArray, List.getElem_cons_succ, List.getElem_cons_zero, List.setIfInBounds_toArray, List.set_cons_zero, List.set_cons_succ]
              refine wpAnyG_take (i := 7) (v := ?_) rfl (by kernel_rfl) (by kernel_rfl) (by kernel_rfl) rfl (by kernel_rfl) (by kernel_rfl) (fun _ _ _ h => h) (by assumption) (by rfl) ?_ ?_
              rotate_left
              · (intro w hSw; (try dsimp only at hSw); go_simp <;> (try with_reducible rfl))
              try simp only [Act.put, List.getElem_toArray, List.getElem_cons_succ, List.getElem_cons_zero, List.setIfInBounds_toArray, List.set_cons_zero, List.set_cons_succ]
              refine wpAnyG_ready (rs := [8]) (by kernel_rfl) (by simp) ?_
              refine AllReadyG.cons (i := 8) rfl (fun K hK => ?_) ?_
              · (go_simp; refine (HRea.out _ (by repeat (first | exact Only.refl _ _ | apply Only.drew | apply Only.alloc | apply Only.drewN))).mono ?_; rintro e w5 ⟨ao5, cap5, rfl, r5, n5, o5⟩; try go_wp2_with fail)
                refine hK.out _ _ ?_ (fun hHeld => ?_)
                · (try dsimp only) <;> (exact HK9.out _ o5)
                clear hK K
                try simp only [Act.put, List.getElem_toArray, List.getElem_cons_succ, List.getElem_cons_zero, List.setIfInBounds_toArray, List.set_cons_zero, List.set_cons_succ]
                refine wpAnyG_takeW (i := 9) (v := ?_) rfl (by kernel_rfl) (by kernel_rfl) (by kernel_rfl) rfl (fun _ _ _ h => h) (Or.inr (by assumption)) (by rfl) ?_ ?_
                rotate_left
                · (intro w; go_simp <;> (try with_reducible rfl))
                try simp only [Act.put, List.getElem_toArray, List.getElem_cons_succ, List.getElem_cons_zero, List.setIfInBounds_toArray, List.set_cons_zero, List.set_cons_succ]
                refine wpAnyG_takeW (i := 10) (v := ?_) rfl (by kernel_rfl) (by kernel_rfl) (by kernel_rfl) rfl (fun _ _ _ h => h) (Or.inr (by assumption)) (by rfl) ?_ ?_
                rotate_left
                · (intro w; go_simp <;> (try with_reducible rfl))
                try simp only [Act.put, List.getElem_toArray, List.getElem_cons_succ, List.getElem_cons_zero, List.setIfInBounds_toArray, List.set_cons_zero, List.set_cons_succ]
                refine wpAnyG_takeW (i := 11) (v := ?_) rfl (by kernel_rfl) (by kernel_rfl) (by kernel_rfl) rfl (fun _ _ _ h => h) (Or.inr (by assumption)) (by rfl) ?_ ?_
                rotate_left
                · (intro w; go_simp <;> (try with_reducible rfl))
                try simp only [Act.put, List.getElem_toArray, List.getElem_cons_succ, List.getElem_cons_zero, List.setIfInBounds_toArray, List.set_cons_zero, List.set_cons_succ]
                refine wpAnyG_takeW (i := 12) (v := ?_) rfl (by kernel_rfl) (by kernel_rfl) (by kernel_rfl) rfl (fun _ _ _ h => h) (Or.inr (by assumption)) (by rfl) ?_ ?_
                rotate_left
                · (intro w; go_simp <;> (try with_reducible rfl))
                try simp only [Act.put, List.getElem_toArray, List.getElem_cons_succ, List.getElem_cons_zero, List.setIfInBounds_toArray, List.set_cons_zero, List.set_cons_succ]
                refine wpAnyG_takeW (i := 13) (v := ?_) rfl (by kernel_rfl) (by kernel_rfl) (by kernel_rfl) rfl (fun _ _ _ h => h) (Or.inr (by assumption)) (by rfl) ?_ ?_
                rotate_left
                · (intro w; go_simp <;> (try with_reducible rfl))
                try simp only [Act.put, List.getElem_toArray, List.getElem_cons_succ, List.getElem_cons_zero, List.setIfInBounds_toArray, List.set_cons_zero, List.set_cons_succ]
                refine wpAnyG_done (by kernel_rfl) ?_ _
                have hS5 := HS2.out.only0 o5
                obtain ⟨w6, hdl, hS6, hO6⟩ := hS5.dropIn hai 0 w5 (Only.refl _ _)
                have hm7 := hS6.setMany (w64 (s1.many - 1))
                obtain ⟨hl1, hl2⟩ := reasonL_ok HOk.out HRn.out
                have hI5 : Ints w5 (.slice ao5 l.length cap5) l := Ints.of_own r5 fun y hy => by have := hl1 y hy; unfold InI64; omega
                have hN5 : 0 < l.length → ∀ k, Value.blk (.slice ao5 l.length cap5) = some k → ¬ StF bs bi bm k := fun _ k hk hs => by
                  have := n5 k (blk_ownI r5 hk)
                  have := HS2.out.lt hs
                  omega
                have hO7 := hO6.trans hm7.2 fun k hk => .inl hk
                have hO27 : Only (StF bs bi bm) w1 (w6.setCell ⟨bs, 3, none⟩ (cI (w64 (s1.many - 1)))) := HO2.out.trans ((o5.mono fun _ f => f.elim).same hO7) fun k hk => .inl hk
                have hke : ((s1.del a).ks).length ≤ s1.ks.length := by unfold Stu.del; rw [List.length_erase]; split <;> omega
                have htk := takes_any (H1.out.off hf hO27) HOk.out hf hm7.1 (hI5.only' hO7 hN5) hN5 (by omega) (by simp only; have := hke; unfold Stu.del at this; simp only at this; omega) (by simp only; omega)
                have hkg := (HKg.out.del a).takes hnn T top l hl1
                have hsn : T.goes top s T.lits.reverse = T.goes top (T.takes top (s1.del a) l) (T.lits.take k).reverse := by rw [HSn.out, goes_some HNg.out hm1 HRn.out, HA.out]
                have hz : ∀ W, StAt W bs bi bm b top (T.takes top { ks := s1.ks.erase a, f := upd s1.f a 0, ms := s1.ms, mf := s1.mf, many := w64 (s1.many - 1) } l) → Only (StF bs bi bm) (w6.setCell ⟨bs, 3, none⟩ (cI (w64 (s1.many - 1)))) W → ∃ (k' : Nat) (s3 : Stu), Value.int .i64 ((k : Int) - 1) = .int .i64 ((k' : Int) - 1) ∧ k' ≤ T.lits.length ∧ GoAt w1 bs bi bm b T top s k' s3 W := fun W h1 h2 => HTs.out W _ (hO27.trans h2 fun k hk => .inl hk) h1 hkg hsn
                have c0 := hS5.c0
                have c2 := hS5.c2
                have d3 := hS6.c3
                have f3 := hS6.free 3
                obtain ⟨m2, hm2⟩ : ∃ m2, w64 (s1.many - 1) = m2 := ⟨_, rfl⟩
                rw [hm2] at htk hz
                have HTk := Lib.hid htk
                have HZ := Lib.hid hz
                have hm3 : IntKind.i64.wrap (s1.many - 1) = m2 := hm2
                have hm4 : wrap64 (s1.many - 1) = m2 := by rw [← hm3, IntWalk.i64_left]
                clear hS5 hS6 hO6 hm7 hl1 hl2 hI5 hN5 hO7 hO27 hke htk hkg hsn hz hm2 o5 r5 n5
                go_wp2_with fail
                refine HTk.out.mono ?_
                rintro e w8 ⟨rfl, hS8, hO8⟩
                have hz8 := HZ.out w8 hS8 hO8
                have HZ8 := Lib.hid hz8
                clear hz8 hS8 hO8 hdl
                go_wp2_with fail
                go_roundw
                case rel => first | exact HZ8.out | (rw [ewk]; exact HZ8.out)
                case measure => simp [intOf] <;> omega
              exact AllReadyG.nil
              
        · skip
          have dt : (q != top) = true := by rw [bne_iff_ne]; exact hqt
          have hz := HTs.out w2 s1 HO2.out HS2.out HKg.out (by rw [HSn.out, goes_skip (.inr (by rw [HA.out, HQ.out]; exact hqt))])
          have HZ := Lib.hid hz
          clear hz
          go_wp2_with fail
          go_roundw
          case rel => first | exact HZ.out | (rw [ewk]; exact HZ.out)
          case measure => simp [intOf] <;> omega
          
end
end Go.Proofs.Ytjedgdamommgeaa
