/- Lrn5 Lrn6 Lrn7 Lrn8, in one text. -/
import Derived.Test.YtjedgdamommgeaaGreatLrnA
import Derived.Carry
set_option linter.unusedVariables false
namespace Go.Proofs.YtjedgdamommgeaaGreat
open Go.RowKit
open Tr
namespace Tr
structure Kg (n : Nat) (s : Stu) : Prop where
 ks : ∀ x ∈ s.ks, 1 ≤ x ∧ x ≤ (n : Int)
 ms : ∀ x ∈ s.ms, 1 ≤ x ∧ x ≤ (n : Int)
theorem keys_len {n : Nat} {ks : List Int} (h : ∀ x ∈ ks, 1 ≤ x ∧ x ≤ (n : Int)) (hd : ks.Nodup) : ks.length ≤ n := by
 have hg : Up.Good n ks := ⟨fun x hx => by have := h x hx; omega, by
  unfold List.Nodup at hd ⊢
  rw [List.pairwise_map]
  exact hd.imp_of_mem fun {x y} hx hy hne => by have := h x hx; have := h y hy; omega⟩
 exact hg.len
theorem absW_lit {n : Nat} {x : Int} (hx : x ≠ 0 ∧ x.natAbs ≤ n) (hn : n ≤ 65536) : Cnf.absW x = (x.natAbs : Int) :=
 (lit_of hx.1 (by omega)).abs
theorem Kg.take1 {n : Nat} (hn : n ≤ 65536) {s : Stu} (h : Kg n s) (T : Trail) (top : Int) {x : Int} (hx : x ≠ 0 ∧ x.natAbs ≤ n) : Kg n (T.take1 top s x) := by
 have ha := absW_lit hx hn
 unfold Trail.take1
 split
 ·exact h
 ·constructor <;> intro y hy <;> rcases mem_addK.1 hy with h1 | rfl
  ·exact h.ks y h1
  ·omega
  ·exact h.ms y h1
  ·omega
theorem Kg.takes {n : Nat} (hn : n ≤ 65536) (T : Trail) (top : Int) : ∀ (l : List Int) {s : Stu}, Kg n s → (∀ x ∈ l, x ≠ 0 ∧ x.natAbs ≤ n) → Kg n (T.takes top s l)
 | [], _, h, _ => h
 | x :: l, _, h, hl => Kg.takes hn T top l (h.take1 hn T top (hl x (by simp))) fun y hy => hl y (by simp [hy])
theorem Kg.del {n : Nat} {s : Stu} (h : Kg n s) (a : Int) : Kg n (s.del a) := ⟨fun x hx => h.ks x (List.mem_of_mem_erase hx), h.ms⟩
theorem clauseL_ok {T : Trail} (o : Ok T) {k : Int} {c : List Int} (h : T.clauseL k = some c) : (∀ y ∈ c, y ≠ 0 ∧ y.natAbs ≤ T.n) ∧ c.length ≤ 65536 := by
 unfold Trail.clauseL at h
 split at h
 ·rename_i hth
  obtain rfl := Option.some.inj h
  unfold Trail.there at hth
  simp only [Bool.and_eq_true, decide_eq_true_eq] at hth
  have hg := o.cl (k := k.toNat) (by omega)
  have hn := o.n
  have := hg.len
  have := formL_len (T.cl k.toNat)
  exact ⟨fun x hx => hg.lit x ((Cnf.mem_formL _ x).1 hx), by omega⟩
 ·cases h
theorem reasonL_ok {T : Trail} (o : Ok T) {x : Int} {l : List Int} (h : T.reasonL x = some l) : (∀ y ∈ l, y ≠ 0 ∧ y.natAbs ≤ T.n) ∧ l.length ≤ 65536 := by
 unfold Trail.reasonL at h
 split at h
 ·cases h
 ·cases hc : T.clauseL (T.why x) with
  | none => rw [hc] at h; cases h
  | some c =>
   rw [hc] at h
   obtain rfl := Option.some.inj h
   obtain ⟨h1, h2⟩ := clauseL_ok o hc
   exact ⟨fun y hy => h1 y (List.mem_filter.1 hy).1, Nat.le_trans (List.length_filter_le _ _) h2⟩
theorem goes_snoc (T : Trail) (top : Int) (s : Stu) {l : List Int} {k : Nat} (hk : k < l.length) : T.goes top s (l.take (k + 1)).reverse = T.goes top s (l.getD k 0 :: (l.take k).reverse) := by
 rw [take_snocI l k hk, List.reverse_append]; rfl
theorem goes_skip {T : Trail} {top : Int} {s : Stu} {x : Int} {r : List Int} (h : s.f (Cnf.absW x) = 0 ∨ T.lvl (Cnf.absW x) ≠ top) : T.goes top s (x :: r) = T.goes top s r := by
 rw [Trail.goes, if_pos h]
theorem goes_one {T : Trail} {top : Int} {s : Stu} {x : Int} {r : List Int} (h : ¬ (s.f (Cnf.absW x) = 0 ∨ T.lvl (Cnf.absW x) ≠ top)) (h1 : s.many = 1) : T.goes top s (x :: r) = (s, some (s.f (Cnf.absW x))) := by
 rw [Trail.goes, if_neg h, if_pos h1]
theorem goes_none {T : Trail} {top : Int} {s : Stu} {x : Int} {r : List Int} (h : ¬ (s.f (Cnf.absW x) = 0 ∨ T.lvl (Cnf.absW x) ≠ top)) (h1 : s.many ≠ 1) (h2 : T.reasonL x = none) : T.goes top s (x :: r) = (s, none) := by
 rw [Trail.goes, if_neg h, if_neg h1, h2]
theorem goes_some {T : Trail} {top : Int} {s : Stu} {x : Int} {r l : List Int} (h : ¬ (s.f (Cnf.absW x) = 0 ∨ T.lvl (Cnf.absW x) ≠ top)) (h1 : s.many ≠ 1) (h2 : T.reasonL x = some l) : T.goes top s (x :: r) = T.goes top (T.takes top (s.del (Cnf.absW x)) l) r := by
 rw [Trail.goes, if_neg h, if_neg h1, h2]
end Tr
section
variable {w : World} {g : Tag} {b : Nat} {V : TrV} {T : Trail} {bs bi bm : Nat} {top : Int} {s : Stu}
theorem blk_ownI {v : Value} {n : Nat} {xs : List Value} (h : w.ownsRow 0 3 1 v n xs) {k : Nat} (hk : Value.blk v = some k) : v.ownBlock = some k := by
 rcases h.2 with ⟨h', _⟩ | ⟨g', cap', cur, h', _⟩
 ·rw [h'] at hk; simp [Value.blk] at hk
 ·rw [h'] at hk ⊢; simpa [Value.blk, Value.ownBlock] using hk
def GoTo (w : World) (bs bi bm b : Nat) (top : Int) (r : Stu × Option Int) (e : Ending) (w' : World) : Prop :=
 e = .returned (.tuple #[.int .i64 (r.2.getD 0), .bool r.2.isSome]) ∧ StAt w' bs bi bm b top r.1 ∧ Only (StF bs bi bm) w w'
structure GoAt (w1 : World) (bs bi bm b : Nat) (T : Trail) (top : Int) (s : Stu) (k : Nat) (s1 : Stu) (wr : World) : Prop where
 st : StAt wr bs bi bm b top s1
 on : Only (StF bs bi bm) w1 wr
 eq : T.goes top s T.lits.reverse = T.goes top s1 (T.lits.take k).reverse
 kg : Kg T.n s1
theorem StAt.lt (h : StAt w bs bi bm b top s) {k : Nat} (hk : StF bs bi bm k) : k < w.heap.size := by
 rcases hk with rfl | rfl | rfl
 ·have h1 := h.blk
  by_cases hb : k < w.heap.size
  ·exact hb
  ·rw [Array.getElem?_eq_none (by omega)] at h1; cases h1
 ·exact h.in_.lt
 ·exact h.met.lt
set_option maxRecDepth 100000 in
set_option maxHeartbeats 3200000 in
theorem goes_any (H : TrAt w g b V T) (o : Ok T) (hf : Off g bs bi bm) (hS : StAt w bs bi bm b top s) (hkg : Kg T.n s) :
  Calls Tryz.prog 120 #[.pointer (some ⟨bs, 0, none⟩)] w (GoTo w bs bi bm b top (T.goes top s T.lits.reverse)) := by
 have hli := prop_List_any H o
 have HLi := Lib.hid hli
 have HSt := Lib.hid hS
 have HH := Lib.hid H
 have HOk := Lib.hid o
 have HKg := Lib.hid hkg
 have hgo := o.good
 have HGo := Lib.hid hgo
 have hnn := o.n
 have hlen := hgo.len
 have c0 := hS.c0
 clear hli H o hS hkg hgo
 go_enter Tryz.func120, Tryz.ntmps120
 go_wp2_with fail
 refine HLi.out.mono ?_
 rintro e w1 ⟨v, rfl, R1, N1, O1⟩
 have hI : Ints w1 v T.lits := Ints.of_own R1 fun x hx => by have := HGo.out.lit x hx; unfold InI64; omega
 have hN : ∀ k, Value.blk v = some k → ¬ StF bs bi bm k := fun k hk hs => by
  have := N1 k (blk_ownI R1 hk)
  have := HSt.out.lt hs
  omega
 have H1 : Hid (TrAt w1 g b V T) := Lib.hid (HH.out.only0 O1)
 have hst : GoAt w1 bs bi bm b T top s T.lits.length s w1 := ⟨HSt.out.only0 O1, Only.refl _ _, by rw [List.take_of_length_le (Nat.le_refl _)], HKg.out⟩
 have HO1 := Lib.hid O1
 have HGt := Lib.hid hst
 have HI := Lib.hid hI
 have HN := Lib.hid hN
 obtain ⟨ai, ci, rfl, -, -⟩ := hI.shape
 have ewl : IntKind.i64.wrap ((T.lits.length : Int) - 1) = (T.lits.length : Int) - 1 := by rw [IntWalk.i64_in _ (by omega)]
 clear R1 N1 O1 hI hN hst HSt HH HKg c0 HLi
 go_wp2_with fail
 go_loopw [5] (fun v wr => ∃ (k : Nat) (s1 : Stu), v = .int .i64 ((k : Int) - 1) ∧ k ≤ T.lits.length ∧ GoAt w1 bs bi bm b T top s k s1 wr) (fun v _ => (intOf v + 1).toNat)
 case atStart => exact ⟨T.lits.length, s, by first | rfl | go_num, Nat.le_refl _, HGt.out⟩
 case round =>
  clear HGt
  obtain ⟨k0, s1, hv, hk, hG⟩ := hrel
  have HG := Lib.hid hG
  clear hG
  cases k0 with
  | zero =>
   skip
   rw [show (((0 : Nat) : Int) - 1) = -1 by rfl] at hv
   subst hv
   have hfin : GoTo w bs bi bm b top (T.goes top s T.lits.reverse) (.returned (.tuple #[.int .i64 0, .bool false])) wr := by
    rw [HG.out.eq]
    exact ⟨rfl, HG.out.st, (HO1.out.mono fun _ f => f.elim).same HG.out.on⟩
   have HFin := Lib.hid hfin
   clear hfin HG
   go_wp2_with fail
   go_ret2
   exact HFin.out
  | succ k =>
   rw [show (((k + 1 : Nat) : Int) - 1) = (k : Int) by omega] at hv
   subst hv
   have ck : k < T.lits.length := by omega
   have dk : decide (0 ≤ (k : Int)) = true := decide_eq_true (by omega)
   have ewk : IntKind.i64.wrap ((k : Int) - 1) = (k : Int) - 1 := by rw [IntWalk.i64_in _ (by omega)]
   have hIw := HI.out.only' HG.out.on (fun _ k hk => HN.out k hk)
   obtain ⟨bl, ol, rfl, _, hcs⟩ := hIw.cells _ _ _ rfl (by omega)
   have qx := hcs k ck
   have hx := HI.out.range' k
   have hxl := HGo.out.lit (T.lits.getD k 0) (by rw [List.getD_eq_getElem?_getD, List.getElem?_eq_getElem ck]; exact List.getElem_mem ck)
   have hsn := HG.out.eq
   rw [goes_snoc T top s1 ck] at hsn
   have hks := keys_len HG.out.kg.ks HG.out.st.in_.nd
   have hms := keys_len HG.out.kg.ms HG.out.st.met.nd
   obtain ⟨x, hxe⟩ : ∃ x, T.lits.getD k 0 = x := ⟨_, rfl⟩
   rw [hxe] at qx hx hsn hxl
   obtain ⟨a, ha⟩ : ∃ a, Cnf.absW x = a := ⟨_, rfl⟩
   obtain ⟨q, hq⟩ : ∃ q, T.lvl a = q := ⟨_, rfl⟩
   have hai : InI64 a := by rw [← ha]; exact absW_in hx
   have hab := fun W : World => learn_abs_any (w := W) x a ha
   have HAb := Lib.hid hab
   have HSn := Lib.hid hsn
   have HA := Lib.hid ha
   have HQ := Lib.hid hq
   have HS1 := Lib.hid HG.out.st
   have HOn := Lib.hid HG.out.on
   have HKg := Lib.hid HG.out.kg
   have HX := Lib.hid hx
   have c0 := HS1.out.c0
   have c1 := HS1.out.c1
   have c2 := HS1.out.c2
   have hts : ∀ W s2, Only (StF bs bi bm) w1 W → StAt W bs bi bm b top s2 → Kg T.n s2 → T.goes top s T.lits.reverse = T.goes top s2 (T.lits.take k).reverse → ∃ (k' : Nat) (s3 : Stu), Value.int .i64 ((k : Int) - 1) = .int .i64 ((k' : Int) - 1) ∧ k' ≤ T.lits.length ∧ GoAt w1 bs bi bm b T top s k' s3 W := fun W s2 h1 h2 h3 h4 => ⟨k, s2, rfl, by omega, h2, h1, h4, h3⟩
   have HTs := Lib.hid hts
   clear hcs hxe hab hsn ha hq hIw HG hx hts
   go_wp2_with fail
   refine (HAb.out _).mono ?_
   rintro e w' ⟨rfl, rfl⟩
   by_cases hf0 : s1.f a = 0
   ·skip
    have hlook : ∀ n, (Instr.lookup 138 (.map (some bi)) (cI a) false).run Tryz.prog (wr.drewN n) = .ok (cI 0) (wr.drewN n) := fun n => by
     have := (HS1.out.only0 ((Only.refl _ _).drewN n)).in_.look hai
     rw [hf0] at this; exact this
    have hz := fun n => HTs.out (wr.drewN n) s1 (HOn.out.same ((Only.refl _ _).drewN n)) (HS1.out.only0 ((Only.refl _ _).drewN n)) HKg.out (by rw [HSn.out, goes_skip (.inl (by rw [HA.out]; exact hf0))])
    have HZ := Lib.hid hz
    clear hz hf0
    go_wp2_with fail
    go_quiet (fail)
    clear hlook
    go_wp2_with fail
    go_roundw
    case rel => first | exact HZ.out _ | (rw [ewk]; exact HZ.out _)
    case measure => simp [intOf] <;> omega
   ·have hC : ∀ W, Only (fun _ => False) wr W → W.cell? ⟨bs, 0, none⟩ = some (.pointer (some ⟨b, 0, none⟩)) ∧ W.cell? ⟨bs, 1, none⟩ = some (cI top) ∧ W.cell? ⟨bs, 2, none⟩ = some (.map (some bi)) ∧ (Instr.lookup 138 (.map (some bi)) (cI a) false).run Tryz.prog W = .ok (cI (s1.f a)) W := fun W oW => ⟨(HS1.out.only0 oW).c0, (HS1.out.only0 oW).c1, (HS1.out.only0 oW).c2, (HS1.out.only0 oW).in_.look hai⟩
    have HC := Lib.hid hC
    have hlv : ∀ W, Only (fun _ => False) wr W → Calls Tryz.prog 115 #[.pointer (some ⟨b, 0, none⟩), .int .i64 a] W fun e w' => e = .returned (.int .i64 q) ∧ Only (fun _ => False) wr w' := fun W oW =>
     (learn_level_any ((H1.out.off hf HOn.out).only0 oW) HOk.out a hai q HQ.out).mono fun _ _ ⟨he, ho⟩ => ⟨he, oW.same ho⟩
    have HLv := Lib.hid hlv
    have o0 : Only (fun _ => False) wr wr.drew := (Only.refl _ _).drew
    obtain ⟨y, hy⟩ : ∃ y, s1.f a = y := ⟨_, rfl⟩
    have HY := Lib.hid hy
    rw [hy] at hf0 HC
    have dy : (y == 0) = false := by rw [beq_eq_false_iff_ne]; exact hf0
    have HX0 := Lib.hid qx
    clear hC hlv c0 c1 c2 qx hy
    go_wp2_with fail
    refine wp_region_Q (fun w' => Only (fun _ => False) wr w') (by kernel_rfl) (by kernel_rfl) (by assumption) ?_
    refine wpQ_val (v := ?_) (by rfl) ?_ ?_
    rotate_left
    ·(intro w hSw; (try dsimp only at hSw); have hcc := HC.out w hSw; obtain ⟨hc1, hc2, hc3, hc4⟩ := hcc; go_simp <;> (try with_reducible rfl))
    try simp only [Act.put, zq4, zq5, zq6]
    refine wpQ_val (v := ?_) (by rfl) ?_ ?_
    rotate_left
    ·(intro w hSw; (try dsimp only at hSw); have hcc := HC.out w hSw; obtain ⟨hc1, hc2, hc3, hc4⟩ := hcc; go_simp <;> (try with_reducible rfl))
    try simp only [Act.put, zq4, zq5, zq6]
    refine wpQ_val (v := ?_) (by rfl) ?_ ?_
    rotate_left
    ·(intro w hSw; (try dsimp only at hSw); have hcc := HC.out w hSw; obtain ⟨hc1, hc2, hc3, hc4⟩ := hcc; go_simp <;> (try with_reducible rfl))
    try simp only [Act.put, zq4, zq5, zq6]
    refine wpQ_val (v := ?_) (by rfl) ?_ ?_
    rotate_left
    ·(intro w hSw; (try dsimp only at hSw); have hcc := HC.out w hSw; obtain ⟨hc1, hc2, hc3, hc4⟩ := hcc; go_simp <;> (try with_reducible rfl))
    try simp only [Act.put, zq4, zq5, zq6]
    refine wpQ_val (v := ?_) (by rfl) ?_ ?_
    rotate_left
    ·(intro w hSw; (try dsimp only at hSw); have hcc := HC.out w hSw; obtain ⟨hc1, hc2, hc3, hc4⟩ := hcc; go_simp <;> (try with_reducible rfl))
    try simp only [Act.put, zq4, zq5, zq6]
    refine wpQ_val (v := ?_) (by rfl) ?_ ?_
    rotate_left
    ·(intro w hSw; (try dsimp only at hSw); have hcc := HC.out w hSw; obtain ⟨hc1, hc2, hc3, hc4⟩ := hcc; go_simp <;> (try with_reducible rfl))
    try simp only [Act.put, zq4, zq5, zq6]
    refine wpQ_val (v := ?_) (by rfl) ?_ ?_
    rotate_left
    ·(intro w hSw; (try dsimp only at hSw); have hcc := HC.out w hSw; obtain ⟨hc1, hc2, hc3, hc4⟩ := hcc; go_simp <;> (try with_reducible rfl))
    try simp only [Act.put, zq4, zq5, zq6]
    refine wpQ_val (v := ?_) (by rfl) ?_ ?_
    rotate_left
    ·(intro w hSw; (try dsimp only at hSw); have hcc := HC.out w hSw; obtain ⟨hc1, hc2, hc3, hc4⟩ := hcc; go_simp <;> (try with_reducible rfl))
    try simp only [Act.put, zq4, zq5, zq6]
    refine wpQ_val (v := ?_) (by rfl) ?_ ?_
    rotate_left
    ·(intro w hSw; (try dsimp only at hSw); have hcc := HC.out w hSw; obtain ⟨hc1, hc2, hc3, hc4⟩ := hcc; go_simp <;> (try with_reducible rfl))
    try simp only [Act.put, zq4, zq5, zq6]
    refine wpQ_val (v := ?_) (by rfl) ?_ ?_
    rotate_left
    ·(intro w hSw; (try dsimp only at hSw); have hcc := HC.out w hSw; obtain ⟨hc1, hc2, hc3, hc4⟩ := hcc; go_simp <;> (try with_reducible rfl))
    try simp only [Act.put, zq4, zq5, zq6]
    refine wpQ_val (v := ?_) (by rfl) ?_ ?_
    rotate_left
    ·(intro w hSw; (try dsimp only at hSw); have hcc := HC.out w hSw; obtain ⟨hc1, hc2, hc3, hc4⟩ := hcc; go_simp <;> (try with_reducible rfl))
    try simp only [Act.put, zq4, zq5, zq6]
    refine wpQ_val (v := ?_) (by rfl) ?_ ?_
    rotate_left
    ·(intro w hSw; (try dsimp only at hSw); have hcc := HC.out w hSw; obtain ⟨hc1, hc2, hc3, hc4⟩ := hcc; go_simp <;> (try with_reducible rfl))
    try simp only [Act.put, zq4, zq5, zq6]
    refine wpQ_val (v := ?_) (by rfl) ?_ ?_
    rotate_left
    ·(intro w hSw; (try dsimp only at hSw); have hcc := HC.out w hSw; obtain ⟨hc1, hc2, hc3, hc4⟩ := hcc; go_simp <;> (try with_reducible rfl))
    try simp only [Act.put, zq4, zq5, zq6]
    refine wpQ_call (v := cI q) (f := 115) (args := #[.pointer (some ⟨b, 0, none⟩), .int .i64 a]) (by rfl) ?_ ?_ ?_
    ·(intro w; go_simp <;> (try with_reducible rfl))
    ·(intro w hSw; exact HLv.out w hSw)
    try simp only [Act.put, zq4, zq5, zq6]
    refine wpQ_val (v := ?_) (by rfl) ?_ ?_
    rotate_left
    ·(intro w hSw; (try dsimp only at hSw); have hcc := HC.out w hSw; obtain ⟨hc1, hc2, hc3, hc4⟩ := hcc; go_simp <;> (try with_reducible rfl))
    try simp only [Act.put, zq4, zq5, zq6]
    refine wpQ_val (v := ?_) (by rfl) ?_ ?_
    rotate_left
    ·(intro w hSw; (try dsimp only at hSw); have hcc := HC.out w hSw; obtain ⟨hc1, hc2, hc3, hc4⟩ := hcc; go_simp <;> (try with_reducible rfl))
    try simp only [Act.put, zq4, zq5, zq6]
    refine wpQ_val (v := ?_) (by rfl) ?_ ?_
    rotate_left
    ·(intro w hSw; (try dsimp only at hSw); have hcc := HC.out w hSw; obtain ⟨hc1, hc2, hc3, hc4⟩ := hcc; go_simp <;> (try with_reducible rfl))
    try simp only [Act.put, zq4, zq5, zq6]
    refine wpQ_val (v := ?_) (by rfl) ?_ ?_
    rotate_left
    ·(intro w hSw; (try dsimp only at hSw); have hcc := HC.out w hSw; obtain ⟨hc1, hc2, hc3, hc4⟩ := hcc; go_simp <;> (try with_reducible rfl))
    try simp only [Act.put, zq4, zq5, zq6]
    refine wpQ_val (v := ?_) (by rfl) ?_ ?_
    rotate_left
    ·(intro w hSw; (try dsimp only at hSw); have hcc := HC.out w hSw; obtain ⟨hc1, hc2, hc3, hc4⟩ := hcc; go_simp <;> (try with_reducible rfl))
    try simp only [Act.put, zq4, zq5, zq6]
    refine wpQ_val (v := ?_) (by rfl) ?_ ?_
    rotate_left
    ·(intro w hSw; (try dsimp only at hSw); have hcc := HC.out w hSw; obtain ⟨hc1, hc2, hc3, hc4⟩ := hcc; go_simp <;> (try with_reducible rfl))
    try simp only [Act.put, zq4, zq5, zq6]
    refine wpQuiet_nil ?_
    intro w2 O2
    have hS2 := HS1.out.only0 O2
    have hO2 : Only (StF bs bi bm) w1 w2 := HOn.out.same (O2.mono fun _ f => f.elim)
    have qx2 := cell_keep HX0.out O2 (fun f => f)
    have HS2 := Lib.hid hS2
    have HO2 := Lib.hid hO2
    have HX2 := Lib.hid qx2
    clear hS2 hO2 qx2 o0 O2
    by_cases hqt : q = top
    ·have dt : (q != top) = false := by subst hqt; simp
     have hng : ¬ (s1.f (Cnf.absW x) = 0 ∨ T.lvl (Cnf.absW x) ≠ top) := by
      rw [HA.out, HQ.out, HY.out]; rintro (h | h); exact hf0 h; exact h hqt
     have HNg := Lib.hid hng
     have c3 := HS2.out.c3
     clear hng
     by_cases hm1 : s1.many = 1
     ·skip
      rw [hm1] at c3
      have c2 := HS2.out.c2
      have hlk := HS2.out.in_.look hai
      rw [HY.out] at hlk
      have hfin : GoTo w bs bi bm b top (T.goes top s T.lits.reverse) (.returned (.tuple #[.int .i64 y, .bool true])) w2 := by
       rw [HSn.out, goes_one HNg.out hm1, HA.out, HY.out]
       exact ⟨rfl, HS2.out, (HO1.out.mono fun _ f => f.elim).same HO2.out⟩
      have HFin := Lib.hid hfin
      clear hfin
      go_wp2_with fail
      go_ret2
      exact HFin.out
     ·have dm : (s1.many == 1) = false := by rw [beq_eq_false_iff_ne]; exact hm1
      have hk9 : ∀ W, Only (fun _ => False) w2 W → W.cell? ⟨bs, 0, none⟩ = some (.pointer (some ⟨b, 0, none⟩)) ∧ W.cell? ⟨bl, ol + k, none⟩ = some (cI x) := fun W oW => ⟨(HS2.out.only0 oW).c0, cell_keep HX2.out oW (fun f => f)⟩
      have HK9 := Lib.hid hk9
      have hS9 := hk9 w2.drew ((Only.refl _ _).drew)
      clear hk9
      cases hrn : T.reasonL x with
      | none =>
       skip
       have HRn := Lib.hid hrn
       have hrea : ∀ W, Only (fun _ => False) w2 W → Calls Tryz.prog 116 #[.pointer (some ⟨b, 0, none⟩), .int .i64 x] W fun e w' => e = .returned (.tuple #[nilS, .bool false]) ∧ Only (fun _ => False) w2 w' := fun W oW =>
        (reason_any ((H1.out.off hf HO2.out).only0 oW) HOk.out x HX.out).mono fun e w' hq => by
         rw [HRn.out] at hq
         exact ⟨hq.1, oW.same hq.2⟩
       have HRea := Lib.hid hrea
       clear hrea hrn
       go_wp2_with fail
       refine wp_region_G (n := 14) (E := fun i => i == 8) (S := fun w' => w'.cell? ⟨bs, 0, none⟩ = some (.pointer (some ⟨b, 0, none⟩)) ∧ w'.cell? ⟨bl, ol + k, none⟩ = some (cI x)) (by kernel_rfl) rfl hS9 (fun hHeld => ?_)
       refine tqW (i := 0) (v := ?_) rfl (.inr (by assumption)) ?_ ?_
       rotate_left
       ·(intro w; go_simp <;> (try with_reducible rfl))
       try simp only [Act.put, zq1, zq3, zq4, zq5, zq6]
       refine tqW (i := 1) (v := ?_) rfl (.inr (by assumption)) ?_ ?_
       rotate_left
       ·(intro w; go_simp <;> (try with_reducible rfl))
       try simp only [Act.put, zq1, zq2, zq3, zq4, zq5, zq6]
       refine tqW (i := 2) (v := ?_) rfl (.inr (by assumption)) ?_ ?_
       rotate_left
       ·(intro w; go_simp <;> (try with_reducible rfl))
       try simp only [Act.put, zq1, zq2, zq3, zq4, zq5, zq6]
       refine tqK (i := 3) (v := ?_) rfl ?_ ?_
       rotate_left
       ·(intro w hSw; (try dsimp only at hSw); go_simp <;> (try with_reducible rfl))
       try simp only [Act.put, zq1, zq2, zq3, zq4, zq5, zq6]
       refine tqW (i := 4) (v := ?_) rfl (.inr (by assumption)) ?_ ?_
       rotate_left
       ·(intro w; go_simp <;> (try with_reducible rfl))
       try simp only [Act.put, zq1, zq2, zq3, zq4, zq5, zq6]
       refine tqW (i := 5) (v := ?_) rfl (.inr (by assumption)) ?_ ?_
       rotate_left
       ·(intro w; go_simp <;> (try with_reducible rfl))
       try simp only [Act.put, zq1, zq2, zq3, zq4, zq5, zq6]
       refine tqW (i := 6) (v := ?_) rfl (.inr (by assumption)) ?_ ?_
       rotate_left
       ·(intro w; go_simp <;> (try with_reducible rfl))
       try simp only [Act.put, zq1, zq2, zq3, zq4, zq5, zq6]
       refine tqK (i := 7) (v := ?_) rfl ?_ ?_
       rotate_left
       ·(intro w hSw; (try dsimp only at hSw); go_simp <;> (try with_reducible rfl))
       try simp only [Act.put, zq1, zq2, zq3, zq4, zq5, zq6]
       refine wpAnyG_ready (rs := [8]) (by kernel_rfl) (by simp) ?_
       refine AllReadyG.cons (i := 8) rfl (fun K hK => ?_) ?_
       ·(go_simp; refine (HRea.out _ (by repeat (first | exact Only.refl _ _ | apply Only.drew | apply Only.alloc | apply Only.drewN))).mono ?_; rintro e w5 ⟨rfl, o5⟩; try go_wp2_with fail)
        refine hK.out _ _ ?_ (fun hHeld => ?_)
        ·(try dsimp only) <;> (exact HK9.out _ o5)
        clear hK K
        try simp only [Act.put, zq1, zq2, zq3, zq4, zq5, zq6]
        refine tqW (i := 9) (v := ?_) rfl (.inr (by assumption)) ?_ ?_
        rotate_left
        ·(intro w; go_simp <;> (try with_reducible rfl))
        try simp only [Act.put, zq1, zq2, zq3, zq4, zq5, zq6]
        refine tqW (i := 10) (v := ?_) rfl (.inr (by assumption)) ?_ ?_
        rotate_left
        ·(intro w; go_simp <;> (try with_reducible rfl))
        try simp only [Act.put, zq1, zq2, zq3, zq4, zq5, zq6]
        refine tqW (i := 11) (v := ?_) rfl (.inr (by assumption)) ?_ ?_
        rotate_left
        ·(intro w; go_simp <;> (try with_reducible rfl))
        try simp only [Act.put, zq1, zq2, zq3, zq4, zq5, zq6]
        refine tqW (i := 12) (v := ?_) rfl (.inr (by assumption)) ?_ ?_
        rotate_left
        ·(intro w; go_simp <;> (try with_reducible rfl))
        try simp only [Act.put, zq1, zq2, zq3, zq4, zq5, zq6]
        refine tqW (i := 13) (v := ?_) rfl (.inr (by assumption)) ?_ ?_
        rotate_left
        ·(intro w; go_simp <;> (try with_reducible rfl))
        try simp only [Act.put, zq1, zq2, zq3, zq4, zq5, zq6]
        refine wpAnyG_done (by kernel_rfl) ?_ _
        have hfin : GoTo w bs bi bm b top (T.goes top s T.lits.reverse) (.returned (.tuple #[.int .i64 0, .bool false])) w5 := by
         rw [HSn.out, goes_none HNg.out hm1 HRn.out]
         exact ⟨rfl, HS2.out.only0 o5, (HO1.out.mono fun _ f => f.elim).same (HO2.out.same (o5.mono fun _ f => f.elim))⟩
        have HFin := Lib.hid hfin
        clear hfin o5
        go_wp2_with fail
        go_ret2
        exact HFin.out
       exact AllReadyG.nil
      | some l =>
       skip
       have HRn := Lib.hid hrn
       have hrea : ∀ W, Only (fun _ => False) w2 W → Calls Tryz.prog 116 #[.pointer (some ⟨b, 0, none⟩), .int .i64 x] W fun e w' => ∃ ao cap, e = .returned (.tuple #[.slice ao l.length cap, .bool true]) ∧ w'.ownsRow 0 3 1 (.slice ao l.length cap) l.length (l.map cI) ∧ (∀ k, Value.ownBlock (.slice ao l.length cap) = some k → w2.heap.size ≤ k) ∧ Only (fun _ => False) w2 w' := fun W oW =>
        (reason_any ((H1.out.off hf HO2.out).only0 oW) HOk.out x HX.out).mono fun e w' hq => by
         rw [HRn.out] at hq
         obtain ⟨ao, cap, h1, h2, h3, h4⟩ := hq
         exact ⟨ao, cap, h1, h2, fun k hk => by have := h3 k hk; have := oW.size; omega, oW.same h4⟩
       have HRea := Lib.hid hrea
       clear hrea hrn
       go_wp2_with fail
       refine wp_region_G (n := 14) (E := fun i => i == 8) (S := fun w' => w'.cell? ⟨bs, 0, none⟩ = some (.pointer (some ⟨b, 0, none⟩)) ∧ w'.cell? ⟨bl, ol + k, none⟩ = some (cI x)) (by kernel_rfl) rfl hS9 (fun hHeld => ?_)
       refine tqW (i := 0) (v := ?_) rfl (.inr (by assumption)) ?_ ?_
       rotate_left
       ·(intro w; go_simp <;> (try with_reducible rfl))
       try simp only [Act.put, zq1, zq3, zq4, zq5, zq6]
       refine tqW (i := 1) (v := ?_) rfl (.inr (by assumption)) ?_ ?_
       rotate_left
       ·(intro w; go_simp <;> (try with_reducible rfl))
       try simp only [Act.put, zq1, zq2, zq3, zq4, zq5, zq6]
       refine tqW (i := 2) (v := ?_) rfl (.inr (by assumption)) ?_ ?_
       rotate_left
       ·(intro w; go_simp <;> (try with_reducible rfl))
       try simp only [Act.put, zq1, zq2, zq3, zq4, zq5, zq6]
       refine tqK (i := 3) (v := ?_) rfl ?_ ?_
       rotate_left
       ·(intro w hSw; (try dsimp only at hSw); go_simp <;> (try with_reducible rfl))
       try simp only [Act.put, zq1, zq2, zq3, zq4, zq5, zq6]
       refine tqW (i := 4) (v := ?_) rfl (.inr (by assumption)) ?_ ?_
       rotate_left
       ·(intro w; go_simp <;> (try with_reducible rfl))
       try simp only [Act.put, zq1, zq2, zq3, zq4, zq5, zq6]
       refine tqW (i := 5) (v := ?_) rfl (.inr (by assumption)) ?_ ?_
       rotate_left
       ·(intro w; go_simp <;> (try with_reducible rfl))
       try simp only [Act.put, zq1, zq2, zq3, zq4, zq5, zq6]
       refine tqW (i := 6) (v := ?_) rfl (.inr (by assumption)) ?_ ?_
       rotate_left
       ·(intro w; go_simp <;> (try with_reducible rfl))
       try simp only [Act.put, zq1, zq2, zq3, zq4, zq5, zq6]
       refine tqK (i := 7) (v := ?_) rfl ?_ ?_
       rotate_left
       ·(intro w hSw; (try dsimp only at hSw); go_simp <;> (try with_reducible rfl))
       try simp only [Act.put, zq1, zq2, zq3, zq4, zq5, zq6]
       refine wpAnyG_ready (rs := [8]) (by kernel_rfl) (by simp) ?_
       refine AllReadyG.cons (i := 8) rfl (fun K hK => ?_) ?_
       ·(go_simp; refine (HRea.out _ (by repeat (first | exact Only.refl _ _ | apply Only.drew | apply Only.alloc | apply Only.drewN))).mono ?_; rintro e w5 ⟨ao5, cap5, rfl, r5, n5, o5⟩; try go_wp2_with fail)
        refine hK.out _ _ ?_ (fun hHeld => ?_)
        ·(try dsimp only) <;> (exact HK9.out _ o5)
        clear hK K
        try simp only [Act.put, zq1, zq2, zq3, zq4, zq5, zq6]
        refine tqW (i := 9) (v := ?_) rfl (.inr (by assumption)) ?_ ?_
        rotate_left
        ·(intro w; go_simp <;> (try with_reducible rfl))
        try simp only [Act.put, zq1, zq2, zq3, zq4, zq5, zq6]
        refine tqW (i := 10) (v := ?_) rfl (.inr (by assumption)) ?_ ?_
        rotate_left
        ·(intro w; go_simp <;> (try with_reducible rfl))
        try simp only [Act.put, zq1, zq2, zq3, zq4, zq5, zq6]
        refine tqW (i := 11) (v := ?_) rfl (.inr (by assumption)) ?_ ?_
        rotate_left
        ·(intro w; go_simp <;> (try with_reducible rfl))
        try simp only [Act.put, zq1, zq2, zq3, zq4, zq5, zq6]
        refine tqW (i := 12) (v := ?_) rfl (.inr (by assumption)) ?_ ?_
        rotate_left
        ·(intro w; go_simp <;> (try with_reducible rfl))
        try simp only [Act.put, zq1, zq2, zq3, zq4, zq5, zq6]
        refine tqW (i := 13) (v := ?_) rfl (.inr (by assumption)) ?_ ?_
        rotate_left
        ·(intro w; go_simp <;> (try with_reducible rfl))
        try simp only [Act.put, zq1, zq2, zq3, zq4, zq5, zq6]
        refine wpAnyG_done (by kernel_rfl) ?_ _
        have hS5 := HS2.out.only0 o5
        obtain ⟨w6, hdl, hS6, hO6⟩ := hS5.dropIn hai 0 w5 (Only.refl _ _)
        have hm7 := hS6.setMany (w64 (s1.many - 1))
        obtain ⟨hl1, hl2⟩ := reasonL_ok HOk.out HRn.out
        have hI5 : Ints w5 (.slice ao5 l.length cap5) l := Ints.of_own r5 fun y hy => by have := hl1 y hy; unfold InI64; omega
        have hN5 : 0 < l.length → ∀ k, Value.blk (.slice ao5 l.length cap5) = some k → ¬ StF bs bi bm k := fun _ k hk hs => by
         have := n5 k (blk_ownI r5 hk)
         have := HS2.out.lt hs
         omega
        have hO7 := hO6.trans hm7.2 fun k hk => .inl hk
        have hO27 : Only (StF bs bi bm) w1 (w6.setCell ⟨bs, 3, none⟩ (cI (w64 (s1.many - 1)))) := HO2.out.trans ((o5.mono fun _ f => f.elim).same hO7) fun k hk => .inl hk
        have hke : ((s1.del a).ks).length ≤ s1.ks.length := by unfold Stu.del; rw [List.length_erase]; split <;> omega
        have htk := takes_any (H1.out.off hf hO27) HOk.out hf hm7.1 (hI5.only' hO7 hN5) hN5 (by omega) (by simp only; have := hke; unfold Stu.del at this; simp only at this; omega) (by simp only; omega)
        have hkg := (HKg.out.del a).takes hnn T top l hl1
        have hsn : T.goes top s T.lits.reverse = T.goes top (T.takes top (s1.del a) l) (T.lits.take k).reverse := by rw [HSn.out, goes_some HNg.out hm1 HRn.out, HA.out]
        have hz : ∀ W, StAt W bs bi bm b top (T.takes top { ks := s1.ks.erase a, f := upd s1.f a 0, ms := s1.ms, mf := s1.mf, many := w64 (s1.many - 1) } l) → Only (StF bs bi bm) (w6.setCell ⟨bs, 3, none⟩ (cI (w64 (s1.many - 1)))) W → ∃ (k' : Nat) (s3 : Stu), Value.int .i64 ((k : Int) - 1) = .int .i64 ((k' : Int) - 1) ∧ k' ≤ T.lits.length ∧ GoAt w1 bs bi bm b T top s k' s3 W := fun W h1 h2 => HTs.out W _ (hO27.trans h2 fun k hk => .inl hk) h1 hkg hsn
        have c0 := hS5.c0
        have c2 := hS5.c2
        have d3 := hS6.c3
        have f3 := hS6.free 3
        obtain ⟨m2, hm2⟩ : ∃ m2, w64 (s1.many - 1) = m2 := ⟨_, rfl⟩
        rw [hm2] at htk hz
        have HTk := Lib.hid htk
        have HZ := Lib.hid hz
        have hm3 : IntKind.i64.wrap (s1.many - 1) = m2 := hm2
        have hm4 : wrap64 (s1.many - 1) = m2 := by rw [← hm3, IntWalk.i64_left]
        clear hS5 hS6 hO6 hm7 hl1 hl2 hI5 hN5 hO7 hO27 hke htk hkg hsn hz hm2 o5 r5 n5
        go_wp2_with fail
        refine HTk.out.mono ?_
        rintro e w8 ⟨rfl, hS8, hO8⟩
        have hz8 := HZ.out w8 hS8 hO8
        have HZ8 := Lib.hid hz8
        clear hz8 hS8 hO8 hdl
        go_wp2_with fail
        go_roundw
        case rel => first | exact HZ8.out | (rw [ewk]; exact HZ8.out)
        case measure => simp [intOf] <;> omega
       exact AllReadyG.nil
    ·skip
     have dt : (q != top) = true := by rw [bne_iff_ne]; exact hqt
     have hz := HTs.out w2 s1 HO2.out HS2.out HKg.out (by rw [HSn.out, goes_skip (.inr (by rw [HA.out, HQ.out]; exact hqt))])
     have HZ := Lib.hid hz
     clear hz
     go_wp2_with fail
     go_roundw
     case rel => first | exact HZ.out | (rw [ewk]; exact HZ.out)
     case measure => simp [intOf] <;> omega
end
end Go.Proofs.YtjedgdamommgeaaGreat
namespace Go.Proofs.YtjedgdamommgeaaGreat
open Go.RowKit Go.Maps Go.Sort Go.Shelf
open Tr
namespace Tr
theorem sortI_perm (l : List Int) : (sortI l).Perm l := List.mergeSort_perm l _
theorem sortI_sorted (l : List Int) : (sortI l).Pairwise (· ≤ ·) := by
 have h := List.pairwise_mergeSort (le := fun x y : Int => decide (x ≤ y)) (by intro a b c; simp; omega) (by intro a b; simp; omega) l
 exact h.imp fun h => by simpa using h
theorem sortI_of_perm {l m : List Int} (h : l.Perm m) : sortI l = sortI m :=
 List.Perm.eq_of_pairwise (le := fun x y : Int => x ≤ y) (fun a b _ _ h1 h2 => by omega) (sortI_sorted l) (sortI_sorted m) (((sortI_perm l).trans h).trans (sortI_perm m).symm)
theorem sortI_len (l : List Int) : (sortI l).length = l.length := (sortI_perm l).length_eq
theorem mem_sortI {l : List Int} {x : Int} : x ∈ sortI l ↔ x ∈ l := (sortI_perm l).mem_iff
end Tr
theorem Tryz.sortsA (m : Nat) : AnyZI.SortsIn Tryz.prog Tryz.sortedA_ren Fence.wide m :=
 ⟨fun blk off cap ss W hH hblk hsz => callsIn_wide.2 (AnyM.slices_Sort_int Tryz.sortA blk off cap ss W hH hblk hsz),
 fun p cap W => callsIn_wide.2 (AnyM.slices_Sort_int_none Tryz.sortA p cap W)⟩
section
variable {w : World} {B : Nat} {ks : List Int} {f : Int → Int}
abbrev keysF (w : World) : Value := .func (.func 148) #[] #[.pointer (some ⟨w.heap.size, 0, none⟩)]
theorem keys_any (w : World) (B : Nat) : Calls Tryz.prog 122 #[.map (some B)] w fun e w' => e = .returned (keysF w) ∧ w' = w.alloc (.cells #[.map (some B)] 138) := by
 refine (callsIn_wide (n := 5)).1 ?_
 exact AnyZI.keys_in Tryz.keysA Fence.wide 5 trivial rfl (some B) w
theorem sorted_any (h : IMap w B ks f) (hl : ks.length ≤ 65536) : Calls Tryz.prog 121 #[keysF w] (w.alloc (.cells #[.map (some B)] 138)) fun e w' =>
  ∃ v, e = .returned v ∧ w'.ownsRow 0 3 1 v (sortI ks).length ((sortI ks).map cI) ∧ (∀ k, v.ownBlock = some k → w.heap.size ≤ k) ∧ Only (fun _ => False) w w' := by
 obtain ⟨D, hown, hp, hsz⟩ := h.keys
 have hbl := hown.lt
 have hseq : SeqGives Fence.wide 2 Tryz.prog 148 #[.pointer (some ⟨w.heap.size, 0, none⟩)] encZ (fun ss => ss.Perm (intKeys D)) (Maps.size D) (w.alloc (.cells #[.map (some B)] 138)) :=
  AnyZI.keys_gives (ρ := Tryz.keysA_ren) { Tryz.keysA with } Fence.wide _ trivial rfl (by omega) w.heap.size B ks.length D _ (by simp) (by simp) (by
   obtain ⟨es, clock, hb, Ft, hs, hD⟩ := hown
   exact ⟨es, clock, (Below.heap_alloc _ _ B hbl).trans hb, Ft, hs, hD⟩)
 have cS := AnyZI.sorted_in Tryz.sortedA Fence.wide 5 trivial trivial trivial trivial rfl (by omega) (Tryz.sortsA _) (enters_of Tryz.func130 (by kernel_rfl) rfl) 148 #[.pointer (some ⟨w.heap.size, 0, none⟩)] trivial (enters_of Tryz.func148 (by kernel_rfl) rfl) _ _ (by rw [hsz]; unfold maxLen; omega) (by rw [hsz]; omega) _ hseq
 refine ((callsIn_wide (n := 5)).1 cS).mono ?_
 rintro e w' ⟨v, ss, rfl, hS, hrow, -, hb⟩
 have e1 : ss.mergeSort (fun x y => decide (x ≤ y)) = sortI ks := sortI_of_perm (hS.trans hp.symm)
 have e2 : ss.length = (sortI ks).length := by rw [← e1, List.length_mergeSort]
 rw [e1, e2] at hrow
 refine ⟨v, rfl, ownsRow_base_a hrow (Nat.zero_le _), fun k hk => ?_, ?_⟩
 ·have := (hrow.lt k hk).1; simp at this; omega
 ·exact ((Only.refl _ _).alloc _).trans (G := fun k => w.heap.size + 1 ≤ k) (by have := Only.of_below hb; simpa using this) fun k hk => .inr (by omega)
end
section
variable {w : World} {b bs bi bm : Nat} {top : Int} {s : Stu}
theorem enter_others1 : ∀ args w, (callFunc 149 args).run Tryz.prog w = .ok (.enter 149 args) w := enters_of Tryz.func149 (by kernel_rfl) rfl
set_option maxRecDepth 100000 in
set_option maxHeartbeats 1600000 in
theorem others1_any (h : StAt w bs bi bm b top s) (bp : Nat) (hbp : w.cell? ⟨bp, 0, none⟩ = some (.pointer (some ⟨bs, 0, none⟩))) (x : Int) (hx : InI64 x) :
  Calls Tryz.prog 149 #[.int .i64 x, .pointer (some ⟨bp, 0, none⟩)] w fun e w' => e = .returned (.bool (s.f (Cnf.absW x) == 0)) ∧ Only (fun _ => False) w w' := by
 obtain ⟨a, ha⟩ : ∃ a, Cnf.absW x = a := ⟨_, rfl⟩
 rw [ha]
 have hai : InI64 a := by rw [← ha]; exact absW_in hx
 have hab := fun W : World => learn_abs_any (w := W) x a ha
 have HAb := Lib.hid hab
 have hC : ∀ W, Only (fun _ => False) w W → W.cell? ⟨bp, 0, none⟩ = some (.pointer (some ⟨bs, 0, none⟩)) ∧ W.cell? ⟨bs, 2, none⟩ = some (.map (some bi)) ∧ (Instr.lookup 138 (.map (some bi)) (cI a) false).run Tryz.prog W = .ok (cI (s.f a)) W := fun W oW => ⟨cell_keep hbp oW (fun f => f), (h.only0 oW).c2, (h.only0 oW).in_.look hai⟩
 have HC := Lib.hid hC
 have o0 : Only (fun _ => False) w w.drew := (Only.refl _ _).drew
 generalize s.f a = y at *
 clear hC hab ha hbp h
 go_enter Tryz.func149, Tryz.ntmps149
 go_wp2_with fail
 refine wp_region_Q (fun w' => Only (fun _ => False) w w') (by kernel_rfl) (by kernel_rfl) (by assumption) ?_
 refine wpQ_val (v := ?_) (by rfl) ?_ ?_
 rotate_left
 ·(intro w hSw; (try dsimp only at hSw); have hcc := HC.out w hSw; obtain ⟨hc1, hc2, hc3⟩ := hcc; go_simp <;> (try with_reducible rfl))
 try simp only [Act.put, zq4, zq5, zq6]
 refine wpQ_val (v := ?_) (by rfl) ?_ ?_
 rotate_left
 ·(intro w hSw; (try dsimp only at hSw); have hcc := HC.out w hSw; obtain ⟨hc1, hc2, hc3⟩ := hcc; go_simp <;> (try with_reducible rfl))
 try simp only [Act.put, zq4, zq5, zq6]
 refine wpQ_val (v := ?_) (by rfl) ?_ ?_
 rotate_left
 ·(intro w hSw; (try dsimp only at hSw); have hcc := HC.out w hSw; obtain ⟨hc1, hc2, hc3⟩ := hcc; go_simp <;> (try with_reducible rfl))
 try simp only [Act.put, zq4, zq5, zq6]
 refine wpQ_val (v := ?_) (by rfl) ?_ ?_
 rotate_left
 ·(intro w hSw; (try dsimp only at hSw); have hcc := HC.out w hSw; obtain ⟨hc1, hc2, hc3⟩ := hcc; go_simp <;> (try with_reducible rfl))
 try simp only [Act.put, zq4, zq5, zq6]
 refine wpQ_val (v := ?_) (by rfl) ?_ ?_
 rotate_left
 ·(intro w hSw; (try dsimp only at hSw); have hcc := HC.out w hSw; obtain ⟨hc1, hc2, hc3⟩ := hcc; go_simp <;> (try with_reducible rfl))
 try simp only [Act.put, zq4, zq5, zq6]
 refine wpQ_call (v := cI a) (f := 114) (args := #[.int .i64 x]) (by rfl) ?_ ?_ ?_
 ·(intro w; go_simp <;> (try with_reducible rfl))
 ·(intro w hSw; exact (HAb.out w).mono fun _ _ ⟨he, hw⟩ => ⟨he, by rw [← hw]; exact hSw⟩)
 try simp only [Act.put, zq4, zq5, zq6]
 refine wpQ_val (v := ?_) (by rfl) ?_ ?_
 rotate_left
 ·(intro w hSw; (try dsimp only at hSw); have hcc := HC.out w hSw; obtain ⟨hc1, hc2, hc3⟩ := hcc; go_simp <;> (try with_reducible rfl))
 try simp only [Act.put, zq4, zq5, zq6]
 refine wpQ_val (v := ?_) (by rfl) ?_ ?_
 rotate_left
 ·(intro w hSw; (try dsimp only at hSw); have hcc := HC.out w hSw; obtain ⟨hc1, hc2, hc3⟩ := hcc; go_simp <;> (try with_reducible rfl))
 try simp only [Act.put, zq4, zq5, zq6]
 refine wpQ_val (v := ?_) (by rfl) ?_ ?_
 rotate_left
 ·(intro w hSw; (try dsimp only at hSw); have hcc := HC.out w hSw; obtain ⟨hc1, hc2, hc3⟩ := hcc; go_simp <;> (try with_reducible rfl))
 try simp only [Act.put, zq4, zq5, zq6]
 refine wpQuiet_nil ?_
 intro w2 O2
 go_wp2_with fail
 go_ret
 exact ⟨rfl, O2⟩
end
end Go.Proofs.YtjedgdamommgeaaGreat
namespace Go.Proofs.YtjedgdamommgeaaGreat
open Go.RowKit
open Tr
namespace Tr
def Trail.keeps (T : Trail) (s : Stu) (first : Int) (a : Int) : Bool := !(s.f a == first || T.covers s (s.f a))
def Trail.othersTo (T : Trail) (s : Stu) (first : Int) (l : List Int) : List Int := (l.filter (T.keeps s first)).map s.f
theorem others_to (T : Trail) (s : Stu) (first : Int) : T.others s first = T.othersTo s first (sortI s.ks) := by
 unfold Trail.others Trail.othersTo
 rw [List.filter_map]; rfl
theorem othersTo_snoc (T : Trail) (s : Stu) (first : Int) (l : List Int) (a : Int) : T.othersTo s first (l ++ [a]) = if T.keeps s first a then T.othersTo s first l ++ [s.f a] else T.othersTo s first l := by
 unfold Trail.othersTo
 rw [List.filter_append, List.map_append]
 cases h : T.keeps s first a <;> simp [h]
theorem othersTo_len (T : Trail) (s : Stu) (first : Int) (l : List Int) : (T.othersTo s first l).length ≤ l.length := by
 unfold Trail.othersTo; rw [List.length_map]; exact List.length_filter_le _ _
end Tr
section
variable {w : World} {g : Tag} {b : Nat} {V : TrV} {T : Trail} {bs bi bm : Nat} {top : Int} {s : Stu}
set_option maxRecDepth 100000 in
set_option maxHeartbeats 3200000 in
theorem others_any (H : TrAt w g b V T) (o : Ok T) (hS : StAt w bs bi bm b top s) (hkg : Kg T.n s) (first : Int) :
  Calls Tryz.prog 123 #[.pointer (some ⟨bs, 0, none⟩), .int .i64 first] w fun e w' => ∃ v, e = .returned v ∧ w'.ownsRow 0 3 1 v (T.others s first).length ((T.others s first).map cI) ∧ (∀ k, v.ownBlock = some k → w.heap.size ≤ k) ∧ Only (fun _ => False) w w' := by
 obtain ⟨w0, hw0⟩ : ∃ w0, w.alloc (.cells #[.pointer (some ⟨bs, 0, none⟩)] 141) = w0 := ⟨_, rfl⟩
 obtain ⟨bp, hbp⟩ : ∃ bp, w.heap.size = bp := ⟨_, rfl⟩
 have o0 : Only (fun _ => False) w w0 := by rw [← hw0]; exact (Only.refl _ _).alloc _
 have h1 : w0.cell? ⟨bp, 0, none⟩ = some (.pointer (some ⟨bs, 0, none⟩)) := by
  rw [← hw0, ← hbp]; exact cell_newE _ _ _ _ rfl
 have hks := keys_len hkg.ks hS.in_.nd
 have hn := o.n
 have H0 := H.only0 o0
 have hS0 := hS.only0 o0
 have hke := keys_any w0 bi
 have hso := sorted_any hS0.in_ (by omega)
 have hC : ∀ W, Only (fun _ => False) w0 W → W.cell? ⟨bp, 0, none⟩ = some (.pointer (some ⟨bs, 0, none⟩)) ∧ W.cell? ⟨bs, 0, none⟩ = some (.pointer (some ⟨b, 0, none⟩)) ∧ W.cell? ⟨bs, 2, none⟩ = some (.map (some bi)) ∧ ∀ a, InI64 a → (Instr.lookup 138 (.map (some bi)) (cI a) false).run Tryz.prog W = .ok (cI (s.f a)) W := fun W oW => ⟨cell_keep h1 oW (fun f => f), (hS0.only0 oW).c0, (hS0.only0 oW).c2, fun a ha => (hS0.only0 oW).in_.look ha⟩
 have hrea : ∀ W, Only (fun _ => False) w0 W → ∀ x, InI64 x → Calls Tryz.prog 116 #[.pointer (some ⟨b, 0, none⟩), .int .i64 x] W (ReaTo W (T.reasonL x)) := fun W oW x hx => reason_any (H0.only0 oW) o x hx
 have hpr : ∀ W, Only (fun _ => False) w0 W → ∀ x, InI64 x → Calls Tryz.prog 149 #[.int .i64 x, .pointer (some ⟨bp, 0, none⟩)] W fun e w' => e = .returned (.bool (s.f (Cnf.absW x) == 0)) ∧ Only (fun _ => False) W w' := fun W oW x hx =>
  others1_any (hS0.only0 oW) bp (cell_keep h1 oW (fun f => f)) x hx
 have hval := hS.in_.val
 have hrng := hS.in_.rng
 have hco := hC w0 (Only.refl _ _)
 obtain ⟨hc1, hc2, hc3, hc4⟩ := hco
 have HKe := Lib.hid hke
 have HSo := Lib.hid hso
 have HC := Lib.hid hC
 have HRea := Lib.hid hrea
 have HPr := Lib.hid hpr
 have HVal := Lib.hid hval
 have HRng := Lib.hid hrng
 have HOk := Lib.hid o
 have HO0 := Lib.hid o0
 have hsl := sortI_len s.ks
 rw [others_to]
 clear hke hso hC hrea hpr hval hrng hS hS0 H H0 o o0 h1 hkg hc4
 go_enter Tryz.func123, Tryz.ntmps123
 go_wp2_with fail
 refine HKe.out.mono ?_
 rintro e w' ⟨rfl, rfl⟩
 go_wp2_with fail
 refine HSo.out.mono ?_
 rintro e w1 ⟨v, rfl, R1, N1, O1⟩
 have hI : Ints w1 v (sortI s.ks) := Ints.of_own R1 fun x hx => HRng.out x (mem_sortI.1 hx)
 obtain ⟨ai, ci, rfl, -, -⟩ := hI.shape
 have HI := Lib.hid hI
 have HO1 := Lib.hid O1
 clear R1 N1 O1 hI HKe HSo hc1 hc2 hc3
 go_wp2_with fail
 go_loopw [5, 18] (fun vo v wr => ∃ j : Nat, v = .int .i64 j ∧ j ≤ (sortI s.ks).length ∧ wr.ownsRow 0 3 1 vo (T.othersTo s first ((sortI s.ks).take j)).length ((T.othersTo s first ((sortI s.ks).take j)).map cI) ∧ (∀ k, vo.ownBlock = some k → w1.heap.size ≤ k) ∧ Only (fun _ => False) w1 wr) (fun _ v _ => (sortI s.ks).length - (intOf v).toNat)
 case atStart => exact ⟨0, rfl, Nat.zero_le _, World.ownsRow_nil _ _ _ _, fun j hj => by simp [Value.ownBlock] at hj, Only.refl _ _⟩
 case round =>
  obtain ⟨j, rfl, hj, ro, rb, hO⟩ := hrel
  have HB := Lib.hid rb
  have HRo := Lib.hid ro
  have HOr := Lib.hid hO
  clear rb ro hO
  by_cases cj : j < (sortI s.ks).length
  ·obtain ⟨bl, ol, rfl, _, hcs⟩ := (HI.out.only0 HOr.out).cells _ _ _ rfl (by omega)
   have qx := hcs j cj
   have hai : InI64 ((sortI s.ks).getD j 0) := HI.out.range' j
   have hsn := othersTo_snoc T s first ((sortI s.ks).take j) ((sortI s.ks).getD j 0)
   rw [← take_snocI _ j cj] at hsn
   have hol := othersTo_len T s first ((sortI s.ks).take j)
   rw [List.length_take] at hol
   obtain ⟨a, hae⟩ : ∃ a, (sortI s.ks).getD j 0 = a := ⟨_, rfl⟩
   rw [hae] at qx hai hsn
   obtain ⟨hc1, hc2, hc3, hc4⟩ := HC.out wr (HO1.out.same HOr.out)
   have hlk := hc4 a hai
   obtain ⟨x, hx⟩ : ∃ x, s.f a = x := ⟨_, rfl⟩
   have hxi : InI64 x := by rw [← hx]; exact HVal.out a
   have hkp : T.keeps s first a = !(x == first || T.covers s x) := by unfold Trail.keeps; rw [hx]
   rw [hx] at hlk
   rw [hkp, hx] at hsn
   have HSn := Lib.hid hsn
   have ewj : IntKind.i64.wrap ((j : Int) + 1) = ((j + 1 : Nat) : Int) := by rw [IntWalk.i64_in _ (by omega)]; rfl
   clear hcs hae hc4 hx hkp hsn
   obtain ⟨L, hL⟩ : ∃ L, T.othersTo s first ((sortI s.ks).take j) = L := ⟨_, rfl⟩
   rw [hL] at HRo HSn hol
   clear hL
   by_cases hxf : x = first
   ·skip
    have dx : (x == first) = true := by rw [beq_iff_eq]; exact hxf
    have hL2 : T.othersTo s first ((sortI s.ks).take (j + 1)) = L := by rw [HSn.out, dx]; rfl
    have HL2 := Lib.hid hL2
    clear hL2
    go_wp2_with fail
    clear hlk qx
    go_roundw
    case rel => exact ⟨j + 1, by first | rfl | go_num, by omega, by rw [HL2.out]; exact HRo.out, HB.out, HOr.out⟩
    case measure => simp [intOf] <;> omega
   ·have dx : (x == first) = false := by rw [beq_eq_false_iff_ne]; exact hxf
    obtain ⟨nx, hnx⟩ : ∃ nx, IntKind.i64.wrap (-x) = nx := ⟨_, rfl⟩
    have hni : InI64 nx := by rw [← hnx]; exact w64_in _
    have hre := HRea.out wr (HO1.out.same HOr.out) nx hni
    have HRe := Lib.hid hre
    have hcv : T.covers s x = match T.reasonL nx with | some l => !(l.any fun y => s.f (Cnf.absW y) == 0) | none => false := by unfold Trail.covers w64; rw [hnx]; rfl
    have HCv := Lib.hid hcv
    clear hre hcv
    go_wp2_with fail
    refine HRe.out.mono ?_
    intro e w2 hq
    clear hlk qx HRe
    cases hrn : T.reasonL nx with
    | none =>
     skip
     rw [hrn] at hq
     obtain ⟨rfl, O2⟩ := hq
     have hL2 : T.othersTo s first ((sortI s.ks).take (j + 1)) = L ++ [x] := by rw [HSn.out, HCv.out, hrn, dx]; rfl
     have HL2 := Lib.hid hL2
     have hO2 := HOr.out.same O2
     have ro := own_only HRo.out O2 (fun _ _ f => f)
     clear hL2 O2 hrn hc1 hc2 hc3
     go_wp2_with (at_builtin; go_must (refine wpA1 (u := .int .i64 x) slInt rfl (.tmp 48) (.tmp 50) rfl rfl rfl (cell_new0 _ _ _) rfl (own_only ro ((Only.refl (fun _ => False) _).alloc _) (fun _ _ f => f)) (by omega) (by decide) ?_))
     intro v2 w5 s1 s2 s3
     have O5 : Only (fun _ => False) w1 w5 := (hO2.alloc _).trans s2 (fun k hk => .inr (HB.out k hk))
     have hb2 : ∀ k, v2.ownBlock = some k → w1.heap.size ≤ k := by
      obtain ⟨g, cap, rfl, _, _, h⟩ := s3
      intro k hk
      simp [Value.ownBlock] at hk
      subst hk
      rcases h with h | h
      ·exact HB.out _ h
      ·have := hO2.size; simp at h; omega
     have HB2 := Lib.hid hb2
     have s1' : w5.ownsRow 0 3 1 v2 (L ++ [x]).length ((L ++ [x]).map cI) := by
      rw [List.map_append, List.length_append]
      simpa [cI] using s1
     clear hb2 s1 s2 s3 ro
     go_wp2_with fail
     go_roundw
     case rel => exact ⟨j + 1, by first | rfl | go_num, by omega, by rw [HL2.out]; exact s1', HB2.out, O5⟩
     case measure => simp [intOf] <;> omega
    | some l =>
     rw [hrn] at hq
     obtain ⟨ao, cap, rfl, R2, N2, O2⟩ := hq
     obtain ⟨hl1, hl2⟩ := reasonL_ok HOk.out hrn
     have hO2 := HOr.out.same O2
     have hO02 := HO1.out.same hO2
     have hr2 : ∀ y ∈ l, InI64 y := fun y hy => by have := hl1 y hy; unfold InI64; omega
     have hI2 := Ints.of_own R2 hr2
     have hcc : ∀ r, l.any (fun y => s.f (Cnf.absW y) == 0) = r → _ := fun r hr => ContainsFunc_int hI2 149 #[.pointer (some ⟨bp, 0, none⟩)] (fun y => s.f (Cnf.absW y) == 0) enter_others1 (fun y hy W oW => HPr.out W (hO02.same oW) y (hr2 y hy)) r hr
     cases hany : l.any (fun y => s.f (Cnf.absW y) == 0)
     ·skip
      have hcf := hcc false hany
      have HCf := Lib.hid hcf
      have hL2 : T.othersTo s first ((sortI s.ks).take (j + 1)) = L := by rw [HSn.out, HCv.out, hrn, dx]; simp only [hany]; rfl
      have HL2 := Lib.hid hL2
      have ro := own_only HRo.out O2 (fun _ _ f => f)
      clear hcf hcc hL2 O2 hO02 hr2 hI2 hl1 hl2 R2 N2 hrn hc1 hc2 hc3
      go_wp2_with fail
      refine HCf.out.mono ?_
      rintro e w3 ⟨rfl, O3⟩
      go_wp2_with fail
      go_roundw
      case rel => exact ⟨j + 1, by first | rfl | go_num, by omega, by rw [HL2.out]; exact own_only ro O3 (fun _ _ f => f), HB.out, hO2.same O3⟩
      case measure => simp [intOf] <;> omega
     ·skip
      have hcf := hcc true hany
      have HCf := Lib.hid hcf
      have hL2 : T.othersTo s first ((sortI s.ks).take (j + 1)) = L ++ [x] := by rw [HSn.out, HCv.out, hrn, dx]; simp only [hany]; rfl
      have HL2 := Lib.hid hL2
      have ro2 := own_only HRo.out O2 (fun _ _ f => f)
      have HO2 := Lib.hid hO2
      clear hcf hcc hL2 O2 hO2 hO02 hr2 hI2 hl1 hl2 R2 N2 hrn hc1 hc2 hc3
      go_wp2_with fail
      refine HCf.out.mono ?_
      rintro e w3 ⟨rfl, O3⟩
      have hO2 := HO2.out.same O3
      have ro := own_only ro2 O3 (fun _ _ f => f)
      clear ro2 O3
      go_wp2_with (at_builtin; go_must (refine wpA1 (u := .int .i64 x) slInt rfl (.tmp 48) (.tmp 50) rfl rfl rfl (cell_new0 _ _ _) rfl (own_only ro ((Only.refl (fun _ => False) _).alloc _) (fun _ _ f => f)) (by omega) (by decide) ?_))
      intro v2 w5 s1 s2 s3
      have O5 : Only (fun _ => False) w1 w5 := (hO2.alloc _).trans s2 (fun k hk => .inr (HB.out k hk))
      have hb2 : ∀ k, v2.ownBlock = some k → w1.heap.size ≤ k := by
       obtain ⟨g, cap, rfl, _, _, h⟩ := s3
       intro k hk
       simp [Value.ownBlock] at hk
       subst hk
       rcases h with h | h
       ·exact HB.out _ h
       ·have := hO2.size; simp at h; omega
      have HB2 := Lib.hid hb2
      have s1' : w5.ownsRow 0 3 1 v2 (L ++ [x]).length ((L ++ [x]).map cI) := by
       rw [List.map_append, List.length_append]
       simpa [cI] using s1
      clear hb2 s1 s2 s3 ro
      go_wp2_with fail
      go_roundw
      case rel => exact ⟨j + 1, by first | rfl | go_num, by omega, by rw [HL2.out]; exact s1', HB2.out, O5⟩
      case measure => simp [intOf] <;> omega
  ·skip
   have hj' : j = (sortI s.ks).length := by omega
   subst hj'
   have ro := HRo.out
   rw [List.take_of_length_le (Nat.le_refl _)] at ro
   have HRo2 := Lib.hid ro
   have hfin : Only (fun _ => False) w wr := HO0.out.same (HO1.out.same HOr.out)
   have hszz := (HO0.out.same HO1.out).size
   clear ro HRo
   go_wp2_with fail
   go_ret
   exact ⟨_, rfl, HRo2.out, fun k hk => by have := HB.out k hk; omega, hfin⟩
end
namespace Tr
theorem Ok.lvl_rng {T : Trail} (o : Ok T) (l : Int) : -1 ≤ T.lvl l ∧ T.lvl l ≤ 65536 := by
 have hl : T.levels.length ≤ 65536 := by
  have h1 := o.levn
  have h2 := lits_len T
  have h3 := o.good.len
  have h4 := o.n
  omega
 unfold Trail.lvl Trail.at
 split
 ·unfold atomOf
  split
  ·rename_i x hx
   have hm := List.mem_of_find?_eq_some hx
   have h5 := (o.rea x hm).2.2
   exact ⟨by show (-1 : Int) ≤ (x.2.1 : Int); omega, by show (x.2.1 : Int) ≤ 65536; omega⟩
  ·exact ⟨by show (-1 : Int) ≤ 0; omega, by show (0 : Int) ≤ 65536; omega⟩
 ·exact ⟨by show (-1 : Int) ≤ -1; omega, by show (-1 : Int) ≤ 65536; omega⟩
def Trail.lev1 (T : Trail) (ks : List Int) (x : Int) : List Int := if 0 ≤ T.lvl x then addK ks (T.lvl x) else ks
def Trail.levs (T : Trail) (l : List Int) : List Int := l.foldl T.lev1 []
theorem levs_snoc (T : Trail) (l : List Int) (x : Int) : T.levs (l ++ [x]) = T.lev1 (T.levs l) x := by
 unfold Trail.levs; rw [List.foldl_append]; rfl
theorem lev1_len (T : Trail) (ks : List Int) (x : Int) : (T.lev1 ks x).length ≤ ks.length + 1 := by
 unfold Trail.lev1; split
 ·unfold addK; split <;> simp
 ·omega
theorem levs_len (T : Trail) : ∀ (k : Nat) (l : List Int), (T.levs (l.take k)).length ≤ k
 | 0, l => by simp [Trail.levs]
 | k + 1, l => by
  by_cases hk : k < l.length
  ·rw [take_snocI l k hk, levs_snoc]
   have h1 := levs_len T k l
   have h2 := lev1_len T (T.levs (l.take k)) (l.getD k 0)
   omega
  ·have h1 := levs_len T k l
   rw [List.take_of_length_le (by omega)] at h1 ⊢
   omega
end Tr
section
variable {w : World} {g : Tag} {b : Nat} {V : TrV} {T : Trail}
set_option maxRecDepth 100000 in
set_option maxHeartbeats 3200000 in
theorem Levels_any (H : TrAt w g b V T) (o : Ok T) {v : Value} {l : List Int} (hI : Ints w v l) (hlen : l.length ≤ 1099511627776) :
  Calls Tryz.prog 75 #[.pointer (some ⟨b, 0, none⟩), v] w fun e w' => e = .returned (.int .i64 ((T.levs l).length : Int)) ∧ Only (fun _ => False) w w' := by
 obtain ⟨ai, ci, rfl, -, -⟩ := hI.shape
 obtain ⟨w0, hw0⟩ : ∃ w0, w.alloc (.map #[] 0) = w0 := ⟨_, rfl⟩
 obtain ⟨B, hB⟩ : ∃ B, w.heap.size = B := ⟨_, rfl⟩
 have o0 : Only (fun _ => False) w w0 := by rw [← hw0]; exact (Only.refl _ _).alloc _
 have hm : IMap w0 B [] (fun _ => 0) := by rw [← hw0, ← hB]; exact IMap.made w
 have hmm : (Instr.makeMap 138 none).run Tryz.prog w = .ok (.map (some B)) w0 := by rw [run_makeMap, hw0, hB]
 have hlt : ∀ W, Only (fun k => k = B) w0 W → Only (fun _ => False) w W := fun W oW => o0.trans oW fun k hk => .inr (by omega)
 have HLt := Lib.hid hlt
 have HH := Lib.hid H
 have HOk := Lib.hid o
 have HI := Lib.hid hI
 have HM := Lib.hid hm
 clear H o hI hm o0 hlt
 go_enter Tryz.func75, Tryz.ntmps75
 go_wp2_with fail
 go_loopw [12] (fun v wr => ∃ (j : Nat) (f : Int → Int), v = .int .i64 j ∧ j ≤ l.length ∧ IMap wr B (T.levs (l.take j)) f ∧ Only (fun k => k = B) w0 wr) (fun v _ => l.length - (intOf v).toNat)
 case atStart => exact ⟨0, _, rfl, Nat.zero_le _, HM.out, Only.refl _ _⟩
 case round =>
  clear HM
  obtain ⟨j, f, rfl, hj, hm, hO⟩ := hrel
  have HM := Lib.hid hm
  have HO := Lib.hid hO
  clear hm hO
  by_cases cj : j < l.length
  ·obtain ⟨bl, ol, rfl, _, hcs⟩ := (HI.out.only0 (HLt.out _ HO.out)).cells _ _ _ rfl (by omega)
   have qx := hcs j cj
   have hx := HI.out.range' j
   have hsn := levs_snoc T (l.take j) (l.getD j 0)
   rw [← take_snocI l j cj] at hsn
   have hln := levs_len T j l
   obtain ⟨x, hxe⟩ : ∃ x, l.getD j 0 = x := ⟨_, rfl⟩
   rw [hxe] at qx hx hsn
   obtain ⟨q, hq⟩ : ∃ q, T.lvl x = q := ⟨_, rfl⟩
   have hrq := HOk.out.lvl_rng x
   unfold Trail.lev1 at hsn
   rw [hq] at hrq hsn
   have hqi : InI64 q := by unfold InI64; omega
   have hlv := learn_level_any (HH.out.only0 (HLt.out _ HO.out)) HOk.out x hx q hq
   have HLv := Lib.hid hlv
   have HSn := Lib.hid hsn
   have ewj : IntKind.i64.wrap ((j : Int) + 1) = ((j + 1 : Nat) : Int) := by rw [IntWalk.i64_in _ (by omega)]; rfl
   obtain ⟨L, hL⟩ : ∃ L, T.levs (l.take j) = L := ⟨_, rfl⟩
   rw [hL] at HM HSn hln
   clear hcs hxe hlv hsn hq hL hrq
   go_wp2_with fail
   refine HLv.out.mono ?_
   rintro e w1 ⟨rfl, O1⟩
   have hM1 := HM.out.only0 O1
   have hO1 := HO.out.same (O1.mono fun _ f => f.elim)
   have HO1 := Lib.hid hO1
   clear O1 qx hO1
   by_cases hq0 : 0 ≤ q
   ·have dq : decide (0 ≤ q) = true := decide_eq_true hq0
    have hlk := hM1.look hqi
    obtain ⟨y, hy⟩ : ∃ y, f q = y := ⟨_, rfl⟩
    rw [hy] at hlk
    obtain ⟨w2, hst, hM2, hO2⟩ := hM1.store (v := w64 (y + 1)) hqi (w64_in _) (by unfold maxLen; omega)
    have hz : IMap w2 B (T.levs (l.take (j + 1))) (upd f q (w64 (y + 1))) := by rw [HSn.out, if_pos hq0]; exact hM2
    have HZ := Lib.hid hz
    have hOz := HO1.out.trans hO2 fun k hk => .inl hk
    have HOz := Lib.hid hOz
    unfold w64 at hst
    have hst2 := hst
    rw [IntWalk.i64_left] at hst2
    clear hM2 hO2 hz hOz hM1
    go_wp2_with fail
    go_roundw
    case rel => exact ⟨j + 1, _, by first | rfl | go_num, by omega, HZ.out, HOz.out⟩
    case measure => simp [intOf] <;> omega
   ·have dq : decide (0 ≤ q) = false := decide_eq_false hq0
    have hz : IMap w1 B (T.levs (l.take (j + 1))) f := by rw [HSn.out, if_neg hq0]; exact hM1
    have HZ := Lib.hid hz
    clear hz hM1
    go_wp2_with fail
    go_roundw
    case rel => exact ⟨j + 1, _, by first | rfl | go_num, by omega, HZ.out, HO1.out⟩
    case measure => simp [intOf] <;> omega
  ·have hjl : j = l.length := by omega
   have hm := HM.out
   rw [hjl, List.take_of_length_le (Nat.le_refl _)] at hm
   have hlen2 := fun ty => hm.len ty
   have hfin := HLt.out _ HO.out
   have HFin := Lib.hid hfin
   clear hm HM hfin
   subst hjl
   go_wp2_with fail
   go_ret
   exact ⟨rfl, HFin.out⟩
theorem enter_From1 : ∀ args w, (callFunc 118 args).run Tryz.prog w = .ok (.enter 118 args) w := enters_of Tryz.func118 (by kernel_rfl) rfl
theorem From1_any (H : TrAt w g b V T) (o : Ok T) (bt : Nat) (hbt : w.cell? ⟨bt, 0, none⟩ = some (.pointer (some ⟨b, 0, none⟩))) (x : Int) (hx : InI64 x) :
  Calls Tryz.prog 118 #[.int .i64 x, .pointer (some ⟨bt, 0, none⟩)] w fun e w' => e = .returned (.bool (decide (0 ≤ T.val x))) ∧ w = w' := by
 obtain ⟨r, hr⟩ : ∃ r, T.val x = r := ⟨_, rfl⟩
 have hv := prop_Value_any H o x hx r hr
 have HV := Lib.hid hv
 rw [hr]
 clear hv hr H o
 go_enter Tryz.func118, Tryz.ntmps118
 go_wp2_with fail
 refine HV.out.mono ?_
 rintro e w1 ⟨rfl, rfl⟩
 go_wp2_with fail
 go_ret
 exact ⟨rfl, rfl⟩
end
end Go.Proofs.YtjedgdamommgeaaGreat
