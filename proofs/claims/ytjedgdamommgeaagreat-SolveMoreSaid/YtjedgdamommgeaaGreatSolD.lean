/- Sol16 Sol17, in one text. -/
import Derived.Test.YtjedgdamommgeaaGreatSol15
set_option linter.unusedVariables false
namespace Go.Proofs.YtjedgdamommgeaaGreat
open Go.RowKit
open Tr
theorem least_fun {α β : Type} (R : α → β → Nat → Prop) : ∃ μ : α → β → Nat, ∀ a b, (∃ m, R a b m) → R a b (μ a b) ∧ ∀ m, R a b m → μ a b ≤ m := by
 have h : ∀ a b, ∃ k, (∃ m, R a b m) → R a b k ∧ ∀ m, R a b m → k ≤ m := by
  intro a b
  by_cases hx : ∃ m, R a b m
  ·obtain ⟨m, hm⟩ := hx
   have key : ∀ n, ∀ m, m ≤ n → R a b m → ∃ k, R a b k ∧ ∀ m, R a b m → k ≤ m := by
    intro n
    induction n with
    | zero => intro m hm h; exact ⟨m, h, fun x _ => by omega⟩
    | succ n ih =>
     intro m hm h
     by_cases hy : ∃ x, x ≤ n ∧ R a b x
     ·obtain ⟨x, h1, h2⟩ := hy; exact ih x h1 h2
     ·refine ⟨m, h, fun x hx => ?_⟩
      by_cases c : x ≤ n
      ·exact absurd ⟨x, c, hx⟩ hy
      ·omega
   obtain ⟨k, hk⟩ := key m m (Nat.le_refl _) hm
   exact ⟨k, fun _ => hk⟩
  ·exact ⟨0, fun h => absurd h hx⟩
 exact ⟨fun a b => Classical.choose (h a b), fun a b => Classical.choose_spec (h a b)⟩
structure SolI (n : Nat) (O : List (List Int)) (l0 : Int) (S : Sv.St) (met : Int) : Prop where
 holds : Sv.Holds n O S
 m0 : 0 ≤ met
 cls : (S.T.cls.length : Int) ≤ 1000000 + met
 prf : (S.proof.length : Int) + S.learnt.length ≤ 2000000 + 2 * met
 lrn : (S.learnt.length : Int) ≤ l0 + met
 left : 1 ≤ S.left ∧ S.left ≤ 32 * (S.turns + 2)
 turns : 0 ≤ S.turns ∧ S.turns ≤ 1000000 + met
 keep : 300 ≤ S.keep ∧ S.keep ≤ 9223372036854775807
section
variable {n : Nat} {O : List (List Int)} {l0 : Int} {S : Sv.St} {met : Int}
theorem SolI.back (h : SolI n O l0 S met) (x : Int) : SolI n O l0 { S with T := S.T.back x } met :=
 ⟨h.holds.back x, h.m0, by show ((S.T.back x).cls.length : Int) ≤ _; rw [(back_same S.T x).1]; exact h.cls, h.prf, h.lrn, h.left, h.turns, h.keep⟩
theorem SolI.foll (h : SolI n O l0 S met) {T' : Trail} {r : Int} (hf : Foll S.T T' r) : SolI n O l0 { S with T := T' } met := by
 obtain ⟨_, ex, _⟩ := foll_post hf h.holds.inv
 exact ⟨h.holds.foll hf, h.m0, by show (T'.cls.length : Int) ≤ _; rw [ex.len]; exact h.cls, h.prf, h.lrn, h.left, h.turns, h.keep⟩
theorem SolI.dec (h : SolI n O l0 S met) {l : Int} (hl : l ≠ 0 ∧ l.natAbs ≤ S.T.n) (hv : S.T.val l = 0) : SolI n O l0 { S with T := S.T.dec l } met :=
 ⟨h.holds.dec hl hv, h.m0, h.cls, h.prf, h.lrn, h.left, h.turns, h.keep⟩
theorem proves_len (c : List Int) : (Sv.proves c).length ≤ 1 := by unfold Sv.proves; split <;> simp
theorem SolI.learn (h : SolI n O l0 S met) {D : List (List Int)} {top first : Int} {rest : List Int} {L : Less} (hL : L.clause = first :: rest) (W : Taught S.T D top first rest) (he : Sv.Ent O (first :: rest)) (hb : S.T.cls.length < 2147483648) : SolI n O l0 (S.learn L) (met + 1) := by
 have hm := h.m0
 have h1 := h.cls
 have h2 := h.prf
 have h3 := h.lrn
 have h4 := h.turns
 obtain ⟨f1, f2, f3⟩ := Sv.taught_form h.holds.inv W L.back
 have hT : (S.learn L).T = (S.T.back L.back).add (Cnf.formL (first :: rest)) := by unfold Sv.St.learn; simp only [hL]; exact f2
 refine ⟨h.holds.learn hL W he hb, by omega, ?_, ?_, ?_, h.left, ⟨h4.1, by show S.turns ≤ _; omega⟩, h.keep⟩
 ·rw [hT]
  show (((S.T.back L.back).cls ++ [Cnf.formL (first :: rest)]).length : Int) ≤ _
  rw [List.length_append, (back_same S.T L.back).1]
  simp only [List.length_singleton]
  omega
 ·show ((S.proof ++ Sv.proves L.clause).length : Int) + (S.learnt ++ [_]).length ≤ _
  have := proves_len L.clause
  simp only [List.length_append, List.length_singleton]
  omega
 ·show ((S.learnt ++ [_]).length : Int) ≤ _
  simp only [List.length_append, List.length_singleton]
  omega
theorem split_len {α : Type} (p : α → Bool) : ∀ l : List α, (l.filter p).length + (l.filter fun x => !p x).length = l.length
 | [] => rfl
 | x :: l => by
  have ih := split_len p l
  cases h : p x
  ·simp only [List.filter_cons, h, Bool.not_false, if_true, Bool.false_eq_true, if_false, List.length_cons]; omega
  ·simp only [List.filter_cons, h, Bool.not_true, if_true, Bool.false_eq_true, if_false, List.length_cons]; omega
theorem nodup_sub_len {α : Type} [BEq α] [LawfulBEq α] : ∀ {a b : List α}, a.Nodup → (∀ x ∈ a, x ∈ b) → a.length ≤ b.length
 | [], b, _, _ => Nat.zero_le _
 | x :: a, b, hn, hs => by
  have hx : x ∈ b := hs x (by simp)
  have hp := List.perm_cons_erase hx
  have h1 := hp.length_eq
  rw [List.nodup_cons] at hn
  have h2 := nodup_sub_len (a := a) (b := b.erase x) hn.2 fun y hy => by
   have hyb := (hp.mem_iff (a := y)).1 (hs y (by simp [hy]))
   rcases List.mem_cons.1 hyb with e | e
   ·subst e; exact absurd hy hn.1
   ·exact e
  simp only [List.length_cons] at h1 ⊢
  omega
theorem gone_len {gone : List Int} (hg : Sv.Gone S gone) : gone.length + (S.learnt.filter fun x => !gone.contains x.num).length ≤ S.learnt.length := by
 have h1 := split_len (fun x : Sv.Note => gone.contains x.num) S.learnt
 have h2 : gone.length ≤ ((S.learnt.filter fun x => gone.contains x.num).map (·.num)).length := nodup_sub_len hg.nd fun k hk => by
  obtain ⟨x, hx, e, _⟩ := hg.sub k hk
  refine List.mem_map.2 ⟨x, List.mem_filter.2 ⟨hx, ?_⟩, e⟩
  rw [e]; simpa using hk
 rw [List.length_map] at h2
 omega
theorem SolI.after {S1 : Sv.St} (h : SolI n O l0 S met) (ht : S.turns + 1 ≤ 1000000 + met) (ha : Sv.After Sv.paceF S S1) : SolI n O l0 S1 met := by
 have hh := h.holds.after ha
 have he := ha.T_eq.1
 have h1 := h.cls
 cases ha with
 | @mk l t k an fg gone hp hg hn =>
  have hgl : gone.length + (S.learnt.filter fun x => !gone.contains x.num).length ≤ S.learnt.length := by
   cases fg with
   | false =>
    obtain rfl := hn rfl
    have := List.length_filter_le (fun x : Sv.Note => !([] : List Int).contains x.num) S.learnt
    simp only [List.length_nil, Nat.zero_add]; exact this
   | true => exact gone_len (S := { S with T := if an then S.T.back 0 else S.T }) (hg rfl)
  have h2 := h.prf
  have h3 := h.lrn
  have h4 := h.left
  have h5 := h.turns
  have h6 := h.keep
  unfold Sv.paceF at hp
  simp only [Prod.mk.injEq] at hp
  obtain ⟨⟨p1, p2, p3⟩, _, _⟩ := hp
  obtain ⟨m, hm⟩ : ∃ m : Nat, (S.turns + 2).toNat = m := ⟨_, rfl⟩
  have hr := row_pos m m (by omega) (Nat.le_refl _)
  rw [hm] at p1
  have hr2 : Sv.rowF m m = Sv.row m := rfl
  rw [hr2] at hr
  refine ⟨hh, h.m0, by rw [he]; exact h1, ?_, ?_, ?_, ?_, ?_⟩
  ·show ((S.proof ++ gone.map _).length : Int) + (S.learnt.filter _).length ≤ _
   rw [List.length_append, List.length_map]
   omega
  ·show ((S.learnt.filter fun x => !gone.contains x.num).length : Int) ≤ _
   omega
  ·show 1 ≤ l ∧ l ≤ 32 * (t + 2)
   subst p1 p2
   by_cases c : S.left - 1 = 0
   ·rw [if_pos c, if_pos c]; omega
   ·rw [if_neg c, if_neg c]; omega
  ·show 0 ≤ t ∧ t ≤ _
   subst p2
   by_cases c : S.left - 1 = 0
   ·rw [if_pos c]; omega
   ·rw [if_neg c]; omega
  ·show 300 ≤ k ∧ k ≤ 9223372036854775807
   subst p3
   by_cases c : S.keep < (S.learnt.length : Int)
   ·rw [if_pos c]; omega
   ·rw [if_neg c]; omega
def solM (n : Nat) (bud : Int) (S : Sv.St) (met : Int) : Nat := (bud + 1 - met).toNat * (n + 1) + (n - S.T.ents.length)
theorem solM_dec {bud : Int} (h : Sv.Holds n O S) {T' : Trail} {r : Int} (hf : Foll S.T T' r) {l : Int} (hl : l ≠ 0 ∧ l.natAbs ≤ T'.n) (hv : T'.val l = 0) : solM n bud { S with T := T'.dec l } met < solM n bud S met := by
 have h1 := h.foll hf
 have i2 := (h1.dec hl hv).inv
 obtain ⟨_, ex, _⟩ := foll_post hf h.inv
 obtain ⟨r2, hr2⟩ := ex.ents
 have hle := Sv.ents_le i2
 have hde : (T'.dec l).ents.length = T'.ents.length + 1 := by
  have h3 := lits_len (T'.dec l)
  have h4 : (T'.dec l).lits = T'.lits ++ [l] := lits_put _ l (-1)
  have h5 := lits_len T'
  rw [h4, List.length_append] at h3
  simp at h3; omega
 have hn : T'.n = n := h1.hn
 have hle : (T'.dec l).ents.length ≤ T'.n := hle
 have hlen : S.T.ents.length ≤ T'.ents.length := by rw [hr2, List.length_append]; omega
 unfold solM
 show _ + (n - (T'.dec l).ents.length) < _
 omega
theorem solM_on {bud : Int} {S2 : Sv.St} (hm : met + 1 ≤ bud) : solM n bud S2 (met + 1) < solM n bud S met := by
 unfold solM
 obtain ⟨x, hx⟩ : ∃ x : Nat, (bud + 1 - (met + 1)).toNat = x := ⟨_, rfl⟩
 have hy : (bud + 1 - met).toNat = x + 1 := by omega
 rw [hx, hy, Nat.succ_mul]
 omega
end
def AnsAt (w w' : World) (a : Sv.Ans) (cs : Array Value) : Prop :=
 match a with
 | .sat m met => ∃ vm, cs = #[.int .u8 1, vm, nilS, .int .i64 met] ∧ w'.ownsRow 0 4 1 vm m.length (m.map Value.bool) ∧ ∀ k, vm.ownBlock = some k → w.heap.size ≤ k
 | .unsat core met => ∃ vc, cs = #[.int .u8 2, nilS, vc, .int .i64 met] ∧ w'.ownsRow 0 3 1 vc core.length (core.map cI) ∧ ∀ k, vc.ownBlock = some k → w.heap.size ≤ k
 | .spent met => cs = #[.int .u8 3, nilS, nilS, .int .i64 met]
def SolTo (w : World) (G : Tag) (b : Nat) (qs : List Int) (bud : Int) (S : Sv.St) (e : Ending) (w' : World) : Prop :=
 ∃ S2 a cs, Sv.Run Sv.paceF qs bud { S with T := S.T.back 0 } 0 S2 a ∧ e = .returned (.agg cs) ∧ AnsAt w w' a cs ∧ SvOk w G b S2 w'
def FgOk : Prop := ∀ (w : World) (G : Tag) (b : Nat) (V : SvV) (S : Sv.St), SvAt w G b V S → Opens V S → (∃ n O, Sv.Holds n O S) → S.proof.length + S.learnt.length ≤ 1099511627776 →
 Calls Tryz.prog 45 #[.pointer (some ⟨b, 0, none⟩)] w fun e w' => e = .returned (.tuple #[]) ∧ ∃ gone, Sv.Gone S gone ∧ SvOk w G b (S.forget gone) w'
inductive DecReach (qs : List Int) (S0 : Sv.St) : Sv.St → Prop
 | refl : DecReach qs S0 S0
 | ask {S : Sv.St} {T' : Trail} {l : Int} : DecReach qs S0 S → Foll S.T T' (-1) → Sv.asks T' qs = some (l, false) → DecReach qs S0 { S with T := T'.dec l }
 | pick {S : Sv.St} {T' : Trail} {l : Int} : DecReach qs S0 S → Foll S.T T' (-1) → Sv.asks T' qs = none → (l ≠ 0 ∧ l.natAbs ≤ T'.n) → T'.val l = 0 → DecReach qs S0 { S with T := T'.dec l }
def Calm (qs : List Int) (S0 : Sv.St) : Prop := ∀ S1, DecReach qs S0 S1 → ∀ T' k L, Foll S1.T T' k → 0 ≤ k → T'.lesson k = some (some L) → False
theorem ret_sol {Q : Ending → World → Prop} {a : Act} {W : World} {B : Nat} {cs : Array Value} (hp : a.tmps.getD 6 undef = .pointer (some ⟨B, 0, none⟩)) (hd : a.defers = []) (hs : cs.size = 4) (hg : W.heap[B]? = some (.cells cs 30 (0, 0)))
  (h : Q (.returned (.agg cs)) W) : bodyPost Tryz.prog Tryz.f14 Q Exit.ret a W := by
 refine bodyPost_ret (v := .agg cs) ?_ hd h
 exact results_cell_row rfl _ W B 30 cs (0, 0) _ hp hg Tryz.underlying30 rfl (by rw [hs]; kernel_rfl)
section
variable {w wB wr w' : World} {G G' : Tag} {b : Nat} {V : SvV} {S : Sv.St}
theorem SvOk.put (h : SvOk wB G b S wr) (oB : Only (fun _ => False) w wB) {q : Nat} (hq1 : w.heap.size ≤ q) (hq2 : q < wB.heap.size) (h0 : (G q).1 = 0) (ho : Only (fun k => k = q) wr w') : SvOk w G b S w' := by
 obtain ⟨G1, V1, H1, p1, A1, O1⟩ := h
 exact ⟨G1, V1, H1.off (by rw [A1 q hq2]; exact h0) ho, p1, fun k hk => A1 k (Nat.lt_of_lt_of_le hk oB.size), ((oB.mono fun _ f => f.elim).same O1).trans ho fun k hk => .inr (by subst hk; exact hq1)⟩
theorem AnsAt.put {a : Sv.Ans} {cs ds : Array Value} (h : AnsAt wB wr a cs) (oB : w.heap.size ≤ wB.heap.size) {q : Nat} (hq2 : q < wB.heap.size) : AnsAt w (wr.setRow q ds) a cs := by
 have ho := only_setRow wr q ds
 cases a with
 | sat m met =>
  obtain ⟨vm, h1, h2, h3⟩ := h
  exact ⟨vm, h1, own_only h2 ho (fun k hk e => by have := h3 k hk; omega), fun k hk => Nat.le_trans oB (h3 k hk)⟩
 | unsat core met =>
  obtain ⟨vc, h1, h2, h3⟩ := h
  exact ⟨vc, h1, own_only h2 ho (fun k hk e => by have := h3 k hk; omega), fun k hk => Nat.le_trans oB (h3 k hk)⟩
 | spent met => exact h
theorem SvOk.learnsNo (h : SvOk w G b S wr) (I : Inv S.T) (k : Int) (hle : S.T.lesson k = none ∨ S.T.lesson k = some none) (hp : S.proof.length + 1 ≤ 1099511627776) :
  Calls Tryz.prog 43 #[.pointer (some ⟨b, 0, none⟩), .int .i64 k] wr fun e w' => e = .returned (.bool false) ∧ SvOk w G b { S with dead := true, proof := S.proof ++ [(false, [])] } w' := by
 obtain ⟨G1, V1, H1, p1, A1, O1⟩ := h
 exact (solve_learns_no H1 I p1 k hle hp).mono fun e w' h => ⟨h.1, h.2.pre A1 O1⟩
theorem SvOk.learnsYes (h : SvOk w G b S wr) (I : Inv S.T) (k : Int) {L : Less} (hle : S.T.lesson k = some (some L)) (hg : Up.Good S.T.n L.clause) (hne : 0 < L.clause.length) (hbk : InI64 L.back) (hcls : S.T.cls.length < 2147483648) (hp : S.proof.length + 1 ≤ 1099511627776) (hln : S.learnt.length + 1 ≤ 1099511627776) :
  Calls Tryz.prog 43 #[.pointer (some ⟨b, 0, none⟩), .int .i64 k] wr fun e w' => e = .returned (.bool true) ∧ SvOk w G b (S.learn L) w' := by
 obtain ⟨G1, V1, H1, p1, A1, O1⟩ := h
 exact (solve_learns_yes H1 I p1 k hle hg hne hbk hcls hp hln).mono fun e w' h => ⟨h.1, h.2.pre A1 O1⟩
theorem SvOk.forgets (h : SvOk w G b S wr) (hf : FgOk) {n : Nat} {O : List (List Int)} (hh : Sv.Holds n O S) (hp : S.proof.length + S.learnt.length ≤ 1099511627776) :
  Calls Tryz.prog 45 #[.pointer (some ⟨b, 0, none⟩)] wr fun e w' => e = .returned (.tuple #[]) ∧ ∃ gone, Sv.Gone S gone ∧ SvOk w G b (S.forget gone) w' := by
 obtain ⟨G1, V1, H1, p1, A1, O1⟩ := h
 exact (hf _ _ _ _ _ H1 p1 ⟨n, O, hh⟩ hp).mono fun e w' h => ⟨h.1, h.2.choose, h.2.choose_spec.1, h.2.choose_spec.2.pre A1 O1⟩
end
theorem fold_rng {T : Trail} (o : Ok T) : ∀ (l : List Int) (b : Int), 0 ≤ b → b ≤ 65536 → 0 ≤ l.foldl (fun b l => max b (T.lvl l)) b ∧ l.foldl (fun b l => max b (T.lvl l)) b ≤ 65536
 | [], b, h1, h2 => ⟨h1, h2⟩
 | x :: l, b, h1, h2 => by
  have := o.lvl_rng x
  exact fold_rng o l (max b (T.lvl x)) (by omega) (by omega)
section
variable {w w' : World} {G G' : Tag} {b : Nat} {V : SvV} {S : Sv.St}
set_option maxRecDepth 100000 in
set_option maxHeartbeats 12800000 in
theorem solve_Solve_any {n : Nat} {O : List (List Int)} {l0 : Int} (H : SvAt w G b V S) (hop : Opens V S) (hi : SolI n O l0 S 0) {v : Value} {qs : List Int} (hI : Ints w v qs) (hN : NotMine G v qs) (hqb : qs.length ≤ 1000000) (has : ∀ a ∈ qs, a ≠ 0 ∧ a.natAbs ≤ n)
  (bud : Int) (hb1 : InI64 bud) (hb2 : bud ≤ 1048576) (hfg : (l0 = 0 ∧ bud ≤ 300) ∨ FgOk ∨ Calm qs { S with T := S.T.back 0 }) (hl0 : l0 ≤ 1000000) :
  Calls Tryz.prog 14 #[.pointer (some ⟨b, 0, none⟩), v, .int .i64 bud] w (SolTo w G b qs bud S) := by
 obtain ⟨av, cv, rfl, -, -⟩ := hI.shape
 have hTn : S.T.n = n := hi.holds.hn
 have hn := hi.holds.inv.ok.n
 rw [hTn] at hn
 obtain ⟨B, hB⟩ : ∃ B, w.heap.size = B := ⟨_, rfl⟩
 obtain ⟨wB, hwB⟩ : ∃ wB, w.alloc (.cells #[.int .u8 0, nilS, nilS, .int .i64 0] 30) = wB := ⟨_, rfl⟩
 have hbB : wB.heap[B]? = some (.cells #[.int .u8 0, nilS, nilS, .int .i64 0] 30 (0, 0)) := by rw [← hwB, ← hB]; exact heap_alloc_new _ _
 have oB : Only (fun _ => False) w wB := by rw [← hwB]; exact (Only.refl _ _).alloc _
 have hGB : (G B).1 = 0 := H.fresh B (by omega)
 have hBl : B < wB.heap.size := lt_block hbB
 have H0 := H.only0 oB
 have hok : SvOk wB G b S wB := SvOk.refl H0 hop
 have hIB := hI.only0 oB
 have hkeep : ∀ W, Only (Mine G) wB W → W.heap[B]? = some (.cells #[.int .u8 0, nilS, nilS, .int .i64 0] 30 (0, 0)) ∧ Ints W (.slice av qs.length cv) qs := fun W hW => ⟨only_block hbB hW (fun h => h hGB), hIB.mine hN hW⟩
 have his : ∀ x ∈ qs, Calls Tryz.prog 37 #[.pointer (some ⟨b, 0, none⟩), .int .i64 x] wB fun e w' => e = .returned (.bool true) ∧ wB = w' := fun x hx => solve_is_any H0 (by rw [hTn]; exact hn) x (hI.range x hx) true (decide_eq_true (by rw [hTn]; exact has x hx))
 have hback := hok.back hi.holds.inv 0 (by unfold InI64; omega)
 obtain ⟨S0, hS0⟩ : ∃ S0, ({ S with T := S.T.back 0 } : Sv.St) = S0 := ⟨_, rfl⟩
 rw [hS0] at hfg
 have hi0 : SolI n O l0 S0 0 := by rw [← hS0]; exact hi.back 0
 rw [hS0] at hback
 have hdone : ∀ S2 a W cs, Sv.Run Sv.paceF qs bud S0 0 S2 a → SvOk wB G b S2 W → AnsAt wB W a cs → SolTo w G b qs bud S (.returned (.agg cs)) (W.setRow B cs) := by
  intro S2 a W cs h1 h2 h3
  refine ⟨S2, a, cs, by rw [hS0]; exact h1, rfl, h3.put oB.size hBl, h2.put oB (by omega) hBl hGB (only_setRow _ _ _)⟩
 obtain ⟨R, hR⟩ : ∃ R : Value → World → Nat → Prop, R = fun v9 wr m => ∃ S1 met, v9 = .int .i64 met ∧ (met = 0 ∨ met ≤ bud) ∧ SvOk wB G b S1 wr ∧ SolI n O l0 S1 met ∧ (∀ S2 a, Sv.Run Sv.paceF qs bud S1 met S2 a → Sv.Run Sv.paceF qs bud S0 0 S2 a) ∧ (Calm qs S0 → DecReach qs S0 S1) ∧ m = solM n bud S1 met := ⟨_, rfl⟩
 obtain ⟨μ, hμ⟩ := least_fun R
 have HR := Lib.hid hR
 have HMu := Lib.hid hμ
 have HDone := Lib.hid hdone
 have HBack := Lib.hid hback
 have HIs := Lib.hid his
 have HKeep := Lib.hid hkeep
 have HI0 := Lib.hid hi0
 have HAs := Lib.hid has
 have HFg := Lib.hid hfg
 have HIB := Lib.hid hIB
 have HBB := Lib.hid hbB
 clear hR hμ hdone hback his hkeep hi0 has hfg hIB hi hS0 H0 hok H hop hI hN hTn hbB hGB hBl oB
 go_enter Tryz.func14, Tryz.ntmps14
 go_wp2_with fail
 go_loopw [20] (fun v wr => wB = wr ∧ ∃ j : Nat, v = .int .i64 j ∧ j ≤ qs.length) (fun v _ => qs.length - (intOf v).toNat)
 case atStart => exact ⟨rfl, 0, rfl, Nat.zero_le _⟩
 case round =>
  obtain ⟨rfl, j, rfl, hj⟩ := hrel
  by_cases cj : j < qs.length
  ·obtain ⟨bl, ol, rfl, _, hcs⟩ := HIB.out.cells _ _ _ rfl (by omega)
   have qx := hcs j cj
   have hx := HIs.out _ (getD_mem' 0 cj)
   obtain ⟨x, hxe⟩ : ∃ x, qs.getD j 0 = x := ⟨_, rfl⟩
   rw [hxe] at qx hx
   have HX := Lib.hid hx
   have ewj : IntKind.i64.wrap ((j : Int) + 1) = ((j + 1 : Nat) : Int) := by rw [IntWalk.i64_in _ (by omega)]; rfl
   clear hcs hxe hx
   go_wp2_with fail
   refine HX.out.mono ?_
   rintro e w1 ⟨rfl, rfl⟩
   go_wp2_with fail
   go_roundw
   case rel => exact ⟨by first | rfl | trivial, j + 1, by first | rfl | go_num, by omega⟩
   case measure => simp [intOf] <;> omega
  ·have hjl : j = qs.length := by omega
   subst hjl
   go_wp2_with fail
   refine HBack.out.mono ?_
   rintro e w1 ⟨rfl, h1⟩
   have hst : ∃ m, R (.int .i64 0) w1 m := ⟨_, by rw [HR.out]; exact ⟨S0, 0, rfl, .inl rfl, h1, HI0.out, fun _ _ h => h, fun _ => DecReach.refl, rfl⟩⟩
   have HSt := Lib.hid hst
   clear hst h1 HBack HI0 HIs HIB
   go_wp2_with fail
   go_loopw [9] (fun v9 wr => ∃ m, R v9 wr m) (fun v9 wr => μ v9 wr)
   case atStart => exact HSt.out
   case round =>
    clear HSt
    have hmin := (HMu.out _ _ hrel).1
    rw [HR.out] at hmin
    obtain ⟨S1, met, rfl, hmb, h1, hI1, hrun, hdr, hmm⟩ := hmin
    have hcont : ∀ S2 met2 wr2, (met2 = 0 ∨ met2 ≤ bud) → SvOk wB G b S2 wr2 → SolI n O l0 S2 met2 → (∀ S3 a, Sv.Run Sv.paceF qs bud S2 met2 S3 a → Sv.Run Sv.paceF qs bud S1 met S3 a) → (Calm qs S0 → DecReach qs S0 S2) → solM n bud S2 met2 < solM n bud S1 met → (∃ m, R (.int .i64 met2) wr2 m) ∧ μ (.int .i64 met2) wr2 < μ (.int .i64 met) wr := by
     intro S2 met2 wr2 g1 g2 g3 g4 g6 g5
     have hr2 : R (.int .i64 met2) wr2 (solM n bud S2 met2) := by rw [HR.out]; exact ⟨S2, met2, rfl, g1, g2, g3, fun S3 a h => hrun _ _ (g4 _ _ h), g6, rfl⟩
     refine ⟨⟨_, hr2⟩, ?_⟩
     have := (HMu.out _ _ ⟨_, hr2⟩).2 _ hr2
     omega
    have hdn : ∀ S2 a W cs, Sv.Run Sv.paceF qs bud S1 met S2 a → SvOk wB G b S2 W → AnsAt wB W a cs → SolTo w G b qs bud S (.returned (.agg cs)) (W.setRow B cs) := fun S2 a W cs g1 g2 g3 => HDone.out S2 a W cs (hrun _ _ g1) g2 g3
    have HCont := Lib.hid hcont
    have HDr := Lib.hid hdr
    have HDn := Lib.hid hdn
    have HI1 := Lib.hid hI1
    have HH1 := Lib.hid h1
    have m0 := hI1.m0
    have q7 := h1.f.2.1
    have hm2 : met ≤ 1048576 := by omega
    obtain ⟨bt, q1, hfol⟩ := h1.follow hI1.holds.inv
    have HFol := Lib.hid hfol
    clear hcont hdn hI1 h1 hrun hmm hrel HDone hfol hdr
    cases hd : S1.dead with
    | true =>
     rw [hd] at q7
     have HBk := Lib.hid (HKeep.out wr HH1.out.on).1
     go_wp2_with (refine wpList_store_row rfl 30 (.tmp 6) (.tmp 98) rfl B #[.int .u8 2, nilS, nilS, .int .i64 met] rfl rfl 30 #[.int .u8 0, nilS, nilS, .int .i64 0] HBk.out (by kernel_rfl) rfl (by first | kernel_rfl | rfl | simp [Value.oneCell']) ?_)
     refine ret_sol rfl rfl rfl (setRow_heap _ _ _ _ _ _ HBk.out) ?_
     exact HDn.out _ _ _ _ (Sv.Run.dead hd) HH1.out ⟨nilS, rfl, World.ownsRow_nil _ _ _ _, fun k hk => by simp [Value.ownBlock] at hk⟩
    | false =>
     rw [hd] at q7
     have HD := Lib.hid hd
     clear hd
     go_wp2_with fail
     refine HFol.out.mono ?_
     clear HFol
     rintro e w2 ⟨T', r, hf, rfl, h2⟩
     have hI2 := HI1.out.foll hf
     have hfp := (foll_post hf HI1.out.holds.inv).2.2
     have HF := Lib.hid hf
     have HH2 := Lib.hid h2
     have hTn2 : T'.n = n := hI2.holds.hn
     have has2 : ∀ a ∈ qs, a ≠ 0 ∧ a.natAbs ≤ T'.n := by rw [hTn2]; exact HAs.out
     have hcl := hI2.cls
     have hpr := hI2.prf
     have hlr := hI2.lrn
     have HAs2 := Lib.hid has2
     have HI2 := Lib.hid hI2
     have HTn := Lib.hid hTn2
     clear hf h2 q1 q7 HH1 has2 hI2 hTn2
     rcases hfp with ⟨rfl, -, -⟩ | ⟨k, rfl, hlive, hneg⟩
     ·have hnx := HH2.out.next HI2.out.holds.inv (HKeep.out w2 HH2.out.on).2 (by omega) HAs2.out
      have HNx := Lib.hid hnx
      clear hnx
      go_wp2_with fail
      refine HNx.out.mono ?_
      clear HNx
      rintro e w3 (⟨l, a1, rfl, h3⟩ | ⟨l, a1, rfl, h3⟩ | ⟨a1, a2, rfl, h3⟩ | ⟨a1, l, a2, a3, a4, rfl, h3⟩)
      ·have sp := Sv.asks_spec (T := T') (qs := qs)
       rw [show Sv.asks T' qs = some (l, true) from a1] at sp
       have hl := HAs2.out l sp.1
       have hco := h3.core HI2.out.holds.inv (HKeep.out w3 h3.on).2 (by omega) HAs2.out (by show S1.proof.length + 1 ≤ _; have hpr : (S1.proof.length : Int) + S1.learnt.length ≤ _ := hpr; omega) l hl
       have HCo := Lib.hid hco
       have HA1 := Lib.hid a1
       have dl : (l != 0) = true := by simpa using hl.1
       have dl2 : (l == 0) = false := beq_eq_false_iff_ne.2 hl.1
       clear hco a1 sp h3 hl hcl hpr hlr
       go_wp2_with fail
       refine HCo.out.mono ?_
       clear HCo
       rintro e w4 ⟨vc, rfl, r4, n4, h4⟩
       obtain ⟨ac, cc, rfl, -, -⟩ := own_slice r4
       have HBk := Lib.hid (HKeep.out w4 h4.on).1
       have HH4 := Lib.hid h4
       have HR4 := Lib.hid r4
       have HN4 := Lib.hid n4
       clear h4 r4 n4
       go_wp2_with (refine wpList_store_row rfl 30 (.tmp 6) (.tmp 60) rfl B #[.int .u8 2, nilS, .slice ac (Sv.coreL qs l (T'.whyL (-l))).length cc, .int .i64 met] rfl rfl 30 #[.int .u8 0, nilS, nilS, .int .i64 0] HBk.out (by kernel_rfl) rfl (by first | kernel_rfl | rfl | simp [Value.oneCell']) ?_)
       refine ret_sol rfl rfl rfl (setRow_heap _ _ _ _ _ _ HBk.out) ?_
       exact HDn.out _ _ _ _ (Sv.Run.core HD.out HF.out HA1.out) HH4.out ⟨_, rfl, HR4.out, HN4.out⟩
      ·have sp := Sv.asks_spec (T := T') (qs := qs)
       rw [show Sv.asks T' qs = some (l, false) from a1] at sp
       have hl := HAs2.out l sp.1
       have hz := HCont.out { S1 with T := T'.dec l } met w3 hmb h3 (HI2.out.dec hl sp.2) (fun S3 a h => Sv.Run.ask HD.out HF.out a1 h) (fun hc => DecReach.ask (HDr.out hc) HF.out a1) (solM_dec HI1.out.holds HF.out hl sp.2)
       have HZ := Lib.hid hz
       clear hz sp hl a1 h3
       go_wp2_with fail
       go_roundw
       case rel => exact HZ.out.1
       case measure => exact HZ.out.2
      ·have hmo := h3.model HI2.out.holds.inv.ok
       have HMo := Lib.hid hmo
       have HA1 := Lib.hid a1
       have hall : ∀ i : Nat, 1 ≤ i → i ≤ T'.n → T'.val (i : Int) ≠ 0 := fun i h1 h2 => by
        have := a2 (i - 1) (by show i - 1 < T'.n; omega)
        rw [show ((i - 1 : Nat) : Int) + 1 = (i : Int) by omega] at this
        exact this
       have HAll := Lib.hid hall
       clear hmo a1 a2 h3 hall
       go_wp2_with fail
       refine HMo.out.mono ?_
       clear HMo
       rintro e w4 ⟨vm, rfl, r4, n4, h4⟩
       obtain ⟨ac, cc, rfl, -, -⟩ := own_slice r4
       have HBk := Lib.hid (HKeep.out w4 h4.on).1
       have HH4 := Lib.hid h4
       have HR4 := Lib.hid r4
       have HN4 := Lib.hid n4
       clear h4 r4 n4
       go_wp2_with (refine wpList_store_row rfl 30 (.tmp 6) (.tmp 66) rfl B #[.int .u8 1, .slice ac (Sv.modelL T').length cc, nilS, .int .i64 met] rfl rfl 30 #[.int .u8 0, nilS, nilS, .int .i64 0] HBk.out (by kernel_rfl) rfl (by first | kernel_rfl | rfl | simp [Value.oneCell']) ?_)
       refine ret_sol rfl rfl rfl (setRow_heap _ _ _ _ _ _ HBk.out) ?_
       exact HDn.out _ _ _ _ (Sv.Run.sat HD.out HF.out HA1.out HAll.out) HH4.out ⟨_, rfl, HR4.out, HN4.out⟩
      ·have a2' : l ≠ 0 ∧ l.natAbs ≤ T'.n := ⟨a2, a3⟩
       have a4' : T'.val l = 0 := a4
       have hz := HCont.out { S1 with T := T'.dec l } met w3 hmb h3 (HI2.out.dec a2' a4) (fun S3 a h => Sv.Run.pick HD.out HF.out a1 a2' a4' h) (fun hc => DecReach.pick (HDr.out hc) HF.out a1 a2' a4') (solM_dec HI1.out.holds HF.out a2' a4')
       have HZ := Lib.hid hz
       clear hz a1 a2 a3 a4 a2' a4' h3
       go_wp2_with fail
       go_roundw
       case rel => exact HZ.out.1
       case measure => exact HZ.out.2
     ·have dk : decide ((k : Int) < 0) = false := decide_eq_false (by omega)
      have ewm : IntKind.i64.wrap (met + 1) = met + 1 := IntWalk.i64_in _ (by omega)
      have hcl : (T'.cls.length : Int) ≤ 1000000 + met := hcl
      have hpr : (S1.proof.length : Int) + S1.learnt.length ≤ 2000000 + 2 * met := hpr
      rcases HI2.out.holds.taught hlive hneg with ⟨hl, -⟩ | ⟨top, first, rest, atoms, hl, -, W, hE⟩
      ·have hln := HH2.out.learnsNo HI2.out.holds.inv (k : Int) (.inr hl) (by show S1.proof.length + 1 ≤ _; omega)
       have HLn := Lib.hid hln
       have HL := Lib.hid hl
       clear hln hl hlive hneg
       go_wp2_with fail
       refine HLn.out.mono ?_
       clear HLn
       rintro e w4 ⟨rfl, h4⟩
       have HBk := Lib.hid (HKeep.out w4 h4.on).1
       have HH4 := Lib.hid h4
       clear h4
       go_wp2_with (refine wpList_store_row rfl 30 (.tmp 6) (.tmp 98) rfl B #[.int .u8 2, nilS, nilS, .int .i64 (met + 1)] rfl rfl 30 #[.int .u8 0, nilS, nilS, .int .i64 0] HBk.out (by kernel_rfl) rfl (by first | kernel_rfl | rfl | simp [Value.oneCell']) ?_)
       refine ret_sol rfl rfl rfl (setRow_heap _ _ _ _ _ _ HBk.out) ?_
       exact HDn.out _ _ _ _ (Sv.Run.done HD.out HF.out (Int.natCast_nonneg k) (.inr HL.out)) HH4.out ⟨nilS, rfl, World.ownsRow_nil _ _ _ _, fun k hk => by simp [Value.ownBlock] at hk⟩
      ·obtain ⟨L, hL⟩ : ∃ L : Less, L = ⟨first :: rest, rest.foldl (fun b l => max b (T'.lvl l)) 0, atoms⟩ := ⟨_, rfl⟩
       have hl : T'.lesson (k : Int) = some (some L) := by rw [hL]; exact hl
       have hLc : L.clause = first :: rest := by rw [hL]
       have hLbk : L.back = rest.foldl (fun b l => max b (T'.lvl l)) 0 := by rw [hL]
       have hLb : 0 ≤ rest.foldl (fun b l => max b (T'.lvl l)) 0 ∧ rest.foldl (fun b l => max b (T'.lvl l)) 0 ≤ 65536 := fold_rng (T := T') HI2.out.holds.inv.ok rest 0 (by omega) (by omega)
       have hgd : Up.Good T'.n L.clause := by rw [hLc]; exact W.good HI2.out.holds.inv
       have hly := HH2.out.learnsYes HI2.out.holds.inv (k : Int) (L := L) hl hgd (by rw [hLc]; simp) (by unfold InI64; rw [hLbk]; omega) (by show T'.cls.length < _; omega) (by show S1.proof.length + 1 ≤ _; omega) (by show S1.learnt.length + 1 ≤ _; omega)
       have hI3 := HI2.out.learn hLc W hE (by show T'.cls.length < _; omega)
       have HLy := Lib.hid hly
       have HI3 := Lib.hid hI3
       have HL := Lib.hid hl
       obtain ⟨S3, hS3⟩ : ∃ S3, ({ S1 with T := T' } : Sv.St).learn L = S3 := ⟨_, rfl⟩
       rw [hS3] at HLy HI3
       have HS3 := Lib.hid hS3
       have HFF := HF
       have hsl : S3.left = S1.left ∧ S3.turns = S1.turns ∧ S3.keep = S1.keep := by rw [← hS3]; exact ⟨rfl, rfl, rfl⟩
       have hk1 := HI1.out.left
       have hk2 := HI1.out.turns
       have hk3 := HI1.out.keep
       rw [← hsl.1, ← hsl.2.1] at hk1
       rw [← hsl.2.1] at hk2
       rw [← hsl.2.2] at hk3
       clear hly hI3 hl hS3 hsl hlive hneg hL hLc hLb hLbk hgd W hE HH2
       go_wp2_with fail
       refine HLy.out.mono ?_
       clear HLy
       rintro e w4 ⟨rfl, h4⟩
       have HH4 := Lib.hid h4
       clear h4
       by_cases cb : bud < met + 1
       ·have db : decide (bud < met + 1) = true := decide_eq_true cb
        have HBk := Lib.hid (HKeep.out w4 HH4.out.on).1
        have hrn : Sv.Run Sv.paceF qs bud S1 met S3 (.spent (met + 1)) := by rw [← HS3.out]; exact Sv.Run.spent HD.out HF.out (Int.natCast_nonneg k) HL.out cb
        have HRn := Lib.hid hrn
        clear hrn
        go_wp2_with (refine wpList_store_row rfl 30 (.tmp 6) (.tmp 77) rfl B #[.int .u8 3, nilS, nilS, .int .i64 (met + 1)] rfl rfl 30 #[.int .u8 0, nilS, nilS, .int .i64 0] HBk.out (by kernel_rfl) rfl (by first | kernel_rfl | rfl | simp [Value.oneCell']) ?_)
        refine ret_sol rfl rfl rfl (setRow_heap _ _ _ _ _ _ HBk.out) ?_
        exact HDn.out _ _ _ _ HRn.out HH4.out rfl
       ·have db : decide (bud < met + 1) = false := decide_eq_false cb
        have hlr3 := HI3.out.lrn
        have hpr3 := HI3.out.prf
        obtain ⟨bp, al, cl, z3, z4, hcon⟩ := (HH4.out.only0 ((Only.refl (fun _ => False) w4).drew)).conflict ⟨by omega, by omega⟩ ⟨by omega, by omega⟩ ⟨by omega, by omega⟩ (by omega)
        have HCon := Lib.hid hcon
        have hon : ∀ S5, Sv.After Sv.paceF S3 S5 → ∀ S2 a, Sv.Run Sv.paceF qs bud S5 (met + 1) S2 a → Sv.Run Sv.paceF qs bud S1 met S2 a := fun S5 ha S2 a hr => Sv.Run.on HD.out HF.out (Int.natCast_nonneg k) HL.out cb (by rw [HS3.out]; exact ha) hr
        have HOn := Lib.hid hon
        obtain ⟨ll, hll⟩ : ∃ ll, S3.learnt.length = ll := ⟨_, rfl⟩
        rw [hll] at z4 HCon
        have HLl := Lib.hid hll
        clear hcon hon hll
        go_wp2_with fail
        refine wp_region_G (n := 15) (E := fun i => i == 9) (S := fun w' => w'.cell? ⟨b, 3, none⟩ = some (.pointer (some ⟨bp, 0, none⟩)) ∧ w'.cell? ⟨b, 4, none⟩ = some (.slice al ll cl)) (by kernel_rfl) rfl ⟨z3, z4⟩ (fun hHeld => ?_)
        refine tqW (i := 0) (v := ?_) rfl (.inr (by assumption)) ?_ ?_
        rotate_left
        ·(intro w; go_simp <;> (try with_reducible rfl))
        try simp only [Act.put, zq1, zq3, zq4, zq5, zq6]
        refine tqW (i := 1) (v := ?_) rfl (.inr (by assumption)) ?_ ?_
        rotate_left
        ·(intro w; go_simp <;> (try with_reducible rfl))
        try simp only [Act.put, zq1, zq2, zq3, zq4, zq5, zq6]
        refine tqW (i := 2) (v := ?_) rfl (.inr (by assumption)) ?_ ?_
        rotate_left
        ·(intro w; go_simp <;> (try with_reducible rfl))
        try simp only [Act.put, zq1, zq2, zq3, zq4, zq5, zq6]
        refine tqK (i := 3) (v := ?_) rfl ?_ ?_
        rotate_left
        ·(intro w hSw; (try dsimp only at hSw); go_simp <;> (try with_reducible rfl))
        try simp only [Act.put, zq1, zq2, zq3, zq4, zq5, zq6]
        refine tqW (i := 4) (v := ?_) rfl (.inr (by assumption)) ?_ ?_
        rotate_left
        ·(intro w; go_simp <;> (try with_reducible rfl))
        try simp only [Act.put, zq1, zq2, zq3, zq4, zq5, zq6]
        refine tqW (i := 5) (v := ?_) rfl (.inr (by assumption)) ?_ ?_
        rotate_left
        ·(intro w; go_simp <;> (try with_reducible rfl))
        try simp only [Act.put, zq1, zq2, zq3, zq4, zq5, zq6]
        refine tqW (i := 6) (v := ?_) rfl (.inr (by assumption)) ?_ ?_
        rotate_left
        ·(intro w; go_simp <;> (try with_reducible rfl))
        try simp only [Act.put, zq1, zq2, zq3, zq4, zq5, zq6]
        refine wpAnyG_ready (rs := [7]) (by kernel_rfl) (by simp) ?_
        refine AllReadyG.cons (i := 7) rfl (fun K hK => ?_) ?_
        ·(obtain ⟨s1, s2⟩ := hHeld; go_simp)
         refine hK.out _ _ ?_ (fun hHeld => ?_)
         ·(try dsimp only) <;> (exact ⟨s1, s2⟩)
         clear hK K
         try simp only [Act.put, zq1, zq2, zq3, zq4, zq5, zq6]
         refine tqW (i := 8) (v := ?_) rfl (.inr (by assumption)) ?_ ?_
         rotate_left
         ·(intro w; go_simp <;> (try with_reducible rfl))
         try simp only [Act.put, zq1, zq2, zq3, zq4, zq5, zq6]
         refine wpAnyG_ready (rs := [9]) (by kernel_rfl) (by simp) ?_
         refine AllReadyG.late (i := 9) rfl (by kernel_rfl) (fun K hK => ?_) ?_
         ·(obtain ⟨s1, s2⟩ := hHeld; go_simp; refine HCon.out.mono ?_; rintro e w5 ⟨L', t', k', an, fg, hpc, rfl, h5⟩; try go_wp2_with fail)
          refine hK.out _ _ ?_
          clear hK K
          try simp only [Act.put, zq1, zq2, zq3, zq4, zq5, zq6]
          refine tqW (i := 10) (v := ?_) rfl (.inl (by kernel_rfl)) ?_ ?_
          rotate_left
          ·(intro w; go_simp <;> (try with_reducible rfl))
          try simp only [Act.put, zq1, zq2, zq3, zq4, zq5, zq6]
          refine tqW (i := 11) (v := ?_) rfl (.inl (by kernel_rfl)) ?_ ?_
          rotate_left
          ·(intro w; go_simp <;> (try with_reducible rfl))
          try simp only [Act.put, zq1, zq2, zq3, zq4, zq5, zq6]
          refine tqW (i := 12) (v := ?_) rfl (.inl (by kernel_rfl)) ?_ ?_
          rotate_left
          ·(intro w; go_simp <;> (try with_reducible rfl))
          try simp only [Act.put, zq1, zq2, zq3, zq4, zq5, zq6]
          refine tqW (i := 13) (v := ?_) rfl (.inl (by kernel_rfl)) ?_ ?_
          rotate_left
          ·(intro w; go_simp <;> (try with_reducible rfl))
          try simp only [Act.put, zq1, zq2, zq3, zq4, zq5, zq6]
          refine tqW (i := 14) (v := ?_) rfl (.inl (by kernel_rfl)) ?_ ?_
          rotate_left
          ·(intro w; go_simp <;> (try with_reducible rfl))
          try simp only [Act.put, zq1, zq2, zq3, zq4, zq5, zq6]
          refine wpAnyG_done (by kernel_rfl) ?_ _
          obtain ⟨S4, hS4⟩ : ∃ S4, ({ S3 with left := L', turns := t', keep := k' } : Sv.St) = S4 := ⟨_, rfl⟩
          rw [hS4] at h5
          have HH5 := Lib.hid h5
          have HPc := Lib.hid hpc
          have HI4 := Lib.hid (show Sv.Holds n O S4 by rw [← hS4]; exact HI3.out.holds.plain _ _ _ _)
          have hT4 : S4.T = S3.T ∧ S4.learnt = S3.learnt ∧ S4.proof = S3.proof := by rw [← hS4]; exact ⟨rfl, rfl, rfl⟩
          have HT4 := Lib.hid hT4
          have HS4 := Lib.hid hS4
          clear h5 hpc hS4 hT4 s1 s2
          have hb4 := HH5.out.back HI4.out.inv 0 (by unfold InI64; omega)
          have HB4 := Lib.hid hb4
          clear hb4
          go_upto_if 91 with fail
          go_cut [] (fun wx => SvOk wB G b { S4 with T := if an then S4.T.back 0 else S4.T } wx)
          case first =>
           cases an with
           | false =>
            go_wp2_with fail
            go_meet
            exact HH5.out
           | true =>
            go_wp2_with fail
            refine HB4.out.mono ?_
            rintro e w6 ⟨rfl, h6⟩
            have HH6 := Lib.hid h6
            clear h6
            go_wp2_with fail
            go_meet
            exact HH6.out
          case rest =>
          have hfin : ∀ gone W, (fg = true → Sv.Gone { S3 with T := if an then S3.T.back 0 else S3.T } gone) → (fg = false → gone = []) → SvOk wB G b (({ S3 with T := (if an then S3.T.back 0 else S3.T), left := L', turns := t', keep := k' } : Sv.St).forget gone) W → (∃ m, R (.int .i64 (met + 1)) W m) ∧ μ (.int .i64 (met + 1)) W < μ (.int .i64 met) wr := by
           intro gone W g1 g2 g3
           have ha : Sv.After Sv.paceF S3 (({ S3 with T := (if an then S3.T.back 0 else S3.T), left := L', turns := t', keep := k' } : Sv.St).forget gone) := Sv.After.mk (by rw [HLl.out]; exact HPc.out) g1 g2
           exact HCont.out _ (met + 1) W (.inr (by omega)) g3 (HI3.out.after (by omega) ha) (HOn.out _ ha) (fun hc => (hc S1 (HDr.out hc) T' (k : Int) L HF.out (Int.natCast_nonneg k) HL.out).elim) (solM_on (by omega))
          have HFin := Lib.hid hfin
          have HCu := Lib.hid hcut
          clear hfin hcut
          cases fg with
          | false =>
           have hz := HFin.out [] wc (by intro h; cases h) (fun _ => rfl) (by rw [Sv.forget_nil]; have := HCu.out; rw [← HS4.out] at this; exact this)
           have HZ := Lib.hid hz
           clear hz
           go_wp2_with fail
           go_roundw
           case rel => exact HZ.out.1
           case measure => exact HZ.out.2
          | true =>
           have hfo : FgOk := by
            rcases HFg.out with ⟨g1, g2⟩ | g | g
            ·exfalso
             have hp := HPc.out
             unfold Sv.paceF at hp
             simp only [Prod.mk.injEq, decide_eq_true_eq] at hp
             have := hp.2.2
             have hll := HLl.out
             omega
            ·exact g
            ·exfalso
             exact g S1 (HDr.out g) T' (k : Int) L HF.out (Int.natCast_nonneg k) HL.out
           have hh4 : Sv.Holds n O { S4 with T := if an then S4.T.back 0 else S4.T } := by
            cases an with
            | false => exact HI4.out
            | true => exact HI4.out.back 0
           have hfc := HCu.out.forgets hfo hh4 (by show S4.proof.length + S4.learnt.length ≤ _; rw [HT4.out.2.1, HT4.out.2.2]; omega)
           have HFc := Lib.hid hfc
           clear hfc hh4 hfo
           go_wp2_with fail
           refine HFc.out.mono ?_
           rintro e w7 ⟨rfl, gone, hgo, h7⟩
           have hz := HFin.out gone w7 (fun _ => by
            have := hgo
            rw [← HS4.out] at this
            exact ⟨this.nd, this.sub⟩) (by intro h; cases h) (by have := h7; rw [← HS4.out] at this; exact this)
           have HZ := Lib.hid hz
           clear hz hgo h7
           go_wp2_with fail
           go_roundw
           case rel => exact HZ.out.1
           case measure => exact HZ.out.2
         exact AllReadyG.nil
        exact AllReadyG.nil
end
end Go.Proofs.YtjedgdamommgeaaGreat
