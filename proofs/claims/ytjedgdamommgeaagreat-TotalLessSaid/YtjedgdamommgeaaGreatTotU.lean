/- A question that is told all at once; TotalLess in plain words. -/
import Derived.Test.YtjedgdamommgeaaGreatTotR
import Derived.Test.YtjedgdamommgeaaGreatTotS
import Derived.Test.YtjedgdamommgeaaGreatTot2
set_option linter.unusedVariables false
namespace Go.Proofs.YtjedgdamommgeaaGreat
open Go.RowKit
open Cnf (soB)
open Tr
section
variable {w w1 w2 : World}
theorem LawX.start {bt bb : Nat} {gt : Tag} {Vt : TabV} {gb : Tag} {Vb : BldV} (hT : TabAt w1 gt bt Vt ⟨[], 5000, 0, false⟩) (mt : ∀ k, Mine gt k → w.heap.size ≤ k) (o1 : Only (fun _ => False) w w1) (hB : BldAt w2 gb bb Vb ⟨[], false, false⟩) (mb : ∀ k, Mine gb k → w1.heap.size ≤ k) (o2 : Only (fun _ => False) w1 w2) :
  LawAt w bt bb 0 ⟨[], false, false⟩ (Tot.nums 0 0) (Tot.litsOf 0 []) (Tot.turnedP 0 0 0) nilS nilS nilS w2 := by
 refine ⟨gt, Vt, gb, Vb, 0, fun _ => (0, 0), hT.only0 o2, Nat.le_refl _, hB, Row.nil _ _ _ _, Row.nil _ _ _ _, Row.nil _ _ _ _, fun k _ => rfl, fun k h1 h2 => ?_, fun k h => absurd rfl h, fun k h => ?_, o1.same o2⟩
 ·have h3 := mb k h2
  exact h1 (hT.fresh k h3)
 ·rcases h with h | h | h
  ·exact mt k h
  ·exact Nat.le_trans o1.size (mb k h)
  ·exact absurd rfl h
variable {w0 : World} {bt bb n : Nat} {B : Bld} {r1 r2 r3 : List Int} {v1 v2 v3 : Value} {gt : Tag} {Vt : TabV} {gb : Tag} {Vb : BldV} {hp : Nat} {g : Tag}
theorem LawX.not (h : LawX w0 bt bb n B r1 r2 r3 v1 v2 v3 gt Vt gb Vb hp g w) {t : Nat × Nat} (ht : t.1 ≠ 0) {v : Value} {xs : List Int} (hr : Row w g t 3 v (xs.map cI)) : NotMine gt v xs ∧ NotMine gb v xs := by
 have h1 := hr.blk
 refine ⟨fun _ k hk => ?_, fun _ k hk => ?_⟩
 ·have := (h.d2 k (by unfold Mine; rw [h1 k hk]; exact ht)).1
  unfold Mine at this; omega
 ·have := (h.d2 k (by unfold Mine; rw [h1 k hk]; exact ht)).2
  unfold Mine at this; omega
theorem abs_lenT {N : Nat} {f : List Int} (ha : Cnf.AbsStrict f) (hl : ∀ z ∈ f, Tot.Vd N z) : f.length ≤ N + 1 := by
 have h1 : (f.map Int.natAbs).Nodup := by
  unfold Cnf.AbsStrict at ha
  exact List.pairwise_map.2 (ha.imp fun h => by omega)
 have := nodup_sub_len h1 (b := List.range (N + 1)) (fun x hx => by
  obtain ⟨z, hz, rfl⟩ := List.mem_map.1 hx
  have := (hl z hz).2
  exact List.mem_range.2 (by omega))
 simpa using this
theorem vd_rng {N : Nat} (hN : N ≤ 1000000) {xs : List Int} (h : ∀ z ∈ xs, Tot.Vd N z) : ∀ z ∈ xs, InI64 z := fun z hz => by
 have := h z hz; unfold Tot.Vd at this; unfold InI64; omega
end
theorem top_zero {T : Trail} : ∀ (c : List Int) (b : Int), b = 0 → (∀ l ∈ c, T.lvl l = 0) → c.foldl (fun t l => max t (T.lvl l)) b = 0
 | [], b, hb, _ => hb
 | x :: c, b, hb, h => by
  rw [List.foldl_cons]
  exact top_zero c _ (by rw [hb, h x (by simp)]; rfl) fun l hl => h l (by simp [hl])
theorem flat_lesson {n : Nat} {O : List (List Int)} {S : Sv.St} (h : Sv.Holds n O S) (hl : S.T.levels = []) {T' : Trail} {k : Int} {L : Less} (hf : Foll S.T T' k) (hk : 0 ≤ k) (he : T'.lesson k = some (some L)) : False := by
 have h' := h.foll hf
 obtain ⟨i', ex, hp⟩ := foll_post hf h.inv
 rcases hp with ⟨rfl, -, -⟩ | ⟨m, rfl, hlive, hneg⟩
 ·omega
 obtain ⟨_, hle⟩ := lesson_law i' (held_iff.2 h'.held) (live_among i'.ok) hlive hneg
 have hlev : T'.levels = [] := by rw [ex.levels]; exact hl
 rcases hle with ⟨_, h1, _⟩ | ⟨h0, _⟩
 ·rw [h1] at he; cases he
 ·have : T'.top (Cnf.formL (T'.cl m)) = 0 := by
   unfold Trail.top
   refine top_zero _ 0 rfl fun l hl => ?_
   have hl := (Cnf.mem_formL _ l).1 hl
   have := lvl_le i' (hneg l hl)
   rw [hlev] at this
   simp only [List.length_nil] at this
   omega
  omega
theorem calm_flat {n : Nat} {O : List (List Int)} (d : Sv.Det n O []) {S0 : Sv.St} (h : Sv.Holds n O S0) (hl : S0.T.levels = []) : Calm [] S0 := by
 have key : ∀ S, DecReach [] S0 S → S = S0 := by
  intro S hS
  induction hS with
  | refl => rfl
  | @ask S T' l _ hf ha ih => simp [Sv.asks] at ha
  | @pick S T' l _ hf ha hl2 hv ih =>
   exfalso
   subst ih
   have h1 := h.foll hf
   have hT' : T'.n = n := h1.hn
   have hv2 := d.all h hf (fun a ha => by cases ha) l.natAbs (by omega) (by omega)
   apply hv2
   rcases Int.natAbs_eq l with e | e
   ·rw [← e]; exact hv
   ·rw [show (l.natAbs : Int) = -l by omega, Tr.val_neg h1.inv.ok]
    show - T'.val l = 0
    rw [hv]; rfl
 intro S1 hS T' k L hf hk he
 rw [key S1 hS] at hf
 exact flat_lesson h hl hf hk he
namespace Tot
open Cnf Up
def unitsOf (n : Nat) (so : List Bool) : List (List Int) := (litsOf n so).map fun l => [l]
theorem unitsOf_succ (k : Nat) (so : List Bool) : unitsOf (k + 1) so = unitsOf k so ++ [[if so.getD k false then (k : Int) + 1 else -((k : Int) + 1)]] := by
 unfold unitsOf
 rw [litsOf_succ, List.map_append]
 rfl
theorem cnt_nums_succ (k : Nat) (so : List Bool) : cnt (sOf so) (nums 0 (k + 1)) = cnt (sOf so) (nums 0 k) + if so.getD k false then 1 else 0 := by
 rw [nums_succ]
 unfold cnt
 rw [List.filter_append, List.length_append]
 have hT : T (sOf so) ((k : Int) + 1) = so.getD k false := by
  have := T_pos (sOf so) (a := k + 1) (by omega)
  rw [show ((k + 1 : Nat) : Int) = (k : Int) + 1 by omega] at this
  rw [this]
  simp [sOf]
 congr 1
 cases h : so.getD k false
 ·rw [h] at hT; simp [hT]
 ·rw [h] at hT; simp [hT]
theorem form_one {x : Int} (h : Vd 65536 x) : form [x] = some [x] := by
 have hl : ∀ y ∈ [x], Vd 65536 y := fun y hy => by rw [List.mem_singleton.1 hy]; exact h
 obtain ⟨h1, h2⟩ := form_plain hl (fun y hy hy2 => by
  rw [List.mem_singleton] at hy hy2
  unfold Vd at h; omega)
 have h3 : formL [x] = [x] := by
  have hm := mem_formL [x]
  match hf : formL [x] with
  | [] => exact absurd ((hm x).2 (by simp)) (by rw [hf]; simp)
  | [y] =>
   have := (hm y).1 (by rw [hf]; simp)
   rw [List.mem_singleton.1 this]
  | y :: z :: t =>
   exfalso
   have e1 := List.mem_singleton.1 ((hm y).1 (by rw [hf]; simp))
   have e2 := List.mem_singleton.1 ((hm z).1 (by rw [hf]; simp))
   unfold AbsStrict at h2
   rw [hf] at h2
   have := (List.pairwise_cons.1 h2).1 z (by simp)
   rw [e1, e2] at this
   omega
 rw [h1, h3]
theorem units_adds {n : Nat} (hn : n ≤ 10) (so : List Bool) : (adds ⟨[], false, false⟩ (unitsOf n so)).cls = unitsOf n so := by
 have hv : ∀ c ∈ unitsOf n so, ∀ x ∈ c, Vd 65536 x := fun c hc x hx => by
  obtain ⟨l, hl, rfl⟩ := List.mem_map.1 hc
  rw [List.mem_singleton.1 hx]
  have := ((mem_litsOf (by omega)).1 hl).1
  unfold Vd at *; omega
 obtain ⟨h1, _, _⟩ := adds_room (unitsOf n so) ⟨[], false, false⟩ hv (by simp [unitsOf, litsOf_len]; omega)
 rw [h1, List.nil_append]
 have : ∀ l : List (List Int), (∀ c ∈ l, form c = some c) → l.filterMap form = l := fun l => by
  induction l with
  | nil => intro _; rfl
  | cons c l ih =>
   intro h
   rw [List.filterMap_cons_some (h c (by simp)), ih fun d hd => h d (by simp [hd])]
 refine this _ fun c hc => ?_
 obtain ⟨l, hl, rfl⟩ := List.mem_map.1 hc
 exact form_one (hv _ (List.mem_map.2 ⟨l, hl, rfl⟩) l (by simp))
structure LessP (n m : Nat) (so : List Bool) (N : Nat) (O : List (List Int)) : Prop where
 N5 : N ≤ 300
 vd : ∀ f ∈ O, AbsStrict f ∧ ∀ z ∈ f, Vd N z
 len : O.length ≤ 100000
 det : Sv.Det N O []
 yes : cnt (sOf so) (nums 0 n) ≤ m → ∃ s : Nat → Bool, ∀ f ∈ O, ∃ z ∈ f, T s z = true
 no : m < cnt (sOf so) (nums 0 n) → ∀ M, ¬ Rup.Sat O M
theorem less_law {n m : Nat} (h1 : 1 ≤ n) (h10 : n ≤ 10) (hm : m ≤ n) (so : List Bool) {r : List Int × Nat × Bool × Bld} (hr : count (n : Int) 5000 (nums 0 n) n false (adds ⟨[], false, false⟩ (unitsOf n so)) = r) :
  r.2.2.1 = false ∧ r.1.length = n ∧ (∀ z ∈ r.1, Vd 300 z) ∧ LessP n m so r.2.1 (if m < n then r.2.2.2.add [-(r.1.getD m 0)] else r.2.2.2).cls := by
 have hnn : n * n ≤ 100 := Nat.mul_le_mul h10 h10
 have hl1 : (nums 0 n).length = n := nums_len 0 n
 have hu := units_adds h10 so
 have hul : (unitsOf n so).length = n := by simp [unitsOf, litsOf_len]
 obtain ⟨S1, f1, b1, e1⟩ := count_place (cap := (n : Int)) (by omega) (by omega) (by omega) nums_vd (by rw [hl1]; omega) (by rw [hu, hul, hl1]; omega) hr
 rw [hl1] at b1 e1
 have el : r.1.length = n := by omega
 obtain ⟨CL, c1, d1, C1⟩ := S1.cl
 rw [hu] at c1
 rw [hl1] at d1
 have m1 := S1.mono
 have t1 := (Told.units (n := n) (by omega) so).count C1 m1 (by omega) nums_vd
 have c1' : r.2.2.2.cls = (litsOf n so).map (fun l => [l]) ++ CL := c1
 rw [← c1'] at t1
 have hcl : r.2.2.2.cls.length ≤ 50000 := by rw [c1, List.length_append, hul]; omega
 have hlit : ∀ z ∈ r.1, Vd r.2.1 z := S1.lits
 refine ⟨f1, el, fun z hz => by have := hlit z hz; unfold Vd at *; omega, ?_⟩
 have htl : ∀ M, Rup.Sat r.2.2.2.cls M → ∀ i, i < n → soB (r.1.getD i 0) M = decide (i < cnt (sOf so) (nums 0 n)) := fun M hM i hi =>
  t1.tells C1 (fun f hf => by rw [c1]; exact List.mem_append_right _ hf) (Nat.le_refl _) m1 (by omega) nums_vd hM (fun a ha => by cases ha) i (by omega)
 by_cases c : m < n
 ·rw [if_pos c]
  have hx : Vd r.2.1 (r.1.getD m 0) := hlit _ (getD_mem' 0 (by omega))
  obtain ⟨x, hxe⟩ : ∃ x, r.1.getD m 0 = x := ⟨_, rfl⟩
  rw [hxe] at hx ⊢
  have hx2 : Vd r.2.1 (-x) := by unfold Vd at *; omega
  have hx6 : Vd 65536 (-x) := by unfold Vd at *; omega
  have hadd : (r.2.2.2.add [-x]).cls = r.2.2.2.cls ++ [[-x]] := by
   unfold Bld.add
   rw [if_neg (by rw [any_wr (fun y hy => by rw [List.mem_singleton.1 hy]; exact Tr.lit_of hx6.1 hx6.2)]; decide), form_one hx6]
   simp only
   rw [if_neg (by omega)]
  rw [hadd]
  refine ⟨by omega, fun f hf => ?_, by rw [List.length_append]; simp only [List.length_singleton]; omega, fun L hc hF hb => ?_, fun hle => ?_, fun hlt M hM => ?_⟩
  ·rcases List.mem_append.1 hf with hf | hf
   ·exact t1.vd f hf
   ·rw [List.mem_singleton.1 hf]
    exact ⟨List.pairwise_singleton _ _, fun z hz => by rw [List.mem_singleton.1 hz]; exact hx2⟩
  ·exact (t1.det L hc (fun f hf => hF f (List.mem_append_left _ hf)) hb).2
  ·obtain ⟨s0, s1, s2⟩ := (Told.units (n := n) (by omega) so).model
   obtain ⟨s', a1, a2, a3⟩ := C1.model s0
   refine ⟨s', fun f hf => ?_⟩
   rcases List.mem_append.1 hf with hf | hf
   ·rw [c1'] at hf
    rcases List.mem_append.1 hf with hf | hf
    ·obtain ⟨z, hz, hT⟩ := s2 f hf
     refine ⟨z, hz, ?_⟩
     rw [← hT]
     obtain ⟨l, hl, rfl⟩ := List.mem_map.1 hf
     rw [List.mem_singleton.1 hz]
     exact T_congr (a1 _ ((mem_litsOf (by omega)).1 hl).1.2)
    ·exact a2 f hf
   ·rw [List.mem_singleton.1 hf]
    refine ⟨-x, by simp, ?_⟩
    have h3 := a3 m (by omega)
    rw [hxe, cnt_sOf s1 nums_vd, decide_eq_false (by omega)] at h3
    rw [T_neg _ hx.1, h3]; rfl
  ·have h3 := htl M (fun f hf => hM f (List.mem_append_left _ hf)) m c
   rw [hxe, decide_eq_true hlt] at h3
   obtain ⟨z, hz, hs⟩ := hM [-x] (by simp)
   rw [List.mem_singleton.1 hz] at hs
   have := Sv.so_opp hx.1 (by have := hx6.2; omega) hs
   rw [h3] at this; cases this
 ·rw [if_neg c]
  have hm2 : m = n := by omega
  refine ⟨by omega, t1.vd, by omega, t1.toDet, fun _ => ?_, fun hlt => ?_⟩
  ·obtain ⟨s, _, s2⟩ := t1.model
   exact ⟨s, s2⟩
  ·have := cnt_le (sOf so) (nums 0 n)
   omega
end Tot
theorem less_ask {w w1 : World} {b n m N : Nat} {so : List Bool} {O : List (List Int)} (h : NewSv w b ((Sv.St.new N).addAll O) w1) (P : Tot.LessP n m so N O) :
  Calls Tryz.prog 14 #[.pointer (some ⟨b, 0, none⟩), .slice none 0 0, .int .i64 1048576] w1 fun e w' => ∃ (st : Int) (a1 : Option Addr) (l1 k1 : Nat) (a2 : Option Addr) (l2 k2 : Nat) (met : Int), e = .returned (.agg #[.int .u8 st, .slice a1 l1 k1, .slice a2 l2 k2, .int .i64 met]) ∧
   ((st = 1 ∧ Tot.cnt (Tot.sOf so) (Tot.nums 0 n) ≤ m) ∨ ((st = 2 ∨ st = 3) ∧ m < Tot.cnt (Tot.sOf so) (Tot.nums 0 n))) ∧ Only (fun _ => False) w w' := by
 have hN := P.N5
 have hlen := P.len
 have hI : Ints w (.slice none 0 0) [] := Ints.nilI w
 by_cases c : Tot.cnt (Tot.sOf so) (Tot.nums 0 n) ≤ m
 ·obtain ⟨s, hs⟩ := P.yes c
  refine (count_ask h (by omega) P.vd (by omega) hI (by simp) P.det hs (fun a ha => by cases ha)).mono ?_
  rintro e w' ⟨S2, M, met, cs, rfl, ⟨vm, rfl, r3, -⟩, -, -, -, h7⟩
  obtain ⟨am, cm, rfl, -, -⟩ := own_slice r3
  exact ⟨1, am, M.length, cm, none, 0, 0, met, rfl, .inl ⟨rfl, c⟩, h7.on⟩
 ·have hk := Tot.kept_self (n := N) (by omega) O P.vd
  have hr : ∀ c ∈ O, ∀ x ∈ c, InI64 x := fun c hc x hx => by have := (P.vd c hc).2 x hx; unfold Tot.Vd at this; unfold InI64; omega
  have hF := Sv.Fresh.addAll (n := N) (by omega) O hr (by omega)
  have hh := hF.holds
  rw [hk] at hh
  have hcalm := calm_flat P.det hh hF.lev
  refine (ask_any h (by omega) (by omega) hr hI (by simp) (fun a ha => by cases ha) 1048576 (by unfold InI64; omega) (by omega) (.inr (.inr hcalm))).mono ?_
  rintro e w' ⟨S2, a, cs, h1, rfl, h3, h4⟩
  have hri := (hF.right (fun a ha => by cases ha) (by omega) (by omega) h1).2
  rw [hk] at hri
  cases a with
  | sat M met => exact absurd hri.2.1 (P.no (by omega) M)
  | unsat core met =>
   obtain ⟨vm, rfl, r3, -⟩ := h3
   obtain ⟨am, cm, rfl, -, -⟩ := own_slice r3
   exact ⟨2, none, 0, 0, am, core.length, cm, met, rfl, .inr ⟨.inl rfl, by omega⟩, h4.on⟩
  | spent met =>
   obtain rfl : cs = _ := h3
   exact ⟨3, none, 0, 0, none, 0, 0, met, rfl, .inr ⟨.inr rfl, by omega⟩, h4.on⟩
end Go.Proofs.YtjedgdamommgeaaGreat
