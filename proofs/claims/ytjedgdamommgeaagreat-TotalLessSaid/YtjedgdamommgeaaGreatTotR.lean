/- A table, a builder and rows of one's own, side by side; counts, whose clauses stay. -/
import Derived.Test.YtjedgdamommgeaaGreatTotQ
import Derived.Test.YtjedgdamommgeaaGreatSolE
set_option linter.unusedVariables false
namespace Go.Proofs.YtjedgdamommgeaaGreat
open Go.RowKit
open Cnf (soB)
structure LawX (w0 : World) (bt bb n : Nat) (B : Bld) (r1 r2 r3 : List Int) (v1 v2 v3 : Value) (gt : Tag) (Vt : TabV) (gb : Tag) (Vb : BldV) (hp : Nat) (g : Tag) (w : World) : Prop where
 tab : TabAt w gt bt Vt (Tot.hT n 5000 hp false)
 hpn : hp ≤ n
 bld : BldAt w gb bb Vb B
 row1 : Row w g (1, 0) 3 v1 (r1.map cI)
 row2 : Row w g (2, 0) 3 v2 (r2.map cI)
 row3 : Row w g (3, 0) 3 v3 (r3.map cI)
 fr : Fresh w g
 d1 : ∀ k, Mine gt k → ¬ Mine gb k
 d2 : ∀ k, Mine g k → ¬ Mine gt k ∧ ¬ Mine gb k
 lo : ∀ k, Mine gt k ∨ Mine gb k ∨ Mine g k → w0.heap.size ≤ k
 on : Only (fun _ => False) w0 w
def LawAt (w0 : World) (bt bb n : Nat) (B : Bld) (r1 r2 r3 : List Int) (v1 v2 v3 : Value) (w : World) : Prop := ∃ gt Vt gb Vb hp g, LawX w0 bt bb n B r1 r2 r3 v1 v2 v3 gt Vt gb Vb hp g w
section
variable {w0 w w' : World} {bt bb n : Nat} {B : Bld} {r1 r2 r3 : List Int} {v1 v2 v3 : Value} {gt : Tag} {Vt : TabV} {gb : Tag} {Vb : BldV} {hp : Nat} {g : Tag}
theorem LawX.at_ (h : LawX w0 bt bb n B r1 r2 r3 v1 v2 v3 gt Vt gb Vb hp g w) : LawAt w0 bt bb n B r1 r2 r3 v1 v2 v3 w := ⟨gt, Vt, gb, Vb, hp, g, h⟩
theorem LawX.only0 (h : LawX w0 bt bb n B r1 r2 r3 v1 v2 v3 gt Vt gb Vb hp g w) (ho : Only (fun _ => False) w w') : LawX w0 bt bb n B r1 r2 r3 v1 v2 v3 gt Vt gb Vb hp g w' :=
 ⟨h.tab.only0 ho, h.hpn, h.bld.only0 ho, h.row1.only ho (fun _ _ f => f), h.row2.only ho (fun _ _ f => f), h.row3.only ho (fun _ _ f => f), h.fr.more ho.size, h.d1, h.d2, h.lo, h.on.same ho⟩
theorem LawX.alloc (h : LawX w0 bt bb n B r1 r2 r3 v1 v2 v3 gt Vt gb Vb hp g w) (o : Obj) : LawX w0 bt bb n B r1 r2 r3 v1 v2 v3 gt Vt gb Vb hp g (w.alloc o) := h.only0 ((Only.refl _ _).alloc o)
theorem LawX.own (h : LawX w0 bt bb n B r1 r2 r3 v1 v2 v3 gt Vt gb Vb hp g w) {t : Nat × Nat} (ht : t.1 ≠ 0) {s : Nat} (hs : w.heap.size = s) (o5 : Only (fun k => g k = t) w w') :
  TabAt w' gt bt Vt (Tot.hT n 5000 hp false) ∧ BldAt w' gb bb Vb B ∧ Agree w g (Tag.put g s w'.heap.size t) ∧ Fresh w' (Tag.put g s w'.heap.size t) ∧ (∀ k, Mine (Tag.put g s w'.heap.size t) k → ¬ Mine gt k ∧ ¬ Mine gb k) ∧ (∀ k, Mine (Tag.put g s w'.heap.size t) k → w0.heap.size ≤ k) ∧ Only (fun _ => False) w0 w' := by
 subst hs
 have ag := Agree.put (w := w) g (hi := w'.heap.size) t (Nat.le_refl w.heap.size)
 have hm : ∀ k, g k = t → Mine g k := fun k hk => by unfold Mine; rw [hk]; exact ht
 refine ⟨h.tab.only o5 fun k hk hc => (h.d2 k (hm k hc)).1 hk, h.bld.only o5 fun k hk hc => (h.d2 k (hm k hc)).2 hk, ag, h.fr.put _ o5.size, fun k hk => ?_, fun k hk => ?_, h.on.trans o5 fun k hk => .inr (h.lo k (.inr (.inr (hm k hk))))⟩
 ·by_cases c : k < w.heap.size
  ·unfold Mine at hk; rw [ag k c] at hk; exact h.d2 k hk
  ·exact ⟨fun hc => hc (h.tab.fresh k (by omega)), fun hc => hc (h.bld.fresh k (by omega))⟩
 ·by_cases c : k < w.heap.size
  ·unfold Mine at hk; rw [ag k c] at hk; exact h.lo k (.inr (.inr hk))
  ·exact Nat.le_trans h.on.size (by omega)
theorem LawX.app1 (h : LawX w0 bt bb n B r1 r2 r3 v1 v2 v3 gt Vt gb Vb hp g w) {s : Nat} (hs : w.heap.size = s) {v' : Value} {x : Int} (r5 : Row w' (Tag.put g s w'.heap.size (1, 0)) (1, 0) 3 v' (r1.map cI ++ [cI x])) (o5 : Only (fun k => g k = (1, 0)) w w') :
  LawX w0 bt bb n B (r1 ++ [x]) r2 r3 v' v2 v3 gt Vt gb Vb hp (Tag.put g s w'.heap.size (1, 0)) w' := by
 obtain ⟨a1, a2, a3, a4, a5, a6, a7⟩ := h.own (by decide) hs o5
 exact ⟨a1, h.hpn, a2, by simpa using r5, h.row2.keep o5 (fun k hk => by rw [hk]; decide) a3, h.row3.keep o5 (fun k hk => by rw [hk]; decide) a3, a4, h.d1, a5, fun k hk => by rcases hk with hk | hk | hk; exact h.lo k (.inl hk); exact h.lo k (.inr (.inl hk)); exact a6 k hk, a7⟩
theorem LawX.app2 (h : LawX w0 bt bb n B r1 r2 r3 v1 v2 v3 gt Vt gb Vb hp g w) {s : Nat} (hs : w.heap.size = s) {v' : Value} {x : Int} (r5 : Row w' (Tag.put g s w'.heap.size (2, 0)) (2, 0) 3 v' (r2.map cI ++ [cI x])) (o5 : Only (fun k => g k = (2, 0)) w w') :
  LawX w0 bt bb n B r1 (r2 ++ [x]) r3 v1 v' v3 gt Vt gb Vb hp (Tag.put g s w'.heap.size (2, 0)) w' := by
 obtain ⟨a1, a2, a3, a4, a5, a6, a7⟩ := h.own (by decide) hs o5
 exact ⟨a1, h.hpn, a2, h.row1.keep o5 (fun k hk => by rw [hk]; decide) a3, by simpa using r5, h.row3.keep o5 (fun k hk => by rw [hk]; decide) a3, a4, h.d1, a5, fun k hk => by rcases hk with hk | hk | hk; exact h.lo k (.inl hk); exact h.lo k (.inr (.inl hk)); exact a6 k hk, a7⟩
theorem LawX.app3 (h : LawX w0 bt bb n B r1 r2 r3 v1 v2 v3 gt Vt gb Vb hp g w) {s : Nat} (hs : w.heap.size = s) {v' : Value} {x : Int} (r5 : Row w' (Tag.put g s w'.heap.size (3, 0)) (3, 0) 3 v' (r3.map cI ++ [cI x])) (o5 : Only (fun k => g k = (3, 0)) w w') :
  LawX w0 bt bb n B r1 r2 (r3 ++ [x]) v1 v2 v' gt Vt gb Vb hp (Tag.put g s w'.heap.size (3, 0)) w' := by
 obtain ⟨a1, a2, a3, a4, a5, a6, a7⟩ := h.own (by decide) hs o5
 exact ⟨a1, h.hpn, a2, h.row1.keep o5 (fun k hk => by rw [hk]; decide) a3, h.row2.keep o5 (fun k hk => by rw [hk]; decide) a3, by simpa using r5, a4, h.d1, a5, fun k hk => by rcases hk with hk | hk | hk; exact h.lo k (.inl hk); exact h.lo k (.inr (.inl hk)); exact a6 k hk, a7⟩
theorem LawX.turn (h : LawX w0 bt bb n B r1 r2 r3 v1 v2 v3 gt Vt gb Vb hp g w) {n2 : Nat} {B2 : Bld} {gt2 : Tag} {Vt2 : TabV} {gb2 : Tag} {Vb2 : BldV} {hp2 : Nat} (ht : TabAt w' gt2 bt Vt2 (Tot.hT n2 5000 hp2 false)) (hh : hp2 ≤ n2) (hb : BldAt w' gb2 bb Vb2 B2) (hd : ∀ k, Mine gt2 k → ¬ Mine gb2 k)
  (at_ : Agree w gt gt2) (ab : Agree w gb gb2) (ho : Only (fun k => Mine gt k ∨ Mine gb k) w w') : LawX w0 bt bb n2 B2 r1 r2 r3 v1 v2 v3 gt2 Vt2 gb2 Vb2 hp2 g w' := by
 have ag := Agree.refl w g
 have hk : ∀ (t : Nat × Nat), t.1 ≠ 0 → ∀ k, g k = t → ¬ (Mine gt k ∨ Mine gb k) := fun t ht k hk hc => by
  have := h.d2 k (by unfold Mine; rw [hk]; exact ht)
  exact hc.elim this.1 this.2
 refine ⟨ht, hh, hb, h.row1.keep ho (hk _ (by decide)) ag, h.row2.keep ho (hk _ (by decide)) ag, h.row3.keep ho (hk _ (by decide)) ag, h.fr.more ho.size, hd, fun k hkm => ?_, fun k hkm => ?_, h.on.trans ho fun k hk => .inr (h.lo k (hk.elim .inl fun h => .inr (.inl h)))⟩
 ·have hlt : k < w.heap.size := by
   rcases Nat.lt_or_ge k w.heap.size with c | c
   ·exact c
   ·exact absurd (h.fr k c) hkm
  unfold Mine
  rw [at_ k hlt, ab k hlt]
  exact h.d2 k hkm
 ·by_cases c : k < w.heap.size
  ·unfold Mine at hkm
   rw [at_ k c, ab k c] at hkm
   exact h.lo k hkm
  ·exact Nat.le_trans h.on.size (by omega)
theorem LawX.help (h : LawX w0 bt bb n B r1 r2 r3 v1 v2 v3 gt Vt gb Vb hp g w) (hn : n < 5000) :
  Calls Tryz.prog 21 #[.pointer (some ⟨bt, 0, none⟩)] w fun e w' => e = .returned (.int .i64 ((n : Int) + 1)) ∧ LawAt w0 bt bb (n + 1) B r1 r2 r3 v1 v2 v3 w' := by
 refine (Help_in h.tab h.hpn hn).mono ?_
 rintro e w' ⟨he, gt2, Vt2, H2, A2, O2⟩
 have hb := h.bld.only O2 fun k hk hc => h.d1 k hc hk
 refine ⟨he, (h.turn H2 (by omega) hb (fun k hk => ?_) A2 (Agree.refl _ _) (O2.mono fun k hk => .inl hk)).at_⟩
 by_cases c : k < w.heap.size
 ·unfold Mine at hk; rw [A2 k c] at hk; exact h.d1 k hk
 ·exact fun hc => hc (h.bld.fresh k (by omega))
theorem LawX.add (h : LawX w0 bt bb n B r1 r2 r3 v1 v2 v3 gt Vt gb Vb hp g w) {v : Value} {xs : List Int} (hI : Ints w v xs) (hb : xs.length ≤ 1099511627) :
  Calls Tryz.prog 22 #[.pointer (some ⟨bb, 0, none⟩), v] w fun e w' => e = .returned (.tuple #[]) ∧ LawAt w0 bt bb n (B.add xs) r1 r2 r3 v1 v2 v3 w' := by
 refine (Add_any h.bld hI hb).mono ?_
 rintro e w' ⟨he, gb2, Vb2, H2, A2, O2⟩
 have ht := h.tab.only O2 fun k hk hc => h.d1 k hk hc
 refine ⟨he, (h.turn ht h.hpn H2 (fun k hk => ?_) (Agree.refl _ _) A2 (O2.mono fun k hk => .inr hk)).at_⟩
 by_cases c : k < w.heap.size
 ·intro hc; unfold Mine at hc; rw [A2 k c] at hc; exact h.d1 k hk hc
 ·exact fun _ => hk (h.tab.fresh k (by omega))
theorem LawX.count (h : LawX w0 bt bb n B r1 r2 r3 v1 v2 v3 gt Vt gb Vb hp g w) {v : Value} {row : List Int} (hI : Ints w v row) (hL : row.length ≤ 1000) (hnt : NotMine gt v row) (hnb : NotMine gb v row) (hs : ∀ z ∈ row, z.natAbs ≤ 1000000) (cap : Int) (h1 : 1 ≤ cap) (h2 : cap ≤ 9223372036854775807) (h0 : row.contains 0 = false)
  {r : List Int × Nat × Bool × Bld} (hr : Tot.count cap 5000 row n false B = r) (hf : r.2.2.1 = false) :
  Calls Tryz.prog 23 #[.pointer (some ⟨bt, 0, none⟩), .pointer (some ⟨bb, 0, none⟩), v, .int .i64 cap] w fun e w' => ∃ v' gt2 Vt2 gb2 Vb2 hp2, e = .returned v' ∧ LawX w0 bt bb r.2.1 r.2.2.2 r1 r2 r3 v1 v2 v3 gt2 Vt2 gb2 Vb2 hp2 g w' ∧ Ints w' v' r.1 ∧ NotMine gt2 v' r.1 ∧ NotMine gb2 v' r.1 ∧ Agree w gt gt2 ∧ Agree w gb gb2 ∧ Only (fun k => Mine gt k ∨ Mine gb k) w w' := by
 refine (Count_of (bt := bt) (bb := bb) hI cap h1 h2 h0 (fun v' w' => ∃ gt2 Vt2 gb2 Vb2 hp2, LawX w0 bt bb r.2.1 r.2.2.2 r1 r2 r3 v1 v2 v3 gt2 Vt2 gb2 Vb2 hp2 g w' ∧ Ints w' v' r.1 ∧ NotMine gt2 v' r.1 ∧ NotMine gb2 v' r.1 ∧ Agree w gt gt2 ∧ Agree w gb gb2 ∧ Only (fun k => Mine gt k ∨ Mine gb k) w w') ?_).mono (fun e w' h => by
  obtain ⟨v', he, gt2, Vt2, gb2, Vb2, hp2, h⟩ := h
  exact ⟨v', gt2, Vt2, gb2, Vb2, hp2, he, h⟩)
 have ho : Only (fun _ => False) w (w.alloc (.cells #[.pointer (some ⟨bt, 0, none⟩), .pointer (some ⟨bb, 0, none⟩), .int .i64 cap] 90)) := (Only.refl _ _).alloc _
 have hC : CtAt (w.alloc (.cells #[.pointer (some ⟨bt, 0, none⟩), .pointer (some ⟨bb, 0, none⟩), .int .i64 cap] 90)) gt gb w.heap.size bt bb cap (Tot.hT n 5000 hp false) B :=
  ⟨heap_alloc_new w _, h.tab.fresh _ (Nat.le_refl _), h.bld.fresh _ (Nat.le_refl _), ⟨Vt, h.tab.only0 ho⟩, ⟨Vb, h.bld.only0 ho⟩, h.d1⟩
 refine (count_any (row := row) h1 h2 _ hC h.hpn (hI.only0 ho) rfl hL hnt hnb hs).mono ?_
 rintro e w' ⟨v', rfl, gt', gb', hp', k1, k2, k3, k4, k5, k6, k7, k8, k9⟩
 rw [hr] at k1 k2 k6 k7 k8 k9
 rw [hf] at k2
 obtain ⟨V', hV'⟩ := k2.tab
 obtain ⟨U', hU'⟩ := k2.bld
 have O5 : Only (fun k => Mine gt k ∨ Mine gb k) w w' := (ho.mono fun _ f => f.elim).same k5
 have A5 : Agree w gt gt' := fun k hk => k3 k (by have := ho.size; omega)
 have A6 : Agree w gb gb' := fun k hk => k4 k (by have := ho.size; omega)
 exact ⟨v', rfl, gt', V', gb', U', hp', h.turn hV' k1 hU' k2.dis A5 A6 O5, k6, k7, k8, A5, A6, O5⟩
end
theorem count_ask {w w1 : World} {b N : Nat} {O : List (List Int)} (h : NewSv w b ((Sv.St.new N).addAll O) w1) (hN : N ≤ 5000) (hO : ∀ f ∈ O, Cnf.AbsStrict f ∧ ∀ z ∈ f, Tot.Vd N z) (hlen : O.length ≤ 1000000) {v : Value} {base : List Int} (hI : Ints w v base) (hqb : base.length ≤ 1000000)
  (hd : Sv.Det N O base) {s : Nat → Bool} (hs : ∀ f ∈ O, ∃ z ∈ f, Tot.T s z = true) (hb : ∀ a ∈ base, Tot.Vd N a ∧ Tot.T s a = true) :
  Calls Tryz.prog 14 #[.pointer (some ⟨b, 0, none⟩), v, .int .i64 1048576] w1 fun e w' => ∃ S2 M met cs, e = .returned (.agg cs) ∧ AnsAt w1 w' (.sat M met) cs ∧ M.length = N ∧ Rup.Sat O M ∧ (∀ a ∈ base, soB a M = true) ∧ NewSv w b S2 w' := by
 have hk := Tot.kept_self (n := N) (by omega) O hO
 have hr : ∀ c ∈ O, ∀ x ∈ c, InI64 x := fun c hc x hx => by have := (hO c hc).2 x hx; unfold Tot.Vd at this; unfold InI64; omega
 have hF := Sv.Fresh.addAll (n := N) (by omega) O hr (by omega)
 have hh := hF.holds
 rw [hk] at hh
 have hM : Rup.Sat O (Tot.modOf N s) := fun c hc => by
  obtain ⟨z, hz, hT⟩ := hs c hc
  exact ⟨z, hz, by rw [Tot.so_T (by omega) s ((hO c hc).2 z hz)]; exact hT⟩
 have hbM : ∀ a ∈ base, soB a (Tot.modOf N s) = true := fun a ha => by rw [Tot.so_T (by omega) s (hb a ha).1]; exact (hb a ha).2
 have has : ∀ a ∈ base, a ≠ 0 ∧ a.natAbs ≤ N := fun a ha => (hb a ha).1
 have hin : Sv.InM (Tot.modOf N s) ((Sv.St.new N).addAll O).T := fun x hx => by rw [Tr.Trail.lits, hF.ents] at hx; cases hx
 have hcalm : Calm base ((Sv.St.new N).addAll O) := by
  have := calm_of (rest := []) hd hM hbM (by simpa using has) hh hin
  rwa [List.append_nil] at this
 refine (ask_any h (by omega) hlen hr hI hqb has 1048576 (by unfold InI64; omega) (by omega) (.inr (.inr hcalm))).mono ?_
 rintro e w' ⟨S2, a, cs, h1, h2, h3, h4⟩
 have hns : ∀ k, a ≠ .spent k := by
  have h1' : Sv.Run Sv.paceF (base ++ []) 1048576 ((Sv.St.new N).addAll O) 0 S2 a := by rw [List.append_nil]; exact h1
  exact (Sv.Run.calm (rest := []) hd hM hbM (by simpa using has) h1' hh hin).2.2.2.2.2.2.2.2
 have hri := (hF.right has (by omega) hlen h1).2
 rw [hk] at hri
 cases a with
 | sat M met => exact ⟨S2, M, met, cs, h2, h3, hri.1, hri.2.1, hri.2.2, h4⟩
 | unsat core met => exact absurd (fun x hx => hbM x (hri.2.1 x hx)) (hri.2.2 _ hM)
 | spent met => exact absurd rfl (hns met)
end Go.Proofs.YtjedgdamommgeaaGreat
