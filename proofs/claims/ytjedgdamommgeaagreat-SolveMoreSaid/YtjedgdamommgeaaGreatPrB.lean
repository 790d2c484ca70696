/- Prop6 Prop7, in one text. -/
import Derived.Test.YtjedgdamommgeaaGreatPrP
import Derived.Deep.CutBlock
import Derived.Deep.DeepCutAuto
set_option linter.unusedVariables false
namespace Go.Proofs.YtjedgdamommgeaaGreat
open Go.RowKit
open Tr
theorem run_append_in {P : Program} {w : World} {t e ty : TypeId} {bytes : Nat} (T : SlT P t e 1 bytes) {b n cap : Nat} {xs : List Value} (h : w.ownsRow 0 e 1 (.slice (some ⟨b, 0, none⟩) n cap) n xs) {m : Nat} (hm : m < n) {gb : Nat} {u : Value}
  (hc : w.cell? ⟨gb, 0, none⟩ = some u) (hu : u.oneCell' = true) :
  ∃ w', (Builtin.append_ #[t, t] ty #[.slice (some ⟨b, 0, none⟩) m cap, .slice (some ⟨gb, 0, none⟩) 1 1]).run P w = .ok (.slice (some ⟨b, 0, none⟩) (m + 1) cap) w' ∧ w'.ownsRow 0 e 1 (.slice (some ⟨b, 0, none⟩) n cap) n (xs.set m u) ∧ Only (fun k => k = b) w w' := by
 obtain ⟨i, z, h2, h3, h4, h5, h6⟩ := T.info
 rcases h.2 with ⟨h', _⟩ | ⟨g', cap', cur, h', hb, hg, k1, k2, k3, k4⟩
 ·simp at h'
 ·simp only [Value.slice.injEq, Option.some.injEq, Addr.mk.injEq, and_true, true_and] at h'
  obtain ⟨rfl, rfl⟩ := h'
  have hr := run_append_room (P := P) w t ty e i T.und h2 b m cap cur hg ⟨gb, 0, none⟩ 1 1 [u] (by rw [h4]; rfl) (by
   intro j x hj
   match j, hj with
   | 0, hj =>
    simp at hj; subst hj
    simpa [Addr.add] using hc) (by intro x hx; simp at hx; subst hx; exact hu) (by omega) (by rw [h4]; simp; omega)
  have hxl : xs.length = n := by simpa using h.1
  refine ⟨_, hr, ⟨by simpa using hxl, .inr ⟨b, cap, _, rfl, hb, setRow_heap w b cur _ e _ hg, k1, k2, ?_, ?_⟩⟩, ⟨rfl, rfl, rfl, by simp, fun k _ hk => setRow_other w b k _ (fun e => hk e)⟩⟩
  ·rw [h4]; simp; omega
  ·rw [h4]
   simp only [Nat.mul_one, List.length_singleton] at *
   have hcl : cur.toList.length = cap := by simpa using k3
   rw [← k4]
   have e1 : cur.toList.take m ++ [u] ++ cur.toList.drop (m + 1) = cur.toList.set m u := by
    rw [List.set_eq_take_append_cons_drop, if_pos (by omega)]; simp
   rw [e1, List.take_set]
theorem Row.stepS {w : World} {g : Tag} {t : Nat × Nat} {e : TypeId} {v : Value} {xs : List Value} {P : Program} {ops : Array Oper} {o : Oper} {a : Act} {K : Act → World → Prop} {Q : Exit → Act → World → Prop} {E : Prop} {tt : TypeId} {bytes : Nat} (T : SlT P tt e 1 bytes)
  (hgd : o.guard = none) (s x : Operand)
  (ho : o.op = .call { callee := .builtin .append, args := #[s, x], argTypes := #[tt, tt] })
  {ao : Option Addr} {m c : Nat} {news : List Value} (hs : a.eval s = v) (hx : a.eval x = .slice ao m c) (hl : news.length = m) (hnone : ao = none → m = 0 ∧ c = 0) (hnews : ∀ ad, ao = some ad → ∀ j u, news[j]? = some u → w.cell? (ad.add j) = some u) (h1 : ∀ u ∈ news, u.oneCell' = true) (h : Row w g t e v xs)
  (h63 : xs.length + m ≤ 1099511627776) (hbytes : bytes ≤ 64)
  (hK : ∀ ao' cap w', Row w' (Tag.put g w.heap.size w'.heap.size t) t e (.slice ao' (xs.length + m) cap) (xs ++ news) → Only (fun k => g k = t) w w' → K (a.put o.dst (.slice ao' (xs.length + m) cap)) w') :
  if Region.wanted o (yielded ops a.tmps) = true then Oper.wp P o a w K Q else E := by
 rw [if_pos (by simp [Region.wanted, hgd])]
 cases ao with
 | none =>
  obtain ⟨rfl, rfl⟩ := hnone rfl
  have hn : news = [] := List.eq_nil_of_length_eq_zero hl
  subst hn
  obtain ⟨i, z, h2, h3, h4, h5, h6⟩ := T.info
  have hr := run_append_owned_none (P := P) w 0 tt o.type e i 1 T.und h2 v xs.length xs h.own
  unfold Oper.wp execOp
  simp only [ho, resolve, invoke, builtin, Sem.run_bind, Sem.run_pure, Result.andThen_ok, List.map_toArray, List.map_cons, List.map_nil, hs, hx, hr]
  obtain ⟨ao', cap', rfl, hc, hm⟩ := h.shape
  refine hK ao' cap' w ?_ (Only.refl _ _)
  have e : Tag.put g w.heap.size w.heap.size t = g := by
   funext k; unfold Tag.put; rw [if_neg (by omega)]
  rw [e]
  simpa using h
 | some ad =>
  obtain ⟨v', w', hr, r1, r2, r3, r4⟩ := run_append_x (P := P) (ty := o.type) w T v xs.length xs h.own ad m c news (by omega) (hnews ad rfl) h1 (by unfold maxLen; omega) (by
   have : (xs.length + m) * bytes ≤ 1099511627776 * 64 := Nat.mul_le_mul h63 hbytes
   omega)
  unfold Oper.wp execOp
  simp only [ho, resolve, invoke, builtin, Sem.run_bind, Sem.run_pure, Result.andThen_ok, List.map_toArray, List.map_cons, List.map_nil, hs, hx, hr]
  have r1' := r1
  obtain ⟨ao', cap', rfl, hc1, hc2⟩ := own_slice r1
  refine hK ao' cap' w' ⟨by have := r1; simpa [hl] using this, fun k hk => ?_⟩ (((Only.refl _ w).grown r2 fun k hk => .inl hk).mono fun k hk => h.tg k hk)
  rcases r3 k hk with hh | hh
  ·rw [Tag.put_old _ _ (own_lt h.own hh)]; exact h.tg _ hh
  ·exact Tag.put_new _ _ hh (own_lt r1 hk)
theorem TrAt.setR {w w5 : World} {g : Tag} {b : Nat} {V : TrV} {T : Trail} (H : TrAt w g b V T) (hw : T.watch.length = 2 * T.n) {p : Nat} {ks : List Nat} (hp : p < 2 * T.n) (o5 : Only (fun k => g k = (37, p)) w w5) (hl : Row w5 g (37, p) 3 (V.ws.getD p nilS) (ks.map cN)) : TrAt w5 g b V (T.setW p ks) := by
 have hk : ∀ (t : Nat × Nat), (¬ (t = (37, p))) → ∀ k, g k = t → ¬ (g k = (37, p)) := fun t ht k hk => by rw [hk]; exact ht
 have ag := Agree.refl w g
 refine ⟨only_block H.blk o5 (hk (31, 0) (by simp) b H.tb), H.tb, H.a.keep o5 (hk _ (by simp)) ag, H.c.keep o5 (hk _ (by simp)) ag, H.ul, fun i hi => (H.ci i hi).keep o5 (hk _ (by simp)) ag, H.gn.keep o5 (hk _ (by simp)) ag, H.wr.keep o5 (hk _ (by simp)) ag, H.wl, fun q hq => ?_,
  H.l.keep o5 (hk _ (by simp)) ag, H.L.keep o5 (hk _ (by simp)) ag, H.s.keep o5 (hk _ (by simp)) ag, H.k.keep o5 (hk _ (by simp)) ag, H.fresh.more o5.size⟩
 show Row w5 g (37, q) 3 _ (((T.setW p ks).wt q).map cN)
 rw [setW_wt (by rw [hw]; exact hp)]
 split
 ·rename_i e; subst e; exact hl
 ·rename_i e
  exact (H.wi q hq).keep o5 (hk _ (by simpa using e)) ag
namespace Tr
theorem visit_moved {T : Trail} {l : Int} {k : Nat} {r kept : List Nat} {c : List Int} (hc : turn l (T.cl k) = c) (h1 : 1 < c.length) (h2 : (T.setC k c).val (c.getD 0 0) ≤ 0) (h3 : ((T.setC k c).moves k).2 = true) : T.visit l (k :: r) kept = ((T.setC k c).moves k).1.visit l r kept := by
 rw [Trail.visit]; simp only [hc]; rw [if_pos ⟨h1, h2, h3⟩]
theorem visit_rest {T : Trail} {l : Int} {k : Nat} {r kept : List Nat} {c : List Int} (hc : turn l (T.cl k) = c) (h : 1 < c.length → (T.setC k c).val (c.getD 0 0) ≤ 0 → ((T.setC k c).moves k).2 = false) {v : Int} (hv : (T.setC k c).val (c.getD 0 0) = v) :
  T.visit l (k :: r) kept = if v = -1 then ((T.setC k c).setW (place l) (kept ++ k :: r), (k : Int)) else if v = 0 then ((T.setC k c).put (c.getD 0 0) k).visit l r (kept ++ [k]) else (T.setC k c).visit l r (kept ++ [k]) := by
 rw [Trail.visit]; simp only [hc]
 rw [if_neg (fun ⟨h1, h2, h3⟩ => by rw [h h1 h2] at h3; cases h3), hv]
theorem setW_setW (T : Trail) (p : Nat) (a b : List Nat) : (T.setW p a).setW p b = T.setW p b := by simp [Trail.setW]
theorem take_set_snoc {u : List Nat} {m k : Nat} (h : m < u.length) : (u.set m k).take (m + 1) = u.take m ++ [k] := by
 rw [List.take_set, List.set_eq_take_append_cons_drop, if_pos (by simp; omega)]
 simp [List.take_take]
theorem drop_set_far {u : List Nat} {m n k : Nat} (h : m < n) : (u.set m k).drop n = u.drop n := by
 rw [List.drop_set_of_lt h]
end Tr
theorem Row.cut {w : World} {g : Tag} {t : Nat × Nat} {e : TypeId} {b n cap : Nat} {xs : List Value} (h : Row w g t e (.slice (some ⟨b, 0, none⟩) n cap) xs) {m : Nat} (hm : m ≤ n) : Row w g t e (.slice (some ⟨b, 0, none⟩) m cap) (xs.take m) := by
 have hn := h.len
 subst hn
 refine ⟨?_, h.tg⟩
 have := own_cut h.own m hm
 rwa [List.length_take, Nat.min_eq_left hm]
theorem TrAt.wat_len {w : World} {g : Tag} {b : Nat} {V : TrV} {T : Trail} {p : Nat} {u : List Nat} (_ : TrAt w g b V (T.setW p u)) (h : T.watch.length = 2 * T.n) : (T.setW p u).watch.length = 2 * (T.setW p u).n := by simpa [Trail.setW] using h
section
variable {w : World} {g : Tag} {b : Nat} {V : TrV} {T : Trail}
structure VisAt (w : World) (g : Tag) (b : Nat) (T : Trail) (l : Int) (w0 : List Nat) (ao : Option Addr) (cap i : Nat) (kept : List Nat) (Ti : Trail) (u : List Nat) (wr : World) (g' : Tag) (V' : TrV) : Prop where
 at_ : TrAt wr g' b V' (Ti.setW (place l) u)
 hdr : V'.ws.getD (place l) nilS = .slice ao w0.length cap
 ul : u.length = w0.length
 uk : u.take kept.length = kept
 ud : u.drop i = w0.drop i
 kl : kept.length ≤ i
 il : i ≤ w0.length
 vi : VI l Ti kept (w0.drop i)
 eq : T.visit l w0 [] = Ti.visit l (w0.drop i) kept
 ag : Agree w g g'
 on : Only (Mine g) w wr
 ln : Ti.n = T.n
def VisTo (w : World) (g : Tag) (b : Nat) (T : Trail) (l : Int) (w' : World) : Prop := TrTo w g b (T.visit l (T.wt (place l)) []).1 w'
theorem append_in {ops : Array Oper} {rest : List Oper} {o : Oper} {a : Act} {Q : Exit → Act → World → Prop} {p : Nat} {ks : List Nat} (H : TrAt w g b V T) (hw : T.watch.length = 2 * T.n) (hp : p < 2 * T.n) (hks : T.wt p = ks) {bw cap : Nat} (hd : V.ws.getD p nilS = .slice (some ⟨bw, 0, none⟩) ks.length cap) {m k : Nat} (hm : m < ks.length)
  (hgd : o.guard = none) (s x : Operand)
  (ho : o.op = .call { callee := .builtin .append, args := #[s, x], argTypes := #[23, 23] })
  {gb : Nat} (hs : a.eval s = .slice (some ⟨bw, 0, none⟩) m cap) (hx : a.eval x = .slice (some ⟨gb, 0, none⟩) 1 1) (hc : w.cell? ⟨gb, 0, none⟩ = some (cN k))
  (h : ∀ w', TrAt w' g b V (T.setW p (ks.set m k)) → Only (fun q => g q = (37, p)) w w' → wpList Tryz.prog ops Q rest (a.put o.dst (.slice (some ⟨bw, 0, none⟩) (m + 1) cap)) w') : wpList Tryz.prog ops Q (o :: rest) a w := by
 have hr := H.wi p hp
 have hks' : T.watch.getD p [] = ks := hks
 rw [hd, hks'] at hr
 have hown := hr.own
 simp only [List.length_map] at hown
 obtain ⟨w', hrun, r1, r2⟩ := run_append_in (P := Tryz.prog) (ty := o.type) slInt hown hm hc rfl
 refine wpList_plain hgd fun K hK => ?_
 unfold Oper.wp execOp
 simp only [ho, resolve, invoke, builtin, Sem.run_bind, Sem.run_pure, Result.andThen_ok, List.map_toArray, List.map_cons, List.map_nil, hs, hx, hrun]
 refine hK _ _ (h w' ?_ ?_)
 ·refine H.setR hw hp (r2.mono fun q hq => by rw [hq]; exact hr.tg bw rfl) ?_
  rw [hd]
  exact ⟨by simpa [List.map_set] using r1, hr.tg⟩
 ·exact r2.mono fun q hq => by rw [hq]; exact hr.tg bw rfl
set_option maxRecDepth 100000 in
set_option maxHeartbeats 6400000 in
theorem prop_visit_any (H : TrAt w g b V T) (I : Inv T) (l : Int) (hl : l ≠ 0 ∧ l.natAbs ≤ T.n) (hf : -l ∈ T.lits) (r : Int) (hr : (T.visit l (T.wt (place l)) []).2 = r) :
  Calls Tryz.prog 66 #[.pointer (some ⟨b, 0, none⟩), .int .i64 l] w fun e w' => e = .returned (.int .i64 r) ∧ VisTo w g b T l w' := by
 have hn := I.ok.n
 have hcb := I.ok.cb
 have hpl : place l < 2 * T.n := Rup.place_lt hl
 have q3 := H.f3
 obtain ⟨bw0, cw0, hvw, -, -, htw, -⟩ := H.wr.pos (by rw [H.wl]; omega)
 have hwr := H.wr
 rw [hvw, H.wl] at q3 hwr
 have q4 := hwr.cell nilS (i := place l) (by rw [H.wl]; exact hpl)
 have hrp := H.wi (place l) hpl
 rw [show T.watch.getD (place l) [] = T.wt (place l) from rfl] at hrp
 obtain ⟨w0, hw0⟩ : ∃ w0, T.wt (place l) = w0 := ⟨_, rfl⟩
 rw [hw0] at hr hrp
 have hw0l : w0.length ≤ T.cls.length := by rw [← hw0]; exact I.wat.len _
 obtain ⟨ao, cap, hhd, hc1, hc2⟩ := hrp.shape
 simp only [List.length_map] at hhd hc1
 rw [hhd] at q4
 have hstart : ∀ n, VisAt w g b T l w0 ao cap 0 [] T w0 (w.drewN n) g V := fun n =>
  ⟨by rw [← hw0, setW_self]; exact H.drewN n, hhd, rfl, by simp, by simp, Nat.le_refl _, Nat.zero_le _, by rw [List.drop_zero, ← hw0]; exact VI.start I hl hf, by simp, Agree.refl _ _, (Only.refl _ _).drewN n, rfl⟩
 have HR := Lib.hid hr
 have HSt := Lib.hid hstart
 have HW0 := Lib.hid hw0
 have pb : (place l : Int) < ((2 * T.n : Nat) : Int) := by omega
 have hcapn : ao = none → cap = 0 := fun h => by
  have := own_nil (e := 3) (size := 1) (n := w0.length) (xs := w0.map cN) (by have := hrp.own; rw [hhd, h] at this; simpa using this)
  exact this.2
 have hPl := fun W : World => prop_place_any (w := W) l T.n hn hl (place l : Int) rfl
 have hPq : ∀ n, Calls Tryz.prog 89 #[.int .i64 l] (w.drewN n) fun e w'' => e = .returned (.int .i64 (place l : Int)) ∧ ∃ m, w'' = w.drewN m := fun n => (hPl (w.drewN n)).mono fun e w' ⟨h1, h2⟩ => ⟨h1, n, h2.symm⟩
 have HPq := Lib.hid hPq
 have HPl := Lib.hid hPl
 have HNone := Lib.hid hcapn
 have HT := Lib.hid I
 clear hr hstart hrp hwr hw0 hPl hPq hcapn H I hf
 generalize hM2 : 2 * T.n = m2 at *
 have HM2 := Lib.hid hM2
 clear hM2
 go_enter Tryz.func66, Tryz.ntmps66
 go_wp2_with fail
 go_quiet (exact HPq.out _)
 go_wp2_with fail
 go_loopw [6, 22] (fun v6 v22 wr => ∃ (i : Nat) (kept : List Nat) (Ti : Trail) (u : List Nat) (g1 : Tag) (V1 : TrV), v22 = .int .i64 i ∧ v6 = .slice ao kept.length cap ∧ VisAt w g b T l w0 ao cap i kept Ti u wr g1 V1) (fun _ v _ => w0.length - (intOf v).toNat)
 case atStart => exact ⟨0, [], T, w0, g, V, rfl, rfl, HSt.out _⟩
 case round =>
  clear HSt q3 q4 hvw htw
  obtain ⟨i, kept, Ti, u, g1, V1, rfl, rfl, hV⟩ := hrel
  have hTn : Ti.n = T.n := hV.ln
  have hwl1 : (Ti.setW (place l) u).watch.length = 2 * (Ti.setW (place l) u).n := hV.at_.wat_len hV.vi.inv.ok.unW.wl
  have hpl1 : place l < 2 * (Ti.setW (place l) u).n := by show place l < 2 * Ti.n; rw [hTn]; exact Rup.place_lt hl
  have hwt1 : (Ti.setW (place l) u).wt (place l) = u := by rw [setW_wt (by rw [hV.vi.inv.ok.unW.wl]; exact hpl1), if_pos rfl]
  have hrow := hV.at_.wi (place l) hpl1
  rw [show (Ti.setW (place l) u).watch.getD (place l) [] = (Ti.setW (place l) u).wt (place l) from rfl, hwt1, hV.hdr] at hrow
  by_cases ci : i < w0.length
  ·have hdr : w0.drop i = w0.getD i 0 :: w0.drop (i + 1) := by
    rw [List.drop_eq_getElem_cons ci]; simp [List.getD_eq_getElem?_getD, ci]
   obtain ⟨k, hk⟩ : ∃ k, w0.getD i 0 = k := ⟨_, rfl⟩
   rw [hk] at hdr
   have hvi := hV.vi
   have heq := hV.eq
   rw [hdr] at hvi heq
   obtain ⟨d, hd⟩ : ∃ d, turn l (Ti.cl k) = d := ⟨_, rfl⟩
   have N := hvi.names hd
   have hui : u.getD i 0 = k := by
    have h1 : (u.drop i)[0]? = (w0.drop i)[0]? := by rw [hV.ud]
    rw [List.getElem?_drop, hdr] at h1
    rw [List.getD_eq_getElem?_getD, show i = i + 0 from rfl, h1]; simp
   obtain ⟨bw, hao⟩ : ∃ bw, ao = some ⟨bw, 0, none⟩ := by
    obtain ⟨bw, _, he, _⟩ := hrow.pos (by simp [hV.ul]; omega)
    simp at he; exact ⟨bw, he.1⟩
   subst hao
   have qi := hrow.cellM (f := cN) 0 (i := i) (by rw [hV.ul]; exact ci)
   rw [hui] at qi
   have q1 := hV.at_.f1
   have hcl1 : (Ti.setW (place l) u).cls.length = Ti.cls.length := rfl
   obtain ⟨bcs, ccs, hvc, -, -, -, -⟩ := hV.at_.c.pos (by rw [hV.at_.ul]; have := N.hk; simp only [hcl1]; omega)
   have hrc := hV.at_.c
   rw [hvc, hV.at_.ul] at q1 hrc
   have q2 := hrc.cell nilS (i := k) (by rw [hV.at_.ul]; exact N.hk)
   have hrk := hV.at_.ci k N.hk
   rw [show (Ti.setW (place l) u).cls.getD k [] = Ti.cl k from rfl] at hrk
   have hcl := N.hcl
   have hdpos := N.pos
   obtain ⟨bc, cc, hvu, -, -, htb, -⟩ := hrk.pos (by simp; omega)
   simp only [List.length_map] at hvu
   rw [hvu] at q2 hrk
   have k0 := hrk.cellM (f := cI) 0 (i := 0) (by omega)
   have hdlen : d.length ≤ Ti.n := N.sg.len
   have hTc : Ti.cls.length ≤ 2147483648 := N.o0.cb
   have hkl := N.hk
   rw [hcl1] at q1
   have HV := Lib.hid hV
   have HN := Lib.hid N
   have HVi := Lib.hid hvi
   have HEq := Lib.hid heq
   have HD := Lib.hid hd
   have HWl1 := Lib.hid hwl1
   have HPl1 := Lib.hid hpl1
   have HWt1 := Lib.hid hwt1
   have hsw : ∀ x y, (Ti.cl k).getD 0 0 = x → (Ti.cl k).getD 1 0 = y → TrAt ((wr.setCell ⟨bc, 0, none⟩ (.int .i64 y)).setCell ⟨bc, 1, none⟩ (.int .i64 x)).drew g1 b V1 ((Ti.setC k (swapL (Ti.cl k) 0 1)).setW (place l) u) ∧ Only (Mine g) w ((wr.setCell ⟨bc, 0, none⟩ (.int .i64 y)).setCell ⟨bc, 1, none⟩ (.int .i64 x)).drew := by
    intro x y hx hy
    have h1 := HV.out.at_.swap (k := k) (i := 0) (j := 1) N.hk hvu
    rw [show (Ti.setW (place l) u).cl k = Ti.cl k from rfl, hx, hy] at h1
    exact ⟨h1.1.drew, HV.out.on.mine HV.out.ag ((h1.2.mono fun q hq => by unfold Mine; rw [hq]; simp).drew)⟩
   have HSw := Lib.hid hsw
   have hH := HV.out.at_
   have hO := HV.out.on
   clear hV N hvi heq hd hsw hwl1 hpl1 hwt1 hrow hrc hdr
   obtain ⟨x, hx⟩ : ∃ x, (Ti.cl k).getD 0 0 = x := ⟨_, rfl⟩
   rw [hx] at k0
   obtain ⟨z, hz⟩ : ∃ z, (decide (1 < (Ti.cl k).length) && (x == l)) = z := ⟨_, rfl⟩
   have HZ := Lib.hid hz
   clear hz
   go_upto_region 7 with fail
   go_cut [43] (fun v wx => v = .bool z ∧ wr = wx)
   case first =>
    by_cases c1 : 1 < (Ti.cl k).length
    ·have d1 : decide (1 < (Ti.cl k).length) = true := decide_eq_true c1
     clear hH hO HSw
     go_wp2_with fail
     go_meet
     exact ⟨by rw [← HZ.out]; simp [c1], rfl⟩
    ·have d1 : decide (1 < (Ti.cl k).length) = false := decide_eq_false c1
     clear hH hO HSw
     go_wp2_with fail
     go_meet
     exact ⟨by rw [← HZ.out]; simp [c1], rfl⟩
   case rest =>
   obtain ⟨rfl, rfl⟩ := hcut
   go_upto_if 43 with fail
   go_cut [] (fun wx => TrAt wx g1 b V1 ((Ti.setC k d).setW (place l) u) ∧ Only (Mine g) w wx)
   case first =>
    by_cases c1 : 1 < (Ti.cl k).length
    ·have k1 := hrk.cellM (f := cI) 0 (i := 1) c1
     have fz0 := hrk.free 0
     have fz1 := hrk.free 1
     obtain ⟨y, hy⟩ : ∃ y, (Ti.cl k).getD 1 0 = y := ⟨_, rfl⟩
     have hsw := HSw.out x y hx hy
     have HSw2 := Lib.hid hsw
     rw [hy] at k1
     have b1 : (1 : Int) < ((Ti.cl k).length : Int) := by omega
     have b0 : (0 : Int) < ((Ti.cl k).length : Int) := by omega
     have b0' : 0 < (Ti.cl k).length := by omega
     have d1 : decide (1 < (Ti.cl k).length) = true := decide_eq_true c1
     by_cases cx : x = l
     ·have hdd : swapL (Ti.cl k) 0 1 = d := by rw [← HD.out]; unfold turn; rw [if_pos ⟨c1, by rw [hx]; exact cx⟩]
      rw [hdd] at HSw2
      have dx : (x == l) = true := by simpa using cx
      have hzt : z = true := by rw [← HZ.out, d1, dx]; rfl
      subst hzt
      clear hsw hdd hx hy hH hO HSw cx
      go_wp2_with fail
      refine wp_region_G (n := 12) (E := fun i => i == 9 || i == 11) (S := fun w' => w'.cell? ⟨bc, 0, none⟩ = some (cI x) ∧ w'.cell? ⟨bc, 1, none⟩ = some (cI y) ∧ w'.frozen? ⟨bc, 0, none⟩ = false ∧ w'.frozen? ⟨bc, 1, none⟩ = false) (by kernel_rfl) rfl ⟨k0, k1, fz0, fz1⟩ (fun hHeld => ?_)
      refine tqW (i := 0) (v := ?_) rfl (.inr (by assumption)) ?_ ?_
      rotate_left
      ·(intro w; go_simp <;> (try with_reducible rfl))
      try simp only [Act.put, zq1, zq3, zq4, zq5, zq6]
      refine tqW (i := 1) (v := ?_) rfl (.inr (by assumption)) ?_ ?_
      rotate_left
      ·(intro w; go_simp <;> (try with_reducible rfl))
      try simp only [Act.put, zq1, zq2, zq3, zq4, zq5, zq6]
      refine tqW (i := 2) (v := ?_) rfl (.inr (by assumption)) ?_ ?_
      rotate_left
      ·(intro w; go_simp <;> (try with_reducible rfl))
      try simp only [Act.put, zq1, zq2, zq3, zq4, zq5, zq6]
      refine tqW (i := 3) (v := ?_) rfl (.inr (by assumption)) ?_ ?_
      rotate_left
      ·(intro w; go_simp <;> (try with_reducible rfl))
      try simp only [Act.put, zq1, zq2, zq3, zq4, zq5, zq6]
      refine tqK (i := 4) (v := ?_) rfl ?_ ?_
      rotate_left
      ·(intro w hSw; (try dsimp only at hSw); go_simp <;> (try with_reducible rfl))
      try simp only [Act.put, zq1, zq2, zq3, zq4, zq5, zq6]
      refine tqW (i := 5) (v := ?_) rfl (.inr (by assumption)) ?_ ?_
      rotate_left
      ·(intro w; go_simp <;> (try with_reducible rfl))
      try simp only [Act.put, zq1, zq2, zq3, zq4, zq5, zq6]
      refine tqW (i := 6) (v := ?_) rfl (.inr (by assumption)) ?_ ?_
      rotate_left
      ·(intro w; go_simp <;> (try with_reducible rfl))
      try simp only [Act.put, zq1, zq2, zq3, zq4, zq5, zq6]
      refine tqK (i := 7) (v := ?_) rfl ?_ ?_
      rotate_left
      ·(intro w hSw; (try dsimp only at hSw); go_simp <;> (try with_reducible rfl))
      try simp only [Act.put, zq1, zq2, zq3, zq4, zq5, zq6]
      refine tqW (i := 8) (v := ?_) rfl (.inr (by assumption)) ?_ ?_
      rotate_left
      ·(intro w; go_simp <;> (try with_reducible rfl))
      try simp only [Act.put, zq1, zq2, zq3, zq4, zq5, zq6]
      refine wpAnyG_ready (rs := [9]) (by kernel_rfl) (by simp) ?_
      refine AllReadyG.late (i := 9) rfl (by kernel_rfl) (fun K hK => ?_) ?_
      ·(obtain ⟨s1, s2, s3, s4⟩ := hHeld; go_simp)
       refine hK.out _ _ ?_
       clear hK K
       try simp only [Act.put, zq1, zq2, zq3, zq4, zq5, zq6]
       refine tqW (i := 10) (v := ?_) rfl (.inl (by kernel_rfl)) ?_ ?_
       rotate_left
       ·(intro w; go_simp <;> (try with_reducible rfl))
       try simp only [Act.put, zq1, zq2, zq3, zq4, zq5, zq6]
       refine wpAnyG_ready (rs := [11]) (by kernel_rfl) (by simp) ?_
       refine AllReadyG.late (i := 11) rfl (by kernel_rfl) (fun K hK => ?_) ?_
       ·(go_simp)
        refine hK.out _ _ ?_
        clear hK K
        try simp only [Act.put, zq1, zq2, zq3, zq4, zq5, zq6]
        refine wpAnyG_done (by kernel_rfl) ?_ _
        clear s1 s2 s3 s4
        go_wp2_with fail
        go_meet
        exact ⟨HSw2.out.1, HSw2.out.2⟩
       exact AllReadyG.nil
      exact AllReadyG.nil
     ·have hdd : Ti.cl k = d := by rw [← HD.out]; unfold turn; rw [if_neg (fun h => cx (by rw [← hx]; exact h.2))]
      have hHd : TrAt wr g1 b V1 ((Ti.setC k d).setW (place l) u) := by rw [← hdd, setC_self]; exact hH
      have HHd := Lib.hid hHd
      have dx : (x == l) = false := by simpa using cx
      have hzt : z = false := by rw [← HZ.out, dx]; simp
      subst hzt
      clear hsw hdd hx hy hH HSw HSw2 hHd
      go_wp2_with fail
      go_meet
      exact ⟨HHd.out, hO⟩
    ·have hdd : Ti.cl k = d := by rw [← HD.out]; unfold turn; rw [if_neg (fun h => c1 h.1)]
     have hHd : TrAt wr g1 b V1 ((Ti.setC k d).setW (place l) u) := by rw [← hdd, setC_self]; exact hH
     have HHd := Lib.hid hHd
     have d1 : decide (1 < (Ti.cl k).length) = false := decide_eq_false c1
     have hzt : z = false := by rw [← HZ.out, d1]; rfl
     subst hzt
     clear hdd hH HSw hHd
     go_wp2_with fail
     go_meet
     exact ⟨HHd.out, hO⟩
   case rest =>
    obtain ⟨H1, O1⟩ := hcut
    clear HSw hH hO k0 hrk q1 q2 qi HZ hx
    have hkk := HN.out.hk
    have hrk := H1.ci k (by simpa [Trail.setC, Trail.setW] using hkk)
    rw [show ((Ti.setC k d).setW (place l) u).cls.getD k [] = (Ti.setC k d).cl k from rfl, HN.out.hck, hvu] at hrk
    have k0 := hrk.cellM (f := cI) 0 (i := 0) hdpos
    have hlit : d.getD 0 0 ≠ 0 ∧ (d.getD 0 0).natAbs ≤ Ti.n := HN.out.sg.lit _ (getD_mem' 0 hdpos)
    have okp : ∀ x, Ok ((Ti.setC k d).setW (place l) x) := fun x => HN.out.o1.setW _ _
    obtain ⟨vx, hvx⟩ : ∃ vx, (Ti.setC k d).val (d.getD 0 0) = vx := ⟨_, rfl⟩
    have hVal : ∀ W g' V' x, TrAt W g' b V' ((Ti.setC k d).setW (place l) x) → Calls Tryz.prog 69 #[.pointer (some ⟨b, 0, none⟩), .int .i64 (d.getD 0 0)] W fun e w' => e = .returned (.int .i64 vx) ∧ W = w' := fun W g' V' x h =>
     prop_Value_any h (okp x) _ (by unfold InI64; omega) vx hvx
    have hvr : vx = 0 ∨ vx = 1 ∨ vx = -1 := by rw [← hvx]; exact val3 _ _
    have hus : kept.length < u.length := by have := HV.out.ul; have := HV.out.kl; omega
    have hu' : (u.set kept.length k).take (kept.length + 1) = kept ++ [k] := by rw [take_set_snoc hus, HV.out.uk]
    have hud' : ∀ m, (u.set kept.length m).drop (i + 1) = w0.drop (i + 1) := fun m => by
     rw [drop_set_far (by have := HV.out.kl; omega)]
     have h9 := congrArg (List.drop 1) HV.out.ud
     simpa [List.drop_drop] using h9
    have hud0 : u.drop (i + 1) = w0.drop (i + 1) := by
     have h9 := congrArg (List.drop 1) HV.out.ud
     simpa [List.drop_drop] using h9
    have hdeq : w0.drop i = k :: w0.drop (i + 1) := by
     rw [List.drop_eq_getElem_cons ci]; congr 1; rw [← hk]; simp [List.getD_eq_getElem?_getD, ci]
    have hH5 : ∀ w5, TrAt w5 g1 b V1 (((Ti.setC k d).setW (place l) u).setW (place l) (u.set kept.length k)) → TrAt w5 g1 b V1 ((Ti.setC k d).setW (place l) (u.set kept.length k)) := fun w5 h => by rw [setW_setW] at h; exact h
    have hwl2 : ∀ x, ((Ti.setC k d).setW (place l) x).watch.length = 2 * ((Ti.setC k d).setW (place l) x).n := fun x => by simpa [Trail.setW, Trail.setC] using HN.out.o0.wl
    have hpl2 : ∀ x, place l < 2 * ((Ti.setC k d).setW (place l) x).n := fun x => HPl1.out
    have hwt2 : ∀ x, ((Ti.setC k d).setW (place l) x).wt (place l) = x := fun x => by rw [setW_wt (by show place l < (Ti.setC k d).watch.length; have := hwl2 x; have := hpl2 x; simp only [Trail.setW, List.length_set] at *; omega), if_pos rfl]
    have HVal := Lib.hid hVal
    have HU' := Lib.hid hu'
    have HUd' := Lib.hid hud'
    have HDeq := Lib.hid hdeq
    have HH5 := Lib.hid hH5
    have HVx := Lib.hid hvx
    have HWl2 := Lib.hid hwl2
    have HPl2 := Lib.hid hpl2
    have HWt2 := Lib.hid hwt2
    have HUd0 := Lib.hid hud0
    have hhdr := HV.out.hdr
    have hul := HV.out.ul
    have HHdr := Lib.hid hhdr
    have hhdr2 : V1.ws.getD (place l) nilS = .slice (some ⟨bw, 0, none⟩) u.length cap := by rw [hul]; exact hhdr
    have HHdr2 := Lib.hid hhdr2
    have HH1 := Lib.hid H1
    have hb0 : (0 : Int) < ((Ti.cl k).length : Int) := by omega
    have hb0' : 0 < (Ti.cl k).length := by omega
    have ewi : IntKind.i64.wrap ((i : Int) + 1) = (i : Int) + 1 := IntWalk.i64_in _ (by omega)
    clear hVal hu' hud' hdeq hH5 hvx hwl2 hpl2 hwt2 hud0 hhdr hhdr2 hrk okp
    generalize hd0 : d.getD 0 0 = d0 at *
    have HD0 := Lib.hid hd0
    clear hd0
    by_cases h1 : 1 < d.length
    ·have h1c : 1 < (Ti.cl k).length := by omega
     have d1 : decide (1 < (Ti.cl k).length) = true := decide_eq_true h1c
     by_cases cv : vx = 1
     ·skip
      subst cv
      have hnext := HVi.out.keeps HN.out h1 (by rw [HD0.out]; exact HVx.out)
      have HNext := Lib.hid hnext
      have hv := HVal.out wc g1 V1 u H1
      have HVc := Lib.hid hv
      have heq2 : T.visit l w0 [] = (Ti.setC k d).visit l (w0.drop (i + 1)) (kept ++ [k]) := by
       rw [HEq.out, visit_rest (c := d) (v := 1) HD.out (fun _ h => by rw [HD0.out, HVx.out] at h; omega) (by rw [HD0.out]; exact HVx.out), if_neg (by decide), if_neg (by decide)]
      have HEq2 := Lib.hid heq2
      clear hnext hv heq2 H1
      go_wp2_with fail
      refine HVc.out.mono ?_
      rintro e w2 ⟨rfl, rfl⟩
      go_wp2_with (at_builtin; go_must (refine append_in (T := (Ti.setC k d).setW (place l) u) (p := place l) (ks := u) (m := kept.length) (k := k) (by exact TrAt.alloc HH1.out _) (HWl2.out u) (HPl2.out u) (HWt2.out u) HHdr2.out hus rfl (.tmp 70) (.tmp 72) rfl rfl rfl (cell_newE _ _ _ _ rfl) ?_))
      intro w5 H5 O5
      have hH5b := HH5.out w5 H5
      have HH5b := Lib.hid hH5b
      have O5b : Only (fun q => g1 q = (37, place l)) wc w5 := ((Only.refl _ wc).alloc _).same O5
      have hO5 : Only (Mine g) w w5 := O1.mine HV.out.ag (O5b.mono fun q hq => by unfold Mine; rw [hq]; simp)
      have k5 : w5.cell? ⟨bc, 0, none⟩ = some (cI d0) := cell_keep k0 O5b (by rw [htb]; simp)
      have hvis5 : ∀ W, VI l (Ti.setC k d) (kept ++ [k]) (w0.drop (i + 1)) → T.visit l w0 [] = (Ti.setC k d).visit l (w0.drop (i + 1)) (kept ++ [k]) → TrAt W g1 b V1 ((Ti.setC k d).setW (place l) (u.set kept.length k)) → Ti.n = T.n → Only (Mine g) w W → VisAt w g b T l w0 (some ⟨bw, 0, none⟩) cap (i + 1) (kept ++ [k]) (Ti.setC k d) (u.set kept.length k) W g1 V1 := fun W h1 h2 h3 h4 h5 =>
       ⟨h3, HHdr.out, by simp [hul], by rw [List.length_append, List.length_singleton]; exact HU'.out, HUd'.out k, by simp; exact HV.out.kl, by omega, h1, h2, HV.out.ag, h5, h4⟩
      have HVis5 := Lib.hid hvis5
      clear hH5b H5 O5 O5b hvis5
      go_wp2_with fail
      refine (HVal.out w5 g1 V1 _ HH5b.out).mono ?_
      rintro e w6 ⟨rfl, rfl⟩
      go_wp2_with fail
      go_roundw
      case rel => exact ⟨i + 1, kept ++ [k], Ti.setC k d, u.set kept.length k, g1, V1, by go_num, by simp, HVis5.out _ HNext.out.1 HEq2.out HH5b.out hTn hO5⟩
      case measure => simp [intOf]; omega
     ·have hv0 : vx ≤ 0 := by omega
      obtain ⟨mv, hmv⟩ : ∃ mv, ((Ti.setC k d).moves k).2 = mv := ⟨_, rfl⟩
      have hfalse : (Ti.setC k d).val l = -1 := HN.out.o1.neg1.2 HN.out.fal
      have hplc : ∀ j, 2 ≤ j → j < ((Ti.setC k d).cl k).length → 0 ≤ (Ti.setC k d).val (((Ti.setC k d).cl k).getD j 0) → place (((Ti.setC k d).cl k).getD j 0) ≠ place l := by
       intro j _ j2 j3 e
       have hlj := HN.out.o1.lit (k := k) (by simpa [Trail.setC] using hkk) j2
       rw [Rup.place_inj hlj.1 hl.1 e, hfalse] at j3
       omega
      have hmvs := moves_setW (p := place l) (u := u) hplc
      have hwb : ∀ q, (((Ti.setC k d).setW (place l) u).wt q).length ≤ 2147483648 := by
       intro q
       by_cases e : q = place l
       ·subst e; rw [HWt2.out]; omega
       ·have h8 := HVi.out.inv.wat.len q
        have e2 : ((Ti.setC k d).setW (place l) u).wt q = (Ti.setW (place l) (kept ++ k :: w0.drop (i + 1))).wt q := by
         unfold Trail.setW Trail.wt
         simp only
         rw [getD_set2 (fun h => e h.symm), getD_set2 (fun h => e h.symm)]; rfl
        rw [e2]
        have e3 : (Ti.setW (place l) (kept ++ k :: w0.drop (i + 1))).cls.length = Ti.cls.length := rfl
        omega
      have hmc := prop_moves_any H1 (HN.out.o1.setW _ _) hwb k (by simpa [Trail.setC, Trail.setW] using hkk) mv (by rw [hmvs]; exact hmv)
      have hv := HVal.out wc g1 V1 u H1
      have HVc := Lib.hid hv
      have HMc := Lib.hid hmc
      have HMvs := Lib.hid hmvs
      have HPlc := Lib.hid hplc
      have dv : decide (vx ≤ 0) = true := decide_eq_true hv0
      clear hmc hv hmvs hplc hwb hfalse H1
      cases hmvc : mv
      ·have hmvf : ((Ti.setC k d).moves k).2 = false := by rw [hmv]; exact hmvc
       have HMv := Lib.hid hmvf
       clear hmvf
       subst hmvc
       clear hmv
       by_cases cz : vx = 0
       ·skip
        subst cz
        have hnext := HVi.out.puts HN.out h1 HMv.out (by rw [HD0.out]; exact HVx.out)
        rw [HD0.out] at hnext
        have HNext := Lib.hid hnext
        have heq2 : T.visit l w0 [] = ((Ti.setC k d).put d0 k).visit l (w0.drop (i + 1)) (kept ++ [k]) := by
         rw [HEq.out, visit_rest (c := d) (v := 0) HD.out (fun _ _ => HMv.out) (by rw [HD0.out]; exact HVx.out), if_neg (by decide), if_pos rfl, HD0.out]
        have HEq2 := Lib.hid heq2
        clear hnext heq2
        go_wp2_with fail
        refine HVc.out.mono ?_
        rintro e w2 ⟨rfl, rfl⟩
        go_wp2_with fail
        refine HMc.out.mono ?_
        rintro e w2 ⟨rfl, g9, V9, -, -, -, -, hsame⟩
        obtain rfl := hsame (by rw [HMvs.out]; exact HMv.out)
        clear HMc
        go_wp2_with (at_builtin; go_must (refine append_in (T := (Ti.setC k d).setW (place l) u) (p := place l) (ks := u) (m := kept.length) (k := k) (by exact TrAt.alloc HH1.out _) (HWl2.out u) (HPl2.out u) (HWt2.out u) HHdr2.out hus rfl (.tmp 70) (.tmp 72) rfl rfl rfl (cell_newE _ _ _ _ rfl) ?_))
        intro w5 H5 O5
        have hH5b := HH5.out w5 H5
        have HH5b := Lib.hid hH5b
        have O5b : Only (fun q => g1 q = (37, place l)) wc w5 := ((Only.refl _ wc).alloc _).same O5
        have hO5 : Only (Mine g) w w5 := O1.mine HV.out.ag (O5b.mono fun q hq => by unfold Mine; rw [hq]; simp)
        have k5 : w5.cell? ⟨bc, 0, none⟩ = some (cI d0) := cell_keep k0 O5b (by rw [htb]; simp)
        have hvis5 : ∀ W, VI l (Ti.setC k d) (kept ++ [k]) (w0.drop (i + 1)) → T.visit l w0 [] = (Ti.setC k d).visit l (w0.drop (i + 1)) (kept ++ [k]) → TrAt W g1 b V1 ((Ti.setC k d).setW (place l) (u.set kept.length k)) → Ti.n = T.n → Only (Mine g) w W → VisAt w g b T l w0 (some ⟨bw, 0, none⟩) cap (i + 1) (kept ++ [k]) (Ti.setC k d) (u.set kept.length k) W g1 V1 := fun W h1 h2 h3 h4 h5 =>
         ⟨h3, HHdr.out, by simp [hul], by rw [List.length_append, List.length_singleton]; exact HU'.out, HUd'.out k, by simp; exact HV.out.kl, by omega, h1, h2, HV.out.ag, h5, h4⟩
        have HVis5 := Lib.hid hvis5
        clear hH5b H5 O5 O5b hvis5
        have hput := prop_put_any HH5b.out (HN.out.o1.setW (place l) (u.set kept.length k)).n (HN.out.o1.setW (place l) (u.set kept.length k)).good d0 hlit HVx.out (k : Int)
        have HPut := Lib.hid hput
        clear hput
        go_wp2_with fail
        refine (HVal.out w5 g1 V1 _ HH5b.out).mono ?_
        rintro e w6 ⟨rfl, rfl⟩
        go_wp2_with fail
        refine HPut.out.mono ?_
        rintro e w6 ⟨rfl, g6, vl6, H6, A6, O6⟩
        have hrel6 : VisAt w g b T l w0 (some ⟨bw, 0, none⟩) cap (i + 1) (kept ++ [k]) ((Ti.setC k d).put d0 k) (u.set kept.length k) w6 g6 { V1 with vl := vl6 } := by
         refine ⟨H6, HHdr.out, by simp [hul], ?_, HUd'.out k, by simp; exact HV.out.kl, by omega, HNext.out.1, HEq2.out, HV.out.ag.trans A6 hO5.size, hO5.mine HV.out.ag (O6.mono fun q hq => by unfold T3 at hq; unfold Mine; omega), hTn⟩
         rw [List.length_append, List.length_singleton]; exact HU'.out
        have HRel6 := Lib.hid hrel6
        clear hrel6 H6 A6 O6 HPut
        go_wp2_with fail
        go_roundw
        case rel => exact ⟨i + 1, kept ++ [k], _, u.set kept.length k, g6, _, by go_num, by simp, HRel6.out⟩
        case measure => simp [intOf]; omega
       ·skip
        obtain rfl : vx = -1 := by omega
        have hfinal : T.visit l w0 [] = ((Ti.setC k d).setW (place l) (kept ++ k :: w0.drop (i + 1)), (k : Int)) := by
         rw [HEq.out, visit_rest (c := d) (v := -1) HD.out (fun _ _ => HMv.out) (by rw [HD0.out]; exact HVx.out), if_pos rfl]
        have HFinal := Lib.hid hfinal
        clear hfinal
        go_wp2_with fail
        refine HVc.out.mono ?_
        rintro e w2 ⟨rfl, rfl⟩
        go_wp2_with fail
        refine HMc.out.mono ?_
        rintro e w2 ⟨rfl, g9, V9, -, -, -, -, hsame⟩
        obtain rfl := hsame (by rw [HMvs.out]; exact HMv.out)
        clear HMc
        go_wp2_with (at_builtin; go_must (refine append_in (T := (Ti.setC k d).setW (place l) u) (p := place l) (ks := u) (m := kept.length) (k := k) (by exact TrAt.alloc HH1.out _) (HWl2.out u) (HPl2.out u) (HWt2.out u) HHdr2.out hus rfl (.tmp 70) (.tmp 72) rfl rfl rfl (cell_newE _ _ _ _ rfl) ?_))
        intro w5 H5 O5
        have hH5b := HH5.out w5 H5
        have HH5b := Lib.hid hH5b
        have O5b : Only (fun q => g1 q = (37, place l)) wc w5 := ((Only.refl _ wc).alloc _).same O5
        have hO5 : Only (Mine g) w w5 := O1.mine HV.out.ag (O5b.mono fun q hq => by unfold Mine; rw [hq]; simp)
        have k5 : w5.cell? ⟨bc, 0, none⟩ = some (cI d0) := cell_keep k0 O5b (by rw [htb]; simp)
        have hvis5 : ∀ W, VI l (Ti.setC k d) (kept ++ [k]) (w0.drop (i + 1)) → T.visit l w0 [] = (Ti.setC k d).visit l (w0.drop (i + 1)) (kept ++ [k]) → TrAt W g1 b V1 ((Ti.setC k d).setW (place l) (u.set kept.length k)) → Ti.n = T.n → Only (Mine g) w W → VisAt w g b T l w0 (some ⟨bw, 0, none⟩) cap (i + 1) (kept ++ [k]) (Ti.setC k d) (u.set kept.length k) W g1 V1 := fun W h1 h2 h3 h4 h5 =>
         ⟨h3, HHdr.out, by simp [hul], by rw [List.length_append, List.length_singleton]; exact HU'.out, HUd'.out k, by simp; exact HV.out.kl, by omega, h1, h2, HV.out.ag, h5, h4⟩
        have HVis5 := Lib.hid hvis5
        clear hH5b H5 O5 O5b hvis5
        have hr' : r = (k : Int) := by rw [← HR.out, HFinal.out]
        subst hr'
        have p3 := HH5b.out.f3
        have hwl' : V1.ws.length = m2 := by rw [HH5b.out.wl, ← HM2.out]; show 2 * Ti.n = _; rw [hTn]
        have hplT : place l < m2 := by omega
        obtain ⟨bt, ct, hvw, -, -, htw, -⟩ := HH5b.out.wr.pos (by rw [hwl']; omega)
        have hwr := HH5b.out.wr
        rw [hvw, hwl'] at p3 hwr
        have p4 := hwr.cell nilS (i := place l) (by rw [hwl']; exact hplT)
        have p5 := hwr.free (place l)
        rw [HHdr.out] at p4
        have hru := HH5b.out.wi (place l) (HPl2.out _)
        rw [show ((Ti.setC k d).setW (place l) (u.set kept.length k)).watch.getD (place l) [] = ((Ti.setC k d).setW (place l) (u.set kept.length k)).wt (place l) from rfl, HWt2.out, HHdr.out] at hru
        have hcut := hru.cut (m := kept.length + 1) (by omega)
        rw [← List.map_take, HU'.out] at hcut
        have hnews : ∀ W, Only (fun _ => False) w5 W → ∀ ad, (if cap = i + 1 then some (⟨bw, 0, none⟩ : Addr) else some ⟨bw, i + 1, none⟩) = some ad → ∀ j x, ((w0.drop (i + 1)).map cN)[j]? = some x → W.cell? (ad.add j) = some x := by
         intro W oW ad had j x hj
         have hj1 : j < (w0.drop (i + 1)).length := by have := (List.getElem?_eq_some_iff.1 hj).1; simpa using this
         have hj2 : i + 1 + j < w0.length := by simp at hj1; omega
         rw [if_neg (by omega)] at had
         obtain rfl := (Option.some.inj had).symm
         rw [Addr.add_mid]
         have h7 := hru.cellM (f := cN) 0 (i := i + 1 + j) (by rw [List.length_set, hul]; exact hj2)
         refine cell_keep ?_ oW (fun f => f)
         rw [h7, ← hj, ← HUd'.out k]
         rw [List.getElem?_map, List.getElem?_drop, List.getD_eq_getElem?_getD]
         rw [List.getElem?_eq_getElem (by rw [List.length_set, hul]; exact hj2)]
         rfl
        have HNews := Lib.hid hnews
        have HCut := Lib.hid (fun W (oW : Only (fun _ => False) w5 W) => hcut.only oW (fun _ _ f => f))
        have hS5 : ∀ w', Only (fun q => g1 q = (37, place l)) w5 w' → w'.cell? ⟨b, 3, none⟩ = some (.slice (some ⟨bt, 0, none⟩) m2 ct) ∧ w'.cell? ⟨bt, place l, none⟩ = some (.slice (some ⟨bw, 0, none⟩) w0.length cap) ∧ w'.frozen? ⟨bt, place l, none⟩ = false := fun w' h =>
         ⟨cell_keep p3 h (by rw [HH5b.out.tb]; simp), cell_keep p4 h (by rw [htw]; simp), free_keep p4 p5 h (by rw [htw]; simp)⟩
        have HS5 := Lib.hid hS5
        have hfin : ∀ wA w6 v' s, Only (fun q => g1 q = (37, place l)) wA w6 → wA.heap.size = s → Row w6 (Tag.put g1 s w6.heap.size (37, place l)) (37, place l) 3 v' ((kept ++ [k]).map cN ++ (w0.drop (i + 1)).map cN) → Only (fun _ => False) w5 wA → VisTo w g b T l (w6.setCell ⟨bt, place l, none⟩ v') := by
         intro wA w6 v' s o6 hs r6 oA
         subst hs
         have ag : Agree w5 g1 (Tag.put g1 wA.heap.size w6.heap.size (37, place l)) := Agree.put g1 _ oA.size
         have o56 : Only (fun q => g1 q = (37, place l)) w5 w6 := (oA.mono fun _ f => f.elim).same o6
         have h1 := HH5b.out.setW (ks := kept ++ k :: w0.drop (i + 1)) (v := v') (HWl2.out _) (HPl2.out _) hvw ag (Fresh.put (w := wA) (37, place l) (HH5b.out.fresh.more oA.size) o6.size) o56 (by simpa using r6)
         rw [setW_setW] at h1
         unfold VisTo
         rw [HW0.out, HFinal.out]
         exact ⟨_, _, h1, HV.out.ag.trans ag hO5.size, hO5.mine HV.out.ag ((o56.mono fun q hq => by unfold Mine; rw [hq]; simp).setCell (.inl (by unfold Mine; rw [htw]; simp)) _)⟩
        have HFin := Lib.hid hfin
        have hi0 : (0 : Int) ≤ (i : Int) + 1 := by omega
        have hi63 : (i : Int) + 1 ≤ (w0.length : Int) := by omega
        have hi64 : (i : Int) + 1 ≤ (cap : Int) := by omega
        clear hfin hS5 hnews hcut hru hwr hplT
        go_wp2_with fail
        refine (HVal.out w5 g1 V1 _ HH5b.out).mono ?_
        rintro e w6 ⟨rfl, rfl⟩
        go_wp2_with fail
        refine wp_region_G (n := 14) (E := fun i => i == 13) (S := fun w' => w'.cell? ⟨b, 3, none⟩ = some (.slice (some ⟨bt, 0, none⟩) m2 ct) ∧ w'.cell? ⟨bt, place l, none⟩ = some (.slice (some ⟨bw, 0, none⟩) w0.length cap) ∧ w'.frozen? ⟨bt, place l, none⟩ = false) (by kernel_rfl) rfl ⟨p3, p4, p5⟩ (fun hHeld => ?_)
        refine tqW (i := 0) (v := ?_) rfl (.inr (by assumption)) ?_ ?_
        rotate_left
        ·(intro w; go_simp <;> (try with_reducible rfl))
        try simp only [Act.put, zq1, zq3, zq4, zq5, zq6]
        refine tqW (i := 1) (v := ?_) rfl (.inr (by assumption)) ?_ ?_
        rotate_left
        ·(intro w; go_simp <;> (try with_reducible rfl))
        try simp only [Act.put, zq1, zq2, zq3, zq4, zq5, zq6]
        refine tqW (i := 2) (v := ?_) rfl (.inr (by assumption)) ?_ ?_
        rotate_left
        ·(intro w; go_simp <;> (try with_reducible rfl))
        try simp only [Act.put, zq1, zq2, zq3, zq4, zq5, zq6]
        refine tqK (i := 3) (v := ?_) rfl ?_ ?_
        rotate_left
        ·(intro w hSw; (try dsimp only at hSw); go_simp <;> (try with_reducible rfl))
        try simp only [Act.put, zq1, zq2, zq3, zq4, zq5, zq6]
        refine tqW (i := 4) (v := ?_) rfl (.inr (by assumption)) ?_ ?_
        rotate_left
        ·(intro w; go_simp <;> (try with_reducible rfl))
        try simp only [Act.put, zq1, zq2, zq3, zq4, zq5, zq6]
        refine wpAnyG_takeC (i := 5) (v := ?_) (f := 89) (args := #[.int .i64 l]) rfl (by kernel_rfl) (by kernel_rfl) (by kernel_rfl) rfl (by kernel_rfl) (by kernel_rfl) (fun _ _ _ h => h) (by assumption) (by rfl) ?_ ?_ ?_
        rotate_left
        ·(intro w; go_simp <;> (try with_reducible rfl))
        ·(intro w hSw; exact HPl.out w)
        try simp only [Act.put, zq1, zq2, zq3, zq4, zq5, zq6]
        refine tqW (i := 6) (v := ?_) rfl (.inr (by assumption)) ?_ ?_
        rotate_left
        ·(intro w; go_simp <;> (try with_reducible rfl))
        try simp only [Act.put, zq1, zq2, zq3, zq4, zq5, zq6]
        refine tqW (i := 7) (v := ?_) rfl (.inr (by assumption)) ?_ ?_
        rotate_left
        ·(intro w; go_simp <;> (try with_reducible rfl))
        try simp only [Act.put, zq1, zq2, zq3, zq4, zq5, zq6]
        refine tqW (i := 8) (v := ?_) rfl (.inr (by assumption)) ?_ ?_
        rotate_left
        ·(intro w; go_simp <;> (try with_reducible rfl))
        try simp only [Act.put, zq1, zq2, zq3, zq4, zq5, zq6]
        refine tqW (i := 9) (v := ?_) rfl (.inr (by assumption)) ?_ ?_
        rotate_left
        ·(intro w; go_simp <;> (try with_reducible rfl))
        try simp only [Act.put, zq1, zq2, zq3, zq4, zq5, zq6]
        refine tqW (i := 10) (v := ?_) rfl (.inr (by assumption)) ?_ ?_
        rotate_left
        ·(intro w; go_simp <;> (try with_reducible rfl))
        try simp only [Act.put, zq1, zq2, zq3, zq4, zq5, zq6]
        refine wpAnyG_ready (rs := [11]) (by kernel_rfl) (by simp) ?_
        refine AllReadyG.cons (i := 11) rfl (fun K hK => ?_) ?_
        ·(refine Row.stepS slInt (by rfl) (.tmp 87) (.tmp 91) (by rfl) (news := (w0.drop (i + 1)).map cN) (by first | rfl | simp) (by first | rfl | simp) (by simp) (by intro h; split at h <;> cases h) (HNews.out _ (by repeat (first | exact Only.refl _ _ | apply Only.drew | apply Only.alloc | apply Only.drewN))) (by intro x hx; obtain ⟨y, _, rfl⟩ := List.mem_map.1 hx; rfl) (HCut.out _ (by repeat (first | exact Only.refl _ _ | apply Only.drew | apply Only.alloc | apply Only.drewN))) (by simp only [List.length_map, List.length_append, List.length_singleton]; omega) (by decide) ?_; intro ao6 cap6 w6 rr1 rr2; obtain ⟨bb6, cc6, he6, -, -, -, -⟩ := rr1.pos (by simp; omega); simp only [Value.slice.injEq] at he6; obtain ⟨rfl, -, rfl⟩ := he6; simp only [List.length_map, List.length_append, List.length_cons, List.length_nil, Nat.zero_add] at rr1 ⊢)
         refine hK.out _ _ ?_ (fun hHeld => ?_)
         ·(try dsimp only) <;> (exact HS5.out _ (Only.same (by repeat (first | exact Only.refl _ _ | apply Only.drew | apply Only.alloc | apply Only.drewN)) rr2))
         clear hK K
         try simp only [Act.put, zq1, zq2, zq3, zq4, zq5, zq6]
         refine tqW (i := 12) (v := ?_) rfl (.inr (by assumption)) ?_ ?_
         rotate_left
         ·(intro w; go_simp <;> (try with_reducible rfl))
         try simp only [Act.put, zq1, zq2, zq3, zq4, zq5, zq6]
         refine wpAnyG_ready (rs := [13]) (by kernel_rfl) (by simp) ?_
         refine AllReadyG.late (i := 13) rfl (by kernel_rfl) (fun K hK => ?_) ?_
         ·(obtain ⟨s1, s2, s3⟩ := hHeld; go_simp)
          refine hK.out _ _ ?_
          clear hK K
          try simp only [Act.put, zq1, zq2, zq3, zq4, zq5, zq6]
          refine wpAnyG_done (by kernel_rfl) ?_ _
          have hfin := HFin.out _ w6 _ _ rr2 (by simp) rr1 (by repeat (first | exact Only.refl _ _ | apply Only.drew | apply Only.alloc | apply Only.drewN))
          have HFin2 := Lib.hid hfin
          clear hfin rr1 rr2 HFin
          go_wp2_with fail
          all_goals (go_ret; exact ⟨rfl, HFin2.out⟩)
         exact AllReadyG.nil
        exact AllReadyG.nil
      ·have hmvf : ((Ti.setC k d).moves k).2 = true := by rw [hmv]; exact hmvc
       have HMv := Lib.hid hmvf
       clear hmvf
       subst hmvc
       clear hmv
       skip
       have hnext := HVi.out.moved HN.out h1 HMv.out
       have HNext := Lib.hid hnext
       have heq2 : T.visit l w0 [] = ((Ti.setC k d).moves k).1.visit l (w0.drop (i + 1)) kept := by
        rw [HEq.out, visit_moved (c := d) HD.out h1 (by rw [HD0.out, HVx.out]; exact hv0) HMv.out]
       have HEq2 := Lib.hid heq2
       clear hnext heq2
       go_wp2_with fail
       refine HVc.out.mono ?_
       rintro e w2 ⟨rfl, rfl⟩
       go_wp2_with fail
       refine HMc.out.mono ?_
       rintro e w2 ⟨rfl, g9, V9, H9, A9, O9, hws, -⟩
       have hrel9 : VisAt w g b T l w0 (some ⟨bw, 0, none⟩) cap (i + 1) kept ((Ti.setC k d).moves k).1 u w2 g9 V9 := by
        rw [HMvs.out] at H9
        refine ⟨H9, ?_, hul, HV.out.uk, HUd0.out, by have := HV.out.kl; omega, by omega, HNext.out.1, HEq2.out, HV.out.ag.trans A9 O1.size, O1.mine HV.out.ag O9, ?_⟩
        ·rw [hws (place l) HPlc.out]; exact HHdr.out
        ·exact (HNext.out.2.ext.n).trans hTn
       have HRel9 := Lib.hid hrel9
       clear hrel9 H9 A9 O9 hws HMc
       go_wp2_with fail
       go_roundw
       case rel => exact ⟨i + 1, kept, _, u, g9, V9, by go_num, rfl, HRel9.out⟩
       case measure => simp [intOf]; omega
    ·have h1c : ¬ 1 < (Ti.cl k).length := by omega
     have d1 : decide (1 < (Ti.cl k).length) = false := decide_eq_false h1c
     skip
     have hvm := HN.out.one h1
     rw [HD0.out, HVx.out] at hvm
     subst hvm
     have hfinal : T.visit l w0 [] = ((Ti.setC k d).setW (place l) (kept ++ k :: w0.drop (i + 1)), (k : Int)) := by
      rw [HEq.out, visit_rest (c := d) (v := -1) HD.out (fun h _ => absurd h h1) (by rw [HD0.out]; exact HVx.out), if_pos rfl]
     have HFinal := Lib.hid hfinal
     clear hfinal
     go_wp2_with (at_builtin; go_must (refine append_in (T := (Ti.setC k d).setW (place l) u) (p := place l) (ks := u) (m := kept.length) (k := k) (by exact TrAt.alloc HH1.out _) (HWl2.out u) (HPl2.out u) (HWt2.out u) HHdr2.out hus rfl (.tmp 70) (.tmp 72) rfl rfl rfl (cell_newE _ _ _ _ rfl) ?_))
     intro w5 H5 O5
     have hH5b := HH5.out w5 H5
     have HH5b := Lib.hid hH5b
     have O5b : Only (fun q => g1 q = (37, place l)) wc w5 := ((Only.refl _ wc).alloc _).same O5
     have hO5 : Only (Mine g) w w5 := O1.mine HV.out.ag (O5b.mono fun q hq => by unfold Mine; rw [hq]; simp)
     have k5 : w5.cell? ⟨bc, 0, none⟩ = some (cI d0) := cell_keep k0 O5b (by rw [htb]; simp)
     have hvis5 : ∀ W, VI l (Ti.setC k d) (kept ++ [k]) (w0.drop (i + 1)) → T.visit l w0 [] = (Ti.setC k d).visit l (w0.drop (i + 1)) (kept ++ [k]) → TrAt W g1 b V1 ((Ti.setC k d).setW (place l) (u.set kept.length k)) → Ti.n = T.n → Only (Mine g) w W → VisAt w g b T l w0 (some ⟨bw, 0, none⟩) cap (i + 1) (kept ++ [k]) (Ti.setC k d) (u.set kept.length k) W g1 V1 := fun W h1 h2 h3 h4 h5 =>
      ⟨h3, HHdr.out, by simp [hul], by rw [List.length_append, List.length_singleton]; exact HU'.out, HUd'.out k, by simp; exact HV.out.kl, by omega, h1, h2, HV.out.ag, h5, h4⟩
     have HVis5 := Lib.hid hvis5
     clear hH5b H5 O5 O5b hvis5
     have hr' : r = (k : Int) := by rw [← HR.out, HFinal.out]
     subst hr'
     have p3 := HH5b.out.f3
     have hwl' : V1.ws.length = m2 := by rw [HH5b.out.wl, ← HM2.out]; show 2 * Ti.n = _; rw [hTn]
     have hplT : place l < m2 := by omega
     obtain ⟨bt, ct, hvw, -, -, htw, -⟩ := HH5b.out.wr.pos (by rw [hwl']; omega)
     have hwr := HH5b.out.wr
     rw [hvw, hwl'] at p3 hwr
     have p4 := hwr.cell nilS (i := place l) (by rw [hwl']; exact hplT)
     have p5 := hwr.free (place l)
     rw [HHdr.out] at p4
     have hru := HH5b.out.wi (place l) (HPl2.out _)
     rw [show ((Ti.setC k d).setW (place l) (u.set kept.length k)).watch.getD (place l) [] = ((Ti.setC k d).setW (place l) (u.set kept.length k)).wt (place l) from rfl, HWt2.out, HHdr.out] at hru
     have hcut := hru.cut (m := kept.length + 1) (by omega)
     rw [← List.map_take, HU'.out] at hcut
     have hnews : ∀ W, Only (fun _ => False) w5 W → ∀ ad, (if cap = i + 1 then some (⟨bw, 0, none⟩ : Addr) else some ⟨bw, i + 1, none⟩) = some ad → ∀ j x, ((w0.drop (i + 1)).map cN)[j]? = some x → W.cell? (ad.add j) = some x := by
      intro W oW ad had j x hj
      have hj1 : j < (w0.drop (i + 1)).length := by have := (List.getElem?_eq_some_iff.1 hj).1; simpa using this
      have hj2 : i + 1 + j < w0.length := by simp at hj1; omega
      rw [if_neg (by omega)] at had
      obtain rfl := (Option.some.inj had).symm
      rw [Addr.add_mid]
      have h7 := hru.cellM (f := cN) 0 (i := i + 1 + j) (by rw [List.length_set, hul]; exact hj2)
      refine cell_keep ?_ oW (fun f => f)
      rw [h7, ← hj, ← HUd'.out k]
      rw [List.getElem?_map, List.getElem?_drop, List.getD_eq_getElem?_getD]
      rw [List.getElem?_eq_getElem (by rw [List.length_set, hul]; exact hj2)]
      rfl
     have HNews := Lib.hid hnews
     have HCut := Lib.hid (fun W (oW : Only (fun _ => False) w5 W) => hcut.only oW (fun _ _ f => f))
     have hS5 : ∀ w', Only (fun q => g1 q = (37, place l)) w5 w' → w'.cell? ⟨b, 3, none⟩ = some (.slice (some ⟨bt, 0, none⟩) m2 ct) ∧ w'.cell? ⟨bt, place l, none⟩ = some (.slice (some ⟨bw, 0, none⟩) w0.length cap) ∧ w'.frozen? ⟨bt, place l, none⟩ = false := fun w' h =>
      ⟨cell_keep p3 h (by rw [HH5b.out.tb]; simp), cell_keep p4 h (by rw [htw]; simp), free_keep p4 p5 h (by rw [htw]; simp)⟩
     have HS5 := Lib.hid hS5
     have hfin : ∀ wA w6 v' s, Only (fun q => g1 q = (37, place l)) wA w6 → wA.heap.size = s → Row w6 (Tag.put g1 s w6.heap.size (37, place l)) (37, place l) 3 v' ((kept ++ [k]).map cN ++ (w0.drop (i + 1)).map cN) → Only (fun _ => False) w5 wA → VisTo w g b T l (w6.setCell ⟨bt, place l, none⟩ v') := by
      intro wA w6 v' s o6 hs r6 oA
      subst hs
      have ag : Agree w5 g1 (Tag.put g1 wA.heap.size w6.heap.size (37, place l)) := Agree.put g1 _ oA.size
      have o56 : Only (fun q => g1 q = (37, place l)) w5 w6 := (oA.mono fun _ f => f.elim).same o6
      have h1 := HH5b.out.setW (ks := kept ++ k :: w0.drop (i + 1)) (v := v') (HWl2.out _) (HPl2.out _) hvw ag (Fresh.put (w := wA) (37, place l) (HH5b.out.fresh.more oA.size) o6.size) o56 (by simpa using r6)
      rw [setW_setW] at h1
      unfold VisTo
      rw [HW0.out, HFinal.out]
      exact ⟨_, _, h1, HV.out.ag.trans ag hO5.size, hO5.mine HV.out.ag ((o56.mono fun q hq => by unfold Mine; rw [hq]; simp).setCell (.inl (by unfold Mine; rw [htw]; simp)) _)⟩
     have HFin := Lib.hid hfin
     have hi0 : (0 : Int) ≤ (i : Int) + 1 := by omega
     have hi63 : (i : Int) + 1 ≤ (w0.length : Int) := by omega
     have hi64 : (i : Int) + 1 ≤ (cap : Int) := by omega
     clear hfin hS5 hnews hcut hru hwr hplT
     go_wp2_with fail
     refine (HVal.out w5 g1 V1 _ HH5b.out).mono ?_
     rintro e w6 ⟨rfl, rfl⟩
     go_wp2_with fail
     refine wp_region_G (n := 14) (E := fun i => i == 13) (S := fun w' => w'.cell? ⟨b, 3, none⟩ = some (.slice (some ⟨bt, 0, none⟩) m2 ct) ∧ w'.cell? ⟨bt, place l, none⟩ = some (.slice (some ⟨bw, 0, none⟩) w0.length cap) ∧ w'.frozen? ⟨bt, place l, none⟩ = false) (by kernel_rfl) rfl ⟨p3, p4, p5⟩ (fun hHeld => ?_)
     refine tqW (i := 0) (v := ?_) rfl (.inr (by assumption)) ?_ ?_
     rotate_left
     ·(intro w; go_simp <;> (try with_reducible rfl))
     try simp only [Act.put, zq1, zq3, zq4, zq5, zq6]
     refine tqW (i := 1) (v := ?_) rfl (.inr (by assumption)) ?_ ?_
     rotate_left
     ·(intro w; go_simp <;> (try with_reducible rfl))
     try simp only [Act.put, zq1, zq2, zq3, zq4, zq5, zq6]
     refine tqW (i := 2) (v := ?_) rfl (.inr (by assumption)) ?_ ?_
     rotate_left
     ·(intro w; go_simp <;> (try with_reducible rfl))
     try simp only [Act.put, zq1, zq2, zq3, zq4, zq5, zq6]
     refine tqK (i := 3) (v := ?_) rfl ?_ ?_
     rotate_left
     ·(intro w hSw; (try dsimp only at hSw); go_simp <;> (try with_reducible rfl))
     try simp only [Act.put, zq1, zq2, zq3, zq4, zq5, zq6]
     refine tqW (i := 4) (v := ?_) rfl (.inr (by assumption)) ?_ ?_
     rotate_left
     ·(intro w; go_simp <;> (try with_reducible rfl))
     try simp only [Act.put, zq1, zq2, zq3, zq4, zq5, zq6]
     refine wpAnyG_takeC (i := 5) (v := ?_) (f := 89) (args := #[.int .i64 l]) rfl (by kernel_rfl) (by kernel_rfl) (by kernel_rfl) rfl (by kernel_rfl) (by kernel_rfl) (fun _ _ _ h => h) (by assumption) (by rfl) ?_ ?_ ?_
     rotate_left
     ·(intro w; go_simp <;> (try with_reducible rfl))
     ·(intro w hSw; exact HPl.out w)
     try simp only [Act.put, zq1, zq2, zq3, zq4, zq5, zq6]
     refine tqW (i := 6) (v := ?_) rfl (.inr (by assumption)) ?_ ?_
     rotate_left
     ·(intro w; go_simp <;> (try with_reducible rfl))
     try simp only [Act.put, zq1, zq2, zq3, zq4, zq5, zq6]
     refine tqW (i := 7) (v := ?_) rfl (.inr (by assumption)) ?_ ?_
     rotate_left
     ·(intro w; go_simp <;> (try with_reducible rfl))
     try simp only [Act.put, zq1, zq2, zq3, zq4, zq5, zq6]
     refine tqW (i := 8) (v := ?_) rfl (.inr (by assumption)) ?_ ?_
     rotate_left
     ·(intro w; go_simp <;> (try with_reducible rfl))
     try simp only [Act.put, zq1, zq2, zq3, zq4, zq5, zq6]
     refine tqW (i := 9) (v := ?_) rfl (.inr (by assumption)) ?_ ?_
     rotate_left
     ·(intro w; go_simp <;> (try with_reducible rfl))
     try simp only [Act.put, zq1, zq2, zq3, zq4, zq5, zq6]
     refine tqW (i := 10) (v := ?_) rfl (.inr (by assumption)) ?_ ?_
     rotate_left
     ·(intro w; go_simp <;> (try with_reducible rfl))
     try simp only [Act.put, zq1, zq2, zq3, zq4, zq5, zq6]
     refine wpAnyG_ready (rs := [11]) (by kernel_rfl) (by simp) ?_
     refine AllReadyG.cons (i := 11) rfl (fun K hK => ?_) ?_
     ·(refine Row.stepS slInt (by rfl) (.tmp 87) (.tmp 91) (by rfl) (news := (w0.drop (i + 1)).map cN) (by first | rfl | simp) (by first | rfl | simp) (by simp) (by intro h; split at h <;> cases h) (HNews.out _ (by repeat (first | exact Only.refl _ _ | apply Only.drew | apply Only.alloc | apply Only.drewN))) (by intro x hx; obtain ⟨y, _, rfl⟩ := List.mem_map.1 hx; rfl) (HCut.out _ (by repeat (first | exact Only.refl _ _ | apply Only.drew | apply Only.alloc | apply Only.drewN))) (by simp only [List.length_map, List.length_append, List.length_singleton]; omega) (by decide) ?_; intro ao6 cap6 w6 rr1 rr2; obtain ⟨bb6, cc6, he6, -, -, -, -⟩ := rr1.pos (by simp; omega); simp only [Value.slice.injEq] at he6; obtain ⟨rfl, -, rfl⟩ := he6; simp only [List.length_map, List.length_append, List.length_cons, List.length_nil, Nat.zero_add] at rr1 ⊢)
      refine hK.out _ _ ?_ (fun hHeld => ?_)
      ·(try dsimp only) <;> (exact HS5.out _ (Only.same (by repeat (first | exact Only.refl _ _ | apply Only.drew | apply Only.alloc | apply Only.drewN)) rr2))
      clear hK K
      try simp only [Act.put, zq1, zq2, zq3, zq4, zq5, zq6]
      refine tqW (i := 12) (v := ?_) rfl (.inr (by assumption)) ?_ ?_
      rotate_left
      ·(intro w; go_simp <;> (try with_reducible rfl))
      try simp only [Act.put, zq1, zq2, zq3, zq4, zq5, zq6]
      refine wpAnyG_ready (rs := [13]) (by kernel_rfl) (by simp) ?_
      refine AllReadyG.late (i := 13) rfl (by kernel_rfl) (fun K hK => ?_) ?_
      ·(obtain ⟨s1, s2, s3⟩ := hHeld; go_simp)
       refine hK.out _ _ ?_
       clear hK K
       try simp only [Act.put, zq1, zq2, zq3, zq4, zq5, zq6]
       refine wpAnyG_done (by kernel_rfl) ?_ _
       have hfin := HFin.out _ w6 _ _ rr2 (by simp) rr1 (by repeat (first | exact Only.refl _ _ | apply Only.drew | apply Only.alloc | apply Only.drewN))
       have HFin2 := Lib.hid hfin
       clear hfin rr1 rr2 HFin
       go_wp2_with fail
       all_goals (go_ret; exact ⟨rfl, HFin2.out⟩)
      exact AllReadyG.nil
     exact AllReadyG.nil
  ·skip
   have hi' : i = w0.length := by have := hV.il; omega
   subst hi'
   have hfinal : T.visit l w0 [] = (Ti.setW (place l) kept, -1) := by
    rw [hV.eq, List.drop_length, Trail.visit]
   have hr' : r = -1 := by rw [← HR.out, hfinal]
   subst hr'
   have p3 := hV.at_.f3
   have hwl' : V1.ws.length = m2 := by rw [hV.at_.wl, ← HM2.out]; show 2 * Ti.n = _; rw [hTn]
   obtain ⟨bt, ct, hvw, -, -, htw, -⟩ := hV.at_.wr.pos (by rw [hwl']; omega)
   have hwr := hV.at_.wr
   rw [hvw, hwl'] at p3 hwr
   have p4 := hwr.cell nilS (i := place l) (by rw [hwl']; omega)
   have p5 := hwr.free (place l)
   rw [hV.hdr] at p4
   have hkrow : Row wr g1 (37, place l) 3 (.slice ao kept.length cap) (kept.map cN) := by
    cases ao with
    | none =>
     have hz := own_nil (e := 3) (size := 1) (n := w0.length) (xs := u.map cN) (by have := hrow.own; simpa [hV.ul] using this)
     have hk0 : kept.length = 0 := by have := hV.kl; omega
     have hkn : kept = [] := List.eq_nil_of_length_eq_zero hk0
     subst hkn
     rw [hz.2]
     exact Row.nil _ _ _ _
    | some ad =>
     have hsh := hrow.own.2
     rcases hsh with ⟨h, _⟩ | ⟨g', cap', cur, h, _⟩
     ·simp at h
     ·simp at h
      obtain ⟨rfl, -, -⟩ := h
      have := hrow.cut (m := kept.length) (by have := hV.kl; omega)
      rwa [← List.map_take, hV.uk] at this
   have hfin : ∀ n, VisTo w g b T l ((wr.drewN n).setCell ⟨bt, place l, none⟩ (.slice ao kept.length cap)) := by
    intro n
    have h1 := hV.at_.setW (w5 := wr) (g5 := g1) (ks := kept) (v := .slice ao kept.length cap) hwl1 hpl1 hvw (Agree.refl _ _) hV.at_.fresh (Only.refl _ _) hkrow
    rw [setW_setW] at h1
    unfold VisTo
    rw [HW0.out, hfinal]
    exact ⟨g1, _, h1.drewN n, hV.ag, (hV.on.mine hV.ag ((Only.refl _ wr).setCell (.inl (by unfold Mine; rw [htw]; simp)) _)).drewN n⟩
   have HFin := Lib.hid hfin
   clear hfin hkrow hrow hfinal hV hwr hwt1 hwl1 hpl1
   go_wp2_with fail
   refine wp_region_G (n := 9) (E := fun i => i == 8) (S := fun w' => w'.cell? ⟨b, 3, none⟩ = some (.slice (some ⟨bt, 0, none⟩) m2 ct) ∧ w'.cell? ⟨bt, place l, none⟩ = some (.slice ao w0.length cap) ∧ w'.frozen? ⟨bt, place l, none⟩ = false) (by kernel_rfl) rfl ⟨p3, p4, p5⟩ (fun hHeld => ?_)
   refine tqW (i := 0) (v := ?_) rfl (.inr (by assumption)) ?_ ?_
   rotate_left
   ·(intro w; go_simp <;> (try with_reducible rfl))
   try simp only [Act.put, zq1, zq3, zq4, zq5, zq6]
   refine tqW (i := 1) (v := ?_) rfl (.inr (by assumption)) ?_ ?_
   rotate_left
   ·(intro w; go_simp <;> (try with_reducible rfl))
   try simp only [Act.put, zq1, zq2, zq3, zq4, zq5, zq6]
   refine tqW (i := 2) (v := ?_) rfl (.inr (by assumption)) ?_ ?_
   rotate_left
   ·(intro w; go_simp <;> (try with_reducible rfl))
   try simp only [Act.put, zq1, zq2, zq3, zq4, zq5, zq6]
   refine tqK (i := 3) (v := ?_) rfl ?_ ?_
   rotate_left
   ·(intro w hSw; (try dsimp only at hSw); go_simp <;> (try with_reducible rfl))
   try simp only [Act.put, zq1, zq2, zq3, zq4, zq5, zq6]
   refine tqW (i := 4) (v := ?_) rfl (.inr (by assumption)) ?_ ?_
   rotate_left
   ·(intro w; go_simp <;> (try with_reducible rfl))
   try simp only [Act.put, zq1, zq2, zq3, zq4, zq5, zq6]
   refine wpAnyG_takeC (i := 5) (v := ?_) (f := 89) (args := #[.int .i64 l]) rfl (by kernel_rfl) (by kernel_rfl) (by kernel_rfl) rfl (by kernel_rfl) (by kernel_rfl) (fun _ _ _ h => h) (by assumption) (by rfl) ?_ ?_ ?_
   rotate_left
   ·(intro w; go_simp <;> (try with_reducible rfl))
   ·(intro w hSw; exact HPl.out w)
   try simp only [Act.put, zq1, zq2, zq3, zq4, zq5, zq6]
   refine tqW (i := 6) (v := ?_) rfl (.inr (by assumption)) ?_ ?_
   rotate_left
   ·(intro w; go_simp <;> (try with_reducible rfl))
   try simp only [Act.put, zq1, zq2, zq3, zq4, zq5, zq6]
   refine tqW (i := 7) (v := ?_) rfl (.inr (by assumption)) ?_ ?_
   rotate_left
   ·(intro w; go_simp <;> (try with_reducible rfl))
   try simp only [Act.put, zq1, zq2, zq3, zq4, zq5, zq6]
   refine wpAnyG_ready (rs := [8]) (by kernel_rfl) (by simp) ?_
   refine AllReadyG.late (i := 8) rfl (by kernel_rfl) (fun K hK => ?_) ?_
   ·(obtain ⟨s1, s2, s3⟩ := hHeld; go_simp)
    refine hK.out _ _ ?_
    clear hK K
    try simp only [Act.put, zq1, zq2, zq3, zq4, zq5, zq6]
    refine wpAnyG_done (by kernel_rfl) ?_ _
    go_wp2_with fail
    go_ret
    exact ⟨rfl, HFin.out 1⟩
   exact AllReadyG.nil
end
namespace Tr
theorem best_drop (T : Trail) {c : List Int} {k : Nat} (h : k < c.length) (b : Nat) : T.best c ((List.range c.length).drop k) b = T.best c ((List.range c.length).drop (k + 1)) (if T.rank (c.getD b 0) < T.rank (c.getD k 0) then k else b) := by
 rw [range_dropP h, Trail.best]
theorem best_end (T : Trail) {c : List Int} {k : Nat} (h : c.length ≤ k) (b : Nat) : T.best c ((List.range c.length).drop k) b = b := by
 rw [List.drop_of_length_le (by simpa using h), Trail.best]
def Trail.rewTo (T : Trail) (c : List Int) (i : Nat) : List Int := (List.range i).foldl T.rew1 c
theorem rewTo_succ (T : Trail) (c : List Int) (i : Nat) : T.rewTo c (i + 1) = T.rew1 (T.rewTo c i) i := by
 unfold Trail.rewTo; rw [List.range_succ, List.foldl_append]; rfl
theorem rewTo_len (T : Trail) (c : List Int) : ∀ i, (T.rewTo c i).length = c.length
 | 0 => rfl
 | i + 1 => by rw [rewTo_succ, Trail.rew1, swapL_len, rewTo_len T c i]
theorem rewTo_perm (T : Trail) (c : List Int) : ∀ i, i ≤ c.length → (T.rewTo c i).Perm c
 | 0, _ => List.Perm.refl _
 | i + 1, h => by
  rw [rewTo_succ]
  exact (rew1_perm T (by rw [rewTo_len]; omega)).trans (rewTo_perm T c i (by omega))
theorem setC_setC (T : Trail) (k : Nat) (a b : List Int) : (T.setC k a).setC k b = T.setC k b := by simp [Trail.setC]
end Tr
section
variable {w : World} {g : Tag} {b : Nat} {V : TrV} {T : Trail}
set_option maxRecDepth 100000 in
set_option maxHeartbeats 3200000 in
theorem prop_rewatch_any (H : TrAt w g b V T) (o : Ok T) (n : Nat) (hn : n < T.cls.length) :
  Calls Tryz.prog 112 #[.pointer (some ⟨b, 0, none⟩), cN n] w fun e w' => e = .returned (.tuple #[]) ∧ TrAt w' g b V (T.setC n (T.rewatch (T.cl n))) ∧ Only (fun q => g q = (34, n)) w w' := by
 have hTn := o.n
 have q1 := H.f1
 obtain ⟨bcs, cc, hvc, -, -, -, -⟩ := H.c.pos (by rw [H.ul]; omega)
 have hrc := H.c
 rw [hvc, H.ul] at q1 hrc
 have q2 := hrc.cell nilS (i := n) (by rw [H.ul]; exact hn)
 have hrk := H.ci n hn
 rw [show T.cls.getD n [] = T.cl n from rfl] at hrk
 obtain ⟨au, cu, hvu, hu1, -⟩ := hrk.shape
 simp only [List.length_map] at hvu hu1
 rw [hvu] at q2
 have hcl := o.cll hn
 have hgood := o.cl hn
 have hcb := o.cb
 obtain ⟨c, hc⟩ : ∃ c, T.cl n = c := ⟨_, rfl⟩
 have hstart : TrAt w g b V (T.setC n (T.rewTo c 0)) := by
  show TrAt w g b V (T.setC n c)
  rw [← hc, setC_self]; exact H
 have hrw : T.rewatch (T.cl n) = T.rewTo c (min c.length 2) := by rw [hc]; rfl
 have hbc : 0 < c.length → ∃ bc, au = some ⟨bc, 0, none⟩ ∧ g bc = (34, n) := by
  intro hp
  have hh := hrk
  rw [hc, hvu] at hh
  obtain ⟨bc, _, he, _, _, ht, _⟩ := hh.pos (by simpa using hp)
  simp at he; exact ⟨bc, he.1, ht⟩
 rw [hc] at q2 hvu hu1 hcl hgood
 have HH := Lib.hid H
 have HOk := Lib.hid o
 have HSt := Lib.hid hstart
 have HRw := Lib.hid hrw
 have HBc := Lib.hid hbc
 have HVu := Lib.hid hvu
 have HGood := Lib.hid hgood
 obtain ⟨mm, hmm⟩ : ∃ mm : Nat, mm = min c.length 2 := ⟨_, rfl⟩
 have hmm2 : min (c.length : Int) 2 = (mm : Int) := by omega
 have hmb : mm ≤ 2 ∧ mm ≤ c.length := by omega
 have HMm := Lib.hid hmm
 obtain ⟨hmb1, hmb2⟩ := hmb
 clear H o hstart hrw hbc hrk hrc hvc hgood hmm hvu
 go_enter Tryz.func112, Tryz.ntmps112
 go_wp2_with fail
 go_loopw [18] (fun v wr => ∃ i : Nat, v = .int .i64 i ∧ i ≤ mm ∧ TrAt wr g b V (T.setC n (T.rewTo c i)) ∧ Only (fun q => g q = (34, n)) w wr) (fun v _ => mm - (intOf v).toNat)
 case atStart => exact ⟨0, rfl, Nat.zero_le _, HSt.out, Only.refl _ _⟩
 case round =>
  clear HSt q1 q2
  obtain ⟨i, rfl, hi, hT, hO⟩ := hrel
  generalize wr = wo at *
  by_cases ci : i < mm
  ·obtain ⟨bc, rfl, htb⟩ := HBc.out (by omega)
   obtain ⟨d, hd⟩ : ∃ d, T.rewTo c i = d := ⟨_, rfl⟩
   have hdl : d.length = c.length := by rw [← hd]; exact rewTo_len T c i
   have hdp : d.Perm c := by rw [← hd]; exact rewTo_perm T c i (by omega)
   have hdg := good_perm HGood.out hdp
   rw [hd] at hT
   have HT := Lib.hid hT
   have hok : Ok (T.setC n d) := HOk.out.setC hdg
   have HOk2 := Lib.hid hok
   have hck : (T.setC n d).cl n = d := by rw [setC_cl hn, if_pos rfl]
   have HCk := Lib.hid hck
   have HD := Lib.hid hd
   have HDg := Lib.hid hdg
   have hrowk : ∀ W, Only (fun _ => False) wo W → Row W g (34, n) 3 (.slice (some ⟨bc, 0, none⟩) c.length cu) (d.map cI) := by
    intro W oW
    have h1 := (HT.out.only0 oW).ci n (by simpa [Trail.setC] using hn)
    rwa [show (T.setC n d).cls.getD n [] = (T.setC n d).cl n from rfl, HCk.out, HVu.out] at h1
   have HRowk := Lib.hid hrowk
   have hrank : ∀ W j, Only (fun _ => False) wo W → j < d.length → Calls Tryz.prog 143 #[.pointer (some ⟨b, 0, none⟩), .int .i64 (d.getD j 0)] W fun e w' => e = .returned (.int .i64 (T.rank (d.getD j 0))) ∧ Only (fun _ => False) W w' := by
    intro W j oW hj
    exact prop_rank_any (HT.out.only0 oW) HOk2.out _ (hdg.lit _ (getD_mem' 0 hj)) _ rfl
   have HRank := Lib.hid hrank
   clear hT hd hdp hdg hok hck hrowk hrank
   have ewi : IntKind.i64.wrap ((i : Int) + 1) = ((i + 1 : Nat) : Int) := by rw [IntWalk.i64_in _ (by omega)]; rfl
   go_wp2_with fail
   go_loopw [6, 7] (fun v6 v7 W_ => ∃ (bst k : Nat), v6 = .int .i64 bst ∧ v7 = .int .i64 k ∧ i + 1 ≤ k ∧ k ≤ c.length ∧ i ≤ bst ∧ bst < c.length ∧ T.best d ((List.range d.length).drop k) bst = T.bestAt d i ∧ Only (fun _ => False) wo W_) (fun _ v _ => c.length - (intOf v).toNat)
   case atStart => exact ⟨i, i + 1, rfl, rfl, Nat.le_refl _, by omega, Nat.le_refl _, by omega, rfl, Only.refl _ _⟩
   case round =>
    obtain ⟨bst, k, rfl, rfl, k1, k2, b1, b2, hB, oX⟩ := hrel
    by_cases ck : k < c.length
    ·have hbd := best_drop T (c := d) (k := k) (by omega) bst
     rw [hB] at hbd
     have HB := Lib.hid hbd
     have hx := (HRowk.out wr oX).cellM (f := cI) 0 (i := k) (by omega)
     have hy := (HRowk.out wr oX).cellM (f := cI) 0 (i := bst) (by omega)
     obtain ⟨x, hxe⟩ : ∃ x, d.getD k 0 = x := ⟨_, rfl⟩
     obtain ⟨y, hye⟩ : ∃ y, d.getD bst 0 = y := ⟨_, rfl⟩
     have rx := fun W oW => HRank.out W k oW (by omega)
     have ry := fun W oW => HRank.out W bst oW (by omega)
     rw [hxe] at hx rx
     rw [hye] at hy ry
     rw [hxe, hye] at HB
     obtain ⟨vx, hvx⟩ : ∃ vx, T.rank x = vx := ⟨_, rfl⟩
     obtain ⟨vy, hvy⟩ : ∃ vy, T.rank y = vy := ⟨_, rfl⟩
     rw [hvx] at rx
     rw [hvy] at ry
     rw [hvx, hvy] at HB
     have HRx := Lib.hid rx
     have HRy := Lib.hid ry
     have hS5 : ∀ w', Only (fun _ => False) wr w' → Only (fun _ => False) wo w' ∧ w'.cell? ⟨bc, k, none⟩ = some (cI x) ∧ w'.cell? ⟨bc, bst, none⟩ = some (cI y) := fun w' h => ⟨oX.same h, cell_keep hx h (fun f => f), cell_keep hy h (fun f => f)⟩
     have HS5 := Lib.hid hS5
     have ewk : IntKind.i64.wrap ((k : Int) + 1) = ((k + 1 : Nat) : Int) := by rw [IntWalk.i64_in _ (by omega)]; rfl
     have kb : (k : Int) < (c.length : Int) := by omega
     have bb : (bst : Int) < (c.length : Int) := by omega
     clear rx ry hxe hye hvx hvy hB hbd hS5
     go_wp2_with fail
     refine wp_region_G (n := 13) (E := fun _ => false) (S := fun w' => Only (fun _ => False) wo w' ∧ w'.cell? ⟨bc, k, none⟩ = some (cI x) ∧ w'.cell? ⟨bc, bst, none⟩ = some (cI y)) (by kernel_rfl) rfl (HS5.out _ ((Only.refl _ _).drew)) (fun hHeld => ?_)
     refine tqW (i := 0) (v := ?_) rfl (.inr (by assumption)) ?_ ?_
     rotate_left
     ·(intro w; go_simp <;> (try with_reducible rfl))
     try simp only [Act.put, zq1, zq3, zq4, zq5, zq6]
     refine tqW (i := 1) (v := ?_) rfl (.inr (by assumption)) ?_ ?_
     rotate_left
     ·(intro w; go_simp <;> (try with_reducible rfl))
     try simp only [Act.put, zq1, zq2, zq3, zq4, zq5, zq6]
     refine tqW (i := 2) (v := ?_) rfl (.inr (by assumption)) ?_ ?_
     rotate_left
     ·(intro w; go_simp <;> (try with_reducible rfl))
     try simp only [Act.put, zq1, zq2, zq3, zq4, zq5, zq6]
     refine tqW (i := 3) (v := ?_) rfl (.inr (by assumption)) ?_ ?_
     rotate_left
     ·(intro w; go_simp <;> (try with_reducible rfl))
     try simp only [Act.put, zq1, zq2, zq3, zq4, zq5, zq6]
     refine tqK (i := 4) (v := ?_) rfl ?_ ?_
     rotate_left
     ·(intro w hSw; (try dsimp only at hSw); go_simp <;> (try with_reducible rfl))
     try simp only [Act.put, zq1, zq2, zq3, zq4, zq5, zq6]
     refine tqW (i := 6) (v := ?_) rfl (.inr (by assumption)) ?_ ?_
     rotate_left
     ·(intro w; go_simp <;> (try with_reducible rfl))
     try simp only [Act.put, zq1, zq2, zq3, zq4, zq5, zq6]
     refine tqW (i := 7) (v := ?_) rfl (.inr (by assumption)) ?_ ?_
     rotate_left
     ·(intro w; go_simp <;> (try with_reducible rfl))
     try simp only [Act.put, zq1, zq2, zq3, zq4, zq5, zq6]
     refine tqW (i := 8) (v := ?_) rfl (.inr (by assumption)) ?_ ?_
     rotate_left
     ·(intro w; go_simp <;> (try with_reducible rfl))
     try simp only [Act.put, zq1, zq2, zq3, zq4, zq5, zq6]
     refine tqW (i := 9) (v := ?_) rfl (.inr (by assumption)) ?_ ?_
     rotate_left
     ·(intro w; go_simp <;> (try with_reducible rfl))
     try simp only [Act.put, zq1, zq2, zq3, zq4, zq5, zq6]
     refine tqK (i := 10) (v := ?_) rfl ?_ ?_
     rotate_left
     ·(intro w hSw; (try dsimp only at hSw); go_simp <;> (try with_reducible rfl))
     try simp only [Act.put, zq1, zq2, zq3, zq4, zq5, zq6]
     refine wpAnyG_ready (rs := [5]) (by kernel_rfl) (by simp) ?_
     refine AllReadyG.cons (i := 5) rfl (fun K hK => ?_) ?_
     ·(go_simp; refine (HRx.out _ hHeld.1).mono ?_; rintro e w9 ⟨rfl, O9⟩; try go_wp2_with fail)
      refine hK.out _ _ ?_ (fun hHeld => ?_)
      ·(try dsimp only) <;> (exact ⟨hHeld.1.same O9, cell_keep hHeld.2.1 O9 (fun f => f), cell_keep hHeld.2.2 O9 (fun f => f)⟩)
      clear hK K
      try simp only [Act.put, zq1, zq2, zq3, zq4, zq5, zq6]
      refine wpAnyG_ready (rs := [11]) (by kernel_rfl) (by simp) ?_
      refine AllReadyG.cons (i := 11) rfl (fun K hK => ?_) ?_
      ·(go_simp; refine (HRy.out _ hHeld.1).mono ?_; rintro e w9 ⟨rfl, O9⟩; try go_wp2_with fail)
       refine hK.out _ _ ?_ (fun hHeld => ?_)
       ·(try dsimp only) <;> (exact ⟨hHeld.1.same O9, cell_keep hHeld.2.1 O9 (fun f => f), cell_keep hHeld.2.2 O9 (fun f => f)⟩)
       clear hK K
       try simp only [Act.put, zq1, zq2, zq3, zq4, zq5, zq6]
       refine tqW (i := 12) (v := ?_) rfl (.inr (by assumption)) ?_ ?_
       rotate_left
       ·(intro w; go_simp <;> (try with_reducible rfl))
       try simp only [Act.put, zq1, zq2, zq3, zq4, zq5, zq6]
       refine wpAnyG_done (by kernel_rfl) ?_ _
       obtain ⟨oY, -, -⟩ := hHeld
       by_cases cg : vy < vx
       ·have hb2 := HB.out
        rw [if_pos cg] at hb2
        have HB2 := Lib.hid hb2
        have dg : decide (vy < vx) = true := decide_eq_true cg
        clear hb2
        go_wp2_with fail
        go_roundw
        case rel => exact ⟨k, k + 1, rfl, by first | rfl | go_num, by omega, by omega, by omega, by omega, HB2.out.symm, oY⟩
        case measure => simp [intOf]; omega
       ·have hb2 := HB.out
        rw [if_neg cg] at hb2
        have HB2 := Lib.hid hb2
        have dg : decide (vy < vx) = false := decide_eq_false cg
        clear hb2
        go_wp2_with fail
        go_roundw
        case rel => exact ⟨bst, k + 1, rfl, by first | rfl | go_num, by omega, by omega, by omega, by omega, HB2.out.symm, oY⟩
        case measure => simp [intOf]; omega
      exact AllReadyG.nil
     exact AllReadyG.nil
    ·have hk' : d.length ≤ k := by omega
     rw [best_end T hk'] at hB
     have hbs : bst = T.bestAt d i := hB
     have hx := (HRowk.out wr oX).cellM (f := cI) 0 (i := i) (by omega)
     have hy := (HRowk.out wr oX).cellM (f := cI) 0 (i := bst) (by omega)
     have fx := (HRowk.out wr oX).free i
     have fy := (HRowk.out wr oX).free bst
     have hsw := (HT.out.only0 oX).swap (k := n) (i := i) (j := bst) (by simpa [Trail.setC] using hn) HVu.out
     rw [HCk.out, setC_setC] at hsw
     have hrs : swapL d i bst = T.rewTo c (i + 1) := by rw [rewTo_succ, HD.out, hbs]; rfl
     rw [hrs] at hsw
     obtain ⟨x, hxe⟩ : ∃ x, d.getD i 0 = x := ⟨_, rfl⟩
     obtain ⟨y, hye⟩ : ∃ y, d.getD bst 0 = y := ⟨_, rfl⟩
     rw [hxe] at hx hsw
     rw [hye] at hy hsw
     have hsw2 : TrAt ((wr.setCell ⟨bc, i, none⟩ (.int .i64 y)).setCell ⟨bc, bst, none⟩ (.int .i64 x)).drew g b V (T.setC n (T.rewTo c (i + 1))) ∧ Only (fun q => g q = (34, n)) w ((wr.setCell ⟨bc, i, none⟩ (.int .i64 y)).setCell ⟨bc, bst, none⟩ (.int .i64 x)).drew := ⟨hsw.1.drew, (hO.same ((oX.mono fun _ f => f.elim).same hsw.2)).drew⟩
     have HSw := Lib.hid hsw2
     have kb : (i : Int) < (c.length : Int) := by omega
     have bb : (bst : Int) < (c.length : Int) := by omega
     clear hsw hsw2 hrs hbs hB
     by_cases eib : i = bst
     ·subst eib
      obtain rfl : x = y := by rw [← hxe, ← hye]
      clear hxe hye
      go_wp2_with fail
      refine wp_region_G (n := 16) (E := fun j => j == 13 || j == 15) (S := fun w' => w'.cell? ⟨bc, i, none⟩ = some (cI x) ∧ w'.frozen? ⟨bc, i, none⟩ = false) (by kernel_rfl) rfl ⟨hx, fx⟩ (fun hHeld => ?_)
      refine tqW (i := 0) (v := ?_) rfl (.inr (by assumption)) ?_ ?_
      rotate_left
      ·(intro w; go_simp <;> (try with_reducible rfl))
      try simp only [Act.put, zq1, zq3, zq4, zq5, zq6]
      refine tqW (i := 1) (v := ?_) rfl (.inr (by assumption)) ?_ ?_
      rotate_left
      ·(intro w; go_simp <;> (try with_reducible rfl))
      try simp only [Act.put, zq1, zq2, zq3, zq4, zq5, zq6]
      refine tqW (i := 2) (v := ?_) rfl (.inr (by assumption)) ?_ ?_
      rotate_left
      ·(intro w; go_simp <;> (try with_reducible rfl))
      try simp only [Act.put, zq1, zq2, zq3, zq4, zq5, zq6]
      refine tqW (i := 3) (v := ?_) rfl (.inr (by assumption)) ?_ ?_
      rotate_left
      ·(intro w; go_simp <;> (try with_reducible rfl))
      try simp only [Act.put, zq1, zq2, zq3, zq4, zq5, zq6]
      refine tqW (i := 4) (v := ?_) rfl (.inr (by assumption)) ?_ ?_
      rotate_left
      ·(intro w; go_simp <;> (try with_reducible rfl))
      try simp only [Act.put, zq1, zq2, zq3, zq4, zq5, zq6]
      refine tqW (i := 5) (v := ?_) rfl (.inr (by assumption)) ?_ ?_
      rotate_left
      ·(intro w; go_simp <;> (try with_reducible rfl))
      try simp only [Act.put, zq1, zq2, zq3, zq4, zq5, zq6]
      refine tqW (i := 6) (v := ?_) rfl (.inr (by assumption)) ?_ ?_
      rotate_left
      ·(intro w; go_simp <;> (try with_reducible rfl))
      try simp only [Act.put, zq1, zq2, zq3, zq4, zq5, zq6]
      refine tqK (i := 7) (v := ?_) rfl ?_ ?_
      rotate_left
      ·(intro w hSw; (try dsimp only at hSw); go_simp <;> (try with_reducible rfl))
      try simp only [Act.put, zq1, zq2, zq3, zq4, zq5, zq6]
      refine tqW (i := 8) (v := ?_) rfl (.inr (by assumption)) ?_ ?_
      rotate_left
      ·(intro w; go_simp <;> (try with_reducible rfl))
      try simp only [Act.put, zq1, zq2, zq3, zq4, zq5, zq6]
      refine tqW (i := 9) (v := ?_) rfl (.inr (by assumption)) ?_ ?_
      rotate_left
      ·(intro w; go_simp <;> (try with_reducible rfl))
      try simp only [Act.put, zq1, zq2, zq3, zq4, zq5, zq6]
      refine tqW (i := 10) (v := ?_) rfl (.inr (by assumption)) ?_ ?_
      rotate_left
      ·(intro w; go_simp <;> (try with_reducible rfl))
      try simp only [Act.put, zq1, zq2, zq3, zq4, zq5, zq6]
      refine tqK (i := 11) (v := ?_) rfl ?_ ?_
      rotate_left
      ·(intro w hSw; (try dsimp only at hSw); go_simp <;> (try with_reducible rfl))
      try simp only [Act.put, zq1, zq2, zq3, zq4, zq5, zq6]
      refine tqW (i := 12) (v := ?_) rfl (.inr (by assumption)) ?_ ?_
      rotate_left
      ·(intro w; go_simp <;> (try with_reducible rfl))
      try simp only [Act.put, zq1, zq2, zq3, zq4, zq5, zq6]
      refine wpAnyG_ready (rs := [13]) (by kernel_rfl) (by simp) ?_
      refine AllReadyG.late (i := 13) rfl (by kernel_rfl) (fun K hK => ?_) ?_
      ·(obtain ⟨s1, s2⟩ := hHeld; go_simp)
       refine hK.out _ _ ?_
       clear hK K
       try simp only [Act.put, zq1, zq2, zq3, zq4, zq5, zq6]
       refine tqW (i := 14) (v := ?_) rfl (.inl (by kernel_rfl)) ?_ ?_
       rotate_left
       ·(intro w; go_simp <;> (try with_reducible rfl))
       try simp only [Act.put, zq1, zq2, zq3, zq4, zq5, zq6]
       refine wpAnyG_ready (rs := [15]) (by kernel_rfl) (by simp) ?_
       refine AllReadyG.late (i := 15) rfl (by kernel_rfl) (fun K hK => ?_) ?_
       ·(go_simp)
        refine hK.out _ _ ?_
        clear hK K
        try simp only [Act.put, zq1, zq2, zq3, zq4, zq5, zq6]
        refine wpAnyG_done (by kernel_rfl) ?_ _
        clear s1 s2
        go_wp2_with fail
        go_roundw
        case rel => exact ⟨i + 1, by go_num, by omega, HSw.out.1, HSw.out.2⟩
        case measure => simp [intOf]; omega
       exact AllReadyG.nil
      exact AllReadyG.nil
     ·clear hxe hye
      have eib' : bst ≠ i := fun e => eib e.symm
      go_wp2_with fail
      refine wp_region_G (n := 16) (E := fun j => j == 13 || j == 15) (S := fun w' => w'.cell? ⟨bc, i, none⟩ = some (cI x) ∧ w'.cell? ⟨bc, bst, none⟩ = some (cI y) ∧ w'.frozen? ⟨bc, i, none⟩ = false ∧ w'.frozen? ⟨bc, bst, none⟩ = false) (by kernel_rfl) rfl ⟨hx, hy, fx, fy⟩ (fun hHeld => ?_)
      refine tqW (i := 0) (v := ?_) rfl (.inr (by assumption)) ?_ ?_
      rotate_left
      ·(intro w; go_simp <;> (try with_reducible rfl))
      try simp only [Act.put, zq1, zq3, zq4, zq5, zq6]
      refine tqW (i := 1) (v := ?_) rfl (.inr (by assumption)) ?_ ?_
      rotate_left
      ·(intro w; go_simp <;> (try with_reducible rfl))
      try simp only [Act.put, zq1, zq2, zq3, zq4, zq5, zq6]
      refine tqW (i := 2) (v := ?_) rfl (.inr (by assumption)) ?_ ?_
      rotate_left
      ·(intro w; go_simp <;> (try with_reducible rfl))
      try simp only [Act.put, zq1, zq2, zq3, zq4, zq5, zq6]
      refine tqW (i := 3) (v := ?_) rfl (.inr (by assumption)) ?_ ?_
      rotate_left
      ·(intro w; go_simp <;> (try with_reducible rfl))
      try simp only [Act.put, zq1, zq2, zq3, zq4, zq5, zq6]
      refine tqW (i := 4) (v := ?_) rfl (.inr (by assumption)) ?_ ?_
      rotate_left
      ·(intro w; go_simp <;> (try with_reducible rfl))
      try simp only [Act.put, zq1, zq2, zq3, zq4, zq5, zq6]
      refine tqW (i := 5) (v := ?_) rfl (.inr (by assumption)) ?_ ?_
      rotate_left
      ·(intro w; go_simp <;> (try with_reducible rfl))
      try simp only [Act.put, zq1, zq2, zq3, zq4, zq5, zq6]
      refine tqW (i := 6) (v := ?_) rfl (.inr (by assumption)) ?_ ?_
      rotate_left
      ·(intro w; go_simp <;> (try with_reducible rfl))
      try simp only [Act.put, zq1, zq2, zq3, zq4, zq5, zq6]
      refine tqK (i := 7) (v := ?_) rfl ?_ ?_
      rotate_left
      ·(intro w hSw; (try dsimp only at hSw); go_simp <;> (try with_reducible rfl))
      try simp only [Act.put, zq1, zq2, zq3, zq4, zq5, zq6]
      refine tqW (i := 8) (v := ?_) rfl (.inr (by assumption)) ?_ ?_
      rotate_left
      ·(intro w; go_simp <;> (try with_reducible rfl))
      try simp only [Act.put, zq1, zq2, zq3, zq4, zq5, zq6]
      refine tqW (i := 9) (v := ?_) rfl (.inr (by assumption)) ?_ ?_
      rotate_left
      ·(intro w; go_simp <;> (try with_reducible rfl))
      try simp only [Act.put, zq1, zq2, zq3, zq4, zq5, zq6]
      refine tqW (i := 10) (v := ?_) rfl (.inr (by assumption)) ?_ ?_
      rotate_left
      ·(intro w; go_simp <;> (try with_reducible rfl))
      try simp only [Act.put, zq1, zq2, zq3, zq4, zq5, zq6]
      refine tqK (i := 11) (v := ?_) rfl ?_ ?_
      rotate_left
      ·(intro w hSw; (try dsimp only at hSw); go_simp <;> (try with_reducible rfl))
      try simp only [Act.put, zq1, zq2, zq3, zq4, zq5, zq6]
      refine tqW (i := 12) (v := ?_) rfl (.inr (by assumption)) ?_ ?_
      rotate_left
      ·(intro w; go_simp <;> (try with_reducible rfl))
      try simp only [Act.put, zq1, zq2, zq3, zq4, zq5, zq6]
      refine wpAnyG_ready (rs := [13]) (by kernel_rfl) (by simp) ?_
      refine AllReadyG.late (i := 13) rfl (by kernel_rfl) (fun K hK => ?_) ?_
      ·(obtain ⟨s1, s2, s3, s4⟩ := hHeld; go_simp)
       refine hK.out _ _ ?_
       clear hK K
       try simp only [Act.put, zq1, zq2, zq3, zq4, zq5, zq6]
       refine tqW (i := 14) (v := ?_) rfl (.inl (by kernel_rfl)) ?_ ?_
       rotate_left
       ·(intro w; go_simp <;> (try with_reducible rfl))
       try simp only [Act.put, zq1, zq2, zq3, zq4, zq5, zq6]
       refine wpAnyG_ready (rs := [15]) (by kernel_rfl) (by simp) ?_
       refine AllReadyG.late (i := 15) rfl (by kernel_rfl) (fun K hK => ?_) ?_
       ·(go_simp)
        refine hK.out _ _ ?_
        clear hK K
        try simp only [Act.put, zq1, zq2, zq3, zq4, zq5, zq6]
        refine wpAnyG_done (by kernel_rfl) ?_ _
        clear s1 s2 s3 s4
        go_wp2_with fail
        go_roundw
        case rel => exact ⟨i + 1, by go_num, by omega, HSw.out.1, HSw.out.2⟩
        case measure => simp [intOf]; omega
       exact AllReadyG.nil
      exact AllReadyG.nil
  ·have hi' : i = min c.length 2 := by rw [← HMm.out]; omega
   have hfin : TrAt wo g b V (T.setC n (T.rewatch (T.cl n))) := by rw [HRw.out, ← hi']; exact hT
   have HFin := Lib.hid hfin
   clear hfin hT
   go_wp2_with fail
   go_end0
   exact ⟨rfl, HFin.out, hO⟩
end
end Go.Proofs.YtjedgdamommgeaaGreat
