/- Prop8, in one text. -/
import Derived.Test.YtjedgdamommgeaaGreatPrB
import Derived.Test.YtjedgdamommgeaaGreatCnfA
set_option linter.unusedVariables false
namespace Go.Proofs.YtjedgdamommgeaaGreat
open Go.RowKit
open Tr
section
open Go.Lib Go.Sort Go.Shelf
theorem enter_first1 : ∀ args w, (callFunc 111 args).run Tryz.prog w = .ok (.enter 111 args) w := enters_of Tryz.func111 (by kernel_rfl) rfl
end
section
variable {w : World} {g : Tag} {b : Nat} {V : TrV} {T : Trail}
theorem first1_any {W : World} {bn k : Nat} (hc : W.cell? ⟨bn, 0, none⟩ = some (cN k)) (x : Int) : Calls Tryz.prog 111 #[.int .i64 x, .pointer (some ⟨bn, 0, none⟩)] W fun e W' => e = .returned (.bool (x == (k : Int))) ∧ W = W' := by
 go_enter Tryz.func111, Tryz.ntmps111
 go_wp2_with fail
 go_ret
 exact ⟨rfl, rfl⟩
theorem keepF_nat (k : Nat) (ks : List Nat) : keepF (fun x => x == (k : Int)) (ks.map fun (n : Nat) => (n : Int)) = (ks.filter (· != k)).map fun (n : Nat) => (n : Int) := by
 unfold keepF
 induction ks with
 | nil => rfl
 | cons a r ih =>
  rw [List.map_cons, List.filter_cons, List.filter_cons, ih]
  by_cases e : a = k
  ·subst e; simp
  ·have e1 : ((a : Int) == (k : Int)) = false := by rw [beq_eq_false_iff_ne]; omega
   have e2 : (a != k) = true := by simpa using e
   show (if (!((a : Int) == (k : Int))) = true then _ else _) = _
   rw [e1, e2]; simp
theorem map_cN (ks : List Nat) : (ks.map fun (n : Nat) => (n : Int)).map cI = ks.map cN := by simp
theorem TrAt.wapp (H : TrAt w g b V T) (hw : T.watch.length = 2 * T.n) {p k bt nt ct : Nat} (hp : p < 2 * T.n) (hvw : V.vw = .slice (some ⟨bt, 0, none⟩) nt ct) (wA w5 : World) (v' : Value) (s : Nat) (o5 : Only (fun q => g q = (37, p)) wA w5) (hs : wA.heap.size = s)
  (r5 : Row w5 (Tag.put g s w5.heap.size (37, p)) (37, p) 3 v' ((T.wt p).map cN ++ [.int .i64 (k : Int)])) (oA : Only (fun _ => False) w wA) :
  ∃ g5, TrAt (w5.setCell ⟨bt, p, none⟩ v') g5 b { V with ws := V.ws.set p v' } (T.setW p (T.wt p ++ [k])) ∧ Agree w g g5 ∧ Only (Mine g) w (w5.setCell ⟨bt, p, none⟩ v') := by
 subst hs
 have ag : Agree w g (Tag.put g wA.heap.size w5.heap.size (37, p)) := Agree.put g _ oA.size
 have o25 : Only (fun q => g q = (37, p)) w w5 := (oA.mono fun _ f => f.elim).same o5
 have htw : g bt = (36, 0) := by have := H.wr; rw [hvw] at this; exact this.tg bt rfl
 refine ⟨_, H.setW hw hp hvw ag (Fresh.put (w := wA) (37, p) (H.fresh.more oA.size) o5.size) o25 (by simpa [List.map_append] using r5), ag, (o25.mono fun q hq => by unfold Mine; rw [hq]; simp).setCell (.inl (by unfold Mine; rw [htw]; simp)) _⟩
theorem TrAt.wdel (H : TrAt w g b V T) (hw : T.watch.length = 2 * T.n) {p k bt nt ct : Nat} (hp : p < 2 * T.n) (hvw : V.vw = .slice (some ⟨bt, 0, none⟩) nt ct) (wA w5 : World) (oA : Only (fun _ => False) w wA) {ao : Option Addr} {cap : Nat} {ys : List Int} (hys : ys = ((T.wt p).filter (· != k)).map fun (n : Nat) => (n : Int))
  (r5 : w5.ownsRow 0 3 1 (.slice ao ys.length cap) ys.length (ys.map cI)) (o5 : Only (fun q => (V.ws.getD p nilS).ownBlock = some q) wA w5) (hb : Value.ownBlock (.slice ao ys.length cap) = (V.ws.getD p nilS).ownBlock) :
  TrAt (w5.setCell ⟨bt, p, none⟩ (.slice ao ys.length cap)) g b { V with ws := V.ws.set p (.slice ao ys.length cap) } (T.setW p ((T.wt p).filter (· != k))) ∧ Only (Mine g) w (w5.setCell ⟨bt, p, none⟩ (.slice ao ys.length cap)) := by
 have hr := H.wi p hp
 have o25 : Only (fun q => g q = (37, p)) w w5 := (oA.mono fun _ f => f.elim).same (o5.mono fun q hq => hr.tg q hq)
 have htw : g bt = (36, 0) := by have := H.wr; rw [hvw] at this; exact this.tg bt rfl
 refine ⟨H.setW hw hp hvw (Agree.refl _ _) (H.fresh.more o25.size) o25 ⟨?_, fun q hq => hr.tg q (by rw [← hb]; exact hq)⟩, (o25.mono fun q hq => by unfold Mine; rw [hq]; simp).setCell (.inl (by unfold Mine; rw [htw]; simp)) _⟩
 rw [hys, map_cN] at r5
 have e : ys.length = (((T.wt p).filter (· != k)).map cN).length := by rw [hys]; simp
 have e2 : (((T.wt p).filter (· != k)).map fun (n : Nat) => (n : Int)).length = ys.length := by rw [hys]
 rw [e2] at r5
 rw [← e]; exact r5
structure WLoop (w0 : World) (g : Tag) (b : Nat) (V : TrV) (T : Trail) (W : List (List Nat)) (wr : World) (g' : Tag) (ws : List Value) : Prop where
 at_ : TrAt wr g' b { V with ws := ws } { T with watch := W }
 ag : Agree w0 g g'
 on : Only (Mine g) w0 wr
 wl : W.length = 2 * T.n
theorem delW_step (W : List (List Nat)) (c : List Int) (k : Nat) {j : Nat} (hj : j < c.length) : delW W (c.take (j + 1)) k = (delW W (c.take j) k).set (place (c.getD j 0)) (((delW W (c.take j) k).getD (place (c.getD j 0)) []).filter (· != k)) := by
 rw [take_snocI c j hj]; unfold delW; rw [List.foldl_append]; rfl
theorem addW_step (W : List (List Nat)) (c : List Int) (k : Nat) {j : Nat} (hj : j < c.length) : addW W (c.take (j + 1)) k = (addW W (c.take j) k).set (place (c.getD j 0)) ((addW W (c.take j) k).getD (place (c.getD j 0)) [] ++ [k]) := by
 rw [take_snocI c j hj]; unfold addW; rw [List.foldl_append]; rfl
theorem delW_le (k : Nat) : ∀ (ls : List Int) (W : List (List Nat)) (B : Nat), (∀ p, (W.getD p []).length ≤ B) → ∀ p, ((delW W ls k).getD p []).length ≤ B
 | [], W, B, h, p => h p
 | l :: r, W, B, h, p => by
  have e : delW W (l :: r) k = delW (W.set (place l) ((W.getD (place l) []).filter (· != k))) r k := rfl
  rw [e]
  refine delW_le k r _ B (fun q => ?_) p
  by_cases e1 : place l = q
  ·subst e1
   by_cases hl : place l < W.length
   ·rw [getD_set1 hl]; exact Nat.le_trans (List.length_filter_le _ _) (h _)
   ·rw [List.set_eq_of_length_le (by omega)]; exact h _
  ·rw [getD_set2 e1]; exact h q
theorem addW_le (k : Nat) : ∀ (ls : List Int) (W : List (List Nat)) (B : Nat), (∀ p, (W.getD p []).length ≤ B) → ∀ p, ((addW W ls k).getD p []).length ≤ B + ls.length
 | [], W, B, h, p => h p
 | l :: r, W, B, h, p => by
  have e : addW W (l :: r) k = addW (W.set (place l) (W.getD (place l) [] ++ [k])) r k := rfl
  rw [e]
  have := addW_le k r (W.set (place l) (W.getD (place l) [] ++ [k])) (B + 1) (fun q => by
   by_cases e1 : place l = q
   ·subst e1
    by_cases hl : place l < W.length
    ·rw [getD_set1 hl, List.length_append, List.length_singleton]; have := h (place l); omega
    ·rw [List.set_eq_of_length_le (by omega)]; have := h (place l); omega
   ·rw [getD_set2 e1]; have := h q; omega) p
  simp only [List.length_cons]; omega
theorem best_congr {T U : Trail} (h : ∀ x, U.rank x = T.rank x) (c : List Int) : ∀ ks b, U.best c ks b = T.best c ks b
 | [], _ => rfl
 | k :: r, b => by unfold Trail.best; rw [h, h]; exact best_congr h c r _
theorem rewatch_congr {T U : Trail} (h : ∀ x, U.rank x = T.rank x) (c : List Int) : U.rewatch c = T.rewatch c := by
 have h1 : U.rew1 = T.rew1 := by
  funext c i
  unfold Trail.rew1 Trail.bestAt
  rw [best_congr h]
 unfold Trail.rewatch; rw [h1]
theorem Tr.Ok.first0 {T : Trail} (o : Ok T) {k : Nat} (hk : k < T.cls.length) : Ok (T.first0 k) := by
 have o1 : Ok (T.setC k (T.rewatch (T.cl k))) := o.setC (good_perm (o.cl hk) (rewatch_best T (T.cl k)).perm)
 exact ⟨o1.n, o1.gl, by simp [Trail.first0, addW_len, delW_len, o.wl], o1.cls, o1.cb, o1.good, o1.sm, o1.next, o1.lev, o1.lin, o1.rea⟩
theorem Tr.Inv.weakl {T : Trail} (h : Inv T) : T.weak.length ≤ T.cls.length := by
 have h1 := (List.nodup_append.1 h.sn).2.1
 exact nodup_lt h1 (fun x hx => h.ok.sm x (List.mem_append_right _ hx))
theorem Tr.Inv.shortl {T : Trail} (h : Inv T) : T.short.length + T.weak.length ≤ T.cls.length := by
 have := nodup_lt h.sn h.ok.sm
 simpa using this
def FirTo (w : World) (g : Tag) (b : Nat) (T : Trail) (k : Nat) (w' : World) : Prop := TrTo w g b (T.first k).1 w'
set_option maxRecDepth 100000 in
set_option maxHeartbeats 6400000 in
theorem prop_first_any (H : TrAt w g b V T) (I : Inv T) (k : Nat) (hk : k < T.cls.length) (r : Bool) (hr : (T.first k).2 = r) :
  Calls Tryz.prog 68 #[.pointer (some ⟨b, 0, none⟩), cN k] w fun e w' => e = .returned (.bool r) ∧ FirTo w g b T k w' := by
 have o := I.ok
 have hn := o.n
 have hcb := o.cb
 have hbn : (g w.heap.size).1 = 0 := H.fresh _ (Nat.le_refl _)
 have H0 : TrAt (w.alloc (.cells #[cN k] 3)) g b V T := H.alloc _
 have hbox : (w.alloc (.cells #[cN k] 3)).cell? ⟨w.heap.size, 0, none⟩ = some (cN k) := cell_newE _ _ _ _ rfl
 have ow0 : Only (fun _ => False) w (w.alloc (.cells #[cN k] 3)) := (Only.refl _ w).alloc _
 have hbl : w.heap.size < (w.alloc (.cells #[cN k] 3)).heap.size := by simp
 have q1 := H0.f1
 obtain ⟨bcs, cc, hvc, -, -, -, -⟩ := H0.c.pos (by rw [H0.ul]; omega)
 have hrc := H0.c
 rw [hvc, H0.ul] at q1 hrc
 have q2 := hrc.cell nilS (i := k) (by rw [H0.ul]; exact hk)
 have hrk := H0.ci k hk
 rw [show T.cls.getD k [] = T.cl k from rfl] at hrk
 obtain ⟨au, cu, hvu, hu1, -⟩ := hrk.shape
 simp only [List.length_map] at hvu hu1
 rw [hvu] at q2
 obtain ⟨c, hc⟩ : ∃ c, T.cl k = c := ⟨_, rfl⟩
 have hgc := o.cl hk
 have hcl := o.cll hk
 rw [hc] at q2 hvu hu1 hgc hcl
 have hauc : 0 < c.length → ∃ bc, au = some ⟨bc, 0, none⟩ ∧ g bc = (34, k) := by
  intro hp
  have hh := hrk
  rw [hc, hvu] at hh
  obtain ⟨bc, _, he, _, _, ht, _⟩ := hh.pos (by simpa using hp)
  simp at he; exact ⟨bc, he.1, ht⟩
 have hwb := fun p => I.wat.len p
 obtain ⟨mm, hmm⟩ : ∃ mm : Nat, mm = min c.length 2 := ⟨_, rfl⟩
 have hmm2 : min (c.length : Int) 2 = (mm : Int) := by omega
 have hmb1 : mm ≤ 2 := by omega
 have hmb2 : mm ≤ c.length := by omega
 have hmmc : (mm : Int) ≤ (cu : Int) := by omega
 obtain ⟨w0, hw0⟩ : ∃ w0, w.alloc (.cells #[cN k] 3) = w0 := ⟨_, rfl⟩
 obtain ⟨bn, hbne⟩ : ∃ bn, w.heap.size = bn := ⟨_, rfl⟩
 rw [hw0] at H0 hbox ow0 hbl q1 q2
 rw [hbne] at hbn hbox hbl
 have hst : ∀ n, WLoop w0 g b V T (delW T.watch (c.take 0) k) (w0.drewN n) g V.ws := fun n => ⟨H0.drewN n, Agree.refl _ _, (Only.refl _ _).drewN n, o.wl⟩
 obtain ⟨m2, hM2⟩ : ∃ m2, 2 * T.n = m2 := ⟨_, rfl⟩
 have hvwl : 0 < c.length → ∃ bt ct, V.vw = .slice (some ⟨bt, 0, none⟩) m2 ct := by
  intro hp
  have hgl := hgc.lit _ (getD_mem' 0 hp)
  obtain ⟨bt, ct, hv, -, -, -, -⟩ := H.wr.pos (by rw [H.wl]; omega)
  rw [H.wl, hM2] at hv
  exact ⟨bt, ct, hv⟩
 have hbq : ∀ {wr g' ws W}, WLoop w0 g b V T W wr g' ws → wr.cell? ⟨bn, 0, none⟩ = some (cN k) := fun hL => cell_keep hbox hL.on (by unfold Mine; rw [hbn]; simp)
 have hlit : ∀ j, j < c.length → c.getD j 0 ≠ 0 ∧ (c.getD j 0).natAbs ≤ T.n := fun j hj => hgc.lit _ (getD_mem' 0 hj)
 have hclk : ∀ {wr g' ws W}, WLoop w0 g b V T W wr g' ws → Row wr g' (34, k) 3 (.slice au c.length cu) (c.map cI) := fun hL => by
  have h1 := hL.at_.ci k hk
  rw [show ({ T with watch := _ } : Trail).cls.getD k [] = T.cl k from rfl, hc] at h1
  rwa [show ({ V with ws := _ } : TrV).us = V.us from rfl, hvu] at h1
 have HSt := Lib.hid hst
 have HVw := Lib.hid hvwl
 have HBq := Lib.hid (fun wr g' ws W (h : WLoop w0 g b V T W wr g' ws) => hbq h)
 have HLit := Lib.hid hlit
 have HClk := Lib.hid (fun wr g' ws W (h : WLoop w0 g b V T W wr g' ws) => hclk h)
 have HAu := Lib.hid hauc
 have HWb := Lib.hid hwb
 have HM2 := Lib.hid hM2
 have HMm := Lib.hid hmm
 have HR := Lib.hid hr
 have HI := Lib.hid I
 have HC := Lib.hid hc
 have HGc := Lib.hid hgc
 have HVu := Lib.hid hvu
 have HOw0 := Lib.hid ow0
 have HH := Lib.hid H
 have HH0 := Lib.hid H0
 have qb := hbox
 clear hst hvwl hbq hlit hclk hauc hwb hM2 hmm hr I o H H0 hrk hrc hgc hvu hvc hc ow0 hbox
 go_enter Tryz.func68, Tryz.ntmps68
 go_wp2_with fail
 go_quiet (fail)
 go_wp2_with fail
 clear q1 q2 qb
 go_loopw [28] (fun v wr => ∃ (j : Nat) (g' : Tag) (ws : List Value), v = .int .i64 j ∧ j ≤ mm ∧ WLoop w0 g b V T (delW T.watch (c.take j) k) wr g' ws) (fun v _ => mm - (intOf v).toNat)
 case atStart => exact ⟨0, g, V.ws, rfl, Nat.zero_le _, HSt.out _⟩
 case round =>
  clear HSt
  obtain ⟨j, g1, ws, rfl, hj, hL⟩ := hrel
  by_cases cj : j < mm
  ·obtain ⟨bc, rfl, htb⟩ := HAu.out (by omega)
   obtain ⟨bt, ct, hvw⟩ := HVw.out (by omega)
   have hjc : j < c.length := by omega
   have hlj := HLit.out j hjc
   have hcr := HClk.out _ _ _ _ hL
   have qx := hcr.cellM (f := cI) 0 (i := j) hjc
   have qb := HBq.out _ _ _ _ hL
   have hds := delW_step T.watch c k hjc
   obtain ⟨x, hx⟩ : ∃ x, c.getD j 0 = x := ⟨_, rfl⟩
   rw [hx] at hlj qx hds
   obtain ⟨W, hW⟩ : ∃ W, delW T.watch (c.take j) k = W := ⟨_, rfl⟩
   rw [hW] at hL hds
   have hWle : ∀ p, (W.getD p []).length ≤ T.cls.length := fun p => by rw [← hW]; exact delW_le k _ _ _ HWb.out p
   have hpl2 : place x < 2 * T.n := Rup.place_lt hlj
   have hpl : place x < m2 := by rw [← HM2.out]; exact hpl2
   have p3 := hL.at_.f3
   have hwr := hL.at_.wr
   have hwsl : ws.length = m2 := by have := hL.at_.wl; have := HM2.out; simp only at *; omega
   rw [show ({ V with ws := ws } : TrV).vw = V.vw from rfl, hvw] at p3
   rw [show ({ V with ws := ws } : TrV).vw = V.vw from rfl, hvw, show ({ V with ws := ws } : TrV).ws = ws from rfl] at hwr
   have htw : g1 bt = (36, 0) := hwr.tg bt rfl
   have p4 := hwr.cell nilS (i := place x) (by omega)
   have p5 := hwr.free (place x)
   have hru := hL.at_.wi (place x) hpl2
   rw [show ({ T with watch := W } : Trail).watch.getD (place x) [] = W.getD (place x) [] from rfl, show ({ V with ws := ws } : TrV).ws = ws from rfl] at hru
   obtain ⟨aw, cpw, hhd, -, -⟩ := hru.shape
   simp only [List.length_map] at hhd
   have hown := hru.own
   have hxl : ((W.getD (place x) []).map fun (n : Nat) => (n : Int)).length = ((W.getD (place x) []).map cN).length := by simp
   rw [← map_cN, List.length_map, ] at hown
   have hWl := hWle (place x)
   have hrng : ∀ y ∈ (W.getD (place x) []).map fun (n : Nat) => (n : Int), InI64 y := by
    intro y hy
    obtain ⟨m, hm, rfl⟩ := List.mem_map.1 hy
    have hmem : m ∈ T.wt (place x) := by
     have : m ∈ (delW T.watch (c.take j) k).getD (place x) [] := by rw [hW]; exact hm
     rw [delW_get k _ _ (fun l hl => by rw [HI.out.ok.wl]; exact Rup.place_lt (HGc.out.lit l (List.mem_of_mem_take hl)))] at this
     split at this
     ·exact (List.mem_filter.1 this).1
     ·exact this
    have := (HI.out.wat.snd _ _ hmem).1
    unfold InI64; omega
   have hdel : ∀ Wd, Only (fun _ => False) wr Wd → Calls Tryz.prog 110 #[.slice aw (W.getD (place x) []).length cpw, .func (.func 111) #[] #[.pointer (some ⟨bn, 0, none⟩)]] Wd (DelTo Wd (.slice aw (W.getD (place x) []).length cpw) (keepF (fun y => y == (k : Int)) ((W.getD (place x) []).map fun (n : Nat) => (n : Int)))) := by
    intro Wd oD
    rw [hhd] at hown
    refine DeleteFunc_own (own_only hown oD (fun _ _ f => f)) hrng (by rw [List.length_map]; omega) _ _ _ enter_first1 ?_
    intro y hy W2 o2
    refine (first1_any ?_ y).mono fun _ _ ⟨he, hw⟩ => ⟨he, by rw [hw]; exact Only.refl _ _⟩
    refine cell_keep (cell_keep qb oD (fun f => f)) o2 (fun h => ?_)
    have hgb := hru.tg bn (by rw [hhd]; exact h)
    rw [hL.ag bn hbl] at hgb
    rw [hgb] at hbn
    simp at hbn
   rw [hhd] at p4
   have hfin : ∀ wA w5 ao cap, Only (fun _ => False) wr wA → w5.ownsRow 0 3 1 (.slice ao (keepF (fun y => y == (k : Int)) ((W.getD (place x) []).map fun (n : Nat) => (n : Int))).length cap) (keepF (fun y => y == (k : Int)) ((W.getD (place x) []).map fun (n : Nat) => (n : Int))).length ((keepF (fun y => y == (k : Int)) ((W.getD (place x) []).map fun (n : Nat) => (n : Int))).map cI) →
     Only (fun q => Value.ownBlock (.slice aw (W.getD (place x) []).length cpw) = some q) wA w5 → Value.ownBlock (.slice ao (keepF (fun y => y == (k : Int)) ((W.getD (place x) []).map fun (n : Nat) => (n : Int))).length cap) = Value.ownBlock (.slice aw (W.getD (place x) []).length cpw) →
     WLoop w0 g b V T (delW T.watch (c.take (j + 1)) k) (w5.setCell ⟨bt, place x, none⟩ (.slice ao (keepF (fun y => y == (k : Int)) ((W.getD (place x) []).map fun (n : Nat) => (n : Int))).length cap)) g1 (ws.set (place x) (.slice ao (keepF (fun y => y == (k : Int)) ((W.getD (place x) []).map fun (n : Nat) => (n : Int))).length cap)) := by
    intro wA w5 ao cap oA r5 o5 hbk
    have h1 := hL.at_.wdel (k := k) hL.wl hpl2 hvw wA w5 oA (keepF_nat k _) r5 (by rw [show ({ V with ws := ws } : TrV).ws = ws from rfl, hhd]; exact o5) (by rw [show ({ V with ws := ws } : TrV).ws = ws from rfl, hhd]; exact hbk)
    refine ⟨?_, hL.ag, hL.on.mine hL.ag h1.2, by rw [hds, List.length_set]; exact hL.wl⟩
    rw [hds]; exact h1.1
   have hS5 : ∀ w', Only (fun q => Value.ownBlock (.slice aw (W.getD (place x) []).length cpw) = some q) wr w' → w'.cell? ⟨b, 3, none⟩ = some (.slice (some ⟨bt, 0, none⟩) m2 ct) ∧ w'.cell? ⟨bt, place x, none⟩ = some (.slice aw (W.getD (place x) []).length cpw) ∧ w'.frozen? ⟨bt, place x, none⟩ = false ∧ Only (fun q => Value.ownBlock (.slice aw (W.getD (place x) []).length cpw) = some q) wr w' := by
    intro w' h
    have hne : ∀ q t, g1 q = t → t ≠ (37, place x) → ¬ Value.ownBlock (.slice aw (W.getD (place x) []).length cpw) = some q := fun q t h1 h2 h3 => h2 (h1.symm.trans (hru.tg q (by rw [hhd]; exact h3)))
    exact ⟨cell_keep p3 h (hne b _ hL.at_.tb (by simp)), cell_keep p4 h (hne bt _ htw (by simp)), free_keep p4 p5 h (hne bt _ htw (by simp)), h⟩
   have hPl := fun W : World => prop_place_any (w := W) x T.n hn hlj (place x : Int) rfl
   have HPl := Lib.hid hPl
   have HDel := Lib.hid hdel
   have HFin := Lib.hid hfin
   have HS5 := Lib.hid hS5
   have pbb : (place x : Int) < (m2 : Int) := by omega
   have ewj : IntKind.i64.wrap ((j : Int) + 1) = ((j + 1 : Nat) : Int) := by rw [IntWalk.i64_in _ (by omega)]; rfl
   have hjm : (j : Int) < (mm : Int) := by omega
   have hS0 := hS5 wr.drew ((Only.refl _ _).drew)
   clear hPl hdel hfin hS5 hru hwr hown hrng hL hds hcr hWle hxl hhd
   generalize (W.getD (place x) []).length = wn at *
   generalize keepF (fun y => y == (k : Int)) ((W.getD (place x) []).map fun (n : Nat) => (n : Int)) = ys at *
   go_wp2_with fail
   refine wp_region_G (n := 18) (E := fun i => i == 17) (S := fun w' => w'.cell? ⟨b, 3, none⟩ = some (.slice (some ⟨bt, 0, none⟩) m2 ct) ∧ w'.cell? ⟨bt, place x, none⟩ = some (.slice aw wn cpw) ∧ w'.frozen? ⟨bt, place x, none⟩ = false ∧ Only (fun q => Value.ownBlock (.slice aw wn cpw) = some q) wr w') (by kernel_rfl) rfl hS0 (fun hHeld => ?_)
   refine tqW (i := 0) (v := ?_) rfl (.inr (by assumption)) ?_ ?_
   rotate_left
   ·(intro w; go_simp <;> (try with_reducible rfl))
   try simp only [Act.put, zq1, zq3, zq4, zq5, zq6]
   refine tqW (i := 1) (v := ?_) rfl (.inr (by assumption)) ?_ ?_
   rotate_left
   ·(intro w; go_simp <;> (try with_reducible rfl))
   try simp only [Act.put, zq1, zq2, zq3, zq4, zq5, zq6]
   refine tqW (i := 2) (v := ?_) rfl (.inr (by assumption)) ?_ ?_
   rotate_left
   ·(intro w; go_simp <;> (try with_reducible rfl))
   try simp only [Act.put, zq1, zq2, zq3, zq4, zq5, zq6]
   refine tqK (i := 3) (v := ?_) rfl ?_ ?_
   rotate_left
   ·(intro w hSw; (try dsimp only at hSw); go_simp <;> (try with_reducible rfl))
   try simp only [Act.put, zq1, zq2, zq3, zq4, zq5, zq6]
   refine tqW (i := 4) (v := ?_) rfl (.inr (by assumption)) ?_ ?_
   rotate_left
   ·(intro w; go_simp <;> (try with_reducible rfl))
   try simp only [Act.put, zq1, zq2, zq3, zq4, zq5, zq6]
   refine wpAnyG_takeC (i := 5) (v := ?_) (f := 89) (args := #[.int .i64 x]) rfl (by kernel_rfl) (by kernel_rfl) (by kernel_rfl) rfl (by kernel_rfl) (by kernel_rfl) (fun _ _ _ h => h) (by assumption) (by rfl) ?_ ?_ ?_
   rotate_left
   ·(intro w; go_simp <;> (try with_reducible rfl))
   ·(intro w hSw; exact HPl.out w)
   try simp only [Act.put, zq1, zq2, zq3, zq4, zq5, zq6]
   refine tqW (i := 6) (v := ?_) rfl (.inr (by assumption)) ?_ ?_
   rotate_left
   ·(intro w; go_simp <;> (try with_reducible rfl))
   try simp only [Act.put, zq1, zq2, zq3, zq4, zq5, zq6]
   refine tqW (i := 7) (v := ?_) rfl (.inr (by assumption)) ?_ ?_
   rotate_left
   ·(intro w; go_simp <;> (try with_reducible rfl))
   try simp only [Act.put, zq1, zq2, zq3, zq4, zq5, zq6]
   refine tqW (i := 8) (v := ?_) rfl (.inr (by assumption)) ?_ ?_
   rotate_left
   ·(intro w; go_simp <;> (try with_reducible rfl))
   try simp only [Act.put, zq1, zq2, zq3, zq4, zq5, zq6]
   refine tqK (i := 9) (v := ?_) rfl ?_ ?_
   rotate_left
   ·(intro w hSw; (try dsimp only at hSw); go_simp <;> (try with_reducible rfl))
   try simp only [Act.put, zq1, zq2, zq3, zq4, zq5, zq6]
   refine tqW (i := 10) (v := ?_) rfl (.inr (by assumption)) ?_ ?_
   rotate_left
   ·(intro w; go_simp <;> (try with_reducible rfl))
   try simp only [Act.put, zq1, zq2, zq3, zq4, zq5, zq6]
   refine wpAnyG_takeC (i := 11) (v := ?_) (f := 89) (args := #[.int .i64 x]) rfl (by kernel_rfl) (by kernel_rfl) (by kernel_rfl) rfl (by kernel_rfl) (by kernel_rfl) (fun _ _ _ h => h) (by assumption) (by rfl) ?_ ?_ ?_
   rotate_left
   ·(intro w; go_simp <;> (try with_reducible rfl))
   ·(intro w hSw; exact HPl.out w)
   try simp only [Act.put, zq1, zq2, zq3, zq4, zq5, zq6]
   refine tqW (i := 12) (v := ?_) rfl (.inr (by assumption)) ?_ ?_
   rotate_left
   ·(intro w; go_simp <;> (try with_reducible rfl))
   try simp only [Act.put, zq1, zq2, zq3, zq4, zq5, zq6]
   refine tqK (i := 13) (v := ?_) rfl ?_ ?_
   rotate_left
   ·(intro w hSw; (try dsimp only at hSw); go_simp <;> (try with_reducible rfl))
   try simp only [Act.put, zq1, zq2, zq3, zq4, zq5, zq6]
   refine wpAnyG_ready (rs := [14]) (by kernel_rfl) (by simp) ?_
   refine AllReadyG.cons (i := 14) rfl (fun K hK => ?_) ?_
   ·go_simp
    refine hK.out _ _ ?_ (fun hHeld => ?_)
    ·(try dsimp only) <;> (exact HS5.out _ (by repeat (first | exact Only.refl _ _ | apply Only.drew | apply Only.alloc | apply Only.drewN)))
    clear hK K
    try simp only [Act.put, zq1, zq2, zq3, zq4, zq5, zq6]
    refine wpAnyG_ready (rs := [15]) (by kernel_rfl) (by simp) ?_
    refine AllReadyG.cons (i := 15) rfl (fun K hK => ?_) ?_
    ·(go_simp; refine (HDel.out _ (by repeat (first | exact Only.refl _ _ | apply Only.drew | apply Only.alloc | apply Only.drewN))).mono ?_; rintro e w5 ⟨ao5, cap5, rfl, r5, o5, b5⟩; try go_wp2_with fail)
     refine hK.out _ _ ?_ (fun hHeld => ?_)
     ·(try dsimp only) <;> (exact HS5.out _ (Only.same (by repeat (first | exact Only.refl _ _ | apply Only.drew | apply Only.alloc | apply Only.drewN)) o5))
     clear hK K
     try simp only [Act.put, zq1, zq2, zq3, zq4, zq5, zq6]
     refine tqW (i := 16) (v := ?_) rfl (.inr (by assumption)) ?_ ?_
     rotate_left
     ·(intro w; go_simp <;> (try with_reducible rfl))
     try simp only [Act.put, zq1, zq2, zq3, zq4, zq5, zq6]
     refine wpAnyG_ready (rs := [17]) (by kernel_rfl) (by simp) ?_
     refine AllReadyG.late (i := 17) rfl (by kernel_rfl) (fun K hK => ?_) ?_
     ·(obtain ⟨s1, s2, s3, s4⟩ := hHeld; go_simp)
      refine hK.out _ _ ?_
      clear hK K
      try simp only [Act.put, zq1, zq2, zq3, zq4, zq5, zq6]
      refine wpAnyG_done (by kernel_rfl) ?_ _
      have hfin := HFin.out _ w5 ao5 cap5 (by repeat (first | exact Only.refl _ _ | apply Only.drew | apply Only.alloc | apply Only.drewN)) r5 o5 b5
      have HFin2 := Lib.hid hfin
      clear hfin r5 o5 b5 HFin
      go_wp2_with fail
      go_roundw
      case rel => exact ⟨j + 1, g1, _, by first | rfl | go_num, by omega, HFin2.out⟩
      case measure => simp [intOf]; omega
     exact AllReadyG.nil
    exact AllReadyG.nil
   exact AllReadyG.nil
  ·have htk : c.take j = c.take 2 := by
    have hje : j = min c.length 2 := by rw [← HMm.out]; omega
    rw [hje]
    rcases Nat.le_total c.length 2 with h | h
    ·rw [Nat.min_eq_left h, List.take_of_length_le (Nat.le_refl _), List.take_of_length_le h]
    ·rw [Nat.min_eq_right h]
   rw [htk] at hL
   obtain ⟨W1, hW1⟩ : ∃ W1, delW T.watch (c.take 2) k = W1 := ⟨_, rfl⟩
   rw [hW1] at hL
   obtain ⟨d, hd⟩ : ∃ d, T.rewatch c = d := ⟨_, rfl⟩
   have hbest := rewatch_best T c
   rw [hd] at hbest
   have hdl : d.length = c.length := hbest.perm.length_eq
   have hgd := good_perm HGc.out hbest.perm
   have okW : Ok ({ T with watch := W1 } : Trail) := ⟨HI.out.ok.n, HI.out.ok.gl, hL.wl, HI.out.ok.cls, HI.out.ok.cb, HI.out.ok.good, HI.out.ok.sm, HI.out.ok.next, HI.out.ok.lev, HI.out.ok.lin, HI.out.ok.rea⟩
   have hrw := prop_rewatch_any hL.at_ okW k hk
   have erw : ({ T with watch := W1 } : Trail).rewatch (({ T with watch := W1 } : Trail).cl k) = d := by
    rw [show ({ T with watch := W1 } : Trail).cl k = T.cl k from rfl, HC.out, ← hd]
    exact rewatch_congr (T := T) (U := { T with watch := W1 }) (fun _ => rfl) c
   rw [erw] at hrw
   have qb := HBq.out _ _ _ _ hL
   have HRw := Lib.hid hrw
   have HL := Lib.hid hL
   have HW1 := Lib.hid hW1
   have HD := Lib.hid hd
   have HBest := Lib.hid hbest
   have HGd := Lib.hid hgd
   have HErw := Lib.hid erw
   clear hrw hL hW1 hd hbest hgd erw okW htk
   go_wp2_with fail
   refine HRw.out.mono ?_
   rintro e w1 ⟨rfl, H1, O1⟩
   have hL1 : WLoop w0 g b V (T.setC k d) W1 w1 g1 ws := ⟨H1, HL.out.ag, HL.out.on.mine HL.out.ag (O1.mono fun q hq => by unfold Mine; rw [hq]; simp), HL.out.wl⟩
   have hbn1 : (g1 bn).1 = 0 := by rw [HL.out.ag bn hbl]; exact hbn
   have qb1 : w1.cell? ⟨bn, 0, none⟩ = some (cN k) := cell_keep qb O1 (fun h => by rw [h] at hbn1; simp at hbn1)
   have q1 := H1.f1
   have hul1 : V.us.length = T.cls.length := HH.out.ul
   obtain ⟨bcs1, cc1, hvc1, -, -, -, -⟩ := H1.c.pos (by show 0 < V.us.length; rw [hul1]; omega)
   have hrc1 := H1.c
   rw [show ({ V with ws := ws } : TrV).vc = V.vc from rfl] at hvc1 q1 hrc1
   rw [show ({ V with ws := ws } : TrV).us = V.us from rfl] at hvc1 hrc1
   rw [hvc1, hul1] at q1 hrc1
   have q2 := hrc1.cell nilS (i := k) (by rw [hul1]; exact hk)
   rw [HVu.out] at q2
   have hst2 : ∀ n, WLoop w0 g b V (T.setC k d) (addW W1 (d.take 0) k) (w1.drewN n) g1 ws := fun n => ⟨hL1.at_.drewN n, hL1.ag, hL1.on.drewN n, hL1.wl⟩
   have HSt2 := Lib.hid hst2
   have hbq2 : ∀ wr g' ws W, WLoop w0 g b V (T.setC k d) W wr g' ws → wr.cell? ⟨bn, 0, none⟩ = some (cN k) := fun wr g' ws W hL => by
    have h0 : w0.cell? ⟨bn, 0, none⟩ = some (cN k) := by rw [← hw0, ← hbne]; exact cell_newE _ _ _ _ rfl
    exact cell_keep h0 hL.on (by unfold Mine; rw [hbn]; simp)
   have hclk2 : ∀ wr g' ws W, WLoop w0 g b V (T.setC k d) W wr g' ws → Row wr g' (34, k) 3 (.slice au c.length cu) (d.map cI) := fun wr g' ws W hL => by
    have h1 := hL.at_.ci k (by simpa [Trail.setC] using hk)
    rw [show ({ T.setC k d with watch := W } : Trail).cls.getD k [] = (T.setC k d).cl k from rfl, setC_cl hk, if_pos rfl] at h1
    rwa [show ({ V with ws := ws } : TrV).us = V.us from rfl, HVu.out] at h1
   have HBq2 := Lib.hid hbq2
   have HClk2 := Lib.hid hclk2
   have hWle1 : ∀ p, (W1.getD p []).length ≤ T.cls.length := fun p => by rw [← HW1.out]; exact delW_le k _ _ _ HWb.out p
   have HWle1 := Lib.hid hWle1
   clear hst2 hbq2 hclk2 hL1 H1 O1 HRw hrc1 hvc1 hWle1 qb
   go_wp2_with fail
   go_quiet (fail)
   go_wp2_with fail
   clear q1 q2 qb1
   go_loopw [66] (fun v wr => ∃ (j : Nat) (g' : Tag) (ws : List Value), v = .int .i64 j ∧ j ≤ mm ∧ WLoop w0 g b V (T.setC k d) (addW W1 (d.take j) k) wr g' ws) (fun v _ => mm - (intOf v).toNat)
   case atStart => exact ⟨0, g1, ws, rfl, Nat.zero_le _, HSt2.out _⟩
   case round =>
    clear HSt2 HL
    obtain ⟨j2, g2, ws2, rfl, hj2, hL2⟩ := hrel
    by_cases cj2 : j2 < mm
    ·skip
     obtain ⟨bc, rfl, htb⟩ := HAu.out (by omega)
     obtain ⟨bt, ct, hvw⟩ := HVw.out (by omega)
     have hjd : j2 < d.length := by omega
     have hlj : d.getD j2 0 ≠ 0 ∧ (d.getD j2 0).natAbs ≤ T.n := HGd.out.lit _ (getD_mem' 0 hjd)
     have hcr := HClk2.out _ _ _ _ hL2
     have qx := hcr.cellM (f := cI) 0 (i := j2) hjd
     have qb := HBq2.out _ _ _ _ hL2
     have hds := addW_step W1 d k hjd
     obtain ⟨x, hx⟩ : ∃ x, d.getD j2 0 = x := ⟨_, rfl⟩
     rw [hx] at hlj qx hds
     obtain ⟨W, hW⟩ : ∃ W, addW W1 (d.take j2) k = W := ⟨_, rfl⟩
     rw [hW] at hL2 hds
     have hWl : (W.getD (place x) []).length ≤ T.cls.length + 2 := by
      rw [← hW]
      have := addW_le k (d.take j2) W1 _ HWle1.out (place x)
      have h2 : (d.take j2).length ≤ 2 := by rw [List.length_take]; omega
      omega
     have hpl2 : place x < 2 * T.n := Rup.place_lt hlj
     have hpl : place x < m2 := by rw [← HM2.out]; exact hpl2
     have p3 := hL2.at_.f3
     have hwr := hL2.at_.wr
     have hwsl : ws2.length = m2 := by have h1 := hL2.at_.wl; rw [← HM2.out]; exact h1
     rw [show ({ V with ws := ws2 } : TrV).vw = V.vw from rfl, hvw] at p3
     rw [show ({ V with ws := ws2 } : TrV).vw = V.vw from rfl, hvw, show ({ V with ws := ws2 } : TrV).ws = ws2 from rfl] at hwr
     have htw : g2 bt = (36, 0) := hwr.tg bt rfl
     have p4 := hwr.cell nilS (i := place x) (by omega)
     have p5 := hwr.free (place x)
     have hru := hL2.at_.wi (place x) hpl2
     rw [show ({ T.setC k d with watch := W } : Trail).watch.getD (place x) [] = W.getD (place x) [] from rfl, show ({ V with ws := ws2 } : TrV).ws = ws2 from rfl] at hru
     obtain ⟨aw, cpw, hhd, -, -⟩ := hru.shape
     rw [hhd] at p4 hru
     simp only [List.length_map] at p4 hru
     have hfin : ∀ wA w5 v' s, Only (fun q => g2 q = (37, place x)) wA w5 → wA.heap.size = s → Row w5 (Tag.put g2 s w5.heap.size (37, place x)) (37, place x) 3 v' ((W.getD (place x) []).map cN ++ [.int .i64 (k : Int)]) → Only (fun _ => False) wr wA →
       ∃ g5, WLoop w0 g b V (T.setC k d) (addW W1 (d.take (j2 + 1)) k) (w5.setCell ⟨bt, place x, none⟩ v') g5 (ws2.set (place x) v') := by
      intro wA w5 v' s o5 hs r5 oA
      obtain ⟨g5, h1, h2, h3⟩ := hL2.at_.wapp (k := k) hL2.wl hpl2 hvw wA w5 v' s o5 hs r5 oA
      refine ⟨g5, ?_, hL2.ag.trans h2 hL2.on.size, hL2.on.mine hL2.ag h3, by rw [hds, List.length_set]; exact hL2.wl⟩
      rw [hds]; exact h1
     have hS5 : ∀ w', Only (fun q => g2 q = (37, place x)) wr w' → w'.cell? ⟨b, 3, none⟩ = some (.slice (some ⟨bt, 0, none⟩) m2 ct) ∧ w'.cell? ⟨bt, place x, none⟩ = some (.slice aw (W.getD (place x) []).length cpw) ∧ w'.frozen? ⟨bt, place x, none⟩ = false ∧ w'.cell? ⟨bn, 0, none⟩ = some (cN k) := by
      intro w' h
      have hbn2 : (g2 bn).1 = 0 := by rw [hL2.ag bn hbl]; exact hbn
      exact ⟨cell_keep p3 h (by rw [hL2.at_.tb]; simp), cell_keep p4 h (by rw [htw]; simp), free_keep p4 p5 h (by rw [htw]; simp), cell_keep qb h (fun e => by rw [e] at hbn2; simp at hbn2)⟩
     have hPl := fun W : World => prop_place_any (w := W) x T.n hn hlj (place x : Int) rfl
     have HPl := Lib.hid hPl
     have HFin := Lib.hid hfin
     have HRu := Lib.hid hru
     have hS0 := hS5 wr.drew ((Only.refl _ _).drew)
     have HS5 := Lib.hid hS5
     have pbb : (place x : Int) < (m2 : Int) := by omega
     have ewj : IntKind.i64.wrap ((j2 : Int) + 1) = ((j2 + 1 : Nat) : Int) := by rw [IntWalk.i64_in _ (by omega)]; rfl
     have hjm : (j2 : Int) < (mm : Int) := by omega
     clear hPl hfin hS5 hru hwr hL2 hds hcr hhd hx hW
     go_wp2_with fail
     refine wp_region_G (n := 19) (E := fun i => i == 18) (S := fun w' => w'.cell? ⟨b, 3, none⟩ = some (.slice (some ⟨bt, 0, none⟩) m2 ct) ∧ w'.cell? ⟨bt, place x, none⟩ = some (.slice aw (W.getD (place x) []).length cpw) ∧ w'.frozen? ⟨bt, place x, none⟩ = false ∧ w'.cell? ⟨bn, 0, none⟩ = some (cN k)) (by kernel_rfl) rfl hS0 (fun hHeld => ?_)
     refine tqW (i := 0) (v := ?_) rfl (.inr (by assumption)) ?_ ?_
     rotate_left
     ·(intro w; go_simp <;> (try with_reducible rfl))
     try simp only [Act.put, zq1, zq3, zq4, zq5, zq6]
     refine tqW (i := 1) (v := ?_) rfl (.inr (by assumption)) ?_ ?_
     rotate_left
     ·(intro w; go_simp <;> (try with_reducible rfl))
     try simp only [Act.put, zq1, zq2, zq3, zq4, zq5, zq6]
     refine tqW (i := 2) (v := ?_) rfl (.inr (by assumption)) ?_ ?_
     rotate_left
     ·(intro w; go_simp <;> (try with_reducible rfl))
     try simp only [Act.put, zq1, zq2, zq3, zq4, zq5, zq6]
     refine tqK (i := 3) (v := ?_) rfl ?_ ?_
     rotate_left
     ·(intro w hSw; (try dsimp only at hSw); go_simp <;> (try with_reducible rfl))
     try simp only [Act.put, zq1, zq2, zq3, zq4, zq5, zq6]
     refine tqW (i := 4) (v := ?_) rfl (.inr (by assumption)) ?_ ?_
     rotate_left
     ·(intro w; go_simp <;> (try with_reducible rfl))
     try simp only [Act.put, zq1, zq2, zq3, zq4, zq5, zq6]
     refine wpAnyG_takeC (i := 5) (v := ?_) (f := 89) (args := #[.int .i64 x]) rfl (by kernel_rfl) (by kernel_rfl) (by kernel_rfl) rfl (by kernel_rfl) (by kernel_rfl) (fun _ _ _ h => h) (by assumption) (by rfl) ?_ ?_ ?_
     rotate_left
     ·(intro w; go_simp <;> (try with_reducible rfl))
     ·(intro w hSw; exact HPl.out w)
     try simp only [Act.put, zq1, zq2, zq3, zq4, zq5, zq6]
     refine tqW (i := 6) (v := ?_) rfl (.inr (by assumption)) ?_ ?_
     rotate_left
     ·(intro w; go_simp <;> (try with_reducible rfl))
     try simp only [Act.put, zq1, zq2, zq3, zq4, zq5, zq6]
     refine tqW (i := 7) (v := ?_) rfl (.inr (by assumption)) ?_ ?_
     rotate_left
     ·(intro w; go_simp <;> (try with_reducible rfl))
     try simp only [Act.put, zq1, zq2, zq3, zq4, zq5, zq6]
     refine tqW (i := 8) (v := ?_) rfl (.inr (by assumption)) ?_ ?_
     rotate_left
     ·(intro w; go_simp <;> (try with_reducible rfl))
     try simp only [Act.put, zq1, zq2, zq3, zq4, zq5, zq6]
     refine tqK (i := 9) (v := ?_) rfl ?_ ?_
     rotate_left
     ·(intro w hSw; (try dsimp only at hSw); go_simp <;> (try with_reducible rfl))
     try simp only [Act.put, zq1, zq2, zq3, zq4, zq5, zq6]
     refine tqW (i := 10) (v := ?_) rfl (.inr (by assumption)) ?_ ?_
     rotate_left
     ·(intro w; go_simp <;> (try with_reducible rfl))
     try simp only [Act.put, zq1, zq2, zq3, zq4, zq5, zq6]
     refine wpAnyG_takeC (i := 11) (v := ?_) (f := 89) (args := #[.int .i64 x]) rfl (by kernel_rfl) (by kernel_rfl) (by kernel_rfl) rfl (by kernel_rfl) (by kernel_rfl) (fun _ _ _ h => h) (by assumption) (by rfl) ?_ ?_ ?_
     rotate_left
     ·(intro w; go_simp <;> (try with_reducible rfl))
     ·(intro w hSw; exact HPl.out w)
     try simp only [Act.put, zq1, zq2, zq3, zq4, zq5, zq6]
     refine tqW (i := 12) (v := ?_) rfl (.inr (by assumption)) ?_ ?_
     rotate_left
     ·(intro w; go_simp <;> (try with_reducible rfl))
     try simp only [Act.put, zq1, zq2, zq3, zq4, zq5, zq6]
     refine tqK (i := 13) (v := ?_) rfl ?_ ?_
     rotate_left
     ·(intro w hSw; (try dsimp only at hSw); go_simp <;> (try with_reducible rfl))
     try simp only [Act.put, zq1, zq2, zq3, zq4, zq5, zq6]
     refine tqK (i := 14) (v := ?_) rfl ?_ ?_
     rotate_left
     ·(intro w hSw; (try dsimp only at hSw); go_simp <;> (try with_reducible rfl))
     try simp only [Act.put, zq1, zq2, zq3, zq4, zq5, zq6]
     refine wpAnyG_ready (rs := [15]) (by kernel_rfl) (by simp) ?_
     refine AllReadyG.cons (i := 15) rfl (fun K hK => ?_) ?_
     ·go_simp
      refine hK.out _ _ ?_ (fun hHeld => ?_)
      ·(try dsimp only) <;> (exact HS5.out _ (by repeat (first | exact Only.refl _ _ | apply Only.drew | apply Only.alloc | apply Only.drewN)))
      clear hK K
      try simp only [Act.put, zq1, zq2, zq3, zq4, zq5, zq6]
      refine wpAnyG_ready (rs := [16]) (by kernel_rfl) (by simp) ?_
      refine AllReadyG.cons (i := 16) rfl (fun K hK => ?_) ?_
      ·(refine Row.step (u := .int .i64 (k : Int)) slInt (by rfl) (.tmp 83) (.tmp 85) (by rfl) (by rfl) (by rfl) (by simp) rfl (by repeat (first | exact HRu.out | apply Row.drew | apply Row.alloc | apply Row.drewN)) (by simp only [List.length_map]; omega) (by decide) ?_; intro bb cap w5 rr1 rr2; simp only [List.length_map] at rr1 ⊢)
       refine hK.out _ _ ?_ (fun hHeld => ?_)
       ·(try dsimp only) <;> (exact HS5.out _ (Only.same (by repeat (first | exact Only.refl _ _ | apply Only.drew | apply Only.alloc | apply Only.drewN)) rr2))
       clear hK K
       try simp only [Act.put, zq1, zq2, zq3, zq4, zq5, zq6]
       refine tqW (i := 17) (v := ?_) rfl (.inr (by assumption)) ?_ ?_
       rotate_left
       ·(intro w; go_simp <;> (try with_reducible rfl))
       try simp only [Act.put, zq1, zq2, zq3, zq4, zq5, zq6]
       refine wpAnyG_ready (rs := [18]) (by kernel_rfl) (by simp) ?_
       refine AllReadyG.late (i := 18) rfl (by kernel_rfl) (fun K hK => ?_) ?_
       ·(obtain ⟨s1, s2, s3, s4⟩ := hHeld; go_simp)
        refine hK.out _ _ ?_
        clear hK K
        try simp only [Act.put, zq1, zq2, zq3, zq4, zq5, zq6]
        refine wpAnyG_done (by kernel_rfl) ?_ _
        obtain ⟨g5, hfin⟩ := HFin.out _ w5 _ _ rr2 (by simp) rr1 (by repeat (first | exact Only.refl _ _ | apply Only.drew | apply Only.alloc | apply Only.drewN))
        have HFin2 := Lib.hid hfin
        clear hfin rr1 rr2 HFin
        go_wp2_with fail
        go_roundw
        case rel => exact ⟨j2 + 1, g5, _, by first | rfl | go_num, by omega, HFin2.out⟩
        case measure => simp [intOf]; omega
       exact AllReadyG.nil
      exact AllReadyG.nil
     exact AllReadyG.nil
    ·skip
     have htk2 : d.take j2 = d.take 2 := by
      have hje : j2 = min d.length 2 := by rw [hdl, ← HMm.out]; omega
      rw [hje]
      rcases Nat.le_total d.length 2 with h | h
      ·rw [Nat.min_eq_left h, List.take_of_length_le (Nat.le_refl _), List.take_of_length_le h]
      ·rw [Nat.min_eq_right h]
     rw [htk2] at hL2
     have hT0 : ({ T.setC k d with watch := addW W1 (d.take 2) k } : Trail) = T.first0 k := by
      unfold Trail.first0; rw [HC.out, HD.out, HW1.out]; rfl
     have hA := hL2.at_
     rw [hT0] at hA
     have ok0 : Ok (T.first0 k) := HI.out.ok.first0 hk
     have hcr := HClk2.out _ _ _ _ hL2
     have qb := HBq2.out _ _ _ _ hL2
     have hbn2 : (g2 bn).1 = 0 := by rw [hL2.ag bn hbl]; exact hbn
     have hOw : Only (Mine g) w wr := (HOw0.out.mono fun _ f => f.elim).same hL2.on
     have hAgw : Agree w g g2 := fun q hq => hL2.ag q (by have := HOw0.out.size; omega)
     have hfv : T.first k = (T.first0 k).firstV d k := by unfold Trail.first; rw [HC.out, HD.out]
     obtain ⟨T0, hT0e⟩ : ∃ T0, T.first0 k = T0 := ⟨_, rfl⟩
     rw [hT0e] at hA ok0 hfv
     have hT0n : T0.n = T.n := by rw [← hT0e]; rfl
     have hT0w : T0.weak = T.weak := by rw [← hT0e]; rfl
     have HT0w := Lib.hid hT0w
     have hT0c : k < T0.cls.length := by rw [← hT0e]; simpa [Trail.first0] using hk
     have HT0c := Lib.hid hT0c
     clear hT0w hT0c
     have HFv := Lib.hid hfv
     have HA := Lib.hid hA
     have HOk0 := Lib.hid ok0
     have hfin : ∀ w' g' V', TrAt w' g' b V' (T.first k).1 → Agree wr g2 g' → Only (Mine g2) wr w' → FirTo w g b T k w' := fun w' g' V' h1 h2 h3 => ⟨g', V', h1, hAgw.trans h2 hOw.size, hOw.mine hAgw h3⟩
     have HFin := Lib.hid hfin
     clear hfv hA ok0 hT0 hfin hL2 htk2 hT0e
     by_cases h0 : c.length = 0
     ·have hres : T.first k = (T0, false) := by rw [HFv.out]; unfold Trail.firstV; rw [if_pos (.inl (by omega))]
      have hr' : r = false := by rw [← HR.out, hres]
      subst hr'
      have hz := HFin.out wr g2 _ (by rw [hres]; exact HA.out) (Agree.refl _ _) (Only.refl _ _)
      have HZ := Lib.hid hz
      clear hz hres
      rw [h0]
      go_wp2_with fail
      go_ret
      exact ⟨rfl, HZ.out⟩
     ·obtain ⟨bc, rfl, htb⟩ := HAu.out (by omega)
      have htb2 : g2 bc = (34, k) := hcr.tg bc rfl
      have k0 := hcr.cellM (f := cI) 0 (i := 0) (by omega)
      have hd0 := HGd.out.lit _ (getD_mem' 0 (show 0 < d.length by omega))
      obtain ⟨v0, hv0⟩ : ∃ v0, T0.val (d.getD 0 0) = v0 := ⟨_, rfl⟩
      have hV0 := prop_Value_any HA.out HOk0.out (d.getD 0 0) (by unfold InI64; omega) v0 hv0
      have HV0 := Lib.hid hV0
      have hv3 := val3 T0 (d.getD 0 0)
      rw [hv0] at hv3
      have hb0 : (0 : Int) < (c.length : Int) := by omega
      have hb0' : 0 < c.length := by omega
      have hz0 : ((c.length : Int) == 0) = false := by rw [beq_eq_false_iff_ne]; omega
      have HV0e := Lib.hid hv0
      have HD0 := Lib.hid hd0
      clear hV0 hv0 hd0
      by_cases hneg : v0 < 0
      ·have hres : T.first k = (T0, false) := by rw [HFv.out]; unfold Trail.firstV; rw [if_pos (.inr (by rw [HV0e.out]; exact hneg))]
       have hr' : r = false := by rw [← HR.out, hres]
       subst hr'
       have hz := HFin.out wr g2 _ (by rw [hres]; exact HA.out) (Agree.refl _ _) (Only.refl _ _)
       have HZ := Lib.hid hz
       have dn : decide (v0 < 0) = true := decide_eq_true hneg
       clear hz hres
       generalize d.getD 0 0 = d0 at *
       go_wp2_with fail
       refine HV0.out.mono ?_
       rintro e w2 ⟨rfl, rfl⟩
       go_wp2_with fail
       go_ret
       exact ⟨rfl, HZ.out⟩
      ·have dn : decide (v0 < 0) = false := decide_eq_false hneg
       have hwkl : T0.weak.length ≤ 2147483648 := by
        have h1 := HI.out.weakl
        have h2 : T0.weak = T.weak := by have := HT0w.out; exact this
        rw [h2]; omega
       by_cases h1 : 1 < c.length
       ·have k1 := hcr.cellM (f := cI) 0 (i := 1) (by omega)
        have hd1 := HGd.out.lit _ (getD_mem' 0 (show 1 < d.length by omega))
        obtain ⟨v1, hv1⟩ : ∃ v1, T0.val (d.getD 1 0) = v1 := ⟨_, rfl⟩
        have hV1 := prop_Value_any HA.out HOk0.out (d.getD 1 0) (by unfold InI64; omega) v1 hv1
        have HV1 := Lib.hid hV1
        have HV1e := Lib.hid hv1
        have hb1 : (1 : Int) < (c.length : Int) := by omega
        have dl : decide (1 < c.length) = true := decide_eq_true h1
        clear hV1 hv1 hd1
        by_cases hp1 : 0 ≤ v1
        ·have hres : T.first k = (T0, true) := by
          rw [HFv.out]; unfold Trail.firstV
          rw [if_neg (fun h => by rw [HV0e.out] at h; omega), if_pos ⟨by omega, by rw [HV1e.out]; exact hp1⟩]
         have hr' : r = true := by rw [← HR.out, hres]
         subst hr'
         have hz := HFin.out wr g2 _ (by rw [hres]; exact HA.out) (Agree.refl _ _) (Only.refl _ _)
         have HZ := Lib.hid hz
         have dp : decide (0 ≤ v1) = true := decide_eq_true hp1
         clear hz hres
         generalize d.getD 0 0 = d0 at *
         generalize d.getD 1 0 = d1 at *
         go_wp2_with fail
         refine HV0.out.mono ?_
         rintro e w2 ⟨rfl, rfl⟩
         go_wp2_with fail
         refine HV1.out.mono ?_
         rintro e w2 ⟨rfl, rfl⟩
         go_wp2_with fail
         go_ret
         exact ⟨rfl, HZ.out⟩
        ·have hfvw : T.first k = if v0 = 0 then (({ T0 with weak := T0.weak ++ [k] } : Trail).put (d.getD 0 0) k, true) else ({ T0 with weak := T0.weak ++ [k] }, true) := by
          rw [HFv.out]; unfold Trail.firstV
          rw [if_neg (fun h => by rw [HV0e.out] at h; omega), if_neg (fun h => by rw [HV1e.out] at h; omega), HV0e.out]
         have HFvw := Lib.hid hfvw
         have dp : decide (0 ≤ v1) = false := decide_eq_false hp1
         clear hfvw
         generalize d.getD 1 0 = d1 at *
         have hr' : r = true := by
          rw [← HR.out, HFvw.out]; split <;> rfl
         subst hr'
         have p8 := HA.out.f8
         have hrk8 := HA.out.k
         obtain ⟨ak, ck, hvk, -, -⟩ := hrk8.shape
         simp only [List.length_map] at hvk
         rw [hvk] at p8 hrk8
         have f8 := HA.out.free 8
         have hS5 : ∀ w', Only (fun q => g2 q = (41, 0)) wr w' → w'.cell? ⟨b, 8, none⟩ = some (.slice ak T0.weak.length ck) ∧ w'.cell? ⟨bn, 0, none⟩ = some (cN k) ∧ w'.frozen? ⟨b, 8, none⟩ = false := fun w' h =>
          ⟨cell_keep p8 h (by rw [HA.out.tb]; simp), cell_keep qb h (fun e => by rw [e] at hbn2; simp at hbn2), free_keep p8 f8 h (by rw [HA.out.tb]; simp)⟩
         have hS0 := hS5 wr.drew ((Only.refl _ _).drew)
         have HS5 := Lib.hid hS5
         have HRu := Lib.hid hrk8
         obtain ⟨d0, hd0e⟩ : ∃ d0, d.getD 0 0 = d0 := ⟨_, rfl⟩
         rw [hd0e] at k0
         have HD0e := Lib.hid hd0e
         have hwk : ∀ wA w5 v' s, Only (fun q => g2 q = (41, 0)) wA w5 → wA.heap.size = s → Row w5 (Tag.put g2 s w5.heap.size (41, 0)) (41, 0) 3 v' (T0.weak.map cN ++ [.int .i64 (k : Int)]) → Only (fun _ => False) wr wA →
           ∃ g5, TrAt (w5.setCell ⟨b, 8, none⟩ v') g5 b { ({ V with ws := ws2 } : TrV) with vk := v' } { T0 with weak := T0.weak ++ [k] } ∧ Agree wr g2 g5 ∧ Only (Mine g2) wr (w5.setCell ⟨b, 8, none⟩ v') ∧ (w5.setCell ⟨b, 8, none⟩ v').cell? ⟨bc, 0, none⟩ = some (cI d0) ∧ (w5.setCell ⟨b, 8, none⟩ v').cell? ⟨bn, 0, none⟩ = some (cN k) := by
          intro wA w5 v' s o5 hs r5 oA
          subst hs
          have ag : Agree wr g2 (Tag.put g2 wA.heap.size w5.heap.size (41, 0)) := Agree.put g2 _ oA.size
          have o25 : Only (fun q => g2 q = (41, 0)) wr w5 := (oA.mono fun _ f => f.elim).same o5
          have hO : Only (fun q => g2 q = (41, 0) ∨ q = b) wr (w5.setCell ⟨b, 8, none⟩ v') := (o25.mono fun q hq => .inl hq).setCell (.inl (.inr rfl)) _
          refine ⟨_, HA.out.setK ag (Fresh.put (w := wA) (41, 0) (HA.out.fresh.more oA.size) o5.size) o25 (by simpa [List.map_append] using r5), ag, hO.mono fun q hq => ?_, cell_keep k0 hO ?_, cell_keep qb hO ?_⟩
          ·unfold Mine; rcases hq with hq | hq
           ·rw [hq]; simp
           ·rw [hq, HA.out.tb]; simp
          ·rintro (h | h)
           ·rw [htb2] at h; simp at h
           ·rw [h, HA.out.tb] at htb2; simp at htb2
          ·rintro (h | h)
           ·rw [h] at hbn2; simp at hbn2
           ·rw [h, HA.out.tb] at hbn2; simp at hbn2
         have HWk := Lib.hid hwk
         have ok6 : Ok ({ T0 with weak := T0.weak ++ [k] } : Trail) := by
          have o := HOk0.out
          refine ⟨o.n, o.gl, o.wl, o.cls, o.cb, o.good, fun x hx => ?_, o.next, o.lev, o.lin, o.rea⟩
          rw [← List.append_assoc] at hx
          rcases List.mem_append.1 hx with hx | hx
          ·exact o.sm x hx
          ·simp at hx
           rw [hx]
           have := HT0c.out
           omega
         have HOk6 := Lib.hid ok6
         rw [hd0e] at HV0 HV0e HD0 HFvw
         clear hS5 hrk8 hwk ok6 hd0e hcr
         go_wp2_with fail
         refine HV0.out.mono ?_
         rintro e w2 ⟨rfl, rfl⟩
         go_wp2_with fail
         refine HV1.out.mono ?_
         rintro e w2 ⟨rfl, rfl⟩
         go_wp2_with fail
         refine wp_region_G (n := 11) (E := fun i => i == 10) (S := fun w' => w'.cell? ⟨b, 8, none⟩ = some (.slice ak T0.weak.length ck) ∧ w'.cell? ⟨bn, 0, none⟩ = some (cN k) ∧ w'.frozen? ⟨b, 8, none⟩ = false) (by kernel_rfl) rfl hS0 (fun hHeld => ?_)
         refine tqW (i := 0) (v := ?_) rfl (.inr (by assumption)) ?_ ?_
         rotate_left
         ·(intro w; go_simp <;> (try with_reducible rfl))
         try simp only [Act.put, zq1, zq3, zq4, zq5, zq6]
         refine tqW (i := 1) (v := ?_) rfl (.inr (by assumption)) ?_ ?_
         rotate_left
         ·(intro w; go_simp <;> (try with_reducible rfl))
         try simp only [Act.put, zq1, zq2, zq3, zq4, zq5, zq6]
         refine tqW (i := 2) (v := ?_) rfl (.inr (by assumption)) ?_ ?_
         rotate_left
         ·(intro w; go_simp <;> (try with_reducible rfl))
         try simp only [Act.put, zq1, zq2, zq3, zq4, zq5, zq6]
         refine tqW (i := 3) (v := ?_) rfl (.inr (by assumption)) ?_ ?_
         rotate_left
         ·(intro w; go_simp <;> (try with_reducible rfl))
         try simp only [Act.put, zq1, zq2, zq3, zq4, zq5, zq6]
         refine tqK (i := 4) (v := ?_) rfl ?_ ?_
         rotate_left
         ·(intro w hSw; (try dsimp only at hSw); go_simp <;> (try with_reducible rfl))
         try simp only [Act.put, zq1, zq2, zq3, zq4, zq5, zq6]
         refine tqK (i := 5) (v := ?_) rfl ?_ ?_
         rotate_left
         ·(intro w hSw; (try dsimp only at hSw); go_simp <;> (try with_reducible rfl))
         try simp only [Act.put, zq1, zq2, zq3, zq4, zq5, zq6]
         refine wpAnyG_ready (rs := [6]) (by kernel_rfl) (by simp) ?_
         refine AllReadyG.cons (i := 6) rfl (fun K hK => ?_) ?_
         ·go_simp
          refine hK.out _ _ ?_ (fun hHeld => ?_)
          ·(try dsimp only) <;> (exact HS5.out _ (by repeat (first | exact Only.refl _ _ | apply Only.drew | apply Only.alloc | apply Only.drewN)))
          clear hK K
          try simp only [Act.put, zq1, zq2, zq3, zq4, zq5, zq6]
          refine wpAnyG_ready (rs := [7]) (by kernel_rfl) (by simp) ?_
          refine AllReadyG.cons (i := 7) rfl (fun K hK => ?_) ?_
          ·(refine Row.step (u := .int .i64 (k : Int)) slInt (by rfl) (.tmp 115) (.tmp 117) (by rfl) (by rfl) (by rfl) (by simp) rfl (by repeat (first | exact HRu.out | apply Row.drew | apply Row.alloc | apply Row.drewN)) (by simp only [List.length_map]; omega) (by decide) ?_; intro bb cap w5 rr1 rr2; simp only [List.length_map] at rr1 ⊢)
           refine hK.out _ _ ?_ (fun hHeld => ?_)
           ·(try dsimp only) <;> (exact HS5.out _ (Only.same (by repeat (first | exact Only.refl _ _ | apply Only.drew | apply Only.alloc | apply Only.drewN)) rr2))
           clear hK K
           try simp only [Act.put, zq1, zq2, zq3, zq4, zq5, zq6]
           refine tqW (i := 8) (v := ?_) rfl (.inr (by assumption)) ?_ ?_
           rotate_left
           ·(intro w; go_simp <;> (try with_reducible rfl))
           try simp only [Act.put, zq1, zq2, zq3, zq4, zq5, zq6]
           refine tqW (i := 9) (v := ?_) rfl (.inr (by assumption)) ?_ ?_
           rotate_left
           ·(intro w; go_simp <;> (try with_reducible rfl))
           try simp only [Act.put, zq1, zq2, zq3, zq4, zq5, zq6]
           refine wpAnyG_ready (rs := [10]) (by kernel_rfl) (by simp) ?_
           refine AllReadyG.late (i := 10) rfl (by kernel_rfl) (fun K hK => ?_) ?_
           ·(obtain ⟨s1, s2, s3⟩ := hHeld; go_simp)
            refine hK.out _ _ ?_
            clear hK K
            try simp only [Act.put, zq1, zq2, zq3, zq4, zq5, zq6]
            refine wpAnyG_done (by kernel_rfl) ?_ _
            clear s1 s2 s3
            obtain ⟨g6, H6, A6, O6, k6, b6⟩ := HWk.out _ w5 _ _ rr2 (by simp) rr1 (by repeat (first | exact Only.refl _ _ | apply Only.drew | apply Only.alloc | apply Only.drewN))
            have HH6 := Lib.hid H6
            generalize w5.setCell ⟨b, 8, none⟩ (.slice (some ⟨bb, 0, none⟩) (T0.weak.length + 1) cap) = w6 at *
            have hV6 := prop_Value_any H6 HOk6.out d0 (by have := HD0.out; unfold InI64; omega) v0 HV0e.out
            have HV6 := Lib.hid hV6
            clear hV6 rr1 rr2 H6 HWk HRu HS5
            by_cases hz0' : v0 = 0
            ·have hres : T.first k = (({ T0 with weak := T0.weak ++ [k] } : Trail).put d0 k, true) := by rw [HFvw.out, if_pos hz0']
             rw [hres] at HFin
             have hput : ∀ W, Only (fun _ => False) w6 W → Calls Tryz.prog 109 #[.pointer (some ⟨b, 0, none⟩), .int .i64 d0, cN k] W fun e w' => e = .returned (.tuple #[]) ∧ ∃ g' V', TrAt w' g' b V' (({ T0 with weak := T0.weak ++ [k] } : Trail).put d0 k) ∧ Agree w6 g6 g' ∧ Only (Mine g6) w6 w' := by
              intro W oW
              refine (prop_put_any (HH6.out.only0 oW) HOk6.out.n HOk6.out.good d0 (by have := HD0.out; show d0 ≠ 0 ∧ d0.natAbs ≤ T0.n; omega) (by rw [← hz0']; exact HV0e.out) (k : Int)).mono ?_
              rintro e w' ⟨h1, g', vl', h2, h3, h4⟩
              exact ⟨h1, g', _, h2, fun q hq => h3 q (by have := oW.size; omega), (oW.mono fun _ f => f.elim).same (h4.mono fun q hq => by unfold T3 at hq; unfold Mine; omega)⟩
             have HPut := Lib.hid hput
             clear hres hput
             subst hz0'
             go_wp2_with fail
             refine HV6.out.mono ?_
             rintro e w7 ⟨rfl, rfl⟩
             go_wp2_with fail
             refine wp_region_G (n := 6) (E := fun i => i == 5) (S := fun w' => w'.cell? ⟨bc, 0, none⟩ = some (cI d0) ∧ w'.cell? ⟨bn, 0, none⟩ = some (cN k)) (by kernel_rfl) rfl ⟨k6, b6⟩ (fun hHeld => ?_)
             refine tqW (i := 0) (v := ?_) rfl (.inr (by assumption)) ?_ ?_
             rotate_left
             ·(intro w; go_simp <;> (try with_reducible rfl))
             try simp only [Act.put, zq1, zq3, zq4, zq5, zq6]
             refine tqW (i := 1) (v := ?_) rfl (.inr (by assumption)) ?_ ?_
             rotate_left
             ·(intro w; go_simp <;> (try with_reducible rfl))
             try simp only [Act.put, zq1, zq2, zq3, zq4, zq5, zq6]
             refine tqW (i := 2) (v := ?_) rfl (.inr (by assumption)) ?_ ?_
             rotate_left
             ·(intro w; go_simp <;> (try with_reducible rfl))
             try simp only [Act.put, zq1, zq2, zq3, zq4, zq5, zq6]
             refine tqK (i := 3) (v := ?_) rfl ?_ ?_
             rotate_left
             ·(intro w hSw; (try dsimp only at hSw); go_simp <;> (try with_reducible rfl))
             try simp only [Act.put, zq1, zq2, zq3, zq4, zq5, zq6]
             refine tqK (i := 4) (v := ?_) rfl ?_ ?_
             rotate_left
             ·(intro w hSw; (try dsimp only at hSw); go_simp <;> (try with_reducible rfl))
             try simp only [Act.put, zq1, zq2, zq3, zq4, zq5, zq6]
             refine wpAnyG_ready (rs := [5]) (by kernel_rfl) (by simp) ?_
             refine AllReadyG.late (i := 5) rfl (by kernel_rfl) (fun K hK => ?_) ?_
             ·(go_simp; refine (HPut.out _ (by repeat (first | exact Only.refl _ _ | apply Only.drew | apply Only.alloc | apply Only.drewN))).mono ?_; rintro e w9 ⟨rfl, hq9⟩; obtain ⟨g9, V9, H9, A9, O9⟩ := hq9; try go_wp2_with fail)
              refine hK.out _ _ ?_
              clear hK K
              try simp only [Act.put, zq1, zq2, zq3, zq4, zq5, zq6]
              refine wpAnyG_done (by kernel_rfl) ?_ _
              have hz := HFin.out w9 g9 _ H9 (A6.trans A9 O6.size) (O6.mine A6 O9)
              have HZ := Lib.hid hz
              clear hz H9 A9 O9
              go_wp2_with fail
              go_ret
              exact ⟨rfl, HZ.out⟩
             exact AllReadyG.nil
            ·have hres : T.first k = ({ T0 with weak := T0.weak ++ [k] }, true) := by rw [HFvw.out, if_neg hz0']
             have hz := HFin.out w6 g6 _ (by rw [hres]; exact HH6.out) A6 O6
             have HZ := Lib.hid hz
             have hz1 : (v0 == 0) = false := by simpa using hz0'
             clear hz hres
             go_wp2_with fail
             refine HV6.out.mono ?_
             rintro e w7 ⟨rfl, rfl⟩
             go_wp2_with fail
             go_ret
             exact ⟨rfl, HZ.out⟩
           exact AllReadyG.nil
          exact AllReadyG.nil
         exact AllReadyG.nil
       ·have hfvw : T.first k = if v0 = 0 then (({ T0 with weak := T0.weak ++ [k] } : Trail).put (d.getD 0 0) k, true) else ({ T0 with weak := T0.weak ++ [k] }, true) := by
         rw [HFv.out]; unfold Trail.firstV
         rw [if_neg (fun h => by rw [HV0e.out] at h; omega), if_neg (fun h => by omega), HV0e.out]
        have HFvw := Lib.hid hfvw
        have dl : decide (1 < c.length) = false := decide_eq_false h1
        clear hfvw
        have hr' : r = true := by
         rw [← HR.out, HFvw.out]; split <;> rfl
        subst hr'
        have p8 := HA.out.f8
        have hrk8 := HA.out.k
        obtain ⟨ak, ck, hvk, -, -⟩ := hrk8.shape
        simp only [List.length_map] at hvk
        rw [hvk] at p8 hrk8
        have f8 := HA.out.free 8
        have hS5 : ∀ w', Only (fun q => g2 q = (41, 0)) wr w' → w'.cell? ⟨b, 8, none⟩ = some (.slice ak T0.weak.length ck) ∧ w'.cell? ⟨bn, 0, none⟩ = some (cN k) ∧ w'.frozen? ⟨b, 8, none⟩ = false := fun w' h =>
         ⟨cell_keep p8 h (by rw [HA.out.tb]; simp), cell_keep qb h (fun e => by rw [e] at hbn2; simp at hbn2), free_keep p8 f8 h (by rw [HA.out.tb]; simp)⟩
        have hS0 := hS5 wr.drew ((Only.refl _ _).drew)
        have HS5 := Lib.hid hS5
        have HRu := Lib.hid hrk8
        obtain ⟨d0, hd0e⟩ : ∃ d0, d.getD 0 0 = d0 := ⟨_, rfl⟩
        rw [hd0e] at k0
        have HD0e := Lib.hid hd0e
        have hwk : ∀ wA w5 v' s, Only (fun q => g2 q = (41, 0)) wA w5 → wA.heap.size = s → Row w5 (Tag.put g2 s w5.heap.size (41, 0)) (41, 0) 3 v' (T0.weak.map cN ++ [.int .i64 (k : Int)]) → Only (fun _ => False) wr wA →
          ∃ g5, TrAt (w5.setCell ⟨b, 8, none⟩ v') g5 b { ({ V with ws := ws2 } : TrV) with vk := v' } { T0 with weak := T0.weak ++ [k] } ∧ Agree wr g2 g5 ∧ Only (Mine g2) wr (w5.setCell ⟨b, 8, none⟩ v') ∧ (w5.setCell ⟨b, 8, none⟩ v').cell? ⟨bc, 0, none⟩ = some (cI d0) ∧ (w5.setCell ⟨b, 8, none⟩ v').cell? ⟨bn, 0, none⟩ = some (cN k) := by
         intro wA w5 v' s o5 hs r5 oA
         subst hs
         have ag : Agree wr g2 (Tag.put g2 wA.heap.size w5.heap.size (41, 0)) := Agree.put g2 _ oA.size
         have o25 : Only (fun q => g2 q = (41, 0)) wr w5 := (oA.mono fun _ f => f.elim).same o5
         have hO : Only (fun q => g2 q = (41, 0) ∨ q = b) wr (w5.setCell ⟨b, 8, none⟩ v') := (o25.mono fun q hq => .inl hq).setCell (.inl (.inr rfl)) _
         refine ⟨_, HA.out.setK ag (Fresh.put (w := wA) (41, 0) (HA.out.fresh.more oA.size) o5.size) o25 (by simpa [List.map_append] using r5), ag, hO.mono fun q hq => ?_, cell_keep k0 hO ?_, cell_keep qb hO ?_⟩
         ·unfold Mine; rcases hq with hq | hq
          ·rw [hq]; simp
          ·rw [hq, HA.out.tb]; simp
         ·rintro (h | h)
          ·rw [htb2] at h; simp at h
          ·rw [h, HA.out.tb] at htb2; simp at htb2
         ·rintro (h | h)
          ·rw [h] at hbn2; simp at hbn2
          ·rw [h, HA.out.tb] at hbn2; simp at hbn2
        have HWk := Lib.hid hwk
        have ok6 : Ok ({ T0 with weak := T0.weak ++ [k] } : Trail) := by
         have o := HOk0.out
         refine ⟨o.n, o.gl, o.wl, o.cls, o.cb, o.good, fun x hx => ?_, o.next, o.lev, o.lin, o.rea⟩
         rw [← List.append_assoc] at hx
         rcases List.mem_append.1 hx with hx | hx
         ·exact o.sm x hx
         ·simp at hx
          rw [hx]
          have := HT0c.out
          omega
        have HOk6 := Lib.hid ok6
        rw [hd0e] at HV0 HV0e HD0 HFvw
        clear hS5 hrk8 hwk ok6 hd0e hcr
        go_wp2_with fail
        refine HV0.out.mono ?_
        rintro e w2 ⟨rfl, rfl⟩
        go_wp2_with fail
        refine wp_region_G (n := 11) (E := fun i => i == 10) (S := fun w' => w'.cell? ⟨b, 8, none⟩ = some (.slice ak T0.weak.length ck) ∧ w'.cell? ⟨bn, 0, none⟩ = some (cN k) ∧ w'.frozen? ⟨b, 8, none⟩ = false) (by kernel_rfl) rfl hS0 (fun hHeld => ?_)
        refine tqW (i := 0) (v := ?_) rfl (.inr (by assumption)) ?_ ?_
        rotate_left
        ·(intro w; go_simp <;> (try with_reducible rfl))
        try simp only [Act.put, zq1, zq3, zq4, zq5, zq6]
        refine tqW (i := 1) (v := ?_) rfl (.inr (by assumption)) ?_ ?_
        rotate_left
        ·(intro w; go_simp <;> (try with_reducible rfl))
        try simp only [Act.put, zq1, zq2, zq3, zq4, zq5, zq6]
        refine tqW (i := 2) (v := ?_) rfl (.inr (by assumption)) ?_ ?_
        rotate_left
        ·(intro w; go_simp <;> (try with_reducible rfl))
        try simp only [Act.put, zq1, zq2, zq3, zq4, zq5, zq6]
        refine tqW (i := 3) (v := ?_) rfl (.inr (by assumption)) ?_ ?_
        rotate_left
        ·(intro w; go_simp <;> (try with_reducible rfl))
        try simp only [Act.put, zq1, zq2, zq3, zq4, zq5, zq6]
        refine tqK (i := 4) (v := ?_) rfl ?_ ?_
        rotate_left
        ·(intro w hSw; (try dsimp only at hSw); go_simp <;> (try with_reducible rfl))
        try simp only [Act.put, zq1, zq2, zq3, zq4, zq5, zq6]
        refine tqK (i := 5) (v := ?_) rfl ?_ ?_
        rotate_left
        ·(intro w hSw; (try dsimp only at hSw); go_simp <;> (try with_reducible rfl))
        try simp only [Act.put, zq1, zq2, zq3, zq4, zq5, zq6]
        refine wpAnyG_ready (rs := [6]) (by kernel_rfl) (by simp) ?_
        refine AllReadyG.cons (i := 6) rfl (fun K hK => ?_) ?_
        ·go_simp
         refine hK.out _ _ ?_ (fun hHeld => ?_)
         ·(try dsimp only) <;> (exact HS5.out _ (by repeat (first | exact Only.refl _ _ | apply Only.drew | apply Only.alloc | apply Only.drewN)))
         clear hK K
         try simp only [Act.put, zq1, zq2, zq3, zq4, zq5, zq6]
         refine wpAnyG_ready (rs := [7]) (by kernel_rfl) (by simp) ?_
         refine AllReadyG.cons (i := 7) rfl (fun K hK => ?_) ?_
         ·(refine Row.step (u := .int .i64 (k : Int)) slInt (by rfl) (.tmp 115) (.tmp 117) (by rfl) (by rfl) (by rfl) (by simp) rfl (by repeat (first | exact HRu.out | apply Row.drew | apply Row.alloc | apply Row.drewN)) (by simp only [List.length_map]; omega) (by decide) ?_; intro bb cap w5 rr1 rr2; simp only [List.length_map] at rr1 ⊢)
          refine hK.out _ _ ?_ (fun hHeld => ?_)
          ·(try dsimp only) <;> (exact HS5.out _ (Only.same (by repeat (first | exact Only.refl _ _ | apply Only.drew | apply Only.alloc | apply Only.drewN)) rr2))
          clear hK K
          try simp only [Act.put, zq1, zq2, zq3, zq4, zq5, zq6]
          refine tqW (i := 8) (v := ?_) rfl (.inr (by assumption)) ?_ ?_
          rotate_left
          ·(intro w; go_simp <;> (try with_reducible rfl))
          try simp only [Act.put, zq1, zq2, zq3, zq4, zq5, zq6]
          refine tqW (i := 9) (v := ?_) rfl (.inr (by assumption)) ?_ ?_
          rotate_left
          ·(intro w; go_simp <;> (try with_reducible rfl))
          try simp only [Act.put, zq1, zq2, zq3, zq4, zq5, zq6]
          refine wpAnyG_ready (rs := [10]) (by kernel_rfl) (by simp) ?_
          refine AllReadyG.late (i := 10) rfl (by kernel_rfl) (fun K hK => ?_) ?_
          ·(obtain ⟨s1, s2, s3⟩ := hHeld; go_simp)
           refine hK.out _ _ ?_
           clear hK K
           try simp only [Act.put, zq1, zq2, zq3, zq4, zq5, zq6]
           refine wpAnyG_done (by kernel_rfl) ?_ _
           clear s1 s2 s3
           obtain ⟨g6, H6, A6, O6, k6, b6⟩ := HWk.out _ w5 _ _ rr2 (by simp) rr1 (by repeat (first | exact Only.refl _ _ | apply Only.drew | apply Only.alloc | apply Only.drewN))
           have HH6 := Lib.hid H6
           generalize w5.setCell ⟨b, 8, none⟩ (.slice (some ⟨bb, 0, none⟩) (T0.weak.length + 1) cap) = w6 at *
           have hV6 := prop_Value_any H6 HOk6.out d0 (by have := HD0.out; unfold InI64; omega) v0 HV0e.out
           have HV6 := Lib.hid hV6
           clear hV6 rr1 rr2 H6 HWk HRu HS5
           by_cases hz0' : v0 = 0
           ·have hres : T.first k = (({ T0 with weak := T0.weak ++ [k] } : Trail).put d0 k, true) := by rw [HFvw.out, if_pos hz0']
            rw [hres] at HFin
            have hput : ∀ W, Only (fun _ => False) w6 W → Calls Tryz.prog 109 #[.pointer (some ⟨b, 0, none⟩), .int .i64 d0, cN k] W fun e w' => e = .returned (.tuple #[]) ∧ ∃ g' V', TrAt w' g' b V' (({ T0 with weak := T0.weak ++ [k] } : Trail).put d0 k) ∧ Agree w6 g6 g' ∧ Only (Mine g6) w6 w' := by
             intro W oW
             refine (prop_put_any (HH6.out.only0 oW) HOk6.out.n HOk6.out.good d0 (by have := HD0.out; show d0 ≠ 0 ∧ d0.natAbs ≤ T0.n; omega) (by rw [← hz0']; exact HV0e.out) (k : Int)).mono ?_
             rintro e w' ⟨h1, g', vl', h2, h3, h4⟩
             exact ⟨h1, g', _, h2, fun q hq => h3 q (by have := oW.size; omega), (oW.mono fun _ f => f.elim).same (h4.mono fun q hq => by unfold T3 at hq; unfold Mine; omega)⟩
            have HPut := Lib.hid hput
            clear hres hput
            subst hz0'
            go_wp2_with fail
            refine HV6.out.mono ?_
            rintro e w7 ⟨rfl, rfl⟩
            go_wp2_with fail
            refine wp_region_G (n := 6) (E := fun i => i == 5) (S := fun w' => w'.cell? ⟨bc, 0, none⟩ = some (cI d0) ∧ w'.cell? ⟨bn, 0, none⟩ = some (cN k)) (by kernel_rfl) rfl ⟨k6, b6⟩ (fun hHeld => ?_)
            refine tqW (i := 0) (v := ?_) rfl (.inr (by assumption)) ?_ ?_
            rotate_left
            ·(intro w; go_simp <;> (try with_reducible rfl))
            try simp only [Act.put, zq1, zq3, zq4, zq5, zq6]
            refine tqW (i := 1) (v := ?_) rfl (.inr (by assumption)) ?_ ?_
            rotate_left
            ·(intro w; go_simp <;> (try with_reducible rfl))
            try simp only [Act.put, zq1, zq2, zq3, zq4, zq5, zq6]
            refine tqW (i := 2) (v := ?_) rfl (.inr (by assumption)) ?_ ?_
            rotate_left
            ·(intro w; go_simp <;> (try with_reducible rfl))
            try simp only [Act.put, zq1, zq2, zq3, zq4, zq5, zq6]
            refine tqK (i := 3) (v := ?_) rfl ?_ ?_
            rotate_left
            ·(intro w hSw; (try dsimp only at hSw); go_simp <;> (try with_reducible rfl))
            try simp only [Act.put, zq1, zq2, zq3, zq4, zq5, zq6]
            refine tqK (i := 4) (v := ?_) rfl ?_ ?_
            rotate_left
            ·(intro w hSw; (try dsimp only at hSw); go_simp <;> (try with_reducible rfl))
            try simp only [Act.put, zq1, zq2, zq3, zq4, zq5, zq6]
            refine wpAnyG_ready (rs := [5]) (by kernel_rfl) (by simp) ?_
            refine AllReadyG.late (i := 5) rfl (by kernel_rfl) (fun K hK => ?_) ?_
            ·(go_simp; refine (HPut.out _ (by repeat (first | exact Only.refl _ _ | apply Only.drew | apply Only.alloc | apply Only.drewN))).mono ?_; rintro e w9 ⟨rfl, hq9⟩; obtain ⟨g9, V9, H9, A9, O9⟩ := hq9; try go_wp2_with fail)
             refine hK.out _ _ ?_
             clear hK K
             try simp only [Act.put, zq1, zq2, zq3, zq4, zq5, zq6]
             refine wpAnyG_done (by kernel_rfl) ?_ _
             have hz := HFin.out w9 g9 _ H9 (A6.trans A9 O6.size) (O6.mine A6 O9)
             have HZ := Lib.hid hz
             clear hz H9 A9 O9
             go_wp2_with fail
             go_ret
             exact ⟨rfl, HZ.out⟩
            exact AllReadyG.nil
           ·have hres : T.first k = ({ T0 with weak := T0.weak ++ [k] }, true) := by rw [HFvw.out, if_neg hz0']
            have hz := HFin.out w6 g6 _ (by rw [hres]; exact HH6.out) A6 O6
            have HZ := Lib.hid hz
            have hz1 : (v0 == 0) = false := by simpa using hz0'
            clear hz hres
            go_wp2_with fail
            refine HV6.out.mono ?_
            rintro e w7 ⟨rfl, rfl⟩
            go_wp2_with fail
            go_ret
            exact ⟨rfl, HZ.out⟩
          exact AllReadyG.nil
         exact AllReadyG.nil
        exact AllReadyG.nil
end
end Go.Proofs.YtjedgdamommgeaaGreat
