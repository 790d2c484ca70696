/- Ch6 Ch7 Ch8, in one text. -/
import Derived.Test.YtbapkcnfacklaaaGreatNd2
import Derived.Test.YtbapkcnfacklaaaGreatStepA
import Derived.BigFrame
import Derived.Test.YtbapkcnfacklaaaGreatChA
import Derived.Test.YtbapkcnfacklaaaGreatNd6
import Derived.Deep.DeepCutAuto
set_option linter.unusedVariables false
namespace Go.Proofs.YtbapkcnfacklaaaGreat
open Go.RowKit
structure RuleD where
 kind : Int
 pack : Int
 idx : Int
 line : Int
deriving DecidableEq
instance : Inhabited RuleD := ⟨⟨0, 0, 0, 0⟩⟩
def RuleD.cells (r : RuleD) : List Value := [.int .u8 r.kind, .int .i64 r.pack, .int .i64 r.idx, .int .i64 r.line]
def RuleC (_ : Nat) (_ : World) (cs : List Value) (r : RuleD) : Prop := cs = r.cells ∧ (0 ≤ r.kind ∧ r.kind ≤ 255) ∧ InI64 r.pack ∧ InI64 r.idx ∧ InI64 r.line
theorem RuleC.keep : Keeps RuleC := fun _ _ _ _ _ h _ => h
theorem RuleD.one (r : RuleD) : ∀ u ∈ r.cells, u.oneCell' = true := by
 intro u hu
 simp [RuleD.cells] at hu
 rcases hu with rfl | rfl | rfl | rfl <;> rfl
def flatR (l : List RuleD) : List Value := l.flatMap RuleD.cells
theorem flatR_app (a b : List RuleD) : flatR (a ++ b) = flatR a ++ flatR b := List.flatMap_append
theorem flatR_get (l : List RuleD) {i j : Nat} (hi : i < l.length) (hj : j < 4) : (flatR l)[i * 4 + j]? = (l[i]'hi).cells[j]? := by
 unfold flatR
 induction l generalizing i with
 | nil => simp at hi
 | cons x r ih =>
  have hx : x.cells.length = 4 := rfl
  rw [List.flatMap_cons]
  cases i with
  | zero => rw [Nat.zero_mul, Nat.zero_add, List.getElem?_append_left (by rw [hx]; exact hj)]; rfl
  | succ i =>
   rw [List.getElem?_append_right (by rw [hx]; omega), hx, show (i + 1) * 4 + j - 4 = i * 4 + j by omega, ih (by simpa using hi)]
   simp
def rootRs (q : ReqD) (k : Nat) : List RuleD := (List.range k).map fun i : Nat => ⟨1, -1, i, (q.roots.getD i default).line⟩
def depRs (x : RecD) (p k : Nat) : List RuleD := (List.range k).map fun i : Nat => ⟨2, p, i, ((x.pack p).deps.getD i default).line⟩
def conRs (x : RecD) (p k : Nat) : List RuleD := (List.range k).map fun i : Nat => ⟨3, p, i, ((x.pack p).cons.getD i default).line⟩
def packRs (x : RecD) (p : Nat) : List RuleD := depRs x p (x.pack p).deps.length ++ conRs x p (x.pack p).cons.length
def rulesOf (x : RecD) (q : ReqD) (l : List Nat) : List RuleD := rootRs q q.roots.length ++ l.flatMap (packRs x)
theorem rootRs_succ (q : ReqD) (k : Nat) : rootRs q (k + 1) = rootRs q k ++ [⟨1, -1, k, (q.roots.getD k default).line⟩] := by unfold rootRs; rw [List.range_succ, List.map_append]; rfl
theorem depRs_succ (x : RecD) (p k : Nat) : depRs x p (k + 1) = depRs x p k ++ [⟨2, p, k, ((x.pack p).deps.getD k default).line⟩] := by unfold depRs; rw [List.range_succ, List.map_append]; rfl
theorem conRs_succ (x : RecD) (p k : Nat) : conRs x p (k + 1) = conRs x p k ++ [⟨3, p, k, ((x.pack p).cons.getD k default).line⟩] := by unfold conRs; rw [List.range_succ, List.map_append]; rfl
section
variable {w w' : World} {B : Nat}
theorem slRule : SlT Tryz.prog 31 45 4 32 := SlT.mk' (z := .agg #[.int .u8 0, .int .i64 0, .int .i64 0, .int .i64 0]) Tryz.underlying31 (by kernel_rfl) rfl (by decide)
theorem wpAR {P : Program} {ops : Array Oper} {rest : List Oper} {o : Oper} {a : Act} {Q : Exit → Act → World → Prop} {t e : TypeId} {size bytes : Nat} (T : SlT P t e size bytes)
  (hgd : o.guard = none) (s x : Operand)
  (ho : o.op = .call { callee := .builtin .append, args := #[s, x], argTypes := #[t, t] })
  {v : Value} {n : Nat} {xs cs : List Value} {g : Nat} (hs : a.eval s = v) (hx : a.eval x = .slice (some ⟨g, 0, none⟩) 1 1) (hl : cs.length = size) (hc : w.rangeAt g 0 cs) (hu : ∀ u ∈ cs, u.oneCell' = true) (hown : w.ownsRow 0 e size v n xs)
  (h63 : n + 1 ≤ 1099511627776) (hbytes : bytes ≤ 128)
  (h : ∀ v' w', w'.ownsRow 0 e size v' (n + 1) (xs ++ cs) → Only (fun k => v.ownBlock = some k) w w' → AppTo w v v' (n + 1) → wpList P ops Q rest (a.put o.dst v') w') :
  wpList P ops Q (o :: rest) a w := by
 refine wpA T hgd s x ho (news := cs) hs hown hx (by rw [hl, Nat.one_mul]) ?_ hu ?_ ?_ ?_
 ·intro j x hj
  have := hc j x hj
  rw [Go.WideShapes.add_plain]
  exact this
 ·unfold maxLen; omega
 ·have : (n + 1) * bytes ≤ 1099511627776 * 128 := Nat.mul_le_mul h63 hbytes
  omega
 ·intro v' w' r1 r2 r3 r4
  refine h v' w' r1 ((Only.refl _ w).grown r2 fun k hk => .inl hk) ?_
  obtain ⟨g, cap, rfl, hc1, hc2⟩ := own_some r1 (by omega)
  exact ⟨g, cap, rfl, hc1, hc2, r3 g rfl⟩
theorem rangeAt_new {w : World} {cs : List Value} {t : TypeId} {n : Nat} (h : n = w.heap.size) : (w.alloc (.cells cs.toArray t)).rangeAt n 0 cs := by
 subst h
 intro j u hu
 have hb : (w.alloc (.cells cs.toArray t)).heap[w.heap.size]? = some (.cells cs.toArray t) := heap_alloc_new w _
 rw [Nat.zero_add, cell_block hb]
 simpa using hu
def RuRow (w0 w : World) (v : Value) (l : List RuleD) : Prop := w.ownsRow 0 45 4 v l.length (flatR l) ∧ ∀ k, v.ownBlock = some k → w0.heap.size ≤ k
theorem RuRow.nil (w0 w : World) : RuRow w0 w nilS [] := ⟨World.ownsRow_nil _ _ _ _, fun k hk => by cases hk⟩
theorem RuRow.app {w0 w1 w2 : World} {v v' : Value} {l : List RuleD} {r : RuleD} (h : RuRow w0 w v l) (hs : w0.heap.size ≤ w1.heap.size) (s1 : w2.ownsRow 0 45 4 v' (l.length + 1) (flatR l ++ r.cells)) (s3 : AppTo w1 v v' (l.length + 1)) : RuRow w0 w2 v' (l ++ [r]) := by
 refine ⟨?_, fun k hk => ?_⟩
 ·rw [flatR_app, List.length_append]
  have : flatR [r] = r.cells := by simp [flatR]
  rw [this]; exact s1
 ·obtain ⟨g, cap, rfl, -, -, hg⟩ := s3
  simp [Value.ownBlock] at hk
  subst hk
  rcases hg with hg | hg
  ·exact h.2 _ hg
  ·omega
theorem RuRow.read {w0 : World} {v : Value} {l : List RuleD} (h : RuRow w0 w v l) (hr : ∀ r ∈ l, (0 ≤ r.kind ∧ r.kind ≤ 255) ∧ InI64 r.pack ∧ InI64 r.idx ∧ InI64 r.line) : RowT 4 RuleC w.heap.size w v l :=
 RowT.of_own h.1 fun i hi => ⟨(l[i]'hi).cells, rfl, fun j u hu => by
  have hj := (List.getElem?_eq_some_iff.1 hu).1
  rw [flatR_get l hi hj]; exact hu, rfl, hr _ (List.getElem_mem hi)⟩
end
theorem packRs_len {x : RecD} {p : Nat} (h1 : (x.pack p).deps.length ≤ 1000) (h2 : (x.pack p).cons.length ≤ 1000) : (packRs x p).length ≤ 2000 := by
 unfold packRs depRs conRs
 simp; omega
theorem flatMap_le {x : RecD} : ∀ {l : List Nat}, (∀ p ∈ l, (packRs x p).length ≤ 2000) → (l.flatMap (packRs x)).length ≤ l.length * 2000
 | [], _ => by simp
 | a :: r, h => by
  have h1 := flatMap_le (l := r) fun p hp => h p (List.mem_cons_of_mem _ hp)
  have h2 := h a List.mem_cons_self
  rw [List.flatMap_cons, List.length_append, List.length_cons, Nat.add_mul]; omega
theorem takeN_succ {l : List Nat} {i p : Nat} (h : l[i]? = some p) : l.take (i + 1) = l.take i ++ [p] := by
 obtain ⟨hlt, rfl⟩ := List.getElem?_eq_some_iff.1 h
 rw [List.take_succ_eq_append_getElem hlt]
structure RuOk (x : RecD) (q : ReqD) (l : List Nat) : Prop where
 roots : q.roots.length ≤ 1000
 packs : x.packs.length ≤ 1000
 deps : ∀ p ∈ x.packs, p.deps.length ≤ 1000
 cons : ∀ p ∈ x.packs, p.cons.length ≤ 1000
 len : l.length ≤ 1000
 lt : ∀ p ∈ l, p < x.packs.length
section
variable {w w' : World} {B : Nat}
theorem Ints.cellN {ao : Option Addr} {n cap : Nat} {l : List Nat} (h : Ints w (.slice ao n cap) (intsOf l)) {i p : Nat} (hp : l[i]? = some p) : ∃ b off, ao = some ⟨b, off, none⟩ ∧ w.cell? ⟨b, off + i, none⟩ = some (.int .i64 (p : Int)) := by
 obtain ⟨hlt, rfl⟩ := List.getElem?_eq_some_iff.1 hp
 have hl : i < (intsOf l).length := by unfold intsOf; simpa using hlt
 obtain ⟨b, off, e, _, hc⟩ := h.cells _ _ _ rfl (by omega)
 refine ⟨b, off, e, ?_⟩
 rw [hc i hl]
 unfold intsOf
 simp [List.getD, hlt]
set_option maxRecDepth 100000 in
set_option maxHeartbeats 4000000 in
theorem rules_any {cs cq : List Value} {x : RecD} {q : ReqD} {vl : Value} {l : List Nat} (h : RecC B w cs x) (hq : ReqC B w cq q) (hl : Ints w vl (intsOf l)) (ok : RuOk x q l) :
  Calls Tryz.prog 34 #[.agg cs.toArray, .agg cq.toArray, vl] w fun e w' => ∃ v, e = .returned v ∧ RuRow w w' v (rulesOf x q l) ∧ Only (fun _ => False) w w' := by
 have HOk := Lib.hid ok
 obtain ⟨v1, v2, rfl, h1, h2⟩ := h
 obtain ⟨ao, cap, rfl, -, -⟩ := h1.shape
 obtain ⟨ao2, cap2, rfl, -, -⟩ := h2.shape
 obtain ⟨v3, rfl, h3⟩ := hq
 obtain ⟨ao3, cap3, rfl, g3, g3'⟩ := h3.shape
 obtain ⟨apl, capl, rfl, -, -⟩ := hl.shape
 obtain ⟨n1, hn1⟩ : ∃ n, x.packs.length = n := ⟨_, rfl⟩
 obtain ⟨n2, hn2⟩ : ∃ n, x.prefs.length = n := ⟨_, rfl⟩
 obtain ⟨n3, hn3⟩ : ∃ n, q.roots.length = n := ⟨_, rfl⟩
 obtain ⟨nl, hnl⟩ : ∃ n, (intsOf l).length = n := ⟨_, rfl⟩
 have hnl2 : l.length = nl := by rw [← hnl]; unfold intsOf; simp
 rw [hn1] at h1
 rw [hn3] at h3 g3
 rw [hnl] at hl
 rw [hn1, hn2, hn3, hnl]
 have R1 := Lib.hid h1
 have R3 := Lib.hid h3
 have N1 := Lib.hid hn1
 have N3 := Lib.hid hn3
 have NL := Lib.hid hnl2
 have HI := Lib.hid hl
 have hb1 : n1 ≤ 1000 := by rw [← hn1]; exact ok.packs
 have hb3 : n3 ≤ 1000 := by rw [← hn3]; exact ok.roots
 have hbl : nl ≤ 1000 := by rw [← hnl2]; exact ok.len
 obtain ⟨W0, hW0⟩ : ∃ W0, W0 = (w.alloc (.cells #[.slice ao n1 cap, .slice ao2 n2 cap2] 25)).alloc (.cells #[.slice ao3 n3 cap3] 28) := ⟨_, rfl⟩
 have HOB : Hid (Only (fun _ => False) w W0) := by rw [hW0]; exact ((Only.refl _ _).alloc _).alloc _
 have HBox : Hid (∀ W, Only (fun _ => False) W0 W → W.cell? ⟨w.heap.size, 0, none⟩ = some (.slice ao n1 cap) ∧ W.cell? ⟨w.heap.size + 1, 0, none⟩ = some (.slice ao3 n3 cap3)) := fun W ho => by
  have b0 : W0.heap[w.heap.size]? = some (.cells #[.slice ao n1 cap, .slice ao2 n2 cap2] 25) := by rw [hW0]; exact alloc_block (heap_alloc_new w _) _
  have b1 : W0.heap[w.heap.size + 1]? = some (.cells #[.slice ao3 n3 cap3] 28) := by
   have := heap_alloc_new (w.alloc (.cells #[.slice ao n1 cap, .slice ao2 n2 cap2] 25)) (.cells #[.slice ao3 n3 cap3] 28)
   rw [World.size_alloc, ← hW0] at this; exact this
  have c0 := only_block b0 ho (fun f => f)
  have c1 := only_block b1 ho (fun f => f)
  exact ⟨by rw [cell_block c0]; rfl, by rw [cell_block c1]; rfl⟩
 clear h1 h2 h3 hl hn1 hn2 hn3 hnl hnl2 ok
 go_enter Tryz.func34, Tryz.ntmps34
 go_wp2_with fail
 rw [← hW0]
 clear hW0
 go_loopw [7, 19] (fun vo vi wr => Hid (Only (fun _ => False) W0 wr) ∧ ∃ i : Nat, vi = .int .i64 i ∧ i ≤ n3 ∧ Hid (RuRow W0 wr vo (rootRs q i))) (fun _ v _ => n3 - (RowKit.intOf v).toNat)
 case atStart => exact ⟨show Hid _ from Only.refl _ _, 0, rfl, Nat.zero_le _, show Hid _ from RuRow.nil _ _⟩
 case round =>
  obtain ⟨HO, i, rfl, hi, HV⟩ := hrel
  obtain ⟨k0, k2⟩ := HBox.out wr HO.out
  by_cases ci : i < n3
  ·have h2 := R3.out
   rw [← N3.out] at h2
   obtain ⟨b, off, he, -, -⟩ := h2.at (by have := N3.out; omega)
   subst he
   obtain ⟨y, hx⟩ : ∃ y, q.roots[i]? = some y := ⟨_, List.getElem?_eq_getElem (by rw [N3.out]; exact ci)⟩
   obtain ⟨cs, hl2, hr, hC⟩ := (h2.keep RootC.keep (Kp.of0 (HOB.out.same HO.out))).get hx
   have ewi : IntKind.i64.wrap ((i : Int) + 1) = (i : Int) + 1 := by rw [IntKind.wrap_i64]; omega
   obtain ⟨c1, rfl, hS, -⟩ := hC
   obtain ⟨p1, p2, d1, d2, rfl, -, -, -⟩ := hS.cells
   have HR := Lib.hid (show wr.rangeAt b (off + i * 4) [.string y.spec.name, .slice p1 y.spec.spans.length d1, .slice p2 y.spec.sets.length d2, .int .i64 y.line] from hr)
   have HSn : Hid (rootRs q (i + 1) = rootRs q i ++ [⟨1, -1, i, y.line⟩]) := by rw [rootRs_succ, List.getD_eq_getElem?_getD, hx]; exact rfl
   have hlen : (rootRs q i).length ≤ 1000 := by unfold rootRs; simp; omega
   obtain ⟨L, hL⟩ : ∃ L, rootRs q i = L := ⟨_, rfl⟩
   rw [hL] at HV hlen HSn
   obtain ⟨au, cu, hu, -, -⟩ : ∃ au cu, u7 = .slice au L.length cu ∧ L.length ≤ cu ∧ cu ≤ maxLen := own_slice HV.out.1
   subst hu
   clear hr hx h2 hl2 hS hL
   go_wp2_with (first | (refine wpList_load_mid rfl 51 (.tmp 22) rfl b (off + i * 4) rfl _ _ HR.out Tryz.underlying51 rfl (by kernel_rfl) ?_) | (at_builtin; go_must (refine wpAR (cs := RuleD.cells ⟨1, -1, i, y.line⟩) slRule rfl (.tmp 24) (.tmp 29) rfl rfl rfl rfl (rangeAt_new (cs := RuleD.cells ⟨1, -1, i, y.line⟩) (by simp)) (RuleD.one _) (own_only HV.out.1 (((Only.refl (fun _ => False) _).alloc _).alloc _) (fun _ _ f => f)) (by omega) (by decide) ?_)))
   intro v' w2 s1 s2 s3
   have HV2 : Hid (RuRow W0 w2 v' (rootRs q (i + 1))) := by
    rw [HSn.out]
    exact RuRow.app HV.out (by have := HO.out.size; simp; omega) s1 s3
   have HO2 := Lib.hid (((HO.out.alloc _).alloc _).trans s2 fun k hk => .inr (HV.out.2 k hk))
   obtain ⟨g6, c6', rfl, -, -, -⟩ := s3
   clear s1 s2 HV
   go_wp2_with fail
   go_roundw
   case rel => exact ⟨HO2, i + 1, by first | rfl | go_num, by omega, HV2⟩
   case measure => simp [RowKit.intOf] <;> omega
  ·obtain rfl : n3 = i := by omega
   clear hi ci k0 k2
   have HV1 : Hid (RuRow W0 wr u7 (rootRs q n3 ++ (l.take 0).flatMap (packRs x))) := by simpa [Hid] using HV.out
   obtain ⟨au, cu, hu, -, -⟩ : ∃ au cu, u7 = .slice au (rootRs q n3).length cu ∧ _ ∧ _ := own_slice HV.out.1
   clear hu
   have HO1 := HO
   go_wp2_with fail
   generalize wr = wa at *
   go_loopw [7, 34] (fun vo vi wr => Hid (Only (fun _ => False) W0 wr) ∧ ∃ i : Nat, vi = .int .i64 i ∧ i ≤ nl ∧ Hid (RuRow W0 wr vo (rootRs q n3 ++ (l.take i).flatMap (packRs x)))) (fun _ v _ => nl - (RowKit.intOf v).toNat)
   case atStart => exact ⟨HO1, 0, rfl, Nat.zero_le _, HV1⟩
   case round =>
    clear HV1 HV HO HO1
    obtain ⟨HO, i, rfl, hi, HV⟩ := hrel
    obtain ⟨k0, k2⟩ := HBox.out wr HO.out
    by_cases ci : i < nl
    ·obtain ⟨p, hp⟩ : ∃ p, l[i]? = some p := ⟨_, List.getElem?_eq_getElem (by rw [NL.out]; exact ci)⟩
     have hpn : p < n1 := by have := HOk.out.lt p (List.mem_of_getElem? hp); rw [N1.out] at this; exact this
     obtain ⟨bI, offI, eI, hcell⟩ := (HI.out.only0 (HOB.out.same HO.out)).cellN hp
     subst eI
     have ewi : IntKind.i64.wrap ((i : Int) + 1) = (i : Int) + 1 := by rw [IntKind.wrap_i64]; omega
     have hpx : x.packs[p]? = some (x.pack p) := by
      unfold RecD.pack
      rw [List.getD_eq_getElem?_getD, List.getElem?_eq_getElem (by rw [N1.out]; exact hpn)]; rfl
     obtain ⟨pk, hpk⟩ : ∃ pk, x.pack p = pk := ⟨_, rfl⟩
     rw [hpk] at hpx
     have hmem : pk ∈ x.packs := List.mem_of_getElem? hpx
     have h2 := R1.out
     rw [← N1.out] at h2
     obtain ⟨b, off, he, -, -⟩ := h2.at (by have := N1.out; omega)
     subst he
     obtain ⟨csp, -, hrp, hCp⟩ := h2.get hpx
     obtain ⟨q1, q2, q3, q4, q5, q6, z1, z2, z3, z4, z5, z6, rfl, -, -, -, -, -, b4, b5, -⟩ := hCp.cells
     obtain ⟨nd, hnd⟩ : ∃ nd, pk.deps.length = nd := ⟨_, rfl⟩
     obtain ⟨nc, hnc⟩ : ∃ nc, pk.cons.length = nc := ⟨_, rfl⟩
     have hdl : nd ≤ 1000 := by rw [← hnd]; exact HOk.out.deps pk hmem
     have hcl : nc ≤ 1000 := by rw [← hnc]; exact HOk.out.cons pk hmem
     rw [hnd] at hrp b4
     rw [hnc] at hrp b5
     have HNd := Lib.hid hnd
     have HNc := Lib.hid hnc
     have HD : Hid (∀ W, Only (fun _ => False) W0 W → RowT 7 DepC B W (.slice q4 nd z4) pk.deps) := fun W hW => b4.keep DepC.keep (Kp.of0 (HOB.out.same hW))
     have HCn : Hid (∀ W, Only (fun _ => False) W0 W → RowT 7 ConC B W (.slice q5 nc z5) pk.cons) := fun W hW => b5.keep ConC.keep (Kp.of0 (HOB.out.same hW))
     have HPk : Hid (∀ W, Only (fun _ => False) W0 W → W.cell? ⟨b, off + p * 8 + 5, none⟩ = some (.slice q4 nd z4) ∧ W.cell? ⟨b, off + p * 8 + 6, none⟩ = some (.slice q5 nc z5)) := fun W hW => by
      have hb : b < w.heap.size := World.block_lt_of_cell? _ _ (hrp 5 _ rfl)
      have hk := (HOB.out.same hW).block b hb (fun f => f)
      exact ⟨by rw [World.cell?_of_block (w := w) hk]; exact hrp 5 _ rfl, by rw [World.cell?_of_block (w := w) hk]; exact hrp 6 _ rfl⟩
     have HNx : Hid (rootRs q n3 ++ (l.take (i + 1)).flatMap (packRs x) = (rootRs q n3 ++ (l.take i).flatMap (packRs x)) ++ depRs x p nd ++ conRs x p nc) := by
      rw [takeN_succ hp, List.flatMap_append]
      have : List.flatMap (packRs x) [p] = depRs x p nd ++ conRs x p nc := by simp [packRs, hpk, hnd, hnc]
      rw [this]
      simp [List.append_assoc, Hid]
     have hlen0 : (rootRs q n3 ++ (l.take i).flatMap (packRs x)).length ≤ 3000000 := by
      have h1 := flatMap_le (x := x) (l := l.take i) fun p hp => by
       have := HOk.out.lt p (List.mem_of_mem_take hp)
       have hm : x.pack p ∈ x.packs := by unfold RecD.pack; rw [List.getD_eq_getElem?_getD, List.getElem?_eq_getElem this]; exact List.getElem_mem this
       exact packRs_len (HOk.out.deps _ hm) (HOk.out.cons _ hm)
      have h2 : (l.take i).length ≤ 1000 := by rw [List.length_take]; omega
      have h3 : (rootRs q n3).length = n3 := by unfold rootRs; simp
      rw [List.length_append, h3]
      have := Nat.mul_le_mul_right 2000 h2
      omega
     obtain ⟨L0, hL0⟩ : ∃ L, rootRs q n3 ++ (l.take i).flatMap (packRs x) = L := ⟨_, rfl⟩
     rw [hL0] at HV HNx hlen0
     have HPg : Hid (x.pack p = pk) := hpk
     have hpd := (HPk.out wr HO.out).1
     have HV1 : Hid (RuRow W0 wr u7 (L0 ++ depRs x p 0)) := by simpa [depRs, Hid] using HV.out
     have HO1 := HO
     clear hp hpx hmem h2 hrp hCp hnd hnc b4 b5 hpk hL0 HV
     go_wp2_with fail
     generalize wr = wb at *
     go_loopw [7, 45] (fun vo vi wr => Hid (Only (fun _ => False) W0 wr) ∧ ∃ k : Nat, vi = .int .i64 k ∧ k ≤ nd ∧ Hid (RuRow W0 wr vo (L0 ++ depRs x p k))) (fun _ v _ => nd - (RowKit.intOf v).toNat)
     case atStart => exact ⟨HO1, 0, rfl, Nat.zero_le _, HV1⟩
     case round =>
      clear HV1 HO HO1
      obtain ⟨HO, k, rfl, hk, HV⟩ := hrel
      by_cases ck : k < nd
      ·have hd2 := HD.out wr HO.out
       rw [← HNd.out] at hd2
       obtain ⟨b', off', he', -, -⟩ := hd2.at (by have := HNd.out; omega)
       subst he'
       obtain ⟨d, hdd⟩ : ∃ d, pk.deps[k]? = some d := ⟨_, List.getElem?_eq_getElem (by rw [HNd.out]; exact ck)⟩
       obtain ⟨cs7, -, hr7, hC7⟩ := hd2.get hdd
       obtain ⟨c1, c2, rfl, hS1, hS2, -⟩ := hC7
       obtain ⟨p1, p2, d1, d2, e1, -, -, -⟩ := hS1.cells
       obtain ⟨p3, p4, d3, d4, e2, -, -, -⟩ := hS2.cells
       rw [e1, e2] at hr7
       have HR7 := Lib.hid (show wr.rangeAt b' (off' + k * 7) [_, _, _, _, _, _, _] from hr7)
       have ewk : IntKind.i64.wrap ((k : Int) + 1) = (k : Int) + 1 := by rw [IntKind.wrap_i64]; omega
       have HSn : Hid (L0 ++ depRs x p (k + 1) = (L0 ++ depRs x p k) ++ [⟨2, p, k, d.line⟩]) := by rw [depRs_succ, HPg.out, List.getD_eq_getElem?_getD, hdd, ← List.append_assoc]; exact rfl
       have hlen : (L0 ++ depRs x p k).length ≤ 3100000 := by rw [List.length_append]; unfold depRs; simp; omega
       obtain ⟨L, hL⟩ : ∃ L, L0 ++ depRs x p k = L := ⟨_, rfl⟩
       rw [hL] at HV hlen HSn
       obtain ⟨au, cu, hu, -, -⟩ : ∃ au cu, u7 = .slice au L.length cu ∧ L.length ≤ cu ∧ cu ≤ maxLen := own_slice HV.out.1
       subst hu
       clear hd2 hdd hr7 hS1 hS2 hL e1 e2
       go_wp2_with (first | (refine wpList_load_mid rfl 53 (.tmp 48) rfl b' (off' + k * 7) rfl _ _ HR7.out Tryz.underlying53 rfl (by kernel_rfl) ?_) | (at_builtin; go_must (refine wpAR (cs := RuleD.cells ⟨2, p, k, d.line⟩) slRule rfl (.tmp 50) (.tmp 56) rfl rfl rfl rfl (rangeAt_new (cs := RuleD.cells ⟨2, p, k, d.line⟩) (by simp)) (RuleD.one _) (own_only HV.out.1 (((Only.refl (fun _ => False) _).alloc _).alloc _) (fun _ _ f => f)) (by omega) (by decide) ?_)))
       intro v' w2 s1 s2 s3
       have HV2 : Hid (RuRow W0 w2 v' (L0 ++ depRs x p (k + 1))) := by
        rw [HSn.out]
        exact RuRow.app HV.out (by have := HO.out.size; simp; omega) s1 s3
       have HO2 := Lib.hid (((HO.out.alloc _).alloc _).trans s2 fun k hk => .inr (HV.out.2 k hk))
       obtain ⟨g6, c6', rfl, -, -, -⟩ := s3
       clear s1 s2 HV
       go_wp2_with fail
       go_roundw
       case rel => exact ⟨HO2, k + 1, by first | rfl | go_num, by omega, HV2⟩
       case measure => simp [RowKit.intOf] <;> omega
      ·obtain rfl : nd = k := by omega
       clear hk ck
       have hpd2 := (HPk.out wr HO.out).2
       obtain ⟨k0', -⟩ := HBox.out wr HO.out
       have hlen1 : (L0 ++ depRs x p nd).length ≤ 3010000 := by rw [List.length_append]; unfold depRs; simp; omega
       obtain ⟨L1, hL1⟩ : ∃ L, L0 ++ depRs x p nd = L := ⟨_, rfl⟩
       rw [hL1] at HV HNx hlen1
       have HV1 : Hid (RuRow W0 wr u7 (L1 ++ conRs x p 0)) := by simpa [conRs, Hid] using HV.out
       have HO1 := HO
       clear hL1 HV
       go_wp2_with fail
       generalize wr = wc at *
       go_loopw [7, 66] (fun vo vi wr => Hid (Only (fun _ => False) W0 wr) ∧ ∃ k : Nat, vi = .int .i64 k ∧ k ≤ nc ∧ Hid (RuRow W0 wr vo (L1 ++ conRs x p k))) (fun _ v _ => nc - (RowKit.intOf v).toNat)
       case atStart => exact ⟨HO1, 0, rfl, Nat.zero_le _, HV1⟩
       case round =>
        clear HV1 HO HO1
        obtain ⟨HO, k, rfl, hk, HV⟩ := hrel
        by_cases ck : k < nc
        ·have hd2 := HCn.out wr HO.out
         rw [← HNc.out] at hd2
         obtain ⟨b', off', he', -, -⟩ := hd2.at (by have := HNc.out; omega)
         subst he'
         obtain ⟨d, hdd⟩ : ∃ d, pk.cons[k]? = some d := ⟨_, List.getElem?_eq_getElem (by rw [HNc.out]; exact ck)⟩
         obtain ⟨cs7, -, hr7, hC7⟩ := hd2.get hdd
         obtain ⟨c1, c2, rfl, hS1, hS2, -⟩ := hC7
         obtain ⟨p1, p2, d1, d2, e1, -, -, -⟩ := hS1.cells
         obtain ⟨p3, p4, d3, d4, e2, -, -, -⟩ := hS2.cells
         rw [e1, e2] at hr7
         have HR7 := Lib.hid (show wr.rangeAt b' (off' + k * 7) [_, _, _, _, _, _, _] from hr7)
         have ewk : IntKind.i64.wrap ((k : Int) + 1) = (k : Int) + 1 := by rw [IntKind.wrap_i64]; omega
         have HSn : Hid (L1 ++ conRs x p (k + 1) = (L1 ++ conRs x p k) ++ [⟨3, p, k, d.line⟩]) := by rw [conRs_succ, HPg.out, List.getD_eq_getElem?_getD, hdd, ← List.append_assoc]; exact rfl
         have hlen : (L1 ++ conRs x p k).length ≤ 3100000 := by rw [List.length_append]; unfold conRs; simp; omega
         obtain ⟨L, hL⟩ : ∃ L, L1 ++ conRs x p k = L := ⟨_, rfl⟩
         rw [hL] at HV hlen HSn
         obtain ⟨au, cu, hu, -, -⟩ : ∃ au cu, u7 = .slice au L.length cu ∧ L.length ≤ cu ∧ cu ≤ maxLen := own_slice HV.out.1
         subst hu
         clear hd2 hdd hr7 hS1 hS2 hL e1 e2
         go_wp2_with (first | (refine wpList_load_mid rfl 55 (.tmp 69) rfl b' (off' + k * 7) rfl _ _ HR7.out Tryz.underlying55 rfl (by kernel_rfl) ?_) | (at_builtin; go_must (refine wpAR (cs := RuleD.cells ⟨3, p, k, d.line⟩) slRule rfl (.tmp 71) (.tmp 77) rfl rfl rfl rfl (rangeAt_new (cs := RuleD.cells ⟨3, p, k, d.line⟩) (by simp)) (RuleD.one _) (own_only HV.out.1 (((Only.refl (fun _ => False) _).alloc _).alloc _) (fun _ _ f => f)) (by omega) (by decide) ?_)))
         intro v' w2 s1 s2 s3
         have HV2 : Hid (RuRow W0 w2 v' (L1 ++ conRs x p (k + 1))) := by
          rw [HSn.out]
          exact RuRow.app HV.out (by have := HO.out.size; simp; omega) s1 s3
         have HO2 := Lib.hid (((HO.out.alloc _).alloc _).trans s2 fun k hk => .inr (HV.out.2 k hk))
         obtain ⟨g6, c6', rfl, -, -, -⟩ := s3
         clear s1 s2 HV
         go_wp2_with fail
         go_roundw
         case rel => exact ⟨HO2, k + 1, by first | rfl | go_num, by omega, HV2⟩
         case measure => simp [RowKit.intOf] <;> omega
        ·obtain rfl : nc = k := by omega
         have HV2 : Hid (RuRow W0 wr u7 (rootRs q n3 ++ (l.take (i + 1)).flatMap (packRs x))) := by rw [HNx.out]; exact HV.out
         go_wp2_with fail
         go_roundw
         case rel => exact ⟨HO, i + 1, by first | rfl | go_num, by omega, HV2⟩
         case measure => simp [RowKit.intOf] <;> omega
    ·obtain rfl : nl = i := by omega
     obtain ⟨au, cu, hu, -, -⟩ : ∃ au cu, u7 = .slice au (rootRs q n3 ++ (l.take nl).flatMap (packRs x)).length cu ∧ _ ∧ _ := own_slice HV.out.1
     clear hu
     go_wp2_with fail
     go_ret
     refine ⟨_, rfl, ?_, HOB.out.same HO.out⟩
     have h1 := HV.out
     rw [List.take_of_length_le (Nat.le_of_eq NL.out)] at h1
     have e1 : rulesOf x q l = rootRs q n3 ++ l.flatMap (packRs x) := by unfold rulesOf; rw [N3.out]
     rw [e1]
     exact ⟨h1.1, fun k hk => by have := h1.2 k hk; have := HOB.out.size; omega⟩
end
theorem RowT.all {α : Type} {n : Nat} {C : Nat → World → List Value → α → Prop} {B : Nat} {w : World} {v : Value} {xs : List α} (h : RowT n C B w v xs) : ∀ x ∈ xs, ∃ cs, C B w cs x := by
 intro x hx
 obtain ⟨i, hi, rfl⟩ := List.getElem_of_mem hx
 obtain ⟨ao, cap, rfl, -, -⟩ := h.shape
 obtain ⟨b, off, -, -, -, hc⟩ := h.cells _ _ _ rfl (by omega)
 obtain ⟨cs, -, -, h3⟩ := hc i hi
 exact ⟨cs, h3⟩
section
variable {w w' : World} {B : Nat}
theorem RecC.lines {cs : List Value} {x : RecD} (h : RecC B w cs x) : ∀ p ∈ x.packs, (∀ d ∈ p.deps, InI64 d.line) ∧ ∀ d ∈ p.cons, InI64 d.line := by
 obtain ⟨v1, v2, -, h1, -⟩ := h
 intro p hp
 obtain ⟨cs, hC⟩ := h1.all p hp
 obtain ⟨_, _, _, _, _, _, -, -, -, -, -, -, h4, h5, -⟩ := hC
 refine ⟨fun d hd => ?_, fun d hd => ?_⟩
 ·obtain ⟨_, _, _, -, -, -, h⟩ := h4.all d hd; exact h
 ·obtain ⟨_, _, _, -, -, -, h⟩ := h5.all d hd; exact h
theorem ReqC.lines {cs : List Value} {q : ReqD} (h : ReqC B w cs q) : ∀ r ∈ q.roots, InI64 r.line := by
 obtain ⟨v1, -, h1⟩ := h
 intro r hr
 obtain ⟨_, _, -, -, h⟩ := h1.all r hr
 exact h
theorem getD_in {α : Type} [Inhabited α] {l : List α} {i : Nat} (h : i < l.length) : l.getD i default ∈ l := by
 rw [List.getD_eq_getElem?_getD, List.getElem?_eq_getElem h]; exact List.getElem_mem h
theorem RecD.pack_mem {x : RecD} {p : Nat} (h : p < x.packs.length) : x.pack p ∈ x.packs := getD_in h
theorem rules_range {cs cq : List Value} {x : RecD} {q : ReqD} {l : List Nat} (h : RecC B w cs x) (hq : ReqC B w cq q) (ok : RuOk x q l) : ∀ r ∈ rulesOf x q l, (0 ≤ r.kind ∧ r.kind ≤ 255) ∧ InI64 r.pack ∧ InI64 r.idx ∧ InI64 r.line := by
 have h1 := ok.roots
 have h2 := ok.packs
 have small : ∀ k : Nat, k ≤ 100000 → InI64 (k : Int) := fun k hk => ⟨by omega, by omega⟩
 intro r hr
 unfold rulesOf at hr
 rcases List.mem_append.1 hr with hr | hr
 ·obtain ⟨i, hi, rfl⟩ := List.mem_map.1 hr
  have hi2 := List.mem_range.1 hi
  exact ⟨⟨by simp, by simp⟩, ⟨by simp, by simp⟩, small i (by omega), hq.lines _ (getD_in hi2)⟩
 ·obtain ⟨p, hp, hr⟩ := List.mem_flatMap.1 hr
  have hpl := ok.lt p hp
  have hm := RecD.pack_mem hpl
  have h3 := ok.deps _ hm
  have h4 := ok.cons _ hm
  rcases List.mem_append.1 hr with hr | hr
  ·obtain ⟨i, hi, rfl⟩ := List.mem_map.1 hr
   have hi2 := List.mem_range.1 hi
   exact ⟨⟨by simp, by simp⟩, small p (by omega), small i (by omega), (h.lines _ hm).1 _ (getD_in hi2)⟩
  ·obtain ⟨i, hi, rfl⟩ := List.mem_map.1 hr
   have hi2 := List.mem_range.1 hi
   exact ⟨⟨by simp, by simp⟩, small p (by omega), small i (by omega), (h.lines _ hm).2 _ (getD_in hi2)⟩
def NewGr (w : World) (x : RecD) (q : ReqD) (lim : Nat) (e : Ending) (w' : World) : Prop :=
 ∃ c bt bb gt gb G Bs, e = .returned (.pointer (some ⟨c, 0, none⟩)) ∧ GrAt w' gt gb c bt bb G ⟨[], lim, 0, false⟩ ⟨[], false, false⟩ ∧ RecC Bs w' [G.x1, G.x2] x ∧ ReqC Bs w' [G.q] q ∧ Ints w' G.l (intsOf (x.closure q.names)) ∧
  RowT 4 RuleC Bs w' G.r (rulesOf x q (x.closure q.names)) ∧ (∀ k, Mine gt k ∨ Mine gb k → Bs ≤ k) ∧ (∀ k, Value.blk G.l = some k → k < Bs) ∧ w.heap.size ≤ Bs ∧ Bs ≤ c ∧ Bs ≤ w'.heap.size ∧ Only (fun _ => False) w w'
theorem NewGr.of {w w5 w6 w7 : World} {x : RecD} {q : ReqD} {lim bt bb : Nat} {x1 x2 vq vl vr : Value} {gt gb : Tag} {Vt : TabV} {Vb : BldV} (O5 : Only (fun _ => False) w w5) (hx : RecC w5.heap.size w5 [x1, x2] x) (hq : ReqC w5.heap.size w5 [vq] q)
  (hl : Ints w5 vl (intsOf (x.closure q.names))) (hlb : ∀ k, Value.blk vl = some k → k < w5.heap.size) (hr : RowT 4 RuleC w5.heap.size w5 vr (rulesOf x q (x.closure q.names)))
  (ht : TabAt w6 gt bt Vt ⟨[], lim, 0, false⟩) (ht5 : ∀ k, Mine gt k → w5.heap.size ≤ k) (O6 : Only (fun _ => False) w5 w6)
  (hb : BldAt w7 gb bb Vb ⟨[], false, false⟩) (hb6 : ∀ k, Mine gb k → w6.heap.size ≤ k) (O7 : Only (fun _ => False) w6 w7) :
  NewGr w x q lim (.returned (.pointer (some ⟨w7.heap.size, 0, none⟩))) (w7.alloc (.cells #[x1, x2, vq, vl, vr, .pointer (some ⟨bt, 0, none⟩), .pointer (some ⟨bb, 0, none⟩)] 91)) := by
 have o8 : Only (fun _ => False) w7 (w7.alloc (.cells #[x1, x2, vq, vl, vr, .pointer (some ⟨bt, 0, none⟩), .pointer (some ⟨bb, 0, none⟩)] 91)) := (Only.refl _ _).alloc _
 have o58 := (O6.same O7).same o8
 have h65 := O6.size
 have h76 := O7.size
 refine ⟨_, bt, bb, gt, gb, ⟨x1, x2, vq, vl, vr⟩, w5.heap.size, rfl, ⟨heap_alloc_new w7 _, ?_, ?_, ⟨_, (ht.only0 O7).only0 o8⟩, ⟨_, hb.only0 o8⟩, ?_⟩, RecC.keep hx (Kp.of0 o58), ReqC.keep hq (Kp.of0 o58), hl.only0 o58, hr.keep RuleC.keep (Kp.of0 o58), ?_, hlb, O5.size, by omega, o58.size, O5.same o58⟩
 ·rw [ht.fresh _ (by omega)]
 ·rw [hb.fresh _ (by omega)]
 ·intro k h1 h2
  have := hb6 k h2
  unfold Mine at h1
  exact h1 (ht.fresh k this)
 ·rintro k (h | h)
  ·exact ht5 k h
  ·have := hb6 k h; omega
theorem smallRuOk {x : RecD} {q : ReqD} (hs : SmallRec x) (hq : q.roots.length ≤ 40) : RuOk x q (x.closure q.names) :=
 ⟨by omega, by have := hs.packs; omega, fun p hp => by have := (hs.all p hp).deps; omega, fun p hp => by have := (hs.all p hp).cons; omega, by have := x.closure_len q.names; have := hs.packs; omega, fun p hp => (RecD.mem_closure.1 hp).lt⟩
set_option maxRecDepth 100000 in
set_option maxHeartbeats 2000000 in
theorem New_gr {cs cq : List Value} {x : RecD} {q : ReqD} (h : RecC B w cs x) (hq : ReqC B w cq q) (hBw : B ≤ w.heap.size) (hs : SmallRec x) (hql : q.roots.length ≤ 40) (n : Int) (hn : InI64 n) (lim : Nat) (hlim : min (max n 0) 65536 = (lim : Int)) :
  Calls Tryz.prog 9 #[.agg cs.toArray, .agg cq.toArray, .int .i64 n] w (NewGr w x q lim) := by
 have HH := Lib.hid h
 have HQ := Lib.hid hq
 have HSm := Lib.hid hs
 obtain ⟨v1, v2, rfl, h1, h2⟩ := h
 obtain ⟨ao, cap, rfl, -, -⟩ := h1.shape
 obtain ⟨ao2, cap2, rfl, -, -⟩ := h2.shape
 obtain ⟨v3, rfl, h3⟩ := hq
 obtain ⟨ao3, cap3, rfl, -, -⟩ := h3.shape
 obtain ⟨n1, hn1⟩ : ∃ n, x.packs.length = n := ⟨_, rfl⟩
 obtain ⟨n2, hn2⟩ : ∃ n, x.prefs.length = n := ⟨_, rfl⟩
 obtain ⟨n3, hn3⟩ : ∃ n, q.roots.length = n := ⟨_, rfl⟩
 rw [hn1, hn2] at HH
 rw [hn3] at HQ
 rw [hn1, hn2, hn3]
 have HL := Lib.hid hlim
 have HQl := Lib.hid hql
 have HN := Lib.hid hn
 obtain ⟨W0, hW0⟩ : ∃ W0, W0 = (w.alloc (.cells #[.slice ao n1 cap, .slice ao2 n2 cap2] 25)).alloc (.cells #[.slice ao3 n3 cap3] 28) := ⟨_, rfl⟩
 have HOB : Hid (Only (fun _ => False) w W0) := by rw [hW0]; exact ((Only.refl _ _).alloc _).alloc _
 have HBox : Hid (∀ W, Only (fun _ => False) W0 W → W.cell? ⟨w.heap.size, 0, none⟩ = some (.slice ao n1 cap) ∧ W.cell? ⟨w.heap.size, 1, none⟩ = some (.slice ao2 n2 cap2) ∧ W.cell? ⟨w.heap.size + 1, 0, none⟩ = some (.slice ao3 n3 cap3)) := fun W ho => by
  have b0 : W0.heap[w.heap.size]? = some (.cells #[.slice ao n1 cap, .slice ao2 n2 cap2] 25) := by rw [hW0]; exact alloc_block (heap_alloc_new w _) _
  have b1 : W0.heap[w.heap.size + 1]? = some (.cells #[.slice ao3 n3 cap3] 28) := by rw [hW0]; exact alloc_at (by simp)
  have c0 := only_block b0 ho (fun f => f)
  have c1 := only_block b1 ho (fun f => f)
  exact ⟨by rw [cell_block c0]; rfl, by rw [cell_block c0]; rfl, by rw [cell_block c1]; rfl⟩
 have HKR : Hid (∀ W, Only (fun _ => False) W0 W → RecC B W [.slice ao n1 cap, .slice ao2 n2 cap2] x) := fun W hW => RecC.keep HH.out (Kp.of0 (HOB.out.same hW) : Kp B w W)
 have HKQ : Hid (∀ W, Only (fun _ => False) W0 W → ReqC B W [.slice ao3 n3 cap3] q) := fun W hW => ReqC.keep HQ.out (Kp.of0 (HOB.out.same hW) : Kp B w W)
 have HBw := Lib.hid hBw
 obtain ⟨k0, k1, k2⟩ := HBox.out W0 (Only.refl _ _)
 clear h1 h2 h3 hn1 hn2 hn3 hs hlim hql hn hBw
 go_enter Tryz.func9, Tryz.ntmps9
 go_wp2_with fail
 rw [← hW0]
 clear hW0
 refine (Closure_any (HKR.out W0 (Only.refl _ _)) (HKQ.out W0 (Only.refl _ _)) HSm.out (by have := HQl.out; omega)).mono ?_
 rintro e w3 ⟨vl, rfl, hrow, -, O3⟩
 have hI : Ints w3 vl (intsOf (x.closure q.names)) := ints_of_nats hrow fun i hi => by have := (RecD.mem_closure.1 hi).lt; have := HSm.out.packs; omega
 have HLb : Hid (∀ k, Value.blk vl = some k → k < w3.heap.size) := fun k hk => own_lt hrow (by
  obtain ⟨a2, c2, rfl, -, -⟩ := own_slice hrow
  cases a2 with
  | none => cases hk
  | some ad => exact hk)
 clear hrow
 have HI := Lib.hid hI
 have HO3 := Lib.hid O3
 obtain ⟨al, cl, rfl, -, -⟩ := hI.shape
 obtain ⟨nl, hnl⟩ : ∃ n, (intsOf (x.closure q.names)).length = n := ⟨_, rfl⟩
 rw [hnl] at HI HLb ⊢
 clear hI O3 hnl k0 k1 k2
 have HK : Hid (∀ W, Only (fun _ => False) w3 W → W.cell? ⟨w.heap.size, 0, none⟩ = some (.slice ao n1 cap) ∧ W.cell? ⟨w.heap.size, 1, none⟩ = some (.slice ao2 n2 cap2) ∧ W.cell? ⟨w.heap.size + 1, 0, none⟩ = some (.slice ao3 n3 cap3)) := fun W hW => HBox.out W (HO3.out.same hW)
 have HRu : Hid (∀ W, Only (fun _ => False) w3 W → Calls Tryz.prog 34 #[.agg #[.slice ao n1 cap, .slice ao2 n2 cap2], .agg #[.slice ao3 n3 cap3], .slice al nl cl] W fun e w' => ∃ v, e = .returned v ∧ RuRow W w' v (rulesOf x q (x.closure q.names)) ∧ Only (fun _ => False) W w') := fun W hW =>
  rules_any (HKR.out W (HO3.out.same hW)) (HKQ.out W (HO3.out.same hW)) (HI.out.only0 hW) (smallRuOk HSm.out HQl.out)
 have HAt : Hid (∀ W, Calls Tryz.prog 35 #[.int .i64 n] W (NewTab W lim)) := fun W => atomsNew_any W n HN.out lim HL.out
 have HCf : Hid (∀ W, Calls Tryz.prog 36 #[] W (NewBld W)) := fun W => cnfNew_any W
 have HFin : Hid (∀ w5 w6 w7 v bt bb gt gb Vt Vb, Only (fun _ => False) w3 w5 → RuRow w3 w5 v (rulesOf x q (x.closure q.names)) → TabAt w6 gt bt Vt ⟨[], lim, 0, false⟩ → (∀ k, Mine gt k → w5.heap.size ≤ k) → Only (fun _ => False) w5 w6 → BldAt w7 gb bb Vb ⟨[], false, false⟩ → (∀ k, Mine gb k → w6.heap.size ≤ k) → Only (fun _ => False) w6 w7 →
   NewGr w x q lim (.returned (.pointer (some ⟨w7.heap.size, 0, none⟩))) (w7.alloc (.cells #[.slice ao n1 cap, .slice ao2 n2 cap2, .slice ao3 n3 cap3, .slice al nl cl, v, .pointer (some ⟨bt, 0, none⟩), .pointer (some ⟨bb, 0, none⟩)] 91))) := by
  intro w5 w6 w7 v bt bb gt gb Vt Vb o5 hru ht ht5 o6 hb hb6 o7
  have O5 := (HOB.out.same HO3.out).same o5
  have hBs : B ≤ w5.heap.size := Nat.le_trans HBw.out O5.size
  have ok := smallRuOk HSm.out HQl.out
  have hI5 := HI.out.only0 o5
  refine NewGr.of O5 (RecC.lift (HKR.out w5 (HO3.out.same o5)) hBs (Nat.le_refl _)) (ReqC.lift (HKQ.out w5 (HO3.out.same o5)) hBs (Nat.le_refl _)) hI5 (fun k hk => ?_) (hru.read (rules_range (HKR.out w5 (HO3.out.same o5)) (HKQ.out w5 (HO3.out.same o5)) ok)) ht ht5 o6 hb hb6 o7
  have h1 := HLb.out k hk
  have h2 := o5.size
  omega
 have hS0 := HK.out w3.drew ((Only.refl _ _).drew)
 clear HBox HKR HKQ HI HH HQ
 go_wp2_with fail
 refine wp_region_G (n := 13) (E := fun _ => false) (S := fun W => W.cell? ⟨w.heap.size, 0, none⟩ = some (.slice ao n1 cap) ∧ W.cell? ⟨w.heap.size, 1, none⟩ = some (.slice ao2 n2 cap2) ∧ W.cell? ⟨w.heap.size + 1, 0, none⟩ = some (.slice ao3 n3 cap3)) (by kernel_rfl) rfl hS0 (fun hHeld => ?_)
 refine tqK (i := 0) (v := ?_) rfl ?_ ?_
 rotate_left
 ·(intro w hSw; (try dsimp only at hSw); go_simp <;> (try with_reducible rfl))
 try simp only [Act.put, zq1, zq3, zq4, zq5, zq6]
 refine tqK (i := 1) (v := ?_) rfl ?_ ?_
 rotate_left
 ·(intro w hSw; (try dsimp only at hSw); go_simp <;> (try with_reducible rfl))
 try simp only [Act.put, zq1, zq2, zq3, zq4, zq5, zq6]
 refine tqW (i := 2) (v := ?_) rfl (.inr (by assumption)) ?_ ?_
 rotate_left
 ·(intro w; go_simp <;> (try with_reducible rfl))
 try simp only [Act.put, zq1, zq2, zq3, zq4, zq5, zq6]
 refine tqK (i := 3) (v := ?_) rfl ?_ ?_
 rotate_left
 ·(intro w hSw; (try dsimp only at hSw); go_simp <;> (try with_reducible rfl))
 try simp only [Act.put, zq1, zq2, zq3, zq4, zq5, zq6]
 refine tqK (i := 4) (v := ?_) rfl ?_ ?_
 rotate_left
 ·(intro w hSw; (try dsimp only at hSw); go_simp <;> (try with_reducible rfl))
 try simp only [Act.put, zq1, zq2, zq3, zq4, zq5, zq6]
 refine tqW (i := 5) (v := ?_) rfl (.inr (by assumption)) ?_ ?_
 rotate_left
 ·(intro w; go_simp <;> (try with_reducible rfl))
 try simp only [Act.put, zq1, zq2, zq3, zq4, zq5, zq6]
 refine tqW (i := 7) (v := ?_) rfl (.inr (by assumption)) ?_ ?_
 rotate_left
 ·(intro w; go_simp <;> (try with_reducible rfl))
 try simp only [Act.put, zq1, zq2, zq3, zq4, zq5, zq6]
 refine wpAnyG_ready (rs := [6]) (by kernel_rfl) (by simp) ?_
 refine AllReadyG.cons (i := 6) rfl (fun K hK => ?_) ?_
 ·(go_simp; refine (HRu.out _ (by exact (by repeat (first | exact Only.refl _ _ | apply Only.drew | apply Only.alloc | apply Only.drewN)))).mono ?_; rintro e w5 ⟨v5, rfl, hru, o5⟩; have oA : Only (fun _ => False) w3 w5 := Only.same (by repeat (first | exact Only.refl _ _ | apply Only.drew | apply Only.alloc | apply Only.drewN)) o5; have hru' : RuRow w3 w5 v5 (rulesOf x q (x.closure q.names)) := ⟨hru.1, fun k hk => by have h1 := hru.2 k hk; simpa using h1⟩; obtain ⟨a5, c5, rfl, -, -⟩ := own_slice hru.1; try go_wp2_with fail)
  refine hK.out _ _ ?_ (fun hHeld => ?_)
  ·(try dsimp only) <;> (exact HK.out _ oA)
  clear hK K
  try simp only [Act.put, zq1, zq2, zq3, zq4, zq5, zq6]
  refine wpAnyG_ready (rs := [8]) (by kernel_rfl) (by simp) ?_
  refine AllReadyG.cons (i := 8) rfl (fun K hK => ?_) ?_
  ·(go_simp; refine (HAt.out _).mono ?_; rintro e w6 ⟨bt, gt, Vt, rfl, htab, htn, o6⟩; have oB := oA.same o6; try go_wp2_with fail)
   refine hK.out _ _ ?_ (fun hHeld => ?_)
   ·(try dsimp only) <;> (exact HK.out _ oB)
   clear hK K
   try simp only [Act.put, zq1, zq2, zq3, zq4, zq5, zq6]
   refine wpAnyG_ready (rs := [9]) (by kernel_rfl) (by simp) ?_
   refine AllReadyG.cons (i := 9) rfl (fun K hK => ?_) ?_
   ·(go_simp; refine (HCf.out _).mono ?_; rintro e w7 ⟨bb, gb, Vb, rfl, hbld, hbn, o7⟩; have oC := oB.same o7; try go_wp2_with fail)
    refine hK.out _ _ ?_ (fun hHeld => ?_)
    ·(try dsimp only) <;> (exact HK.out _ oC)
    clear hK K
    try simp only [Act.put, zq1, zq2, zq3, zq4, zq5, zq6]
    refine tqW (i := 10) (v := ?_) rfl (.inr (by assumption)) ?_ ?_
    rotate_left
    ·(intro w; go_simp <;> (try with_reducible rfl))
    try simp only [Act.put, zq1, zq2, zq3, zq4, zq5, zq6]
    refine wpAnyG_ready (rs := [11]) (by kernel_rfl) (by simp) ?_
    refine AllReadyG.cons (i := 11) rfl (fun K hK => ?_) ?_
    ·go_simp
     refine hK.out _ _ ?_ (fun hHeld => ?_)
     ·(try dsimp only) <;> (exact HK.out _ (by exact oC.alloc _))
     clear hK K
     try simp only [Act.put, zq1, zq2, zq3, zq4, zq5, zq6]
     refine tqW (i := 12) (v := ?_) rfl (.inr (by assumption)) ?_ ?_
     rotate_left
     ·(intro w; go_simp <;> (try with_reducible rfl))
     try simp only [Act.put, zq1, zq2, zq3, zq4, zq5, zq6]
     refine wpAnyG_done (by kernel_rfl) ?_ _
     have HRes := Lib.hid (HFin.out w5 w6 w7 _ bt bb gt gb Vt Vb oA hru' htab htn o6 hbld hbn o7)
     go_wp2_with fail
     go_ret
     exact HRes.out
    exact AllReadyG.nil
   exact AllReadyG.nil
  exact AllReadyG.nil
 exact AllReadyG.nil
end
end Go.Proofs.YtbapkcnfacklaaaGreat
