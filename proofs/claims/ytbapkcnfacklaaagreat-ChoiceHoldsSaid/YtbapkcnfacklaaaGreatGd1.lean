/- A graph of choices: plain, and in memory (for reading); what raw numbers choose. -/
import Derived.Test.YtbapkcnfacklaaaGreatRowB
import Derived.Test.YtbapkcnfacklaaaGreatRfE
import Derived.Test.YtbapkcnfacklaaaGreatChB
set_option linter.unusedVariables false
namespace Go.Proofs.YtbapkcnfacklaaaGreat
open Go.RowKit
structure CD where
 rel : Int
 vals : List Int
structure GD where
 x : RecD
 q : ReqD
 c : List CD
 off : List Bool
instance : Inhabited CD := ⟨⟨-1, []⟩⟩
def IntC (_ : Nat) (_ : World) (cs : List Value) (x : Int) : Prop := cs = [.int .i64 x] ∧ InI64 x
def BoolC (_ : Nat) (_ : World) (cs : List Value) (x : Bool) : Prop := cs = [.bool x]
def CC (B : Nat) (w : World) (cs : List Value) (x : CD) : Prop := ∃ v1, cs = [.int .i64 x.rel, v1] ∧ InI64 x.rel ∧ RowT 1 IntC B w v1 x.vals
def GC (B : Nat) (w : World) (cs : List Value) (g : GD) : Prop := ∃ v1 v2 v3 v4 v5, cs = [v1, v2, v3, v4, v5] ∧ RowT 8 PackC B w v1 g.x.packs ∧ RowT 3 PrefC B w v2 g.x.prefs ∧ RowT 4 RootC B w v3 g.q.roots ∧ RowT 2 CC B w v4 g.c ∧ RowT 1 BoolC B w v5 g.off
theorem IntC.keep : Keeps IntC := fun _ _ _ _ _ h _ => h
theorem BoolC.keep : Keeps BoolC := fun _ _ _ _ _ h _ => h
theorem CC.keep : Keeps CC := fun _ _ _ _ _ ⟨v1, h, a, b⟩ k => ⟨v1, h, a, b.keep IntC.keep k⟩
theorem GC.keep : Keeps GC := fun _ _ _ _ _ ⟨v1, v2, v3, v4, v5, h, a, b, c, d, e⟩ k => ⟨v1, v2, v3, v4, v5, h, a.keep PackC.keep k, b.keep PrefC.keep k, c.keep RootC.keep k, d.keep CC.keep k, e.keep BoolC.keep k⟩
theorem GC.rec_ {B : Nat} {w : World} {v1 v2 v3 v4 v5 : Value} {g : GD} (h : GC B w [v1, v2, v3, v4, v5] g) : RecC B w [v1, v2] g.x := by
 obtain ⟨u1, u2, u3, u4, u5, e, a, b, c, d, f⟩ := h
 simp only [List.cons.injEq, and_true] at e
 obtain ⟨rfl, rfl, rfl, rfl, rfl⟩ := e
 exact ⟨_, _, rfl, a, b⟩
theorem GC.req_ {B : Nat} {w : World} {v1 v2 v3 v4 v5 : Value} {g : GD} (h : GC B w [v1, v2, v3, v4, v5] g) : ReqC B w [v3] g.q := by
 obtain ⟨u1, u2, u3, u4, u5, e, a, b, c, d, f⟩ := h
 simp only [List.cons.injEq, and_true] at e
 obtain ⟨rfl, rfl, rfl, rfl, rfl⟩ := e
 exact ⟨_, rfl, c⟩
section
variable {w w' : World} {B : Nat}
theorem IntC_at {ao : Option Addr} {len cap i : Nat} {xs : List Int} {y : Int} (h : RowT 1 IntC B w (.slice ao len cap) xs) (hx : xs[i]? = some y) :
  ∃ (b off : Nat), ao = some ⟨b, off, none⟩ ∧ InI64 y ∧ ∀ W, Only (fun _ => False) w W → W.cell? ⟨b, off + i, none⟩ = some (.int .i64 y) := by
 obtain ⟨b, off, cs, rfl, hb, hB, -, hr, hC⟩ := h.placed hx
 obtain ⟨rfl, in1⟩ := hC
 refine ⟨b, off, rfl, in1, fun W ho => ?_⟩
 have := rangeAt_keep hr hb hB (Kp.of0 ho) 0 _ rfl
 rw [Nat.add_zero, Nat.mul_one] at this
 exact this
theorem BoolC_at {ao : Option Addr} {len cap i : Nat} {xs : List Bool} {y : Bool} (h : RowT 1 BoolC B w (.slice ao len cap) xs) (hx : xs[i]? = some y) :
  ∃ (b off : Nat), ao = some ⟨b, off, none⟩ ∧ ∀ W, Only (fun _ => False) w W → W.cell? ⟨b, off + i, none⟩ = some (.bool y) := by
 obtain ⟨b, off, cs, rfl, hb, hB, -, hr, hC⟩ := h.placed hx
 obtain rfl := hC
 refine ⟨b, off, rfl, fun W ho => ?_⟩
 have := rangeAt_keep hr hb hB (Kp.of0 ho) 0 _ rfl
 rw [Nat.add_zero, Nat.mul_one] at this
 exact this
theorem CC_at {ao : Option Addr} {len cap i : Nat} {xs : List CD} {y : CD} (h : RowT 2 CC B w (.slice ao len cap) xs) (hx : xs[i]? = some y) :
  ∃ (b off : Nat) (a1 : Option Addr) (n1 c1 : Nat), ao = some ⟨b, off, none⟩ ∧ y.vals.length = n1 ∧ InI64 y.rel ∧
  ∀ W, Only (fun _ => False) w W → W.rangeAt b (off + i * 2) [.int .i64 y.rel, .slice a1 n1 c1] ∧ RowT 1 IntC B W (.slice a1 n1 c1) y.vals ∧ CC B W [.int .i64 y.rel, .slice a1 n1 c1] y := by
 obtain ⟨b, off, cs, rfl, hb, hB, -, hr, hC⟩ := h.placed hx
 have hC0 := hC
 obtain ⟨v1, rfl, in1, r1⟩ := hC
 obtain ⟨a1, c1, rfl, -, -⟩ := r1.shape
 exact ⟨b, off, a1, _, c1, rfl, rfl, in1, fun W ho => ⟨rangeAt_keep hr hb hB (Kp.of0 ho), r1.keep IntC.keep (Kp.of0 ho), CC.keep hC0 (Kp.of0 ho)⟩⟩
end
def U8C (_ : Nat) (_ : World) (cs : List Value) (x : Nat) : Prop := cs = [.int .u8 (x : Int)] ∧ x < 256
theorem U8C.keep : Keeps U8C := fun _ _ _ _ _ h _ => h
theorem U8C_at {w : World} {B : Nat} {ao : Option Addr} {len cap i : Nat} {xs : List Nat} {y : Nat} (h : RowT 1 U8C B w (.slice ao len cap) xs) (hx : xs[i]? = some y) :
  ∃ (b off : Nat), ao = some ⟨b, off, none⟩ ∧ y < 256 ∧ ∀ W, Only (fun _ => False) w W → W.cell? ⟨b, off + i, none⟩ = some (.int .u8 (y : Int)) := by
 obtain ⟨b, off, cs, rfl, hb, hB, -, hr, hC⟩ := h.placed hx
 obtain ⟨rfl, hy⟩ := hC
 refine ⟨b, off, rfl, hy, fun W ho => ?_⟩
 have := rangeAt_keep hr hb hB (Kp.of0 ho) 0 _ rfl
 rw [Nat.add_zero, Nat.mul_one] at this
 exact this
def pickN (by_ : List Nat) (at_ below : Nat) : Nat := if at_ < by_.length ∧ 0 < below then by_.getD at_ 0 % below else 0
def valsTo (by_ : List Nat) (n : Nat) (vs : List VarD) (k : Nat) : List Int := (List.range k).map fun j => (pickN by_ (n + j) (vs.getD j default).values.length : Int)
theorem valsTo_succ (by_ : List Nat) (n : Nat) (vs : List VarD) (k : Nat) : valsTo by_ n vs (k + 1) = valsTo by_ n vs k ++ [(pickN by_ (n + k) (vs.getD k default).values.length : Int)] := by
 unfold valsTo; rw [List.range_succ, List.map_append]; rfl
theorem valsTo_len (by_ : List Nat) (n : Nat) (vs : List VarD) (k : Nat) : (valsTo by_ n vs k).length = k := by unfold valsTo; simp
def ofOne (by_ : List Nat) (n : Nat) (pk : PackD) (inn : Bool) : CD × Nat :=
 if inn then (⟨(pickN by_ n (pk.rels.length + 1) : Int) - 1, valsTo by_ (n + 1) pk.vars pk.vars.length⟩, n + 1 + pk.vars.length) else (⟨-1, []⟩, n)
def ofTo (x : RecD) (l : List Nat) (by_ : List Nat) : Nat → List CD × Nat
 | 0 => ([], 0)
 | i + 1 => ((ofTo x l by_ i).1 ++ [(ofOne by_ (ofTo x l by_ i).2 (x.pack i) (decide (i ∈ l))).1], (ofOne by_ (ofTo x l by_ i).2 (x.pack i) (decide (i ∈ l))).2)
theorem ofTo_len (x : RecD) (l : List Nat) (by_ : List Nat) (i : Nat) : (ofTo x l by_ i).1.length = i := by
 induction i with
 | zero => rfl
 | succ i ih => rw [ofTo]; simp [ih]
def gOf (x : RecD) (q : ReqD) (l : List Nat) (by_ : List Nat) : GD := ⟨x, q, (ofTo x l by_ x.packs.length).1, []⟩
theorem pickN_lt {by_ : List Nat} {at_ below : Nat} (h : 0 < below) : pickN by_ at_ below < below := by
 unfold pickN
 split
 ·exact Nat.mod_lt _ h
 ·exact h
structure CdOk (c : CD) (pk : PackD) : Prop where
 lo : -1 ≤ c.rel
 hi : c.rel < pk.rels.length
 len : 0 ≤ c.rel → c.vals.length = pk.vars.length
 vals : 0 ≤ c.rel → ∀ k, k < pk.vars.length → 0 ≤ c.vals.getD k 0 ∧ c.vals.getD k 0 < (pk.vars.getD k default).values.length
structure GOk (g : GD) : Prop where
 len : g.c.length = g.x.packs.length
 ok : ∀ p, p < g.x.packs.length → CdOk (g.c.getD p default) (g.x.pack p)
theorem ofOne_ok {by_ : List Nat} {n : Nat} {pk : PackD} (hv : ∀ v ∈ pk.vars, 0 < v.values.length) (inn : Bool) : CdOk (ofOne by_ n pk inn).1 pk := by
 unfold ofOne
 cases inn with
 | false => exact ⟨by show (-1 : Int) ≤ -1; omega, by show (-1 : Int) < _; omega, fun h => by have : (0 : Int) ≤ -1 := h; omega, fun h => by have : (0 : Int) ≤ -1 := h; omega⟩
 | true =>
  have h1 := pickN_lt (by_ := by_) (at_ := n) (show 0 < pk.rels.length + 1 by omega)
  refine ⟨by show (-1 : Int) ≤ (pickN by_ n (pk.rels.length + 1) : Int) - 1; omega, by show (pickN by_ n (pk.rels.length + 1) : Int) - 1 < _; omega, fun _ => valsTo_len _ _ _ _, fun _ k hk => ?_⟩
  show 0 ≤ (valsTo by_ (n + 1) pk.vars pk.vars.length).getD k 0 ∧ (valsTo by_ (n + 1) pk.vars pk.vars.length).getD k 0 < _
  have e : (valsTo by_ (n + 1) pk.vars pk.vars.length).getD k 0 = (pickN by_ (n + 1 + k) (pk.vars.getD k default).values.length : Int) := by
   unfold valsTo
   rw [List.getD_eq_getElem?_getD, List.getElem?_map, List.getElem?_range hk]
   rfl
  rw [e]
  have hm : pk.vars.getD k default ∈ pk.vars := by
   rw [List.getD_eq_getElem?_getD, List.getElem?_eq_getElem hk]; exact List.getElem_mem hk
  have := pickN_lt (by_ := by_) (at_ := n + 1 + k) (hv _ hm)
  omega
theorem ofTo_get (x : RecD) (l : List Nat) (by_ : List Nat) : ∀ (i p : Nat), p < i → ∃ n, (ofTo x l by_ i).1.getD p default = (ofOne by_ n (x.pack p) (decide (p ∈ l))).1
 | 0, p, h => by omega
 | i + 1, p, h => by
  rw [ofTo]
  rcases Nat.lt_or_ge p i with hlt | hge
  ·obtain ⟨n, hn⟩ := ofTo_get x l by_ i p hlt
   refine ⟨n, ?_⟩
   show ((ofTo x l by_ i).1 ++ _).getD p default = _
   rw [List.getD_eq_getElem?_getD, List.getElem?_append_left (by rw [ofTo_len]; exact hlt), ← List.getD_eq_getElem?_getD]
   exact hn
  ·obtain rfl : p = i := by omega
   refine ⟨(ofTo x l by_ p).2, ?_⟩
   show ((ofTo x l by_ p).1 ++ _).getD p default = _
   rw [List.getD_eq_getElem?_getD, List.getElem?_append_right (by rw [ofTo_len]; omega), ofTo_len]
   simp
theorem gOf_ok {x : RecD} {q : ReqD} {l : List Nat} {by_ : List Nat} (hv : ∀ p ∈ x.packs, ∀ v ∈ p.vars, 0 < v.values.length) : GOk (gOf x q l by_) := by
 refine ⟨ofTo_len _ _ _ _, fun p hp => ?_⟩
 have hp' : p < x.packs.length := hp
 obtain ⟨n, hn⟩ := ofTo_get x l by_ x.packs.length p hp'
 show CdOk ((ofTo x l by_ x.packs.length).1.getD p default) (x.pack p)
 rw [hn]
 refine ofOne_ok (fun v hv' => hv (x.pack p) ?_ v hv') _
 unfold RecD.pack
 rw [List.getD_eq_getElem?_getD, List.getElem?_eq_getElem hp']
 exact List.getElem_mem hp'
def thereB (c : List CD) (p : Int) : Bool := decide (0 ≤ p) && decide (p < c.length) && decide (0 ≤ (c.getD p.toNat default).rel)
def soC (c : List CD) (a : Int × Int × Int × Int) : Bool :=
 if a.1 = 1 then thereB c a.2.1
 else if a.1 = 2 then thereB c a.2.1 && decide ((c.getD a.2.1.toNat default).rel = a.2.2.1)
 else if a.1 = 3 then thereB c a.2.1 && decide (a.2.2.1 < (c.getD a.2.1.toNat default).vals.length) && decide ((c.getD a.2.1.toNat default).vals.getD a.2.2.1.toNat 0 = a.2.2.2)
 else false
end Go.Proofs.YtbapkcnfacklaaaGreat
