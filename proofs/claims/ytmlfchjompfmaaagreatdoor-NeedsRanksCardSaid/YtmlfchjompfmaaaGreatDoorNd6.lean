/- ref10.Has; the chapter's example; NeedsMore. -/
import Derived.Test.YtmlfchjompfmaaaGreatDoorNd5
import Derived.Test.YtmlfchjompfmaaaGreatDoorAllocB
set_option linter.unusedVariables false
namespace Go.Proofs.YtmlfchjompfmaaaGreatDoor
open Go.RowKit Go.Shelf
section
variable {w w' : World} {B : Nat}
theorem ints_of_nats {v : Value} {l : List Nat} (h : w.ownsRow 0 3 1 v l.length (natsV l)) (hl : ∀ i ∈ l, i ≤ 1000000) : Ints w v (intsOf l) := by
 have e1 : (intsOf l).map (Value.int .i64) = natsV l := by simp [intsOf, natsV]
 refine Ints.of_own ?_ fun z hz => ?_
 ·rw [e1]; simpa [intsOf] using h
 ·obtain ⟨i, hi, rfl⟩ := List.mem_map.1 hz
  have := hl i hi
  exact ⟨by omega, by omega⟩
theorem Closure_ints {cs cq : List Value} {x : RecD} {q : ReqD} (h : RecC B w cs x) (hq : ReqC B w cq q) (hs : SmallRec x) (hl : q.roots.length ≤ 1000) :
  Calls Tryz.prog 16 #[.agg cs.toArray, .agg cq.toArray] w fun e w' => ∃ v, e = .returned v ∧ Ints w' v (intsOf (x.closure q.names)) ∧ Only (fun _ => False) w w' := by
 refine (Closure_any h hq hs hl).mono ?_
 rintro e w' ⟨v, rfl, r1, r2, r3⟩
 exact ⟨v, rfl, ints_of_nats r1 fun i hi => by have := (RecD.mem_closure.1 hi).lt; have := hs.packs; omega, r3⟩
theorem rangeAt_block {b o : Nat} {arr : Array Value} {t : TypeId} {f : Nat × Nat} {cs : List Value} (h : w.heap[b]? = some (.cells arr t f)) (hs : (arr.toList.drop o).take cs.length = cs) : w.rangeAt b o cs := by
 intro j u hu
 rw [cell_block h]
 have hj := (List.getElem?_eq_some_iff.1 hu).1
 rw [← hs, List.getElem?_take, if_pos hj, List.getElem?_drop] at hu
 rw [← hu, Array.getElem?_toList]
theorem RowT.lit {α : Type} {n : Nat} {C : Nat → World → List Value → α → Prop} {b cap : Nat} {arr : Array Value} {t : TypeId} {f : Nat × Nat} {xs : List α} {m : Nat} (h : w.heap[b]? = some (.cells arr t f)) (hb : b < B) (hB : B ≤ w.heap.size) (hm : xs.length = m) (hc : m ≤ cap) (hc2 : cap ≤ 1000)
  (hx : ∀ i (hi : i < xs.length), ∃ cs, cs.length = n ∧ (arr.toList.drop (i * n)).take cs.length = cs ∧ C B w cs xs[i]) : RowT n C B w (.slice (some ⟨b, 0, none⟩) m cap) xs := by
 subst hm
 refine ⟨⟨_, cap, rfl, hc, by omega⟩, fun ao len cap' hv hp => ?_, fun len cap' hv => by simp at hv⟩
 simp only [Value.slice.injEq] at hv
 obtain ⟨rfl, -, -⟩ := hv
 refine ⟨b, 0, rfl, hb, hB, fun i hi => ?_⟩
 obtain ⟨cs, h1, h2, h3⟩ := hx i hi
 refine ⟨cs, h1, ?_, h3⟩
 rw [Nat.zero_add]
 exact rangeAt_block h h2
theorem z64 : InI64 0 := by constructor <;> decide
def bs (l : List UInt8) : Str := ⟨l.toArray⟩
def ex10 : RecD := ⟨[⟨bs [99], 0, [], [], [], [], [], []⟩, ⟨bs [98], 0, [], [], [], [], [], []⟩, ⟨bs [97], 0, [], [], [], [⟨⟨bs [98], [], []⟩, ⟨bs [], [], [⟨bs [120], bs [111, 110]⟩]⟩, 0⟩], [], []⟩], []⟩
theorem ex10_ta : ex10.targets (bs [97]) = [2] := by decide
theorem ex10_tb : ex10.targets (bs [98]) = [1] := by decide
theorem ex10_closure : ex10.closure [bs [97]] = [1, 2] := by
 have h2 : ex10.Reach [bs [97]] 2 := .root (s := bs [97]) (by simp) (by rw [ex10_ta]; simp)
 have h1 : ex10.Reach [bs [97]] 1 := .step (k := 2) (d := ⟨⟨bs [98], [], []⟩, ⟨bs [], [], [⟨bs [120], bs [111, 110]⟩]⟩, 0⟩) h2 (by simp [RecD.pack, ex10]) (by rw [ex10_tb]; simp)
 have hall : ∀ i, ex10.Reach [bs [97]] i → i = 1 ∨ i = 2 := by
  intro i hi
  induction hi with
  | root hs ht =>
   rw [List.mem_singleton.1 hs, ex10_ta] at ht
   simp at ht; exact .inr ht
  | step hk hd ht ih =>
   rcases ih with rfl | rfl
   ·simp [RecD.pack, ex10] at hd
   ·simp [RecD.pack, ex10] at hd
    subst hd
    simp only at ht
    rw [ex10_tb] at ht
    simp at ht; exact .inl ht
 have h0 : ¬ ex10.Reach [bs [97]] 0 := fun h => by
  rcases hall 0 h with h | h <;> omega
 unfold RecD.closure
 rw [show List.range ex10.packs.length = [0, 1, 2] from rfl]
 simp [h0, h1, h2]
theorem ok10 (l : List UInt8) (h : l.length ≤ 1000) : okS (bs l) := by
 show (bs l).size ≤ maxLen
 unfold maxLen
 have : (bs l).size = l.length := by simp [bs, ByteArray.size]
 omega
set_option maxRecDepth 100000 in
theorem fixed10_any (w : World) : Calls Tryz.prog 6 #[] w fun e w' => e = .returned (.bool true) ∧ Only (fun _ => False) w w' := by
 go_enter Tryz.func6, Tryz.ntmps6
 go_wp2_with fail
 generalize hW : World.alloc _ _ = W
 have hsz : W.heap.size = w.heap.size + 5 := by rw [← hW]; simp
 have b0 : W.heap[w.heap.size]? = some (.cells #[.string (bs [120]), .string (bs [111, 110])] 50) := by rw [← hW]; exact alloc_block (alloc_block (alloc_block (alloc_block (alloc_at rfl) _) _) _) _
 have b1 : W.heap[w.heap.size + 1]? = some (.cells #[.string (bs [98]), nilS, nilS, .string (bs []), nilS, .slice (some ⟨w.heap.size, 0, none⟩) 1 1, .int .i64 0] 52) := by rw [← hW]; exact alloc_block (alloc_block (alloc_block (alloc_at (by simp)) _) _) _
 have b2 : W.heap[w.heap.size + 2]? = some (.cells #[.string (bs [99]), .int .i64 0, nilS, nilS, nilS, nilS, nilS, nilS, .string (bs [98]), .int .i64 0, nilS, nilS, nilS, nilS, nilS, nilS, .string (bs [97]), .int .i64 0, nilS, nilS, nilS, .slice (some ⟨w.heap.size + 1, 0, none⟩) 1 1, nilS, nilS] 36) := by rw [← hW]; exact alloc_block (alloc_block (alloc_at (by simp)) _) _
 have b4 : W.heap[w.heap.size + 4]? = some (.cells #[.string (bs [97]), nilS, nilS, .int .i64 0] 55) := by rw [← hW]; exact alloc_at (by simp)
 have hO : Only (fun _ => False) w W := by rw [← hW]; exact (((((Only.refl _ _).alloc _).alloc _).alloc _).alloc _).alloc _
 have hrec : RecC W.heap.size W [.slice (some ⟨w.heap.size + 2, 0, none⟩) 3 3, nilS] ex10 := by
  have hset : RowT 2 SetC W.heap.size W (.slice (some ⟨w.heap.size, 0, none⟩) 1 1) [⟨bs [120], bs [111, 110]⟩] :=
   RowT.lit b0 (by omega) (Nat.le_refl _) rfl (by decide) (by decide) fun i hi => by
    match i, hi with
    | 0, _ => exact ⟨[.string (bs [120]), .string (bs [111, 110])], rfl, rfl, rfl, ok10 _ (by decide), ok10 _ (by decide)⟩
  have hdep : RowT 7 DepC W.heap.size W (.slice (some ⟨w.heap.size + 1, 0, none⟩) 1 1) [⟨⟨bs [98], [], []⟩, ⟨bs [], [], [⟨bs [120], bs [111, 110]⟩]⟩, 0⟩] :=
   RowT.lit b1 (by omega) (Nat.le_refl _) rfl (by decide) (by decide) fun i hi => by
    match i, hi with
    | 0, _ => exact ⟨[.string (bs [98]), nilS, nilS, .string (bs []), nilS, .slice (some ⟨w.heap.size, 0, none⟩) 1 1, .int .i64 0], rfl, rfl, [.string (bs [98]), nilS, nilS], [.string (bs []), nilS, .slice (some ⟨w.heap.size, 0, none⟩) 1 1], rfl,
      ⟨_, _, rfl, ok10 _ (by decide), RowT.nilRow, RowT.nilRow⟩, ⟨_, _, rfl, ok10 _ (by decide), RowT.nilRow, hset⟩, z64⟩
  refine ⟨_, _, rfl, RowT.lit b2 (by omega) (Nat.le_refl _) rfl (by decide) (by decide) fun i hi => ?_, RowT.nilRow⟩
  have hz : InI64 0 := by constructor <;> decide
  match i, hi with
  | 0, _ => exact ⟨[.string (bs [99]), .int .i64 0, nilS, nilS, nilS, nilS, nilS, nilS], rfl, rfl, _, _, _, _, _, _, rfl, ok10 _ (by decide), hz, RowT.nilRow, RowT.nilRow, RowT.nilRow, RowT.nilRow, RowT.nilRow, RowT.nilRow⟩
  | 1, _ => exact ⟨[.string (bs [98]), .int .i64 0, nilS, nilS, nilS, nilS, nilS, nilS], rfl, rfl, _, _, _, _, _, _, rfl, ok10 _ (by decide), hz, RowT.nilRow, RowT.nilRow, RowT.nilRow, RowT.nilRow, RowT.nilRow, RowT.nilRow⟩
  | 2, _ => exact ⟨[.string (bs [97]), .int .i64 0, nilS, nilS, nilS, .slice (some ⟨w.heap.size + 1, 0, none⟩) 1 1, nilS, nilS], rfl, rfl, _, _, _, _, _, _, rfl, ok10 _ (by decide), hz, RowT.nilRow, RowT.nilRow, RowT.nilRow, hdep, RowT.nilRow, RowT.nilRow⟩
 have hreq : ReqC W.heap.size W [.slice (some ⟨w.heap.size + 4, 0, none⟩) 1 1] ⟨[⟨⟨bs [97], [], []⟩, 0⟩]⟩ :=
  ⟨_, rfl, RowT.lit b4 (by omega) (Nat.le_refl _) rfl (by decide) (by decide) fun i hi => by
   match i, hi with
   | 0, _ => exact ⟨[.string (bs [97]), nilS, nilS, .int .i64 0], rfl, rfl, [.string (bs [97]), nilS, nilS], rfl, ⟨_, _, rfl, ok10 _ (by decide), RowT.nilRow, RowT.nilRow⟩, z64⟩⟩
 clear hW b0 b1 b2 b4
 refine (Closure_ints hrec hreq ⟨by decide, by decide, fun p hp => by
  simp only [ex10, List.mem_cons, List.not_mem_nil, or_false] at hp
  rcases hp with rfl | rfl | rfl <;> exact ⟨by decide, by decide, by decide, by decide, by decide⟩⟩ (by decide)).mono ?_
 rintro e w1 ⟨v, rfl, hI, O1⟩
 rw [show ReqD.names ⟨[⟨⟨bs [97], [], []⟩, 0⟩]⟩ = [bs [97]] from rfl, ex10_closure] at hI
 have HO1 := Lib.hid (hO.same O1)
 obtain ⟨ao, cap, rfl, hc1, hc2⟩ := hI.shape
 obtain ⟨b, off, rfl, -, hcell⟩ := hI.cells _ _ _ rfl (by decide)
 have c0 : w1.cell? ⟨b, off, none⟩ = some (.int .i64 1) := hcell 0 (by decide)
 have c1 : w1.cell? ⟨b, off + 1, none⟩ = some (.int .i64 2) := hcell 1 (by decide)
 rw [show (intsOf [1, 2]).length = 2 from rfl] at *
 clear hI hcell hO O1 hrec hreq
 go_wp2_with fail
 go_ret
 exact ⟨rfl, HO1.out⟩
end
end Go.Proofs.YtmlfchjompfmaaaGreatDoor
