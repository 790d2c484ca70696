/- HeapFn HeapW HeapW2 HeapW3 HeapW4 HeapW5 HeapW6 HeapOrd, in one text. -/
import Derived.Test.YtjedgdamommgeaaGreatRows
import Derived.Test.YtjedgdamommgeaaGreatBase
set_option linter.unusedVariables false
namespace Go.Proofs.YtjedgdamommgeaaGreat.Hq
structure Hp where
 L : List Nat
 A : List Int
 S : List Nat
namespace Hp
def at1 (h : Hp) (i : Nat) : Nat := h.L.getD i 0
def sc (h : Hp) (a : Nat) : Nat := h.S.getD a 0
def ahead (S : List Nat) (a b : Nat) : Bool := decide (S.getD b 0 < S.getD a 0) || (S.getD a 0 == S.getD b 0 && decide (a < b))
def bef (h : Hp) (i k : Nat) : Bool := ahead h.S (h.at1 i) (h.at1 k)
def swp (h : Hp) (i k : Nat) : Hp :=
 { L := (h.L.set i (h.at1 k)).set k (h.at1 i), A := (h.A.set (h.at1 i) (k : Int)).set (h.at1 k) (i : Int), S := h.S }
def up : Nat → Hp → Nat → Hp
 | 0, h, _ => h
 | f + 1, h, i => if decide (0 < i) && h.bef i ((i - 1) / 2) then up f (h.swp i ((i - 1) / 2)) ((i - 1) / 2) else h
def kid (h : Hp) (i : Nat) : Nat := if decide (2 * i + 1 + 1 < h.L.length) && h.bef (2 * i + 1 + 1) (2 * i + 1) then 2 * i + 1 + 1 else 2 * i + 1
def down : Nat → Hp → Nat → Hp
 | 0, h, _ => h
 | f + 1, h, i =>
  if h.L.length ≤ 2 * i + 1 then h
  else if h.bef (h.kid i) i then down f (h.swp i (h.kid i)) (h.kid i) else h
def dn (h : Hp) (i : Nat) : Hp := down h.L.length h i
def upI (h : Hp) (i : Nat) : Hp := up i h i
def ordersTo : Nat → Hp → Hp
 | 0, h => h
 | n + 1, h => ordersTo n (h.dn n)
def orders (h : Hp) : Hp := ordersTo (h.L.length / 2) h
def halve (h : Hp) : Hp := orders { h with S := h.S.map (· / 2) }
def most : Nat := 4611686018427387904
def room : Nat → Hp → Nat → Nat → Hp × Nat
 | 0, h, _, by_ => (h, by_)
 | f + 1, h, a, by_ => if decide (most < by_) || decide (most < h.sc a + by_) then room f h.halve a (by_ / 2) else (h, by_)
def bump (h : Hp) (a by_ : Nat) : Hp :=
 let r := room by_ h a by_
 let h1 : Hp := { r.1 with S := r.1.S.set a (r.1.sc a + r.2) }
 if h1.A.getD a 0 < 0 then h1 else upI h1 (h1.A.getD a 0).toNat
def push (h : Hp) (a : Nat) : Hp :=
 upI { h with A := h.A.set a (h.L.length : Int), L := h.L ++ [a] } h.L.length
def pop (h : Hp) : Hp :=
 let a := h.at1 0
 let h1 := h.swp 0 (h.L.length - 1)
 let h2 : Hp := { h1 with L := h1.L.take (h.L.length - 1), A := h1.A.set a (-1) }
 h2.dn 0
def new (n : Nat) : Hp := { L := List.range n, A := (List.range n).map (fun (i : Nat) => (i : Int)), S := List.replicate n 0 }
structure Ok (h : Hp) : Prop where
 len : h.A.length = h.S.length
 le : h.L.length ≤ h.S.length
 n : h.S.length ≤ 65536
 mem : ∀ a ∈ h.L, a < h.S.length
 most : ∀ s ∈ h.S, s ≤ Hp.most
 pos1 : ∀ j, j < h.L.length → h.A.getD (h.at1 j) 0 = j
 pos2 : ∀ a, a < h.S.length → (∀ j, j < h.L.length → h.at1 j ≠ a) → h.A.getD a 0 = -1
theorem Ok.lt {h : Hp} (o : h.Ok) {i : Nat} (hi : i < h.L.length) : h.at1 i < h.S.length := by
 unfold at1
 rw [List.getD_eq_getElem?_getD, List.getElem?_eq_getElem hi]
 exact o.mem _ (List.getElem_mem hi)
@[simp] theorem swp_S (h : Hp) (i k : Nat) : (h.swp i k).S = h.S := rfl
@[simp] theorem swp_len (h : Hp) (i k : Nat) : (h.swp i k).L.length = h.L.length := by simp [swp]
@[simp] theorem swp_alen (h : Hp) (i k : Nat) : (h.swp i k).A.length = h.A.length := by simp [swp]
theorem mem_set' {l : List Nat} {i x a : Nat} (h : a ∈ l.set i x) : a ∈ l ∨ a = x := List.mem_or_eq_of_mem_set h
theorem at1_mem {h : Hp} {i : Nat} (hi : i < h.L.length) : h.at1 i ∈ h.L := by
 unfold at1
 rw [List.getD_eq_getElem?_getD, List.getElem?_eq_getElem hi]
 exact List.getElem_mem hi
theorem getD_set {α : Type} (l : List α) (i j : Nat) (x d : α) (hi : i < l.length) : (l.set i x).getD j d = if i = j then x else l.getD j d := by
 simp only [List.getD_eq_getElem?_getD, List.getElem?_set]
 split
 ·rename_i e; subst e; simp []
 ·rfl
theorem at1_swp (h : Hp) {i k : Nat} (hi : i < h.L.length) (hk : k < h.L.length) (j : Nat) : (h.swp i k).at1 j = if k = j then h.at1 i else if i = j then h.at1 k else h.at1 j := by
 unfold swp
 show ((h.L.set i (h.at1 k)).set k (h.at1 i)).getD j 0 = _
 rw [getD_set _ _ _ _ _ (by simpa using hk), getD_set _ _ _ _ _ hi]
 rfl
theorem Ok.inj {h : Hp} (o : h.Ok) {i k : Nat} (hi : i < h.L.length) (hk : k < h.L.length) (e : h.at1 i = h.at1 k) : i = k := by
 have h1 := o.pos1 i hi
 have h2 := o.pos1 k hk
 rw [e, h2] at h1
 omega
theorem Ok.A_swp {h : Hp} (o : h.Ok) {i k : Nat} (hi : i < h.L.length) (hk : k < h.L.length) (a : Nat) :
  (h.swp i k).A.getD a 0 = if h.at1 k = a then (i : Int) else if h.at1 i = a then (k : Int) else h.A.getD a 0 := by
 have h1 := o.lt hi
 have h2 := o.lt hk
 have hl := o.len
 unfold Hp.swp
 show ((h.A.set (h.at1 i) (k : Int)).set (h.at1 k) (i : Int)).getD a 0 = _
 rw [getD_set _ _ _ _ _ (by simp; omega), getD_set _ _ _ _ _ (by omega)]
theorem Ok.swp {h : Hp} (o : h.Ok) {i k : Nat} (hi : i < h.L.length) (hk : k < h.L.length) : (h.swp i k).Ok where
 pos1 := by
  intro j hj
  rw [swp_len] at hj
  rw [o.A_swp hi hk, at1_swp h hi hk]
  by_cases e1 : k = j
  ·subst e1
   simp only [if_true]
   by_cases e2 : h.at1 k = h.at1 i
   ·rw [if_pos e2]; have := o.inj hk hi e2; omega
   ·rw [if_neg e2]
  ·rw [if_neg e1]
   by_cases e2 : i = j
   ·subst e2; simp
   ·rw [if_neg e2, if_neg (fun e => e1 (o.inj hk hj e)), if_neg (fun e => e2 (o.inj hi hj e))]
    exact o.pos1 j hj
 pos2 := by
  intro a ha hne
  rw [swp_len] at hne
  have hk' := hne k hk
  have hi' := hne i hi
  rw [at1_swp h hi hk] at hk' hi'
  simp only [if_true] at hk' hi'
  have hy : h.at1 k ≠ a := by
   by_cases e : k = i
   ·subst e; simpa using hk'
   ·simpa [e] using hi'
  rw [o.A_swp hi hk, if_neg hy, if_neg hk']
  refine o.pos2 a ha fun j hj => ?_
  have := hne j hj
  rw [at1_swp h hi hk] at this
  by_cases e1 : k = j
  ·subst e1; exact hy
  ·by_cases e2 : i = j
   ·subst e2; exact hk'
   ·simpa [e1, e2] using this
 len := by simp [o.len]
 le := by simpa using o.le
 n := o.n
 mem := by
  intro a ha
  rcases mem_set' ha with ha | rfl
  ·rcases mem_set' ha with ha | rfl
   ·exact o.mem a ha
   ·exact o.lt hk
  ·exact o.lt hi
 most := o.most
theorem up_fuel : ∀ (f g : Nat) (h : Hp) (i : Nat), i ≤ f → i ≤ g → up f h i = up g h i
 | 0, 0, _, _, _, _ => rfl
 | 0, g + 1, h, i, hf, _ => by
  have : i = 0 := by omega
  subst this; simp [up]
 | f + 1, 0, h, i, _, hg => by
  have : i = 0 := by omega
  subst this; simp [up]
 | f + 1, g + 1, h, i, hf, hg => by
  simp only [up]
  split
  ·rename_i hc
   have : 0 < i := by simp at hc; exact hc.1
   exact up_fuel f g _ _ (by omega) (by omega)
  ·rfl
theorem upI_eq (h : Hp) (i : Nat) : upI h i = if decide (0 < i) && h.bef i ((i - 1) / 2) then upI (h.swp i ((i - 1) / 2)) ((i - 1) / 2) else h := by
 unfold upI
 cases i with
 | zero => simp [up]
 | succ i =>
  rw [up]
  split
  ·exact up_fuel _ _ _ _ (by omega) (by omega)
  ·rfl
theorem kid_lt {h : Hp} {i : Nat} (hi : ¬ h.L.length ≤ 2 * i + 1) : h.kid i < h.L.length ∧ i < h.kid i := by
 unfold kid
 split
 ·rename_i hc; simp at hc; omega
 ·omega
theorem down_fuel : ∀ (f g : Nat) (h : Hp) (i : Nat), h.L.length ≤ f + i → h.L.length ≤ g + i → down f h i = down g h i
 | 0, 0, _, _, _, _ => rfl
 | 0, g + 1, h, i, hf, _ => by rw [down, down, if_pos (by omega)]
 | f + 1, 0, h, i, _, hg => by rw [down, down, if_pos (by omega)]
 | f + 1, g + 1, h, i, hf, hg => by
  simp only [down]
  split
  ·rfl
  ·rename_i hc
   have := kid_lt hc
   split
   ·exact down_fuel f g _ _ (by simp; omega) (by simp; omega)
   ·rfl
theorem dn_eq (h : Hp) (i : Nat) : dn h i = if h.L.length ≤ 2 * i + 1 then h else if h.bef (h.kid i) i then dn (h.swp i (h.kid i)) (h.kid i) else h := by
 unfold dn
 by_cases hn : h.L.length = 0
 ·simp [hn, down]
 ·obtain ⟨f, hf⟩ : ∃ f, h.L.length = f + 1 := ⟨h.L.length - 1, by omega⟩
  conv => lhs; rw [hf, down]
  split
  ·rfl
  ·rename_i hc
   have := kid_lt hc
   split
   ·exact down_fuel _ _ _ _ (by simp; omega) (by simp)
   ·rfl
theorem dn_S (h : Hp) (i : Nat) : (h.dn i).S = h.S := by
 unfold dn
 generalize h.L.length = f
 induction f generalizing h i with
 | zero => rfl
 | succ f ih =>
  simp only [down]
  split
  ·rfl
  ·split
   ·rw [ih]; rfl
   ·rfl
theorem down_L (f : Nat) (h : Hp) (i : Nat) : (down f h i).L.length = h.L.length := by
 induction f generalizing h i with
 | zero => rfl
 | succ f ih =>
  simp only [down]
  split
  ·rfl
  ·split
   ·rw [ih]; simp
   ·rfl
theorem dn_L (h : Hp) (i : Nat) : (h.dn i).L.length = h.L.length := down_L _ h i
theorem ordersTo_S : ∀ (n : Nat) (h : Hp), (ordersTo n h).S = h.S
 | 0, _ => rfl
 | n + 1, h => by rw [ordersTo, ordersTo_S n, dn_S]
theorem halve_S (h : Hp) : h.halve.S = h.S.map (· / 2) := by unfold halve orders; rw [ordersTo_S]
theorem sc_halve (h : Hp) (a : Nat) : h.halve.sc a = h.sc a / 2 := by
 unfold sc
 rw [halve_S]
 simp [List.getD_eq_getElem?_getD, List.getElem?_map]
 cases h.S[a]? <;> simp
theorem Ok.sc_le {h : Hp} (o : h.Ok) (a : Nat) : h.sc a ≤ Hp.most := by
 unfold sc
 rw [List.getD_eq_getElem?_getD]
 cases ha : h.S[a]? with
 | none => simp
 | some s => exact o.most s (List.mem_of_getElem? ha)
theorem Ok.half {h : Hp} (o : h.Ok) : ({ h with S := h.S.map (· / 2) } : Hp).Ok where
 pos1 := o.pos1
 pos2 := by intro a ha; exact o.pos2 a (by simpa using ha)
 len := by simp [o.len]
 le := by simpa using o.le
 n := by simpa using o.n
 mem := by simpa using o.mem
 most := by
  intro s hs
  simp only [List.mem_map] at hs
  obtain ⟨t, ht, rfl⟩ := hs
  have := o.most t ht
  omega
theorem room_fuel : ∀ (f g : Nat) (h : Hp) (a y : Nat), (h.sc a ≤ Hp.most) → y ≤ f → y ≤ g → room f h a y = room g h a y
 | 0, 0, _, _, _, _, _, _ => rfl
 | 0, g + 1, h, a, y, hm, hf, _ => by
  have : y = 0 := by omega
  subst this
  rw [room, room, if_neg (by simp; omega)]
 | f + 1, 0, h, a, y, hm, _, hg => by
  have : y = 0 := by omega
  subst this
  rw [room, room, if_neg (by simp; omega)]
 | f + 1, g + 1, h, a, y, hm, hf, hg => by
  simp only [room]
  split
  ·rename_i hc
   have : 0 < y := by
    rcases Nat.eq_zero_or_pos y with rfl | h0
    ·simp at hc; omega
    ·exact h0
   exact room_fuel f g _ _ _ (by rw [sc_halve]; omega) (by omega) (by omega)
  ·rfl
theorem Ok.place {h : Hp} (o : h.Ok) {a : Nat} (ha : a < h.S.length) (hz : 0 ≤ h.A.getD a 0) : (h.A.getD a 0).toNat < h.L.length ∧ h.at1 (h.A.getD a 0).toNat = a := by
 by_cases c : ∀ j, j < h.L.length → h.at1 j ≠ a
 ·have := o.pos2 a ha c; omega
 ·have ⟨j, hj⟩ := Classical.not_forall.1 c
  have ⟨hj1, hj2⟩ := Classical.not_imp.1 hj
  have hj2 := Classical.not_not.1 hj2
  subst hj2
  rw [o.pos1 j hj1]
  exact ⟨by simpa using hj1, by simp⟩
theorem Ok.nodup {h : Hp} (o : h.Ok) : h.L.Nodup := by
 rw [List.nodup_iff_pairwise_ne, List.pairwise_iff_getElem]
 intro i j hi hj hij e
 have := o.inj hi hj (by unfold at1; simp [List.getD_eq_getElem?_getD, hi, hj, e])
 omega
theorem Ok.setS {h : Hp} (o : h.Ok) (a v : Nat) (hv : v ≤ Hp.most) : ({ h with S := h.S.set a v } : Hp).Ok where
 len := by simp [o.len]
 le := by simpa using o.le
 n := by simpa using o.n
 mem := by simpa using o.mem
 most := by
  intro s hs
  rcases mem_set' hs with hs | rfl
  ·exact o.most s hs
  ·exact hv
 pos1 := o.pos1
 pos2 := by intro b hb; exact o.pos2 b (by simpa using hb)
theorem Ok.free {h : Hp} (o : h.Ok) {a : Nat} (_ha : a < h.S.length) (hz : h.A.getD a 0 < 0) : a ∉ h.L := by
 intro hm
 obtain ⟨j, hj, e⟩ := List.getElem_of_mem hm
 have := o.pos1 j hj
 have e2 : h.at1 j = a := by unfold at1; simp [List.getD_eq_getElem?_getD, hj, e]
 rw [e2] at this
 omega
theorem Ok.more {h : Hp} (o : h.Ok) {a : Nat} (ha : a < h.S.length) (hz : h.A.getD a 0 < 0) : ({ h with A := h.A.set a (h.L.length : Int), L := h.L ++ [a] } : Hp).Ok := by
 have hf := o.free ha hz
 have hlen := o.len
 have hat : ∀ j, ({ h with A := h.A.set a (h.L.length : Int), L := h.L ++ [a] } : Hp).at1 j = if j < h.L.length then h.at1 j else if j = h.L.length then a else 0 := by
  intro j
  unfold at1
  simp only [List.getD_eq_getElem?_getD, List.getElem?_append]
  split
  ·rfl
  ·split
   ·rename_i h1; subst h1; simp
   ·rename_i h1 h2
    have : 1 ≤ j - h.L.length := by omega
    rw [List.getElem?_eq_none (by simpa using this)]; rfl
 refine ⟨by simp [o.len], ?_, o.n, ?_, o.most, ?_, ?_⟩
 ·have h1 : (h.L ++ [a]).Nodup := by
   rw [List.nodup_append]
   exact ⟨o.nodup, by simp, by intro x hx y hy; simp at hy; subst hy; exact fun e => hf (e ▸ hx)⟩
  have h2 := h1.length_le_of_subset (l₂ := List.range h.S.length) (by
   intro x hx
   simp at hx
   rcases hx with hx | rfl
   ·simpa using o.mem x hx
   ·simpa using ha)
  simpa using h2
 ·intro x hx
  simp at hx
  rcases hx with hx | rfl
  ·exact o.mem x hx
  ·exact ha
 ·intro j hj
  simp only [List.length_append, List.length_cons, List.length_nil] at hj
  rw [hat]
  show (h.A.set a (h.L.length : Int)).getD _ 0 = _
  rw [getD_set _ _ _ _ _ (by omega)]
  by_cases c : j < h.L.length
  ·rw [if_pos c, if_neg (fun e => hf (by rw [e]; exact at1_mem c))]
   exact o.pos1 j c
  ·have : j = h.L.length := by omega
   subst this
   simp
 ·intro x hx hne
  simp only [List.length_append, List.length_cons, List.length_nil] at hne
  have h1 := hne h.L.length (by omega)
  rw [hat] at h1
  simp at h1
  show (h.A.set a (h.L.length : Int)).getD _ 0 = _
  rw [getD_set _ _ _ _ _ (by omega), if_neg h1]
  refine o.pos2 x hx fun j hj => ?_
  have := hne j (by omega)
  rw [hat, if_pos hj] at this
  exact this
theorem Ok.less {h : Hp} (o : h.Ok) (hl : 0 < h.L.length) : ({ h with L := h.L.take (h.L.length - 1), A := h.A.set (h.at1 (h.L.length - 1)) (-1) } : Hp).Ok := by
 have hlen := o.len
 have hlt := o.lt (i := h.L.length - 1) (by omega)
 have hat : ∀ j, j < h.L.length - 1 → ({ h with L := h.L.take (h.L.length - 1), A := h.A.set (h.at1 (h.L.length - 1)) (-1) } : Hp).at1 j = h.at1 j := by
  intro j hj
  unfold at1
  simp only [List.getD_eq_getElem?_getD, List.getElem?_take, hj, if_true]
 refine ⟨by simp [o.len], ?_, o.n, ?_, o.most, ?_, ?_⟩
 ·have := o.le; simp; omega
 ·intro x hx; exact o.mem x (List.mem_of_mem_take hx)
 ·intro j hj
  simp only [List.length_take] at hj
  rw [hat j (by omega)]
  show (h.A.set _ (-1)).getD _ 0 = _
  rw [getD_set _ _ _ _ _ (by omega), if_neg (fun e => by have := o.inj (by omega) (by omega) e; omega)]
  exact o.pos1 j (by omega)
 ·intro x hx hne
  simp only [List.length_take] at hne
  show (h.A.set _ (-1)).getD _ 0 = _
  rw [getD_set _ _ _ _ _ (by omega)]
  split
  ·rfl
  ·rename_i h1
   refine o.pos2 x hx fun j hj => ?_
   by_cases c : j < h.L.length - 1
   ·have := hne j (by omega)
    rw [hat j c] at this
    exact this
   ·have : j = h.L.length - 1 := by omega
    subst this
    exact h1
theorem new_ok (n : Nat) (hn : n ≤ 65536) : (new n).Ok := by
 have hat : ∀ j, j < n → (new n).at1 j = j := by
  intro j hj
  simp [new, at1, List.getD_eq_getElem?_getD, hj]
 have hA : ∀ a, a < n → (new n).A.getD a 0 = (a : Int) := by
  intro a ha
  simp [new, List.getD_eq_getElem?_getD, ha]
 refine ⟨by simp [new], by simp [new], by simpa [new] using hn, ?_, ?_, ?_, ?_⟩
 ·intro a ha; simpa [new] using ha
 ·intro s hs; simp [new] at hs; omega
 ·intro j hj
  have hj : j < n := by simpa [new] using hj
  rw [hat j hj, hA j hj]
 ·intro a ha hne
  have ha : a < n := by simpa [new] using ha
  exact (hne a (by simpa [new] using ha) (hat a ha)).elim
def roomI (h : Hp) (a y : Nat) : Hp × Nat := room y h a y
theorem roomI_eq (h : Hp) (a y : Nat) (hm : h.sc a ≤ Hp.most) : roomI h a y = if decide (most < y) || decide (most < h.sc a + y) then roomI h.halve a (y / 2) else (h, y) := by
 unfold roomI
 cases y with
 | zero => rw [room, if_neg (by simp; omega)]
 | succ y =>
  rw [room]
  split
  ·exact room_fuel _ _ _ _ _ (by rw [sc_halve]; omega) (by omega) (by omega)
  ·rfl
end Hp
end Go.Proofs.YtjedgdamommgeaaGreat.Hq
namespace Go.Proofs.YtjedgdamommgeaaGreat.Hq
open Go.RowKit
def cL (a : Nat) : Value := .int .i64 ((a : Int) + 1)
def cA (z : Int) : Value := .int .i64 z
def cS (s : Nat) : Value := .int .u64 (s : Int)
structure HApart (b : Nat) (vl va vs : Value) : Prop where
 l : vl.ownBlock ≠ some b
 a : va.ownBlock ≠ some b
 s : vs.ownBlock ≠ some b
 la : ∀ k, vl.ownBlock = some k → va.ownBlock ≠ some k
 ls : ∀ k, vl.ownBlock = some k → vs.ownBlock ≠ some k
 as_ : ∀ k, va.ownBlock = some k → vs.ownBlock ≠ some k
def HFoot (b : Nat) (vl va vs : Value) (k : Nat) : Prop := k = b ∨ vl.ownBlock = some k ∨ va.ownBlock = some k ∨ vs.ownBlock = some k
structure HeapAt (w : World) (b : Nat) (vl va vs : Value) (h : Hp) : Prop where
 blk : w.heap[b]? = some (.cells #[vl, va, vs] 103 (0, 0))
 l : w.ownsRow 0 3 1 vl h.L.length (h.L.map cL)
 a : w.ownsRow 0 3 1 va h.A.length (h.A.map cA)
 s : w.ownsRow 0 63 1 vs h.S.length (h.S.map cS)
 apart : HApart b vl va vs
theorem HeapAt.drewN {w : World} {b : Nat} {vl va vs : Value} {h : Hp} (H : HeapAt w b vl va vs h) (n : Nat) : HeapAt (w.drewN n) b vl va vs h := ⟨H.blk, H.l, H.a, H.s, H.apart⟩
theorem HeapAt.c0 {w : World} {b : Nat} {vl va vs : Value} {h : Hp} (H : HeapAt w b vl va vs h) : w.cell? ⟨b, 0, none⟩ = some vl := by rw [cell_block H.blk]; rfl
theorem HeapAt.c1 {w : World} {b : Nat} {vl va vs : Value} {h : Hp} (H : HeapAt w b vl va vs h) : w.cell? ⟨b, 1, none⟩ = some va := by rw [cell_block H.blk]; rfl
theorem HeapAt.c2 {w : World} {b : Nat} {vl va vs : Value} {h : Hp} (H : HeapAt w b vl va vs h) : w.cell? ⟨b, 2, none⟩ = some vs := by rw [cell_block H.blk]; rfl
theorem row_cell {w : World} {e : TypeId} {g n cap : Nat} {α : Type} {f : α → Value} {xs : List α} (h : w.ownsRow 0 e 1 (.slice (some ⟨g, 0, none⟩) n cap) n (xs.map f)) (d : α) {i : Nat} (hi : i < xs.length) :
  w.cell? ⟨g, i, none⟩ = some (f (xs.getD i d)) := by
 have hn : xs.length = n := by simpa using h.1
 rw [h.cellAt i (by omega)]
 simp [List.getD, List.getElem?_eq_getElem hi]
set_option maxHeartbeats 400000 in
theorem before_core (b gl cl gs cs nl ns : Nat) (i k x y : Nat) (sx sy : Nat) (w : World)
 (h0 : w.cell? ⟨b, 0, none⟩ = some (.slice (some ⟨gl, 0, none⟩) nl cl))
 (h2 : w.cell? ⟨b, 2, none⟩ = some (.slice (some ⟨gs, 0, none⟩) ns cs))
 (hi2 : i < nl) (hk2 : k < nl)
 (hx : w.cell? ⟨gl, i, none⟩ = some (.int .i64 (x+1)))
 (hy : w.cell? ⟨gl, k, none⟩ = some (.int .i64 (y+1)))
 (hx2 : x < ns) (hy2 : y < ns) (hns : ns ≤ 9223372036854775807)
 (hsx : w.cell? ⟨gs, x, none⟩ = some (.int .u64 sx))
 (hsy : w.cell? ⟨gs, y, none⟩ = some (.int .u64 sy)) :
 Calls Tryz.prog 141 #[.pointer (some ⟨b, 0, none⟩), .int .i64 i, .int .i64 k] w fun e w' =>
  e = .returned (.bool (decide (sy < sx) || (sx == sy && decide (x < y)))) ∧ ∃ n, w' = w.drewN n := by
 have e1 : IntKind.i64.wrap (x : Int) = x := IntWalk.i64_in _ (by omega)
 have e2 : IntKind.i64.wrap (y : Int) = y := IntWalk.i64_in _ (by omega)
 go_enter Tryz.func141, Tryz.ntmps141
 go_wp2
 go_quiet (fail)
 go_wp2
 go_quiet (fail)
 clear e1 e2
 by_cases c1 : sy < sx
 ·go_wp2
  go_ret
  exact ⟨by simp [c1], _, rfl⟩
 ·by_cases c2 : sx = sy
  ·subst c2
   go_wp2
   go_ret
   exact ⟨by simp, _, rfl⟩
  ·have c3 : ((sx : Int) == (sy : Int)) = false := by simp; omega
   go_wp2
   go_ret
   exact ⟨by simp [c1, c2], _, rfl⟩
theorem before_any {w : World} {b : Nat} {vl va vs : Value} {h : Hp} (H : HeapAt w b vl va vs h) (o : h.Ok) (i k : Nat) (hi : i < h.L.length) (hk : k < h.L.length) :
  Calls Tryz.prog 141 #[.pointer (some ⟨b, 0, none⟩), .int .i64 i, .int .i64 k] w fun e w' =>
   e = .returned (.bool (h.bef i k)) ∧ ∃ n, w' = w.drewN n := by
 obtain ⟨gl, cl, rfl, _, _⟩ := own_some H.l (by omega)
 have hs : 0 < h.S.length := by have := o.lt hi; omega
 obtain ⟨gs, cs, rfl, _, _⟩ := own_some H.s hs
 have hn := o.n
 exact before_core b gl cl gs cs _ _ i k (h.at1 i) (h.at1 k) (h.sc (h.at1 i)) (h.sc (h.at1 k)) w H.c0 H.c2 hi hk (row_cell H.l 0 hi) (row_cell H.l 0 hk)
  (o.lt hi) (o.lt hk) (by omega) (row_cell H.s 0 (o.lt hi)) (row_cell H.s 0 (o.lt hk))
set_option maxHeartbeats 800000 in
theorem swap_core (b gl cl ga ca nl na : Nat) (i k x y : Nat) (zx zy : Int) (w : World) (hbl : gl ≠ b) (hba : ga ≠ b) (hla : gl ≠ ga)
 (h0 : w.cell? ⟨b, 0, none⟩ = some (.slice (some ⟨gl, 0, none⟩) nl cl))
 (h2 : w.cell? ⟨b, 1, none⟩ = some (.slice (some ⟨ga, 0, none⟩) na ca))
 (hi2 : i < nl) (hk2 : k < nl)
 (hx : w.cell? ⟨gl, i, none⟩ = some (.int .i64 (x+1)))
 (hy : w.cell? ⟨gl, k, none⟩ = some (.int .i64 (y+1)))
 (hx2 : x < na) (hy2 : y < na) (hns : na ≤ 9223372036854775807)
 (hf : ∀ j, w.frozen? ⟨gl, j, none⟩ = false) (hfa : ∀ j, w.frozen? ⟨ga, j, none⟩ = false)
 (hsx : w.cell? ⟨ga, x, none⟩ = some (.int .i64 zx))
 (hsy : w.cell? ⟨ga, y, none⟩ = some (.int .i64 zy)) :
 Calls Tryz.prog 142 #[.pointer (some ⟨b, 0, none⟩), .int .i64 i, .int .i64 k] w fun e w' =>
  e = .returned (.tuple #[]) ∧ ∃ n, w' = ((((w.setCell ⟨gl, i, none⟩ (.int .i64 (y+1))).setCell ⟨gl, k, none⟩ (.int .i64 (x+1))).setCell ⟨ga, x, none⟩ (.int .i64 k)).setCell ⟨ga, y, none⟩ (.int .i64 i)).drewN n := by
 have e1 : IntKind.i64.wrap (x : Int) = x := IntWalk.i64_in _ (by omega)
 have e2 : IntKind.i64.wrap (y : Int) = y := IntWalk.i64_in _ (by omega)
 obtain ⟨v1, hv1⟩ := cell?_setCell_some (w := w) (p := ⟨gl, i, none⟩) (x := .int .i64 (y+1)) (q := ⟨gl, k, none⟩) hy
 have hsy' : ((w.setCell ⟨gl, i, none⟩ (.int .i64 (y+1))).setCell ⟨gl, k, none⟩ (.int .i64 (x+1))).cell? ⟨ga, y, none⟩ = some (.int .i64 zy) := by
  rw [World.cell?_setCell_other _ _ _ _ (by simp), World.cell?_setCell_other _ _ _ _ (by simp), hsy]
 obtain ⟨v2, hv2⟩ := cell?_setCell_some (p := ⟨ga, x, none⟩) (x := .int .i64 k) (q := ⟨ga, y, none⟩) hsy'
 have sd : ∀ (W : World) n a v, (W.drewN n).setCell a v = (W.setCell a v).drewN n := fun _ _ _ _ => rfl
 go_enter Tryz.func142, Tryz.ntmps142
 go_wp2
 go_quiet (fail)
 go_wp2
 go_region
 go_wp2
 go_region
 go_wp2
 go_end0
 exact ⟨rfl, _, rfl⟩
section
variable {w : World} {b : Nat} {vl va vs : Value} {h : Hp}
theorem HeapAt.only (H : HeapAt w b vl va vs h) {w' : World} {F : Nat → Prop} (ho : Only F w w') (hb : ¬ F b) (hl : ∀ k, vl.ownBlock = some k → ¬ F k)
  (ha : ∀ k, va.ownBlock = some k → ¬ F k) (hs : ∀ k, vs.ownBlock = some k → ¬ F k) : HeapAt w' b vl va vs h :=
 ⟨only_block H.blk ho hb, own_only H.l ho hl, own_only H.a ho ha, own_only H.s ho hs, H.apart⟩
theorem HeapAt.setL {gl cl nl : Nat} (H : HeapAt w b (.slice (some ⟨gl, 0, none⟩) nl cl) va vs h) (i a : Nat) :
  HeapAt (w.setCell ⟨gl, i, none⟩ (cL a)) b (.slice (some ⟨gl, 0, none⟩) nl cl) va vs { h with L := h.L.set i a } := by
 have hl := H.apart.l
 have hn : nl = h.L.length := by obtain ⟨_, _, he, _⟩ := own_slice H.l; simp at he; omega
 subst hn
 refine ⟨set_block_other H.blk (by simpa [Value.ownBlock, eq_comm] using hl) _, ?_, ownsRow_setCell_other H.a (H.apart.la gl rfl) _, ownsRow_setCell_other H.s (H.apart.ls gl rfl) _, H.apart⟩
 have := (H.l.stored i (cL a)).1
 simpa [List.map_set] using this
theorem HeapAt.setA {ga ca na : Nat} (H : HeapAt w b vl (.slice (some ⟨ga, 0, none⟩) na ca) vs h) (i : Nat) (z : Int) :
  HeapAt (w.setCell ⟨ga, i, none⟩ (cA z)) b vl (.slice (some ⟨ga, 0, none⟩) na ca) vs { h with A := h.A.set i z } := by
 have hl := H.apart.a
 have hn : na = h.A.length := by obtain ⟨_, _, he, _⟩ := own_slice H.a; simp at he; omega
 subst hn
 refine ⟨set_block_other H.blk (by simpa [Value.ownBlock, eq_comm] using hl) _, ownsRow_setCell_other H.l (fun e => H.apart.la ga e rfl) _, ?_, ownsRow_setCell_other H.s (H.apart.as_ ga rfl) _, H.apart⟩
 have := (H.a.stored i (cA z)).1
 simpa [List.map_set] using this
theorem HeapAt.setS {gs cs ns : Nat} (H : HeapAt w b vl va (.slice (some ⟨gs, 0, none⟩) ns cs) h) (i : Nat) (z : Nat) :
  HeapAt (w.setCell ⟨gs, i, none⟩ (cS z)) b vl va (.slice (some ⟨gs, 0, none⟩) ns cs) { h with S := h.S.set i z } := by
 have hl := H.apart.s
 have hn : ns = h.S.length := by obtain ⟨_, _, he, _⟩ := own_slice H.s; simp at he; omega
 subst hn
 refine ⟨set_block_other H.blk (by simpa [Value.ownBlock, eq_comm] using hl) _, ownsRow_setCell_other H.l (fun e => H.apart.ls gs e rfl) _, ownsRow_setCell_other H.a (fun e => H.apart.as_ gs e rfl) _, ?_, H.apart⟩
 have := (H.s.stored i (cS z)).1
 simpa [List.map_set] using this
theorem HeapAt.alloc (H : HeapAt w b vl va vs h) (o : Obj) : HeapAt (w.alloc o) b vl va vs h :=
 ⟨alloc_block H.blk o, H.l.alloc o, H.a.alloc o, H.s.alloc o, H.apart⟩
theorem HeapAt.drew (H : HeapAt w b vl va vs h) : HeapAt w.drew b vl va vs h := ⟨H.blk, H.l, H.a, H.s, H.apart⟩
theorem HeapAt.lt (H : HeapAt w b vl va vs h) {k : Nat} (hk : HFoot b vl va vs k) : k < w.heap.size := by
 rcases hk with rfl | hk | hk | hk
 ·exact lt_block H.blk
 ·exact own_lt H.l hk
 ·exact own_lt H.a hk
 ·exact own_lt H.s hk
theorem HeapAt.grow (H : HeapAt w b vl va vs h) {w' : World} {vl' : Value} {L' : List Nat} (ho : Only (fun k => vl.ownBlock = some k) w w') (hl : w'.ownsRow 0 3 1 vl' L'.length (L'.map cL))
  (hb : ∀ k, vl'.ownBlock = some k → vl.ownBlock = some k ∨ w.heap.size ≤ k) : HeapAt (w'.setCell ⟨b, 0, none⟩ vl') b vl' va vs { h with L := L' } := by
 have h1 := only_block H.blk ho H.apart.l
 have h2 := own_only H.a ho (fun k hk hk' => H.apart.la k hk' hk)
 have h3 := own_only H.s ho (fun k hk hk' => H.apart.ls k hk' hk)
 have ap : HApart b vl' va vs := by
  refine ⟨?_, H.apart.a, H.apart.s, ?_, ?_, H.apart.as_⟩
  ·intro e
   rcases hb _ e with e' | e'
   ·exact H.apart.l e'
   ·have := lt_block H.blk; omega
  ·intro k e ea
   rcases hb _ e with e' | e'
   ·exact H.apart.la k e' ea
   ·have := own_lt H.a ea; omega
  ·intro k e ea
   rcases hb _ e with e' | e'
   ·exact H.apart.ls k e' ea
   ·have := own_lt H.s ea; omega
 refine ⟨?_, ownsRow_setCell_other hl ap.l _, ownsRow_setCell_other h2 ap.a _, ownsRow_setCell_other h3 ap.s _, ap⟩
 rw [set_block h1]
 rfl
theorem swap_any (H : HeapAt w b vl va vs h) (o : h.Ok) (i k : Nat) (hi : i < h.L.length) (hk : k < h.L.length) :
  Calls Tryz.prog 142 #[.pointer (some ⟨b, 0, none⟩), .int .i64 i, .int .i64 k] w fun e w' =>
   e = .returned (.tuple #[]) ∧ HeapAt w' b vl va vs (h.swp i k) ∧ Only (HFoot b vl va vs) w w' := by
 obtain ⟨gl, cl, rfl, _, _⟩ := own_some H.l (by omega)
 have hs : 0 < h.A.length := by have := o.lt hi; have := o.len; omega
 obtain ⟨ga, ca, rfl, _, _⟩ := own_some H.a hs
 have hn := o.n
 have hle := o.le
 have hlen := o.len
 have hx := o.lt hi
 have hy := o.lt hk
 have e1 : gl ≠ b := by simpa [Value.ownBlock] using H.apart.l
 have e2 : ga ≠ b := by simpa [Value.ownBlock] using H.apart.a
 have e3 : gl ≠ ga := by have := H.apart.la gl rfl; simpa [Value.ownBlock, eq_comm] using this
 refine (swap_core b gl cl ga ca _ _ i k (h.at1 i) (h.at1 k) (h.A.getD (h.at1 i) 0) (h.A.getD (h.at1 k) 0) w e1 e2 e3 H.c0 H.c1 hi hk (row_cell H.l 0 hi) (row_cell H.l 0 hk)
  (by omega) (by omega) (by omega) H.l.frozenAt H.a.frozenAt (row_cell H.a 0 (by omega)) (row_cell H.a 0 (by omega))).mono ?_
 rintro e w' ⟨rfl, n, rfl⟩
 refine ⟨rfl, ?_, ?_⟩
 ·exact ((((H.setL i (h.at1 k)).setL k (h.at1 i)).setA (h.at1 i) k).setA (h.at1 k) i).drewN n
 ·have f1 : HFoot b (.slice (some ⟨gl, 0, none⟩) h.L.length cl) (.slice (some ⟨ga, 0, none⟩) h.A.length ca) vs gl := .inr (.inl rfl)
  have f2 : HFoot b (.slice (some ⟨gl, 0, none⟩) h.L.length cl) (.slice (some ⟨ga, 0, none⟩) h.A.length ca) vs ga := .inr (.inr (.inl rfl))
  exact (((((Only.refl _ w).setCell (.inl f1) _).setCell (.inl f1) _).setCell (.inl f2) _).setCell (.inl f2) _).drewN n
end
end Go.Proofs.YtjedgdamommgeaaGreat.Hq
namespace Go.Proofs.YtjedgdamommgeaaGreat.Hq
open Go.RowKit
section
variable {w : World} {b : Nat} {vl va vs : Value} {h : Hp}
theorem before_at (H : HeapAt w b vl va vs h) (o : h.Ok) (i k : Nat) (hi : i < h.L.length) (hk : k < h.L.length) (r : Bool) (hr : h.bef i k = r) (zi zk : Int) (ei : zi = i) (ek : zk = k) :
  Calls Tryz.prog 141 #[.pointer (some ⟨b, 0, none⟩), .int .i64 zi, .int .i64 zk] w fun e w' =>
   e = .returned (.bool r) ∧ HeapAt w' b vl va vs h ∧ Only (HFoot b vl va vs) w w' := by
 subst ei ek hr
 exact (before_any H o i k hi hk).mono fun _ _ ⟨he, n, hw⟩ => by subst hw; exact ⟨he, H.drewN n, (Only.refl _ _).drewN n⟩
theorem swap_at (H : HeapAt w b vl va vs h) (o : h.Ok) (i k : Nat) (hi : i < h.L.length) (hk : k < h.L.length) (zi zk : Int) (ei : zi = i) (ek : zk = k) :
  Calls Tryz.prog 142 #[.pointer (some ⟨b, 0, none⟩), .int .i64 zi, .int .i64 zk] w fun e w' =>
   e = .returned (.tuple #[]) ∧ HeapAt w' b vl va vs (h.swp i k) ∧ Only (HFoot b vl va vs) w w' := by
 subst ei ek
 exact swap_any H o i k hi hk
set_option maxHeartbeats 800000 in
theorem up_any (H : HeapAt w b vl va vs h) (o : h.Ok) (i : Nat) (hi : i < h.L.length) (zi : Int) (ei : zi = i) :
  Calls Tryz.prog 107 #[.pointer (some ⟨b, 0, none⟩), .int .i64 zi] w fun e w' =>
   e = .returned (.tuple #[]) ∧ HeapAt w' b vl va vs (h.upI i) ∧ (h.upI i).Ok ∧ Only (HFoot b vl va vs) w w' := by
 subst ei
 go_enter Tryz.func107, Tryz.ntmps107
 go_wp2
 go_loopw [1] (fun v wr => ∃ (j : Nat) (h' : Hp), v = .int .i64 j ∧ j < h'.L.length ∧ HeapAt wr b vl va vs h' ∧ h'.Ok ∧ Only (HFoot b vl va vs) w wr ∧ h.upI i = h'.upI j) (fun v _ => (intOf v).toNat)
 case atStart => exact ⟨i, h, rfl, hi, H, o, Only.refl _ _, rfl⟩
 case round =>
  obtain ⟨j, h', rfl, hj, H', o', hO, hU⟩ := hrel
  rw [Hp.upI_eq h' j] at hU
  have hn := o'.n
  have hle := o'.le
  by_cases c : 0 < j
  ·cases hb : h'.bef j ((j - 1) / 2)
   ·simp only [hb, Bool.and_false, Bool.false_eq_true, if_false] at hU
    have HU := Lib.hid hU
    have HB := Lib.hid hb
    clear hU hb
    go_wp2_with fail
    refine (before_at H' o' j ((j - 1) / 2) hj (by omega) _ HB.out _ _ rfl (by omega)).mono ?_
    rintro e w1 ⟨rfl, H1, O1⟩
    go_wp2_with fail
    go_end0
    rw [HU.out]
    exact ⟨rfl, H1, o', hO.same O1⟩
   ·simp only [hb, c, decide_true, Bool.and_self, if_true] at hU
    have HU := Lib.hid hU
    have HB := Lib.hid hb
    clear hU hb
    go_wp2_with fail
    refine (before_at H' o' j ((j - 1) / 2) hj (by omega) _ HB.out _ _ rfl (by omega)).mono ?_
    rintro e w1 ⟨rfl, H1, O1⟩
    go_wp2_with fail
    refine (swap_at H1 o' j ((j - 1) / 2) hj (by omega) _ _ rfl (by omega)).mono ?_
    rintro e w2 ⟨rfl, H2, O2⟩
    go_wp2_with fail
    go_roundw
    case rel => exact ⟨(j - 1) / 2, _, congrArg _ (by omega), by simp; omega, H2, o'.swp hj (by omega), (hO.same O1).same O2, HU.out⟩
    case measure => simp [intOf]; omega
  ·simp only [c, decide_false, Bool.false_and, Bool.false_eq_true, if_false] at hU
   have HU := Lib.hid hU
   clear hU
   go_wp2_with fail
   go_end0
   rw [HU.out]
   exact ⟨rfl, H', o', hO⟩
set_option maxHeartbeats 800000 in
theorem down_any (H : HeapAt w b vl va vs h) (o : h.Ok) (i : Nat) (zi : Int) (ei : zi = i) (hi : i ≤ 65536) :
  Calls Tryz.prog 145 #[.pointer (some ⟨b, 0, none⟩), .int .i64 zi] w fun e w' =>
   e = .returned (.tuple #[]) ∧ HeapAt w' b vl va vs (h.dn i) ∧ (h.dn i).Ok ∧ Only (HFoot b vl va vs) w w' := by
 subst ei
 go_enter Tryz.func145, Tryz.ntmps145
 go_wp2
 go_loopw [1] (fun v wr => ∃ (j : Nat) (h' : Hp), v = .int .i64 j ∧ j ≤ 65536 ∧ HeapAt wr b vl va vs h' ∧ h'.Ok ∧ Only (HFoot b vl va vs) w wr ∧ h'.L.length = h.L.length ∧ h.dn i = h'.dn j) (fun v _ => h.L.length - (intOf v).toNat)
 case atStart => exact ⟨i, h, rfl, hi, H, o, Only.refl _ _, rfl, rfl⟩
 case round =>
  obtain ⟨j, h', rfl, hj, H', o', hO, hlen, hU⟩ := hrel
  rw [Hp.dn_eq h' j] at hU
  have Hlen := Lib.hid hlen
  clear hlen
  have hn := o'.n
  have hle := o'.le
  obtain ⟨al, cl, rfl, _, _⟩ := own_slice H'.l
  have h0 := H'.c0
  by_cases c : h'.L.length ≤ 2 * j + 1
  ·rw [if_pos c] at hU
   have HU := Lib.hid hU
   clear hU
   go_wp2_with fail
   refine bodyPost_ret (results_none rfl _ _ _) rfl ?_
   rw [HU.out]
   exact ⟨rfl, H', o', hO⟩
  ·rw [if_neg c] at hU
   have hk := Hp.kid_lt c
   by_cases c2 : 2 * j + 1 + 1 < h'.L.length
   ·cases hb : h'.bef (2 * j + 1 + 1) (2 * j + 1)
    ·have hkid : h'.kid j = 2 * j + 1 := by simp [Hp.kid, hb]
     have HB := Lib.hid hb
     clear hb
     rw [hkid] at hU hk
     cases hb2 : h'.bef (2 * j + 1) j
     ·rw [hb2, if_neg (by simp)] at hU
      have HU := Lib.hid hU
      have HB2 := Lib.hid hb2
      clear hU hkid hb2
      go_wp2_with fail
      refine (before_at H' o' (2 * j + 1 + 1) (2 * j + 1) (by omega) (by omega) _ HB.out _ _ (by omega) (by omega)).mono ?_
      rintro e w1 ⟨rfl, H1, O1⟩
      go_wp2_with fail
      refine (before_at H1 o' (2 * j + 1) j (by omega) (by omega) _ HB2.out _ _ (by omega) rfl).mono ?_
      rintro e w2 ⟨rfl, H2, O2⟩
      go_wp2_with fail
      refine bodyPost_ret (results_none rfl _ _ _) rfl ?_
      rw [HU.out]
      exact ⟨rfl, H2, o', (hO.same O1).same O2⟩
     ·rw [hb2, if_pos rfl] at hU
      have HU := Lib.hid hU
      have HB2 := Lib.hid hb2
      clear hU hkid hb2
      go_wp2_with fail
      refine (before_at H' o' (2 * j + 1 + 1) (2 * j + 1) (by omega) (by omega) _ HB.out _ _ (by omega) (by omega)).mono ?_
      rintro e w1 ⟨rfl, H1, O1⟩
      go_wp2_with fail
      refine (before_at H1 o' (2 * j + 1) j (by omega) (by omega) _ HB2.out _ _ (by omega) rfl).mono ?_
      rintro e w2 ⟨rfl, H2, O2⟩
      go_wp2_with fail
      refine (swap_at H2 o' j (2 * j + 1) (by omega) (by omega) _ _ rfl (by omega)).mono ?_
      rintro e w3 ⟨rfl, H3, O3⟩
      go_wp2_with fail
      go_roundw
      case rel => exact ⟨2 * j + 1, _, congrArg _ (by omega), by omega, H3, o'.swp (by omega) (by omega), ((hO.same O1).same O2).same O3, by simp [Hlen.out], HU.out⟩
      case measure => have := Hlen.out; simp [intOf]; omega
    ·have hkid : h'.kid j = 2 * j + 1 + 1 := by simp [Hp.kid, hb, c2]
     have HB := Lib.hid hb
     clear hb
     rw [hkid] at hU hk
     cases hb2 : h'.bef (2 * j + 1 + 1) j
     ·rw [hb2, if_neg (by simp)] at hU
      have HU := Lib.hid hU
      have HB2 := Lib.hid hb2
      clear hU hkid hb2
      go_wp2_with fail
      refine (before_at H' o' (2 * j + 1 + 1) (2 * j + 1) (by omega) (by omega) _ HB.out _ _ (by omega) (by omega)).mono ?_
      rintro e w1 ⟨rfl, H1, O1⟩
      go_wp2_with fail
      refine (before_at H1 o' (2 * j + 1 + 1) j (by omega) (by omega) _ HB2.out _ _ (by omega) rfl).mono ?_
      rintro e w2 ⟨rfl, H2, O2⟩
      go_wp2_with fail
      refine bodyPost_ret (results_none rfl _ _ _) rfl ?_
      rw [HU.out]
      exact ⟨rfl, H2, o', (hO.same O1).same O2⟩
     ·rw [hb2, if_pos rfl] at hU
      have HU := Lib.hid hU
      have HB2 := Lib.hid hb2
      clear hU hkid hb2
      go_wp2_with fail
      refine (before_at H' o' (2 * j + 1 + 1) (2 * j + 1) (by omega) (by omega) _ HB.out _ _ (by omega) (by omega)).mono ?_
      rintro e w1 ⟨rfl, H1, O1⟩
      go_wp2_with fail
      refine (before_at H1 o' (2 * j + 1 + 1) j (by omega) (by omega) _ HB2.out _ _ (by omega) rfl).mono ?_
      rintro e w2 ⟨rfl, H2, O2⟩
      go_wp2_with fail
      refine (swap_at H2 o' j (2 * j + 1 + 1) (by omega) (by omega) _ _ rfl (by omega)).mono ?_
      rintro e w3 ⟨rfl, H3, O3⟩
      go_wp2_with fail
      go_roundw
      case rel => exact ⟨2 * j + 1 + 1, _, congrArg _ (by omega), by omega, H3, o'.swp (by omega) (by omega), ((hO.same O1).same O2).same O3, by simp [Hlen.out], HU.out⟩
      case measure => have := Hlen.out; simp [intOf]; omega
   ·have hkid : h'.kid j = 2 * j + 1 := by simp [Hp.kid, c2]
    rw [hkid] at hU hk
    cases hb2 : h'.bef (2 * j + 1) j
    ·rw [hb2, if_neg (by simp)] at hU
     have HU := Lib.hid hU
     have HB2 := Lib.hid hb2
     clear hU hkid hb2
     go_wp2_with fail
     refine (before_at H' o' (2 * j + 1) j (by omega) (by omega) _ HB2.out _ _ (by omega) rfl).mono ?_
     rintro e w2 ⟨rfl, H2, O2⟩
     go_wp2_with fail
     refine bodyPost_ret (results_none rfl _ _ _) rfl ?_
     rw [HU.out]
     exact ⟨rfl, H2, o', hO.same O2⟩
    ·rw [hb2, if_pos rfl] at hU
     have HU := Lib.hid hU
     have HB2 := Lib.hid hb2
     clear hU hkid hb2
     go_wp2_with fail
     refine (before_at H' o' (2 * j + 1) j (by omega) (by omega) _ HB2.out _ _ (by omega) rfl).mono ?_
     rintro e w2 ⟨rfl, H2, O2⟩
     go_wp2_with fail
     refine (swap_at H2 o' j (2 * j + 1) (by omega) (by omega) _ _ rfl (by omega)).mono ?_
     rintro e w3 ⟨rfl, H3, O3⟩
     go_wp2_with fail
     go_roundw
     case rel => exact ⟨2 * j + 1, _, congrArg _ (by omega), by omega, H3, o'.swp (by omega) (by omega), (hO.same O2).same O3, by simp [Hlen.out], HU.out⟩
     case measure => have := Hlen.out; simp [intOf]; omega
end
end Go.Proofs.YtjedgdamommgeaaGreat.Hq
namespace Go.Proofs.YtjedgdamommgeaaGreat.Hq
open Go.RowKit
section
variable {w : World} {b : Nat} {vl va vs : Value} {h : Hp}
set_option maxHeartbeats 800000 in
theorem orders_any (H : HeapAt w b vl va vs h) (o : h.Ok) :
  Calls Tryz.prog 124 #[.pointer (some ⟨b, 0, none⟩)] w fun e w' =>
   e = .returned (.tuple #[]) ∧ HeapAt w' b vl va vs h.orders ∧ h.orders.Ok ∧ Only (HFoot b vl va vs) w w' := by
 have hn := o.n
 have hle := o.le
 obtain ⟨al, cl, rfl, _, _⟩ := own_slice H.l
 have h0 := H.c0
 go_enter Tryz.func124, Tryz.ntmps124
 go_wp2
 go_loopw [2] (fun v wr => ∃ (j : Nat) (h' : Hp), v = .int .i64 ((j : Int) - 1) ∧ j ≤ 65536 ∧ HeapAt wr b (.slice al h.L.length cl) va vs h' ∧ h'.Ok ∧ Only (HFoot b (.slice al h.L.length cl) va vs) w wr ∧ h.orders = Hp.ordersTo j h') (fun v _ => (intOf v + 1).toNat)
 case atStart => exact ⟨h.L.length / 2, h, congrArg _ (by omega), by omega, H, o, Only.refl _ _, rfl⟩
 case round =>
  obtain ⟨j, h', rfl, hj, H', o', hO, hU⟩ := hrel
  have HU := Lib.hid hU
  clear hU
  cases j with
  | zero =>
   go_wp2_with fail
   go_end0
   rw [HU.out]
   exact ⟨rfl, H', o', hO⟩
  | succ j =>
   go_wp2_with fail
   refine (down_any H' o' j _ (by omega) (by omega)).mono ?_
   rintro e w1 ⟨rfl, H1, o1, O1⟩
   go_wp2_with fail
   go_roundw
   case rel => exact ⟨j, _, congrArg _ (by omega), by omega, H1, o1, hO.same O1, HU.out⟩
   case measure => simp [intOf]
theorem is_any (H : HeapAt w b vl va vs h) (o : h.Ok) (z : Int) : Calls Tryz.prog 105 #[.pointer (some ⟨b, 0, none⟩), .int .i64 z] w fun e w' =>
  e = .returned (.bool (decide (1 ≤ z) && decide (z ≤ h.S.length))) ∧ w = w' := by
 rw [← o.len]
 obtain ⟨aa, ca, rfl, _, _⟩ := own_slice H.a
 have h1 := H.c1
 by_cases c : 1 ≤ z
 ·go_enter Tryz.func105, Tryz.ntmps105
  go_wp2
  go_ret
  exact ⟨by simp [c], rfl⟩
 ·go_enter Tryz.func105, Tryz.ntmps105
  go_wp2
  go_ret
  exact ⟨by simp; omega, rfl⟩
theorem is_yes (H : HeapAt w b vl va vs h) (o : h.Ok) (a : Nat) (ha : a < h.S.length) (z : Int) (hz : z = a + 1) : Calls Tryz.prog 105 #[.pointer (some ⟨b, 0, none⟩), .int .i64 z] w fun e w' =>
  e = .returned (.bool true) ∧ w = w' :=
 (is_any H o z).mono fun _ _ ⟨he, hw⟩ => ⟨by rw [he]; simp; omega, hw⟩
theorem Has_yes (H : HeapAt w b vl va vs h) (o : h.Ok) (a : Nat) (ha : a < h.S.length) (z : Int) (hz : z = a + 1) : Calls Tryz.prog 106 #[.pointer (some ⟨b, 0, none⟩), .int .i64 z] w fun e w' =>
  e = .returned (.bool (decide (0 ≤ h.A.getD a 0))) ∧ w = w' := by
 subst hz
 have hn := o.n
 have hlen := o.len
 have ha' : a < h.A.length := by omega
 obtain ⟨ga, ca, rfl, _, _⟩ := own_some H.a (by omega)
 have h1 := H.c1
 have hc : w.cell? ⟨ga, a, none⟩ = some (.int .i64 (h.A.getD a 0)) := row_cell H.a 0 ha'
 have Hlen := Lib.hid hlen
 clear hlen
 generalize h.A.getD a 0 = q at hc ⊢
 go_enter Tryz.func106, Tryz.ntmps106
 go_wp2_with fail
 refine (is_yes H o a ha _ rfl).mono ?_
 rintro e w' ⟨rfl, rfl⟩
 go_wp2
 go_ret
 exact ⟨rfl, rfl⟩
theorem Len_any (H : HeapAt w b vl va vs h) : Calls Tryz.prog 144 #[.pointer (some ⟨b, 0, none⟩)] w fun e w' => e = .returned (.int .i64 h.L.length) ∧ w = w' := by
 obtain ⟨aa, ca, rfl, _, _⟩ := own_slice H.l
 have h1 := H.c0
 go_enter Tryz.func144, Tryz.ntmps144
 go_wp2
 go_ret
 exact ⟨rfl, rfl⟩
end
end Go.Proofs.YtjedgdamommgeaaGreat.Hq
namespace Go.Proofs.YtjedgdamommgeaaGreat.Hq
open Go.RowKit
def halfTo (k : Nat) (S : List Nat) : List Nat := (S.take k).map (· / 2) ++ S.drop k
theorem halfTo_len (k : Nat) (S : List Nat) : (halfTo k S).length = S.length := by simp [halfTo]; omega
theorem halfTo_zero (S : List Nat) : halfTo 0 S = S := by simp [halfTo]
theorem halfTo_all (S : List Nat) : halfTo S.length S = S.map (· / 2) := by simp [halfTo]
theorem halfTo_get {k : Nat} {S : List Nat} (h : k < S.length) : (halfTo k S).getD k 0 = S.getD k 0 := by
 simp [halfTo, List.getD_eq_getElem?_getD, List.getElem?_append, Nat.min_eq_left (Nat.le_of_lt h)]
theorem halfTo_succ {k : Nat} {S : List Nat} (h : k < S.length) : (halfTo k S).set k (S.getD k 0 / 2) = halfTo (k + 1) S := by
 simp only [halfTo]
 rw [List.set_append_right _ _ (by simp; omega)]
 simp only [List.length_map, List.length_take, Nat.min_eq_left (Nat.le_of_lt h), Nat.sub_self]
 rw [List.drop_eq_getElem_cons h, List.set_cons_zero, List.take_succ_eq_append_getElem h]
 rw [List.map_append, List.append_assoc]
 simp [List.getD_eq_getElem?_getD, List.getElem?_eq_getElem h]
section
variable {w : World} {b : Nat} {vl va vs : Value} {h : Hp}
set_option maxHeartbeats 800000 in
theorem Halve_any (H : HeapAt w b vl va vs h) (o : h.Ok) :
  Calls Tryz.prog 77 #[.pointer (some ⟨b, 0, none⟩)] w fun e w' =>
   e = .returned (.tuple #[]) ∧ HeapAt w' b vl va vs h.halve ∧ h.halve.Ok ∧ Only (HFoot b vl va vs) w w' := by
 have hn := o.n
 obtain ⟨aso, cs, rfl, hcs, hcm⟩ := own_slice H.s
 unfold maxLen at hcm
 have h2 := H.c2
 go_enter Tryz.func77, Tryz.ntmps77
 go_wp2
 go_loopw [10] (fun v wr => ∃ (k : Nat), v = .int .i64 k ∧ k ≤ h.S.length ∧ HeapAt wr b vl va (.slice aso h.S.length cs) { h with S := halfTo k h.S } ∧ Only (HFoot b vl va (.slice aso h.S.length cs)) w wr) (fun v _ => h.S.length - (intOf v).toNat)
 case atStart => exact ⟨0, rfl, Nat.zero_le _, by rw [halfTo_zero]; exact H, Only.refl _ _⟩
 case round =>
  obtain ⟨k, rfl, hk, H', hO⟩ := hrel
  by_cases c : k < h.S.length
  ·have hown := H'.s
   simp only [halfTo_len] at hown
   obtain ⟨gs, cs', he, _, _⟩ := own_some hown (by omega)
   simp only [Value.slice.injEq] at he
   obtain ⟨rfl, -, rfl⟩ := he
   have hcell := row_cell hown 0 (i := k) (by rw [halfTo_len]; exact c)
   rw [halfTo_get c] at hcell
   have hcell' : wr.cell? ⟨gs, k, none⟩ = some (.int .u64 (h.S.getD k 0 : Nat)) := hcell
   have hf := hown.frozenAt k
   have h2' := H'.c2
   have hS := halfTo_succ c
   have hm := o.sc_le k
   have hset := H'.setS k (h.S.getD k 0 / 2)
   unfold Hp.sc Hp.most at hm
   have HS := Lib.hid hS
   have HSet := Lib.hid hset
   clear hS hset hown hcell
   generalize h.S.getD k 0 = q at *
   go_wp2
   go_roundw
   case rel =>
    refine ⟨k + 1, by go_num, by omega, ?_, ?_⟩
    ·have := HSet.out
     rw [HS.out] at this
     exact this
    ·have f : HFoot b vl va (.slice (some ⟨gs, 0, none⟩) h.S.length cs) gs := .inr (.inr (.inr rfl))
     exact hO.setCell (p := ⟨gs, k, none⟩) (.inl f) _
   case measure => simp [intOf]; omega
  ·have hk' : k = h.S.length := by omega
   subst hk'
   rw [halfTo_all] at H'
   go_wp2_with fail
   refine (orders_any H' o.half).mono ?_
   rintro e w1 ⟨rfl, H1, o1, O1⟩
   go_wp2_with fail
   go_end0
   exact ⟨rfl, H1, o1, hO.same O1⟩
theorem Has_at (H : HeapAt w b vl va vs h) (o : h.Ok) (a : Nat) (ha : a < h.S.length) (z : Int) (hz : z = a + 1) (r : Bool) (hr : decide (0 ≤ h.A.getD a 0) = r) :
  Calls Tryz.prog 106 #[.pointer (some ⟨b, 0, none⟩), .int .i64 z] w fun e w' => e = .returned (.bool r) ∧ w = w' := by
 subst hr
 exact Has_yes H o a ha z hz
theorem bump_def (h : Hp) (a y : Nat) (h1 : Hp) (y1 : Nat) (hr : Hp.roomI h a y = (h1, y1)) (hb : Hp) (e : hb = { h1 with S := h1.S.set a (h1.sc a + y1) }) :
  h.bump a y = if hb.A.getD a 0 < 0 then hb else hb.upI (hb.A.getD a 0).toNat := by
 subst e
 unfold Hp.roomI at hr
 unfold Hp.bump
 rw [hr]
set_option maxHeartbeats 1600000 in
theorem Bump_any (H : HeapAt w b vl va vs h) (o : h.Ok) (a : Nat) (ha : a < h.S.length) (y : Nat) (hy : y < 18446744073709551616) (z zy : Int) (hz : z = a + 1) (hzy : zy = y) :
  Calls Tryz.prog 76 #[.pointer (some ⟨b, 0, none⟩), .int .i64 z, .int .u64 zy] w fun e w' =>
   e = .returned (.tuple #[]) ∧ HeapAt w' b vl va vs (h.bump a y) ∧ (h.bump a y).Ok ∧ Only (HFoot b vl va vs) w w' := by
 subst hz hzy
 have hn := o.n
 obtain ⟨gs, cs, rfl, hcs, hcm⟩ := own_some H.s (by omega)
 unfold maxLen at hcm
 go_enter Tryz.func76, Tryz.ntmps76
 go_wp2_with fail
 refine (is_yes H o a ha _ rfl).mono ?_
 rintro e w' ⟨rfl, rfl⟩
 go_wp2_with fail
 go_loopw [2] (fun v wr => ∃ (y' : Nat) (h' : Hp), v = .int .u64 y' ∧ y' < 18446744073709551616 ∧ HeapAt wr b vl va (.slice (some ⟨gs, 0, none⟩) h.S.length cs) h' ∧ h'.Ok ∧ Only (HFoot b vl va (.slice (some ⟨gs, 0, none⟩) h.S.length cs)) w wr ∧ a < h'.S.length ∧ h.roomI a y = h'.roomI a y') (fun v _ => (intOf v).toNat)
 case atStart => exact ⟨y, h, rfl, hy, H, o, Only.refl _ _, ha, rfl⟩
 case round =>
  obtain ⟨y', h', rfl, hy', H', o', hO, ha', hR⟩ := hrel
  have hm := o'.sc_le a
  rw [Hp.roomI_eq _ _ _ hm] at hR
  have h2 := H'.c2
  have hlenS : h.S.length = h'.S.length := by obtain ⟨_, _, he, _⟩ := own_slice H'.s; simp at he; omega
  have ha2 : a < h.S.length := ha
  have hcell : wr.cell? ⟨gs, a, none⟩ = some (.int .u64 (h'.sc a : Nat)) := by
   have hown := H'.s
   rw [← hlenS] at hown
   exact row_cell hown 0 ha'
  have hf : wr.frozen? ⟨gs, a, none⟩ = false := by
   have hown := H'.s
   rw [← hlenS] at hown
   exact hown.frozenAt a
  have HlenS := Lib.hid hlenS
  clear hlenS
  unfold Hp.most at hm hR
  by_cases c1 : 4611686018427387904 < y'
  ·simp only [c1, decide_true, Bool.true_or, if_true] at hR
   have HR := Lib.hid hR
   clear hR
   go_wp2_with fail
   refine (Halve_any H' o').mono ?_
   rintro e w1 ⟨rfl, H1, o1, O1⟩
   go_wp2_with fail
   go_roundw
   case rel => exact ⟨y' / 2, _, by go_num, by omega, H1, o1, hO.same O1, by rw [Hp.halve_S]; simpa using ha', HR.out⟩
   case measure => simp [intOf]; omega
  ·by_cases c2 : 4611686018427387904 < h'.sc a + y'
   ·simp only [c2, decide_true, Bool.or_true, if_true] at hR
    have HR := Lib.hid hR
    clear hR
    have Hcell := Lib.hid hcell
    generalize h'.sc a = q at *
    go_wp2_with fail
    refine (Halve_any H' o').mono ?_
    rintro e w1 ⟨rfl, H1, o1, O1⟩
    go_wp2_with fail
    go_roundw
    case rel => exact ⟨y' / 2, _, by go_num, by omega, H1, o1, hO.same O1, by rw [Hp.halve_S]; simpa using ha', HR.out⟩
    case measure => simp [intOf]; omega
   ·simp only [c1, c2, decide_false, Bool.or_self, Bool.false_eq_true, if_false] at hR
    obtain ⟨h1, eh1⟩ : ∃ h1 : Hp, h1 = { h' with S := h'.S.set a (h'.sc a + y') } := ⟨_, rfl⟩
    have hB := bump_def h a y h' y' hR h1 eh1
    have oB : h1.Ok := eh1 ▸ o'.setS a (h'.sc a + y') (by unfold Hp.most; omega)
    have hset : HeapAt (wr.setCell ⟨gs, a, none⟩ (cS (h'.sc a + y'))) b vl va (.slice (some ⟨gs, 0, none⟩) h.S.length cs) h1 := eh1 ▸ H'.setS a (h'.sc a + y')
    have ha3 : a < h1.S.length := by rw [eh1]; simpa using ha'
    clear eh1
    have HB := Lib.hid hB
    have HSet := Lib.hid hset
    clear hR hB hset
    generalize hq : h'.sc a = q at *
    have Hq := Lib.hid hq
    clear hq
    go_wp2_with fail
    have H1 : HeapAt (wr.setCell ⟨gs, a, none⟩ (.int .u64 ((q : Int) + (y' : Int)))) b vl va (.slice (some ⟨gs, 0, none⟩) h.S.length cs) h1 := by
     have := HSet.out
     simp only [cS, Int.natCast_add] at this
     exact this
    have O1 : Only (HFoot b vl va (.slice (some ⟨gs, 0, none⟩) h.S.length cs)) w (wr.setCell ⟨gs, a, none⟩ (.int .u64 ((q : Int) + (y' : Int)))) :=
     hO.setCell (p := ⟨gs, a, none⟩) (.inl (.inr (.inr (.inr rfl)))) _
    clear h2 hcell hf HSet
    generalize wr.setCell ⟨gs, a, none⟩ (.int .u64 ((q : Int) + (y' : Int))) = w1 at *
    have hB2 := HB.out
    have hA := oB.len
    by_cases c3 : h1.A.getD a 0 < 0
    ·rw [if_pos c3] at hB2
     have HB2 := Lib.hid hB2
     clear hB2 HB hA
     refine (Has_at H1 oB a ha3 _ rfl _ (decide_eq_false (by omega))).mono ?_
     rintro e w' ⟨rfl, rfl⟩
     go_wp2_with fail
     go_end0
     rw [HB2.out]
     exact ⟨rfl, H1, oB, O1⟩
    ·rw [if_neg c3] at hB2
     have HB2 := Lib.hid hB2
     have HA := Lib.hid hA
     clear hB2 HB hA
     refine (Has_at H1 oB a ha3 _ rfl _ (decide_eq_true (by omega))).mono ?_
     rintro e w' ⟨rfl, rfl⟩
     obtain ⟨ga, ca, rfl, _, _⟩ := own_some H1.a (by have := HA.out; omega)
     have hpl := oB.place ha3 (by omega)
     have hc1 := H1.c1
     have hca : w1.cell? ⟨ga, a, none⟩ = some (.int .i64 (h1.A.getD a 0)) := row_cell H1.a 0 (by have := HA.out; omega)
     have hla : a < h1.A.length := by have := HA.out; omega
     have hpl1 := hpl.1
     have HB3 := HB2.out
     clear HB2 hpl
     generalize h1.A.getD a 0 = zq at *
     have HB2 := Lib.hid HB3
     clear HB3
     go_wp2_with fail
     refine (up_any H1 oB _ hpl1 _ (by omega)).mono ?_
     rintro e w2 ⟨rfl, H2, o2, O2⟩
     go_wp2_with fail
     go_end0
     rw [HB2.out]
     exact ⟨rfl, H2, o2, O1.same O2⟩
end
end Go.Proofs.YtjedgdamommgeaaGreat.Hq
namespace Go.Proofs.YtjedgdamommgeaaGreat.Hq
open Go.RowKit
theorem slInt : SlT Tryz.prog 23 3 1 8 := SlT.mk' (z := .int .i64 0) Tryz.underlying23 (by kernel_rfl) rfl (by decide)
theorem cell_alloc0 (w : World) (c : Array Value) (t : TypeId) (n : Nat) (h : n = w.heap.size) : (w.alloc (.cells c t)).cell? ⟨n, 0, none⟩ = c[0]? := by subst h; simp
section
variable {w : World} {b : Nat} {vl va vs : Value} {h : Hp}
theorem Push_has (H : HeapAt w b vl va vs h) (o : h.Ok) (a : Nat) (ha : a < h.S.length) (z : Int) (hz : z = a + 1) (hA : 0 ≤ h.A.getD a 0) : Calls Tryz.prog 65 #[.pointer (some ⟨b, 0, none⟩), .int .i64 z] w fun e w' =>
  e = .returned (.bool false) ∧ w = w' := by
 subst hz
 go_enter Tryz.func65, Tryz.ntmps65
 go_wp2_with fail
 refine (is_yes H o a ha _ rfl).mono ?_
 rintro e w' ⟨rfl, rfl⟩
 go_wp2_with fail
 refine (Has_at H o a ha _ rfl _ (decide_eq_true hA)).mono ?_
 rintro e w' ⟨rfl, rfl⟩
 go_wp2_with fail
 go_ret
 exact ⟨rfl, rfl⟩
set_option maxHeartbeats 1600000 in
theorem Push_any (H : HeapAt w b vl va vs h) (o : h.Ok) (a : Nat) (ha : a < h.S.length) (z : Int) (hz : z = a + 1) (hA : h.A.getD a 0 < 0) : Calls Tryz.prog 65 #[.pointer (some ⟨b, 0, none⟩), .int .i64 z] w fun e w' =>
  e = .returned (.bool true) ∧ (∃ vl', HeapAt w' b vl' va vs (h.push a) ∧ ∀ k, HFoot b vl' va vs k → HFoot b vl va vs k ∨ w.heap.size ≤ k) ∧ (h.push a).Ok ∧ Only (HFoot b vl va vs) w w' := by
 subst hz
 have hn := o.n
 have hle := o.le
 have hla : a < h.A.length := by have := o.len; omega
 obtain ⟨al, cl, rfl, hcl, hclm⟩ := own_slice H.l
 obtain ⟨ga, ca, rfl, hca, hcam⟩ := own_some H.a (by omega)
 unfold maxLen at hcam hclm
 have oM := o.more ha hA
 have hup : h.push a = Hp.upI { h with A := h.A.set a (h.L.length : Int), L := h.L ++ [a] } h.L.length := rfl
 have HUP := Lib.hid hup
 clear hup
 have h0 := H.c0
 have h1 := H.c1
 have hcell : w.cell? ⟨ga, a, none⟩ = some (.int .i64 (h.A.getD a 0)) := row_cell H.a 0 hla
 have hf := H.a.frozenAt a
 have e1 : IntKind.i64.wrap (a : Int) = a := IntWalk.i64_in _ (by omega)
 have e2 : ga ≠ b := by simpa [Value.ownBlock] using H.apart.a
 have sd : ∀ (W : World) n a v, (W.drewN n).setCell a v = (W.setCell a v).drewN n := fun _ _ _ _ => rfl
 go_enter Tryz.func65, Tryz.ntmps65
 go_wp2_with fail
 refine (is_yes H o a ha _ rfl).mono ?_
 rintro e w' ⟨rfl, rfl⟩
 go_wp2_with fail
 refine (Has_at H o a ha _ rfl _ (decide_eq_false (by omega))).mono ?_
 rintro e w' ⟨rfl, rfl⟩
 go_wp2_with fail
 go_region
 clear e1
 go_wp2_with (at_builtin; go_must (refine wpA1 slInt (u := .int .i64 ((a : Int) + 1)) (n := h.L.length) (xs := h.L.map cL) rfl (.tmp 30) (.tmp 32) rfl rfl rfl ?hc rfl ?hown (by omega) (by omega) ?hK))
 case hc => simp [cell_alloc0]
 case hown => exact ((H.setA a h.L.length).alloc _).drew.l
 case hK =>
  intro v' w' hown' hO hS
  have H0 := ((H.setA a h.L.length).alloc (.cells #[.int .i64 ((a : Int) + 1)] 3)).drew
  obtain ⟨g, cap, rfl, hg1, hg2, hg3⟩ := hS
  have hgr := H0.grow (L' := h.L ++ [a]) (vl' := .slice (some ⟨g, 0, none⟩) (h.L.length + 1) cap) hO (by simpa [cL] using hown') (by intro k hk; simp [Value.ownBlock] at hk; subst hk; simpa using hg3)
  have hO0 : Only (HFoot b (.slice al h.L.length cl) (.slice (some ⟨ga, 0, none⟩) h.A.length ca) vs) w w' := by
   refine Only.same (b := ((w.setCell ⟨ga, a, none⟩ (cA h.L.length)).alloc (.cells #[.int .i64 ((a : Int) + 1)] 3)).drew) ?_ (hO.mono fun k hk => .inr (.inl hk))
   exact (((Only.refl _ _).setCell (p := ⟨ga, a, none⟩) (.inl (.inr (.inr (.inl rfl)))) _).alloc _).drew
  have hblk := only_block H0.blk hO H0.apart.l
  have hb0 : w'.cell? ⟨b, 0, none⟩ = some (.slice al h.L.length cl) := by rw [cell_block hblk]; rfl
  have hbf := free_block hblk 0
  have hft : ∀ k, HFoot b (.slice (some ⟨g, 0, none⟩) (h.L.length + 1) cap) (.slice (some ⟨ga, 0, none⟩) h.A.length ca) vs k → HFoot b (.slice al h.L.length cl) (.slice (some ⟨ga, 0, none⟩) h.A.length ca) vs k ∨ w.heap.size ≤ k := by
   intro k hk
   rcases hk with hk | hk | hk
   ·exact .inl (.inl hk)
   ·simp [Value.ownBlock] at hk
    subst hk
    rcases hg3 with h' | h'
    ·exact .inl (.inr (.inl h'))
    ·simp at h'; exact .inr (by omega)
   ·exact .inl (.inr (.inr hk))
  clear hO hown' hblk H0 hg3 hcell hf h0 h1
  have HG := Lib.hid hgr
  clear hgr sd
  go_wp2_with fail
  refine (up_any HG.out oM h.L.length (by simp) _ (by omega)).mono ?_
  rintro e w2 ⟨rfl, H2, o2, O2⟩
  go_wp2_with fail
  go_ret
  refine ⟨rfl, ?_⟩
  rw [HUP.out]
  refine ⟨⟨_, H2, hft⟩, o2, ?_⟩
  exact (hO0.setCell (p := ⟨b, 0, none⟩) (.inl (.inl rfl)) _).trans O2 hft
end
end Go.Proofs.YtjedgdamommgeaaGreat.Hq
namespace Go.Proofs.YtjedgdamommgeaaGreat.Hq
open Go.RowKit
section
variable {w : World} {b : Nat} {vl va vs : Value} {h : Hp}
theorem Len_at (H : HeapAt w b vl va vs h) (n : Int) (hn : (h.L.length : Int) = n) : Calls Tryz.prog 144 #[.pointer (some ⟨b, 0, none⟩)] w fun e w' => e = .returned (.int .i64 n) ∧ w = w' := by
 subst hn
 exact Len_any H
theorem Pop_none (H : HeapAt w b vl va vs h) (hL : h.L.length = 0) : Calls Tryz.prog 113 #[.pointer (some ⟨b, 0, none⟩)] w fun e w' => e = .returned (.int .i64 0) ∧ w = w' := by
 have HL := Lib.hid hL
 clear hL
 go_enter Tryz.func113, Tryz.ntmps113
 go_wp2_with fail
 refine (Len_at H 0 (by rw [HL.out]; rfl)).mono ?_
 rintro e w' ⟨rfl, rfl⟩
 go_wp2_with fail
 go_ret
 exact ⟨rfl, rfl⟩
theorem HeapAt.cut {gl cl nl : Nat} (H : HeapAt w b (.slice (some ⟨gl, 0, none⟩) nl cl) va vs h) (m : Nat) (hm : m ≤ nl) :
  HeapAt (w.setCell ⟨b, 0, none⟩ (.slice (some ⟨gl, 0, none⟩) m cl)) b (.slice (some ⟨gl, 0, none⟩) m cl) va vs { h with L := h.L.take m } := by
 have ap : HApart b (.slice (some ⟨gl, 0, none⟩) m cl) va vs := ⟨H.apart.l, H.apart.a, H.apart.s, H.apart.la, H.apart.ls, H.apart.as_⟩
 refine ⟨?_, ownsRow_setCell_other (v := .slice (some ⟨gl, 0, none⟩) m cl) ?_ ap.l _, ownsRow_setCell_other H.a ap.a _, ownsRow_setCell_other H.s ap.s _, ap⟩
 ·rw [set_block H.blk]; rfl
 ·have hn : nl = h.L.length := by obtain ⟨_, _, he, _⟩ := own_slice H.l; simp at he; omega
  subst hn
  rcases H.l.2 with ⟨h', _⟩ | ⟨g', cap', cur, h', _, hg, h1, h2, h3, htake⟩
  ·simp at h'
  ·simp only [Value.slice.injEq, Option.some.injEq, Addr.mk.injEq, and_true, true_and] at h'
   obtain ⟨rfl, rfl⟩ := h'
   have hlen : (h.L.take m).length = m := by simp; omega
   refine ⟨by simp, .inr ⟨gl, cl, cur, by simp; omega, Nat.zero_le _, hg, by simp; omega, h2, h3, ?_⟩⟩
   simp only [Nat.mul_one] at htake ⊢
   show cur.toList.take (h.L.take m).length = (h.L.take m).map cL
   rw [hlen, List.map_take, ← htake, List.take_take, Nat.min_eq_left hm]
set_option maxHeartbeats 1600000 in
theorem Pop_any (H : HeapAt w b vl va vs h) (o : h.Ok) (hL : 0 < h.L.length) : Calls Tryz.prog 113 #[.pointer (some ⟨b, 0, none⟩)] w fun e w' =>
  e = .returned (.int .i64 ((h.at1 0 : Int) + 1)) ∧ (∃ vl', HeapAt w' b vl' va vs h.pop ∧ ∀ k, HFoot b vl' va vs k → HFoot b vl va vs k) ∧ h.pop.Ok ∧ Only (HFoot b vl va vs) w w' := by
 have hn := o.n
 have hle := o.le
 have hlt := o.lt hL
 have hla : h.at1 0 < h.A.length := by have := o.len; omega
 obtain ⟨gl, cl, rfl, hcl, hclm⟩ := own_some H.l hL
 obtain ⟨ga, ca, rfl, hca, hcam⟩ := own_some H.a (by omega)
 unfold maxLen at hcam hclm
 have o1 := o.swp hL (k := h.L.length - 1) (by omega)
 have oless := o1.less (by simpa using hL)
 have hat : (h.swp 0 (h.L.length - 1)).at1 (h.L.length - 1) = h.at1 0 := by rw [Hp.at1_swp h hL (by omega)]; simp
 simp only [Hp.swp_len, hat] at oless
 have hpop : h.pop = Hp.dn { h.swp 0 (h.L.length - 1) with L := (h.swp 0 (h.L.length - 1)).L.take (h.L.length - 1), A := (h.swp 0 (h.L.length - 1)).A.set (h.at1 0) (-1) } 0 := rfl
 have HP := Lib.hid hpop
 clear hpop hat
 have h0 := H.c0
 have hcell : w.cell? ⟨gl, 0, none⟩ = some (.int .i64 ((h.at1 0 : Int) + 1)) := row_cell H.l 0 hL
 have hf := H.a.frozenAt (h.at1 0)
 have e2 : ga ≠ b := by simpa [Value.ownBlock] using H.apart.a
 go_enter Tryz.func113, Tryz.ntmps113
 go_wp2_with fail
 refine (Len_any H).mono ?_
 rintro e w' ⟨rfl, rfl⟩
 have hL1 : ((h.L.length : Int) == 0) = false := beq_eq_false_iff_ne.2 (by omega)
 go_wp2_with fail
 refine (swap_at H o 0 (h.L.length - 1) hL (by omega) _ _ rfl (by omega)).mono ?_
 rintro e w1 ⟨rfl, H1, O1⟩
 have hA1 : (h.swp 0 (h.L.length - 1)).A.length = h.A.length := by simp
 have hL2 : (h.swp 0 (h.L.length - 1)).L.length = h.L.length := by simp
 have hS2 : (h.swp 0 (h.L.length - 1)).S = h.S := rfl
 generalize hh : h.swp 0 (h.L.length - 1) = h1 at *
 clear hh
 generalize hx : h.at1 0 = x at *
 have HX := Lib.hid hx
 clear hx
 have k0 := H1.c0
 have k1 := H1.c1
 have f0 := free_block H1.blk 0
 have hf1 : w1.frozen? ⟨ga, x, none⟩ = false := by have := H1.a; rw [hA1] at this; exact this.frozenAt x
 have hc1 : w1.cell? ⟨ga, x, none⟩ = some (.int .i64 (h1.A.getD x 0)) := by
  have := H1.a
  rw [hA1] at this
  exact row_cell this 0 (by omega)
 have HA1 := Lib.hid hA1
 have HL2 := Lib.hid hL2
 clear hA1 hL2 hS2 h0 hcell hf hL1
 have e1 : IntKind.i64.wrap ((h.L.length : Int) - 1) = (h.L.length : Int) - 1 := IntWalk.i64_in _ (by omega)
 have e3 : (0 : Int) ≤ (h.L.length : Int) - 1 := by omega
 have e4 : ((h.L.length : Int) - 1).toNat = h.L.length - 1 := by omega
 go_wp2_with fail
 go_region
 clear e1 e4
 go_wp2_with fail
 have H3 := ((H1.cut (h.L.length - 1) (by omega)).setA x (-1)).drew
 have O3 : Only (HFoot b (.slice (some ⟨gl, 0, none⟩) h.L.length cl) (.slice (some ⟨ga, 0, none⟩) h.A.length ca) vs) w ((w1.setCell ⟨b, 0, none⟩ (.slice (some ⟨gl, 0, none⟩) (h.L.length - 1) cl)).setCell ⟨ga, x, none⟩ (cA (-1))).drew :=
  ((O1.setCell (p := ⟨b, 0, none⟩) (.inl (.inl rfl)) _).setCell (p := ⟨ga, x, none⟩) (.inl (.inr (.inr (.inl rfl)))) _).drew
 refine (down_any H3 oless 0 _ rfl (by omega)).mono ?_
 rintro e w2 ⟨rfl, H4, o4, O4⟩
 clear k0 k1 f0 hf1 hc1
 go_wp2_with fail
 go_ret
 rw [HP.out, HX.out]
 exact ⟨rfl, ⟨_, H4, fun k hk => hk⟩, o4, O3.same O4⟩
theorem info64 : (Tryz.prog.info? 63).map (fun i => (i.zero, i.size, i.bytes)) = some (some (.int .u64 0), 1, 8) := by kernel_rfl
def NewPost (n : Nat) (w : World) (e : Ending) (w' : World) : Prop :=
 ∃ b vl va vs, e = .returned (.pointer (some ⟨b, 0, none⟩)) ∧ HeapAt w' b vl va vs (Hp.new n) ∧ (∀ k, HFoot b vl va vs k → w.heap.size ≤ k) ∧ Only (fun _ => False) w w'
def newTo (k n : Nat) : Hp := { L := List.range k, A := (List.range k).map (fun (i : Nat) => (i : Int)), S := List.replicate n 0 }
theorem HeapAt.growA (H : HeapAt w b vl va vs h) {w' : World} {va' : Value} {A' : List Int} (ho : Only (fun k => va.ownBlock = some k) w w') (hl : w'.ownsRow 0 3 1 va' A'.length (A'.map cA))
  (hb : ∀ k, va'.ownBlock = some k → va.ownBlock = some k ∨ w.heap.size ≤ k) : HeapAt (w'.setCell ⟨b, 1, none⟩ va') b vl va' vs { h with A := A' } := by
 have h1 := only_block H.blk ho H.apart.a
 have h2 := own_only H.l ho (fun k hk hk' => H.apart.la k hk hk')
 have h3 := own_only H.s ho (fun k hk hk' => H.apart.as_ k hk' hk)
 have ap : HApart b vl va' vs := by
  refine ⟨H.apart.l, ?_, H.apart.s, ?_, H.apart.ls, ?_⟩
  ·intro e
   rcases hb _ e with e' | e'
   ·exact H.apart.a e'
   ·have := lt_block H.blk; omega
  ·intro k el e
   rcases hb _ e with e' | e'
   ·exact H.apart.la k el e'
   ·have := own_lt H.l el; omega
  ·intro k e ea
   rcases hb _ e with e' | e'
   ·exact H.apart.as_ k e' ea
   ·have := own_lt H.s ea; omega
 refine ⟨?_, ownsRow_setCell_other h2 ap.l _, ownsRow_setCell_other hl ap.a _, ownsRow_setCell_other h3 ap.s _, ap⟩
 rw [set_block h1]
 rfl
set_option maxHeartbeats 1600000 in
theorem New_any (z : Int) (n : Nat) (hn : n ≤ 65536) (hz : z = n ∨ z < 0 ∧ n = 0) : Calls Tryz.prog 35 #[.int .i64 z] w fun e w' =>
  NewPost n w e w' := by
 rcases hz with hz | ⟨hz, hn0⟩
 ·subst hz
  go_enter Tryz.func35, Tryz.ntmps35
  go_wp2_with (at_make; go_must (refine wpM Tryz.underlying101 info64 rfl rfl _ _ rfl n rfl rfl rfl rfl (by omega) (by omega) ?_))
  intro w1 hown1 hO1 hsz1
  go_wp2_with fail
  have H0 : HeapAt (w1.alloc (.cells #[.slice none 0 0, .slice none 0 0, .slice (some ⟨w.heap.size, 0, none⟩) n n] 103)) w1.heap.size (.slice none 0 0) (.slice none 0 0) (.slice (some ⟨w.heap.size, 0, none⟩) n n) (newTo 0 n) := by
   refine ⟨heap_alloc_new w1 _, World.ownsRow_nil _ _ _ _, World.ownsRow_nil _ _ _ _, ?_, ?_⟩
   ·have := hown1.alloc (.cells #[.slice none 0 0, .slice none 0 0, .slice (some ⟨w.heap.size, 0, none⟩) n n] 103)
    simpa [newTo, cS] using this
   ·refine ⟨by simp [Value.ownBlock], by simp [Value.ownBlock], ?_, by simp [Value.ownBlock], by simp [Value.ownBlock], by simp [Value.ownBlock]⟩
    simp [Value.ownBlock]; omega
  go_loopw [13] (fun v wr => ∃ (k : Nat) (vl va : Value), v = .int .i64 k ∧ k ≤ n ∧ HeapAt wr w1.heap.size vl va (.slice (some ⟨w.heap.size, 0, none⟩) n n) (newTo k n) ∧ (∀ i, HFoot w1.heap.size vl va (.slice (some ⟨w.heap.size, 0, none⟩) n n) i → w.heap.size ≤ i) ∧ Only (fun _ => False) w wr) (fun v _ => n - (intOf v).toNat)
  case atStart =>
   refine ⟨0, _, _, rfl, Nat.zero_le _, H0, ?_, hO1.alloc _⟩
   intro i hi
   rcases hi with rfl | hi | hi | hi
   ·omega
   ·simp [Value.ownBlock] at hi
   ·simp [Value.ownBlock] at hi
   ·simp [Value.ownBlock] at hi; omega
  case round =>
   obtain ⟨k, vl, va, rfl, hk, H', hfoot, hO⟩ := hrel
   clear H0
   by_cases c : k < n
   ·have k0 := H'.c0
    have k1 := H'.c1
    have f0 := free_block H'.blk 0
    have f1 := free_block H'.blk 1
    have hbs := lt_block H'.blk
    go_wp2_with (at_builtin; go_must (refine wpA1 slInt (u := .int .i64 ((k : Int) + 1)) (n := k) (v := vl) (xs := (List.range k).map cL) rfl (.tmp 20) (.tmp 23) rfl rfl rfl ?hc rfl ?hown (by omega) (by omega) ?hK))
    case hc => simp
    case hown => have := (H'.alloc (.cells #[.int .i64 ((k : Int) + 1)] 3)).l; simpa [newTo] using this
    case hK =>
     intro v' w' hown' hO' hS
     obtain ⟨g, cap, rfl, hg1, hg2, hg3⟩ := hS
     have H1 := (H'.alloc (.cells #[.int .i64 ((k : Int) + 1)] 3)).grow (L' := List.range (k + 1)) (vl' := .slice (some ⟨g, 0, none⟩) (k + 1) cap) hO' (by simpa [List.range_succ, cL] using hown') (by intro i hi; simp [Value.ownBlock] at hi; subst hi; exact hg3)
     have hO1' : Only (fun _ => False) w (w'.setCell ⟨w1.heap.size, 0, none⟩ (.slice (some ⟨g, 0, none⟩) (k + 1) cap)) :=
      ((hO.alloc _).trans hO' fun i hi => .inr (hfoot i (.inr (.inl hi)))).setCell (p := ⟨w1.heap.size, 0, none⟩) (.inr (hfoot _ (.inl rfl))) _
     have hfoot1 : ∀ i, HFoot w1.heap.size (.slice (some ⟨g, 0, none⟩) (k + 1) cap) va (.slice (some ⟨w.heap.size, 0, none⟩) n n) i → w.heap.size ≤ i := by
      intro i hi
      rcases hi with hi | hi | hi
      ·exact hfoot i (.inl hi)
      ·simp [Value.ownBlock] at hi
       subst hi
       rcases hg3 with h' | h'
       ·exact hfoot _ (.inr (.inl h'))
       ·have := hO.size; simp at h'; omega
      ·exact hfoot i (.inr (.inr hi))
     have hblk := only_block (H'.alloc (.cells #[.int .i64 ((k : Int) + 1)] 3)).blk hO' H'.apart.l
     have q0 : w'.cell? ⟨w1.heap.size, 0, none⟩ = some vl := by rw [cell_block hblk]; rfl
     have q1 : w'.cell? ⟨w1.heap.size, 1, none⟩ = some va := by rw [cell_block hblk]; rfl
     have qf0 := free_block hblk 0
     have qf1 := free_block hblk 1
     clear k0 k1 f0 f1 hbs hO' hown' hfoot hblk H' hg3
     have H1' := Lib.hid H1
     clear H1
     go_wp2_with (at_builtin; go_must (refine wpA1 slInt (u := .int .i64 (k : Int)) (n := k) (v := va) (xs := ((List.range k).map (fun (i : Nat) => (i : Int))).map cA) rfl (.tmp 31) (.tmp 33) rfl rfl rfl ?hc2 rfl ?hown2 (by omega) (by omega) ?hK2))
     case hc2 => exact cell_alloc0 _ _ _ _ (by simp)
     case hown2 => have := (H1'.out.alloc (.cells #[.int .i64 (k : Int)] 3)).a; simpa [newTo] using this
     case hK2 =>
      intro v2 w2 hown2 hO2 hS2
      obtain ⟨g2, cap2, rfl, hg4, hg5, hg6⟩ := hS2
      have H2 := (H1'.out.alloc (.cells #[.int .i64 (k : Int)] 3)).growA (A' := (List.range (k + 1)).map (fun (i : Nat) => (i : Int))) (va' := .slice (some ⟨g2, 0, none⟩) (k + 1) cap2) hO2 (by simpa [List.range_succ, cA] using hown2) (by intro i hi; simp [Value.ownBlock] at hi; subst hi; exact hg6)
      have hO2' : Only (fun _ => False) w (w2.setCell ⟨w1.heap.size, 1, none⟩ (.slice (some ⟨g2, 0, none⟩) (k + 1) cap2)) :=
       ((hO1'.alloc _).trans hO2 fun i hi => .inr (hfoot1 i (.inr (.inr (.inl hi))))).setCell (p := ⟨w1.heap.size, 1, none⟩) (.inr (hfoot1 _ (.inl rfl))) _
      have hfoot2 : ∀ i, HFoot w1.heap.size (.slice (some ⟨g, 0, none⟩) (k + 1) cap) (.slice (some ⟨g2, 0, none⟩) (k + 1) cap2) (.slice (some ⟨w.heap.size, 0, none⟩) n n) i → w.heap.size ≤ i := by
       intro i hi
       rcases hi with hi | hi | hi | hi
       ·exact hfoot1 i (.inl hi)
       ·exact hfoot1 i (.inr (.inl hi))
       ·simp [Value.ownBlock] at hi
        subst hi
        rcases hg6 with h' | h'
        ·exact hfoot1 _ (.inr (.inr (.inl h')))
        ·have := hO1'.size; simp at h' this; omega
       ·exact hfoot1 i (.inr (.inr (.inr hi)))
      have hblk2 := only_block (H1'.out.alloc (.cells #[.int .i64 (k : Int)] 3)).blk hO2 H1'.out.apart.a
      have r1 : w2.cell? ⟨w1.heap.size, 1, none⟩ = some va := by rw [cell_block hblk2]; rfl
      have rf1 := free_block hblk2 1
      clear q0 q1 qf0 qf1 hO2 hown2 hblk2
      have H2' := Lib.hid H2
      clear H2
      go_wp2_with fail
      go_roundw
      case rel => exact ⟨k + 1, _, _, by go_num, by omega, H2'.out, hfoot2, hO2'⟩
      case measure => simp [intOf]; omega
   ·have hkn : k = n := by omega
    subst hkn
    go_wp2_with fail
    go_ret
    exact ⟨_, _, _, _, rfl, H', hfoot, hO⟩
 ·have HN := Lib.hid hn0
  clear hn0
  go_enter Tryz.func35, Tryz.ntmps35
  go_wp2_with (at_make; go_must (refine wpM Tryz.underlying101 info64 rfl rfl _ _ rfl n rfl rfl (by rw [HN.out]; rfl) (by rw [HN.out]; rfl) (by omega) (by omega) ?_))
  intro w1 hown1 hO1 hsz1
  go_wp2_with fail
  have H0 : HeapAt (w1.alloc (.cells #[.slice none 0 0, .slice none 0 0, .slice (some ⟨w.heap.size, 0, none⟩) n n] 103)) w1.heap.size (.slice none 0 0) (.slice none 0 0) (.slice (some ⟨w.heap.size, 0, none⟩) n n) (newTo 0 n) := by
   refine ⟨heap_alloc_new w1 _, World.ownsRow_nil _ _ _ _, World.ownsRow_nil _ _ _ _, ?_, ?_⟩
   ·have := hown1.alloc (.cells #[.slice none 0 0, .slice none 0 0, .slice (some ⟨w.heap.size, 0, none⟩) n n] 103)
    simpa [newTo, cS] using this
   ·refine ⟨by simp [Value.ownBlock], by simp [Value.ownBlock], ?_, by simp [Value.ownBlock], by simp [Value.ownBlock], by simp [Value.ownBlock]⟩
    simp [Value.ownBlock]; omega
  refine wp_loop_rounds 1 ?_
  rw [rounds_succ]
  go_wp2_with fail
  go_ret
  have hN : newTo 0 n = Hp.new n := by rw [HN.out]; rfl
  refine ⟨_, _, _, _, rfl, hN ▸ H0, ?_, hO1.alloc _⟩
  intro i hi
  rcases hi with rfl | hi | hi | hi
  ·omega
  ·simp [Value.ownBlock] at hi
  ·simp [Value.ownBlock] at hi
  ·simp [Value.ownBlock] at hi; omega
end
end Go.Proofs.YtjedgdamommgeaaGreat.Hq
namespace Go.Proofs.YtjedgdamommgeaaGreat.Hq
namespace Hp
theorem ahead_iff (S : List Nat) (a b : Nat) : ahead S a b = true ↔ S.getD b 0 < S.getD a 0 ∨ (S.getD a 0 = S.getD b 0 ∧ a < b) := by simp [ahead]
theorem ahead_not (S : List Nat) (a b : Nat) : ahead S a b = false ↔ S.getD a 0 ≤ S.getD b 0 ∧ (S.getD a 0 = S.getD b 0 → b ≤ a) := by
 rw [← Bool.not_eq_true, ahead_iff]; omega
def OrdAt (h : Hp) (j : Nat) : Prop := ahead h.S (h.at1 j) (h.at1 ((j - 1) / 2)) = false
def HFrom (n : Nat) (h : Hp) : Prop := ∀ j, 0 < j → j < h.L.length → n ≤ (j - 1) / 2 → OrdAt h j
def HOrd (h : Hp) : Prop := ∀ j, 0 < j → j < h.L.length → OrdAt h j
def has (h : Hp) (a : Nat) : Prop := ∃ j, j < h.L.length ∧ h.at1 j = a
theorem has_swp (h : Hp) {i k : Nat} (hi : i < h.L.length) (hk : k < h.L.length) (a : Nat) : (h.swp i k).has a ↔ h.has a := by
 constructor
 ·rintro ⟨j, hj, rfl⟩
  rw [swp_len] at hj
  rw [at1_swp h hi hk]
  split
  ·exact ⟨i, hi, rfl⟩
  ·split
   ·exact ⟨k, hk, rfl⟩
   ·exact ⟨j, hj, rfl⟩
 ·rintro ⟨j, hj, rfl⟩
  by_cases e1 : j = i
  ·subst e1; exact ⟨k, by simpa using hk, by rw [at1_swp h hi hk]; simp⟩
  ·by_cases e2 : j = k
   ·subst e2
    refine ⟨i, by simpa using hi, ?_⟩
    rw [at1_swp h hi hk]
    split
    ·rename_i e; subst e; rfl
    ·simp
   ·exact ⟨j, by simpa using hj, by rw [at1_swp h hi hk, if_neg (Ne.symm e2), if_neg (Ne.symm e1)]⟩
theorem up_all (h : Hp) (o : h.Ok) (i : Nat) (hi : i < h.L.length) : (h.upI i).Ok ∧ (h.upI i).S = h.S ∧ (h.upI i).L.length = h.L.length ∧ ∀ a, (h.upI i).has a ↔ h.has a := by
 induction i using Nat.strongRecOn generalizing h with
 | _ i ih =>
  rw [upI_eq]
  split
  ·rename_i hc
   simp only [Bool.and_eq_true, decide_eq_true_eq] at hc
   have h2 : (i - 1) / 2 < h.L.length := by omega
   obtain ⟨q1, q2, q3, q4⟩ := ih ((i - 1) / 2) (by omega) (h.swp i ((i - 1) / 2)) (o.swp hi h2) (by simpa using h2)
   exact ⟨q1, q2, by rw [q3]; simp, fun a => (q4 a).trans (has_swp h hi h2 a)⟩
  ·exact ⟨o, rfl, rfl, fun _ => Iff.rfl⟩
theorem up_ord (h : Hp) (o : h.Ok) (i : Nat) (hi : i < h.L.length) (h1 : ∀ j, 0 < j → j < h.L.length → j ≠ i → OrdAt h j)
  (h2 : ∀ j, 0 < j → j < h.L.length → (j - 1) / 2 = i → 0 < i → ahead h.S (h.at1 j) (h.at1 ((i - 1) / 2)) = false) : HOrd (h.upI i) := by
 induction i using Nat.strongRecOn generalizing h with
 | _ i ih =>
  rw [upI_eq]
  split
  ·rename_i hc
   simp only [Bool.and_eq_true, decide_eq_true_eq] at hc
   obtain ⟨hi0, hb⟩ := hc
   have hp : (i - 1) / 2 < h.L.length := by omega
   have hat := at1_swp h hi hp
   unfold bef at hb
   rw [ahead_iff] at hb
   refine ih ((i - 1) / 2) (by omega) _ (o.swp hi hp) (by simpa using hp) ?_ ?_
   ·intro j hj0 hj hjp
    rw [swp_len] at hj
    unfold OrdAt
    rw [hat, hat, swp_S, if_neg (Ne.symm hjp)]
    by_cases e1 : i = j
    ·subst e1
     simp only [if_true]
     rw [ahead_not]; omega
    ·rw [if_neg e1]
     by_cases e2 : (i - 1) / 2 = (j - 1) / 2
     ·rw [if_pos e2]
      have := h1 j hj0 hj (Ne.symm e1)
      unfold OrdAt at this
      rw [← e2, ahead_not] at this
      rw [ahead_not]; omega
     ·rw [if_neg e2]
      by_cases e3 : i = (j - 1) / 2
      ·rw [if_pos e3]
       exact h2 j hj0 hj e3.symm hi0
      ·rw [if_neg e3]
       exact h1 j hj0 hj (Ne.symm e1)
   ·intro j hj0 hj hjp hp0
    rw [swp_len] at hj
    rw [hat, hat, swp_S, if_neg (by omega : ¬ (i - 1) / 2 = j), if_neg (by omega : ¬ (i - 1) / 2 = ((i - 1) / 2 - 1) / 2), if_neg (by omega : ¬ i = ((i - 1) / 2 - 1) / 2)]
    have hpp := h1 ((i - 1) / 2) hp0 hp (by omega)
    unfold OrdAt at hpp
    by_cases e1 : i = j
    ·subst e1
     simp only [if_true]
     exact hpp
    ·rw [if_neg e1]
     have := h1 j hj0 hj (Ne.symm e1)
     unfold OrdAt at this
     rw [hjp, ahead_not] at this
     rw [ahead_not] at hpp
     rw [ahead_not]; omega
  ·rename_i hc
   intro j hj0 hj
   by_cases e : j = i
   ·subst e
    simp only [Bool.and_eq_true, decide_eq_true_eq, not_and] at hc
    have := hc hj0
    unfold bef at this
    unfold OrdAt
    simpa using this
   ·exact h1 j hj0 hj e
theorem kid_best {h : Hp} {i : Nat} (hi : ¬ h.L.length ≤ 2 * i + 1) : (h.kid i - 1) / 2 = i ∧ 0 < h.kid i ∧ ∀ j, 0 < j → j < h.L.length → (j - 1) / 2 = i → ahead h.S (h.at1 j) (h.at1 (h.kid i)) = false := by
 unfold kid
 by_cases hc : (decide (2 * i + 1 + 1 < h.L.length) && h.bef (2 * i + 1 + 1) (2 * i + 1)) = true
 ·rw [if_pos hc]
  simp only [Bool.and_eq_true, decide_eq_true_eq] at hc
  obtain ⟨hc1, hc2⟩ := hc
  unfold bef at hc2
  rw [ahead_iff] at hc2
  refine ⟨by omega, by omega, ?_⟩
  intro j hj0 hj hp
  have : j = 2 * i + 1 ∨ j = 2 * i + 1 + 1 := by omega
  rcases this with rfl | rfl
  ·rw [ahead_not]; omega
  ·rw [ahead_not]; omega
 ·rw [if_neg hc]
  simp only [Bool.and_eq_true, decide_eq_true_eq, not_and] at hc
  refine ⟨by omega, by omega, ?_⟩
  intro j hj0 hj hp
  have : j = 2 * i + 1 ∨ j = 2 * i + 1 + 1 := by omega
  rcases this with rfl | rfl
  ·rw [ahead_not]; omega
  ·have := hc hj
   unfold bef at this
   simpa using this
theorem dn_all (h : Hp) (o : h.Ok) (i : Nat) : (h.dn i).Ok ∧ ∀ a, (h.dn i).has a ↔ h.has a := by
 generalize hm : h.L.length - i = m
 induction m using Nat.strongRecOn generalizing h i with
 | _ m ih =>
  rw [dn_eq]
  split
  ·exact ⟨o, fun _ => Iff.rfl⟩
  ·rename_i hc
   obtain ⟨k1, k2⟩ := kid_lt hc
   split
   ·obtain ⟨q1, q2⟩ := ih (h.L.length - h.kid i) (by omega) (h.swp i (h.kid i)) (o.swp (by omega) k1) (h.kid i) (by simp)
    exact ⟨q1, fun a => (q2 a).trans (has_swp h (by omega) k1 a)⟩
   ·exact ⟨o, fun _ => Iff.rfl⟩
theorem dn_ord (m : Nat) (h : Hp) (o : h.Ok) (i : Nat) (hm : m ≤ i) (h1 : ∀ j, 0 < j → j < h.L.length → m ≤ (j - 1) / 2 → (j - 1) / 2 ≠ i → OrdAt h j)
  (h2 : ∀ j, 0 < j → j < h.L.length → (j - 1) / 2 = i → 0 < i → m ≤ (i - 1) / 2 → ahead h.S (h.at1 j) (h.at1 ((i - 1) / 2)) = false) : HFrom m (h.dn i) := by
 generalize hd : h.L.length - i = d
 induction d using Nat.strongRecOn generalizing h i with
 | _ d ih =>
  rw [dn_eq]
  by_cases hc : h.L.length ≤ 2 * i + 1
  ·rw [if_pos hc]
   intro j hj0 hj hjm
   exact h1 j hj0 hj hjm (by omega)
  ·rw [if_neg hc]
   obtain ⟨k1, k2⟩ := kid_lt hc
   obtain ⟨k3, k4, k5⟩ := kid_best hc
   generalize h.kid i = k at *
   have hi : i < h.L.length := by omega
   have hat := at1_swp h hi k1
   by_cases hb : h.bef k i = true
   ·rw [if_pos hb]
    unfold bef at hb
    rw [ahead_iff] at hb
    refine ih (h.L.length - k) (by omega) (h.swp i k) (o.swp hi k1) k (by omega) ?_ ?_ (by simp)
    ·intro j hj0 hj hjm hjk
     rw [swp_len] at hj
     unfold OrdAt
     rw [hat, hat, swp_S]
     by_cases e1 : k = j
     ·subst e1
      rw [if_pos rfl, k3, if_neg (by omega : ¬ k = i), if_pos rfl, ahead_not]
      omega
     ·rw [if_neg e1]
      by_cases e2 : i = j
      ·subst e2
       rw [if_pos rfl, if_neg (by omega : ¬ k = (i - 1) / 2), if_neg (by omega : ¬ i = (i - 1) / 2)]
       exact h2 k k4 k1 k3 hj0 hjm
      ·rw [if_neg e2, if_neg (Ne.symm hjk)]
       by_cases e3 : i = (j - 1) / 2
       ·rw [if_pos e3]
        exact k5 j hj0 hj e3.symm
       ·rw [if_neg e3]
        exact h1 j hj0 hj hjm (Ne.symm e3)
    ·intro j hj0 hj hjk hk0 hmk
     rw [swp_len] at hj
     rw [hat, hat, swp_S, if_neg (by omega : ¬ k = j), if_neg (by omega : ¬ i = j), k3, if_neg (by omega : ¬ k = i), if_pos rfl]
     have := h1 j hj0 hj (by omega) (by omega)
     unfold OrdAt at this
     rw [hjk] at this
     exact this
   ·rw [if_neg hb]
    have hb' : ahead h.S (h.at1 k) (h.at1 i) = false := by simpa [bef] using hb
    rw [ahead_not] at hb'
    intro j hj0 hj hjm
    by_cases e : (j - 1) / 2 = i
    ·have := k5 j hj0 hj e
     unfold OrdAt
     rw [e]
     rw [ahead_not] at this
     rw [ahead_not]; omega
    ·exact h1 j hj0 hj hjm e
theorem ordersTo_all : ∀ (n : Nat) (h : Hp), h.Ok → HFrom n h → (ordersTo n h).Ok ∧ HOrd (ordersTo n h) ∧ ∀ a, (ordersTo n h).has a ↔ h.has a
 | 0, h, o, hf => ⟨o, fun j h0 hj => hf j h0 hj (Nat.zero_le _), fun _ => Iff.rfl⟩
 | n + 1, h, o, hf => by
  obtain ⟨q1, q2⟩ := dn_all h o n
  have q3 : HFrom n (h.dn n) := dn_ord n h o n (Nat.le_refl _) (fun j h0 hj hm hne => hf j h0 hj (by omega)) (fun j _ _ _ _ _ => by omega)
  obtain ⟨r1, r2, r3⟩ := ordersTo_all n _ q1 q3
  exact ⟨r1, r2, fun a => (r3 a).trans (q2 a)⟩
theorem orders_all (h : Hp) (o : h.Ok) : h.orders.Ok ∧ HOrd h.orders ∧ ∀ a, h.orders.has a ↔ h.has a :=
 ordersTo_all _ h o (fun j _ _ _ => by omega)
theorem halve_all (h : Hp) (o : h.Ok) : h.halve.Ok ∧ HOrd h.halve ∧ (∀ a, h.halve.has a ↔ h.has a) := orders_all _ o.half
theorem first_ahead (h : Hp) (o : h.Ok) (ho : HOrd h) (j : Nat) (hj : j < h.L.length) (h0 : 0 < j) : ahead h.S (h.at1 0) (h.at1 j) = true := by
 have key : ∀ j, j < h.L.length → ahead h.S (h.at1 j) (h.at1 0) = false := by
  intro j
  induction j using Nat.strongRecOn with
  | _ j ih =>
   intro hj
   rcases Nat.eq_zero_or_pos j with rfl | h0
   ·rw [ahead_not]; omega
   ·have h1 := ih ((j - 1) / 2) (by omega) (by omega)
    have h2 := ho j h0 hj
    unfold OrdAt at h2
    rw [ahead_not] at h1 h2
    rw [ahead_not]; omega
 have h1 := key j hj
 have h2 : h.at1 j ≠ h.at1 0 := fun e => by have := o.inj hj (by omega) e; omega
 rw [ahead_not] at h1
 rw [ahead_iff]; omega
theorem pop_all (h : Hp) (o : h.Ok) (ho : HOrd h) (hL : 0 < h.L.length) :
  h.pop.Ok ∧ HOrd h.pop ∧ h.pop.S = h.S ∧ h.pop.L.length = h.L.length - 1 ∧ (∀ a, h.pop.has a ↔ h.has a ∧ a ≠ h.at1 0) ∧ (∀ a, h.pop.has a → ahead h.S (h.at1 0) a = true) ∧ h.has (h.at1 0) ∧ h.at1 0 < h.S.length := by
 have o1 := o.swp hL (k := h.L.length - 1) (by omega)
 have oless := o1.less (by simpa using hL)
 have hat0 := at1_swp h hL (show h.L.length - 1 < h.L.length by omega)
 have hlast : (h.swp 0 (h.L.length - 1)).at1 (h.L.length - 1) = h.at1 0 := by rw [hat0]; simp
 simp only [Hp.swp_len, hlast] at oless
 have hpop : h.pop = Hp.dn { h.swp 0 (h.L.length - 1) with L := (h.swp 0 (h.L.length - 1)).L.take (h.L.length - 1), A := (h.swp 0 (h.L.length - 1)).A.set (h.at1 0) (-1) } 0 := rfl
 obtain ⟨g, hg⟩ : ∃ g : Hp, g = { h.swp 0 (h.L.length - 1) with L := (h.swp 0 (h.L.length - 1)).L.take (h.L.length - 1), A := (h.swp 0 (h.L.length - 1)).A.set (h.at1 0) (-1) } := ⟨_, rfl⟩
 rw [← hg] at hpop oless
 have gS : g.S = h.S := by rw [hg]; rfl
 have gL : g.L.length = h.L.length - 1 := by rw [hg]; simp
 have gat : ∀ j, j < h.L.length - 1 → g.at1 j = if j = 0 then h.at1 (h.L.length - 1) else h.at1 j := by
  intro j hj
  have h1 : g.at1 j = (h.swp 0 (h.L.length - 1)).at1 j := by
   rw [hg]
   unfold at1
   simp only [List.getD_eq_getElem?_getD, List.getElem?_take, hj, if_true]
  rw [h1, hat0, if_neg (by omega)]
  by_cases e : j = 0
  ·subst e; simp
  ·rw [if_neg (Ne.symm e), if_neg e]
 have ghas : ∀ a, g.has a ↔ h.has a ∧ a ≠ h.at1 0 := by
  intro a
  constructor
  ·rintro ⟨j, hj, rfl⟩
   rw [gL] at hj
   rw [gat j hj]
   by_cases e : j = 0
   ·rw [if_pos e]
    exact ⟨⟨_, by omega, rfl⟩, fun e' => by have := o.inj (by omega) hL e'; omega⟩
   ·rw [if_neg e]
    exact ⟨⟨j, by omega, rfl⟩, fun e' => by have := o.inj (by omega) hL e'; omega⟩
  ·rintro ⟨⟨j, hj, rfl⟩, hne⟩
   have hj0 : j ≠ 0 := fun e => hne (by rw [e])
   by_cases e : j = h.L.length - 1
   ·exact ⟨0, by omega, by rw [gat 0 (by omega), if_pos rfl, e]⟩
   ·exact ⟨j, by omega, by rw [gat j (by omega), if_neg hj0]⟩
 clear hg
 obtain ⟨q1, q2⟩ := dn_all g oless 0
 have q3 : HFrom 0 (g.dn 0) := by
  refine dn_ord 0 g oless 0 (Nat.le_refl _) ?_ (fun j _ _ _ h0 => by omega)
  intro j hj0 hj _ hne
  rw [gL] at hj
  unfold OrdAt
  rw [gat j hj, gat _ (by omega), if_neg (by omega : ¬ j = 0), if_neg hne, gS]
  exact ho j hj0 (by omega)
 rw [hpop]
 refine ⟨q1, fun j h0 hj => q3 j h0 hj (Nat.zero_le _), by rw [dn_S, gS], by rw [dn_L, gL], fun a => (q2 a).trans (ghas a), ?_, ⟨0, hL, rfl⟩, o.lt hL⟩
 intro a ha
 obtain ⟨⟨j, hj, rfl⟩, hne⟩ := (ghas a).1 ((q2 a).1 ha)
 refine first_ahead h o ho j hj ?_
 rcases Nat.eq_zero_or_pos j with rfl | h0
 ·exact (hne rfl).elim
 ·exact h0
theorem push_all (h : Hp) (o : h.Ok) (ho : HOrd h) {x : Nat} (hx : x < h.S.length) (hz : h.A.getD x 0 < 0) :
  (h.push x).Ok ∧ HOrd (h.push x) ∧ (h.push x).S = h.S ∧ (h.push x).L.length = h.L.length + 1 ∧ ∀ a, (h.push x).has a ↔ h.has a ∨ a = x := by
 have om := o.more hx hz
 unfold push
 obtain ⟨g, hg⟩ : ∃ g : Hp, g = { h with A := h.A.set x (h.L.length : Int), L := h.L ++ [x] } := ⟨_, rfl⟩
 rw [← hg] at om ⊢
 have gS : g.S = h.S := by rw [hg]
 have gL : g.L.length = h.L.length + 1 := by rw [hg]; simp
 have gat : ∀ j, j < h.L.length → g.at1 j = h.at1 j := by
  intro j hj
  rw [hg]; unfold at1
  simp [List.getD_eq_getElem?_getD, List.getElem?_append, hj]
 have gatl : g.at1 h.L.length = x := by
  rw [hg]; unfold at1
  simp [List.getD_eq_getElem?_getD]
 clear hg
 have hlt : h.L.length < g.L.length := by omega
 obtain ⟨q1, q2, q3, q4⟩ := up_all g om h.L.length hlt
 refine ⟨q1, ?_, q2.trans gS, q3.trans gL, fun a => (q4 a).trans ?_⟩
 ·refine up_ord g om h.L.length hlt ?_ (fun j _ hj hp _ => by omega)
  intro j hj0 hj hne
  unfold OrdAt
  rw [gat j (by omega), gat _ (by omega), gS]
  exact ho j hj0 (by omega)
 ·constructor
  ·rintro ⟨j, hj, rfl⟩
   by_cases c : j < h.L.length
   ·exact .inl ⟨j, c, (gat j c).symm⟩
   ·have : j = h.L.length := by omega
    subst this
    exact .inr gatl
  ·rintro (⟨j, hj, rfl⟩ | rfl)
   ·exact ⟨j, by omega, gat j hj⟩
   ·exact ⟨_, hlt, gatl⟩
theorem A_neg {h : Hp} (o : h.Ok) {a : Nat} (ha : a < h.S.length) : h.A.getD a 0 < 0 ↔ ¬ h.has a := by
 constructor
 ·rintro hz ⟨j, hj, rfl⟩
  have := o.pos1 j hj; omega
 ·intro hn
  have := o.pos2 a ha (fun j hj e => hn ⟨j, hj, e⟩); omega
theorem room_all : ∀ (f : Nat) (h : Hp), h.Ok → HOrd h → ∀ (a y : Nat), (room f h a y).1.Ok ∧ HOrd (room f h a y).1 ∧ (room f h a y).1.S.length = h.S.length ∧ (∀ b, (room f h a y).1.has b ↔ h.has b)
 | 0, h, o, ho, _, _ => ⟨o, ho, rfl, fun _ => Iff.rfl⟩
 | f + 1, h, o, ho, a, y => by
  rw [room]
  split
  ·obtain ⟨q1, q2, q3⟩ := halve_all h o
   obtain ⟨r1, r2, r3, r4⟩ := room_all f h.halve q1 q2 a (y / 2)
   exact ⟨r1, r2, by rw [r3, halve_S]; simp, fun b => (r4 b).trans (q3 b)⟩
  ·exact ⟨o, ho, rfl, fun _ => Iff.rfl⟩
theorem bump_all (h : Hp) (o : h.Ok) (ho : HOrd h) {a : Nat} (ha : a < h.S.length) (y : Nat) (hsum : (room y h a y).1.sc a + (room y h a y).2 ≤ Hp.most) :
  (h.bump a y).Ok ∧ HOrd (h.bump a y) ∧ (h.bump a y).S = (room y h a y).1.S.set a ((room y h a y).1.sc a + (room y h a y).2) ∧ ∀ b, (h.bump a y).has b ↔ h.has b := by
 obtain ⟨r1, r2, r3, r4⟩ := room_all y h o ho a y
 unfold bump
 generalize room y h a y = r at *
 obtain ⟨g, y'⟩ := r
 simp only at *
 have og := r1.setS a (g.sc a + y') hsum
 obtain ⟨g', hg'⟩ : ∃ g' : Hp, g' = { g with S := g.S.set a (g.sc a + y') } := ⟨_, rfl⟩
 rw [← hg'] at og
 have gS : g'.S = g.S.set a (g.sc a + y') := by rw [hg']
 have gL : g'.L = g.L := by rw [hg']
 have gA : g'.A = g.A := by rw [hg']
 have gat : ∀ j, g'.at1 j = g.at1 j := fun j => by unfold at1; rw [gL]
 have ghas : ∀ b, g'.has b ↔ g.has b := fun b => by unfold has; simp only [gL, gat]
 have hget : ∀ b, g'.S.getD b 0 = if a = b then g.S.getD a 0 + y' else g.S.getD b 0 := fun b => by rw [gS, getD_set _ _ _ _ _ (by omega)]; rfl
 -- the order may fail at the place of a alone
 have hord : ∀ j, 0 < j → j < g'.L.length → g'.at1 j ≠ a → OrdAt g' j := by
  intro j hj0 hj hne
  have := r2 j hj0 (by rwa [← gL])
  unfold OrdAt at this ⊢
  rw [gat, gat]
  rw [gat] at hne
  rw [ahead_not] at this
  rw [ahead_not, hget, hget, if_neg (Ne.symm hne)]
  split
  ·rename_i e; rw [← e] at this ⊢; omega
  ·exact this
 have hSlen : a < g'.S.length := by rw [gS]; simp; omega
 rw [← hg']
 by_cases c : g.A.getD a 0 < 0
 ·rw [if_pos c]
  refine ⟨og, ?_, gS, fun b => (ghas b).trans (r4 b)⟩
  intro j hj0 hj
  refine hord j hj0 hj fun e => ?_
  exact (A_neg r1 (by omega)).1 c ⟨j, by rwa [← gL], by rw [← gat]; exact e⟩
 ·rw [if_neg c]
  have hpl := og.place hSlen (by rw [gA]; omega)
  rw [gA] at hpl
  obtain ⟨p1, p2⟩ := hpl
  generalize (g.A.getD a 0).toNat = i at *
  obtain ⟨q1, q2, q3, q4⟩ := up_all g' og i p1
  refine ⟨q1, ?_, q2.trans gS, fun b => (q4 b).trans ((ghas b).trans (r4 b))⟩
  refine up_ord g' og i p1 ?_ ?_
  ·intro j hj0 hj hne
   refine hord j hj0 hj fun e => hne ?_
   exact og.inj hj p1 (e.trans p2.symm)
  ·intro j hj0 hj hp hi0
   have e1 := hord j hj0 hj (fun e => by have := og.inj hj p1 (e.trans p2.symm); omega)
   have e2 := r2 i hi0 (by rwa [← gL])
   have e3 := r2 j hj0 (by rwa [← gL])
   have hne : g'.at1 j ≠ a := fun e => by have := og.inj hj p1 (e.trans p2.symm); omega
   have hne2 : g'.at1 ((i - 1) / 2) ≠ a := fun e => by have := og.inj (by omega) p1 (e.trans p2.symm); omega
   unfold OrdAt at e2 e3
   rw [hp] at e3
   rw [ahead_not] at e2 e3
   rw [ahead_not, hget, hget, if_neg (Ne.symm hne), if_neg (Ne.symm hne2), gat, gat]
   omega
end Hp
end Go.Proofs.YtjedgdamommgeaaGreat.Hq
