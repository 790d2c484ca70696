/- The heap of package heap, as plain functions on lists: what its methods compute. -/
namespace Go.Proofs.Ytgbdmembacjooaa

/-- l (atoms, from 0 on), at, score. -/
structure Hp where
  L : List Nat
  A : List Int
  S : List Nat

namespace Hp

def at1 (h : Hp) (i : Nat) : Nat := h.L.getD i 0
def sc (h : Hp) (a : Nat) : Nat := h.S.getD a 0

/-- a comes ahead of b -/
def ahead (S : List Nat) (a b : Nat) : Bool := decide (S.getD b 0 < S.getD a 0) || (S.getD a 0 == S.getD b 0 && decide (a < b))

def bef (h : Hp) (i k : Nat) : Bool := ahead h.S (h.at1 i) (h.at1 k)

def swp (h : Hp) (i k : Nat) : Hp :=
  { L := (h.L.set i (h.at1 k)).set k (h.at1 i), A := (h.A.set (h.at1 i) (k : Int)).set (h.at1 k) (i : Int), S := h.S }

def up : Nat → Hp → Nat → Hp
  | 0, h, _ => h
  | f + 1, h, i => if decide (0 < i) && h.bef i ((i - 1) / 2) then up f (h.swp i ((i - 1) / 2)) ((i - 1) / 2) else h

/-- the child to go on with -/
def kid (h : Hp) (i : Nat) : Nat := if decide (2 * i + 1 + 1 < h.L.length) && h.bef (2 * i + 1 + 1) (2 * i + 1) then 2 * i + 1 + 1 else 2 * i + 1

def down : Nat → Hp → Nat → Hp
  | 0, h, _ => h
  | f + 1, h, i =>
    if h.L.length ≤ 2 * i + 1 then h
    else if h.bef (h.kid i) i then down f (h.swp i (h.kid i)) (h.kid i) else h

def dn (h : Hp) (i : Nat) : Hp := down h.L.length h i

def upI (h : Hp) (i : Nat) : Hp := up i h i

/-- down(n - 1), .., down(0) -/
def ordersTo : Nat → Hp → Hp
  | 0, h => h
  | n + 1, h => ordersTo n (h.dn n)

def orders (h : Hp) : Hp := ordersTo (h.L.length / 2) h

def halve (h : Hp) : Hp := orders { h with S := h.S.map (· / 2) }

def most : Nat := 4611686018427387904

/-- the loop ahead of a bump; f rounds at most ('room by h a by': enough) -/
def room : Nat → Hp → Nat → Nat → Hp × Nat
  | 0, h, _, by_ => (h, by_)
  | f + 1, h, a, by_ => if decide (most < by_) || decide (most < h.sc a + by_) then room f h.halve a (by_ / 2) else (h, by_)

def bump (h : Hp) (a by_ : Nat) : Hp :=
  let r := room by_ h a by_
  let h1 : Hp := { r.1 with S := r.1.S.set a (r.1.sc a + r.2) }
  if h1.A.getD a 0 < 0 then h1 else upI h1 (h1.A.getD a 0).toNat

def push (h : Hp) (a : Nat) : Hp :=
  upI { h with A := h.A.set a (h.L.length : Int), L := h.L ++ [a] } h.L.length

def pop (h : Hp) : Hp :=
  let a := h.at1 0
  let h1 := h.swp 0 (h.L.length - 1)
  let h2 : Hp := { h1 with L := h1.L.take (h.L.length - 1), A := h1.A.set a (-1) }
  h2.dn 0

def new (n : Nat) : Hp := { L := List.range n, A := (List.range n).map (fun (i : Nat) => (i : Int)), S := List.replicate n 0 }

/-- what all methods keep -/
structure Ok (h : Hp) : Prop where
  len : h.A.length = h.S.length
  le : h.L.length ≤ h.S.length
  n : h.S.length ≤ 65536
  mem : ∀ a ∈ h.L, a < h.S.length
  most : ∀ s ∈ h.S, s ≤ Hp.most
  pos1 : ∀ j, j < h.L.length → h.A.getD (h.at1 j) 0 = j
  pos2 : ∀ a, a < h.S.length → (∀ j, j < h.L.length → h.at1 j ≠ a) → h.A.getD a 0 = -1

theorem Ok.lt {h : Hp} (o : h.Ok) {i : Nat} (hi : i < h.L.length) : h.at1 i < h.S.length := by
  unfold at1
  rw [List.getD_eq_getElem?_getD, List.getElem?_eq_getElem hi]
  exact o.mem _ (List.getElem_mem hi)

@[simp] theorem swp_S (h : Hp) (i k : Nat) : (h.swp i k).S = h.S := rfl
@[simp] theorem swp_len (h : Hp) (i k : Nat) : (h.swp i k).L.length = h.L.length := by simp [swp]
@[simp] theorem swp_alen (h : Hp) (i k : Nat) : (h.swp i k).A.length = h.A.length := by simp [swp]

theorem mem_set' {l : List Nat} {i x a : Nat} (h : a ∈ l.set i x) : a ∈ l ∨ a = x := List.mem_or_eq_of_mem_set h

theorem at1_mem {h : Hp} {i : Nat} (hi : i < h.L.length) : h.at1 i ∈ h.L := by
  unfold at1
  rw [List.getD_eq_getElem?_getD, List.getElem?_eq_getElem hi]
  exact List.getElem_mem hi

theorem getD_set {α : Type} (l : List α) (i j : Nat) (x d : α) (hi : i < l.length) : (l.set i x).getD j d = if i = j then x else l.getD j d := by
  simp only [List.getD_eq_getElem?_getD, List.getElem?_set]
  split
  · rename_i e; subst e; simp [hi]
  · rfl

theorem at1_swp (h : Hp) {i k : Nat} (hi : i < h.L.length) (hk : k < h.L.length) (j : Nat) : (h.swp i k).at1 j = if k = j then h.at1 i else if i = j then h.at1 k else h.at1 j := by
  unfold swp
  show ((h.L.set i (h.at1 k)).set k (h.at1 i)).getD j 0 = _
  rw [getD_set _ _ _ _ _ (by simpa using hk), getD_set _ _ _ _ _ hi]
  rfl

theorem Ok.inj {h : Hp} (o : h.Ok) {i k : Nat} (hi : i < h.L.length) (hk : k < h.L.length) (e : h.at1 i = h.at1 k) : i = k := by
  have h1 := o.pos1 i hi
  have h2 := o.pos1 k hk
  rw [e, h2] at h1
  omega

theorem Ok.A_swp {h : Hp} (o : h.Ok) {i k : Nat} (hi : i < h.L.length) (hk : k < h.L.length) (a : Nat) :
    (h.swp i k).A.getD a 0 = if h.at1 k = a then (i : Int) else if h.at1 i = a then (k : Int) else h.A.getD a 0 := by
  have h1 := o.lt hi
  have h2 := o.lt hk
  have hl := o.len
  unfold Hp.swp
  show ((h.A.set (h.at1 i) (k : Int)).set (h.at1 k) (i : Int)).getD a 0 = _
  rw [getD_set _ _ _ _ _ (by simp; omega), getD_set _ _ _ _ _ (by omega)]

theorem Ok.swp {h : Hp} (o : h.Ok) {i k : Nat} (hi : i < h.L.length) (hk : k < h.L.length) : (h.swp i k).Ok where
  pos1 := by
    intro j hj
    rw [swp_len] at hj
    rw [o.A_swp hi hk, at1_swp h hi hk]
    by_cases e1 : k = j
    · subst e1
      simp only [if_true]
      by_cases e2 : h.at1 k = h.at1 i
      · rw [if_pos e2]; have := o.inj hk hi e2; omega
      · rw [if_neg e2]
    · rw [if_neg e1]
      by_cases e2 : i = j
      · subst e2; simp
      · rw [if_neg e2, if_neg (fun e => e1 (o.inj hk hj e)), if_neg (fun e => e2 (o.inj hi hj e))]
        exact o.pos1 j hj
  pos2 := by
    intro a ha hne
    rw [swp_len] at hne
    have hk' := hne k hk
    have hi' := hne i hi
    rw [at1_swp h hi hk] at hk' hi'
    simp only [if_true] at hk' hi'
    have hy : h.at1 k ≠ a := by
      by_cases e : k = i
      · subst e; simpa using hk'
      · simpa [e] using hi'
    rw [o.A_swp hi hk, if_neg hy, if_neg hk']
    refine o.pos2 a ha fun j hj => ?_
    have := hne j hj
    rw [at1_swp h hi hk] at this
    by_cases e1 : k = j
    · subst e1; exact hy
    · by_cases e2 : i = j
      · subst e2; exact hk'
      · simpa [e1, e2] using this
  len := by simp [o.len]
  le := by simpa using o.le
  n := o.n
  mem := by
    intro a ha
    rcases mem_set' ha with ha | rfl
    · rcases mem_set' ha with ha | rfl
      · exact o.mem a ha
      · exact o.lt hk
    · exact o.lt hi
  most := o.most

theorem up_fuel : ∀ (f g : Nat) (h : Hp) (i : Nat), i ≤ f → i ≤ g → up f h i = up g h i
  | 0, 0, _, _, _, _ => rfl
  | 0, g + 1, h, i, hf, _ => by
    have : i = 0 := by omega
    subst this; simp [up]
  | f + 1, 0, h, i, _, hg => by
    have : i = 0 := by omega
    subst this; simp [up]
  | f + 1, g + 1, h, i, hf, hg => by
    simp only [up]
    split
    · rename_i hc
      have : 0 < i := by simp at hc; exact hc.1
      exact up_fuel f g _ _ (by omega) (by omega)
    · rfl

theorem upI_eq (h : Hp) (i : Nat) : upI h i = if decide (0 < i) && h.bef i ((i - 1) / 2) then upI (h.swp i ((i - 1) / 2)) ((i - 1) / 2) else h := by
  unfold upI
  cases i with
  | zero => simp [up]
  | succ i =>
    rw [up]
    split
    · exact up_fuel _ _ _ _ (by omega) (by omega)
    · rfl

theorem kid_lt {h : Hp} {i : Nat} (hi : ¬ h.L.length ≤ 2 * i + 1) : h.kid i < h.L.length ∧ i < h.kid i := by
  unfold kid
  split
  · rename_i hc; simp at hc; omega
  · omega

theorem down_fuel : ∀ (f g : Nat) (h : Hp) (i : Nat), h.L.length ≤ f + i → h.L.length ≤ g + i → down f h i = down g h i
  | 0, 0, _, _, _, _ => rfl
  | 0, g + 1, h, i, hf, _ => by rw [down, down, if_pos (by omega)]
  | f + 1, 0, h, i, _, hg => by rw [down, down, if_pos (by omega)]
  | f + 1, g + 1, h, i, hf, hg => by
    simp only [down]
    split
    · rfl
    · rename_i hc
      have := kid_lt hc
      split
      · exact down_fuel f g _ _ (by simp; omega) (by simp; omega)
      · rfl

theorem dn_eq (h : Hp) (i : Nat) : dn h i = if h.L.length ≤ 2 * i + 1 then h else if h.bef (h.kid i) i then dn (h.swp i (h.kid i)) (h.kid i) else h := by
  unfold dn
  by_cases hn : h.L.length = 0
  · simp [hn, down]
  · obtain ⟨f, hf⟩ : ∃ f, h.L.length = f + 1 := ⟨h.L.length - 1, by omega⟩
    conv => lhs; rw [hf, down]
    split
    · rfl
    · rename_i hc
      have := kid_lt hc
      split
      · exact down_fuel _ _ _ _ (by simp; omega) (by simp)
      · rfl

theorem dn_S (h : Hp) (i : Nat) : (h.dn i).S = h.S := by
  unfold dn
  generalize h.L.length = f
  induction f generalizing h i with
  | zero => rfl
  | succ f ih =>
    simp only [down]
    split
    · rfl
    · split
      · rw [ih]; rfl
      · rfl

theorem down_L (f : Nat) (h : Hp) (i : Nat) : (down f h i).L.length = h.L.length := by
  induction f generalizing h i with
  | zero => rfl
  | succ f ih =>
    simp only [down]
    split
    · rfl
    · split
      · rw [ih]; simp
      · rfl

theorem dn_L (h : Hp) (i : Nat) : (h.dn i).L.length = h.L.length := down_L _ h i

theorem ordersTo_S : ∀ (n : Nat) (h : Hp), (ordersTo n h).S = h.S
  | 0, _ => rfl
  | n + 1, h => by rw [ordersTo, ordersTo_S n, dn_S]

theorem ordersTo_L : ∀ (n : Nat) (h : Hp), (ordersTo n h).L.length = h.L.length
  | 0, _ => rfl
  | n + 1, h => by rw [ordersTo, ordersTo_L n, dn_L]

theorem halve_S (h : Hp) : h.halve.S = h.S.map (· / 2) := by unfold halve orders; rw [ordersTo_S]

theorem sc_halve (h : Hp) (a : Nat) : h.halve.sc a = h.sc a / 2 := by
  unfold sc
  rw [halve_S]
  simp [List.getD_eq_getElem?_getD, List.getElem?_map]
  cases h.S[a]? <;> simp

theorem Ok.sc_le {h : Hp} (o : h.Ok) (a : Nat) : h.sc a ≤ Hp.most := by
  unfold sc
  rw [List.getD_eq_getElem?_getD]
  cases ha : h.S[a]? with
  | none => simp
  | some s => exact o.most s (List.mem_of_getElem? ha)

theorem Ok.half {h : Hp} (o : h.Ok) : ({ h with S := h.S.map (· / 2) } : Hp).Ok where
  pos1 := o.pos1
  pos2 := by intro a ha; exact o.pos2 a (by simpa using ha)
  len := by simp [o.len]
  le := by simpa using o.le
  n := by simpa using o.n
  mem := by simpa using o.mem
  most := by
    intro s hs
    simp only [List.mem_map] at hs
    obtain ⟨t, ht, rfl⟩ := hs
    have := o.most t ht
    omega

/-- fuel does not matter once it is enough -/
theorem room_fuel : ∀ (f g : Nat) (h : Hp) (a y : Nat), (h.sc a ≤ Hp.most) → y ≤ f → y ≤ g → room f h a y = room g h a y
  | 0, 0, _, _, _, _, _, _ => rfl
  | 0, g + 1, h, a, y, hm, hf, _ => by
    have : y = 0 := by omega
    subst this
    rw [room, room, if_neg (by simp; omega)]
  | f + 1, 0, h, a, y, hm, _, hg => by
    have : y = 0 := by omega
    subst this
    rw [room, room, if_neg (by simp; omega)]
  | f + 1, g + 1, h, a, y, hm, hf, hg => by
    simp only [room]
    split
    · rename_i hc
      have : 0 < y := by
        rcases Nat.eq_zero_or_pos y with rfl | h0
        · simp at hc; omega
        · exact h0
      exact room_fuel f g _ _ _ (by rw [sc_halve]; omega) (by omega) (by omega)
    · rfl

/-- the place of an atom that is in -/
theorem Ok.place {h : Hp} (o : h.Ok) {a : Nat} (ha : a < h.S.length) (hz : 0 ≤ h.A.getD a 0) : (h.A.getD a 0).toNat < h.L.length ∧ h.at1 (h.A.getD a 0).toNat = a := by
  by_cases c : ∀ j, j < h.L.length → h.at1 j ≠ a
  · have := o.pos2 a ha c; omega
  · have ⟨j, hj⟩ := Classical.not_forall.1 c
    have ⟨hj1, hj2⟩ := Classical.not_imp.1 hj
    have hj2 := Classical.not_not.1 hj2
    subst hj2
    rw [o.pos1 j hj1]
    exact ⟨by simpa using hj1, by simp⟩

theorem Ok.nodup {h : Hp} (o : h.Ok) : h.L.Nodup := by
  rw [List.nodup_iff_pairwise_ne, List.pairwise_iff_getElem]
  intro i j hi hj hij e
  have := o.inj hi hj (by unfold at1; simp [List.getD_eq_getElem?_getD, hi, hj, e])
  omega

theorem Ok.setS {h : Hp} (o : h.Ok) (a v : Nat) (hv : v ≤ Hp.most) : ({ h with S := h.S.set a v } : Hp).Ok where
  len := by simp [o.len]
  le := by simpa using o.le
  n := by simpa using o.n
  mem := by simpa using o.mem
  most := by
    intro s hs
    rcases mem_set' hs with hs | rfl
    · exact o.most s hs
    · exact hv
  pos1 := o.pos1
  pos2 := by intro b hb; exact o.pos2 b (by simpa using hb)

theorem Ok.free {h : Hp} (o : h.Ok) {a : Nat} (_ha : a < h.S.length) (hz : h.A.getD a 0 < 0) : a ∉ h.L := by
  intro hm
  obtain ⟨j, hj, e⟩ := List.getElem_of_mem hm
  have := o.pos1 j hj
  have e2 : h.at1 j = a := by unfold at1; simp [List.getD_eq_getElem?_getD, hj, e]
  rw [e2] at this
  omega

theorem Ok.more {h : Hp} (o : h.Ok) {a : Nat} (ha : a < h.S.length) (hz : h.A.getD a 0 < 0) : ({ h with A := h.A.set a (h.L.length : Int), L := h.L ++ [a] } : Hp).Ok := by
  have hf := o.free ha hz
  have hlen := o.len
  have hat : ∀ j, ({ h with A := h.A.set a (h.L.length : Int), L := h.L ++ [a] } : Hp).at1 j = if j < h.L.length then h.at1 j else if j = h.L.length then a else 0 := by
    intro j
    unfold at1
    simp only [List.getD_eq_getElem?_getD, List.getElem?_append]
    split
    · rfl
    · split
      · rename_i h1; subst h1; simp
      · rename_i h1 h2
        have : 1 ≤ j - h.L.length := by omega
        rw [List.getElem?_eq_none (by simpa using this)]; rfl
  refine ⟨by simp [o.len], ?_, o.n, ?_, o.most, ?_, ?_⟩
  · have h1 : (h.L ++ [a]).Nodup := by
      rw [List.nodup_append]
      exact ⟨o.nodup, by simp, by intro x hx y hy; simp at hy; subst hy; exact fun e => hf (e ▸ hx)⟩
    have h2 := h1.length_le_of_subset (l₂ := List.range h.S.length) (by
      intro x hx
      simp at hx
      rcases hx with hx | rfl
      · simpa using o.mem x hx
      · simpa using ha)
    simpa using h2
  · intro x hx
    simp at hx
    rcases hx with hx | rfl
    · exact o.mem x hx
    · exact ha
  · intro j hj
    simp only [List.length_append, List.length_cons, List.length_nil] at hj
    rw [hat]
    show (h.A.set a (h.L.length : Int)).getD _ 0 = _
    rw [getD_set _ _ _ _ _ (by omega)]
    by_cases c : j < h.L.length
    · rw [if_pos c, if_neg (fun e => hf (by rw [e]; exact at1_mem c))]
      exact o.pos1 j c
    · have : j = h.L.length := by omega
      subst this
      simp
  · intro x hx hne
    simp only [List.length_append, List.length_cons, List.length_nil] at hne
    have h1 := hne h.L.length (by omega)
    rw [hat] at h1
    simp at h1
    show (h.A.set a (h.L.length : Int)).getD _ 0 = _
    rw [getD_set _ _ _ _ _ (by omega), if_neg h1]
    refine o.pos2 x hx fun j hj => ?_
    have := hne j (by omega)
    rw [hat, if_pos hj] at this
    exact this

/-- the last one taken off -/
theorem Ok.less {h : Hp} (o : h.Ok) (hl : 0 < h.L.length) : ({ h with L := h.L.take (h.L.length - 1), A := h.A.set (h.at1 (h.L.length - 1)) (-1) } : Hp).Ok := by
  have hlen := o.len
  have hlt := o.lt (i := h.L.length - 1) (by omega)
  have hat : ∀ j, j < h.L.length - 1 → ({ h with L := h.L.take (h.L.length - 1), A := h.A.set (h.at1 (h.L.length - 1)) (-1) } : Hp).at1 j = h.at1 j := by
    intro j hj
    unfold at1
    simp only [List.getD_eq_getElem?_getD, List.getElem?_take, hj, if_true]
  refine ⟨by simp [o.len], ?_, o.n, ?_, o.most, ?_, ?_⟩
  · have := o.le; simp; omega
  · intro x hx; exact o.mem x (List.mem_of_mem_take hx)
  · intro j hj
    simp only [List.length_take] at hj
    rw [hat j (by omega)]
    show (h.A.set _ (-1)).getD _ 0 = _
    rw [getD_set _ _ _ _ _ (by omega), if_neg (fun e => by have := o.inj (by omega) (by omega) e; omega)]
    exact o.pos1 j (by omega)
  · intro x hx hne
    simp only [List.length_take] at hne
    show (h.A.set _ (-1)).getD _ 0 = _
    rw [getD_set _ _ _ _ _ (by omega)]
    split
    · rfl
    · rename_i h1
      refine o.pos2 x hx fun j hj => ?_
      by_cases c : j < h.L.length - 1
      · have := hne j (by omega)
        rw [hat j c] at this
        exact this
      · have : j = h.L.length - 1 := by omega
        subst this
        exact h1

theorem new_ok (n : Nat) (hn : n ≤ 65536) : (new n).Ok := by
  have hat : ∀ j, j < n → (new n).at1 j = j := by
    intro j hj
    simp [new, at1, List.getD_eq_getElem?_getD, hj]
  have hA : ∀ a, a < n → (new n).A.getD a 0 = (a : Int) := by
    intro a ha
    simp [new, List.getD_eq_getElem?_getD, ha]
  refine ⟨by simp [new], by simp [new], by simpa [new] using hn, ?_, ?_, ?_, ?_⟩
  · intro a ha; simpa [new] using ha
  · intro s hs; simp [new] at hs; omega
  · intro j hj
    have hj : j < n := by simpa [new] using hj
    rw [hat j hj, hA j hj]
  · intro a ha hne
    have ha : a < n := by simpa [new] using ha
    exact (hne a (by simpa [new] using ha) (hat a ha)).elim

def roomI (h : Hp) (a y : Nat) : Hp × Nat := room y h a y

theorem roomI_eq (h : Hp) (a y : Nat) (hm : h.sc a ≤ Hp.most) : roomI h a y = if decide (most < y) || decide (most < h.sc a + y) then roomI h.halve a (y / 2) else (h, y) := by
  unfold roomI
  cases y with
  | zero => rw [room, if_neg (by simp; omega)]
  | succ y =>
    rw [room]
    split
    · exact room_fuel _ _ _ _ _ (by rw [sc_halve]; omega) (by omega) (by omega)
    · rfl

end Hp
end Go.Proofs.Ytgbdmembacjooaa
