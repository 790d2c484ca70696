/- Visiting a literal, in plain Lean. -/
import Derived.Test.YtjbfgafkjejdjaaPropP2
namespace Go.Proofs.Ytjbfgafkjejdjaa
namespace Tr
open Cnf

theorem findM_some {T : Trail} {c : List Int} : ∀ {ks : List Nat} {j : Nat}, T.findM c ks = some j → j ∈ ks ∧ 0 ≤ T.val (c.getD j 0)
  | [], j, h => by simp [Trail.findM] at h
  | k :: r, j, h => by
    unfold Trail.findM at h
    split at h
    · rename_i hc
      obtain rfl := Option.some.inj h
      exact ⟨List.mem_cons_self, hc⟩
    · have := findM_some h
      exact ⟨List.mem_cons_of_mem _ this.1, this.2⟩
theorem findM_none {T : Trail} {c : List Int} : ∀ {ks : List Nat}, T.findM c ks = none → ∀ j ∈ ks, T.val (c.getD j 0) < 0
  | [], _, j, hj => by cases hj
  | k :: r, h, j, hj => by
    unfold Trail.findM at h
    split at h
    · simp at h
    · rename_i hc
      rcases List.mem_cons.1 hj with e | e
      · subst e; omega
      · exact findM_none h j e

theorem mem_range_drop {n a j : Nat} : j ∈ (List.range n).drop a ↔ a ≤ j ∧ j < n := by
  rw [List.mem_drop_iff_getElem]
  constructor
  · rintro ⟨i, hi, h⟩
    simp at h hi
    omega
  · rintro ⟨h1, h2⟩
    exact ⟨j - a, by simp; omega, by simp; omega⟩

theorem Ok.one {T : Trail} (o : Ok T) {x : Int} : T.val x = 1 ↔ x ∈ T.lits := o.good.one
theorem Ok.neg1 {T : Trail} (o : Ok T) {x : Int} : T.val x = -1 ↔ -x ∈ T.lits := o.good.neg
theorem val3 (T : Trail) (x : Int) : T.val x = 0 ∨ T.val x = 1 ∨ T.val x = -1 := value_range T.lits x
theorem Ok.neg_of {T : Trail} (o : Ok T) {x : Int} (h : T.val x < 0) : -x ∈ T.lits := o.neg1.1 (by have := val3 T x; omega)
theorem Ok.both {T : Trail} (o : Ok T) {x : Int} (h1 : x ∈ T.lits) (h2 : -x ∈ T.lits) : False := o.good.cons h1 h2

/-- what following leaves as it was -/
structure Ext (T U : Trail) : Prop where
  n : U.n = T.n
  gone : U.gone = T.gone
  levels : U.levels = T.levels
  len : U.cls.length = T.cls.length
  perm : ∀ m, (U.cl m).Perm (T.cl m)
  ents : ∃ r, U.ents = T.ents ++ r

theorem Ext.refl (T : Trail) : Ext T T := ⟨rfl, rfl, rfl, rfl, fun _ => List.Perm.refl _, ⟨[], by simp⟩⟩
theorem Ext.trans {T U W : Trail} (h : Ext T U) (k : Ext U W) : Ext T W := by
  obtain ⟨r, hr⟩ := h.ents
  obtain ⟨s, hs⟩ := k.ents
  exact ⟨k.n.trans h.n, k.gone.trans h.gone, k.levels.trans h.levels, k.len.trans h.len, fun m => (k.perm m).trans (h.perm m), ⟨r ++ s, by rw [hs, hr, List.append_assoc]⟩⟩
theorem Ext.lits {T U : Trail} (h : Ext T U) : ∃ r, U.lits = T.lits ++ r := by
  obtain ⟨r, hr⟩ := h.ents
  exact ⟨r.map (·.1), by unfold Trail.lits; rw [hr, List.map_append]⟩
theorem Ext.sub {T U : Trail} (h : Ext T U) {x : Int} (hx : x ∈ T.lits) : x ∈ U.lits := by
  obtain ⟨r, hr⟩ := h.lits
  rw [hr]; exact List.mem_append_left _ hx
theorem Ext.live {T U : Trail} (h : Ext T U) (k : Nat) : U.live k ↔ T.live k := by unfold Trail.live; rw [h.len, h.gone]

/-- .. and visiting too -/
structure ExtV (T U : Trail) : Prop where
  ext : Ext T U
  next : U.next = T.next
  short : U.short = T.short
  weak : U.weak = T.weak
theorem ExtV.refl (T : Trail) : ExtV T T := ⟨Ext.refl T, rfl, rfl, rfl⟩
theorem ExtV.trans {T U W : Trail} (h : ExtV T U) (k : ExtV U W) : ExtV T W := ⟨h.ext.trans k.ext, k.next.trans h.next, k.short.trans h.short, k.weak.trans h.weak⟩
theorem ExtV.setW (T : Trail) (p : Nat) (l : List Nat) : ExtV T (T.setW p l) := ⟨⟨rfl, rfl, rfl, rfl, fun _ => List.Perm.refl _, ⟨[], by simp [Trail.setW]⟩⟩, rfl, rfl, rfl⟩
theorem ExtV.setC {T : Trail} {k : Nat} (hk : k < T.cls.length) {c : List Int} (hp : c.Perm (T.cl k)) : ExtV T (T.setC k c) :=
  ⟨⟨rfl, rfl, rfl, by simp [Trail.setC], fun m => by
    rw [setC_cl hk]
    split
    · rename_i e; subst e; exact hp
    · exact List.Perm.refl _, ⟨[], by simp [Trail.setC]⟩⟩, rfl, rfl, rfl⟩
theorem ExtV.put (T : Trail) (l r : Int) : ExtV T (T.put l r) := ⟨⟨rfl, rfl, rfl, rfl, fun _ => List.Perm.refl _, ⟨_, rfl⟩⟩, rfl, rfl, rfl⟩
theorem ExtV.moveTo {T : Trail} {k j : Nat} (hk : k < T.cls.length) (h1 : 1 < (T.cl k).length) (hj : j < (T.cl k).length) : ExtV T (T.moveTo k j) :=
  ⟨⟨rfl, rfl, rfl, by simp [Trail.moveTo], fun m => by
    have := setC_cl hk (swapL (T.cl k) 1 j) m
    show ((T.setC k (swapL (T.cl k) 1 j)).cl m).Perm _
    rw [this]
    split
    · rename_i e; subst e; exact swapL_perm _ h1 hj
    · exact List.Perm.refl _, ⟨[], by simp [Trail.moveTo]⟩⟩, rfl, rfl, rfl⟩

/-- in the midst of a visit -/
structure VI (l : Int) (T : Trail) (kept r : List Nat) : Prop where
  inv : Inv (T.setW (place l) (kept ++ r))
  hl : l ≠ 0 ∧ l.natAbs ≤ T.n
  fal : -l ∈ T.lits
  kep : ∀ k ∈ kept, 2 ≤ (T.cl k).length ∧ (T.cl k).getD 1 0 = l ∧ (T.cl k).getD 0 0 ∈ T.lits

/-- what visiting leaves -/
structure VPost (l : Int) (T U : Trail) (z : Int) : Prop where
  inv : Inv U
  ext : ExtV T U
  end_ : (z = -1 ∧ ∀ k ∈ U.wt (place l), 2 ≤ (U.cl k).length ∧ (U.cl k).getD 1 0 = l ∧ (U.cl k).getD 0 0 ∈ U.lits) ∨
    (∃ k : Nat, z = k ∧ U.live k ∧ ∀ x ∈ U.cl k, -x ∈ U.lits)

theorem VPost.pre {l : Int} {T T1 U : Trail} {z : Int} (h : VPost l T1 U z) (e : ExtV T T1) : VPost l T U z := ⟨h.inv, e.trans h.ext, h.end_⟩

/-- one clause of a visit -/
structure VStep (l : Int) (T : Trail) (kept r : List Nat) (k : Nat) : Prop where
  hk : k < T.cls.length
  live : T.live k
  good : Up.Good T.n (turn l (T.cl k))
  inv1 : Inv ((T.setC k (turn l (T.cl k))).setW (place l) (kept ++ k :: r))
  c1 : 1 < (T.cl k).length → (turn l (T.cl k)).getD 1 0 = l ∧ (turn l (T.cl k)).getD 0 0 ≠ l
  c0 : ¬ 1 < (T.cl k).length → (T.cl k).length = 1 ∧ turn l (T.cl k) = [l]
  notin : k ∉ kept ∧ k ∉ r

theorem VI.step {l : Int} {T : Trail} {kept r : List Nat} {k : Nat} (h : VI l T kept (k :: r)) : VStep l T kept r k := by
  have o0 := h.inv.ok
  have hwl : T.watch.length = 2 * T.n := by have := o0.wl; simpa [Trail.setW] using this
  have hpl : place l < T.watch.length := by rw [hwl]; exact Rup.place_lt h.hl
  have hwt := setW_wt hpl (kept ++ k :: r)
  have hin : k ∈ (T.setW (place l) (kept ++ k :: r)).wt (place l) := by rw [hwt, if_pos rfl]; simp
  obtain ⟨hk, hg, i, i1, i2, i3⟩ := h.inv.wat.snd _ _ hin
  have hk : k < T.cls.length := hk
  have i2 : i < (T.cl k).length := i2
  have i3 : place ((T.cl k).getD i 0) = place l := i3
  have hgc : Up.Good T.n (T.cl k) := o0.cl (T := T.setW (place l) (kept ++ k :: r)) hk
  have hi : (T.cl k).getD i 0 = l := Rup.place_inj (hgc.lit _ (getD_mem' 0 i2)).1 h.hl.1 i3
  have hnd := h.inv.wat.nd (place l)
  rw [hwt, if_pos rfl, List.nodup_append] at hnd
  refine ⟨hk, ⟨hk, hg⟩, good_perm hgc (turn_perm _ _), ?_, fun h1 => ?_, fun h1 => ?_, fun hm => hnd.2.2 k hm k List.mem_cons_self rfl, (List.nodup_cons.1 hnd.2.1).1⟩
  · have hw := h.inv.wat.turn (k := k) hk l
    refine h.inv.repl (o0.setC (good_perm hgc (turn_perm _ _))) hw rfl rfl rfl rfl rfl rfl rfl (by simp [Trail.setC, Trail.setW]) (fun m => ?_) (fun m _ _ n f hwk => ?_)
    · show ((T.setC k (turn l (T.cl k))).cl m).Perm (T.cl m)
      rw [setC_cl hk]
      split
      · rename_i e; subst e; exact turn_perm _ _
      · exact List.Perm.refl _
    · show Wk T.lits ((T.setC k (turn l (T.cl k))).cl m) n f
      have hwk : Wk T.lits (T.cl m) n f := hwk
      rw [setC_cl hk]
      split
      · rename_i e; subst e; exact hwk.turn l
      · exact hwk
  · obtain ⟨t1, _, t0, _⟩ := turn_at hgc h1 ⟨i, i1, i2, hi⟩
    exact ⟨t1, t0⟩
  · have h1' : (T.cl k).length = 1 := by omega
    obtain ⟨x, hx⟩ := List.length_eq_one_iff.1 h1'
    have hi0 : i = 0 := by omega
    subst hi0
    refine ⟨h1', ?_⟩
    unfold turn
    rw [if_neg (by omega), hx]
    rw [hx] at hi
    simp at hi
    rw [hi]

/-- the names of a step -/
structure VNames (l : Int) (T : Trail) (kept r : List Nat) (k : Nat) (c : List Int) : Prop where
  hk : k < T.cls.length
  hc : turn l (T.cl k) = c
  hcl : c.length = (T.cl k).length
  hperm : c.Perm (T.cl k)
  hck : (T.setC k c).cl k = c
  i1 : Inv ((T.setC k c).setW (place l) (kept ++ k :: r))
  s1 : 1 < c.length → c.getD 1 0 = l ∧ c.getD 0 0 ≠ l
  s0 : ¬ 1 < c.length → c = [l]
  sg : Up.Good T.n c
  o0 : Ok T
  o1 : Ok (T.setC k c)
  fal : -l ∈ T.lits
  kep1 : ∀ m ∈ kept, 2 ≤ ((T.setC k c).cl m).length ∧ ((T.setC k c).cl m).getD 1 0 = l ∧ ((T.setC k c).cl m).getD 0 0 ∈ (T.setC k c).lits
  hmv : (T.setC k c).moves k = match (T.setC k c).findM c ((List.range c.length).drop 2) with | some j => ((T.setC k c).moveTo k j, true) | none => (T.setC k c, false)
  live : T.live k
  notin : k ∉ kept
  pos : 0 < c.length

theorem Ok.unW {T : Trail} {p : Nat} {x : List Nat} (h : Ok (T.setW p x)) : Ok T :=
  ⟨h.n, h.gl, by simpa [Trail.setW] using h.wl, h.cls, h.cb, h.good, h.sm, h.next, h.lev, h.lin, h.rea⟩

theorem VI.names {l : Int} {T : Trail} {kept r : List Nat} {k : Nat} (h : VI l T kept (k :: r)) {c : List Int} (hc : turn l (T.cl k) = c) : VNames l T kept r k c := by
  have s := h.step
  have hcl : c.length = (T.cl k).length := by rw [← hc]; exact turn_len _ _
  have hperm : c.Perm (T.cl k) := by rw [← hc]; exact turn_perm _ _
  have hck : (T.setC k c).cl k = c := by rw [setC_cl s.hk, if_pos rfl]
  have i1 := s.inv1
  have s1 := s.c1
  have s0 := s.c0
  have sg := s.good
  rw [hc] at i1 s1 s0 sg
  refine ⟨s.hk, hc, hcl, hperm, hck, i1, fun h1 => s1 (by omega), fun h1 => (s0 (by omega)).2, sg, h.inv.ok.unW, i1.ok.unW, h.fal, fun m hm => ?_, ?_, s.live, s.notin.1, ?_⟩
  · rw [setC_cl s.hk, if_neg (fun e => s.notin.1 (by rw [← e]; exact hm))]
    exact h.kep m hm
  · unfold Trail.moves; rw [hck]; cases (T.setC k c).findM c ((List.range c.length).drop 2) <;> rfl
  · by_cases h1 : 1 < c.length
    · omega
    · rw [(s0 (by omega)).2]; simp

section
variable {l : Int} {T : Trail} {kept r : List Nat} {k : Nat} {c : List Int}

theorem VNames.one (N : VNames l T kept r k c) (hh : ¬ 1 < c.length) : (T.setC k c).val (c.getD 0 0) = -1 := by
  rw [N.s0 hh]; exact N.o1.neg1.2 N.fal

/-- where it may not be watched otherwise, all but the first are not so -/
theorem VNames.oth (N : VNames l T kept r k c) (h1 : 1 < c.length) (hm2 : ((T.setC k c).moves k).2 = false) : ∀ x ∈ c, x ≠ c.getD 0 0 → -x ∈ T.lits := by
  intro x hx hne
  have hf : (T.setC k c).findM c ((List.range c.length).drop 2) = none := by
    cases hf : (T.setC k c).findM c ((List.range c.length).drop 2) with
    | none => rfl
    | some j => rw [N.hmv, hf] at hm2; simp at hm2
  obtain ⟨i, hi, e⟩ := List.getElem_of_mem hx
  have e' : c.getD i 0 = x := by rw [← e]; simp [List.getD_eq_getElem?_getD, hi]
  match i, hi, e' with
  | 0, _, e' => exact absurd e'.symm hne
  | 1, _, e' => rw [← e', (N.s1 h1).1]; exact N.fal
  | i + 2, hi, e' =>
    have := findM_none hf (i + 2) (mem_range_drop.2 ⟨by omega, hi⟩)
    rw [e'] at this
    exact N.o1.neg_of this

theorem VI.moved (h : VI l T kept (k :: r)) (N : VNames l T kept r k c) (hA1 : 1 < c.length) (hA : ((T.setC k c).moves k).2 = true) : VI l ((T.setC k c).moves k).1 kept r ∧ ExtV T ((T.setC k c).moves k).1 := by
  cases hf : (T.setC k c).findM c ((List.range c.length).drop 2) with
  | none => rw [N.hmv, hf] at hA; simp at hA
  | some j =>
    obtain ⟨j1, j2⟩ := findM_some hf
    rw [mem_range_drop] at j1
    have hm1 : ((T.setC k c).moves k).1 = (T.setC k c).moveTo k j := by rw [N.hmv, hf]
    rw [hm1]
    have hck := N.hck
    have o0 := N.o0
    have o1 := N.o1
    have hk1 : k < (T.setC k c).cls.length := by simpa [Trail.setC] using N.hk
    have e2 : ExtV (T.setC k c) ((T.setC k c).moveTo k j) := ExtV.moveTo hk1 (by rw [hck]; omega) (by rw [hck]; omega)
    have hmvcl : ∀ m, ((T.setC k c).moveTo k j).cl m = if m = k then swapL c 1 j else T.cl m := by
      intro m
      have := setC_cl hk1 (swapL ((T.setC k c).cl k) 1 j) m
      show (((T.setC k c).setC k (swapL ((T.setC k c).cl k) 1 j)).cl m) = _
      rw [this, hck]
      split
      · rfl
      · rename_i e; rw [setC_cl N.hk, if_neg e]
    refine ⟨⟨?_, h.hl, h.fal, fun m hm => ?_⟩, (ExtV.setC N.hk N.hperm).trans e2⟩
    · have hw := Wat.move o0 h.hl N.hk h.inv.wat (by have := N.hcl; omega) j1.1 (by have := N.hcl; omega)
      rw [N.hc] at hw
      have hjl : j < c.length := j1.2
      refine N.i1.repl ?_ hw rfl rfl rfl rfl rfl rfl rfl (by simp [Trail.setW, Trail.moveTo, Trail.setC]) (fun m => ?_) (fun m _ _ n f hwk => ?_)
      · have o2 : Ok ((T.setC k c).setC k (swapL c 1 j)) := o1.setC (good_perm N.sg (swapL_perm c hA1 hjl))
        exact ⟨o2.n, by simpa [Trail.setW, Trail.moveTo, Trail.setC] using o2.gl, by simp [Trail.setW, Trail.moveTo, Trail.setC, o0.wl], by
          have := o2.cls
          intro d hd
          refine this d ?_
          have e : ((T.setC k c).moveTo k j).cls = ((T.setC k c).setC k (swapL c 1 j)).cls := by
            show (T.setC k c).cls.set k (swapL ((T.setC k c).cl k) 1 j) = _
            rw [hck]; rfl
          rw [← e]; exact hd, by simpa [Trail.setW, Trail.moveTo, Trail.setC] using o2.cb, o2.good, by simpa [Trail.setW, Trail.moveTo, Trail.setC] using o2.sm, o2.next, o2.lev, o2.lin, o2.rea⟩
      · show (((T.setC k c).moveTo k j).cl m).Perm ((T.setC k c).cl m)
        rw [hmvcl, setC_cl N.hk]
        split
        · exact swapL_perm c hA1 hjl
        · exact List.Perm.refl _
      · have hwk : Wk T.lits ((T.setC k c).cl m) n f := hwk
        show Wk T.lits (((T.setC k c).moveTo k j).cl m) n f
        rw [hmvcl]
        rw [setC_cl N.hk] at hwk
        split
        · rename_i e
          rw [if_pos e] at hwk
          have hg := swapL_get c (i := 1) (j := j) hA1 hjl
          have g0 : (swapL c 1 j).getD 0 0 = c.getD 0 0 := by rw [hg, if_neg (by omega), if_neg (by omega)]
          have g1 : (swapL c 1 j).getD 1 0 = c.getD j 0 := by rw [hg, if_neg (by omega), if_pos rfl]
          refine ⟨by rw [swapL_len]; omega, fun ha => ?_, fun hb => ?_⟩
          · rw [g0] at ha
            have := hwk.a ha
            rw [(N.s1 hA1).1] at this
            exact (o0.both (List.mem_of_mem_take this) h.fal).elim
          · rw [g1] at hb
            have h9 := o1.neg1.2 (List.mem_of_mem_take hb : -(c.getD j 0) ∈ (T.setC k c).lits)
            omega
        · rename_i e
          rw [if_neg e] at hwk; exact hwk
    · rw [hmvcl, if_neg (fun e => N.notin (by rw [← e]; exact hm))]
      exact h.kep m hm

theorem VI.conf (h : VI l T kept (k :: r)) (N : VNames l T kept r k c) (hm2 : 1 < c.length → ((T.setC k c).moves k).2 = false) (hB1 : (T.setC k c).val (c.getD 0 0) = -1) : VPost l T ((T.setC k c).setW (place l) (kept ++ k :: r)) k := by
  have hck := N.hck
  refine ⟨N.i1, (ExtV.setC N.hk N.hperm).trans (ExtV.setW _ _ _), .inr ⟨k, rfl, ⟨by simpa [Trail.setC, Trail.setW] using N.hk, N.live.2⟩, fun x hx => ?_⟩⟩
  have hx : x ∈ (T.setC k c).cl k := hx
  rw [hck] at hx
  show -x ∈ T.lits
  by_cases e : x = c.getD 0 0
  · rw [e]; exact N.o1.neg1.1 hB1
  · by_cases h1 : 1 < c.length
    · exact N.oth h1 (hm2 h1) x hx e
    · have := N.s0 h1
      rw [this] at hx e
      simp at hx e
      exact absurd hx e

theorem VI.puts (h : VI l T kept (k :: r)) (N : VNames l T kept r k c) (h1 : 1 < c.length) (hm2 : ((T.setC k c).moves k).2 = false) (hB2 : (T.setC k c).val (c.getD 0 0) = 0) : VI l ((T.setC k c).put (c.getD 0 0) k) (kept ++ [k]) r ∧ ExtV T ((T.setC k c).put (c.getD 0 0) k) := by
  have hck := N.hck
  have hlit : c.getD 0 0 ≠ 0 ∧ (c.getD 0 0).natAbs ≤ T.n := N.sg.lit _ (getD_mem' 0 (by omega))
  refine ⟨⟨?_, h.hl, ?_, fun m hm => ?_⟩, (ExtV.setC N.hk N.hperm).trans (ExtV.put _ _ _)⟩
  · have hp := N.i1.put (l := c.getD 0 0) hlit hB2 (k := k) (by simpa [Trail.setC, Trail.setW] using N.hk) ?_
    · have e3 : kept ++ [k] ++ r = kept ++ k :: r := by simp
      rw [e3]; exact hp
    · show Cause T.lits ((T.setC k c).cl k) (c.getD 0 0) T.ents.length
      rw [hck]
      refine ⟨getD_mem' 0 (by omega), fun y hy hne => ?_⟩
      rw [List.take_of_length_le (by rw [lits_len]; exact Nat.le_refl _)]
      exact N.oth h1 hm2 y hy hne
  · rw [lits_put]; exact List.mem_append_left _ h.fal
  · rw [lits_put]
    show 2 ≤ ((T.setC k c).cl m).length ∧ ((T.setC k c).cl m).getD 1 0 = l ∧ _
    rcases List.mem_append.1 hm with hm | hm
    · have := N.kep1 m hm
      exact ⟨this.1, this.2.1, List.mem_append_left _ this.2.2⟩
    · simp at hm
      subst hm
      show 2 ≤ ((T.setC m c).cl m).length ∧ ((T.setC m c).cl m).getD 1 0 = l ∧ ((T.setC m c).cl m).getD 0 0 ∈ _
      rw [hck]
      exact ⟨by omega, (N.s1 h1).1, by simp⟩

theorem VI.keeps (h : VI l T kept (k :: r)) (N : VNames l T kept r k c) (h1 : 1 < c.length) (hB3 : (T.setC k c).val (c.getD 0 0) = 1) : VI l (T.setC k c) (kept ++ [k]) r ∧ ExtV T (T.setC k c) := by
  refine ⟨⟨?_, h.hl, h.fal, fun m hm => ?_⟩, ExtV.setC N.hk N.hperm⟩
  · have e3 : kept ++ [k] ++ r = kept ++ k :: r := by simp
    rw [e3]; exact N.i1
  · rcases List.mem_append.1 hm with hm | hm
    · exact N.kep1 m hm
    · simp at hm
      subst hm
      rw [N.hck]
      exact ⟨by omega, (N.s1 h1).1, N.o1.one.1 hB3⟩
end

theorem visit_post (l : Int) : ∀ (r kept : List Nat) (T : Trail), VI l T kept r → VPost l T (T.visit l r kept).1 (T.visit l r kept).2
  | [], kept, T, h => by
    unfold Trail.visit
    have hi := h.inv
    rw [List.append_nil] at hi
    have hwl : T.watch.length = 2 * T.n := by have := h.inv.ok.wl; simpa [Trail.setW] using this
    refine ⟨hi, ExtV.setW _ _ _, .inl ⟨rfl, fun k hk => ?_⟩⟩
    rw [setW_wt (by rw [hwl]; exact Rup.place_lt h.hl), if_pos rfl] at hk
    exact h.kep k hk
  | k :: r, kept, T, h => by
    obtain ⟨c, hc⟩ : ∃ c, turn l (T.cl k) = c := ⟨_, rfl⟩
    have N := h.names hc
    unfold Trail.visit
    simp only [hc]
    by_cases hA : 1 < c.length ∧ (T.setC k c).val (c.getD 0 0) ≤ 0 ∧ ((T.setC k c).moves k).2 = true
    · rw [if_pos hA]
      obtain ⟨h1, h2⟩ := h.moved N hA.1 hA.2.2
      exact (visit_post l r kept _ h1).pre h2
    · rw [if_neg hA]
      have hm2 : (T.setC k c).val (c.getD 0 0) ≤ 0 → 1 < c.length → ((T.setC k c).moves k).2 = false := fun h0 h1 => by
        cases hb : ((T.setC k c).moves k).2
        · rfl
        · exact absurd ⟨h1, h0, hb⟩ hA
      by_cases hB1 : (T.setC k c).val (c.getD 0 0) = -1
      · rw [if_pos hB1]
        exact h.conf N (hm2 (by omega)) hB1
      · rw [if_neg hB1]
        have h1 : 1 < c.length := by
          by_cases h1 : 1 < c.length
          · exact h1
          · exact absurd (N.one h1) hB1
        by_cases hB2 : (T.setC k c).val (c.getD 0 0) = 0
        · rw [if_pos hB2]
          obtain ⟨h3, h4⟩ := h.puts N h1 (hm2 (by omega) h1) hB2
          exact (visit_post l r (kept ++ [k]) _ h3).pre h4
        · rw [if_neg hB2]
          have hB3 : (T.setC k c).val (c.getD 0 0) = 1 := by have := val3 (T.setC k c) (c.getD 0 0); omega
          obtain ⟨h3, h4⟩ := h.keeps N h1 hB3
          exact (visit_post l r (kept ++ [k]) _ h3).pre h4

theorem setW_self {T : Trail} {p : Nat} : T.setW p (T.wt p) = T := by
  unfold Trail.setW Trail.wt
  have : T.watch.set p (T.watch.getD p []) = T.watch := by
    apply List.ext_getElem?
    intro i
    rw [List.getElem?_set]
    split
    · rename_i e; subst e
      split
      · rename_i h; simp [List.getD_eq_getElem?_getD, h]
      · rename_i h; rw [List.getElem?_eq_none (by omega)]
    · rfl
  rw [this]
theorem setC_self {T : Trail} {k : Nat} : T.setC k (T.cl k) = T := by
  unfold Trail.setC Trail.cl
  have : T.cls.set k (T.cls.getD k []) = T.cls := by
    apply List.ext_getElem?
    intro i
    rw [List.getElem?_set]
    split
    · rename_i e; subst e
      split
      · rename_i h; simp [List.getD_eq_getElem?_getD, h]
      · rename_i h; rw [List.getElem?_eq_none (by omega)]
    · rfl
  rw [this]

theorem VI.start {T : Trail} (h : Inv T) {l : Int} (hl : l ≠ 0 ∧ l.natAbs ≤ T.n) (hf : -l ∈ T.lits) : VI l T [] (T.wt (place l)) :=
  ⟨by rw [List.nil_append, setW_self]; exact h, hl, hf, fun k hk => by cases hk⟩

/-- moves, while a list is in flux -/
theorem moves_setW {T : Trail} {p k : Nat} {u : List Nat} (hne : ∀ j, 2 ≤ j → j < (T.cl k).length → 0 ≤ T.val ((T.cl k).getD j 0) → place ((T.cl k).getD j 0) ≠ p) : (T.setW p u).moves k = ((T.moves k).1.setW p u, (T.moves k).2) := by
  unfold Trail.moves
  have e1 : (T.setW p u).cl k = T.cl k := rfl
  have e2 : ∀ ks, (T.setW p u).findM (T.cl k) ks = T.findM (T.cl k) ks := by
    intro ks
    induction ks with
    | nil => rfl
    | cons a r ih => unfold Trail.findM; rw [ih]; rfl
  rw [e1, e2]
  cases hf : T.findM (T.cl k) ((List.range (T.cl k).length).drop 2) with
  | none => rfl
  | some j =>
    obtain ⟨j1, j2⟩ := findM_some hf
    rw [mem_range_drop] at j1
    have h3 := hne j j1.1 j1.2 j2
    have e4 : (swapL (T.cl k) 1 j).getD 1 0 = (T.cl k).getD j 0 := by
      rw [swapL_get _ (by omega) j1.2, if_neg (by omega), if_pos rfl]
    simp only
    unfold Trail.moveTo
    rw [e1]
    simp only [e4]
    have e5 : (T.setW p u).wt (place ((T.cl k).getD j 0)) = T.wt (place ((T.cl k).getD j 0)) := getD_set2 (fun h => h3 h.symm) _ _
    rw [e5]
    unfold Trail.setW
    simp only
    rw [List.set_comm _ _ (fun h => h3 h)]

end Tr
end Go.Proofs.Ytjbfgafkjejdjaa
