/- The other operations of a trail: a new one, adding, dropping, deciding, going back. In plain Lean. -/
import Derived.Test.YtjbfgafkjejdjaaPropP5
namespace Go.Proofs.Ytjbfgafkjejdjaa
namespace Tr
open Cnf

/-- a new trail -/
def new (n : Nat) : Trail := ⟨n, [], [], List.replicate (2 * n) [], [], [], 0, [], []⟩

theorem new_wt (n p : Nat) : (new n).wt p = [] := by
  unfold new Trail.wt
  simp only [List.getD_eq_getElem?_getD, List.getElem?_replicate]
  split <;> rfl

theorem Inv.new {n : Nat} (hn : n ≤ 65536) : Inv (Tr.new n) := by
  refine ⟨⟨hn, rfl, by simp [Tr.new], fun c hc => (by cases hc), by simp [Tr.new], ⟨fun x hx => (by cases hx), by simp [Tr.new, Trail.lits]⟩, fun k hk => (by cases hk), Nat.le_refl _, by simp [Tr.new], fun x hx => (by cases hx), fun x hx => (by cases hx)⟩,
    ⟨fun p => by rw [new_wt]; exact List.nodup_nil, fun p k hk => (by rw [new_wt] at hk; cases hk), fun k hk => (by simp [Tr.new] at hk)⟩, fun k hk => (by simp [Trail.live, Tr.new] at hk), fun k hk => (by simp [Trail.live, Tr.new] at hk), fun k hk => (by simp [Trail.live, Tr.new] at hk), fun x hx => (by cases hx), by simp [Tr.new], fun i hi => (by simp [Tr.new] at hi), fun i hi => (by simp [Tr.new] at hi), fun i hi => (by simp [Tr.new] at hi), by simp [Tr.new]⟩

/-- adding a clause -/
theorem Inv.add {T : Trail} (h : Inv T) {c : List Int} (hc : Up.Good T.n c) (hb : T.cls.length < 2147483648) : Inv (T.add c) := by
  have o := h.ok
  have hcl : ∀ m, (T.add c).cl m = if m = T.cls.length then c else T.cl m := by
    intro m
    unfold Trail.add Trail.cl
    by_cases e : m = T.cls.length
    · subst e; rw [if_pos rfl, getD_app_r _ _ _ (Nat.le_refl _)]; simp
    · rw [if_neg e]
      rcases Nat.lt_or_ge m T.cls.length with h1 | h1
      · exact getD_app_l _ _ _ h1
      · rw [List.getD_eq_getElem?_getD, List.getD_eq_getElem?_getD, List.getElem?_eq_none (by simp; omega), List.getElem?_eq_none h1]
  have hgo : ∀ m, m < T.cls.length → (T.add c).gone.getD m true = T.gone.getD m true := fun m hm => getD_app_l _ _ _ (by rw [o.gl]; exact hm)
  have hgn : (T.add c).gone.getD T.cls.length true = false := by
    show (T.gone ++ [false]).getD T.cls.length true = false
    rw [getD_app_r _ _ _ (by rw [o.gl]; exact Nat.le_refl _), o.gl]; simp
  have hlen : (T.add c).cls.length = T.cls.length + 1 := by simp [Trail.add]
  have hbp : ∀ l ∈ c.take 2, place l < T.watch.length := fun l hl => by rw [o.wl]; exact Rup.place_lt (hc.lit l (List.mem_of_mem_take hl))
  have hwt : ∀ p, (T.add c).wt p = if ∃ l ∈ c.take 2, place l = p then T.wt p ++ [T.cls.length] else T.wt p := fun p => addW_get _ _ _ hbp (places_nodup hc) p
  have hnot : ∀ p, T.cls.length ∉ T.wt p := fun p hm => by have := (h.wat.snd p _ hm).1; omega
  have hlive : ∀ m, (T.add c).live m → m ∉ (T.add c).short → T.live m ∧ m ∉ T.short ∧ (T.add c).cl m = T.cl m := by
    intro m hm hs
    have hs' : m ∉ T.short ++ [T.cls.length] := hs
    rw [List.mem_append, not_or] at hs'
    have hne : m ≠ T.cls.length := fun e => hs'.2 (by simp [e])
    have hm1 : m < T.cls.length := by have := hm.1; omega
    exact ⟨⟨hm1, by rw [← hgo m hm1]; exact hm.2⟩, hs'.1, by rw [hcl, if_neg hne]⟩
  refine ⟨⟨o.n, by simp [Trail.add, o.gl], by simp [Trail.add, addW_len, o.wl], fun d hd => ?_, by rw [hlen]; omega, o.good, fun x hx => ?_, o.next, o.lev, o.lin, o.rea⟩, ⟨fun p => ?_, fun p m hm => ?_, fun m hm hg i i1 i2 => ?_⟩, fun m hm hs => ?_, fun m hm hs hw => ?_, fun m hm hs hw x hx => ?_, h.nx, h.nm, fun i hi => ?_, h.dec, h.lvl, ?_⟩
  · have hd : d ∈ T.cls ++ [c] := hd
    rcases List.mem_append.1 hd with hd | hd
    · exact o.cls d hd
    · simp at hd; subst hd; exact hc
  · have hx : x ∈ (T.short ++ [T.cls.length]) ++ T.weak := hx
    rw [hlen]
    rcases List.mem_append.1 hx with hx | hx
    · rcases List.mem_append.1 hx with hx | hx
      · have := o.sm x (List.mem_append_left _ hx); omega
      · simp at hx; omega
    · have := o.sm x (List.mem_append_right _ hx); omega
  · rw [hwt]
    split
    · rw [List.nodup_append]
      exact ⟨h.wat.nd p, by simp, fun a ha b hb e => hnot p (by simp at hb; rw [← hb, ← e]; exact ha)⟩
    · exact h.wat.nd p
  · have hold : m ∈ T.wt p → m < (T.add c).cls.length ∧ (T.add c).gone.getD m true = false ∧ ∃ i, i < 2 ∧ i < ((T.add c).cl m).length ∧ place (((T.add c).cl m).getD i 0) = p := fun hm => by
      obtain ⟨h1, h2, h3⟩ := h.wat.snd p m hm
      rw [hlen, hgo m h1, hcl, if_neg (by omega)]
      exact ⟨by omega, h2, h3⟩
    rw [hwt] at hm
    split at hm
    · rename_i he
      rcases List.mem_append.1 hm with hm | hm
      · exact hold hm
      · simp at hm
        subst hm
        obtain ⟨l, hl, e⟩ := he
        obtain ⟨i, i1, i2, i3⟩ := mem_take2.1 hl
        rw [hlen, hgn, hcl, if_pos rfl]
        exact ⟨by omega, rfl, i, i1, i2, by rw [i3]; exact e⟩
    · exact hold hm
  · rw [hlen] at hm
    rw [hcl] at i2
    rw [hwt, hcl]
    by_cases e : m = T.cls.length
    · rw [if_pos e] at i2 ⊢
      rw [if_pos ⟨_, mem_take2.2 ⟨i, i1, i2, rfl⟩, rfl⟩]
      simp [e]
    · rw [if_neg e] at i2 ⊢
      have hm1 : m < T.cls.length := by omega
      have := h.wat.cpl m hm1 (by rw [← hgo m hm1]; exact hg) i i1 i2
      split
      · exact List.mem_append_left _ this
      · exact this
  · obtain ⟨h1, h2, h3⟩ := hlive m hm hs
    rw [h3]; exact h.top m h1 h2
  · obtain ⟨h1, h2, h3⟩ := hlive m hm hs
    rw [h3]; exact h.two m h1 h2 hw
  · obtain ⟨h1, h2, h3⟩ := hlive m hm hs
    rw [h3]; exact h.lev m h1 h2 hw x hx
  · rcases h.rea i hi with h1 | ⟨h1, h2, h3⟩
    · exact .inl h1
    · refine .inr ⟨h1, ?_, ?_⟩
      · rw [hlen]; show (T.ent i).2.2.toNat < _; omega
      · show Cause T.lits ((T.add c).cl (T.ent i).2.2.toNat) (T.ent i).1 i
        rw [hcl, if_neg (by omega)]; exact h3
  · show ((T.short ++ [T.cls.length]) ++ T.weak).Nodup
    have hsn := h.sn
    rw [List.nodup_append] at hsn
    rw [List.append_assoc, List.nodup_append]
    have hk : ∀ a, a ∈ T.short ++ T.weak → a ≠ T.cls.length := fun a ha e => by have := o.sm a ha; omega
    refine ⟨hsn.1, ?_, fun a ha b hb e => ?_⟩
    · rw [List.singleton_append, List.nodup_cons]
      exact ⟨fun hm => hk _ (List.mem_append_right _ hm) rfl, hsn.2.1⟩
    · rw [List.singleton_append] at hb
      rcases List.mem_cons.1 hb with hb | hb
      · exact hk a (List.mem_append_left _ ha) (by rw [e, hb])
      · exact hsn.2.2 a ha b hb e

/-- deciding -/
theorem Inv.decide {T : Trail} (h : Inv T) {l : Int} (hl : l ≠ 0 ∧ l.natAbs ≤ T.n) (hv : T.val l = 0) : Inv (T.dec l) := by
  have o := h.ok
  have hll := lits_len T
  have hlp : (T.dec l).lits = T.lits ++ [l] := by simp [Trail.dec, Trail.put, Trail.lits]
  have hel : (T.dec l).ents.length = T.ents.length + 1 := by simp [Trail.dec, Trail.put]
  have hlv : (T.dec l).levels = T.levels ++ [(T.ents.length, T.next)] := rfl
  have hent : ∀ i, i < T.ents.length → (T.dec l).ent i = T.ent i := fun i hi => by
    unfold Trail.dec Trail.put Trail.ent; exact getD_app_l _ _ _ hi
  have hnew : (T.dec l).ent T.ents.length = (l, T.levels.length + 1, -1) := by
    unfold Trail.dec Trail.put Trail.ent
    simp only [List.length_append, List.length_singleton]
    rw [getD_app_r _ _ _ (Nat.le_refl _)]; simp
  have hnx := o.next
  refine ⟨⟨o.n, o.gl, o.wl, o.cls, o.cb, ?_, o.sm, by rw [hel]; show T.next ≤ _; omega, ?_, fun x hx => ?_, fun x hx => ?_⟩, ⟨h.wat.nd, h.wat.snd, h.wat.cpl⟩, fun m hm hs => ?_, h.two, fun m hm hs hw x hx => ?_, fun x hx => ?_, ?_, fun i hi => ?_, fun i hi => ?_, fun i hi => ?_, h.sn⟩
  · rw [hlp]; exact o.good.snoc hl hv
  · rw [hlv, List.map_append, List.pairwise_append]
    refine ⟨o.lev, by simp, fun a ha b hb => ?_⟩
    obtain ⟨y, hy, rfl⟩ := List.mem_map.1 ha
    simp at hb; subst hb
    exact o.lin y hy
  · rw [hlv] at hx
    rw [hel]
    rcases List.mem_append.1 hx with hx | hx
    · have := o.lin x hx; omega
    · simp at hx; subst hx; simp
  · have hx : x ∈ T.ents ++ [(l, (T.levels ++ [(T.ents.length, T.next)]).length, -1)] := hx
    rw [hlv]
    rcases List.mem_append.1 hx with hx | hx
    · have := o.rea x hx
      simp only [List.length_append, List.length_singleton]; omega
    · simp at hx; subst hx; simp
  · rw [hlp, hel]
    rcases h.top m hm hs with h1 | ⟨h1, h2⟩
    · exact .inl (h1.more (by rw [hll]; exact hnx) (by omega) (by omega))
    · exact .inr ⟨h1, List.mem_append_left _ h2⟩
  · rw [hlp]
    rw [hlv] at hx
    rcases List.mem_append.1 hx with hx | hx
    · have := o.lin x hx
      have := (h.nx x hx).1
      exact (h.lev m hm hs hw x hx).more (by omega) (by omega) (Nat.le_refl _)
    · simp at hx
      subst hx
      rcases h.top m hm hs with h1 | ⟨h1, _⟩
      · exact h1.more (by rw [hll]; exact hnx) (by omega) (Nat.le_refl _)
      · have := h.two m hm hs hw
        have e : (T.dec l).cl m = T.cl m := rfl
        omega
  · rw [hlv] at hx
    rcases List.mem_append.1 hx with hx | hx
    · exact h.nx x hx
    · simp at hx; subst hx; exact ⟨hnx, Nat.le_refl _⟩
  · rw [hlv, List.pairwise_append]
    refine ⟨h.nm, by simp, fun a ha b hb => ?_⟩
    simp at hb; subst hb
    exact (h.nx a ha).2
  · rw [hel] at hi
    rw [hlp]
    rcases Nat.lt_or_ge i T.ents.length with h1 | h1
    · rw [hent i h1]
      rcases h.rea i h1 with h2 | ⟨h2, h3, h4⟩
      · exact .inl h2
      · refine .inr ⟨h2, h3, h4.mem, fun y hy hne => ?_⟩
        rw [List.take_append_of_le_length (by omega)]
        exact h4.oth y hy hne
    · have e : i = T.ents.length := by omega
      subst e
      rw [hnew]; exact .inl rfl
  · rw [hel] at hi
    rw [hlv]
    rcases Nat.lt_or_ge i T.ents.length with h1 | h1
    · rw [hent i h1, h.dec i h1]
      constructor
      · rintro ⟨x, hx, e⟩; exact ⟨x, List.mem_append_left _ hx, e⟩
      · rintro ⟨x, hx, e⟩
        rcases List.mem_append.1 hx with hx | hx
        · exact ⟨x, hx, e⟩
        · simp at hx; subst hx; simp at e; omega
    · have e : i = T.ents.length := by omega
      subst e
      rw [hnew]
      exact ⟨fun _ => ⟨(T.ents.length, T.next), by simp, rfl⟩, fun _ => rfl⟩
  · rw [hel] at hi
    rw [hlv, List.filter_append, List.length_append]
    rcases Nat.lt_or_ge i T.ents.length with h1 | h1
    · rw [hent i h1, h.lvl i h1]
      have : ([(T.ents.length, T.next)] : List (Nat × Nat)).filter (fun x => Decidable.decide (x.1 ≤ i)) = [] := by
        simp; omega
      rw [this]; simp
    · have e : i = T.ents.length := by omega
      subst e
      rw [hnew, filter_all o (Nat.le_refl _)]
      simp

theorem take_take_le {α : Type} (l : List α) {a b : Nat} (h : a ≤ b) : (l.take b).take a = l.take a := by
  rw [List.take_take, Nat.min_eq_left h]

/-- going back -/
theorem Inv.backTo {T : Trail} (h : Inv T) {k : Nat} (hk : k < T.levels.length) : Inv (T.backTo k) := by
  have o := h.ok
  have hll := lits_len T
  obtain ⟨x, hx⟩ : ∃ x, T.levels.getD k (0, 0) = x := ⟨_, rfl⟩
  have hxm : x ∈ T.levels := by rw [← hx]; exact getD_mem' _ hk
  have hxl := o.lin x hxm
  have hxn := h.nx x hxm
  have hmin : min T.next x.2 = x.2 := by omega
  have hB : T.backTo k = { T with ents := T.ents.take x.1, levels := T.levels.take k, next := x.2, short := T.short ++ T.weak, weak := [] } := by
    unfold Trail.backTo; rw [hx, hmin]
  have hlits : (T.backTo k).lits = T.lits.take x.1 := by rw [hB]; simp [Trail.lits]
  have hents : (T.backTo k).ents = T.ents.take x.1 := by rw [hB]
  have hel : (T.backTo k).ents.length = x.1 := by rw [hents, List.length_take]; omega
  have hlv : (T.backTo k).levels = T.levels.take k := by rw [hB]
  have hent : ∀ i, i < x.1 → (T.backTo k).ent i = T.ent i := fun i hi => by
    unfold Trail.ent; rw [hents, List.getD_eq_getElem?_getD, List.getElem?_take_of_lt hi, ← List.getD_eq_getElem?_getD]
  -- the levels ahead begin earlier, those behind later
  have hxg : T.levels[k]? = some x := by
    rw [← hx, List.getD_eq_getElem?_getD, List.getElem?_eq_getElem hk]; rfl
  have hpre : ∀ y ∈ T.levels.take k, y.1 < x.1 ∧ y.2 ≤ x.2 := by
    intro y hy
    obtain ⟨i, hi, e⟩ := List.getElem_of_mem hy
    have hi' := hi
    rw [List.length_take] at hi'
    rw [List.getElem_take] at e
    have hkx : T.levels[k] = x := by
      rw [List.getElem?_eq_getElem hk] at hxg; exact Option.some.inj hxg
    have p1 := (List.pairwise_iff_getElem.1 (List.pairwise_map.1 o.lev)) i k (by omega) hk (by omega)
    have p2 := (List.pairwise_iff_getElem.1 h.nm) i k (by omega) hk (by omega)
    rw [e, hkx] at p1 p2
    exact ⟨p1, p2⟩
  have hpost : ∀ y ∈ T.levels.drop k, x.1 ≤ y.1 := by
    intro y hy
    obtain ⟨i, hi, e⟩ := List.getElem_of_mem hy
    have hi' := hi
    rw [List.length_drop] at hi'
    rw [List.getElem_drop] at e
    have hkx : T.levels[k] = x := by
      rw [List.getElem?_eq_getElem hk] at hxg; exact Option.some.inj hxg
    rcases Nat.eq_zero_or_pos i with h0 | h0
    · subst h0
      have : T.levels[k] = y := by simpa using e
      rw [← this, hkx]; exact Nat.le_refl _
    · have p1 := (List.pairwise_iff_getElem.1 (List.pairwise_map.1 o.lev)) k (k + i) hk (by omega) (by omega)
      rw [e, hkx] at p1
      omega
  have hwk : ∀ m, T.live m → m ∉ T.short → m ∉ T.weak → ∀ y ∈ T.levels, y.2 ≤ x.1 → y.1 ≤ x.1 → Wk (T.lits.take x.1) (T.cl m) y.2 y.1 := by
    intro m h1 h2 h3 y hy e1 e2
    have := h.lev m h1 h2 h3 y hy
    exact ⟨this.two, fun ha => by rw [take_take_le _ e1] at ha; rw [take_take_le _ e2]; exact this.a ha, fun hb => by rw [take_take_le _ e1] at hb; rw [take_take_le _ e2]; exact this.b hb⟩
  have hsh : ∀ m, m ∉ (T.backTo k).short → m ∉ T.short ∧ m ∉ T.weak := fun m hm => by
    rw [hB] at hm
    have hm : m ∉ T.short ++ T.weak := hm
    rw [List.mem_append, not_or] at hm; exact hm
  have hcl : ∀ m, (T.backTo k).cl m = T.cl m := fun m => rfl
  have hliv : ∀ m, (T.backTo k).live m → T.live m := fun m hm => hm
  refine ⟨⟨o.n, o.gl, o.wl, o.cls, o.cb, ?_, fun y hy => ?_, ?_, ?_, fun y hy => ?_, fun y hy => ?_⟩, ⟨h.wat.nd, h.wat.snd, h.wat.cpl⟩, fun m hm hs => ?_, fun m hm hs hw => ?_, fun m hm hs hw y hy => ?_, fun y hy => ?_, ?_, fun i hi => ?_, fun i hi => ?_, fun i hi => ?_, ?_⟩
  · rw [hlits]
    exact ⟨fun y hy => o.good.lit y (List.mem_of_mem_take hy), by rw [List.map_take]; exact (List.take_sublist _ _).nodup o.good.nod⟩
  · rw [hB] at hy
    have hy : y ∈ (T.short ++ T.weak) ++ [] := hy
    rw [List.append_nil] at hy
    exact o.sm y hy
  · rw [hel, hB]; exact hxn.1
  · rw [hlv, List.map_take]; exact o.lev.sublist (List.take_sublist _ _)
  · rw [hlv] at hy
    rw [hel]; exact (hpre y hy).1
  · rw [hents] at hy
    rw [hlv, List.length_take]
    obtain ⟨i, hi, e⟩ := List.getElem_of_mem hy
    have hi' := hi
    rw [List.length_take] at hi'
    rw [List.getElem_take] at e
    have hr := o.rea y (by rw [← e]; exact List.getElem_mem _)
    have hlvl := h.lvl i (by omega)
    have he : T.ent i = y := by unfold Trail.ent; rw [List.getD_eq_getElem?_getD, List.getElem?_eq_getElem (by omega)]; exact e
    rw [he] at hlvl
    refine ⟨hr.1, hr.2.1, ?_⟩
    have hsplit : T.levels.filter (fun z => Decidable.decide (z.1 ≤ i)) = (T.levels.take k).filter (fun z => Decidable.decide (z.1 ≤ i)) := by
      conv => lhs; rw [← List.take_append_drop k T.levels, List.filter_append]
      have : (T.levels.drop k).filter (fun z => Decidable.decide (z.1 ≤ i)) = [] := by
        rw [List.filter_eq_nil_iff]
        intro z hz
        have := hpost z hz
        simp; omega
      rw [this, List.append_nil]
    rw [hsplit] at hlvl
    have := List.length_filter_le (fun z => Decidable.decide (z.1 ≤ i)) (T.levels.take k)
    rw [List.length_take] at this
    omega
  · obtain ⟨h2, h3⟩ := hsh m hs
    rw [hlits, hel, hcl]
    have hnx : (T.backTo k).next = x.2 := by rw [hB]
    rw [hnx]
    exact .inl (hwk m (hliv m hm) h2 h3 x hxm hxn.1 (Nat.le_refl _))
  · obtain ⟨h2, h3⟩ := hsh m hs
    exact h.two m (hliv m hm) h2 h3
  · obtain ⟨h2, h3⟩ := hsh m hs
    rw [hlv] at hy
    rw [hlits, hcl]
    have hp := hpre y hy
    have hym : y ∈ T.levels := List.mem_of_mem_take hy
    exact hwk m (hliv m hm) h2 h3 y hym (by have := (h.nx y hym).1; omega) (by omega)
  · rw [hlv] at hy
    have hym : y ∈ T.levels := List.mem_of_mem_take hy
    refine ⟨(h.nx y hym).1, ?_⟩
    rw [hB]; exact (hpre y hy).2
  · rw [hlv]; exact h.nm.sublist (List.take_sublist _ _)
  · rw [hel] at hi
    rw [hent i hi, hlits]
    rcases h.rea i (by omega) with h1 | ⟨h1, h2, h3⟩
    · exact .inl h1
    · refine .inr ⟨h1, h2, h3.mem, fun y hy hne => ?_⟩
      rw [take_take_le _ (by omega)]
      exact h3.oth y hy hne
  · rw [hel] at hi
    rw [hent i hi, hlv, h.dec i (by omega)]
    constructor
    · rintro ⟨y, hy, e⟩
      rw [← List.take_append_drop k T.levels] at hy
      rcases List.mem_append.1 hy with hy | hy
      · exact ⟨y, hy, e⟩
      · have := hpost y hy; omega
    · rintro ⟨y, hy, e⟩; exact ⟨y, List.mem_of_mem_take hy, e⟩
  · rw [hel] at hi
    rw [hent i hi, hlv, h.lvl i (by omega)]
    congr 1
    conv => lhs; rw [← List.take_append_drop k T.levels, List.filter_append]
    have : (T.levels.drop k).filter (fun z => Decidable.decide (z.1 ≤ i)) = [] := by
      rw [List.filter_eq_nil_iff]
      intro z hz
      have := hpost z hz
      simp; omega
    rw [this, List.append_nil]
  · rw [hB]
    show ((T.short ++ T.weak) ++ []).Nodup
    rw [List.append_nil]; exact h.sn

theorem Inv.back {T : Trail} (h : Inv T) (to : Int) : Inv (T.back to) := by
  unfold Trail.back
  split
  · rename_i hk; exact h.backTo hk
  · exact h

end Tr
end Go.Proofs.Ytjbfgafkjejdjaa
