/- What following tells: the closure of what was decided; two trails of the same clauses and decisions tell the same. Plain Lean. -/
import Derived.Test.YtjbfgafkjejdjaaPropP6
namespace Go.Proofs.Ytjbfgafkjejdjaa
namespace Tr
open Cnf Up

/-- what was decided -/
def Trail.decs (T : Trail) : List Int := T.levels.map fun x => T.lits.getD x.1 0
/-- no clause was dropped -/
def Trail.whole (T : Trail) : Prop := ∀ k, k < T.cls.length → T.gone.getD k true = false

/-- each clause of the one is one of the other, in whatever order its literals stand -/
def Like (cs ds : List (List Int)) : Prop := ∀ c ∈ cs, ∃ d ∈ ds, c.Perm d
theorem Like.refl (cs : List (List Int)) : Like cs cs := fun c hc => ⟨c, hc, List.Perm.refl _⟩
theorem Like.trans {a b c : List (List Int)} (h : Like a b) (k : Like b c) : Like a c := fun x hx => by
  obtain ⟨y, hy, p⟩ := h x hx
  obtain ⟨z, hz, q⟩ := k y hy
  exact ⟨z, hz, p.trans q⟩
theorem Like.app {a b c d : List (List Int)} (h : Like a b) (k : Like c d) : Like (a ++ c) (b ++ d) := fun x hx => by
  rcases List.mem_append.1 hx with hx | hx
  · obtain ⟨y, hy, p⟩ := h x hx; exact ⟨y, List.mem_append_left _ hy, p⟩
  · obtain ⟨y, hy, p⟩ := k x hx; exact ⟨y, List.mem_append_right _ hy, p⟩
theorem Like.of_sub {a b : List (List Int)} (h : ∀ c ∈ a, c ∈ b) : Like a b := fun c hc => ⟨c, h c hc, List.Perm.refl _⟩

theorem der_like {l l' : List Int} {cs ds : List (List Int)} {x : Int} (h : Der l cs x) (hl : ∀ y ∈ l, y ∈ l') (hc : Like cs ds) : Der l' ds x :=
  fun P h1 h2 => h P (fun y hy => h1 y (hl y hy)) (fun c hcm z hz hh => by
    obtain ⟨d, hd, p⟩ := hc c hcm
    exact h2 d hd z (p.mem_iff.1 hz) (fun y hy hn => hh y (p.mem_iff.2 hy) hn))
theorem conf_like {l l' : List Int} {cs ds : List (List Int)} (h : Conf l cs) (hl : ∀ y ∈ l, y ∈ l') (hc : Like cs ds) : Conf l' ds := by
  obtain ⟨c, h1, h2⟩ := h
  obtain ⟨d, hd, p⟩ := hc c h1
  exact ⟨d, hd, fun y hy => der_like (h2 y (p.mem_iff.2 hy)) hl hc⟩

/-- where each clause says nothing more, what is derived is there -/
theorem der_in {n : Nat} {l S : List Int} {cs : List (List Int)} (hS : Up.Good n S) (hl : ∀ x ∈ l, x ∈ S) (hF : ∀ c ∈ cs, Fine S S c) {x : Int} (h : Der l cs x) : x ∈ S :=
  h (fun x => x ∈ S) hl (fun c hc z hz h => by
    rcases hF c hc with ⟨y, hy, hyS⟩ | ⟨a, ha, b, hb, hab, h1, h2⟩
    · by_cases e : y = z
      · subst e; exact hyS
      · exact (hS.cons hyS (h y hy e)).elim
    · by_cases e : a = z
      · exact absurd (h b hb (fun e' => hab (e.trans e'.symm))) h2
      · exact absurd (h a ha e) h1)

theorem ent_lit (T : Trail) (i : Nat) : (T.ent i).1 = T.lits.getD i 0 := by
  unfold Trail.ent Trail.lits
  rw [List.getD_eq_getElem?_getD, List.getD_eq_getElem?_getD, List.getElem?_map]
  cases T.ents[i]? <;> rfl

theorem der_ent {T : Trail} (h : Inv T) : ∀ (m i : Nat), i < m → i < T.ents.length → Der T.decs T.cls (T.lits.getD i 0)
  | 0, _, hm, _ => by omega
  | m + 1, i, hm, hi => by
    rcases h.rea i hi with h1 | ⟨h0, hk, hc⟩
    · obtain ⟨x, hx, e⟩ := (h.dec i hi).1 h1
      exact Der.base (List.mem_map.2 ⟨x, hx, by rw [e]⟩)
    · rw [← ent_lit]
      refine Der.unit (c := T.cl (T.ent i).2.2.toNat) (getD_mem' [] hk) hc.mem (fun y hy hne => ?_)
      obtain ⟨j, hj, e⟩ := List.getElem_of_mem (hc.oth y hy hne)
      have hj' := hj
      rw [List.length_take, lits_len] at hj'
      rw [List.getElem_take] at e
      have e2 : T.lits.getD j 0 = -y := by rw [List.getD_eq_getElem?_getD, List.getElem?_eq_getElem (by rw [lits_len]; omega)]; exact e
      rw [← e2]
      exact der_ent h m j (by omega) (by omega)

theorem der_lit {T : Trail} (h : Inv T) {x : Int} (hx : x ∈ T.lits) : Der T.decs T.cls x := by
  obtain ⟨i, hi, e⟩ := List.getElem_of_mem hx
  have e2 : T.lits.getD i 0 = x := by rw [List.getD_eq_getElem?_getD, List.getElem?_eq_getElem hi]; exact e
  rw [← e2]
  exact der_ent h (i + 1) i (by omega) (by rw [lits_len] at hi; exact hi)

theorem decs_lit {T : Trail} (h : Inv T) {x : Int} (hx : x ∈ T.decs) : x ∈ T.lits := by
  obtain ⟨y, hy, rfl⟩ := List.mem_map.1 hx
  exact getD_mem' 0 (by rw [lits_len]; exact h.ok.lin y hy)

theorem fine_of {T : Trail} (h : Inv T) (hw : T.whole) (hs : T.short = []) (hn : T.next = T.ents.length) {c : List Int} (hc : c ∈ T.cls) : Fine T.lits T.lits c := by
  obtain ⟨k, hk, e⟩ := List.getElem_of_mem hc
  have e2 : T.cl k = c := by unfold Trail.cl; rw [List.getD_eq_getElem?_getD, List.getElem?_eq_getElem hk]; exact e
  have ht := h.top k ⟨hk, hw k hk⟩ (by rw [hs]; simp)
  have hg := h.ok.cls c hc
  rw [e2] at ht
  have htk : T.lits.take T.ents.length = T.lits := List.take_of_length_le (by rw [lits_len]; exact Nat.le_refl _)
  rcases ht with ⟨h2, ha, hb⟩ | ⟨h1, hin⟩
  · rw [hn, htk] at ha hb
    by_cases c1 : -(c.getD 0 0) ∈ T.lits
    · exact .inl ⟨_, getD_mem' 0 (by omega), ha c1⟩
    · by_cases c2 : -(c.getD 1 0) ∈ T.lits
      · exact .inl ⟨_, getD_mem' 0 (by omega), hb c2⟩
      · refine .inr ⟨_, getD_mem' 0 (k := 0) (by omega), _, getD_mem' 0 (k := 1) (by omega), fun e => ?_, c1, c2⟩
        exact good_ne hg (i := 0) (j := 1) (by omega) (by omega) (by omega) (by rw [e])
  · exact .inl ⟨_, getD_mem' 0 (by omega), hin⟩

theorem Ext.whole {T U : Trail} (h : Ext T U) (hw : T.whole) : U.whole := fun k hk => by rw [h.gone]; exact hw k (by rw [← h.len]; exact hk)
theorem Ext.decs {T U : Trail} (h : Ext T U) (i : Inv T) : U.decs = T.decs := by
  unfold Trail.decs
  rw [h.levels]
  refine List.map_congr_left fun x hx => ?_
  obtain ⟨r, hr⟩ := h.lits
  rw [hr, getD_app_l _ _ _ (by rw [lits_len]; exact i.ok.lin x hx)]
theorem Ext.like {T U : Trail} (h : Ext T U) : Like T.cls U.cls := fun c hc => by
  obtain ⟨k, hk, e⟩ := List.getElem_of_mem hc
  have e2 : T.cl k = c := by unfold Trail.cl; rw [List.getD_eq_getElem?_getD, List.getElem?_eq_getElem hk]; exact e
  refine ⟨U.cl k, getD_mem' [] (by rw [h.len]; exact hk), ?_⟩
  rw [← e2]; exact (h.perm k).symm
theorem Ext.like' {T U : Trail} (h : Ext T U) : Like U.cls T.cls := fun c hc => by
  obtain ⟨k, hk, e⟩ := List.getElem_of_mem hc
  have e2 : U.cl k = c := by unfold Trail.cl; rw [List.getD_eq_getElem?_getD, List.getElem?_eq_getElem hk]; exact e
  refine ⟨T.cl k, getD_mem' [] (by rw [← h.len]; exact hk), ?_⟩
  rw [← e2]; exact h.perm k

/-- WHAT FOLLOWING TELLS. -/
theorem foll_law {T T' : Trail} {r : Int} (h : Foll T T' r) (i : Inv T) (hw : T.whole) :
    Inv T' ∧ Ext T T' ∧ ((r = -1 ∧ (∀ z, z ∈ T'.lits ↔ Der T.decs T.cls z) ∧ ¬ Conf T.decs T.cls) ∨ (0 ≤ r ∧ Conf T.decs T.cls)) := by
  obtain ⟨i', e, h⟩ := foll_post h i
  refine ⟨i', e, ?_⟩
  have hd := e.decs i
  rcases h with ⟨h1, h2, h3⟩ | ⟨k, rfl, h2, h3⟩
  · have hF : ∀ c ∈ T'.cls, Fine T'.lits T'.lits c := fun c hc => fine_of i' (e.whole hw) h2 h3 hc
    refine .inl ⟨h1, fun z => ⟨fun hz => ?_, fun hz => ?_⟩, fun hc => ?_⟩
    · rw [← hd]; exact der_like (der_lit i' hz) (fun _ h => h) e.like'
    · rw [← hd] at hz
      exact der_in i'.ok.good (fun x hx => decs_lit i' hx) hF (der_like hz (fun _ h => h) e.like)
    · rw [← hd] at hc
      exact closed i'.ok.good (fun x hx => decs_lit i' hx) hF (conf_like hc (fun _ h => h) e.like)
  · refine .inr ⟨by omega, ?_⟩
    rw [← hd]
    exact conf_like ⟨T'.cl k, getD_mem' [] h2.1, fun y hy => der_lit i' (h3 y hy)⟩ (fun _ h => h) e.like'

/-- an atom's level -/
def Trail.lev (T : Trail) (a : Nat) : Int := (atomOf T.ents a).2.1

theorem lev_dec {T : Trail} (i : Inv T) {l : Int} (hl : l ≠ 0) (hv : T.val l = 0) (a : Nat) : (T.dec l).lev a = if a = l.natAbs then (T.levels.length : Int) + 1 else T.lev a := by
  unfold Trail.lev Trail.dec Trail.put
  simp only [List.length_append, List.length_singleton]
  split
  · rename_i e
    subst e
    have := atomOf_new (e := T.ents) (x := (l, T.levels.length + 1, -1)) (lits_open (n := T.n) hl hv)
    simp only at this
    rw [this]; simp
  · rename_i e
    rw [atomOf_snoc (fun h => e h.symm)]

theorem lev_ext {T U : Trail} (h : Ext T U) (i : Inv T) (i' : Inv U) (a : Nat) : U.lev a = if ∃ x ∈ T.lits, x.natAbs = a then T.lev a else if ∃ x ∈ U.lits, x.natAbs = a then (T.levels.length : Int) else 0 := by
  obtain ⟨r, hr⟩ := h.ents
  unfold Trail.lev
  split
  · rename_i hx
    obtain ⟨x, hx, e⟩ := hx
    obtain ⟨y, hy, rfl⟩ := List.mem_map.1 hx
    have n1 := Nod.of_good i.ok.good
    have n2 := Nod.of_good i'.ok.good
    have h1 := atomOf_mem n1 hy
    have h2 := atomOf_mem n2 (x := y) (by rw [hr]; exact List.mem_append_left _ hy)
    rw [e] at h1 h2
    rw [h1, h2]
  · rename_i hnx
    split
    · rename_i hx
      obtain ⟨x, hx, e⟩ := hx
      obtain ⟨k, hk, e3⟩ := List.getElem_of_mem hx
      have hk' := hk
      rw [lits_len] at hk'
      have hge : T.ents.length ≤ k := by
        rcases Nat.lt_or_ge k T.ents.length with hlt | hge
        · refine absurd ⟨x, ?_, e⟩ hnx
          obtain ⟨s, hs⟩ := h.lits
          rw [List.getElem_of_eq hs] at e3
          rw [List.getElem_append_left (by rw [lits_len]; exact hlt)] at e3
          rw [← e3]; exact List.getElem_mem _
        · exact hge
      have hlv := i'.lvl k hk'
      rw [h.levels, filter_all i.ok hge] at hlv
      have n2 := Nod.of_good i'.ok.good
      have hel : U.ents[k] = U.ent k := by unfold Trail.ent; rw [List.getD_eq_getElem?_getD, List.getElem?_eq_getElem hk']; rfl
      have h2 := atomOf_mem n2 (x := U.ent k) (by rw [← hel]; exact List.getElem_mem _)
      have e4 : (U.ent k).1 = x := by rw [ent_lit, List.getD_eq_getElem?_getD, List.getElem?_eq_getElem hk]; exact e3
      rw [e4, e] at h2
      rw [h2, hlv]
    · rename_i hnu
      rw [atomOf_none (fun y hy e => hnu ⟨y.1, List.mem_map.2 ⟨y, hy, rfl⟩, e⟩)]

/-- two trails of the same clauses and decisions -/
structure Twin (T U : Trail) : Prop where
  it : Inv T
  iu : Inv U
  wt : T.whole
  wu : U.whole
  n : U.n = T.n
  l1 : Like T.cls U.cls
  l2 : Like U.cls T.cls
  lits : ∀ z, z ∈ U.lits ↔ z ∈ T.lits
  decs : U.decs = T.decs
  lvs : U.levels.length = T.levels.length
  lev : ∀ a, U.lev a = T.lev a

theorem val_same {T U : Trail} (o : Ok T) (o' : Ok U) (h : ∀ z, z ∈ U.lits ↔ z ∈ T.lits) (x : Int) : U.val x = T.val x := by
  rcases val3 T x with e | e | e
  · rw [e]
    have h0 := value_zero.1 e
    exact value_zero.2 ⟨fun hm => h0.1 ((h x).1 hm), fun hm => h0.2 ((h (-x)).1 hm)⟩
  · rw [e, o'.one, h, ← o.one, e]
  · rw [e, o'.neg1, h, ← o.neg1, e]

theorem Twin.follow {T U T' U' : Trail} {r s : Int} (W : Twin T U) (h : Foll T T' r) (k : Foll U U' s) : (r = -1 ∧ s = -1 ∧ Twin T' U') ∨ (0 ≤ r ∧ 0 ≤ s) := by
  obtain ⟨i1, e1, h1⟩ := foll_law h W.it W.wt
  obtain ⟨i2, e2, h2⟩ := foll_law k W.iu W.wu
  have hc : Conf U.decs U.cls ↔ Conf T.decs T.cls := by
    rw [W.decs]; exact ⟨fun h => conf_like h (fun _ h => h) W.l2, fun h => conf_like h (fun _ h => h) W.l1⟩
  have hd : ∀ z, Der U.decs U.cls z ↔ Der T.decs T.cls z := fun z => by
    rw [W.decs]; exact ⟨fun h => der_like h (fun _ h => h) W.l2, fun h => der_like h (fun _ h => h) W.l1⟩
  rcases h1 with ⟨a1, a2, a3⟩ | ⟨a1, a2⟩
  · rcases h2 with ⟨b1, b2, b3⟩ | ⟨b1, b2⟩
    · refine .inl ⟨a1, b1, i1, i2, e1.whole W.wt, e2.whole W.wu, ?_, ?_, ?_, ?_, ?_, ?_, ?_⟩
      · rw [e1.n, e2.n, W.n]
      · exact (e1.like'.trans W.l1).trans e2.like
      · exact (e2.like'.trans W.l2).trans e1.like
      · intro z; rw [b2, a2, hd]
      · rw [e1.decs W.it, e2.decs W.iu, W.decs]
      · rw [e1.levels, e2.levels, W.lvs]
      · intro a
        have hl : ∀ z, z ∈ U'.lits ↔ z ∈ T'.lits := fun z => by rw [b2, a2, hd]
        rw [lev_ext e1 W.it i1, lev_ext e2 W.iu i2]
        have q1 : (∃ x ∈ U.lits, x.natAbs = a) ↔ ∃ x ∈ T.lits, x.natAbs = a := by
          constructor <;> (rintro ⟨x, hx, e⟩; exact ⟨x, by first | exact (W.lits x).1 hx | exact (W.lits x).2 hx, e⟩)
        have q2 : (∃ x ∈ U'.lits, x.natAbs = a) ↔ ∃ x ∈ T'.lits, x.natAbs = a := by
          constructor <;> (rintro ⟨x, hx, e⟩; exact ⟨x, by first | exact (hl x).1 hx | exact (hl x).2 hx, e⟩)
        simp only [q1, q2, W.lev, W.lvs]
    · exact absurd (hc.1 b2) a3
  · rcases h2 with ⟨b1, b2, b3⟩ | ⟨b1, b2⟩
    · exact absurd (hc.2 a2) b3
    · exact .inr ⟨a1, b1⟩

theorem dec_decs {T : Trail} (i : Inv T) (l : Int) : (T.dec l).decs = T.decs ++ [l] := by
  have hl : (T.dec l).lits = T.lits ++ [l] := by simp [Trail.dec, Trail.put, Trail.lits]
  unfold Trail.decs
  rw [hl]
  show (T.levels ++ [(T.ents.length, T.next)]).map _ = _
  rw [List.map_append]
  congr 1
  · refine List.map_congr_left fun x hx => ?_
    rw [getD_app_l _ _ _ (by rw [lits_len]; exact i.ok.lin x hx)]
  · simp only [List.map_cons, List.map_nil]
    rw [getD_app_r _ _ _ (by rw [lits_len]; exact Nat.le_refl _)]; simp [lits_len]

theorem Twin.val {T U : Trail} (W : Twin T U) (x : Int) : U.val x = T.val x := val_same W.it.ok W.iu.ok W.lits x

theorem Twin.decide {T U : Trail} (W : Twin T U) {l : Int} (hl : l ≠ 0 ∧ l.natAbs ≤ T.n) (hv : T.val l = 0) : Twin (T.dec l) (U.dec l) := by
  have hv' : U.val l = 0 := by rw [W.val]; exact hv
  have hl' : l ≠ 0 ∧ l.natAbs ≤ U.n := by rw [W.n]; exact hl
  refine ⟨W.it.decide hl hv, W.iu.decide hl' hv', W.wt, W.wu, W.n, W.l1, W.l2, fun z => ?_, ?_, ?_, fun a => ?_⟩
  · have e1 : (T.dec l).lits = T.lits ++ [l] := by simp [Trail.dec, Trail.put, Trail.lits]
    have e2 : (U.dec l).lits = U.lits ++ [l] := by simp [Trail.dec, Trail.put, Trail.lits]
    rw [e1, e2, List.mem_append, List.mem_append, W.lits]
  · rw [dec_decs W.it, dec_decs W.iu, W.decs]
  · show (U.levels ++ _).length = (T.levels ++ _).length
    simp [W.lvs]
  · rw [lev_dec W.it hl.1 hv, lev_dec W.iu hl'.1 hv', W.lev, W.lvs]

theorem Twin.llen {T U : Trail} (W : Twin T U) : U.lits.length = T.lits.length := by
  have nd : ∀ V : Trail, Inv V → V.lits.Nodup := fun V i => (List.pairwise_map.1 i.ok.good.nod).imp (fun h e => h (by rw [e]))
  refine List.Perm.length_eq ?_
  exact (List.perm_ext_iff_of_nodup (nd U W.iu) (nd T W.it)).2 W.lits

/-- new trails of the same clauses -/
theorem Twin.start {T U : Trail} (it : Inv T) (iu : Inv U) (wt : T.whole) (wu : U.whole) (n : U.n = T.n) (l1 : Like T.cls U.cls) (l2 : Like U.cls T.cls) (h1 : T.ents = []) (h2 : U.ents = []) (h3 : T.levels = []) (h4 : U.levels = []) : Twin T U :=
  ⟨it, iu, wt, wu, n, l1, l2, fun z => by simp [Trail.lits, h1, h2], by simp [Trail.decs, h3, h4], by rw [h3, h4], fun a => by simp [Trail.lev, h1, h2]⟩

/-- adding clauses, one by one -/
def Trail.addO (T : Trail) (c : Option (List Int)) : Trail :=
  match c with
  | some c => if ∀ x ∈ c, x.natAbs ≤ T.n then T.add c else T
  | none => T

end Tr
end Go.Proofs.Ytjbfgafkjejdjaa
