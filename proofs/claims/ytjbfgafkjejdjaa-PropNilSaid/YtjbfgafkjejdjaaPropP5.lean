/- Looking at a clause that is new; following to the end; the other operations: what keeps the law of a trail. -/
import Derived.Test.YtjbfgafkjejdjaaPropP4
namespace Go.Proofs.Ytjbfgafkjejdjaa
namespace Tr
open Cnf

/-- a clause that has been looked at -/
theorem Inv.unshort {T : Trail} (h : Inv T) {k : Nat} {s wk : List Nat} (hs : T.short = k :: s) (hwk : wk = T.weak ∨ wk = T.weak ++ [k])
    (ht : T.live k → Wk T.lits (T.cl k) T.next T.ents.length ∨ ((T.cl k).length = 1 ∧ (T.cl k).getD 0 0 ∈ T.lits)) (hv : wk = T.weak → T.live k → 2 ≤ (T.cl k).length ∧ ∀ x ∈ T.levels, Wk T.lits (T.cl k) x.2 x.1) :
    Inv { T with short := s, weak := wk } := by
  have o := h.ok
  have hsn := h.sn
  have hsm := o.sm
  rw [hs] at hsn hsm
  have hmemw : ∀ x, x ∈ wk → x ∈ T.weak ∨ x = k := by
    intro x hx
    rcases hwk with e | e
    · rw [e] at hx; exact .inl hx
    · rw [e] at hx
      rcases List.mem_append.1 hx with hx | hx
      · exact .inl hx
      · simp at hx; exact .inr hx
  have hweak : ∀ x, x ∈ T.weak → x ∈ wk := by
    intro x hx
    rcases hwk with e | e
    · rw [e]; exact hx
    · rw [e]; exact List.mem_append_left _ hx
  rw [List.cons_append, List.nodup_cons, List.nodup_append] at hsn
  have hks : k ∉ s := fun hm => hsn.1 (List.mem_append_left _ hm)
  have hkw : k ∉ T.weak := fun hm => hsn.1 (List.mem_append_right _ hm)
  refine ⟨⟨o.n, o.gl, o.wl, o.cls, o.cb, o.good, fun x hx => ?_, o.next, o.lev, o.lin, o.rea⟩, ⟨h.wat.nd, h.wat.snd, h.wat.cpl⟩, fun m hm hms => ?_, fun m hm hms hmw => ?_, fun m hm hms hmw x hx => ?_, h.nx, h.nm, h.rea, h.dec, h.lvl, ?_⟩
  · rcases List.mem_append.1 hx with hx | hx
    · exact hsm x (List.mem_append_left _ (List.mem_cons_of_mem _ hx))
    · rcases hmemw x hx with hx | hx
      · exact hsm x (List.mem_append_right _ hx)
      · rw [hx]; exact hsm k (List.mem_append_left _ List.mem_cons_self)
  · by_cases e : m = k
    · subst e; exact ht hm
    · exact h.top m hm (by rw [hs]; simp only [List.mem_cons, not_or]; exact ⟨e, hms⟩)
  · by_cases e : m = k
    · subst e
      rcases hwk with e | e
      · exact (hv e hm).1
      · exact absurd (by rw [e]; simp) hmw
    · exact h.two m hm (by rw [hs]; simp only [List.mem_cons, not_or]; exact ⟨e, hms⟩) (fun hw => hmw (hweak m hw))
  · by_cases e : m = k
    · subst e
      rcases hwk with e | e
      · exact (hv e hm).2 x hx
      · exact absurd (by rw [e]; simp) hmw
    · exact h.lev m hm (by rw [hs]; simp only [List.mem_cons, not_or]; exact ⟨e, hms⟩) (fun hw => hmw (hweak m hw)) x hx
  · show (s ++ wk).Nodup
    rw [List.nodup_append]
    refine ⟨hsn.2.1, ?_, fun a ha b hb e => ?_⟩
    · rcases hwk with e | e
      · rw [e]; exact hsn.2.2.1
      · rw [e, List.nodup_append]
        exact ⟨hsn.2.2.1, by simp, fun a ha b hb e => hkw (by simp at hb; rw [← hb, ← e]; exact ha)⟩
    · subst e
      rcases hmemw a hb with hb | hb
      · exact hsn.2.2.2 a ha a hb rfl
      · subst hb; exact hks ha

theorem there_iff {T : Trail} {k : Nat} : T.there (k : Int) = true ↔ T.live k := by
  unfold Trail.there Trail.live
  simp only [Bool.and_eq_true, decide_eq_true_eq, Bool.not_eq_true', Int.toNat_natCast]
  constructor
  · rintro ⟨⟨_, h1⟩, h2⟩; exact ⟨by omega, h2⟩
  · rintro ⟨h1, h2⟩; exact ⟨⟨by omega, by omega⟩, h2⟩

/-- looking at a clause, its literals turned -/
theorem Inv.first0 {T : Trail} (h : Inv T) {k : Nat} {s : List Nat} (hs : T.short = k :: s) (hl : T.live k) : Inv (T.first0 k) ∧ ExtV T (T.first0 k) ∧ (T.first0 k).cl k = T.rewatch (T.cl k) := by
  have hb := rewatch_best T (T.cl k)
  have hcl := setC_cl hl.1 (T.rewatch (T.cl k))
  have hperm : ∀ m, ((T.first0 k).cl m).Perm (T.cl m) := fun m => by
    show ((T.setC k (T.rewatch (T.cl k))).cl m).Perm _
    rw [hcl]
    split
    · rename_i e; subst e; exact hb.perm
    · exact List.Perm.refl _
  refine ⟨?_, ⟨⟨rfl, rfl, rfl, by simp [Trail.first0], hperm, ⟨[], by simp [Trail.first0]⟩⟩, rfl, rfl, rfl⟩, ?_⟩
  · have o := h.ok
    have o1 : Ok (T.setC k (T.rewatch (T.cl k))) := o.setC (good_perm (o.cl hl.1) hb.perm)
    refine h.repl ⟨o1.n, o1.gl, by simp [Trail.first0, addW_len, delW_len, o.wl], o1.cls, o1.cb, o1.good, o1.sm, o1.next, o1.lev, o1.lin, o1.rea⟩ (h.wat.anew o hl.1 hl.2 hb.perm) rfl rfl rfl rfl rfl rfl rfl (by simp [Trail.first0]) hperm (fun m _ hms n f hw => ?_)
    show Wk T.lits ((T.setC k (T.rewatch (T.cl k))).cl m) n f
    rw [hcl, if_neg (fun e => hms (by rw [hs, e]; exact List.mem_cons_self))]
    exact hw
  · show (T.setC k (T.rewatch (T.cl k))).cl k = _
    rw [hcl, if_pos rfl]

theorem Wk.free {S c : List Int} {n f : Nat} (h2 : 2 ≤ c.length) (h0 : -(c.getD 0 0) ∉ S) (h1 : -(c.getD 1 0) ∉ S) : Wk S c n f :=
  ⟨h2, fun h => absurd (List.mem_of_mem_take h) h0, fun h => absurd (List.mem_of_mem_take h) h1⟩

theorem Ok.notneg {T : Trail} (o : Ok T) {x : Int} (h : 0 ≤ T.val x) : -x ∉ T.lits := fun hm => by
  have := o.neg1.2 hm; omega

/-- what looking at a clause leaves -/
structure FPost (T : Trail) (k : Nat) (s : List Nat) (U : Trail) (z : Bool) : Prop where
  ext : Ext T U
  no : z = false → Inv U ∧ U.live k ∧ ∀ x ∈ U.cl k, -x ∈ U.lits
  yes : z = true → Inv { U with short := s } ∧ U.next = T.next

theorem first_post {T : Trail} (h : Inv T) {k : Nat} {s : List Nat} (hs : T.short = k :: s) (hl : T.live k) (hn : T.next = T.ents.length) : FPost T k s (T.first k).1 (T.first k).2 := by
  obtain ⟨i0, e0, hck⟩ := h.first0 hs hl
  have hb := rewatch_best T (T.cl k)
  unfold Trail.first
  obtain ⟨d, hd⟩ : ∃ d, T.rewatch (T.cl k) = d := ⟨_, rfl⟩
  rw [hd] at hb hck ⊢
  have o := i0.ok
  have hbU : Best (T.first0 k) (T.cl k) d := ⟨hb.perm, hb.one, hb.two⟩
  have hlU : (T.first0 k).live k := (e0.ext.live k).2 hl
  have hsU : (T.first0 k).short = k :: s := hs
  have hnU : (T.first0 k).next = (T.first0 k).ents.length := hn
  generalize hU : T.first0 k = U at *
  have hgd : Up.Good U.n d := by rw [← hck]; exact o.cl hlU.1
  unfold Trail.firstV
  by_cases c1 : d.length = 0 ∨ U.val (d.getD 0 0) < 0
  · rw [if_pos c1]
    refine ⟨e0.ext, fun _ => ⟨i0, hlU, ?_⟩, (fun h => (by cases h))⟩
    rw [hck]; exact hbU.all o c1
  · rw [if_neg c1]
    have hpos : 0 < d.length := by omega
    have hv0 : 0 ≤ U.val (d.getD 0 0) := by omega
    by_cases c2 : 1 < d.length ∧ 0 ≤ U.val (d.getD 1 0)
    · rw [if_pos c2]
      refine ⟨e0.ext, (fun h => (by cases h)), fun _ => ⟨?_, e0.next⟩⟩
      have hwk : ∀ n f, Wk U.lits (U.cl k) n f := fun n f => by rw [hck]; exact Wk.free (by omega) (o.notneg hv0) (o.notneg c2.2)
      exact i0.unshort hsU (.inl rfl) (fun _ => .inl (hwk _ _)) (fun _ _ => ⟨by rw [hck]; omega, fun x _ => hwk _ _⟩)
    · rw [if_neg c2]
      have hrest := hbU.rest o (by by_cases h1 : 1 < d.length; exact .inr (by omega); exact .inl h1)
      have hlit := hgd.lit _ (getD_mem' 0 hpos)
      have htop : ∀ W : Trail, W.cl k = d → d.getD 0 0 ∈ W.lits → Ok W → Wk W.lits (W.cl k) W.next W.ents.length ∨ ((W.cl k).length = 1 ∧ (W.cl k).getD 0 0 ∈ W.lits) := by
        intro W hW hin oW
        rw [hW]
        by_cases h1 : 1 < d.length
        · refine .inl ⟨by omega, fun ha => (oW.both hin (List.mem_of_mem_take ha)).elim, fun _ => ?_⟩
          rw [List.take_of_length_le (by rw [lits_len]; exact Nat.le_refl _)]; exact hin
        · exact .inr ⟨by omega, hin⟩
      by_cases c3 : U.val (d.getD 0 0) = 0
      · rw [if_pos c3]
        have ip : Inv (U.put (d.getD 0 0) k) := i0.put hlit c3 hlU.1 (by
          rw [hck]
          refine ⟨getD_mem' 0 hpos, fun y hy hne => ?_⟩
          rw [List.take_of_length_le (by rw [lits_len]; exact Nat.le_refl _)]
          exact hrest y hy hne)
        refine ⟨e0.ext.trans ⟨rfl, rfl, rfl, rfl, fun _ => List.Perm.refl _, ⟨_, rfl⟩⟩, (fun h => (by cases h)), fun _ => ⟨?_, e0.next⟩⟩
        exact ip.unshort (wk := U.weak ++ [k]) hsU (.inr rfl) (fun _ => htop (U.put (d.getD 0 0) k) hck (by rw [lits_put]; simp) ip.ok) (fun e => absurd (congrArg List.length e) (by simp [Trail.put]))
      · rw [if_neg c3]
        have hin : d.getD 0 0 ∈ U.lits := o.one.1 (by have := val3 U (d.getD 0 0); omega)
        refine ⟨⟨e0.ext.n, e0.ext.gone, e0.ext.levels, e0.ext.len, e0.ext.perm, e0.ext.ents⟩, (fun h => (by cases h)), fun _ => ⟨?_, e0.next⟩⟩
        exact i0.unshort (wk := U.weak ++ [k]) hsU (.inr rfl) (fun _ => htop U hck hin o) (fun e => absurd (congrArg List.length e) (by simp))

/-- a literal has been visited -/
theorem Inv.step {U : Trail} (h : Inv U) {l : Int} (hl : l ≠ 0) (hn : U.next < U.ents.length) (hx : U.lits.getD U.next 0 = -l) (hk : ∀ k ∈ U.wt (place l), 2 ≤ (U.cl k).length ∧ (U.cl k).getD 1 0 = l ∧ (U.cl k).getD 0 0 ∈ U.lits) : Inv { U with next := U.next + 1 } := by
  have o := h.ok
  have hfal : -l ∈ U.lits := by rw [← hx]; exact getD_mem' 0 (by rw [lits_len]; exact hn)
  have htk : U.lits.take (U.next + 1) = U.lits.take U.next ++ [-l] := by rw [take_snocI _ _ (by rw [lits_len]; exact hn), hx]
  refine ⟨⟨o.n, o.gl, o.wl, o.cls, o.cb, o.good, o.sm, hn, o.lev, o.lin, o.rea⟩, ⟨h.wat.nd, h.wat.snd, h.wat.cpl⟩, fun m hm hms => ?_, h.two, h.lev, fun x hx => ⟨(h.nx x hx).1, by have := (h.nx x hx).2; simp only; omega⟩, h.nm, h.rea, h.dec, h.lvl, h.sn⟩
  rcases h.top m hm hms with h1 | h1
  · refine .inl ⟨h1.two, fun ha => ?_, fun hb => ?_⟩
    · have ha : -((U.cl m).getD 0 0) ∈ U.lits.take (U.next + 1) := ha
      rw [htk, List.mem_append] at ha
      rcases ha with ha | ha
      · exact h1.a ha
      · simp at ha
        have e : (U.cl m).getD 0 0 = l := by rw [List.getD_eq_getElem?_getD]; omega
        have hw := h.wat.cpl m hm.1 hm.2 0 (by omega) (by have := h1.two; omega)
        rw [e] at hw
        have := (hk m hw).2.2
        rw [e] at this
        exact (o.both this hfal).elim
    · have hb : -((U.cl m).getD 1 0) ∈ U.lits.take (U.next + 1) := hb
      rw [htk, List.mem_append] at hb
      rcases hb with hb | hb
      · exact h1.b hb
      · simp at hb
        have e : (U.cl m).getD 1 0 = l := by rw [List.getD_eq_getElem?_getD]; omega
        have hw := h.wat.cpl m hm.1 hm.2 1 (by omega) (by have := h1.two; omega)
        rw [e] at hw
        show _ ∈ U.lits.take U.ents.length
        rw [List.take_of_length_le (by rw [lits_len]; exact Nat.le_refl _)]
        exact (hk m hw).2.2
  · exact .inr h1

theorem Ok.litAt {T : Trail} (o : Ok T) {i : Nat} (h : i < T.ents.length) : T.lits.getD i 0 ≠ 0 ∧ (T.lits.getD i 0).natAbs ≤ T.n := o.good.lit _ (getD_mem' 0 (by rw [lits_len]; exact h))

/-- FOLLOWING TO THE END. -/
theorem foll_post {T T' : Trail} {r : Int} (h : Foll T T' r) : Inv T → Inv T' ∧ Ext T T' ∧ ((r = -1 ∧ T'.short = [] ∧ T'.next = T'.ents.length) ∨ ∃ k : Nat, r = k ∧ T'.live k ∧ ∀ x ∈ T'.cl k, -x ∈ T'.lits) := by
  induction h with
  | done hs hn => intro i; exact ⟨i, Ext.refl _, .inl ⟨rfl, hs, hn⟩⟩
  | @conf T T' k hn hv hk =>
    intro i
    have hl := i.ok.litAt hn
    have hp := visit_post (-(T.lits.getD T.next 0)) _ [] T (VI.start i (by omega) (by rw [Int.neg_neg]; exact getD_mem' 0 (by rw [lits_len]; exact hn)))
    rw [hv] at hp
    refine ⟨hp.inv, hp.ext.ext, .inr ?_⟩
    rcases hp.end_ with ⟨e, _⟩ | h
    · simp only at e; omega
    · exact h
  | @step T T' T2 k r hn hv hk _ ih =>
    intro i
    have hl := i.ok.litAt hn
    have hp := visit_post (-(T.lits.getD T.next 0)) _ [] T (VI.start i (by omega) (by rw [Int.neg_neg]; exact getD_mem' 0 (by rw [lits_len]; exact hn)))
    rw [hv] at hp
    rcases hp.end_ with ⟨e, hkp⟩ | ⟨m, e, _⟩
    · obtain ⟨rr, hrr⟩ := hp.ext.ext.lits
      obtain ⟨re, hre⟩ := hp.ext.ext.ents
      have hx : T'.lits.getD T'.next 0 = -(-(T.lits.getD T.next 0)) := by
        have hnx : T'.next = T.next := hp.ext.next
        rw [Int.neg_neg, hnx]
        have hrr : T'.lits = T.lits ++ rr := hrr
        rw [hrr, getD_app_l _ _ _ (by rw [lits_len]; exact hn)]
      have hn' : T'.next < T'.ents.length := by
        have hnx : T'.next = T.next := hp.ext.next
        have hre : T'.ents = T.ents ++ re := hre
        rw [hnx, hre, List.length_append]; omega
      have i2 := hp.inv.step (l := -(T.lits.getD T.next 0)) (by omega) hn' hx hkp
      obtain ⟨j1, j2, j3⟩ := ih i2
      have e2 : Ext T { T' with next := T'.next + 1 } := ⟨hp.ext.ext.n, hp.ext.ext.gone, hp.ext.ext.levels, hp.ext.ext.len, hp.ext.ext.perm, hp.ext.ext.ents⟩
      exact ⟨j1, e2.trans j2, j3⟩
    · simp only at e; omega
  | @skip T T2 k s r hn hs ht _ ih =>
    intro i
    have hnl : ¬ T.live k := fun hl => by rw [there_iff.2 hl] at ht; cases ht
    have i2 : Inv { T with short := s } := i.unshort hs (.inl rfl) (fun hl => absurd hl hnl) (fun _ hl => absurd hl hnl)
    obtain ⟨j1, j2, j3⟩ := ih i2
    exact ⟨j1, ⟨j2.n, j2.gone, j2.levels, j2.len, j2.perm, j2.ents⟩, j3⟩
  | @bad T T' k s hn hs ht hf =>
    intro i
    have hp := first_post i hs (there_iff.1 ht) hn
    rw [hf] at hp
    obtain ⟨h1, h2, h3⟩ := hp.no rfl
    exact ⟨h1, hp.ext, .inr ⟨k, rfl, h2, h3⟩⟩
  | @look T T' T2 k s r hn hs ht hf _ ih =>
    intro i
    have hp := first_post i hs (there_iff.1 ht) hn
    rw [hf] at hp
    obtain ⟨h1, h2⟩ := hp.yes rfl
    obtain ⟨j1, j2, j3⟩ := ih h1
    have e2 : Ext T { T' with short := s } := ⟨hp.ext.n, hp.ext.gone, hp.ext.levels, hp.ext.len, hp.ext.perm, hp.ext.ents⟩
    exact ⟨j1, e2.trans j2, j3⟩

end Tr
end Go.Proofs.Ytjbfgafkjejdjaa
