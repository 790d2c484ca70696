/- The sort of notes (slices.SortStableFunc at luby.Note): each walk leaves a permutation. Printed by gen_fg1.py. -/
import Derived.Test.YtjedgdamommgeaaGreatBase
import Derived.Shelf.SlSortCmp.KitK
import Derived.Deep.DeepCutAuto
import Derived.BigFrame
set_option linter.unusedVariables false
namespace Go.Proofs.YtjedgdamommgeaaGreat
open Go.Shelf Go.RowKit Go.Lib Go.Sort
structure NQ where
 num : Int
 size : Int
 levels : Int
 mark : Bool
instance : Inhabited NQ := ⟨⟨0, 0, 0, false⟩⟩
def PmA (d d' : Array NQ) : Prop := d'.toList.Perm d.toList
theorem PmA.refl (d : Array NQ) : PmA d d := List.Perm.refl _
theorem PmA.trans {a b c : Array NQ} (h : PmA a b) (h' : PmA b c) : PmA a c := List.Perm.trans h' h
theorem PmA.size {a b : Array NQ} (h : PmA a b) : b.size = a.size := by simpa using h.length_eq
theorem PmA.swp (d : Array NQ) (i j : Nat) (hi : i < d.size) (hj : j < d.size) : PmA d (swp d i j) := by
 obtain ⟨h1, -, h3⟩ := swp_permIn d 0 d.size i j (Nat.zero_le _) hi (Nat.zero_le _) hj (Nat.le_refl _)
 have e1 : (Sort.swp d i j).extract 0 d.size = Sort.swp d i j := by rw [← h1]; exact Array.extract_size
 rw [e1, Array.extract_size] at h3
 exact h3
structure SrtK (k : Nat) (enc : NQ → List Value) (cf : NQ → NQ → Int) (w0 : World) (blk off : Nat) (d0 : Array NQ) : Prop where
 aE : ∀ w, (isAgg 116).run Tryz.prog w = .ok true w
 zE : ∀ w, (Go.sizeOf 116).run Tryz.prog w = .ok k w
 cmp : CmpLays Tryz.prog 129 #[] enc k cf blk off d0.size w0
 R : RowK enc k w0 blk off d0
section
variable {k : Nat} {enc : NQ → List Value} {cf : NQ → NQ → Int} {w0 w : World} {blk off : Nat} {d0 d : Array NQ}
theorem srt_mixed : Tryz.prog.follows .mixedOrders = true := by kernel_rfl
theorem enter_worse : ∀ args w, (callFunc 129 args).run Tryz.prog w = .ok (.enter 129 args) w := enters_of Tryz.func129 (by kernel_rfl) rfl
def SrtTo (k : Nat) (enc : NQ → List Value) (w0 : World) (blk off : Nat) (d : Array NQ) (e : Ending) (w' : World) : Prop := e = .returned (.tuple #[]) ∧ ∃ d', PmA d d' ∧ SWK enc k w0 blk off d' w'
set_option maxHeartbeats 3200000 in
set_option maxRecDepth 1000000 in
theorem swapRange_any (E : SrtK k enc cf w0 blk off d0) (hs : d.size = d0.size) (hsz : d.size ≤ 1099511627776) (S : SWK enc k w0 blk off d w) (cap a b n : Nat) (ha : a + n ≤ d.size) (hb : b + n ≤ d.size) :
  Calls Tryz.prog 187 #[.slice (some ⟨blk, off, none⟩) d.size cap, .int .i64 a, .int .i64 b, .int .i64 n, .func (.func 129) #[] #[]] w (SrtTo k enc w0 blk off d) := by
 replace hs := hs.symm
 have mixed := srt_mixed
 have aE := E.aE
 have zE := E.zE
 have eg := enter_worse
 have S0 : Aside _ := S
 clear S
 go_enter Tryz.func187, Tryz.ntmps187
 go_wp2_with fail
 go_loopw [10] (fun vi wr => ∃ (i : Nat) (dk : Array NQ), vi = .int .i64 i ∧ i ≤ n ∧ dk.size = d.size ∧ PmA d dk ∧ Aside (SWK enc k w0 blk off dk wr)) (fun v _ => n - (intOf v).toNat)
 case atStart => exact ⟨0, d, rfl, Nat.zero_le _, rfl, PmA.refl _, S0⟩
 case round =>
  clear S0
  obtain ⟨i, dk, rfl, hi, hds, hpm, S1⟩ := hrel
  have HP := Lib.hid hpm
  clear hpm
  by_cases hlt : i < n
  ·have hltz : (i : Int) < (n : Int) := by omega
   have ewi : IntKind.i64.wrap ((i : Int) + 1) = (i : Int) + 1 := by rw [IntKind.wrap_i64]; omega
   go_wp2_with fail
   have ea1 : ((a : Int) + (i : Int)).toNat = a + i := by omega
   have pa1 : (0 : Int) ≤ (a : Int) + (i : Int) := by omega
   have ba1 : (a : Int) + (i : Int) < (d.size : Int) := by omega
   have ra1 : IntKind.i64.wrap ((a : Int) + (i : Int)) = (a : Int) + (i : Int) := by rw [IntKind.wrap_i64]; omega
   have ec1 : ((b : Int) + (i : Int)).toNat = b + i := by omega
   have pc1 : (0 : Int) ≤ (b : Int) + (i : Int) := by omega
   have bc1 : (b : Int) + (i : Int) < (d.size : Int) := by omega
   have rc1 : IntKind.i64.wrap ((b : Int) + (i : Int)) = (b : Int) + (i : Int) := by rw [IntKind.wrap_i64]; omega
   have S2 : Aside (SWK enc k w0 blk off (swp dk (a + i) (b + i)) ((wr.drew.setCells blk (off + (a + i) * k) (enc dk[b + i]!)).setCells blk (off + (b + i) * k) (enc dk[a + i]!))) := S1.out.swapped E.R (a + i) (b + i) (by omega) (by omega)
   have l1a := S1.out.ld1 E.R (by omega) Tryz.prog (a + i) (by omega)
   have l1b := S1.out.ld1 E.R (by omega) Tryz.prog (b + i) (by omega)
   have s1a := S1.out.st1 E.R (by omega) Tryz.prog (a + i) (by omega) dk[b + i]!
   have s1b := S1.out.st2 E.R (by omega) Tryz.prog (a + i) (b + i) (by omega) (by omega) dk[b + i]! dk[a + i]!
   have n1a : (enc dk[a + i]!).length = k := E.R.hk _
   have n1b : (enc dk[b + i]!).length = k := E.R.hk _
   have q1 := PmA.swp dk (a + i) (b + i) (by omega) (by omega)
   have h1 := size_swp dk (a + i) (b + i)
   generalize enc dk[a + i]! = cI1 at S2 l1a s1b n1a
   generalize enc dk[b + i]! = cJ1 at S2 l1b s1a s1b n1b
   generalize swp dk (a + i) (b + i) = dn at S2 q1 h1
   clear S1
   go_wp2_with fail
   go_big_region_o
   clear l1a l1b s1a s1b n1a n1b ea1 pa1 ba1 ra1 ec1 pc1 bc1 rc1
   generalize (wr.drew.setCells blk (off + (a + i) * k) cJ1).setCells blk (off + (b + i) * k) cI1 = w2 at S2 ⊢
   go_wp2_with fail
   go_roundw
   case rel => exact ⟨i + 1, dn, by first | rfl | go_num, by omega, by omega, HP.out.trans q1, S2⟩
   case measure => simp [intOf] <;> omega
  ·have hltz : ¬ (i : Int) < (n : Int) := by omega
   go_wp2_with fail
   go_end0
   exact ⟨rfl, dk, HP.out, S1.out⟩
set_option maxHeartbeats 3200000 in
set_option maxRecDepth 1000000 in
theorem rotate_any (E : SrtK k enc cf w0 blk off d0) (hs : d.size = d0.size) (hsz : d.size ≤ 1099511627776) (S : SWK enc k w0 blk off d w) (cap a m b : Nat) (ha : a < m) (hb : m < b) (hbs : b ≤ d.size) :
  Calls Tryz.prog 182 #[.slice (some ⟨blk, off, none⟩) d.size cap, .int .i64 a, .int .i64 m, .int .i64 b, .func (.func 129) #[] #[]] w (SrtTo k enc w0 blk off d) := by
 have hswp : Aside (∀ (dk : Array NQ) (wr : World) (a b n : Nat), dk.size = d.size → SWK enc k w0 blk off dk wr → a + n ≤ d.size → b + n ≤ d.size → Calls Tryz.prog 187 #[.slice (some ⟨blk, off, none⟩) d.size cap, .int .i64 a, .int .i64 b, .int .i64 n, .func (.func 129) #[] #[]] wr (SrtTo k enc w0 blk off dk)) := fun dk wr a b n h1 h2 h3 h4 => by
  have := swapRange_any (d := dk) E (by omega) (by omega) h2 cap a b n (by omega) (by omega)
  rwa [h1] at this
 have ew1 : IntKind.i64.wrap ((m : Int) - (a : Int)) = ((m - a : Nat) : Int) := by rw [IntKind.wrap_i64]; omega
 have ew2 : IntKind.i64.wrap ((b : Int) - (m : Int)) = ((b - m : Nat) : Int) := by rw [IntKind.wrap_i64]; omega
 have S0 : Aside _ := S
 clear S
 replace hs := hs.symm
 go_enter Tryz.func182, Tryz.ntmps182
 go_wp2_with fail
 go_loopw [10, 11] (fun vi vj wr => ∃ (i j : Nat) (dk : Array NQ), vi = .int .i64 i ∧ vj = .int .i64 j ∧ 0 < i ∧ 0 < j ∧ a + i ≤ m ∧ m + j ≤ b ∧ dk.size = d.size ∧ PmA d dk ∧ Aside (SWK enc k w0 blk off dk wr)) (fun v u _ => (intOf v).toNat + (intOf u).toNat)
 case atStart => exact ⟨m - a, b - m, d, by first | rfl | (congr 1; omega), by first | rfl | (congr 1; omega), by omega, by omega, by omega, by omega, rfl, PmA.refl _, S0⟩
 case round =>
  clear S0 ew1 ew2
  obtain ⟨i, j, dk, rfl, rfl, hi, hj, hai, hjb, hds, hpm, S1⟩ := hrel
  have HP := Lib.hid hpm
  clear hpm
  have ew3 : IntKind.i64.wrap ((m : Int) - (i : Int)) = ((m - i : Nat) : Int) := by rw [IntKind.wrap_i64]; omega
  by_cases he : i = j
  ·subst he
   have hc := Lib.hid (hswp.out dk wr (m - i) m i hds S1.out (by omega) (by omega))
   clear hswp S1
   go_wp2_with fail
   refine hc.out.mono ?_
   rintro e w2 ⟨rfl, dn, hp2, S2⟩
   go_wp2_with fail
   go_end0
   exact ⟨rfl, dn, HP.out.trans hp2, S2⟩
  ·have de : decide ((i : Int) = (j : Int)) = false := decide_eq_false (by omega)
   have de2 : ((i : Int) != (j : Int)) = true := by simp; omega
   have de3 : ((i : Int) == (j : Int)) = false := by simp; omega
   have de4 : decide (i = j) = false := decide_eq_false he
   by_cases hg : j < i
   ·have dg : decide ((j : Int) < (i : Int)) = true := decide_eq_true (by omega)
    have ew4 : IntKind.i64.wrap ((i : Int) - (j : Int)) = ((i - j : Nat) : Int) := by rw [IntKind.wrap_i64]; omega
    have hc := Lib.hid (hswp.out dk wr (m - i) m j hds S1.out (by omega) (by omega))
    clear S1
    go_wp2_with fail
    refine hc.out.mono ?_
    rintro e w2 ⟨rfl, dn, hp2, S2⟩
    have hz := hp2.size
    have S2 : Aside _ := S2
    have HP2 := Lib.hid hp2
    clear hp2 hc
    go_wp2_with fail
    go_roundw
    case rel => exact ⟨i - j, j, dn, by first | rfl | go_num, rfl, by omega, by omega, by omega, by omega, by omega, HP.out.trans HP2.out, S2⟩
    case measure => simp [intOf] <;> omega
   ·have dg : decide ((j : Int) < (i : Int)) = false := decide_eq_false (by omega)
    have ew4 : IntKind.i64.wrap ((j : Int) - (i : Int)) = ((j - i : Nat) : Int) := by rw [IntKind.wrap_i64]; omega
    have ew5 : IntKind.i64.wrap ((m : Int) + (j : Int)) = (m : Int) + (j : Int) := by rw [IntKind.wrap_i64]; omega
    have ew6 : IntKind.i64.wrap ((m : Int) + (j : Int) - (i : Int)) = ((m + j - i : Nat) : Int) := by rw [IntKind.wrap_i64]; omega
    have hc := Lib.hid (hswp.out dk wr (m - i) (m + j - i) i hds S1.out (by omega) (by omega))
    clear S1
    go_wp2_with fail
    refine hc.out.mono ?_
    rintro e w2 ⟨rfl, dn, hp2, S2⟩
    have hz := hp2.size
    have S2 : Aside _ := S2
    have HP2 := Lib.hid hp2
    clear hp2 hc
    go_wp2_with fail
    go_roundw
    case rel => exact ⟨i, j - i, dn, rfl, by first | rfl | go_num, by omega, by omega, by omega, by omega, by omega, HP.out.trans HP2.out, S2⟩
    case measure => simp [intOf] <;> omega
set_option maxHeartbeats 3200000 in
set_option maxRecDepth 1000000 in
theorem insertion_any (E : SrtK k enc cf w0 blk off d0) (hs : d.size = d0.size) (hsz : d.size ≤ 1099511627776) (S : SWK enc k w0 blk off d w) (cap a b : Nat) (hb : b ≤ d.size) (hab : a ≤ d.size) :
  Calls Tryz.prog 166 #[.slice (some ⟨blk, off, none⟩) d.size cap, .int .i64 a, .int .i64 b, .func (.func 129) #[] #[]] w (SrtTo k enc w0 blk off d) := by
 have ew1 : IntKind.i64.wrap ((a : Int) + 1) = (a : Int) + 1 := by rw [IntKind.wrap_i64]; omega
 replace hs := hs.symm
 have mixed := srt_mixed
 have aE := E.aE
 have zE := E.zE
 have eg := enter_worse
 have S0 : Aside _ := S
 clear S
 go_enter Tryz.func166, Tryz.ntmps166
 go_wp2_with fail
 go_loopw [8] (fun vi wr => ∃ (i : Nat) (dk : Array NQ), vi = .int .i64 i ∧ a < i ∧ i ≤ d.size + 1 ∧ dk.size = d.size ∧ PmA d dk ∧ Aside (SWK enc k w0 blk off dk wr)) (fun v _ => d.size + 1 - (intOf v).toNat)
 case atStart => exact ⟨a + 1, d, by first | rfl | go_num, by omega, by omega, rfl, PmA.refl _, S0⟩
 case round =>
  clear S0 ew1
  obtain ⟨i, dk, rfl, hai, hi, hds, hpm, S1⟩ := hrel
  have HP := Lib.hid hpm
  clear hpm
  by_cases hlt : i < b
  ·have hltz : (i : Int) < (b : Int) := by omega
   have ewi : IntKind.i64.wrap ((i : Int) + 1) = (i : Int) + 1 := by rw [IntKind.wrap_i64]; omega
   go_wp2_with fail
   generalize wr = wo at *
   go_loopw [9] (fun vj wr => ∃ (j : Nat) (dj : Array NQ), vj = .int .i64 j ∧ a ≤ j ∧ j ≤ i ∧ dj.size = d.size ∧ PmA d dj ∧ Aside (SWK enc k w0 blk off dj wr)) (fun v _ => (intOf v).toNat)
   case atStart => exact ⟨i, dk, rfl, by omega, Nat.le_refl _, hds, HP.out, S1⟩
   case round =>
    clear S1 HP
    obtain ⟨j, dj, rfl, haj, hji, hdj, hpm, S1⟩ := hrel
    have HP := Lib.hid hpm
    clear hpm
    by_cases hja : a < j
    ·have hjaz : (a : Int) < (j : Int) := by omega
     obtain ⟨jp, rfl⟩ : ∃ jp, j = jp + 1 := ⟨j - 1, by omega⟩
     have hjaz' : (a : Int) < (jp : Int) + 1 := by omega
     by_cases hv1 : cf dj[jp + 1]! dj[jp]! < 0
     ·skip
      have ea1 : ((jp : Int) + 1).toNat = jp + 1 := by omega
      have pa1 : (0 : Int) ≤ (jp : Int) + 1 := by omega
      have ba1 : (jp : Int) + 1 < (d.size : Int) := by omega
      have ra1 : IntKind.i64.wrap ((jp : Int) + 1) = (jp : Int) + 1 := by rw [IntKind.wrap_i64]; omega
      have ec1 : ((jp : Int)).toNat = jp := by omega
      have pc1 : (0 : Int) ≤ (jp : Int) := by omega
      have bc1 : (jp : Int) < (d.size : Int) := by omega
      have rc1 : IntKind.i64.wrap ((jp : Int)) = (jp : Int) := by rw [IntKind.wrap_i64]; omega
      obtain ⟨x1, hx1⟩ : ∃ x, x = dj[jp + 1]! := ⟨_, rfl⟩
      obtain ⟨y1, hy1⟩ : ∃ x, x = dj[jp]! := ⟨_, rfl⟩
      have l1a := S1.out.ld E.R (by omega) Tryz.prog (jp + 1) (by omega)
      have l1b := S1.out.ld E.R (by omega) Tryz.prog (jp) (by omega)
      rw [← hx1] at l1a hv1
      rw [← hy1] at l1b hv1
      have hc1 := S1.out.cmp E.cmp (by omega) x1 y1
      have hd1 : decide (cf x1 y1 < 0) = true := decide_eq_true hv1
      clear hx1 hy1
      go_wp2_with fail
      go_quiet_grown (first | (go_at_fn 129; refine Calls.grown_of (hc1 _ _)))
      have S2 : Aside (SWK enc k w0 blk off dj (grow (wr.drewN nq) osq)) := S1.out.grown nq osq
      clear l1a l1b hc1 S1 hd1 hv1 ea1 pa1 ba1 ra1 ec1 pc1 bc1 rc1
      generalize grow (wr.drewN nq) osq = w2 at S2 ⊢
      clear nq osq
      go_wp2_with fail
      have ea2 : ((jp : Int) + 1).toNat = jp + 1 := by omega
      have pa2 : (0 : Int) ≤ (jp : Int) + 1 := by omega
      have ba2 : (jp : Int) + 1 < (d.size : Int) := by omega
      have ra2 : IntKind.i64.wrap ((jp : Int) + 1) = (jp : Int) + 1 := by rw [IntKind.wrap_i64]; omega
      have ec2 : ((jp : Int)).toNat = jp := by omega
      have pc2 : (0 : Int) ≤ (jp : Int) := by omega
      have bc2 : (jp : Int) < (d.size : Int) := by omega
      have rc2 : IntKind.i64.wrap ((jp : Int)) = (jp : Int) := by rw [IntKind.wrap_i64]; omega
      have S3 : Aside (SWK enc k w0 blk off (swp dj (jp + 1) (jp)) ((w2.drew.setCells blk (off + (jp + 1) * k) (enc dj[jp]!)).setCells blk (off + (jp) * k) (enc dj[jp + 1]!))) := S2.out.swapped E.R (jp + 1) (jp) (by omega) (by omega)
      have l2a := S2.out.ld1 E.R (by omega) Tryz.prog (jp + 1) (by omega)
      have l2b := S2.out.ld1 E.R (by omega) Tryz.prog (jp) (by omega)
      have s2a := S2.out.st1 E.R (by omega) Tryz.prog (jp + 1) (by omega) dj[jp]!
      have s2b := S2.out.st2 E.R (by omega) Tryz.prog (jp + 1) (jp) (by omega) (by omega) dj[jp]! dj[jp + 1]!
      have n2a : (enc dj[jp + 1]!).length = k := E.R.hk _
      have n2b : (enc dj[jp]!).length = k := E.R.hk _
      have q2 := PmA.swp dj (jp + 1) (jp) (by omega) (by omega)
      have h2 := size_swp dj (jp + 1) (jp)
      generalize enc dj[jp + 1]! = cI2 at S3 l2a s2b n2a
      generalize enc dj[jp]! = cJ2 at S3 l2b s2a s2b n2b
      generalize swp dj (jp + 1) (jp) = dn at S3 q2 h2
      clear S2
      go_wp2_with fail
      go_big_region_o
      clear l2a l2b s2a s2b n2a n2b ea2 pa2 ba2 ra2 ec2 pc2 bc2 rc2
      generalize (w2.drew.setCells blk (off + (jp + 1) * k) cJ2).setCells blk (off + (jp) * k) cI2 = w3 at S3 ⊢
      have ewj : IntKind.i64.wrap (jp : Int) = (jp : Int) := by rw [IntKind.wrap_i64]; omega
      go_wp2_with fail
      go_roundw
      case rel => exact ⟨jp, dn, by first | rfl | go_num | (congr 1; omega), by omega, by omega, by omega, HP.out.trans q2, S3⟩
      case measure => simp [intOf] <;> omega
     ·skip
      have ea1 : ((jp : Int) + 1).toNat = jp + 1 := by omega
      have pa1 : (0 : Int) ≤ (jp : Int) + 1 := by omega
      have ba1 : (jp : Int) + 1 < (d.size : Int) := by omega
      have ra1 : IntKind.i64.wrap ((jp : Int) + 1) = (jp : Int) + 1 := by rw [IntKind.wrap_i64]; omega
      have ec1 : ((jp : Int)).toNat = jp := by omega
      have pc1 : (0 : Int) ≤ (jp : Int) := by omega
      have bc1 : (jp : Int) < (d.size : Int) := by omega
      have rc1 : IntKind.i64.wrap ((jp : Int)) = (jp : Int) := by rw [IntKind.wrap_i64]; omega
      obtain ⟨x1, hx1⟩ : ∃ x, x = dj[jp + 1]! := ⟨_, rfl⟩
      obtain ⟨y1, hy1⟩ : ∃ x, x = dj[jp]! := ⟨_, rfl⟩
      have l1a := S1.out.ld E.R (by omega) Tryz.prog (jp + 1) (by omega)
      have l1b := S1.out.ld E.R (by omega) Tryz.prog (jp) (by omega)
      rw [← hx1] at l1a hv1
      rw [← hy1] at l1b hv1
      have hc1 := S1.out.cmp E.cmp (by omega) x1 y1
      have hd1 : decide (cf x1 y1 < 0) = false := decide_eq_false hv1
      clear hx1 hy1
      go_wp2_with fail
      go_quiet_grown (first | (go_at_fn 129; refine Calls.grown_of (hc1 _ _)))
      have S2 : Aside (SWK enc k w0 blk off dj (grow (wr.drewN nq) osq)) := S1.out.grown nq osq
      clear l1a l1b hc1 S1 hd1 hv1 ea1 pa1 ba1 ra1 ec1 pc1 bc1 rc1
      generalize grow (wr.drewN nq) osq = w2 at S2 ⊢
      clear nq osq
      go_wp2_with fail
      go_roundw
      case rel => exact ⟨i + 1, dj, by first | rfl | go_num, by omega, by omega, hdj, HP.out, S2⟩
      case measure => simp [intOf] <;> omega
    ·have hjaz : ¬ (a : Int) < (j : Int) := by omega
     have dja : decide ((j : Int) > (a : Int)) = false := decide_eq_false (by omega)
     have S2 : Aside (SWK enc k w0 blk off dj wr.drew) := S1.out.drew
     go_wp2_with fail
     go_big_region_o
     all_goals
      generalize wr.drew = w2 at S2 ⊢
     go_wp2_with fail
     go_roundw
     case rel => exact ⟨i + 1, dj, by first | rfl | go_num, by omega, by omega, hdj, HP.out, S2⟩
     case measure => simp [intOf] <;> omega
  ·have hltz : ¬ (i : Int) < (b : Int) := by omega
   go_wp2_with fail
   go_end0
   exact ⟨rfl, dk, HP.out, S1.out⟩
set_option maxHeartbeats 3200000 in
set_option maxRecDepth 1000000 in
theorem symOne_any (E : SrtK k enc cf w0 blk off d0) (cap : Nat) {d : Array NQ} {w : World} {a m b : Nat} (hs : d.size = d0.size) (hsz : d.size ≤ 1099511627776) (S : SWK enc k w0 blk off d w) (ham : a < m) (hmb : m < b) (hbs : b ≤ d.size) (c1 : m = a + 1) :
  Calls Tryz.prog 167 #[.slice (some ⟨blk, off, none⟩) d.size cap, .int .i64 a, .int .i64 m, .int .i64 b, .func (.func 129) #[] #[]] w (SrtTo k enc w0 blk off d) := by
 have ewA : IntKind.i64.wrap ((m : Int) - (a : Int)) = (m : Int) - (a : Int) := by rw [IntKind.wrap_i64]; omega
 have ewB : IntKind.i64.wrap ((b : Int) - (m : Int)) = (b : Int) - (m : Int) := by rw [IntKind.wrap_i64]; omega
 replace hs := hs.symm
 have mixed := srt_mixed
 have aE := E.aE
 have zE := E.zE
 have eg := enter_worse
 have S0 : Aside _ := S
 clear S
 go_enter Tryz.func167, Tryz.ntmps167
 have de1 : decide ((m : Int) - (a : Int) = 1) = true := decide_eq_true (by omega)
 have de2 : ((m : Int) - (a : Int) == 1) = true := by simp; omega
 clear c1
 go_wp2_with fail
 clear de1 de2 ewA ewB
 go_loopw [10, 11, 12] (fun vi vj _ wr => ∃ (i j : Nat), vi = .int .i64 i ∧ vj = .int .i64 j ∧ m ≤ i ∧ i ≤ j ∧ j ≤ b ∧ Aside (SWK enc k w0 blk off d wr)) (fun v u _ _ => (intOf u).toNat - (intOf v).toNat)
 case atStart => exact ⟨m, b, rfl, rfl, by omega, by omega, by omega, S0⟩
 case round =>
  clear S0
  obtain ⟨i, j, rfl, rfl, hi1, hij, hj1, S1⟩ := hrel
  by_cases hlt : i < j
  ·have hltz : (i : Int) < (j : Int) := by omega
   have ewh : IntKind.i64.wrap (((i : Int) + (j : Int)) / 2 + 1) = ((i : Int) + (j : Int)) / 2 + 1 := by rw [IntKind.wrap_i64]; omega
   by_cases hv1 : cf d[(i + j) / 2]! d[a]! < 0
   ·skip
    have ea1 : (((i : Int) + (j : Int)) / 2).toNat = (i + j) / 2 := by omega
    have pa1 : (0 : Int) ≤ ((i : Int) + (j : Int)) / 2 := by omega
    have ba1 : ((i : Int) + (j : Int)) / 2 < (d.size : Int) := by omega
    have ra1 : IntKind.i64.wrap (((i : Int) + (j : Int)) / 2) = ((i : Int) + (j : Int)) / 2 := by rw [IntKind.wrap_i64]; omega
    have ec1 : ((a : Int)).toNat = a := by omega
    have pc1 : (0 : Int) ≤ (a : Int) := by omega
    have bc1 : (a : Int) < (d.size : Int) := by omega
    have rc1 : IntKind.i64.wrap ((a : Int)) = (a : Int) := by rw [IntKind.wrap_i64]; omega
    obtain ⟨x1, hx1⟩ : ∃ x, x = d[(i + j) / 2]! := ⟨_, rfl⟩
    obtain ⟨y1, hy1⟩ : ∃ x, x = d[a]! := ⟨_, rfl⟩
    have l1a := S1.out.ld E.R (by omega) Tryz.prog ((i + j) / 2) (by omega)
    have l1b := S1.out.ld E.R (by omega) Tryz.prog (a) (by omega)
    rw [← hx1] at l1a hv1
    rw [← hy1] at l1b hv1
    have hc1 := S1.out.cmp E.cmp (by omega) x1 y1
    have hd1 : decide (cf x1 y1 < 0) = true := decide_eq_true hv1
    clear hx1 hy1
    go_wp2_with fail
    go_quiet_grown (first | (go_at_fn 129; refine Calls.grown_of (hc1 _ _)))
    have S2 : Aside (SWK enc k w0 blk off d (grow (wr.drewN nq) osq)) := S1.out.grown nq osq
    clear l1a l1b hc1 S1 hd1 hv1 ea1 pa1 ba1 ra1 ec1 pc1 bc1 rc1
    generalize grow (wr.drewN nq) osq = w2 at S2 ⊢
    clear nq osq
    go_wp2_with fail
    go_roundw
    case rel => exact ⟨(i + j) / 2 + 1, j, by first | rfl | go_num | (congr 1; omega), by first | rfl | go_num | (congr 1; omega), by omega, by omega, by omega, S2⟩
    case measure => simp [intOf] <;> omega
   ·skip
    have ea1 : (((i : Int) + (j : Int)) / 2).toNat = (i + j) / 2 := by omega
    have pa1 : (0 : Int) ≤ ((i : Int) + (j : Int)) / 2 := by omega
    have ba1 : ((i : Int) + (j : Int)) / 2 < (d.size : Int) := by omega
    have ra1 : IntKind.i64.wrap (((i : Int) + (j : Int)) / 2) = ((i : Int) + (j : Int)) / 2 := by rw [IntKind.wrap_i64]; omega
    have ec1 : ((a : Int)).toNat = a := by omega
    have pc1 : (0 : Int) ≤ (a : Int) := by omega
    have bc1 : (a : Int) < (d.size : Int) := by omega
    have rc1 : IntKind.i64.wrap ((a : Int)) = (a : Int) := by rw [IntKind.wrap_i64]; omega
    obtain ⟨x1, hx1⟩ : ∃ x, x = d[(i + j) / 2]! := ⟨_, rfl⟩
    obtain ⟨y1, hy1⟩ : ∃ x, x = d[a]! := ⟨_, rfl⟩
    have l1a := S1.out.ld E.R (by omega) Tryz.prog ((i + j) / 2) (by omega)
    have l1b := S1.out.ld E.R (by omega) Tryz.prog (a) (by omega)
    rw [← hx1] at l1a hv1
    rw [← hy1] at l1b hv1
    have hc1 := S1.out.cmp E.cmp (by omega) x1 y1
    have hd1 : decide (cf x1 y1 < 0) = false := decide_eq_false hv1
    clear hx1 hy1
    go_wp2_with fail
    go_quiet_grown (first | (go_at_fn 129; refine Calls.grown_of (hc1 _ _)))
    have S2 : Aside (SWK enc k w0 blk off d (grow (wr.drewN nq) osq)) := S1.out.grown nq osq
    clear l1a l1b hc1 S1 hd1 hv1 ea1 pa1 ba1 ra1 ec1 pc1 bc1 rc1
    generalize grow (wr.drewN nq) osq = w2 at S2 ⊢
    clear nq osq
    go_wp2_with fail
    go_roundw
    case rel => exact ⟨i, (i + j) / 2, by first | rfl | go_num | (congr 1; omega), by first | rfl | go_num | (congr 1; omega), by omega, by omega, by omega, S2⟩
    case measure => simp [intOf] <;> omega
  ·have hltz : ¬ (i : Int) < (j : Int) := by omega
   obtain rfl : i = j := by omega
   have ewi : IntKind.i64.wrap ((i : Int) - 1) = (i : Int) - 1 := by rw [IntKind.wrap_i64]; omega
   go_wp2_with fail
   generalize wr = wo at *
   go_loopw [13] (fun vx wr => ∃ (x : Nat) (dk : Array NQ), vx = .int .i64 x ∧ a ≤ x ∧ x ≤ i ∧ dk.size = d.size ∧ PmA d dk ∧ Aside (SWK enc k w0 blk off dk wr)) (fun v _ => i - (intOf v).toNat)
   case atStart => exact ⟨a, d, rfl, by omega, by omega, rfl, PmA.refl _, S1⟩
   case round =>
    clear S1
    obtain ⟨x, dk, rfl, hax, hxi, hds, hpm, S1⟩ := hrel
    have HP := Lib.hid hpm
    clear hpm
    by_cases hx : x + 1 < i
    ·have hxz : (x : Int) < (i : Int) - 1 := by omega
     have ewx : IntKind.i64.wrap ((x : Int) + 1) = (x : Int) + 1 := by rw [IntKind.wrap_i64]; omega
     go_wp2_with fail
     have ea2 : ((x : Int)).toNat = x := by omega
     have pa2 : (0 : Int) ≤ (x : Int) := by omega
     have ba2 : (x : Int) < (d.size : Int) := by omega
     have ra2 : IntKind.i64.wrap ((x : Int)) = (x : Int) := by rw [IntKind.wrap_i64]; omega
     have ec2 : ((x : Int) + 1).toNat = x + 1 := by omega
     have pc2 : (0 : Int) ≤ (x : Int) + 1 := by omega
     have bc2 : (x : Int) + 1 < (d.size : Int) := by omega
     have rc2 : IntKind.i64.wrap ((x : Int) + 1) = (x : Int) + 1 := by rw [IntKind.wrap_i64]; omega
     have S2 : Aside (SWK enc k w0 blk off (swp dk (x) (x + 1)) ((wr.drew.setCells blk (off + (x) * k) (enc dk[x + 1]!)).setCells blk (off + (x + 1) * k) (enc dk[x]!))) := S1.out.swapped E.R (x) (x + 1) (by omega) (by omega)
     have l2a := S1.out.ld1 E.R (by omega) Tryz.prog (x) (by omega)
     have l2b := S1.out.ld1 E.R (by omega) Tryz.prog (x + 1) (by omega)
     have s2a := S1.out.st1 E.R (by omega) Tryz.prog (x) (by omega) dk[x + 1]!
     have s2b := S1.out.st2 E.R (by omega) Tryz.prog (x) (x + 1) (by omega) (by omega) dk[x + 1]! dk[x]!
     have n2a : (enc dk[x]!).length = k := E.R.hk _
     have n2b : (enc dk[x + 1]!).length = k := E.R.hk _
     have q2 := PmA.swp dk (x) (x + 1) (by omega) (by omega)
     have h2 := size_swp dk (x) (x + 1)
     generalize enc dk[x]! = cI2 at S2 l2a s2b n2a
     generalize enc dk[x + 1]! = cJ2 at S2 l2b s2a s2b n2b
     generalize swp dk (x) (x + 1) = dn at S2 q2 h2
     clear S1
     go_wp2_with fail
     go_big_region_o
     clear l2a l2b s2a s2b n2a n2b ea2 pa2 ba2 ra2 ec2 pc2 bc2 rc2
     generalize (wr.drew.setCells blk (off + (x) * k) cJ2).setCells blk (off + (x + 1) * k) cI2 = w2 at S2 ⊢
     have ewx : IntKind.i64.wrap ((x : Int) + 1) = (x : Int) + 1 := by rw [IntKind.wrap_i64]; omega
     go_wp2_with fail
     go_roundw
     case rel => exact ⟨x + 1, dn, by first | rfl | go_num, by omega, by omega, by omega, HP.out.trans q2, S2⟩
     case measure => simp [intOf] <;> omega
    ·have hxz : ¬ (x : Int) < (i : Int) - 1 := by omega
     go_wp2_with fail
     first | go_ret | go_end0
     exact ⟨rfl, dk, HP.out, S1.out⟩
set_option maxHeartbeats 3200000 in
set_option maxRecDepth 1000000 in
theorem symTwo_any (E : SrtK k enc cf w0 blk off d0) (cap : Nat) {d : Array NQ} {w : World} {a m b : Nat} (hs : d.size = d0.size) (hsz : d.size ≤ 1099511627776) (S : SWK enc k w0 blk off d w) (ham : a < m) (hmb : m < b) (hbs : b ≤ d.size) (c1 : ¬ m = a + 1) (c2 : b = m + 1) :
  Calls Tryz.prog 167 #[.slice (some ⟨blk, off, none⟩) d.size cap, .int .i64 a, .int .i64 m, .int .i64 b, .func (.func 129) #[] #[]] w (SrtTo k enc w0 blk off d) := by
 have ewA : IntKind.i64.wrap ((m : Int) - (a : Int)) = (m : Int) - (a : Int) := by rw [IntKind.wrap_i64]; omega
 have ewB : IntKind.i64.wrap ((b : Int) - (m : Int)) = (b : Int) - (m : Int) := by rw [IntKind.wrap_i64]; omega
 replace hs := hs.symm
 have mixed := srt_mixed
 have aE := E.aE
 have zE := E.zE
 have eg := enter_worse
 have S0 : Aside _ := S
 clear S
 go_enter Tryz.func167, Tryz.ntmps167
 have de1 : decide ((m : Int) - (a : Int) = 1) = false := decide_eq_false (by omega)
 have de2 : ((m : Int) - (a : Int) == 1) = false := by simp; omega
 have df1 : decide ((b : Int) - (m : Int) = 1) = true := decide_eq_true (by omega)
 have df2 : ((b : Int) - (m : Int) == 1) = true := by simp; omega
 clear c2
 go_wp2_with fail
 clear de1 de2 df1 df2 ewA ewB
 go_loopw [14, 15, 16] (fun vi vj _ wr => ∃ (i j : Nat), vi = .int .i64 i ∧ vj = .int .i64 j ∧ a ≤ i ∧ i ≤ j ∧ j ≤ m ∧ Aside (SWK enc k w0 blk off d wr)) (fun v u _ _ => (intOf u).toNat - (intOf v).toNat)
 case atStart => exact ⟨a, m, rfl, rfl, by omega, by omega, by omega, S0⟩
 case round =>
  clear S0
  obtain ⟨i, j, rfl, rfl, hi1, hij, hj1, S1⟩ := hrel
  by_cases hlt : i < j
  ·have hltz : (i : Int) < (j : Int) := by omega
   have ewh : IntKind.i64.wrap (((i : Int) + (j : Int)) / 2 + 1) = ((i : Int) + (j : Int)) / 2 + 1 := by rw [IntKind.wrap_i64]; omega
   by_cases hv1 : cf d[m]! d[(i + j) / 2]! < 0
   ·skip
    have ea1 : ((m : Int)).toNat = m := by omega
    have pa1 : (0 : Int) ≤ (m : Int) := by omega
    have ba1 : (m : Int) < (d.size : Int) := by omega
    have ra1 : IntKind.i64.wrap ((m : Int)) = (m : Int) := by rw [IntKind.wrap_i64]; omega
    have ec1 : (((i : Int) + (j : Int)) / 2).toNat = (i + j) / 2 := by omega
    have pc1 : (0 : Int) ≤ ((i : Int) + (j : Int)) / 2 := by omega
    have bc1 : ((i : Int) + (j : Int)) / 2 < (d.size : Int) := by omega
    have rc1 : IntKind.i64.wrap (((i : Int) + (j : Int)) / 2) = ((i : Int) + (j : Int)) / 2 := by rw [IntKind.wrap_i64]; omega
    obtain ⟨x1, hx1⟩ : ∃ x, x = d[m]! := ⟨_, rfl⟩
    obtain ⟨y1, hy1⟩ : ∃ x, x = d[(i + j) / 2]! := ⟨_, rfl⟩
    have l1a := S1.out.ld E.R (by omega) Tryz.prog (m) (by omega)
    have l1b := S1.out.ld E.R (by omega) Tryz.prog ((i + j) / 2) (by omega)
    rw [← hx1] at l1a hv1
    rw [← hy1] at l1b hv1
    have hc1 := S1.out.cmp E.cmp (by omega) x1 y1
    have hd1 : decide (cf x1 y1 < 0) = true := decide_eq_true hv1
    clear hx1 hy1
    go_wp2_with fail
    go_quiet_grown (first | (go_at_fn 129; refine Calls.grown_of (hc1 _ _)))
    have S2 : Aside (SWK enc k w0 blk off d (grow (wr.drewN nq) osq)) := S1.out.grown nq osq
    clear l1a l1b hc1 S1 hd1 hv1 ea1 pa1 ba1 ra1 ec1 pc1 bc1 rc1
    generalize grow (wr.drewN nq) osq = w2 at S2 ⊢
    clear nq osq
    go_wp2_with fail
    go_roundw
    case rel => exact ⟨i, (i + j) / 2, by first | rfl | go_num | (congr 1; omega), by first | rfl | go_num | (congr 1; omega), by omega, by omega, by omega, S2⟩
    case measure => simp [intOf] <;> omega
   ·skip
    have ea1 : ((m : Int)).toNat = m := by omega
    have pa1 : (0 : Int) ≤ (m : Int) := by omega
    have ba1 : (m : Int) < (d.size : Int) := by omega
    have ra1 : IntKind.i64.wrap ((m : Int)) = (m : Int) := by rw [IntKind.wrap_i64]; omega
    have ec1 : (((i : Int) + (j : Int)) / 2).toNat = (i + j) / 2 := by omega
    have pc1 : (0 : Int) ≤ ((i : Int) + (j : Int)) / 2 := by omega
    have bc1 : ((i : Int) + (j : Int)) / 2 < (d.size : Int) := by omega
    have rc1 : IntKind.i64.wrap (((i : Int) + (j : Int)) / 2) = ((i : Int) + (j : Int)) / 2 := by rw [IntKind.wrap_i64]; omega
    obtain ⟨x1, hx1⟩ : ∃ x, x = d[m]! := ⟨_, rfl⟩
    obtain ⟨y1, hy1⟩ : ∃ x, x = d[(i + j) / 2]! := ⟨_, rfl⟩
    have l1a := S1.out.ld E.R (by omega) Tryz.prog (m) (by omega)
    have l1b := S1.out.ld E.R (by omega) Tryz.prog ((i + j) / 2) (by omega)
    rw [← hx1] at l1a hv1
    rw [← hy1] at l1b hv1
    have hc1 := S1.out.cmp E.cmp (by omega) x1 y1
    have hd1 : decide (cf x1 y1 < 0) = false := decide_eq_false hv1
    clear hx1 hy1
    go_wp2_with fail
    go_quiet_grown (first | (go_at_fn 129; refine Calls.grown_of (hc1 _ _)))
    have S2 : Aside (SWK enc k w0 blk off d (grow (wr.drewN nq) osq)) := S1.out.grown nq osq
    clear l1a l1b hc1 S1 hd1 hv1 ea1 pa1 ba1 ra1 ec1 pc1 bc1 rc1
    generalize grow (wr.drewN nq) osq = w2 at S2 ⊢
    clear nq osq
    go_wp2_with fail
    go_roundw
    case rel => exact ⟨(i + j) / 2 + 1, j, by first | rfl | go_num | (congr 1; omega), by first | rfl | go_num | (congr 1; omega), by omega, by omega, by omega, S2⟩
    case measure => simp [intOf] <;> omega
  ·have hltz : ¬ (i : Int) < (j : Int) := by omega
   obtain rfl : i = j := by omega
   go_wp2_with fail
   generalize wr = wo at *
   go_loopw [17] (fun vx wr => ∃ (x : Nat) (dk : Array NQ), vx = .int .i64 x ∧ i ≤ x ∧ x ≤ m ∧ dk.size = d.size ∧ PmA d dk ∧ Aside (SWK enc k w0 blk off dk wr)) (fun v _ => (intOf v).toNat)
   case atStart => exact ⟨m, d, rfl, by omega, by omega, rfl, PmA.refl _, S1⟩
   case round =>
    clear S1
    obtain ⟨x, dk, rfl, hax, hxi, hds, hpm, S1⟩ := hrel
    have HP := Lib.hid hpm
    clear hpm
    by_cases hx : i < x
    ·obtain ⟨xp, rfl⟩ : ∃ xp, x = xp + 1 := ⟨x - 1, by omega⟩
     have hxz : (i : Int) < (xp : Int) + 1 := by omega
     have ewx : IntKind.i64.wrap (xp : Int) = (xp : Int) := by rw [IntKind.wrap_i64]; omega
     go_wp2_with fail
     have ea2 : ((xp : Int) + 1).toNat = xp + 1 := by omega
     have pa2 : (0 : Int) ≤ (xp : Int) + 1 := by omega
     have ba2 : (xp : Int) + 1 < (d.size : Int) := by omega
     have ra2 : IntKind.i64.wrap ((xp : Int) + 1) = (xp : Int) + 1 := by rw [IntKind.wrap_i64]; omega
     have ec2 : ((xp : Int)).toNat = xp := by omega
     have pc2 : (0 : Int) ≤ (xp : Int) := by omega
     have bc2 : (xp : Int) < (d.size : Int) := by omega
     have rc2 : IntKind.i64.wrap ((xp : Int)) = (xp : Int) := by rw [IntKind.wrap_i64]; omega
     have S2 : Aside (SWK enc k w0 blk off (swp dk (xp + 1) (xp)) ((wr.drew.setCells blk (off + (xp + 1) * k) (enc dk[xp]!)).setCells blk (off + (xp) * k) (enc dk[xp + 1]!))) := S1.out.swapped E.R (xp + 1) (xp) (by omega) (by omega)
     have l2a := S1.out.ld1 E.R (by omega) Tryz.prog (xp + 1) (by omega)
     have l2b := S1.out.ld1 E.R (by omega) Tryz.prog (xp) (by omega)
     have s2a := S1.out.st1 E.R (by omega) Tryz.prog (xp + 1) (by omega) dk[xp]!
     have s2b := S1.out.st2 E.R (by omega) Tryz.prog (xp + 1) (xp) (by omega) (by omega) dk[xp]! dk[xp + 1]!
     have n2a : (enc dk[xp + 1]!).length = k := E.R.hk _
     have n2b : (enc dk[xp]!).length = k := E.R.hk _
     have q2 := PmA.swp dk (xp + 1) (xp) (by omega) (by omega)
     have h2 := size_swp dk (xp + 1) (xp)
     generalize enc dk[xp + 1]! = cI2 at S2 l2a s2b n2a
     generalize enc dk[xp]! = cJ2 at S2 l2b s2a s2b n2b
     generalize swp dk (xp + 1) (xp) = dn at S2 q2 h2
     clear S1
     go_wp2_with fail
     go_big_region_o
     clear l2a l2b s2a s2b n2a n2b ea2 pa2 ba2 ra2 ec2 pc2 bc2 rc2
     generalize (wr.drew.setCells blk (off + (xp + 1) * k) cJ2).setCells blk (off + (xp) * k) cI2 = w2 at S2 ⊢
     have ewx : IntKind.i64.wrap (xp : Int) = (xp : Int) := by rw [IntKind.wrap_i64]; omega
     go_wp2_with fail
     go_roundw
     case rel => exact ⟨xp, dn, by first | rfl | go_num | (congr 1; omega), by omega, by omega, by omega, HP.out.trans q2, S2⟩
     case measure => simp [intOf] <;> omega
    ·have hxz : ¬ (i : Int) < (x : Int) := by omega
     go_wp2_with fail
     first | go_ret | go_end0
     exact ⟨rfl, dk, HP.out, S1.out⟩
set_option maxHeartbeats 3200000 in
set_option maxRecDepth 1000000 in
theorem symRest_any (E : SrtK k enc cf w0 blk off d0) (cap : Nat) {d : Array NQ} {w : World} {a m b : Nat} {fuel : Nat} (hs : d.size = d0.size) (hsz : d.size ≤ 1099511627776) (S : SWK enc k w0 blk off d w) (ham : a < m) (hmb : m < b) (hbs : b ≤ d.size) (c1 : ¬ m = a + 1) (c2 : ¬ b = m + 1) (hf : b - a ≤ fuel + 1) (ih : ∀ (dk : Array NQ) (wr : World) (a m b : Nat), b - a ≤ fuel → dk.size = d.size → SWK enc k w0 blk off dk wr → a < m → m < b → b ≤ d.size → Calls Tryz.prog 167 #[.slice (some ⟨blk, off, none⟩) d.size cap, .int .i64 a, .int .i64 m, .int .i64 b, .func (.func 129) #[] #[]] wr (SrtTo k enc w0 blk off dk)) :
  Calls Tryz.prog 167 #[.slice (some ⟨blk, off, none⟩) d.size cap, .int .i64 a, .int .i64 m, .int .i64 b, .func (.func 129) #[] #[]] w (SrtTo k enc w0 blk off d) := by
 have ewA : IntKind.i64.wrap ((m : Int) - (a : Int)) = (m : Int) - (a : Int) := by rw [IntKind.wrap_i64]; omega
 have ewB : IntKind.i64.wrap ((b : Int) - (m : Int)) = (b : Int) - (m : Int) := by rw [IntKind.wrap_i64]; omega
 have hrec : Aside _ := ih
 clear ih
 replace hs := hs.symm
 have mixed := srt_mixed
 have aE := E.aE
 have zE := E.zE
 have eg := enter_worse
 have S0 : Aside _ := S
 clear S
 go_enter Tryz.func167, Tryz.ntmps167
 have de1 : decide ((m : Int) - (a : Int) = 1) = false := decide_eq_false (by omega)
 have de2 : ((m : Int) - (a : Int) == 1) = false := by simp; omega
 have df1 : decide ((b : Int) - (m : Int) = 1) = false := decide_eq_false (by omega)
 have df2 : ((b : Int) - (m : Int) == 1) = false := by simp; omega
 obtain ⟨mid, hmid⟩ : ∃ mid : Nat, (a + b) / 2 = mid := ⟨_, rfl⟩
 have hmz : ((a : Int) + (b : Int)) / 2 = (mid : Int) := by omega
 have ewn : IntKind.i64.wrap ((mid : Int) + (m : Int)) = (mid : Int) + (m : Int) := by rw [IntKind.wrap_i64]; omega
 have hrot : Aside (∀ (dk : Array NQ) (wr : World) (a m b : Nat), dk.size = d.size → SWK enc k w0 blk off dk wr → a < m → m < b → b ≤ d.size → Calls Tryz.prog 182 #[.slice (some ⟨blk, off, none⟩) d.size cap, .int .i64 a, .int .i64 m, .int .i64 b, .func (.func 129) #[] #[]] wr (SrtTo k enc w0 blk off dk)) := fun dk wr a m b h1 h2 h3 h4 h5 => by
  have := rotate_any (d := dk) E (by omega) (by omega) h2 cap a m b h3 h4 (by omega)
  rwa [h1] at this
 go_upto_if 140 with fail
 clear de1 de2 df1 df2 ewA ewB
 go_cut [20, 21] (fun vs vr wx => w = wx ∧ ∃ s r : Nat, vs = .int .i64 s ∧ vr = .int .i64 r ∧ a ≤ s ∧ s ≤ r ∧ r ≤ mid ∧ r ≤ m ∧ mid + m ≤ s + b)
 case first =>
  clear hrot hrec
  by_cases cm : mid < m
  ·have dm : decide ((mid : Int) < (m : Int)) = true := decide_eq_true (by omega)
   have ews : IntKind.i64.wrap ((mid : Int) + (m : Int) - (b : Int)) = ((mid + m - b : Nat) : Int) := by rw [IntKind.wrap_i64]; omega
   go_wp2_with fail
   go_meet
   exact ⟨rfl, mid + m - b, mid, rfl, rfl, by omega, by omega, by omega, by omega, by omega⟩
  ·have dm : decide ((mid : Int) < (m : Int)) = false := decide_eq_false (by omega)
   go_wp2_with fail
   go_meet
   exact ⟨rfl, a, m, rfl, rfl, by omega, by omega, by omega, by omega, by omega⟩
 case rest =>
  obtain ⟨rfl, s, r, rfl, rfl, hs1, hs2, hs3, hs4, hs5⟩ := hcut
  obtain ⟨p, hp⟩ : ∃ p, mid + m - 1 = p := ⟨_, rfl⟩
  have ewp : IntKind.i64.wrap ((mid : Int) + (m : Int) - 1) = (p : Int) := by rw [IntKind.wrap_i64]; omega
  go_wp2_with fail
  generalize w = ww at *
  go_loopw [20, 21, 23] (fun vi vj _ wr => ∃ (i j : Nat), vi = .int .i64 i ∧ vj = .int .i64 j ∧ s ≤ i ∧ i ≤ j ∧ j ≤ r ∧ Aside (SWK enc k w0 blk off d wr)) (fun v u _ _ => (intOf u).toNat - (intOf v).toNat)
  case atStart => exact ⟨s, r, rfl, rfl, by omega, by omega, by omega, S0⟩
  case round =>
   clear S0 ewp
   obtain ⟨i, j, rfl, rfl, hi1, hij, hj1, S1⟩ := hrel
   by_cases hlt : i < j
   ·have hltz : (i : Int) < (j : Int) := by omega
    clear hrot hrec
    obtain ⟨h, hh⟩ : ∃ h, (i + j) / 2 = h := ⟨_, rfl⟩
    have hhz : ((i : Int) + (j : Int)) / 2 = (h : Int) := by omega
    obtain ⟨q, hq⟩ : ∃ q, p - h = q := ⟨_, rfl⟩
    have ewq : IntKind.i64.wrap ((p : Int) - (h : Int)) = (q : Int) := by rw [IntKind.wrap_i64]; omega
    have ewh : IntKind.i64.wrap ((h : Int) + 1) = (h : Int) + 1 := by rw [IntKind.wrap_i64]; omega
    by_cases hv1 : cf d[q]! d[h]! < 0
    ·skip
     have ea1 : ((q : Int)).toNat = q := by omega
     have pa1 : (0 : Int) ≤ (q : Int) := by omega
     have ba1 : (q : Int) < (d.size : Int) := by omega
     have ra1 : IntKind.i64.wrap ((q : Int)) = (q : Int) := by rw [IntKind.wrap_i64]; omega
     have ec1 : ((h : Int)).toNat = h := by omega
     have pc1 : (0 : Int) ≤ (h : Int) := by omega
     have bc1 : (h : Int) < (d.size : Int) := by omega
     have rc1 : IntKind.i64.wrap ((h : Int)) = (h : Int) := by rw [IntKind.wrap_i64]; omega
     obtain ⟨x1, hx1⟩ : ∃ x, x = d[q]! := ⟨_, rfl⟩
     obtain ⟨y1, hy1⟩ : ∃ x, x = d[h]! := ⟨_, rfl⟩
     have l1a := S1.out.ld E.R (by omega) Tryz.prog (q) (by omega)
     have l1b := S1.out.ld E.R (by omega) Tryz.prog (h) (by omega)
     rw [← hx1] at l1a hv1
     rw [← hy1] at l1b hv1
     have hc1 := S1.out.cmp E.cmp (by omega) x1 y1
     have hd1 : decide (cf x1 y1 < 0) = true := decide_eq_true hv1
     clear hx1 hy1
     go_wp2_with fail
     go_quiet_grown (first | (go_at_fn 129; refine Calls.grown_of (hc1 _ _)))
     have S2 : Aside (SWK enc k w0 blk off d (grow (wr.drewN nq) osq)) := S1.out.grown nq osq
     clear l1a l1b hc1 S1 hd1 hv1 ea1 pa1 ba1 ra1 ec1 pc1 bc1 rc1
     generalize grow (wr.drewN nq) osq = w2 at S2 ⊢
     clear nq osq
     go_wp2_with fail
     go_roundw
     case rel => exact ⟨i, h, by first | rfl | go_num, by first | rfl | go_num, by omega, by omega, by omega, S2⟩
     case measure => simp [intOf] <;> omega
    ·skip
     have ea1 : ((q : Int)).toNat = q := by omega
     have pa1 : (0 : Int) ≤ (q : Int) := by omega
     have ba1 : (q : Int) < (d.size : Int) := by omega
     have ra1 : IntKind.i64.wrap ((q : Int)) = (q : Int) := by rw [IntKind.wrap_i64]; omega
     have ec1 : ((h : Int)).toNat = h := by omega
     have pc1 : (0 : Int) ≤ (h : Int) := by omega
     have bc1 : (h : Int) < (d.size : Int) := by omega
     have rc1 : IntKind.i64.wrap ((h : Int)) = (h : Int) := by rw [IntKind.wrap_i64]; omega
     obtain ⟨x1, hx1⟩ : ∃ x, x = d[q]! := ⟨_, rfl⟩
     obtain ⟨y1, hy1⟩ : ∃ x, x = d[h]! := ⟨_, rfl⟩
     have l1a := S1.out.ld E.R (by omega) Tryz.prog (q) (by omega)
     have l1b := S1.out.ld E.R (by omega) Tryz.prog (h) (by omega)
     rw [← hx1] at l1a hv1
     rw [← hy1] at l1b hv1
     have hc1 := S1.out.cmp E.cmp (by omega) x1 y1
     have hd1 : decide (cf x1 y1 < 0) = false := decide_eq_false hv1
     clear hx1 hy1
     go_wp2_with fail
     go_quiet_grown (first | (go_at_fn 129; refine Calls.grown_of (hc1 _ _)))
     have S2 : Aside (SWK enc k w0 blk off d (grow (wr.drewN nq) osq)) := S1.out.grown nq osq
     clear l1a l1b hc1 S1 hd1 hv1 ea1 pa1 ba1 ra1 ec1 pc1 bc1 rc1
     generalize grow (wr.drewN nq) osq = w2 at S2 ⊢
     clear nq osq
     go_wp2_with fail
     go_roundw
     case rel => exact ⟨h + 1, j, by first | rfl | go_num, by first | rfl | go_num, by omega, by omega, by omega, S2⟩
     case measure => simp [intOf] <;> omega
   ·have hltz : ¬ (i : Int) < (j : Int) := by omega
    obtain rfl : i = j := by omega
    have ewe : IntKind.i64.wrap ((mid : Int) + (m : Int) - (i : Int)) = ((mid + m - i : Nat) : Int) := by rw [IntKind.wrap_i64]; omega
    obtain ⟨en, hen⟩ : ∃ en, mid + m - i = en := ⟨_, rfl⟩
    rw [hen] at ewe
    by_cases k2 : i < mid
    ·skip
     by_cases k1 : i < m
     ·skip
      by_cases k3 : a < i
      ·skip
       by_cases k4 : en < b
       ·skip
        have tA : decide ((i : Int) < (m : Int)) = true := decide_eq_true (by omega)
        have tB : decide ((m : Int) < (en : Int)) = true := decide_eq_true (by omega)
        have tC : decide ((a : Int) < (i : Int)) = true := decide_eq_true (by omega)
        have tD : decide ((i : Int) < (mid : Int)) = true := decide_eq_true (by omega)
        have tE : decide ((mid : Int) < (en : Int)) = true := decide_eq_true (by omega)
        have tF : decide ((en : Int) < (b : Int)) = true := decide_eq_true (by omega)
        have hc1 := Lib.hid (hrot.out d wr i m en rfl S1.out (by omega) (by omega) (by omega))
        go_wp2_with fail
        refine hc1.out.mono ?_
        rintro e w1 ⟨rfl, d1, hp1, T1⟩
        have S1x : Aside _ := T1
        have hz1 : d1.size = d.size := hp1.size
        have PM1 := Lib.hid (hp1)
        clear hp1 T1 hc1
        have hc2 := Lib.hid (hrec.out d1 w1 a i mid (by omega) hz1 S1x.out (by omega) (by omega) (by omega))
        go_wp2_with fail
        refine hc2.out.mono ?_
        rintro e w2 ⟨rfl, d2, hp2, T2⟩
        have S2x : Aside _ := T2
        have hz2 : d2.size = d.size := hp2.size.trans hz1
        have PM2 := Lib.hid (PM1.out.trans hp2)
        clear hp2 T2 hc2
        have hc3 := Lib.hid (hrec.out d2 w2 mid en b (by omega) hz2 S2x.out (by omega) (by omega) (by omega))
        go_wp2_with fail
        refine hc3.out.mono ?_
        rintro e w3 ⟨rfl, d3, hp3, T3⟩
        have S3x : Aside _ := T3
        have hz3 : d3.size = d.size := hp3.size.trans hz2
        have PM3 := Lib.hid (PM2.out.trans hp3)
        clear hp3 T3 hc3
        go_wp2_with fail
        go_end0
        exact ⟨rfl, d3, PM3.out, S3x.out⟩
       ·skip
        have tA : decide ((i : Int) < (m : Int)) = true := decide_eq_true (by omega)
        have tB : decide ((m : Int) < (en : Int)) = true := decide_eq_true (by omega)
        have tC : decide ((a : Int) < (i : Int)) = true := decide_eq_true (by omega)
        have tD : decide ((i : Int) < (mid : Int)) = true := decide_eq_true (by omega)
        have tE : decide ((mid : Int) < (en : Int)) = true := decide_eq_true (by omega)
        have tF : decide ((en : Int) < (b : Int)) = false := decide_eq_false (by omega)
        have hc1 := Lib.hid (hrot.out d wr i m en rfl S1.out (by omega) (by omega) (by omega))
        go_wp2_with fail
        refine hc1.out.mono ?_
        rintro e w1 ⟨rfl, d1, hp1, T1⟩
        have S1x : Aside _ := T1
        have hz1 : d1.size = d.size := hp1.size
        have PM1 := Lib.hid (hp1)
        clear hp1 T1 hc1
        have hc2 := Lib.hid (hrec.out d1 w1 a i mid (by omega) hz1 S1x.out (by omega) (by omega) (by omega))
        go_wp2_with fail
        refine hc2.out.mono ?_
        rintro e w2 ⟨rfl, d2, hp2, T2⟩
        have S2x : Aside _ := T2
        have hz2 : d2.size = d.size := hp2.size.trans hz1
        have PM2 := Lib.hid (PM1.out.trans hp2)
        clear hp2 T2 hc2
        go_wp2_with fail
        go_end0
        exact ⟨rfl, d2, PM2.out, S2x.out⟩
      ·skip
       by_cases k4 : en < b
       ·skip
        have tA : decide ((i : Int) < (m : Int)) = true := decide_eq_true (by omega)
        have tB : decide ((m : Int) < (en : Int)) = true := decide_eq_true (by omega)
        have tC : decide ((a : Int) < (i : Int)) = false := decide_eq_false (by omega)
        have tD : decide ((i : Int) < (mid : Int)) = true := decide_eq_true (by omega)
        have tE : decide ((mid : Int) < (en : Int)) = true := decide_eq_true (by omega)
        have tF : decide ((en : Int) < (b : Int)) = true := decide_eq_true (by omega)
        have hc1 := Lib.hid (hrot.out d wr i m en rfl S1.out (by omega) (by omega) (by omega))
        go_wp2_with fail
        refine hc1.out.mono ?_
        rintro e w1 ⟨rfl, d1, hp1, T1⟩
        have S1x : Aside _ := T1
        have hz1 : d1.size = d.size := hp1.size
        have PM1 := Lib.hid (hp1)
        clear hp1 T1 hc1
        have hc2 := Lib.hid (hrec.out d1 w1 mid en b (by omega) hz1 S1x.out (by omega) (by omega) (by omega))
        go_wp2_with fail
        refine hc2.out.mono ?_
        rintro e w2 ⟨rfl, d2, hp2, T2⟩
        have S2x : Aside _ := T2
        have hz2 : d2.size = d.size := hp2.size.trans hz1
        have PM2 := Lib.hid (PM1.out.trans hp2)
        clear hp2 T2 hc2
        go_wp2_with fail
        go_end0
        exact ⟨rfl, d2, PM2.out, S2x.out⟩
       ·skip
        have tA : decide ((i : Int) < (m : Int)) = true := decide_eq_true (by omega)
        have tB : decide ((m : Int) < (en : Int)) = true := decide_eq_true (by omega)
        have tC : decide ((a : Int) < (i : Int)) = false := decide_eq_false (by omega)
        have tD : decide ((i : Int) < (mid : Int)) = true := decide_eq_true (by omega)
        have tE : decide ((mid : Int) < (en : Int)) = true := decide_eq_true (by omega)
        have tF : decide ((en : Int) < (b : Int)) = false := decide_eq_false (by omega)
        have hc1 := Lib.hid (hrot.out d wr i m en rfl S1.out (by omega) (by omega) (by omega))
        go_wp2_with fail
        refine hc1.out.mono ?_
        rintro e w1 ⟨rfl, d1, hp1, T1⟩
        have S1x : Aside _ := T1
        have hz1 : d1.size = d.size := hp1.size
        have PM1 := Lib.hid (hp1)
        clear hp1 T1 hc1
        go_wp2_with fail
        go_end0
        exact ⟨rfl, d1, PM1.out, S1x.out⟩
     ·skip
      by_cases k4 : en < b
      ·skip
       have tA : decide ((i : Int) < (m : Int)) = false := decide_eq_false (by omega)
       have tB : decide ((m : Int) < (en : Int)) = true := decide_eq_true (by omega)
       have tC : decide ((a : Int) < (i : Int)) = true := decide_eq_true (by omega)
       have tD : decide ((i : Int) < (mid : Int)) = true := decide_eq_true (by omega)
       have tE : decide ((mid : Int) < (en : Int)) = false := decide_eq_false (by omega)
       have tF : decide ((en : Int) < (b : Int)) = true := decide_eq_true (by omega)
       have hc1 := Lib.hid (hrec.out d wr a i mid (by omega) rfl S1.out (by omega) (by omega) (by omega))
       go_wp2_with fail
       refine hc1.out.mono ?_
       rintro e w1 ⟨rfl, d1, hp1, T1⟩
       have S1x : Aside _ := T1
       have hz1 : d1.size = d.size := hp1.size
       have PM1 := Lib.hid (hp1)
       clear hp1 T1 hc1
       go_wp2_with fail
       go_end0
       exact ⟨rfl, d1, PM1.out, S1x.out⟩
      ·skip
       exfalso; omega
    ·skip
     by_cases k1 : i < m
     ·skip
      by_cases k4 : en < b
      ·skip
       have tA : decide ((i : Int) < (m : Int)) = true := decide_eq_true (by omega)
       have tB : decide ((m : Int) < (en : Int)) = false := decide_eq_false (by omega)
       have tC : decide ((a : Int) < (i : Int)) = true := decide_eq_true (by omega)
       have tD : decide ((i : Int) < (mid : Int)) = false := decide_eq_false (by omega)
       have tE : decide ((mid : Int) < (en : Int)) = true := decide_eq_true (by omega)
       have tF : decide ((en : Int) < (b : Int)) = true := decide_eq_true (by omega)
       have hc1 := Lib.hid (hrec.out d wr mid en b (by omega) rfl S1.out (by omega) (by omega) (by omega))
       go_wp2_with fail
       refine hc1.out.mono ?_
       rintro e w1 ⟨rfl, d1, hp1, T1⟩
       have S1x : Aside _ := T1
       have hz1 : d1.size = d.size := hp1.size
       have PM1 := Lib.hid (hp1)
       clear hp1 T1 hc1
       go_wp2_with fail
       go_end0
       exact ⟨rfl, d1, PM1.out, S1x.out⟩
      ·skip
       exfalso; omega
     ·skip
      by_cases k4 : en < b
      ·skip
       have tA : decide ((i : Int) < (m : Int)) = false := decide_eq_false (by omega)
       have tB : decide ((m : Int) < (en : Int)) = false := decide_eq_false (by omega)
       have tC : decide ((a : Int) < (i : Int)) = true := decide_eq_true (by omega)
       have tD : decide ((i : Int) < (mid : Int)) = false := decide_eq_false (by omega)
       have tE : decide ((mid : Int) < (en : Int)) = false := decide_eq_false (by omega)
       have tF : decide ((en : Int) < (b : Int)) = true := decide_eq_true (by omega)
       go_wp2_with fail
       go_end0
       exact ⟨rfl, d, PmA.refl _, S1.out⟩
      ·skip
       exfalso; omega
set_option maxHeartbeats 3200000 in
set_option maxRecDepth 1000000 in
theorem symMerge_any (E : SrtK k enc cf w0 blk off d0) (cap : Nat) : ∀ (fuel : Nat) (d : Array NQ) (w : World) (a m b : Nat), b - a ≤ fuel → d.size = d0.size → d.size ≤ 1099511627776 → SWK enc k w0 blk off d w → a < m → m < b → b ≤ d.size →
  Calls Tryz.prog 167 #[.slice (some ⟨blk, off, none⟩) d.size cap, .int .i64 a, .int .i64 m, .int .i64 b, .func (.func 129) #[] #[]] w (SrtTo k enc w0 blk off d) := by
 intro fuel
 induction fuel with
 | zero => intro d w a m b h0 _ _ _ h1 h2; omega
 | succ fuel ih =>
  intro d w a m b hf hs hsz S ham hmb hbs
  by_cases c1 : m = a + 1
  ·exact symOne_any E cap hs hsz S ham hmb hbs c1
  by_cases c2 : b = m + 1
  ·exact symTwo_any E cap hs hsz S ham hmb hbs c1 c2
  refine symRest_any E cap (fuel := fuel) hs hsz S ham hmb hbs c1 c2 hf fun dk wr a m b h0 h1 h2 h3 h4 h5 => ?_
  have := ih dk wr a m b h0 (by omega) (by omega) h2 h3 h4 (by omega)
  rwa [h1] at this
set_option maxHeartbeats 3200000 in
set_option maxRecDepth 1000000 in
theorem stable_any (E : SrtK k enc cf w0 blk off d0) (hs : d.size = d0.size) (hsz : d.size ≤ 1099511627776) (S : SWK enc k w0 blk off d w) (cap : Nat) :
  Calls Tryz.prog 152 #[.slice (some ⟨blk, off, none⟩) d.size cap, .int .i64 d.size, .func (.func 129) #[] #[]] w (SrtTo k enc w0 blk off d) := by
 have hins : Aside (∀ (dk : Array NQ) (wr : World) (a b : Nat), dk.size = d.size → SWK enc k w0 blk off dk wr → a ≤ d.size → b ≤ d.size → Calls Tryz.prog 166 #[.slice (some ⟨blk, off, none⟩) d.size cap, .int .i64 a, .int .i64 b, .func (.func 129) #[] #[]] wr (SrtTo k enc w0 blk off dk)) := fun dk wr a b h1 h2 h3 h4 => by
  have := insertion_any (d := dk) E (by omega) (by omega) h2 cap a b (by omega) (by omega)
  rwa [h1] at this
 have hsym : Aside (∀ (dk : Array NQ) (wr : World) (a m b : Nat), dk.size = d.size → SWK enc k w0 blk off dk wr → a < m → m < b → b ≤ d.size → Calls Tryz.prog 167 #[.slice (some ⟨blk, off, none⟩) d.size cap, .int .i64 a, .int .i64 m, .int .i64 b, .func (.func 129) #[] #[]] wr (SrtTo k enc w0 blk off dk)) := fun dk wr a m b h1 h2 h3 h4 h5 => by
  have := symMerge_any E cap (b - a) dk wr a m b (Nat.le_refl _) (by omega) (by omega) h2 h3 h4 (by omega)
  rwa [h1] at this
 have S0 : Aside _ := S
 clear S
 clear hs
 obtain ⟨n, hn⟩ : ∃ n, d.size = n := ⟨_, rfl⟩
 rw [hn] at hins hsym ⊢
 rw [hn] at hsz
 go_enter Tryz.func152, Tryz.ntmps152
 go_wp2_with fail
 go_loopw [7, 8] (fun va vb wr => ∃ (a : Nat) (dk : Array NQ), va = .int .i64 a ∧ vb = .int .i64 ((a : Int) + 20) ∧ a ≤ n ∧ dk.size = n ∧ PmA d dk ∧ Aside (SWK enc k w0 blk off dk wr)) (fun v _ _ => n + 1 - (intOf v).toNat)
 case atStart => exact ⟨0, d, rfl, rfl, Nat.zero_le _, hn, PmA.refl _, S0⟩
 case round =>
  clear S0
  obtain ⟨a, dk, rfl, rfl, han, hds, hpm, S1⟩ := hrel
  have HP := Lib.hid hpm
  clear hpm
  by_cases hlt : a + 20 ≤ n
  ·have hltz : (a : Int) + 20 ≤ (n : Int) := by omega
   have ewa : IntKind.i64.wrap ((a : Int) + 20 + 20) = (a : Int) + 20 + 20 := by rw [IntKind.wrap_i64]; omega
   have hc := Lib.hid (hins.out dk wr a (a + 20) hds S1.out (by omega) (by omega))
   rw [show ((a + 20 : Nat) : Int) = (a : Int) + 20 by omega] at hc
   clear S1 hins hsym
   go_wp2_with fail
   refine hc.out.mono ?_
   rintro e w2 ⟨rfl, dn, hp2, S2⟩
   have hz := hp2.size
   have S2 : Aside _ := S2
   have HP2 := Lib.hid hp2
   clear hp2 hc
   go_wp2_with fail
   go_roundw
   case rel => exact ⟨a + 20, dn, by first | rfl | go_num, by first | rfl | go_num, by omega, by omega, HP.out.trans HP2.out, S2⟩
   case measure => simp [intOf] <;> omega
  ·have hltz : ¬ (a : Int) + 20 ≤ (n : Int) := by omega
   have hc := Lib.hid (hins.out dk wr a n hds S1.out (by omega) (by omega))
   clear S1 hins
   go_wp2_with fail
   refine hc.out.mono ?_
   rintro e w2 ⟨rfl, dn, hp2, S2⟩
   have hz := hp2.size
   have S2 : Aside _ := S2
   have HP2 := Lib.hid (HP.out.trans hp2)
   clear hp2 hc HP hltz hlt
   go_wp2_with fail
   go_loopw [6, 7, 8, 9] (fun v6 v7 v8 v9 wr => ∃ (bs : Nat) (dk : Array NQ), v6 = .int .i64 bs ∧ 20 ≤ bs ∧ bs ≤ 2 * n + 20 ∧ dk.size = n ∧ PmA d dk ∧ Aside (SWK enc k w0 blk off dk wr)) (fun v _ _ _ _ => 2 * n + 20 - (intOf v).toNat)
   case atStart => exact ⟨20, dn, rfl, Nat.le_refl _, by omega, by omega, HP2.out, S2⟩
   case round =>
    clear S2 HP2 hz hds
    obtain ⟨bs, dj, rfl, hb1, hb2, hdj, hpm, S1⟩ := hrel
    have HP := Lib.hid hpm
    clear hpm
    by_cases hlt : bs < n
    ·have hltz : (bs : Int) < (n : Int) := by omega
     have ew2 : IntKind.i64.wrap (2 * (bs : Int)) = 2 * (bs : Int) := by rw [IntKind.wrap_i64]; omega
     have ew3 : IntKind.i64.wrap ((bs : Int) * 2) = 2 * (bs : Int) := by rw [IntKind.wrap_i64]; omega
     go_wp2_with fail
     generalize wr = wo at *
     go_loopw [7, 8] (fun va vb wr => ∃ (a : Nat) (dk : Array NQ), va = .int .i64 a ∧ vb = .int .i64 ((a : Int) + 2 * (bs : Int)) ∧ a ≤ n ∧ dk.size = n ∧ PmA d dk ∧ Aside (SWK enc k w0 blk off dk wr)) (fun v _ _ => n + 1 - (intOf v).toNat)
     case atStart => exact ⟨0, dj, rfl, by first | rfl | go_num | simp, Nat.zero_le _, hdj, HP.out, S1⟩
     case round =>
      clear S1 HP
      obtain ⟨a, dk, rfl, rfl, han, hds, hpm, S1⟩ := hrel
      have HP := Lib.hid hpm
      clear hpm
      have ewm : IntKind.i64.wrap ((a : Int) + (bs : Int)) = (a : Int) + (bs : Int) := by rw [IntKind.wrap_i64]; omega
      by_cases hle : a + 2 * bs ≤ n
      ·have hlez : (a : Int) + 2 * (bs : Int) ≤ (n : Int) := by omega
       have ewa : IntKind.i64.wrap ((a : Int) + 2 * (bs : Int) + 2 * (bs : Int)) = (a : Int) + 2 * (bs : Int) + 2 * (bs : Int) := by rw [IntKind.wrap_i64]; omega
       have hc := Lib.hid (hsym.out dk wr a (a + bs) (a + 2 * bs) hds S1.out (by omega) (by omega) (by omega))
       rw [show ((a + bs : Nat) : Int) = (a : Int) + (bs : Int) by omega, show ((a + 2 * bs : Nat) : Int) = (a : Int) + 2 * (bs : Int) by omega] at hc
       clear S1 hsym
       go_wp2_with fail
       refine hc.out.mono ?_
       rintro e w2 ⟨rfl, dn, hp2, S2⟩
       have hz := hp2.size
       have S2 : Aside _ := S2
       have HP2 := Lib.hid hp2
       clear hp2 hc
       go_wp2_with fail
       go_roundw
       case rel => exact ⟨a + 2 * bs, dn, by first | rfl | go_num | (congr 1; omega), by first | rfl | go_num | (congr 1; omega), by omega, by omega, HP.out.trans HP2.out, S2⟩
       case measure => simp [intOf] <;> omega
      ·have hlez : ¬ (a : Int) + 2 * (bs : Int) ≤ (n : Int) := by omega
       by_cases hm : a + bs < n
       ·have hmz : (a : Int) + (bs : Int) < (n : Int) := by omega
        have hc := Lib.hid (hsym.out dk wr a (a + bs) n hds S1.out (by omega) (by omega) (by omega))
        rw [show ((a + bs : Nat) : Int) = (a : Int) + (bs : Int) by omega] at hc
        clear S1 hsym
        go_wp2_with fail
        refine hc.out.mono ?_
        rintro e w2 ⟨rfl, dn, hp2, S2⟩
        have hz := hp2.size
        have S2 : Aside _ := S2
        have HP2 := Lib.hid hp2
        clear hp2 hc
        go_wp2_with fail
        go_roundw
        case rel => exact ⟨2 * bs, dn, by first | rfl | go_num | (congr 1; omega), by omega, by omega, by omega, HP.out.trans HP2.out, S2⟩
        case measure => simp [intOf] <;> omega
       ·have hmz : ¬ (a : Int) + (bs : Int) < (n : Int) := by omega
        go_wp2_with fail
        go_roundw
        case rel => exact ⟨2 * bs, dk, by first | rfl | go_num | (congr 1; omega), by omega, by omega, by omega, HP.out, S1⟩
        case measure => simp [intOf] <;> omega
    ·have hltz : ¬ (bs : Int) < (n : Int) := by omega
     go_wp2_with fail
     go_end0
     exact ⟨rfl, dj, HP.out, S1.out⟩
end
end Go.Proofs.YtjedgdamommgeaaGreat
