/- Package graph, exact: Check. Printed by gen_gwi.py. -/
import Derived.Test.YtdmmebjjojimiaaGreatDoorG37
set_option maxRecDepth 100000
set_option maxHeartbeats 8000000
set_option linter.all false
namespace Go.Proofs
theorem zAx{p:Prop}(h:p:=by rw[<-hW3];exact(rM.out.same O2).alloc _):p:=h
theorem zCL{p:Prop}(h:p:=by simp[fC]):p:=h
theorem zDK{p:Prop}(h:p:=by
 have hne:(c != 0)=true:=by simpa using h0
 obtain⟨rfl,rfl⟩:c=rc/\s=rs:=by
  have h:=lZ.out
  rw[if_neg h0]at h
  have h2:=h.symm.trans aZ.out
  exact⟨congrArg Prod.fst h2,congrArg Prod.snd h2⟩
 clear lZ FP
 go_wp2_with (refine wpList_store_row rfl 38 (.tmp 6) (.tmp 39) rfl W0.heap.size #[.int .u8 c,.string s] rfl rfl 38 #[.int .u8 0,.string ⟨#[]⟩] (iM.out W3 kV.out) zk rfl zk ?_)
 refine cO (p:=6) rfl rfl rfl (run_loadVar_row _ _ _ _ _ (0,0) _ (setRow_heap _ _ _ _ _ _ (iM.out W3 kV.out)) Tryz.underlying38 rfl zk) ?_
 exact⟨rfl,(aV.out.same (aI.out.same kV.out)).trans (aK _ _ _) fun k hk=>.inr zAO⟩):p:=h
theorem zDR{p:Prop}(h:p:=by
 go_wp2_with fail
 clear hW1 pc
 refine HF.out.mono ?_
 rintro e w2 ⟨rfl,O2⟩
 have HP2:=zh O2
 clear O2
 go_wp2_with (refine wpList_store_row rfl 38 (.tmp 1) (.tmp 5) rfl w.heap.size #[.int .u8 rc,.string rs] rfl rfl 38 #[.int .u8 0,.string ⟨#[]⟩] (iM.out w2 HP2.out) zk rfl zk ?_)
 refine cO (p:=1) rfl rfl rfl (run_loadVar_row _ _ _ _ _ (0,0) _ (setRow_heap _ _ _ _ _ _ (iM.out w2 HP2.out)) Tryz.underlying38 rfl zk) ?_
 exact⟨rfl,(aI.out.same HP2.out).trans (aK _ _ _) fun k hk=>.inr zBV⟩):p:=h
theorem zDm{p:Prop}(h:p:=by
 have hcs2:=hcs
 unfold fC at hcs2
 simp only[List.getD_cons_zero,List.getD_cons_succ]at hcs2
 rw[hcs2]at h
 exact h):p:=h
theorem zEV{p:Prop}(h:p:=by
 have h:=lZ.out
 rw[if_pos rfl]at h
 exact h):p:=h
end Go.Proofs
namespace Go.Proofs.YtdmmebjjojimiaaGreatDoor
open Go.RowKit
section
variable {w w':World} {B:Nat}
attribute [local irreducible] wpQuiet
structure Ae (x:aQ) (q:dD) (g:List aC):Prop where
 small:wR x
 roots:q.roots.length<=990
 few:afq g
theorem KI{x:aQ}{n:aC}(h:0<=x.find n.name):bY x n∈x.packs:=by unfold bY;have h2:=x.uM n.name;obtain⟨k,hk⟩:∃k:Nat,x.find n.name=(k:Int):=⟨(x.find n.name).toNat,by omega⟩;rw[hk,yT];unfold aQ.pack;have:k<x.packs.length:=zAA;rw[qC,qA this];exact qZ this
theorem Named.mem{x:aQ}{g:List aC}(h:Named x g){n:aC}(hn:n∈g):0<=x.find n.name:=by obtain⟨i,hi,rfl⟩:=Hq.1 hn;exact h.found i hi
theorem Ae.ail{x:aQ}{q:dD}{g:List aC}(h:Ae x q g)(hN:Named x g):aaI x g:=fun n hn=>by
 have h1:=hN.mem hn
 have h2:=(h.small.all _ (KI h1)).deps
 exact⟨h1,by omega⟩
theorem sN{m:List (Int×Option Str)}:∀{l:List (Int×Option Str)},(∀p∈l,p.1≠0)->dB (l++m)=if (dB l).1=0 then dB m else dB l
 | [],_=>rfl
 | (c,some s)::r,h=>by
  rw[List.cons_append,BZ,BZ,if_neg (h (c,some s) qQ)]
 | (c,none)::r,h=>by
  rw[List.cons_append,BU,BU]
  exact sN fun p hp=>h p (yE _ hp)
theorem nK:∀{l:List (Int×Option Str)},(∀p∈l,p.1≠0)->(dB l).1=0->dB l=(0,ByteArray.empty)
 | [],_,_=>rfl
 | (c,some s)::r,h,h0=>absurd h0 (h (c,some s) qQ)
 | (c,none)::r,h,h0=>by
  rw[BU]at h0⊢
  exact nK (fun p hp=>h p (yE _ hp)) h0
noncomputable def fC (x:aQ) (q:dD) (g:List aC):List (List (Int×Option Str)):=
 [[(1,aX g (jH x g))],[(2,aX g fun _ n=>yx x n)],[(3,aX g fun _ n=>setW x n)],[(4,uy x q g)],[(5,aX g fun _ n=>BQ x g n)],[(6,xg x q g)],[(7,aX g fun _ n=>Bf x g n)],[(8,aX g fun _ n=>D8 x g n)],[(9,aX g fun i _=>vZ g i),(10,aX g fun i _=>pG x q g i)]]
noncomputable def jC (x:aQ) (q:dD) (g:List aC) (i:Nat):List (Int×Option Str):=((fC x q g).drop i).flatten
theorem XJ:∀args w,(callFunc 110 args).run Tryz.prog w= .ok (.enter 110 args) w:=enters_of Tryz.func110 zk rfl
theorem XK:∀args w,(callFunc 108 args).run Tryz.prog w= .ok (.enter 108 args) w:=enters_of Tryz.func108 zk rfl
theorem acE{bp:Nat}{x:aQ}{q:dD}{g:List aC}(hc:lH B w bp x q g)(hL:Laid w)(hB:B<=w.heap.size)(hk:Ae x q g):DN B w 110 #[.pointer (some ⟨bp,0,none⟩)] #[] g (jH x g):=fun i n hi W cs o hn=>by
 have h:=ahd (hc.only o) hn i (qJ.1 hi).1
 simpa using h
theorem afw{bp bc:Nat}{x:aQ}{q:dD}{g:List aC}(hc:lH B w bp x q g)(hcc:∀W,O0 w W->W.cell? ⟨bc,0,none⟩=some (.pointer (some ⟨bp,0,none⟩)))(hL:Laid w)(hB:B<=w.heap.size)(hk:Ae x q g):Calls Tryz.prog 108 #[.pointer (some ⟨bc,0,none⟩)] w fun e w'=>iY (dB [(1,aX g (jH x g))]) w w' e:=by
 obtain⟨rc,rs,hr⟩:∃c s,dB [(1,aX g (jH x g))]=(c,s):=⟨_,_,rfl⟩;rw[hr];unfold iY;dsimp only;obtain⟨W1,hW1⟩:=ze (w.alloc (.cells #[.int .u8 0,.string ⟨#[]⟩] 38));have aI:Hid (O0 w W1):=zAc;have iM:Hid (∀W,O0 W1 W->W.heap[w.heap.size]? =some (.cells #[.int .u8 0,.string ⟨#[]⟩] 38 (0,0))):=fun W ho=>by exact zDn
 have HF:Hid (Calls Tryz.prog 109 #[.pointer (some ⟨bp,0,none⟩),.int .u8 1,.func (.func 110) #[.pointer (some ⟨bp,0,none⟩)] #[]] W1 fun e w'=>e= .returned (.agg #[.int .u8 rc,.string rs])/\O0 W1 w'):=by have h:=oM (hc.only aI.out) 1 XJ (acE (hc.only aI.out) (hL.only aI.out) (qR hB aI.out.size) hk);rw[hr]at h;exact h
 have pc:=hcc W1 aI.out;clear hc hcc hL hB hk hr;go_enter Tryz.func108,Tryz.ntmps108;exact zDR
theorem PG:∀args w,(callFunc 112 args).run Tryz.prog w= .ok (.enter 112 args) w:=enters_of Tryz.func112 zk rfl
theorem PK:∀args w,(callFunc 111 args).run Tryz.prog w= .ok (.enter 111 args) w:=enters_of Tryz.func111 zk rfl
theorem Vm{bp:Nat}{x:aQ}{q:dD}{g:List aC}(hc:lH B w bp x q g)(hL:Laid w)(hB:B<=w.heap.size)(hk:Ae x q g)(hN:Named x g):DN B w 112 #[.pointer (some ⟨bp,0,none⟩)] #[] g (fun _ n=>yx x n):=fun i n hi W cs o hn=>by
 have h:=Zq (hc.only o) hn (hN.mem (qT hi)) (qR hB o.size) (by have:=(hk.small.all _ (KI (hN.mem (qT hi)))).jc;omega) (hL.only o) (i:Int)
 simpa using h
theorem XL{bp bc:Nat}{x:aQ}{q:dD}{g:List aC}(hc:lH B w bp x q g)(hcc:∀W,O0 w W->W.cell? ⟨bc,0,none⟩=some (.pointer (some ⟨bp,0,none⟩)))(hL:Laid w)(hB:B<=w.heap.size)(hk:Ae x q g)(hN:Named x g):Calls Tryz.prog 111 #[.pointer (some ⟨bc,0,none⟩)] w fun e w'=>iY (dB [(2,aX g (fun _ n=>yx x n))]) w w' e:=by
 obtain⟨rc,rs,hr⟩:∃c s,dB [(2,aX g (fun _ n=>yx x n))]=(c,s):=⟨_,_,rfl⟩;rw[hr];unfold iY;dsimp only;obtain⟨W1,hW1⟩:=ze (w.alloc (.cells #[.int .u8 0,.string ⟨#[]⟩] 38));have aI:Hid (O0 w W1):=zAc;have iM:Hid (∀W,O0 W1 W->W.heap[w.heap.size]? =some (.cells #[.int .u8 0,.string ⟨#[]⟩] 38 (0,0))):=fun W ho=>by exact zDn
 have HF:Hid (Calls Tryz.prog 109 #[.pointer (some ⟨bp,0,none⟩),.int .u8 2,.func (.func 112) #[.pointer (some ⟨bp,0,none⟩)] #[]] W1 fun e w'=>e= .returned (.agg #[.int .u8 rc,.string rs])/\O0 W1 w'):=by have h:=oM (hc.only aI.out) 2 PG (Vm (hc.only aI.out) (hL.only aI.out) (qR hB aI.out.size) hk hN);rw[hr]at h;exact h
 have pc:=hcc W1 aI.out;clear hc hcc hL hB hk hr hN;go_enter Tryz.func111,Tryz.ntmps111;exact zDR
theorem MK:∀args w,(callFunc 114 args).run Tryz.prog w= .ok (.enter 114 args) w:=enters_of Tryz.func114 zk rfl
theorem ML:∀args w,(callFunc 113 args).run Tryz.prog w= .ok (.enter 113 args) w:=enters_of Tryz.func113 zk rfl
theorem QX{bp:Nat}{x:aQ}{q:dD}{g:List aC}(hc:lH B w bp x q g)(hL:Laid w)(hB:B<=w.heap.size)(hk:Ae x q g)(hN:Named x g):DN B w 114 #[.pointer (some ⟨bp,0,none⟩)] #[] g (fun _ n=>setW x n):=fun i n hi W cs o hn=>by
 have h:=Xv (hc.only o) hn (hN.mem (qT hi)) (i:Int)
 simpa using h
theorem Vo{bp bc:Nat}{x:aQ}{q:dD}{g:List aC}(hc:lH B w bp x q g)(hcc:∀W,O0 w W->W.cell? ⟨bc,0,none⟩=some (.pointer (some ⟨bp,0,none⟩)))(hL:Laid w)(hB:B<=w.heap.size)(hk:Ae x q g)(hN:Named x g):Calls Tryz.prog 113 #[.pointer (some ⟨bc,0,none⟩)] w fun e w'=>iY (dB [(3,aX g (fun _ n=>setW x n))]) w w' e:=by
 obtain⟨rc,rs,hr⟩:∃c s,dB [(3,aX g (fun _ n=>setW x n))]=(c,s):=⟨_,_,rfl⟩;rw[hr];unfold iY;dsimp only;obtain⟨W1,hW1⟩:=ze (w.alloc (.cells #[.int .u8 0,.string ⟨#[]⟩] 38));have aI:Hid (O0 w W1):=zAc;have iM:Hid (∀W,O0 W1 W->W.heap[w.heap.size]? =some (.cells #[.int .u8 0,.string ⟨#[]⟩] 38 (0,0))):=fun W ho=>by exact zDn
 have HF:Hid (Calls Tryz.prog 109 #[.pointer (some ⟨bp,0,none⟩),.int .u8 3,.func (.func 114) #[.pointer (some ⟨bp,0,none⟩)] #[]] W1 fun e w'=>e= .returned (.agg #[.int .u8 rc,.string rs])/\O0 W1 w'):=by have h:=oM (hc.only aI.out) 3 MK (QX (hc.only aI.out) (hL.only aI.out) (qR hB aI.out.size) hk hN);rw[hr]at h;exact h
 have pc:=hcc W1 aI.out;clear hc hcc hL hB hk hr hN;go_enter Tryz.func113,Tryz.ntmps113;exact zDR
theorem PL:∀args w,(callFunc 117 args).run Tryz.prog w= .ok (.enter 117 args) w:=enters_of Tryz.func117 zk rfl
theorem PN:∀args w,(callFunc 116 args).run Tryz.prog w= .ok (.enter 116 args) w:=enters_of Tryz.func116 zk rfl
theorem Vp{bp:Nat}{x:aQ}{q:dD}{g:List aC}(hc:lH B w bp x q g)(hL:Laid w)(hB:B<=w.heap.size)(hk:Ae x q g)(hN:Named x g):DN B w 117 #[.pointer (some ⟨bp,0,none⟩)] #[] g (fun _ n=>BQ x g n):=fun i n hi W cs o hn=>by
 have h:=Zy (hc.only o) hn (hN.mem (qT hi)) ((hk.ail hN n (qT hi)).2) (qR hB o.size) (hL.only o) (i:Int)
 simpa using h
theorem XM{bp bc:Nat}{x:aQ}{q:dD}{g:List aC}(hc:lH B w bp x q g)(hcc:∀W,O0 w W->W.cell? ⟨bc,0,none⟩=some (.pointer (some ⟨bp,0,none⟩)))(hL:Laid w)(hB:B<=w.heap.size)(hk:Ae x q g)(hN:Named x g):Calls Tryz.prog 116 #[.pointer (some ⟨bc,0,none⟩)] w fun e w'=>iY (dB [(5,aX g (fun _ n=>BQ x g n))]) w w' e:=by
 obtain⟨rc,rs,hr⟩:∃c s,dB [(5,aX g (fun _ n=>BQ x g n))]=(c,s):=⟨_,_,rfl⟩;rw[hr];unfold iY;dsimp only;obtain⟨W1,hW1⟩:=ze (w.alloc (.cells #[.int .u8 0,.string ⟨#[]⟩] 38));have aI:Hid (O0 w W1):=zAc;have iM:Hid (∀W,O0 W1 W->W.heap[w.heap.size]? =some (.cells #[.int .u8 0,.string ⟨#[]⟩] 38 (0,0))):=fun W ho=>by exact zDn
 have HF:Hid (Calls Tryz.prog 109 #[.pointer (some ⟨bp,0,none⟩),.int .u8 5,.func (.func 117) #[.pointer (some ⟨bp,0,none⟩)] #[]] W1 fun e w'=>e= .returned (.agg #[.int .u8 rc,.string rs])/\O0 W1 w'):=by have h:=oM (hc.only aI.out) 5 PL (Vp (hc.only aI.out) (hL.only aI.out) (qR hB aI.out.size) hk hN);rw[hr]at h;exact h
 have pc:=hcc W1 aI.out;clear hc hcc hL hB hk hr hN;go_enter Tryz.func116,Tryz.ntmps116;exact zDR
theorem KJ:∀args w,(callFunc 120 args).run Tryz.prog w= .ok (.enter 120 args) w:=enters_of Tryz.func120 zk rfl
theorem KL:∀args w,(callFunc 119 args).run Tryz.prog w= .ok (.enter 119 args) w:=enters_of Tryz.func119 zk rfl
theorem PO{bp:Nat}{x:aQ}{q:dD}{g:List aC}(hc:lH B w bp x q g)(hL:Laid w)(hB:B<=w.heap.size)(hk:Ae x q g)(hN:Named x g):DN B w 120 #[.pointer (some ⟨bp,0,none⟩)] #[] g (fun _ n=>Bf x g n):=fun i n hi W cs o hn=>by
 have h:=Vh (hc.only o) hn (hN.mem (qT hi)) (hL.only o) (i:Int)
 simpa using h
theorem QY{bp bc:Nat}{x:aQ}{q:dD}{g:List aC}(hc:lH B w bp x q g)(hcc:∀W,O0 w W->W.cell? ⟨bc,0,none⟩=some (.pointer (some ⟨bp,0,none⟩)))(hL:Laid w)(hB:B<=w.heap.size)(hk:Ae x q g)(hN:Named x g):Calls Tryz.prog 119 #[.pointer (some ⟨bc,0,none⟩)] w fun e w'=>iY (dB [(7,aX g (fun _ n=>Bf x g n))]) w w' e:=by
 obtain⟨rc,rs,hr⟩:∃c s,dB [(7,aX g (fun _ n=>Bf x g n))]=(c,s):=⟨_,_,rfl⟩;rw[hr];unfold iY;dsimp only;obtain⟨W1,hW1⟩:=ze (w.alloc (.cells #[.int .u8 0,.string ⟨#[]⟩] 38));have aI:Hid (O0 w W1):=zAc;have iM:Hid (∀W,O0 W1 W->W.heap[w.heap.size]? =some (.cells #[.int .u8 0,.string ⟨#[]⟩] 38 (0,0))):=fun W ho=>by exact zDn
 have HF:Hid (Calls Tryz.prog 109 #[.pointer (some ⟨bp,0,none⟩),.int .u8 7,.func (.func 120) #[.pointer (some ⟨bp,0,none⟩)] #[]] W1 fun e w'=>e= .returned (.agg #[.int .u8 rc,.string rs])/\O0 W1 w'):=by have h:=oM (hc.only aI.out) 7 KJ (PO (hc.only aI.out) (hL.only aI.out) (qR hB aI.out.size) hk hN);rw[hr]at h;exact h
 have pc:=hcc W1 aI.out;clear hc hcc hL hB hk hr hN;go_enter Tryz.func119,Tryz.ntmps119;exact zDR
theorem Js:∀args w,(callFunc 122 args).run Tryz.prog w= .ok (.enter 122 args) w:=enters_of Tryz.func122 zk rfl
theorem Jt:∀args w,(callFunc 121 args).run Tryz.prog w= .ok (.enter 121 args) w:=enters_of Tryz.func121 zk rfl
theorem MN{bp:Nat}{x:aQ}{q:dD}{g:List aC}(hc:lH B w bp x q g)(hL:Laid w)(hB:B<=w.heap.size)(hk:Ae x q g)(hN:Named x g):DN B w 122 #[.pointer (some ⟨bp,0,none⟩)] #[] g (fun _ n=>D8 x g n):=fun i n hi W cs o hn=>by
 have h:=QW (hc.only o) hn (hN.mem (qT hi)) (by have:=(hk.small.all _ (KI (hN.mem (qT hi)))).deps;omega) (by have:=hk.small.packs;omega) (qR hB o.size) (hL.only o) (i:Int)
 simpa using h
theorem PS{bp bc:Nat}{x:aQ}{q:dD}{g:List aC}(hc:lH B w bp x q g)(hcc:∀W,O0 w W->W.cell? ⟨bc,0,none⟩=some (.pointer (some ⟨bp,0,none⟩)))(hL:Laid w)(hB:B<=w.heap.size)(hk:Ae x q g)(hN:Named x g):Calls Tryz.prog 121 #[.pointer (some ⟨bc,0,none⟩)] w fun e w'=>iY (dB [(8,aX g (fun _ n=>D8 x g n))]) w w' e:=by
 obtain⟨rc,rs,hr⟩:∃c s,dB [(8,aX g (fun _ n=>D8 x g n))]=(c,s):=⟨_,_,rfl⟩;rw[hr];unfold iY;dsimp only;obtain⟨W1,hW1⟩:=ze (w.alloc (.cells #[.int .u8 0,.string ⟨#[]⟩] 38));have aI:Hid (O0 w W1):=zAc;have iM:Hid (∀W,O0 W1 W->W.heap[w.heap.size]? =some (.cells #[.int .u8 0,.string ⟨#[]⟩] 38 (0,0))):=fun W ho=>by exact zDn
 have HF:Hid (Calls Tryz.prog 109 #[.pointer (some ⟨bp,0,none⟩),.int .u8 8,.func (.func 122) #[.pointer (some ⟨bp,0,none⟩)] #[]] W1 fun e w'=>e= .returned (.agg #[.int .u8 rc,.string rs])/\O0 W1 w'):=by have h:=oM (hc.only aI.out) 8 Js (MN (hc.only aI.out) (hL.only aI.out) (qR hB aI.out.size) hk hN);rw[hr]at h;exact h
 have pc:=hcc W1 aI.out;clear hc hcc hL hB hk hr hN;go_enter Tryz.func121,Tryz.ntmps121;exact zDR
theorem Vq:∀args w,(callFunc 115 args).run Tryz.prog w= .ok (.enter 115 args) w:=enters_of Tryz.func115 zk rfl
theorem MO:∀args w,(callFunc 118 args).run Tryz.prog w= .ok (.enter 118 args) w:=enters_of Tryz.func118 zk rfl
theorem Vr:∀args w,(callFunc 123 args).run Tryz.prog w= .ok (.enter 123 args) w:=enters_of Tryz.func123 zk rfl
theorem afx{lC:List Value}{x:aQ}(hx:fO B w lC x){Ba:List Value}{q:dD}(hq:mg B w Ba q){CS:List Value}{g:List aC}(hg:rU B w CS g)(hL:Laid w)(hB:B<=w.heap.size)(hk:Ae x q g):Calls Tryz.prog 52 #[.agg lC.toArray,.agg Ba.toArray,.agg CS.toArray] w fun e w'=>iY (dB (jv x q g)) w w' e:=by
 obtain⟨aP,ak,aJ,aO,aG,aH,rfl,fF,fG,dP,dQ,aB,bJ,mY⟩:=open_rec hx;clear hx;try rw[aB.out]
 obtain⟨dw,aY,dA,rfl,oU,oV,bQ,E8⟩:=lM hq;clear hq;try rw[bQ.out]
 obtain⟨dI,ay,dh,rfl,rC,rD,bG,Jd⟩:=nH hg;clear hg;try rw[bG.out]
 obtain⟨W0,hW0,aV,jK,aF⟩:=zO w (.slice aP ak aJ) (.slice aO aG aH) (.slice dw aY dA) (.slice dI ay dh) 25 28 31;obtain⟨eX,bK,bT⟩:=mY W0 aV.out;clear mY;obtain⟨zL,gu⟩:=E8 W0 aV.out;clear E8;obtain⟨Bg,dU⟩:=Jd W0 aV.out;clear Jd;have kU:=zh hk;obtain⟨rc,rs,hr⟩:∃c s,dB (jv x q g)=(c,s):=⟨_,_,rfl⟩;have aZ:=zh hr;rw[hr];unfold iY;dsimp only;obtain⟨W1,hW1⟩:=ze (W0.alloc (.cells #[.int .u8 0,.string ⟨#[]⟩] 38));have aI:Hid (O0 W0 W1):=zAc;have iM:Hid (∀W,O0 W1 W->W.heap[W0.heap.size]? =some (.cells #[.int .u8 0,.string ⟨#[]⟩] 38 (0,0))):=fun W ho=>by exact zDt
 clear hr;obtain⟨W5,hW5⟩:=ze ((W1.alloc (.cells #[.slice aP ak aJ,.slice aO aG aH,.slice dw aY dA,.slice dI ay dh] 182)).alloc (.cells #[.pointer (some ⟨W1.heap.size,0,none⟩)] 180));have apr:Hid (O0 W1 W5):=by rw[<-hW5];exact(zr.alloc _).alloc _
 obtain⟨W6,hW6⟩:=ze (W5.alloc (.cells #[.func (.func 108) #[] #[.pointer (some ⟨W1.heap.size+1,0,none⟩)],.func (.func 111) #[] #[.pointer (some ⟨W1.heap.size+1,0,none⟩)],.func (.func 113) #[] #[.pointer (some ⟨W1.heap.size+1,0,none⟩)],.func (.func 115) #[.pointer (some ⟨W1.heap.size,0,none⟩)] #[],.func (.func 116) #[] #[.pointer (some ⟨W1.heap.size+1,0,none⟩)],.func (.func 118) #[.pointer (some ⟨W1.heap.size,0,none⟩)] #[],.func (.func 119) #[] #[.pointer (some ⟨W1.heap.size+1,0,none⟩)],.func (.func 121) #[] #[.pointer (some ⟨W1.heap.size+1,0,none⟩)],.func (.func 123) #[.pointer (some ⟨W1.heap.size,0,none⟩)] #[]] 185));have HB6:Hid (W6.heap[W5.heap.size]? =some (.cells #[.func (.func 108) #[] #[.pointer (some ⟨W1.heap.size+1,0,none⟩)],.func (.func 111) #[] #[.pointer (some ⟨W1.heap.size+1,0,none⟩)],.func (.func 113) #[] #[.pointer (some ⟨W1.heap.size+1,0,none⟩)],.func (.func 115) #[.pointer (some ⟨W1.heap.size,0,none⟩)] #[],.func (.func 116) #[] #[.pointer (some ⟨W1.heap.size+1,0,none⟩)],.func (.func 118) #[.pointer (some ⟨W1.heap.size,0,none⟩)] #[],.func (.func 119) #[] #[.pointer (some ⟨W1.heap.size+1,0,none⟩)],.func (.func 121) #[] #[.pointer (some ⟨W1.heap.size+1,0,none⟩)],.func (.func 123) #[.pointer (some ⟨W1.heap.size,0,none⟩)] #[]] 185 (0,0))):=by rw[<-hW6];exact qL W5 _
 have ajZ:Hid (O0 W5 W6):=by rw[<-hW6];exact zr.alloc _
 have KN:Hid (O0 W1 W6):=apr.out.same ajZ.out;have hb5:W5.heap[W1.heap.size]? =some (.cells #[.slice aP ak aJ,.slice aO aG aH,.slice dw aY dA,.slice dI ay dh] 182 (0,0)):=by rw[<-hW5];exact dF (alloc_at rfl) _
 have aj0:W5.heap[W1.heap.size+1]? =some (.cells #[.pointer (some ⟨W1.heap.size,0,none⟩)] 180 (0,0)):=by rw[<-hW5];exact alloc_at zAP
 have Tq:Hid (∀W,O0 W6 W->W.cell? ⟨W1.heap.size+1,0,none⟩=some (.pointer (some ⟨W1.heap.size,0,none⟩))):=fun W hW=>by rw[aj (aA aj0 (ajZ.out.same hW) (fun f=>f))];rfl
 have HCg:Hid (∀W,O0 W6 W->lH B W W1.heap.size x q g):=fun W hW=>by have o1:=aI.out.same (KN.out.same hW);refine⟨_,_,_,eX.out W o1,zL.out W o1,Bg.out W o1,fun V hV j u hu=>?_⟩;rw[aj (aA hb5 (ajZ.out.same (hW.same hV)) (fun f=>f)),Nat.zero_add,<-Array.getElem?_toList];exact hu
 have NV:Hid (∀W,O0 W6 W->Laid W):=fun W hW=>hL.only (aV.out.same (aI.out.same (KN.out.same hW)));have y5:Hid (∀W,O0 W6 W->B<=W.heap.size):=fun W hW=>qR hB (aV.out.same (aI.out.same (KN.out.same hW))).size;have aps:Hid (∀W,O0 W6 W->W.cell? ⟨W5.heap.size,0,none⟩=some (.func (.func 108) #[] #[.pointer (some ⟨W1.heap.size+1,0,none⟩)])):=fun W hW=>by rw[aj (aA HB6.out hW (fun f=>f))];rfl
 have abz:Hid (∀W,O0 W6 W->W.cell? ⟨W5.heap.size,1,none⟩=some (.func (.func 111) #[] #[.pointer (some ⟨W1.heap.size+1,0,none⟩)])):=fun W hW=>by rw[aj (aA HB6.out hW (fun f=>f))];rfl
 have Zh:Hid (∀W,O0 W6 W->W.cell? ⟨W5.heap.size,2,none⟩=some (.func (.func 113) #[] #[.pointer (some ⟨W1.heap.size+1,0,none⟩)])):=fun W hW=>by rw[aj (aA HB6.out hW (fun f=>f))];rfl
 have apt:Hid (∀W,O0 W6 W->W.cell? ⟨W5.heap.size,3,none⟩=some (.func (.func 115) #[.pointer (some ⟨W1.heap.size,0,none⟩)] #[])):=fun W hW=>by rw[aj (aA HB6.out hW (fun f=>f))];rfl
 have apu:Hid (∀W,O0 W6 W->W.cell? ⟨W5.heap.size,4,none⟩=some (.func (.func 116) #[] #[.pointer (some ⟨W1.heap.size+1,0,none⟩)])):=fun W hW=>by rw[aj (aA HB6.out hW (fun f=>f))];rfl
 have apv:Hid (∀W,O0 W6 W->W.cell? ⟨W5.heap.size,5,none⟩=some (.func (.func 118) #[.pointer (some ⟨W1.heap.size,0,none⟩)] #[])):=fun W hW=>by rw[aj (aA HB6.out hW (fun f=>f))];rfl
 have apw:Hid (∀W,O0 W6 W->W.cell? ⟨W5.heap.size,6,none⟩=some (.func (.func 119) #[] #[.pointer (some ⟨W1.heap.size+1,0,none⟩)])):=fun W hW=>by rw[aj (aA HB6.out hW (fun f=>f))];rfl
 have apx:Hid (∀W,O0 W6 W->W.cell? ⟨W5.heap.size,7,none⟩=some (.func (.func 121) #[] #[.pointer (some ⟨W1.heap.size+1,0,none⟩)])):=fun W hW=>by rw[aj (aA HB6.out hW (fun f=>f))];rfl
 have apy:Hid (∀W,O0 W6 W->W.cell? ⟨W5.heap.size,8,none⟩=some (.func (.func 123) #[.pointer (some ⟨W1.heap.size,0,none⟩)] #[])):=fun W hW=>by rw[aj (aA HB6.out hW (fun f=>f))];rfl
 have apz:Hid (∀W,O0 W6 W->O0 W1 W):=fun W hW=>KN.out.same hW;have pc:W5.cell? ⟨W1.heap.size+1,0,none⟩=some (.pointer (some ⟨W1.heap.size,0,none⟩)):=by rw[aj aj0];rfl
 obtain⟨k0,k1,k2,k3⟩:=aF.out W1 (aI.out.same zr);have hW0':=hW0.symm;clear hW0 hk hL hB hb5 aj0;go_enter Tryz.func52,Tryz.ntmps52;go_wp2_with fail;clear hW1 hW0' hW5 hW6 pc k0 k1 k2 k3;go_loopw [30] (fun vi bD=>Hid (O0 W6 bD)/\∃i:Nat,vi= .int .i64 i/\i<=9/\Hid (dB (jv x q g)=dB (jC x q g i))/\Hid (0<i->Named x g)) (fun v _=>9-(RowKit.intOf v).toNat);case atStart=>exact⟨show Hid _ from Only.refl _ _,0,rfl,by omega,show Hid _ from rfl,show Hid _ from fun h=>absurd h zAA⟩
 case round=>
  obtain⟨bD,rfl⟩:=zB wr;obtain⟨rM,i,rfl,hi,HRe,En⟩:=hrel;by_cases ci:i<9
  ·obtain rfl|rfl|rfl|rfl|rfl|rfl|rfl|rfl|rfl:i=0\/i=1\/i=2\/i=3\/i=4\/i=5\/i=6\/i=7\/i=8:=by omega
   ·have hrest:jC x q g 0=((fC x q g).getD 0 [])++jC x q g (0+1):=rfl;have hnz:∀p∈((fC x q g).getD 0 []),p.1≠0:=zCL;have jQ:=sN (m:=jC x q g (0+1)) hnz;rw[<-hrest,<-HRe.out]at jQ;obtain⟨c,s,hcs⟩:∃c s,dB ((fC x q g).getD 0 [])=(c,s):=⟨_,_,rfl⟩;have hz:=nK hnz;rw[hcs]at jQ hz;dsimp only at jQ hz;have HL:Hid (Calls Tryz.prog 108 #[.pointer (some ⟨W1.heap.size+1,0,none⟩)] bD fun e w'=>e= .returned (.agg #[.int .u8 c,.string s])/\O0 bD w'):=by have h:=afw (HCg.out bD rM.out) (fun V hV=>(Tq.out V (rM.out.same hV))) (NV.out bD rM.out) (y5.out bD rM.out) kU.out;exact zDm
    have FN:Hid (c=0->Named x g):=fun h0=>Kt.1 (by
     have h1:=hz h0
     have hcs2:=hcs
     rw[h1]at hcs2
     unfold fC at hcs2
     simp only[List.getD_cons_zero]at hcs2
     cases hq:aX g (jH x g)with
     |none=>rfl
     |some t=>rw[hq]at hcs2;have:=congrArg Prod.fst hcs2;simp[dB]at this)
    have lZ:=zh jQ;have FP:=zh hz;have el:=aps.out bD rM.out;have eg:=XK;clear hrest hnz jQ hz hcs;go_wp2_with fail;clear el eg;refine HL.out.mono ?_;rintro e w2 ⟨rfl,O2⟩;obtain⟨W3,hW3⟩:=ze (w2.alloc (.cells #[.int .u8 c,.string s] 38));have HB3:Hid (W3.heap[w2.heap.size]? =some (.cells #[.int .u8 c,.string s] 38 (0,0))):=zBA;have yj:Hid (O0 W6 W3):=zAx;have kV:Hid (O0 W1 W3):=KN.out.same yj.out;have n0:W3.cell? ⟨w2.heap.size,0,none⟩=some (.int .u8 c):=zAq;have n1:W3.cell? ⟨w2.heap.size,1,none⟩=some (.string s):=zAq;clear O2 HB3 HL;by_cases h0:c=0
    ·subst h0;have FQ:Hid (dB (jv x q g)=dB (jC x q g (0+1))):=by exact zEV
     have zs:s=ByteArray.empty:=congrArg Prod.snd (FP.out rfl);subst zs;clear lZ FP;have z1:=n1;clear n1;go_wp2_with fail;clear hW3;go_roundw;case rel=>exact⟨yj,0+1,by first|rfl|go_num,by omega,FQ,show Hid _ from fun _=>FN.out zCA⟩
     case measure=>simp[RowKit.intOf]<;>omega
    exact zDK
   ·have hrest:jC x q g 1=((fC x q g).getD 1 [])++jC x q g (1+1):=rfl;have hnz:∀p∈((fC x q g).getD 1 []),p.1≠0:=zCL;have jQ:=sN (m:=jC x q g (1+1)) hnz;rw[<-hrest,<-HRe.out]at jQ;obtain⟨c,s,hcs⟩:∃c s,dB ((fC x q g).getD 1 [])=(c,s):=⟨_,_,rfl⟩;have hz:=nK hnz;rw[hcs]at jQ hz;dsimp only at jQ hz;have hN:=En.out zAA;have HL:Hid (Calls Tryz.prog 111 #[.pointer (some ⟨W1.heap.size+1,0,none⟩)] bD fun e w'=>e= .returned (.agg #[.int .u8 c,.string s])/\O0 bD w'):=by have h:=XL (HCg.out bD rM.out) (fun V hV=>(Tq.out V (rM.out.same hV))) (NV.out bD rM.out) (y5.out bD rM.out) kU.out hN;exact zDm
    have FN:Hid (0<1+1->Named x g):=fun _=>hN;have lZ:=zh jQ;have FP:=zh hz;have el:=abz.out bD rM.out;have eg:=PK;clear hrest hnz jQ hz hcs;go_wp2_with fail;clear el eg;refine HL.out.mono ?_;rintro e w2 ⟨rfl,O2⟩;obtain⟨W3,hW3⟩:=ze (w2.alloc (.cells #[.int .u8 c,.string s] 38));have HB3:Hid (W3.heap[w2.heap.size]? =some (.cells #[.int .u8 c,.string s] 38 (0,0))):=zBA;have yj:Hid (O0 W6 W3):=zAx;have kV:Hid (O0 W1 W3):=KN.out.same yj.out;have n0:W3.cell? ⟨w2.heap.size,0,none⟩=some (.int .u8 c):=zAq;have n1:W3.cell? ⟨w2.heap.size,1,none⟩=some (.string s):=zAq;clear O2 HB3 HL;by_cases h0:c=0
    ·subst h0;have FQ:Hid (dB (jv x q g)=dB (jC x q g (1+1))):=by exact zEV
     have zs:s=ByteArray.empty:=congrArg Prod.snd (FP.out rfl);subst zs;clear lZ FP;have z1:=n1;clear n1;go_wp2_with fail;clear hW3;go_roundw;case rel=>exact⟨yj,1+1,by first|rfl|go_num,by omega,FQ,FN⟩
     case measure=>simp[RowKit.intOf]<;>omega
    exact zDK
   ·have hrest:jC x q g 2=((fC x q g).getD 2 [])++jC x q g (2+1):=rfl;have hnz:∀p∈((fC x q g).getD 2 []),p.1≠0:=zCL;have jQ:=sN (m:=jC x q g (2+1)) hnz;rw[<-hrest,<-HRe.out]at jQ;obtain⟨c,s,hcs⟩:∃c s,dB ((fC x q g).getD 2 [])=(c,s):=⟨_,_,rfl⟩;have hz:=nK hnz;rw[hcs]at jQ hz;dsimp only at jQ hz;have hN:=En.out zAA;have HL:Hid (Calls Tryz.prog 113 #[.pointer (some ⟨W1.heap.size+1,0,none⟩)] bD fun e w'=>e= .returned (.agg #[.int .u8 c,.string s])/\O0 bD w'):=by have h:=Vo (HCg.out bD rM.out) (fun V hV=>(Tq.out V (rM.out.same hV))) (NV.out bD rM.out) (y5.out bD rM.out) kU.out hN;exact zDm
    have FN:Hid (0<2+1->Named x g):=fun _=>hN;have lZ:=zh jQ;have FP:=zh hz;have el:=Zh.out bD rM.out;have eg:=ML;clear hrest hnz jQ hz hcs;go_wp2_with fail;clear el eg;refine HL.out.mono ?_;rintro e w2 ⟨rfl,O2⟩;obtain⟨W3,hW3⟩:=ze (w2.alloc (.cells #[.int .u8 c,.string s] 38));have HB3:Hid (W3.heap[w2.heap.size]? =some (.cells #[.int .u8 c,.string s] 38 (0,0))):=zBA;have yj:Hid (O0 W6 W3):=zAx;have kV:Hid (O0 W1 W3):=KN.out.same yj.out;have n0:W3.cell? ⟨w2.heap.size,0,none⟩=some (.int .u8 c):=zAq;have n1:W3.cell? ⟨w2.heap.size,1,none⟩=some (.string s):=zAq;clear O2 HB3 HL;by_cases h0:c=0
    ·subst h0;have FQ:Hid (dB (jv x q g)=dB (jC x q g (2+1))):=by exact zEV
     have zs:s=ByteArray.empty:=congrArg Prod.snd (FP.out rfl);subst zs;clear lZ FP;have z1:=n1;clear n1;go_wp2_with fail;clear hW3;go_roundw;case rel=>exact⟨yj,2+1,by first|rfl|go_num,by omega,FQ,FN⟩
     case measure=>simp[RowKit.intOf]<;>omega
    exact zDK
   ·have hrest:jC x q g 3=((fC x q g).getD 3 [])++jC x q g (3+1):=rfl;have hnz:∀p∈((fC x q g).getD 3 []),p.1≠0:=zCL;have jQ:=sN (m:=jC x q g (3+1)) hnz;rw[<-hrest,<-HRe.out]at jQ;obtain⟨c,s,hcs⟩:∃c s,dB ((fC x q g).getD 3 [])=(c,s):=⟨_,_,rfl⟩;have hz:=nK hnz;rw[hcs]at jQ hz;dsimp only at jQ hz;have hN:=En.out zAA;have HL:Hid (Calls Tryz.prog 115 #[.pointer (some ⟨W1.heap.size,0,none⟩)] bD fun e w'=>e= .returned (.agg #[.int .u8 c,.string s])/\O0 bD w'):=by have h:=afk (HCg.out bD rM.out) (NV.out bD rM.out);exact zDm
    have FN:Hid (0<3+1->Named x g):=fun _=>hN;have lZ:=zh jQ;have FP:=zh hz;have el:=apt.out bD rM.out;have eg:=Vq;clear hrest hnz jQ hz hcs;go_wp2_with fail;clear el eg;refine HL.out.mono ?_;rintro e w2 ⟨rfl,O2⟩;obtain⟨W3,hW3⟩:=ze (w2.alloc (.cells #[.int .u8 c,.string s] 38));have HB3:Hid (W3.heap[w2.heap.size]? =some (.cells #[.int .u8 c,.string s] 38 (0,0))):=zBA;have yj:Hid (O0 W6 W3):=zAx;have kV:Hid (O0 W1 W3):=KN.out.same yj.out;have n0:W3.cell? ⟨w2.heap.size,0,none⟩=some (.int .u8 c):=zAq;have n1:W3.cell? ⟨w2.heap.size,1,none⟩=some (.string s):=zAq;clear O2 HB3 HL;by_cases h0:c=0
    ·subst h0;have FQ:Hid (dB (jv x q g)=dB (jC x q g (3+1))):=by exact zEV
     have zs:s=ByteArray.empty:=congrArg Prod.snd (FP.out rfl);subst zs;clear lZ FP;have z1:=n1;clear n1;go_wp2_with fail;clear hW3;go_roundw;case rel=>exact⟨yj,3+1,by first|rfl|go_num,by omega,FQ,FN⟩
     case measure=>simp[RowKit.intOf]<;>omega
    exact zDK
   ·have hrest:jC x q g 4=((fC x q g).getD 4 [])++jC x q g (4+1):=rfl;have hnz:∀p∈((fC x q g).getD 4 []),p.1≠0:=zCL;have jQ:=sN (m:=jC x q g (4+1)) hnz;rw[<-hrest,<-HRe.out]at jQ;obtain⟨c,s,hcs⟩:∃c s,dB ((fC x q g).getD 4 [])=(c,s):=⟨_,_,rfl⟩;have hz:=nK hnz;rw[hcs]at jQ hz;dsimp only at jQ hz;have hN:=En.out zAA;have HL:Hid (Calls Tryz.prog 116 #[.pointer (some ⟨W1.heap.size+1,0,none⟩)] bD fun e w'=>e= .returned (.agg #[.int .u8 c,.string s])/\O0 bD w'):=by have h:=XM (HCg.out bD rM.out) (fun V hV=>(Tq.out V (rM.out.same hV))) (NV.out bD rM.out) (y5.out bD rM.out) kU.out hN;exact zDm
    have FN:Hid (0<4+1->Named x g):=fun _=>hN;have lZ:=zh jQ;have FP:=zh hz;have el:=apu.out bD rM.out;have eg:=PN;clear hrest hnz jQ hz hcs;go_wp2_with fail;clear el eg;refine HL.out.mono ?_;rintro e w2 ⟨rfl,O2⟩;obtain⟨W3,hW3⟩:=ze (w2.alloc (.cells #[.int .u8 c,.string s] 38));have HB3:Hid (W3.heap[w2.heap.size]? =some (.cells #[.int .u8 c,.string s] 38 (0,0))):=zBA;have yj:Hid (O0 W6 W3):=zAx;have kV:Hid (O0 W1 W3):=KN.out.same yj.out;have n0:W3.cell? ⟨w2.heap.size,0,none⟩=some (.int .u8 c):=zAq;have n1:W3.cell? ⟨w2.heap.size,1,none⟩=some (.string s):=zAq;clear O2 HB3 HL;by_cases h0:c=0
    ·subst h0;have FQ:Hid (dB (jv x q g)=dB (jC x q g (4+1))):=by exact zEV
     have zs:s=ByteArray.empty:=congrArg Prod.snd (FP.out rfl);subst zs;clear lZ FP;have z1:=n1;clear n1;go_wp2_with fail;clear hW3;go_roundw;case rel=>exact⟨yj,4+1,by first|rfl|go_num,by omega,FQ,FN⟩
     case measure=>simp[RowKit.intOf]<;>omega
    exact zDK
   ·have hrest:jC x q g 5=((fC x q g).getD 5 [])++jC x q g (5+1):=rfl;have hnz:∀p∈((fC x q g).getD 5 []),p.1≠0:=zCL;have jQ:=sN (m:=jC x q g (5+1)) hnz;rw[<-hrest,<-HRe.out]at jQ;obtain⟨c,s,hcs⟩:∃c s,dB ((fC x q g).getD 5 [])=(c,s):=⟨_,_,rfl⟩;have hz:=nK hnz;rw[hcs]at jQ hz;dsimp only at jQ hz;have hN:=En.out zAA;have HL:Hid (Calls Tryz.prog 118 #[.pointer (some ⟨W1.heap.size,0,none⟩)] bD fun e w'=>e= .returned (.agg #[.int .u8 c,.string s])/\O0 bD w'):=by have h:=XE (HCg.out bD rM.out) (NV.out bD rM.out) (y5.out bD rM.out) (kU.out.ail hN) kU.out.small (by have:=kU.out.roots;omega);exact zDm
    have FN:Hid (0<5+1->Named x g):=fun _=>hN;have lZ:=zh jQ;have FP:=zh hz;have el:=apv.out bD rM.out;have eg:=MO;clear hrest hnz jQ hz hcs;go_wp2_with fail;clear el eg;refine HL.out.mono ?_;rintro e w2 ⟨rfl,O2⟩;obtain⟨W3,hW3⟩:=ze (w2.alloc (.cells #[.int .u8 c,.string s] 38));have HB3:Hid (W3.heap[w2.heap.size]? =some (.cells #[.int .u8 c,.string s] 38 (0,0))):=zBA;have yj:Hid (O0 W6 W3):=zAx;have kV:Hid (O0 W1 W3):=KN.out.same yj.out;have n0:W3.cell? ⟨w2.heap.size,0,none⟩=some (.int .u8 c):=zAq;have n1:W3.cell? ⟨w2.heap.size,1,none⟩=some (.string s):=zAq;clear O2 HB3 HL;by_cases h0:c=0
    ·subst h0;have FQ:Hid (dB (jv x q g)=dB (jC x q g (5+1))):=by exact zEV
     have zs:s=ByteArray.empty:=congrArg Prod.snd (FP.out rfl);subst zs;clear lZ FP;have z1:=n1;clear n1;go_wp2_with fail;clear hW3;go_roundw;case rel=>exact⟨yj,5+1,by first|rfl|go_num,by omega,FQ,FN⟩
     case measure=>simp[RowKit.intOf]<;>omega
    exact zDK
   ·have hrest:jC x q g 6=((fC x q g).getD 6 [])++jC x q g (6+1):=rfl;have hnz:∀p∈((fC x q g).getD 6 []),p.1≠0:=zCL;have jQ:=sN (m:=jC x q g (6+1)) hnz;rw[<-hrest,<-HRe.out]at jQ;obtain⟨c,s,hcs⟩:∃c s,dB ((fC x q g).getD 6 [])=(c,s):=⟨_,_,rfl⟩;have hz:=nK hnz;rw[hcs]at jQ hz;dsimp only at jQ hz;have hN:=En.out zAA;have HL:Hid (Calls Tryz.prog 119 #[.pointer (some ⟨W1.heap.size+1,0,none⟩)] bD fun e w'=>e= .returned (.agg #[.int .u8 c,.string s])/\O0 bD w'):=by have h:=QY (HCg.out bD rM.out) (fun V hV=>(Tq.out V (rM.out.same hV))) (NV.out bD rM.out) (y5.out bD rM.out) kU.out hN;exact zDm
    have FN:Hid (0<6+1->Named x g):=fun _=>hN;have lZ:=zh jQ;have FP:=zh hz;have el:=apw.out bD rM.out;have eg:=KL;clear hrest hnz jQ hz hcs;go_wp2_with fail;clear el eg;refine HL.out.mono ?_;rintro e w2 ⟨rfl,O2⟩;obtain⟨W3,hW3⟩:=ze (w2.alloc (.cells #[.int .u8 c,.string s] 38));have HB3:Hid (W3.heap[w2.heap.size]? =some (.cells #[.int .u8 c,.string s] 38 (0,0))):=zBA;have yj:Hid (O0 W6 W3):=zAx;have kV:Hid (O0 W1 W3):=KN.out.same yj.out;have n0:W3.cell? ⟨w2.heap.size,0,none⟩=some (.int .u8 c):=zAq;have n1:W3.cell? ⟨w2.heap.size,1,none⟩=some (.string s):=zAq;clear O2 HB3 HL;by_cases h0:c=0
    ·subst h0;have FQ:Hid (dB (jv x q g)=dB (jC x q g (6+1))):=by exact zEV
     have zs:s=ByteArray.empty:=congrArg Prod.snd (FP.out rfl);subst zs;clear lZ FP;have z1:=n1;clear n1;go_wp2_with fail;clear hW3;go_roundw;case rel=>exact⟨yj,6+1,by first|rfl|go_num,by omega,FQ,FN⟩
     case measure=>simp[RowKit.intOf]<;>omega
    exact zDK
   ·have hrest:jC x q g 7=((fC x q g).getD 7 [])++jC x q g (7+1):=rfl;have hnz:∀p∈((fC x q g).getD 7 []),p.1≠0:=zCL;have jQ:=sN (m:=jC x q g (7+1)) hnz;rw[<-hrest,<-HRe.out]at jQ;obtain⟨c,s,hcs⟩:∃c s,dB ((fC x q g).getD 7 [])=(c,s):=⟨_,_,rfl⟩;have hz:=nK hnz;rw[hcs]at jQ hz;dsimp only at jQ hz;have hN:=En.out zAA;have HL:Hid (Calls Tryz.prog 121 #[.pointer (some ⟨W1.heap.size+1,0,none⟩)] bD fun e w'=>e= .returned (.agg #[.int .u8 c,.string s])/\O0 bD w'):=by have h:=PS (HCg.out bD rM.out) (fun V hV=>(Tq.out V (rM.out.same hV))) (NV.out bD rM.out) (y5.out bD rM.out) kU.out hN;exact zDm
    have FN:Hid (0<7+1->Named x g):=fun _=>hN;have lZ:=zh jQ;have FP:=zh hz;have el:=apx.out bD rM.out;have eg:=Jt;clear hrest hnz jQ hz hcs;go_wp2_with fail;clear el eg;refine HL.out.mono ?_;rintro e w2 ⟨rfl,O2⟩;obtain⟨W3,hW3⟩:=ze (w2.alloc (.cells #[.int .u8 c,.string s] 38));have HB3:Hid (W3.heap[w2.heap.size]? =some (.cells #[.int .u8 c,.string s] 38 (0,0))):=zBA;have yj:Hid (O0 W6 W3):=zAx;have kV:Hid (O0 W1 W3):=KN.out.same yj.out;have n0:W3.cell? ⟨w2.heap.size,0,none⟩=some (.int .u8 c):=zAq;have n1:W3.cell? ⟨w2.heap.size,1,none⟩=some (.string s):=zAq;clear O2 HB3 HL;by_cases h0:c=0
    ·subst h0;have FQ:Hid (dB (jv x q g)=dB (jC x q g (7+1))):=by exact zEV
     have zs:s=ByteArray.empty:=congrArg Prod.snd (FP.out rfl);subst zs;clear lZ FP;have z1:=n1;clear n1;go_wp2_with fail;clear hW3;go_roundw;case rel=>exact⟨yj,7+1,by first|rfl|go_num,by omega,FQ,FN⟩
     case measure=>simp[RowKit.intOf]<;>omega
    exact zDK
   have hrest:jC x q g 8=((fC x q g).getD 8 [])++jC x q g (8+1):=rfl;have hnz:∀p∈((fC x q g).getD 8 []),p.1≠0:=zCL;have jQ:=sN (m:=jC x q g (8+1)) hnz;rw[<-hrest,<-HRe.out]at jQ;obtain⟨c,s,hcs⟩:∃c s,dB ((fC x q g).getD 8 [])=(c,s):=⟨_,_,rfl⟩;have hz:=nK hnz;rw[hcs]at jQ hz;dsimp only at jQ hz;have hN:=En.out zAA;have HL:Hid (Calls Tryz.prog 123 #[.pointer (some ⟨W1.heap.size,0,none⟩)] bD fun e w'=>e= .returned (.agg #[.int .u8 c,.string s])/\O0 bD w'):=by have h:=aft (HCg.out bD rM.out) kU.out.few kU.out.roots (by have:=kU.out.small.packs;omega);exact zDm
   have FN:Hid (0<8+1->Named x g):=fun _=>hN;have lZ:=zh jQ;have FP:=zh hz;have el:=apy.out bD rM.out;have eg:=Vr;clear hrest hnz jQ hz hcs;go_wp2_with fail;clear el eg;refine HL.out.mono ?_;rintro e w2 ⟨rfl,O2⟩;obtain⟨W3,hW3⟩:=ze (w2.alloc (.cells #[.int .u8 c,.string s] 38));have HB3:Hid (W3.heap[w2.heap.size]? =some (.cells #[.int .u8 c,.string s] 38 (0,0))):=zBA;have yj:Hid (O0 W6 W3):=zAx;have kV:Hid (O0 W1 W3):=KN.out.same yj.out;have n0:W3.cell? ⟨w2.heap.size,0,none⟩=some (.int .u8 c):=zAq;have n1:W3.cell? ⟨w2.heap.size,1,none⟩=some (.string s):=zAq;clear O2 HB3 HL;by_cases h0:c=0
   ·subst h0;have FQ:Hid (dB (jv x q g)=dB (jC x q g (8+1))):=by exact zEV
    have zs:s=ByteArray.empty:=congrArg Prod.snd (FP.out rfl);subst zs;clear lZ FP;have z1:=n1;clear n1;go_wp2_with fail;clear hW3;go_roundw;case rel=>exact⟨yj,8+1,by first|rfl|go_num,by omega,FQ,FN⟩
    case measure=>simp[RowKit.intOf]<;>omega
   exact zDK
  obtain rfl:i=9:=by omega
  have sJ:=zh (apz.out bD rM.out);have hfin:dB (jv x q g)=(0,ByteArray.empty):=HRe.out;obtain⟨rfl,rfl⟩:0=rc/\ByteArray.empty=rs:=by have h:dB (jv x q g)=(0,ByteArray.empty):=hfin;exact zDS
  go_wp2_with (refine wpList_store_row rfl 38 (.tmp 6) (.tmp 41) rfl W0.heap.size #[.int .u8 0,.string ByteArray.empty] rfl rfl 38 #[.int .u8 0,.string ⟨#[]⟩] (iM.out bD sJ.out) zk rfl zk ?_);exact zFu
end
end Go.Proofs.YtdmmebjjojimiaaGreatDoor
