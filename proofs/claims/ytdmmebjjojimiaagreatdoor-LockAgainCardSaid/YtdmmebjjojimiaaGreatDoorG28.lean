/- The document's graphs, exact: reach. Printed by gen_gr9.py. -/
import Derived.Test.YtdmmebjjojimiaaGreatDoorG27
set_option maxRecDepth 100000
set_option maxHeartbeats 8000000
set_option linter.all false
namespace Go.Proofs
theorem zAB{p:Prop}(h:p:=by(intro w hSw;have k0:=aF.out w hSw;have hrn:=(jg.out w hSw).1;have U7:=hrn 3 _ rfl;clear hrn;have hrm:=(Jl.out w hSw).1;have Aa:=hrm 0 _ rfl;rw[qF]at Aa;clear hrm;go_simp<;>(try with_reducible rfl))):p:=h
theorem zBX{p:Prop}(h:p:=by rw[MC.out];exact r3):p:=h
theorem zCT{p:Prop}(h:p:=by exact(gK.out.same tu.out).drew):p:=h
theorem zCr{p:Prop}(h:p:=by rw[MC.out];exact r1):p:=h
theorem zDB{p:Prop}(h:p:=by have:=(tu.out.same hC).size;exact this):p:=h
theorem zDD{p:Prop}(h:p:=by have:=tu.out.size;simp;omega):p:=h
theorem zDd{p:Prop}(h:p:=by
 refine hK.out _ _ ?_ (fun hHeld=>?_)
 ·(try dsimp only)<;>(exact hHeld.trans r2 (fun k hk=>.inr (qR HOW.out.size (HV.out.new k hk))))
 clear hK K
 try simp only[Act.put,fA,fD,fB,dW,dX,dY]
 refine tW 28 ?_
 refine bV zk ?_ _
 have MF:Hid (RX bD w7 v7 (Zm g i (k+1))):=by
  rw[OV,HEd.out]
  exact RX.app ⟨aW HV.out.own hC (fun _ _ f=>f),HV.out.new⟩ zDB zCr zBX
 have rF:Hid (O0 bD w7):=(tu.out.same hC).trans r2 (fun k hk=>.inr (HV.out.new k hk))
 obtain⟨g4,c4,rfl,-,-,-⟩:=r3
 clear r1 r2 hC hHeld
 go_wp2_with fail
 go_roundw
 case rel=>exact⟨rF,k+1,by first|rfl|go_num,by omega,MF⟩
 case measure=>simp[RowKit.intOf]<;>omega):p:=h
theorem zDi{p:Prop}(h:p:=by
 go_wp2_with fail
 go_roundw
 case rel=>exact⟨rF,k+1,by first|rfl|go_num,by omega,MF⟩
 case measure=>simp[RowKit.intOf]<;>omega):p:=h
theorem zEm{p:Prop}(h:p:=by
 obtain⟨g,cap,rfl,-,-,hg⟩:=a
 simp only[Value.ownBlock,qG]at hk
 subst hk
 rcases hg with hg|hg
 ·exact h.new g hg
 ·omega):p:=h
theorem zE2{p:Prop}(h:p:=by
 refine tW 25 ?_
 refine tO 26 fun K hK=>?_
 go_simp
 refine hK.out _ _ ?_ (fun hHeld=>?_)
 ·(try dsimp only)<;>(exact(hHeld.alloc _))
 clear hK K
 try simp only[Act.put,fA,fD,fB,dW,dX,dY]
 refine tO 27 fun K hK=>?_
 (refine Zl (u:=.bool false) DL (by rfl) (.tmp 25) (.tmp 51) (by rfl) (by rfl) (by rfl) (cell_new0 _ _ _) (by rfl) (aW HVo.out (hC.alloc _) (fun _ _ f=>f)) zAA zHZ ?_;intro v7 w7 r1 r2 r3;replace hC:=hC.alloc (.cells #[.bool false] 4))
 exact zDd):p:=h
theorem zE8{p:Prop}(h:p:=by
 have rF:Hid (O0 bD w4):=(tu.out.alloc _).trans r2 (fun k hk=>.inr (HV.out.new k hk))
 obtain⟨g4,c4,rfl,-,-,-⟩:=r3
 clear r1 r2
 exact zDi):p:=h
end Go.Proofs
namespace Go.Proofs.YtdmmebjjojimiaaGreatDoor
open Go.RowKit
section
variable {w w':World} {B:Nat}
attribute [local irreducible] wpQuiet
theorem DL:Gu Tryz.prog 58 4 1 1:=Gu.mk' (z:=.bool false) Tryz.underlying58 zk rfl zAH
theorem ag7:Gu Tryz.prog 204 58 1 24:=Gu.mk' (z:=Qn) Tryz.underlying204 zk rfl zAH
theorem SQ{e e':TypeId}{s s' n n':Nat}{v v':Value}{xs xs':List Value}(hne:e≠e')(h:w.ownsRow 0 e s v n xs)(h':w.ownsRow 0 e' s' v' n' xs'){k:Nat}(hk:v.ownBlock=some k):v'.ownBlock≠some k:=by exact zEU
theorem KC(w:World):(w.alloc (.cells #[] 4)).ownsRow 0 4 1 (.slice (some ⟨w.heap.size,0,none⟩) 0 0) 0 []:=World.ownsRow_lit (base:=0) (e:=4) (size:=1) w #[] 0 (qE _) zCn zAP
theorem Zk(w:World):(w.alloc (.cells #[] 58)).ownsRow 0 58 1 (.slice (some ⟨w.heap.size,0,none⟩) 0 0) 0 []:=World.ownsRow_lit (base:=0) (e:=58) (size:=1) w #[] 0 (qE _) zCn zAP
structure RX (w0 w:World) (v:Value) (bs:List Bool):Prop where
 own:w.ownsRow 0 4 1 v bs.length (bs.map Value.bool)
 new:∀k,v.ownBlock=some k->w0.heap.size<=k
structure BX (w0 w:World) (v:Value) (n:Nat) (L:List Value) (e:OE):Prop where
 own:w.ownsRow 0 58 1 v L.length L
 new:∀k,v.ownBlock=some k->w0.heap.size<=k
 len:e.length=L.length
 rows:∀(i:Nat) (r:Value),L[i]? =some r->∃bs:List Bool,e[i]? =some bs/\bs.length=n/\w.ownsRow 0 4 1 r n (bs.map Value.bool)
theorem RX.app{w0 w1 w2:World}{v v':Value}{bs:List Bool}{b:Bool}(h:RX w0 w1 v bs)(hs:w0.heap.size<=w1.heap.size)(s1:w2.ownsRow 0 4 1 v' (bs.length+1) (bs.map Value.bool++[.bool b]))(a:Rk w1 v v' (bs.length+1)):RX w0 w2 v' (bs++[b]):=by refine⟨by simpa using s1,fun k hk=>?_⟩;exact zEm
theorem BX.only{w0 w1 w2:World}{v:Value}{n:Nat}{L:List Value}{e:OE}{F:Nat->Prop}(h:BX w0 w1 v n L e)(ho:Only F w1 w2)(hF:∀k,F k->w1.heap.size<=k):BX w0 w2 v n L e:=by refine⟨aW h.own ho (fun k hk f=>by have:=pq h.own hk;have:=hF k f;omega),h.new,h.len,fun i r hr=>?_⟩;obtain⟨bs,q,hl,hb⟩:=h.rows i r hr;exact⟨bs,q,hl,aW hb ho (fun k hk f=>by have:=pq hb hk;have:=hF k f;omega)⟩
theorem BX.dK{w0 w1 w2:World}{v:Value}{n:Nat}{L:List Value}{e:OE}(h:BX w0 w1 v n L e)(ho:O0 w1 w2):BX w0 w2 v n L e:=h.only ho (fun _ f=>f.elim)
theorem BX.app{w0 w1 w2:World}{v v':Value}{n:Nat}{L:List Value}{e:OE}{r:Value}(h:BX w0 w1 v n L e)(hs:w0.heap.size<=w1.heap.size)(s1:w2.ownsRow 0 58 1 v' (L.length+1) (L++[r]))(o:Only (fun k=>v.ownBlock=some k) w1 w2)(a:Rk w1 v v' (L.length+1)){bs:List Bool}(hl:bs.length=n)(hb:w1.ownsRow 0 4 1 r n (bs.map Value.bool)):BX w0 w2 v' n (L++[r]) (e++[bs]):=by
 have keep:∀(r':Value) (m:Nat) (zs:List Value),w1.ownsRow 0 4 1 r' m zs->w2.ownsRow 0 4 1 r' m zs:=fun r' m zs hb=>aW hb o (fun k hk f=>SQ zAH hb h.own hk f);refine⟨by simpa using s1,fun k hk=>?_,by simp[h.len],fun i r' hr'=>?_⟩;·exact zEm
 by_cases hi:i<L.length;·rw[yM hi]at hr';obtain⟨bs',q,hl',hb'⟩:=h.rows i r' hr';exact⟨bs',by rw[yM (by rw[h.len];exact hi)];exact q,hl',keep _ _ _ hb'⟩
 rw[yN zAA]at hr';have h0:i-L.length=0:=by have:=(qJ.1 hr').1;simp at this;omega
 rw[h0]at hr';simp at hr';subst hr';exact⟨bs,by rw[yN (by rw[h.len];omega),h.len,h0];rfl,hl,keep _ _ _ hb⟩
theorem BX.set{w0 w1:World}{g m cap n:Nat}{L:List Value}{e:OE}(h:BX w0 w1 (.slice (some ⟨g,0,none⟩) m cap) n L e){i:Nat}{r:Value}{bs:List Bool}(hl:bs.length=n)(hb:w1.ownsRow 0 4 1 r n (bs.map Value.bool)):BX w0 (w1.setCell ⟨g,i,none⟩ r) (.slice (some ⟨g,0,none⟩) m cap) n (L.set i r) (e.set i bs):=by
 have o:Only (fun k=>k=g) w1 (w1.setCell ⟨g,i,none⟩ r):=(Only.refl (fun k=>k=g) w1).setCell (p:=⟨g,i,none⟩) (.inl rfl) _;have keep:∀(r':Value) (m:Nat) (zs:List Value),w1.ownsRow 0 4 1 r' m zs->(w1.setCell ⟨g,i,none⟩ r).ownsRow 0 4 1 r' m zs:=fun r' m zs hb=>aW hb o (fun k hk f=>SQ zAH hb h.own hk (by rw[f];rfl));have hm:m=L.length:=by obtain⟨ao,c,e,-,-⟩:=bg h.own;simp only[qU]at e;exact e.2.1
 subst hm;refine⟨by rw[List.length_set];exact(h.own.stored i r).1,h.new,by rw[List.length_set,List.length_set];exact h.len,fun j r' hr'=>?_⟩;rw[List.getElem?_set]at hr';rw[List.getElem?_set];by_cases hj:i=j
 ·rw[if_pos hj]at hr'⊢;by_cases hi:i<L.length;·rw[if_pos hi]at hr';rw[if_pos (by rw[h.len];exact hi)];simp only[qG]at hr';subst hr';exact⟨bs,rfl,hl,keep _ _ _ hb⟩
  rw[if_neg hi]at hr';cases hr'
 rw[if_neg hj]at hr'⊢;obtain⟨bs',q,hl',hb'⟩:=h.rows j r' hr';exact⟨bs',q,hl',keep _ _ _ hb'⟩
theorem BX.get{w0:World}{v:Value}{n:Nat}{L:List Value}{e:OE}(h:BX w0 w v n L e){i:Nat}(hi:i<L.length):∃g cap a c,v= .slice (some ⟨g,0,none⟩) L.length cap/\L[i]? =some (.slice a n c)/\w.cell? ⟨g,i,none⟩=some (.slice a n c)/\∀k,k<n->∃b,a=some ⟨b,0,none⟩/\w.cell? ⟨b,k,none⟩=some (.bool (rJ e i k)):=by
 obtain⟨g,cap,rfl,-,-⟩:=gQ h.own zAA;obtain⟨bs,q,hl,hb⟩:=h.rows i _ (qA hi);obtain⟨a,c,e2,-,-⟩:=bg hb;refine⟨g,cap,a,c,rfl,by rw[qA hi,e2],?_,fun k hk=>?_⟩;·rw[h.own.cellAt i zAA,qA hi,e2]
 rw[e2]at hb;obtain⟨b,c2,e3,-,-⟩:=gQ hb zAA;simp only[qU]at e3;obtain⟨rfl,-,rfl⟩:=e3;refine⟨b,rfl,?_⟩;rw[hb.cellAt k zAA];unfold rJ;rw[qC (l:=e),q,Option.getD_some,qC,List.getElem?_map,qA (by omega:k<bs.length)];rfl
theorem Zl{P:Program}{u:Value}{ops:Array Oper}{o:Oper}{a:Act}{K:Act->World->Prop}{Q:Exit->Act->World->Prop}{E:Prop}{tt e:TypeId}{bytes:Nat}(T:Gu P tt e 1 bytes)
  (hgd:o.guard=none) (s x:Operand)
  (ho:o.op= .call {callee:=.builtin .append,args:= #[s,x],argTypes:= #[tt,tt]})
  {v:Value} {n:Nat} {xs:List Value} {gb:Nat} (hs:a.eval s=v) (hx:a.eval x= .slice (some ⟨gb,0,none⟩) 1 1) (hc:w.cell? ⟨gb,0,none⟩=some u) (hu:u.oneCell'=true) (h:w.ownsRow 0 e 1 v n xs)
  (h63:n+1<=1099511627776) (hbytes:bytes<=64)
  (hK:∀v' w',w'.ownsRow 0 e 1 v' (n+1) (xs++[u])->Only (fun k=>v.ownBlock=some k) w w'->Rk w v v' (n+1)->K (a.put o.dst v') w'):
  if Region.wanted o (yielded ops a.tmps)=true then Oper.wp P o a w K Q else E:=by
 rw[if_pos (by simp[Region.wanted,hgd])]
 obtain⟨v',w',hr,r1,r2,r3,r4⟩:=uK (P:=P) (ty:=o.type) w T v n xs h ⟨gb,0,none⟩ 1 1 [u] rfl (by
  intro j x hj
  match j,hj with
  |0,hj=>
   simp at hj;subst hj
   simpa[Addr.add]using hc) (by intro x hxm;simp at hxm;subst hxm;exact hu) zAu (by
  have:(n+1)*bytes<=1099511627776*64:=Nat.mul_le_mul h63 hbytes
  omega)
 unfold Oper.wp execOp
 simp only[ho,resolve,invoke,builtin,Sem.run_bind,Sem.run_pure,Result.andThen_ok,List.map_toArray,List.map_cons,List.map_nil,hs,hx,hr]
 refine hK v' w' r1 ((Only.refl _ w).grown r2 fun k hk=>.inl hk) ?_
 exact zGs
def Zm(g:List aC)(i k:Nat):List Bool:=(List.range k).map (zW g i)
def edE(g:List aC)(N i:Nat):OE:=(List.range i).map fun j=>Zm g j N
theorem Ji(g:List aC)(i k:Nat):(Zm g i k).length=k:=by simp[Zm]
theorem OV(g:List aC)(i k:Nat):Zm g i (k+1)=Zm g i k++[zW g i k]:=by simp[Zm,List.range_succ]
theorem ae0(g:List aC)(N k:Nat):edE g N (k+1)=edE g N k++[Zm g k N]:=by simp[edE,List.range_succ]
def roR(e:OE)(n i k:Nat):List Bool:=(List.range k).map fun k=>rJ e i k||rJ e i n&&rJ e n k
theorem Jj(e:OE)(n i k:Nat):(roR e n i k).length=k:=by simp[roR]
theorem OW(e:OE)(n i k:Nat):roR e n i (k+1)=roR e n i k++[rJ e i k||rJ e i n&&rJ e n k]:=by simp[roR,List.range_succ]
theorem acf{CS:List Value}{g:List aC}(hg:rU B w CS g)(hlen:g.length<=1000000):Calls Tryz.prog 145 #[.agg CS.toArray] w fun e w'=> ∃v L,e= .returned v/\L.length=g.length/\BX w w' v g.length L (nI (edE g g.length g.length) g.length g.length)/\O0 w w':=by
 obtain⟨dI,ay,dh,rfl,rC,rD,bG,Jd⟩:=nH hg;clear hg;try rw[bG.out]
 obtain⟨W0,hW0,aV,jK,aF⟩:=agW w (.slice dI ay dh) 31;obtain⟨Bg,dU⟩:=Jd W0 aV.out;clear Jd;try rw[bG.out]
 rw[bG.out]at hlen;have fQ:Hid (O0 W0 (W0.alloc (.cells #[] 58))):=zr.alloc _;have HBC:Hid (BX W0 (W0.alloc (.cells #[] 58)) (.slice (some ⟨W0.heap.size,0,none⟩) 0 0) ay [] (edE g ay 0)):=⟨Zk W0,fun k hk=>zBD,rfl,fun i r hr=>by simp at hr⟩;have k0:=aF.out W0 zr;rw[jK.out]at HBC;rw[hW0]at k0;go_enter Tryz.func145,Tryz.ntmps145;go_wp2_with fail;rw[<-hW0]at k0⊢;clear hW0;clear k0;go_loopw [3,15] (fun vo vi bD=>Hid (O0 W0 bD)/\∃(i:Nat) (L:List Value),vi= .int .i64 i/\i<=ay/\L.length=i/\Hid (BX W0 bD vo ay L (edE g ay i))) (fun _ v _=>ay-(RowKit.intOf v).toNat);case atStart=>exact⟨fQ,0,[],rfl,qE _,rfl,HBC⟩
 case round=>
  obtain⟨bD,rfl⟩:=zB wr;clear fQ HBC;obtain⟨gK,i,L,rfl,hi,MB,HB⟩:=hrel;have k0:=aF.out bD gK.out;by_cases ci:i<ay
  ·obtain⟨ao,co,rfl,-,-⟩:=bg HB.out.own;have Ip:=zh MB;rw[MB];have HB':Hid (BX W0 bD (.slice ao i co) ay L (edE g ay i)):=by have:=HB.out;rw[Ip.out]at this;exact this
   clear HB;have HB:=HB';clear HB' MB;have HRC:Hid (RX bD (bD.alloc (.cells #[] 4)) (.slice (some ⟨bD.heap.size,0,none⟩) 0 0) (Zm g i 0)):=⟨KC bD,fun k hk=>zBD⟩;have Jk:Hid (O0 bD (bD.alloc (.cells #[] 4))):=zr.alloc _;have m0:=aF.out (bD.alloc (.cells #[] 4)) (gK.out.alloc _);go_wp2_with fail;clear m0;clear k0;go_loopw [5,22] (fun vr vk iJ=>Hid (O0 bD iJ)/\∃k:Nat,vk= .int .i64 k/\k<=ay/\Hid (RX bD iJ vr (Zm g i k))) (fun _ v _=>ay-(RowKit.intOf v).toNat);case atStart=>exact⟨Jk,0,rfl,qE _,HRC⟩
   case round=>
    obtain⟨iJ,rfl⟩:=zB wr;clear Jk HRC;obtain⟨tu,k,rfl,hk,HV⟩:=hrel;have k0:=aF.out iJ (gK.out.same tu.out);by_cases ck:k<ay
    ·have iE:=zw (k+1);obtain⟨yn,hxn⟩:=zG g i zAp;obtain⟨Kv,wI,nR,nU,nV,mV,lD,mP,hen,lY,lG,Fp,Eo,jO⟩:=jf (dU.out W0 zr) hxn;first|subst hen| (simp only[qG,qO,and_true]at hen;obtain⟨rfl,rfl⟩:=hen)
     have jg:=zh jO;have uJ:=zh hxn;clear jO hxn lY lG;have Kw:Hid (∀W,O0 W0 W->aS 1 bU B W (.slice mV lD mP) yn.needs):=fun W ho=>(jg.out W ho).2.2.1;obtain⟨ym,hxm⟩:=zG g k zAp;obtain⟨bkm,alV,am1,nm1,cm1,am2,nm2,cm2,hem,ae2,ae3,alW,alX,Xq⟩:=jf (dU.out W0 zr) hxm;first|subst hem| (simp only[qG,qO,and_true]at hem;obtain⟨rfl,rfl⟩:=hem)
     have Jl:=zh Xq;have HXm:=zh hxm;clear Xq hxm ae2 ae3;obtain⟨ar,cr,Nb,-,-⟩:=bg HV.out.own;rw[Ji]at Nb;subst Nb;have MC:Hid ((Zm g i k).length=k):=Ji _ _ _;have HVo:Hid (iJ.ownsRow 0 4 1 (.slice ar k cr) k ((Zm g i k).map Value.bool)):=by have:=HV.out.own;rw[MC.out]at this;exact this
     have HOW:Hid (O0 W0 bD):=gK;obtain⟨hb,hhb⟩:=ze (iC yn.needs ym.name);obtain⟨ff,hff⟩:=ze (jG g ym.name);have hed:zW g i k=(hb&&decide (ff=(k:Int))):=by unfold zW;rw[jU uJ.out,jU HXm.out,hhb,hff]
     have L9:Hid (∀W,O0 W0 W->Calls Tryz.prog 128 #[.slice mV lD mP,.string ym.name] W fun e w'=>e= .returned (.bool hb)/\O0 W w'):=fun W hW=>by rw[<-hhb];exact EK (Kw.out W hW) _
     have HFd:Hid (∀W,O0 W0 W->Calls Tryz.prog 212 #[.agg #[.slice (some ⟨Kv,wI,none⟩) ay dh],.string ym.name] W fun e w'=>e= .returned (.int .i64 ff)/\O0 W w'):=fun W hW=>by rw[<-hff];exact Xi (Bg.out W hW) _
     clear hhb hff;go_wp2_with fail;clear k0;cases hb with
     |false=>
      have HEd:Hid (zW g i k=false):=by rw[Hid,hed];rfl
      clear hed;refine dn (n:=29) (E:=fun _=>false) (S:=fun W=>O0 W0 W) zk rfl zCT (fun hHeld=>?_);have hC:O0 iJ iJ.drew:=zr.drew;refine tW 0 ?_;refine tW 1 ?_;refine tK 2 ?_ (hy:=zAB);refine tW 3 ?_;refine tW 4 ?_;refine tW 5 ?_;refine tK 6 ?_ (hy:=zAB);refine tW 7 ?_;refine tK 8 ?_ (hy:=zAB);refine tW 9 ?_;refine tW 10 ?_;refine tW 11 ?_;refine tK 12 ?_ (hy:=zAB);refine tO 13 fun K hK=>?_;(go_simp;refine(L9.out _ hHeld).mono ?_;rintro e w5 ⟨rfl,o5⟩;replace hC:=hC.same o5;try go_wp2_with fail);refine hK.out _ _ ?_ (fun hHeld=>?_);·exact zD8
      clear hK K;try simp only[Act.put,fA,fD,fB,dW,dX,dY]
      refine tW 14 ?_;refine tS 15 ?_;refine tS 16 ?_;refine tS 17 ?_;refine tS 18 ?_;refine tS 19 ?_;refine tS 20 ?_;refine tS 21 ?_;refine tS 22 ?_;refine tS 23 ?_;refine tS 24 ?_;exact zE2
     |true=>
      by_cases hk2:ff=(k:Int)
      ·subst hk2;have HEd:Hid (zW g i k=true):=by rw[Hid,hed];simp
       clear hed;refine dn (n:=29) (E:=fun _=>false) (S:=fun W=>O0 W0 W) zk rfl zCT (fun hHeld=>?_);have hC:O0 iJ iJ.drew:=zr.drew;refine tW 0 ?_;refine tW 1 ?_;refine tK 2 ?_ (hy:=zAB);refine tW 3 ?_;refine tW 4 ?_;refine tW 5 ?_;refine tK 6 ?_ (hy:=zAB);refine tW 7 ?_;refine tK 8 ?_ (hy:=zAB);refine tW 9 ?_;refine tW 10 ?_;refine tW 11 ?_;refine tK 12 ?_ (hy:=zAB);refine tO 13 fun K hK=>?_;(go_simp;refine(L9.out _ hHeld).mono ?_;rintro e w5 ⟨rfl,o5⟩;replace hC:=hC.same o5;try go_wp2_with fail);refine hK.out _ _ ?_ (fun hHeld=>?_);·exact zD8
       clear hK K;try simp only[Act.put,fA,fD,fB,dW,dX,dY]
       refine tW 14 ?_;refine tK 15 ?_ (hy:=zAB);refine tW 16 ?_;refine tK 17 ?_ (hy:=zAB);refine tW 18 ?_;refine tW 19 ?_;refine tW 20 ?_;refine tK 21 ?_ (hy:=zAB);refine tW 23 ?_;refine tO 22 fun K hK=>?_;(go_simp;refine(HFd.out _ hHeld).mono ?_;rintro e w6 ⟨rfl,o6⟩;replace hC:=hC.same o6;try go_wp2_with fail);refine hK.out _ _ ?_ (fun hHeld=>?_);·exact zFQ
       clear hK K;try simp only[Act.put,fA,fD,fB,dW,dX,dY]
       refine tW 24 ?_;refine tW 25 ?_;refine tO 26 fun K hK=>?_;go_simp;refine hK.out _ _ ?_ (fun hHeld=>?_);·(try dsimp only)<;>(exact(hHeld.alloc _))
       clear hK K;try simp only[Act.put,fA,fD,fB,dW,dX,dY]
       refine tO 27 fun K hK=>?_;(refine Zl (u:=.bool true) DL (by rfl) (.tmp 25) (.tmp 51) (by rfl) (by rfl) (by rfl) (cell_new0 _ _ _) (by rfl) (aW HVo.out (hC.alloc _) (fun _ _ f=>f)) zAA zHZ ?_;intro v7 w7 r1 r2 r3;replace hC:=hC.alloc (.cells #[.bool true] 4));exact zDd
      have hne:(ff==(k:Int))=false:=by simp[hk2]
      have HEd:Hid (zW g i k=false):=by rw[Hid,hed];simp[hk2]
      clear hed hk2;refine dn (n:=29) (E:=fun _=>false) (S:=fun W=>O0 W0 W) zk rfl zCT (fun hHeld=>?_);have hC:O0 iJ iJ.drew:=zr.drew;refine tW 0 ?_;refine tW 1 ?_;refine tK 2 ?_ (hy:=zAB);refine tW 3 ?_;refine tW 4 ?_;refine tW 5 ?_;refine tK 6 ?_ (hy:=zAB);refine tW 7 ?_;refine tK 8 ?_ (hy:=zAB);refine tW 9 ?_;refine tW 10 ?_;refine tW 11 ?_;refine tK 12 ?_ (hy:=zAB);refine tO 13 fun K hK=>?_;(go_simp;refine(L9.out _ hHeld).mono ?_;rintro e w5 ⟨rfl,o5⟩;replace hC:=hC.same o5;try go_wp2_with fail);refine hK.out _ _ ?_ (fun hHeld=>?_);·exact zD8
      clear hK K;try simp only[Act.put,fA,fD,fB,dW,dX,dY]
      refine tW 14 ?_;refine tK 15 ?_ (hy:=zAB);refine tW 16 ?_;refine tK 17 ?_ (hy:=zAB);refine tW 18 ?_;refine tW 19 ?_;refine tW 20 ?_;refine tK 21 ?_ (hy:=zAB);refine tW 23 ?_;refine tO 22 fun K hK=>?_;(go_simp;refine(HFd.out _ hHeld).mono ?_;rintro e w6 ⟨rfl,o6⟩;replace hC:=hC.same o6;try go_wp2_with fail);refine hK.out _ _ ?_ (fun hHeld=>?_);·exact zFQ
      clear hK K;try simp only[Act.put,fA,fD,fB,dW,dX,dY]
      refine tW 24 ?_;exact zE2
    obtain rfl:ay=k:=by omega
    have iE:=zw (i+1);obtain⟨ar,cr,Nb,-,-⟩:=bg HV.out.own;rw[Ji]at Nb;subst Nb;have Ko:Hid (iJ.ownsRow 0 4 1 (.slice ar ay cr) ay ((Zm g i ay).map Value.bool)):=by have:=HV.out.own;rw[Ji]at this;exact this
    have HB2:Hid (BX W0 iJ (.slice ao i co) ay L (edE g ay i)):=HB.out.dK tu.out;clear k0;have aoQ:Hid (iJ.ownsRow 0 58 1 (.slice ao i co) i L):=by have:=HB2.out.own;rw[Ip.out]at this;exact this
    go_wp2_with (at_builtin;go_must (refine Ai (u:=.slice ar ay cr) ag7 rfl (.tmp 54) (.tmp 56) rfl rfl rfl (cell_new0 _ _ _) rfl (aW aoQ.out ((Only.refl (fun _=>False) _).alloc _) (fun _ _ f=>f)) zAA zHZ ?_));intro v' w4 r1 r2 r3;have HB4:Hid (BX W0 w4 v' ay (L++[.slice ar ay cr]) (edE g ay (i+1))):=by rw[ae0];exact BX.app (w1:=iJ.alloc (.cells #[.slice ar ay cr] 58)) (HB2.out.dK ((Only.refl (fun _=>False) _).alloc _)) (by have:=(gK.out.same tu.out).size;simp;omega) (by rw[Ip.out];exact r1) r2 (by rw[Ip.out];exact r3) (Ji _ _ _) (aW Ko.out ((Only.refl (fun _=>False) _).alloc _) (fun _ _ f=>f))
    have Ej:Hid (O0 W0 w4):=((gK.out.same tu.out).alloc _).trans r2 (fun k hk=>.inr (HB2.out.new k hk));obtain⟨g4,c4,rfl,-,-,-⟩:=r3;clear r1 r2;go_wp2_with fail;go_roundw;case rel=>exact⟨Ej,i+1,L++[.slice ar ay cr],by first|rfl|go_num,by omega,by simp;exact Ip.out,HB4⟩
    case measure=>simp[RowKit.intOf]<;>omega
  obtain rfl:ay=i:=by omega
  obtain⟨ao,co,rfl,-,-⟩:=bg HB.out.own;rw[MB];have Ip:=zh MB;clear MB;by_cases hz:ay=0
  ·have HHN:Hid (ay=0):=hz;rw[hz];clear hz;go_wp2_with fail;clear k0;go_loopw [61] (fun vn Oi=>vn= .int .i64 0/\Oi=bD) (fun v _=>0);case atStart=>exact⟨rfl,rfl⟩
   case round=>obtain⟨rfl,rfl⟩:=hrel;go_wp2_with fail;go_ret;have h2:=HB.out;rw[Ip.out,HHN.out]at h2;refine⟨_,L,rfl,Ip.out,?_,aV.out.same gK.out⟩;rw[HHN.out];exact⟨by rw[Ip.out,HHN.out];have:=h2.own;rwa[Ip.out,HHN.out]at this,fun k hk=>qR aV.out.size (h2.new k hk),h2.len,h2.rows⟩
  obtain⟨gg,cg,e9,-,-⟩:=gQ HB.out.own (by rw[Ip.out];omega);rw[Ip.out]at e9;simp only[qU,true_and]at e9;obtain⟨rfl,rfl⟩:=e9;have HB9:Hid (BX W0 bD (.slice (some ⟨gg,0,none⟩) ay co) ay L (nI (edE g ay ay) ay 0)):=by have:=HB.out;rw[Ip.out]at this;exact this
  clear HB;have HB:=HB9;have HQC:=gK;have MB:=Ip.out;clear HB9 Ip hz;go_wp2_with fail;clear k0;go_loopw [61] (fun vn Oi=>Hid (O0 W0 Oi)/\∃(n:Nat) (L:List Value),vn= .int .i64 n/\n<=ay/\L.length=ay/\Hid (BX W0 Oi (.slice (some ⟨gg,0,none⟩) ay co) ay L (nI (edE g ay ay) ay n))) (fun v _=>ay-(RowKit.intOf v).toNat);case atStart=>exact⟨HQC,0,L,rfl,qE _,MB,HB⟩
  case round=>
   obtain⟨Oi,rfl⟩:=zB wr;clear HQC HB MB L;obtain⟨HQn,n,L,rfl,hn,MB,HB⟩:=hrel;by_cases cn:n<ay
   ·obtain⟨F,hF⟩:=ze (nI (edE g ay ay) ay n);rw[hF]at HB;have HFF:=zh hF;have HB0:Hid (BX W0 Oi (.slice (some ⟨gg,0,none⟩) ay co) ay L (tH F ay n 0)):=HB;clear hF HB;go_wp2_with fail;go_loopw [66] (fun vi bD=>Hid (O0 W0 bD)/\∃(i:Nat) (L:List Value),vi= .int .i64 i/\i<=ay/\L.length=ay/\Hid (BX W0 bD (.slice (some ⟨gg,0,none⟩) ay co) ay L (tH F ay n i))) (fun v _=>ay-(RowKit.intOf v).toNat);case atStart=>exact⟨HQn,0,L,rfl,qE _,MB,HB0⟩
    case round=>
     obtain⟨bD,rfl⟩:=zB wr;clear HQn HB0 MB L;obtain⟨rM,i,L,rfl,hi,MB,HB⟩:=hrel;by_cases ci:i<ay
     ·obtain⟨E,hE⟩:=ze (tH F ay n i);rw[hE]at HB;have HEE:=zh hE;clear hE;have HRC:Hid (RX bD (bD.alloc (.cells #[] 4)) (.slice (some ⟨bD.heap.size,0,none⟩) 0 0) (roR E n i 0)):=⟨KC bD,fun k hk=>zBD⟩;have Jk:Hid (O0 bD (bD.alloc (.cells #[] 4))):=zr.alloc _;have Ip:=zh MB;clear MB;go_wp2_with fail;go_loopw [9,72] (fun vr vk iJ=>Hid (O0 bD iJ)/\∃k:Nat,vk= .int .i64 k/\k<=ay/\Hid (RX bD iJ vr (roR E n i k))) (fun _ v _=>ay-(RowKit.intOf v).toNat);case atStart=>exact⟨Jk,0,rfl,qE _,HRC⟩
      case round=>
       obtain⟨iJ,rfl⟩:=zB wr;clear Jk HRC;obtain⟨tu,k,rfl,hk,HV⟩:=hrel;by_cases ck:k<ay
       ·have iE:=zw (k+1);obtain⟨ar,cr,Nb,-,-⟩:=bg HV.out.own;rw[Jj]at Nb;subst Nb;have MC:Hid ((roR E n i k).length=k):=Jj _ _ _ _;have Ko:Hid (iJ.ownsRow 0 4 1 (.slice ar k cr) k ((roR E n i k).map Value.bool)):=by have:=HV.out.own;rw[MC.out]at this;exact this
        have hB2:BX W0 iJ (.slice (some ⟨gg,0,none⟩) ay co) ay L E:=HB.out.dK tu.out;obtain⟨g2,cp2,ai,ci2,e2,-,qi,fi⟩:=hB2.get (i:=i) (by rw[Ip.out];exact ci);obtain⟨g3,cp3,an,cn3,e3,-,qn,fn⟩:=hB2.get (i:=n) (by rw[Ip.out];exact cn);rw[Ip.out]at e2 e3;simp only[qU,qG,qO,and_true,true_and]at e2 e3;obtain⟨rfl,rfl⟩:=e2;obtain⟨rfl,rfl⟩:=e3;obtain⟨b1,rfl,q1⟩:=fi k ck;obtain⟨b2,e4,q2⟩:=fi n cn;simp only[qG,qO,and_true]at e4;subst e4;obtain⟨b3,rfl,q3⟩:=fn k ck;obtain⟨y1,hy1⟩:=ze (rJ E i k);obtain⟨y2,hy2⟩:=ze (rJ E i n);obtain⟨y3,hy3⟩:=ze (rJ E n k);have HEq:Hid ((rJ E i k||rJ E i n&&rJ E n k)=(y1||y2&&y3)):=by rw[Hid,hy1,hy2,hy3]
        rw[hy1]at q1;rw[hy2]at q2;rw[hy3]at q3;clear fi fn hB2 hy1 hy2 hy3;cases y1 with
        |true=>
         go_wp2_with (at_builtin;go_must (refine Ai (u:=.bool true) DL rfl (.tmp 75) (.tmp 101) rfl rfl rfl (cell_new0 _ _ _) rfl (aW Ko.out ((Only.refl (fun _=>False) _).alloc _) (fun _ _ f=>f)) zAA zHZ ?_));intro v' w4 r1 r2 r3;have MF:Hid (RX bD w4 v' (roR E n i (k+1))):=by rw[OW,HEq.out];exact RX.app (w1:=iJ.alloc (.cells #[.bool true] 4)) ⟨aW HV.out.own ((Only.refl (fun _=>False) _).alloc _) (fun _ _ f=>f),HV.out.new⟩ zDD zCr zBX
         exact zE8
        |false=>
         cases y2 with
         |false=>
          go_wp2_with (at_builtin;go_must (refine Ai (u:=.bool false) DL rfl (.tmp 75) (.tmp 101) rfl rfl rfl (cell_new0 _ _ _) rfl (aW Ko.out ((Only.refl (fun _=>False) _).alloc _) (fun _ _ f=>f)) zAA zHZ ?_));intro v' w4 r1 r2 r3;have MF:Hid (RX bD w4 v' (roR E n i (k+1))):=by rw[OW,HEq.out];exact RX.app (w1:=iJ.alloc (.cells #[.bool false] 4)) ⟨aW HV.out.own ((Only.refl (fun _=>False) _).alloc _) (fun _ _ f=>f),HV.out.new⟩ zDD zCr zBX
          exact zE8
         |true=>
          go_wp2_with (at_builtin;go_must (refine Ai (u:=.bool y3) DL rfl (.tmp 75) (.tmp 101) rfl rfl rfl (cell_new0 _ _ _) rfl (aW Ko.out ((Only.refl (fun _=>False) _).alloc _) (fun _ _ f=>f)) zAA zHZ ?_));intro v' w4 r1 r2 r3;have MF:Hid (RX bD w4 v' (roR E n i (k+1))):=by rw[OW,HEq.out,Bool.false_or,yR];exact RX.app (w1:=iJ.alloc (.cells #[.bool y3] 4)) ⟨aW HV.out.own ((Only.refl (fun _=>False) _).alloc _) (fun _ _ f=>f),HV.out.new⟩ zDD zCr zBX
          exact zE8
       obtain rfl:ay=k:=by omega
       have iE:=zw (i+1);obtain⟨ar,cr,Nb,-,-⟩:=bg HV.out.own;rw[Jj]at Nb;subst Nb;have hB2:BX W0 iJ (.slice (some ⟨gg,0,none⟩) ay co) ay L E:=HB.out.dK tu.out;have hB3:=hB2.set (i:=i) (r:=.slice ar ay cr) (Jj E n i ay) (by have:=HV.out.own;rw[Jj]at this;exact this);obtain⟨g2,cp2,ai,ci2,e2,-,qi,-⟩:=hB2.get (i:=i) (by rw[Ip.out];exact ci);rw[Ip.out]at e2;simp only[qU,qG,qO,and_true,true_and]at e2;obtain⟨rfl,rfl⟩:=e2;have HB3:Hid (BX W0 (iJ.setCell ⟨gg,i,none⟩ (.slice ar ay cr)) (.slice (some ⟨gg,0,none⟩) ay co) ay (L.set i (.slice ar ay cr)) (tH F ay n (i+1))):=by rw[<-HEE.out]at hB3;exact hB3
       have hown:iJ.ownsRow 0 58 1 (.slice (some ⟨gg,0,none⟩) ay co) ay L:=by have:=hB2.own;rwa[Ip.out]at this
       have hfr:=hown.frozenAt i;clear hown;have qp:Hid (O0 W0 (iJ.setCell ⟨gg,i,none⟩ (.slice ar ay cr))):=(rM.out.same tu.out).setCell (p:=⟨gg,i,none⟩) (.inr (hB2.new gg rfl)) _;clear hB2 hB3;go_wp2_with fail;go_roundw;case rel=>exact⟨qp,i+1,L.set i (.slice ar ay cr),by first|rfl|go_num,by omega,by simp;exact Ip.out,HB3⟩
       case measure=>simp[RowKit.intOf]<;>omega
     obtain rfl:ay=i:=by omega
     have iE:=zw (n+1);have CP:Hid (BX W0 bD (.slice (some ⟨gg,0,none⟩) ay co) ay L (nI (edE g ay ay) ay (n+1))):=by have:=HB.out;rw[<-HFF.out]at this;exact this
     clear HB;go_wp2_with fail;go_roundw;case rel=>exact⟨rM,n+1,L,by first|rfl|go_num,by omega,MB,CP⟩
     case measure=>simp[RowKit.intOf]<;>omega
   obtain rfl:ay=n:=by omega
   go_wp2_with fail;go_ret;exact⟨_,L,rfl,MB,⟨by rw[MB];exact(by have:=HB.out.own;rwa[MB]at this),fun k hk=>qR aV.out.size (HB.out.new k hk),HB.out.len,HB.out.rows⟩,aV.out.same HQn.out⟩
end
end Go.Proofs.YtdmmebjjojimiaaGreatDoor
