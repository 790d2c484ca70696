/- Package edge: value.; Regions that draw their order: structs that are loaded whole. -/
import Derived.Test.YtdmmebjjojimiaaGreatDoorG23
set_option maxRecDepth 100000
set_option maxHeartbeats 8000000
set_option linter.all false
namespace Go.Proofs
theorem zDn{p:Prop}(h:p:=by
 go_wp2_with fail
 go_roundw
 case rel=>exact⟨i+1,by first|rfl|go_num,by omega,iO,aip⟩
 case measure=>simp[RowKit.intOf]<;>omega):p:=h
end Go.Proofs
namespace Go.Proofs.YtdmmebjjojimiaaGreatDoor
open Go.RowKit
def sU(v:eP)(s:kC):Bool:=decide (v.name=s.name)&&iT v.values s.value
theorem ade{vars:List eP}{s:kC}{i:Nat}{v:eP}(hv:vars[i]? =some v)(h:sU v s=true)(hn:∀u∈vars.take i,sU u s=false):QC vars s=some i:=by
 obtain⟨hi,rfl⟩:=qJ.1 hv;have hg:∀j (hj:j<vars.length),vars.getD j default=vars[j]:=fun j hj=>by rw[qC,qA hj];rfl
 unfold QC;rw[List.find?_range_eq_some];refine⟨by rw[hg i hi];exact h,yI.2 hi,fun j hj=>?_⟩;have hjl:j<vars.length:=zAB;have:=hn (vars[j]) (by
  rw[List.mem_take_iff_getElem]
  exact⟨j,by omega,rfl⟩)
 rw[hg j hjl];unfold sU at this;rw[this];rfl
theorem aap{vars:List eP}{s:kC}(hn:∀u∈vars,sU u s=false):QC vars s=none:=by
 unfold QC;rw[List.find?_eq_none];intro j hj;have hj:=yI.1 hj;have hg:vars.getD j default=vars[j]:=by rw[qC,qA hj];rfl
 have:=hn vars[j] (qZ hj);unfold sU at this;rw[hg,this];simp
theorem adf(l:List Str)(s:Str):iT l s=decide (0<=kR (fun t=>decide (t=s)) l):=by
 unfold iT kR;by_cases h:l.any (fun t=>decide (t=s))=true;·rw[if_pos h,h];simp
 rw[if_neg h,Bool.eq_false_iff.2 h];simp
section
variable {w w':World} {gt gb gp:Tag} {c bt bb:Nat} {G:GL} {Bs:Nat} {D:xC} {S:TB} {X:MW} {E:ES}
theorem afN(H:xP w gt gb c bt bb G Bs D S){p:Nat}(hp:p<D.x.packs.length)(hm:He D.x)(s:kC)(z:Int)(hz:(S.value p (D.x.pack p).vars s).2=z):Calls Tryz.prog 311 #[.pointer (some ⟨c,0,none⟩),.int .i64 p,.agg #[.string s.name,.string s.value]] w fun e w'=>e= .returned (.int .i64 z)/\aZ w gt gb c bt bb G Bs D (S.value p (D.x.pack p).vars s).1 w':=by
 obtain⟨W0,hW0⟩:=ze (w.alloc (.cells #[.string s.name,.string s.value] 117));have hb0:W0.heap[w.heap.size]? =some (.cells #[.string s.name,.string s.value] 117 (0,0)):=zAj;have iZ:Hid (O0 w W0):=zAc;have aU:Hid (∀W,O0 W0 W->W.cell? ⟨w.heap.size,0,none⟩=some (.string s.name)/\W.cell? ⟨w.heap.size,1,none⟩=some (.string s.value)):=fun W o=>by exact zDb
 have H0:=zh (H.aH iZ.out);have HZ:=zh hz;obtain⟨S9,XC⟩:=ze ((S.value p (D.x.pack p).vars s).1);rw[XC];have HS9:=zh XC;obtain⟨a1,c1,a2,c2,En,F6,h1,-⟩:=H0.out.NT;have Eo:=zh (jQ H0.out.gr En F6);have hpk:=hm.packs;have hvl:=hm.vars _ (aF.iQ hp);have agV:=zh (hm.vals _ (aF.iQ hp));obtain⟨b,off,cs,rfl,hr,hC,-⟩:=JI h1 hp;obtain⟨pk,ada⟩:=ze (D.x.pack p);rw[ada]at hC hvl HZ agV HS9;obtain⟨o1,o2,o3,o4,o5,o6,d1,d2,d3,d4,d5,d6,rfl,-,-,-,b2,-,-,-,-⟩:=hC.cells;obtain⟨n1,hn1⟩:=ze D.x.packs.length;obtain⟨n2,hn2⟩:=ze D.x.cO.length;obtain⟨nv,RY⟩:=ze pk.vars.length;rw[hn1,hn2]at Eo;rw[hn1]at hp hpk;rw[RY]at hr b2 hvl;have TJ:=zh RY;have OI:Hid (∀W,O0 W0 W->W.cell? ⟨b,off+p*8+3,none⟩=some (.slice o2 nv d2)):=fun W ho=>aY (hr 3 _ rfl) ho (fun f=>f);have HVr:Hid (∀W,O0 W0 W->aQ 2 jM Bs W (.slice o2 nv d2) pk.vars):=fun W k=>b2.keep jM.keep (Kp.gV k);clear XC H hz h1 En F6 hm hr hC ada hn1 hn2 RY b2 hb0;have hfld:=F5 (.slice (some ⟨b,off,none⟩) n1 c1) (.slice a2 n2 c2);go_enter Tryz.func311,Tryz.ntmps311;go_wp2_with fail;try rw[hW0]
 clear hW0;refine Eo.out.mono ?_;rintro e w1 ⟨rfl,O1⟩;have hcell:=OI.out w1 O1;have aW:=zh O1;clear O1 Eo OI;go_wp2_with fail;go_loopw [18] (fun vi wr=> ∃i:Nat,vi= .int .i64 i/\i<=nv/\Hid (O0 W0 wr)/\Hid (∀u∈pk.vars.take i,sU u s=false)) (fun v _=>nv-(RowKit.intOf v).toNat);case atStart=>exact⟨0,rfl,qE _,aW,fun u hu=>by simp at hu⟩
 case round=>
  clear aW hcell hfld;obtain⟨i,rfl,hi,HO,Cj⟩:=hrel;by_cases ci:i<nv
  ·have hrow:=HVr.out wr HO.out;rw[<-TJ.out]at hrow;obtain⟨b3,aoU,e3,-,-⟩:=hrow.at (by have:=TJ.out;omega);subst e3;obtain⟨y,hy⟩:=zG pk.vars i (by rw[TJ.out];exact ci);obtain⟨cs2,-,hr2,vv,rfl,-,hvv⟩:=hrow.get hy;obtain⟨av,cv,rfl,-,-⟩:=hvv.shape;have hvn:y.values.length<=1000:=agV.out y (qT hy);obtain⟨nk,hnk⟩:=ze y.values.length;rw[hnk]at hr2 hvn hvv;have HR2:=zh hr2;have hgd:pk.vars.getD i default=y:=by rw[qC,hy];rfl
   have iG:=zw (i+1);obtain⟨wV,hwV⟩:=zB (wr.alloc (.cells #[.string y.name,.slice av nk cv] 145));have HOV:Hid (O0 wr wV):=by rw[hwV];exact zr.alloc _
   have YC:Hid (∀W,O0 wV W->W.cell? ⟨wr.heap.size,0,none⟩=some (.string y.name)/\W.cell? ⟨wr.heap.size,1,none⟩=some (.slice av nk cv)):=fun W o=>by
    have b0:wV.heap[wr.heap.size]? =some (.cells #[.string y.name,.slice av nk cv] 145):=by rw[hwV];exact qL wr _
    have b1:=aC b0 o (fun f=>f);exact zCr
   obtain⟨f,hf⟩:∃f,kR (fun t=>decide (t=s.value)) y.values=f:=⟨_,rfl⟩;have HIx:Hid (Calls Tryz.prog 272 #[.slice av nk cv,.string s.value] wV fun e w'=>e= .returned (.int .i64 f)/\O0 wV w'):=by have h:=UA (w:=wV) (hvv.keep dN.keep (Kp.gV HOV.out)) s.value;rw[hf]at h;exact h
   have hfr:f= -1\/ ∃k:Nat,f=k/\k<nk:=by
    rcases oq (fun t=>decide (t=s.value)) y.values with h| ⟨k,h,hk,-⟩;·exact .inl (by rw[<-hf,h])
    exact .inr ⟨k,by rw[<-hf,h],by rw[<-hnk];exact hk⟩
   have afO:Hid (sU y s=(decide (y.name=s.name)&&decide (0<=f))):=by unfold sU;rw[adf,hf];exact rfl
   have HJ:Hid (sU y s=true->(S.value p pk.vars s)=S.num (lZ p i f.toNat)):=fun h=>by unfold TB.value;rw[ade hy h Cj.out];simp only[hgd,hf]
   have HY:=zh hy;have JH:=zh iG;obtain⟨j0,j1⟩:=aU.out wr HO.out;obtain⟨k0,k1⟩:=aU.out wV (HO.out.same HOV.out);obtain⟨k2,k3⟩:=YC.out wV zr;have m0:=k0;have m1:=k1;rw[hwV]at m0 m1;have hne:w.heap.size≠wr.heap.size:=by have:=HO.out.size;have h2:=iZ.out.size;have h3:w.heap.size<W0.heap.size:=World.block_lt_of_cell? _ _ (aU.out W0 zr).1;omega
   clear hrow hy hr2 hvv hnk hgd iG hf;go_wp2_with (refine wpList_load_mid rfl 145 (.tmp 21) rfl b3 (aoU+i*2) rfl _ _ HR2.out Tryz.underlying145 rfl zk ?_);rw[<-hwV];clear hwV;go_wp2_with fail;refine HIx.out.mono ?_;rintro e w2 ⟨rfl,O2⟩;have iO:Hid (O0 W0 w2):=(HO.out.same HOV.out).same O2;obtain⟨k0,k1⟩:=aU.out w2 iO.out;obtain⟨k2,k3⟩:=YC.out w2 O2;have iG:=JH.out;clear O2 HIx;by_cases hn:y.name=s.name
   ·have hbd:(y.name.toList==s.name.toList)=true:=by rw[hn];exact beq_self_eq_true _
    have Y4:Hid (sU y s=decide (0<=f)):=by rw[afO.out,qX hn,yR];exact rfl
    clear hn afO;rcases hfr with rfl| ⟨k,rfl,hk⟩
    ·have aip:Hid (∀u∈pk.vars.take (i+1),sU u s=false):=fun u hu=>by
      rcases bH HY.out hu with h|rfl;·exact Cj.out u h
      rw[Y4.out];decide
     exact zDn
    have hj:=HJ.out (by rw[Y4.out];simp);rw[yT]at hj;have h9:(S.num (lZ p i k)).1=S9:=by rw[<-hj];exact HS9.out
    have hz2:(S.num (lZ p i k)).2=z:=by rw[<-hj];exact HZ.out
    have uV:=zh (DN (H0.out.aH iO.out) (x:=lZ p i k) ⟨by simp[lZ],⟨by simp only[lZ];omega,by simp only[lZ];omega⟩,⟨by simp only[lZ];omega,by simp only[lZ];omega⟩,⟨by simp only[lZ];omega,by simp only[lZ];omega⟩⟩ z hz2);rw[h9]at uV;have t0:decide ((0:Int)<=(k:Int))=true:=qX zAB;clear h9 hj hz2;go_wp2_with fail;refine uV.out.mono ?_;rintro e w5 ⟨rfl,h5⟩;have H5:Hid (aZ w gt gb c bt bb G Bs D S9 w5):=aZ.after (iZ.out.same iO.out) h5;clear h5 uV;go_wp2_with fail;go_ret;exact⟨rfl,H5.out⟩
   have hbd:(y.name.toList==s.name.toList)=false:=by rw[yC];exact fun h=>hn (toList_inj h)
   have Y4:Hid (sU y s=false):=by rw[afO.out,qP hn,yQ];exact rfl
   clear hn afO;have aip:Hid (∀u∈pk.vars.take (i+1),sU u s=false):=fun u hu=>by
    rcases bH HY.out hu with h|rfl;·exact Cj.out u h
    exact Y4.out
   exact zDn
  obtain rfl:nv=i:=by omega
  have hj:QC pk.vars s=none:=aap fun u hu=>Cj.out u (by rw[qI (yG TJ.out)];exact hu);have hv0:S.value p pk.vars s=(S,0):=by unfold TB.value;rw[hj]
  have hzz:(0:Int)=z:=by rw[<-HZ.out,hv0]
  subst hzz;have h9:S=S9:=by rw[<-HS9.out,hv0]
  subst h9;have HE:Hid (aZ w gt gb c bt bb G Bs D S wr):=aZ.after (iZ.out.same HO.out) (aZ.refl (H0.out.aH HO.out));clear hj hv0;exact zDV
end
end Go.Proofs.YtdmmebjjojimiaaGreatDoor
namespace Go.Proofs.YtdmmebjjojimiaaGreatDoor
section
variable {P:Program} {ops:Array Oper} {C:World->Prop} {Q:Act->Prop} {a:Act} {o:Oper} {rest:List Oper}
theorem dJ{ty:TypeId}{x:Operand}{b off:Nat}{cs:List Value}{d:TypeDesc}{w:World}(ho:o.op= .load ty x)(hx:a.eval x= .pointer (some ⟨b,off,none⟩))(hc:w.rangeAt b off cs)(hu:P.underlying ty=some d)(hd:d.isRow=true)(hi:(P.info? ty).map (·.size)=some cs.length):(execOp a.eval o).run P w= .ok (.value (.agg cs.toArray)) w:=by unfold execOp;simp only[ho,hx,Instr.loadAt,Instr.sureAddr,Sem.run_bind,Sem.run_pure,Result.andThen_ok,run_loadVar_mid w b off ty cs d hc hu hd hi]
theorem aaq{ty:TypeId}{x:Operand}{b off:Nat}{cs:List Value}{d:TypeDesc}(hw:Region.wanted o (yielded ops a.tmps)=true)(ho:o.op= .load ty x)(hx:a.eval x= .pointer (some ⟨b,off,none⟩))(hc:∀w,C w->w.rangeAt b off cs)
  (hu:P.underlying ty=some d) (hd:d.isRow=true) (hi:(P.info? ty).map (·.size)=some cs.length) (h:wpQuiet P ops C Q rest (a.put o.dst (.agg cs.toArray))):wpQuiet P ops C Q (o::rest) a:=
 Yq hw (fun w hC=>dJ ho hx (hc w hC) hu hd hi) h
end
end Go.Proofs.YtdmmebjjojimiaaGreatDoor
namespace Go.Proofs.YtdmmebjjojimiaaGreatDoor
open Go.RowKit
theorem DR{l:List Nat}{i:Nat}:(intsOf l).contains (i:Int)=decide (i∈l):=by
 rw[Bool.eq_iff_iff,List.contains_iff_mem,yP];unfold intsOf;rw[yD];constructor
 ·rintro⟨j,hj,e⟩;obtain rfl:j=i:=by omega
  exact hj
 intro h;exact⟨i,h,rfl⟩
theorem adg(a b:Str)(W:World):(binOp .neq 128 (.agg #[.string a,.string b]) (.agg #[.string ⟨#[]⟩,.string ⟨#[]⟩])).run Tryz.prog W= .ok (.bool (!(decide (a=ByteArray.empty)&&decide (b=ByteArray.empty)))) W:=by
 by_cases h1:a.toList=[]
 ·by_cases h2:b.toList=[];·rw[qX (nD.1 h1),qX (nD.1 h2)];go_simp
  rw[qX (nD.1 h1),qP (fun h=>h2 (nD.2 h))];go_simp
 rw[qP (fun h=>h1 (nD.2 h))];go_simp
theorem TB.IY(p:Nat)(vars:List eP)(s:kC):∀(l:List kC) (S:TB),S.values p vars (l++[s])=(((S.values p vars l).1.value p vars s).1,(S.values p vars l).2++[((S.values p vars l).1.value p vars s).2])
 | [],S=>rfl
 |a::r,S=>by
  show(((S.value p vars a).1.values p vars (r++[s])).1,_::((S.value p vars a).1.values p vars (r++[s])).2)=_
  rw[TB.IY p vars s r]
  rfl
theorem TB.sS(p:Nat)(vars:List eP):∀(l:List kC) (S:TB),(S.values p vars l).2.length=l.length
 | [],_=>rfl
 |a::r,S=>by show(_::_).length=_;rw[qN,TB.sS p vars r,qN]
theorem TB.adh{S:TB}(h:S.1.Ok)(p:Nat)(vars:List eP)(s:kC):(S.value p vars s).1.1.Ok/\0<=(S.value p vars s).2/\(S.value p vars s).2<=65536:=by
 unfold TB.value;split;·exact⟨h,Int.le_refl _,(by decide:(0:Int)<=65536)⟩
 exact Tab.ql h _
theorem TB.Pq(p:Nat)(vars:List eP):∀(l:List kC) {S:TB},S.1.Ok->(S.values p vars l).1.1.Ok/\∀z∈(S.values p vars l).2,0<=z/\z<=65536
 | [],_,h=>⟨h,fun z hz=>by cases hz⟩
 |a::r,S,h=>by
  have h1:=TB.adh h p vars a
  have h2:=TB.Pq p vars r h1.1
  refine⟨h2.1,fun z hz=>?_⟩
  rcases qY.1 hz with rfl|hz
  ·exact h1.2
  ·exact h2.2 z hz
section
variable {w w':World} {gt gb gp:Tag} {c bt bb:Nat} {G:GL} {Bs:Nat} {D:xC} {S:TB} {X:MW} {E:ES}
theorem alr(H:xP w gt gb c bt bb G Bs D S)(p:Nat)(r:Bool)(hr:decide (p∈D.l)=r):Calls Tryz.prog 230 #[.pointer (some ⟨c,0,none⟩),.int .i64 p] w fun e w'=>e= .returned (.bool r)/\O0 w w':=by have h:=acZ H.gr H.l (p:Int);rw[DR,hr]at h;exact h
attribute [local irreducible] wpQuiet in
theorem aiq(H:xP w gt gb c bt bb G Bs D S)(hlt:∀p∈D.l,p<D.x.packs.length)(hm:He D.x){p rule cc:Nat}(Y5:p<=1000000)(hr6:rule<=1000000)(hc6:cc<=1000000){css:List Value}{s:gZ}(hs:dB Bs w css s)(hss:s.sets.length<=900000)(z:Int)(hz:(S.meet D.x D.l p rule cc s).2=z):Calls Tryz.prog 225 #[.pointer (some ⟨c,0,none⟩),.int .i64 p,.int .i64 rule,.int .i64 cc,.agg css.toArray] w fun e w'=>e= .returned (.int .i64 z)/\aZ w gt gb c bt bb G Bs D (S.meet D.x D.l p rule cc s).1 w':=by
 obtain⟨UD,VY,UE,VZ,rfl,-,hSp,hSe⟩:=hs.cells;obtain⟨Sz,UF⟩:=ze s.spans.length;obtain⟨NU,UG⟩:=ze s.sets.length;rw[UF]at hSp;rw[UG]at hSe hss;rw[UF,UG];have NSp:=zh UF;have NSe:=zh UG;obtain⟨W0,hW0⟩:=ze (w.alloc (.cells #[.string s.name,.slice UD Sz UE,.slice VY NU VZ] 108));have hb0:W0.heap[w.heap.size]? =some (.cells #[.string s.name,.slice UD Sz UE,.slice VY NU VZ] 108 (0,0)):=zAj;have iZ:Hid (O0 w W0):=zAc;have hnm:¬Mine gt w.heap.size/\¬Mine gb w.heap.size:=by obtain⟨V,hV⟩:=H.gr.tab;obtain⟨U,hU⟩:=H.gr.Fb;exact⟨by unfold Mine;rw[hV.fresh _ (qH _)];simp,by unfold Mine;rw[hU.fresh _ (qH _)];simp⟩
 have aU:Hid (∀W,Only (fun k=>Mine gt k\/Mine gb k) W0 W->W.cell? ⟨w.heap.size,1,none⟩=some (.slice UD Sz UE)/\W.cell? ⟨w.heap.size,2,none⟩=some (.slice VY NU VZ)):=fun W o=>by have c0:=aC hb0 o (fun h=>h.elim hnm.1 hnm.2);exact⟨by rw[aj c0];rfl,by rw[aj c0];rfl⟩
 have H0:=zh (H.aH iZ.out);have HSp:Hid (∀W,Only (fun k=>Mine gt k\/Mine gb k) W0 W->aQ 2 eY Bs W (.slice UD Sz UE) s.spans):=fun W o=>(hSp.keep eY.keep (Kp.gV iZ.out)).keep eY.keep (Kp.xE o H0.out.low);have HSe:Hid (∀W,Only (fun k=>Mine gt k\/Mine gb k) W0 W->aQ 2 ji Bs W (.slice VY NU VZ) s.sets):=fun W o=>(hSe.keep ji.keep (Kp.gV iZ.out)).keep ji.keep (Kp.xE o H0.out.low);have HZ:=zh hz;obtain⟨S9,XC⟩:=ze ((S.meet D.x D.l p rule cc s).1);rw[XC];have HS9:=zh XC;have HM:=zh hm;have HLt:=zh hlt;have HAt:Hid (nK (dw p rule cc)):=aie ⟨by omega,by omega⟩ ⟨by omega,by omega⟩ ⟨by omega,by omega⟩;obtain⟨r,hr⟩:=ze (decide (p∈D.l));have Bc:=zh (alr H0.out p r hr);have HR:=zh hr;clear XC hz hm hlt hr hs hSp hSe hb0 hnm H UF UG;go_enter Tryz.func225,Tryz.ntmps225;go_wp2_with fail;try rw[hW0]
 clear hW0;refine Bc.out.mono ?_;rintro e w1 ⟨rfl,O1⟩;have H1:=zh (H0.out.aH O1);have aW:=zh O1;clear O1 Bc;cases r with
 |false=>
  have hme:S.meet D.x D.l p rule cc s=(S,0):=by unfold TB.meet;rw[if_pos (by have:=HR.out;simpa using this)]
  have hzz:(0:Int)=z:=by rw[<-HZ.out,hme]
  subst hzz;have h9:S=S9:=by rw[<-HS9.out,hme]
  subst h9;have HE:Hid (aZ w gt gb c bt bb G Bs D S w1):=aZ.after (iZ.out.same aW.out) (aZ.refl H1.out);clear hme H1;exact zDV
 |true=>
  have hpl:p∈D.l:=of_decide_eq_true HR.out;have hpx:=HLt.out p hpl;have Dt:=zh hpl;obtain⟨wA,hwA⟩:=ze (w1.alloc (.cells #[.int .u8 10,.int .i64 p,.int .i64 rule,.int .i64 cc] 89));have HbA:Hid (∀W,O0 wA W->W.heap[w1.heap.size]? =some (.cells #[.int .u8 10,.int .i64 p,.int .i64 rule,.int .i64 cc] 89 (0,0))):=fun W o=>aC (by rw[<-hwA];exact qL _ _) o (fun f=>f);have Uh:Hid (O0 w1 wA):=by rw[<-hwA];exact zr.alloc _
  have HA:=zh (H1.out.aH Uh.out);have HTb:Hid (∀W,O0 wA W->Calls Tryz.prog 66 #[.pointer (some ⟨c,0,none⟩)] W fun e w'=>e= .returned (.pointer (some ⟨bt,0,none⟩))/\w'=W):=fun W o=>vX (HA.out.aH o).gr;obtain⟨n0,hn0⟩:∃n:Int,(numOf S.1.l (dw p rule cc):Int)=n:=⟨_,rfl⟩;have HLk:Hid (∀W,O0 wA W->Calls Tryz.prog 67 #[.pointer (some ⟨bt,0,none⟩),iY (dw p rule cc)] W fun e w'=>e= .returned (.int .i64 n0)/\O0 W w'):=fun W o=>by obtain⟨V,hV⟩:=(HA.out.aH o).gr.tab;exact uf hV HAt.out n0 hn0
  have OJ:Hid (∀W,O0 wA W->W.rangeAt w1.heap.size 0 [.int .u8 10,.int .i64 p,.int .i64 rule,.int .i64 cc]):=fun W o j u hu=>by rw[Nat.zero_add,aj (HbA.out W o)];simpa using hu
  have HN0:=zh hn0;clear hpl hn0;go_wp2_with fail;try rw[hwA]
  clear hwA;refine fO (fun W=>O0 wA W) zk zk (by exact zr.drew) ?_;refine qV ?_;refine gY (v:=.pointer (some ⟨bt,0,none⟩)) (f:=66) (args:= #[.pointer (some ⟨c,0,none⟩)]) (by rfl) ?_ ?_ ?_;·exact zB9
  ·(intro w hSw;exact(HTb.out w hSw).mono fun _ _ ⟨he,hw⟩=>⟨he,hw▸hSw⟩)
  try simp only[Act.put,eF,fA,eG,dW,dX,dY]
  refine aaq (by rfl) rfl rfl OJ.out Tryz.underlying89 rfl zk ?_;try simp only[Act.put,eF,fA,eG,dW,dX,dY]
  refine gY (v:=.int .i64 n0) (f:=67) (args:= #[.pointer (some ⟨bt,0,none⟩),(.agg #[.int .u8 10,.int .i64 (p:Int),.int .i64 (rule:Int),.int .i64 (cc:Int)])]) (by rfl) ?_ ?_ ?_;·exact zB9
  ·(intro w hSw;exact(HLk.out w hSw).mono fun _ _ ⟨he,hw⟩=>⟨he,hSw.same hw⟩)
  try simp only[Act.put,eF,fA,eG,dW,dX,dY]
  refine qV ?_;refine wpQuiet_nil ?_;intro w7 O7;have pG:=zh O7;clear O7;by_cases hin:dw p rule cc∈S.1.l
  ·have hme:S.meet D.x D.l p rule cc s=(S,(numOf S.1.l (dw p rule cc):Int)):=by unfold TB.meet;rw[if_neg (by simp[Dt.out]),if_pos hin]
   have hzz:n0=z:=by rw[<-HZ.out,hme,HN0.out]
   have hpos:0<n0:=by rw[<-HN0.out];unfold numOf;rw[if_pos hin];omega
   subst hzz;have h9:S=S9:=by rw[<-HS9.out,hme]
   subst h9;have HE:Hid (aZ w gt gb c bt bb G Bs D S w7):=aZ.after ((iZ.out.same aW.out).same (Uh.out.same pG.out)) (aZ.refl (HA.out.aH pG.out));clear hme hin;exact zDV
  have aoZ:n0=0:=by rw[<-HN0.out];unfold numOf;rw[if_neg hin];rfl
  subst aoZ;have H7:=zh (HA.out.aH pG.out);have HB7:=zh (HbA.out w7 pG.out);have alv:Hid (O0 W0 w7):=aW.out.same (Uh.out.same pG.out);obtain⟨Nn,hNn⟩:=ze ((S.num (dw p rule cc)).2);obtain⟨S1,hS1⟩:=ze ((S.num (dw p rule cc)).1);have hnb:=(Tab.ql H7.out.ok (dw p rule cc)).2;have hnb:0<=Nn/\Nn<=65536:=by rw[<-hNn];exact hnb
  have uV:Hid (Calls Tryz.prog 75 #[.pointer (some ⟨c,0,none⟩),iY (dw p rule cc)] w7 fun e w'=>e= .returned (.int .i64 Nn)/\aZ W0 gt gb c bt bb G Bs D S1 w'):=by rw[<-hS1];exact(DN H7.out HAt.out Nn hNn).mono fun e w' ⟨he,h⟩=>⟨he,aZ.after alv.out h⟩
  have HMe:Hid (∀D1 S2 S3 es S4 vs,S1.num (aI p)=(S2,D1)->(S3,es)=(if eU s.spans=true then (S2,[D1])else ((S2.set p (D.x.pack p).aX s.spans).1,[D1,(S2.set p (D.x.pack p).aX s.spans).2]))->S3.values p (D.x.pack p).vars s.sets=(S4,vs)->S.meet D.x D.l p rule cc s=(if 0<Nn/\(es++vs).contains 0=false then (S4.1,S4.2.adds (nC Nn (es++vs)))else S4,Nn)):=fun D1 S2 S3 es S4 vs e1 e2 e3=>by unfold TB.meet;rw[if_neg (by simp[Dt.out]),if_neg hin];dsimp only;rw[hNn,hS1,e1];dsimp only;rw[<-e2];dsimp only;rw[e3]
  clear hin hNn hS1;go_wp2_with (refine wpList_load_row rfl 89 (.tmp 11) rfl w1.heap.size rfl 89 #[.int .u8 10,.int .i64 p,.int .i64 rule,.int .i64 cc] (0,0) _ HB7.out Tryz.underlying89 rfl zk ?_);refine uV.out.mono ?_;rintro e w8 ⟨rfl,h8⟩;have H8:=zh h8;clear h8 uV HA H7 HB7 alv HLk HTb OJ HbA Uh pG H1 aW;obtain⟨D1,hD1⟩:=ze ((S1.num (aI p)).2);obtain⟨S2,hS2⟩:=ze ((S1.num (aI p)).1);have OL:S1.1.Ok:=by obtain⟨_,_,Hx,_⟩:=H8.out;exact Hx.ok
  have hd1:0<=D1/\D1<=65536:=by rw[<-hD1];exact(Tab.ql OL (aI p)).2
  have Yx:Hid (Calls Tryz.prog 164 #[.pointer (some ⟨c,0,none⟩),.int .i64 p] w8 fun e w'=>e= .returned (.int .i64 D1)/\aZ W0 gt gb c bt bb G Bs D S2 w'):=by obtain⟨UH,gb8,Hx,A,A',O⟩:=H8.out;have h:=(QH Hx (p:=p) ⟨by omega,by omega⟩ D1 hD1).mono fun e w' ⟨he,h⟩=>(⟨he,aZ.trans A A' O h⟩:e=_/\aZ W0 gt gb c bt bb G Bs D _ w');rw[hS2]at h;exact h
  have HP:Hid (S1.num (aI p)=(S2,D1)):=by rw[<-hD1,<-hS2];exact rfl
  clear hD1 hS2 OL H8;go_wp2_with fail;refine Yx.out.mono ?_;rintro e w9 ⟨rfl,h9⟩;have hB0:Bs<=W0.heap.size:=H0.out.le;have iP:Hid (jy W0 gt gb c bt bb G Bs D S2 (w9.alloc (.cells #[.int .i64 D1] 3)) (.slice (some ⟨w9.heap.size,0,none⟩) 1 1) [D1]):=jy.lit hB0 h9 D1;obtain⟨w10,ao0⟩:=ze (w9.alloc (.cells #[.int .i64 D1] 3));rw[ao0]at iP;obtain⟨g9,hg9⟩:=ze w9.heap.size;rw[hg9]at iP;obtain⟨k1,k2⟩:=aU.out w10 iP.out.only;clear h9 Yx; -- the spans
  go_upto_region 9 with fail;go_cut [50] (fun v50 wx=>v50= .bool (!eU s.spans)/\wx=w10);case first=>
   by_cases hone:Sz=1
   ·subst hone;have hrow:=HSp.out w10 iP.out.only;obtain⟨y,hy⟩:∃y,s.spans=[y]:=List.length_eq_one_iff.1 NSp.out;have hrow1:aQ 2 eY Bs w10 (.slice UD s.spans.length UE) s.spans:=by rw[NSp.out];exact hrow
    obtain⟨bS,QO,eS,-,-⟩:=hrow1.at (by rw[NSp.out];omega);subst eS;obtain⟨csS,-,hrS,rfl,-,-⟩:=hrow.get (i:=0) (x:=y) (by rw[hy];rfl);have HRS:Hid (w10.rangeAt bS QO [.string y.lo,.string y.hi]):=by simpa[Hid]using hrS
    have hsp:eU s.spans=(decide (y.lo=ByteArray.empty)&&decide (y.hi=ByteArray.empty)):=by rw[hy];rfl
    have hneq:=adg y.lo y.hi;rw[<-hsp]at hneq;obtain⟨sa,hsa⟩:=ze (eU s.spans);rw[hsa]at hneq;have V3:=zh hsa;clear hsp hrS hrow hrow1 hy hsa HMe;have k3:w10.cell? ⟨bS,QO,none⟩=some (.string y.lo):=HRS.out 0 _ rfl;have k4:w10.cell? ⟨bS,QO+1,none⟩=some (.string y.hi):=HRS.out 1 _ rfl;go_wp2_with fail;go_meet;exact⟨by rw[V3.out],rfl⟩
   have hsa:eU s.spans=false:=by
    unfold eU;split;·rename_i h;exact absurd (by rw[<-NSp.out,h];rfl) hone
    rfl
   have V3:=zh hsa;have hne:((Sz:Int)==1)=false:=by rw[yC];omega
   clear hsa;go_wp2_with fail;go_meet;exact⟨by rw[V3.out];rfl,rfl⟩
  case rest=>
   obtain⟨rfl,rfl⟩:=hcut;obtain⟨sa,hsa⟩:=ze (eU s.spans);have V3:=zh hsa;rw[hsa];clear hsa;go_upto_if 50 with fail;go_cut [14] (fun v14 wx=> ∃S3 es cap g,(S3,es)=(if eU s.spans=true then (S2,[D1])else ((S2.set p (D.x.pack p).aX s.spans).1,[D1,(S2.set p (D.x.pack p).aX s.spans).2]))/\v14= .slice (some ⟨g,0,none⟩) es.length cap/\(∀y∈es,0<=y/\y<=65536)/\es.length<=2/\jy W0 gt gb c bt bb G Bs D S3 wx v14 es);case first=>
    cases sa with
    |true=>
     have HY:Hid ((S2,[D1])=(if eU s.spans=true then (S2,[D1])else ((S2.set p (D.x.pack p).aX s.spans).1,[D1,(S2.set p (D.x.pack p).aX s.spans).2]))):=by rw[V3.out,if_pos rfl];exact rfl
     clear HMe
     go_wp2_with fail
     go_meet
     exact⟨S2,[D1],1,g9,HY.out,rfl,fun y hy=>by simp at hy;subst hy;exact hd1,by simp,iP.out⟩
    |false=>
     obtain⟨z2,hz2⟩:=ze ((S2.set p (D.x.pack p).aX s.spans).2)
     obtain⟨S3,hS3⟩:=ze ((S2.set p (D.x.pack p).aX s.spans).1)
     have HS2:Hid (Calls Tryz.prog 310 #[.pointer (some ⟨c,0,none⟩),.int .i64 p,.slice UD Sz UE] wc fun e w'=>e= .returned (.int .i64 z2)/\jy W0 gt gb c bt bb G Bs D S3 w' (.slice (some ⟨g9,0,none⟩) 1 1) [D1]):=by
      rw[<-hS3]
      exact jy.call iP.out (fun gt' gb' Hx=>alp Hx hpx HM.out (HSp.out wc iP.out.only) z2 hz2)
     have hz2b:0<=z2/\z2<=65536:=by
      obtain⟨_,_,Hx,_⟩:=iP.out
      rw[<-hz2]
      unfold TB.set
      dsimp only
      exact TB.ail (Tab.sW _ Hx.ok).1
     have HN:Hid ((S3,[D1,z2])=(if eU s.spans=true then (S2,[D1])else ((S2.set p (D.x.pack p).aX s.spans).1,[D1,(S2.set p (D.x.pack p).aX s.spans).2]))):=by rw[V3.out,if_neg zAF,hS3,hz2];exact rfl
     clear hz2 hS3 HMe
     go_wp2_with fail
     refine HS2.out.mono ?_
     rintro e V4 ⟨rfl,h11⟩
     have H11:=zh h11
     have rG:=zh h11.own
     clear h11 HS2
     go_wp2_with (at_builtin;go_must (refine AL (u:=.int .i64 z2) lY rfl (.tmp 51) (.tmp 57) rfl rfl rfl (cell_new0 _ _ _) rfl (aG rG.out ((Only.refl (fun _=>False) _).alloc _) (fun _ _ f=>f)) zBZ zAD ?_))
     intro v' w12 s1 s2 s3
     have ais:Hid (jy W0 gt gb c bt bb G Bs D S3 w12 v' [D1,z2]):=jy.app H11.out ((Only.refl (fun _=>False) V4).alloc _) s1 s2 s3
     obtain⟨g6,c6',rfl,-,-,-⟩:=s3
     clear s1 s2 H11 rG
     go_wp2_with fail
     go_meet
     exact⟨S3,[D1,z2],c6',g6,HN.out,rfl,fun y hy=>by
      simp only[qY,List.not_mem_nil,or_false]at hy
      rcases hy with rfl|rfl
      ·exact hd1
      ·exact hz2b,by simp,ais.out⟩
   case rest=>
    obtain⟨S3,es,cap,gE,hE,rfl,hes,hel,hRow⟩:=hcut;have HE:=zh hE;have HS3:Hid S3.1.Ok:=by obtain⟨_,_,Hx,_⟩:=hRow;exact Hx.ok
    have agX:Hid (jy W0 gt gb c bt bb G Bs D (S3.values p (D.x.pack p).vars (s.sets.take 0)).1 wc (.slice (some ⟨gE,0,none⟩) es.length cap) (es++(S3.values p (D.x.pack p).vars (s.sets.take 0)).2)):=by show jy _ _ _ _ _ _ _ _ _ S3 _ _ (es++[]);rw[List.append_nil];exact hRow
    obtain⟨k1,k2⟩:=aU.out wc hRow.only;clear hRow hE iP k1;go_wp2_with fail;go_loopw [14,62] (fun v14 vi wr=> ∃i:Nat,vi= .int .i64 i/\i<=NU/\Hid (jy W0 gt gb c bt bb G Bs D (S3.values p (D.x.pack p).vars (s.sets.take i)).1 wr v14 (es++(S3.values p (D.x.pack p).vars (s.sets.take i)).2))) (fun _ v _=>NU-(RowKit.intOf v).toNat);case atStart=>exact⟨0,rfl,qE _,agX⟩
    case round=>
     clear agX k2;obtain⟨i,rfl,hi,wM⟩:=hrel;by_cases ci:i<NU
     ·obtain⟨S4,hS4⟩:=ze ((S3.values p (D.x.pack p).vars (s.sets.take i)).1);obtain⟨vs,hvs⟩:=ze ((S3.values p (D.x.pack p).vars (s.sets.take i)).2);have hvl:vs.length=i:=by rw[<-hvs,TB.sS,List.length_take,NSe.out];omega
      rw[hS4,hvs]at wM;have hrow:=HSe.out wr wM.out.only;have hrow1:aQ 2 ji Bs wr (.slice VY s.sets.length VZ) s.sets:=by rw[NSe.out];exact hrow
      obtain⟨bS,QO,eS,-,-⟩:=hrow1.at (by rw[NSe.out];omega);subst eS;obtain⟨y,hy⟩:=zG s.sets i (by rw[NSe.out];exact ci);obtain⟨csS,-,hrS,rfl,-,-⟩:=hrow.get hy;have HRS:=zh hrS;have iG:=zw (i+1);have HTk:Hid (s.sets.take (i+1)=s.sets.take i++[y]):=by show _=_;rw[List.take_add_one,hy];rfl
      obtain⟨wB,hwB⟩:=zB (wr.alloc (.cells #[.string y.name,.string y.value] 117));have oB:O0 wr wB:=zA2;have HbB:Hid (wB.heap[wr.heap.size]? =some (.cells #[.string y.name,.string y.value] 117 (0,0))):=zA7;obtain⟨q,hq⟩:=ze ((S4.value p (D.x.pack p).vars y).2);have ait:Hid (Calls Tryz.prog 311 #[.pointer (some ⟨c,0,none⟩),.int .i64 p,.agg #[.string y.name,.string y.value]] wB fun e w'=>e= .returned (.int .i64 q)/\jy W0 gt gb c bt bb G Bs D (S4.value p (D.x.pack p).vars y).1 w' u14 (es++vs)):=
       jy.call (wM.out.aH oB) (fun gt' gb' Hx=>afN Hx hpx HM.out y q hq)
      have kN:Hid (S3.values p (D.x.pack p).vars (s.sets.take (i+1))=((S4.value p (D.x.pack p).vars y).1,vs++[q])):=by show _=_;rw[HTk.out,TB.IY,hS4,hvs,hq]
      obtain⟨L,hL⟩:=ze (es++vs);have hLl:L.length<=i+2:=by rw[<-hL,qK];omega
      have HL:=zh hL;rw[hL]at wM ait;obtain⟨au,cu,hu,-,-⟩:∃au cu,u14= .slice au L.length cu/\L.length<=cu/\cu<=maxLen:=aJ wM.out.own;subst hu;have JH:=zh iG;clear hrow hrow1 hy hrS oB hq hS4 hvs hL wM iG;go_wp2_with (refine wpList_load_mid rfl 117 (.tmp 64) rfl bS (QO+i*2) rfl _ _ HRS.out Tryz.underlying117 rfl zk ?_);rw[<-hwB];clear hwB;go_wp2_with (refine wpList_load_row rfl 117 (.tmp 16) rfl wr.heap.size rfl 117 #[.string y.name,.string y.value] (0,0) _ HbB.out Tryz.underlying117 rfl zk ?_);refine ait.out.mono ?_;rintro e w5 ⟨rfl,h5⟩;have H5:=zh h5;have rG:=zh h5.own;clear h5 ait;go_wp2_with (at_builtin;go_must (refine AL (u:=.int .i64 q) lY rfl (.tmp 66) (.tmp 71) rfl rfl rfl (cell_new0 _ _ _) rfl (aG rG.out ((Only.refl (fun _=>False) _).alloc _) (fun _ _ f=>f)) zAB zBV ?_));intro v' w6 s1 s2 s3;have QS:Hid (jy W0 gt gb c bt bb G Bs D (S3.values p (D.x.pack p).vars (s.sets.take (i+1))).1 w6 v' (es++(S3.values p (D.x.pack p).vars (s.sets.take (i+1))).2)):=by rw[kN.out];show jy _ _ _ _ _ _ _ _ _ _ _ _ (es++(vs++[q]));rw[<-yW,HL.out];exact jy.app H5.out ((Only.refl (fun _=>False) w5).alloc _) s1 s2 s3
      obtain⟨g6,c6',rfl,-,-,-⟩:=s3;have iG:=JH.out;clear s1 s2 H5 rG;go_wp2_with fail;go_roundw;case rel=>exact⟨i+1,by first|rfl|go_num,by omega,QS⟩
      case measure=>simp[RowKit.intOf]<;>omega
     obtain rfl:NU=i:=by omega
     clear hi ci;rw[qI (yG NSe.out)]at wM;obtain⟨S4,hS4⟩:=ze ((S3.values p (D.x.pack p).vars s.sets).1);obtain⟨vs,hvs⟩:=ze ((S3.values p (D.x.pack p).vars s.sets).2);have Y6:=HMe.out D1 S2 S3 es S4 vs HP.out HE.out (by rw[<-hS4,<-hvs]);have agY:∀z∈vs,0<=z/\z<=65536:=by rw[<-hvs];exact(TB.Pq p (D.x.pack p).vars s.sets HS3.out).2
     have hvl:vs.length=NU:=by rw[<-hvs,TB.sS,NSe.out]
     rw[hS4,hvs]at wM;obtain⟨L,hL⟩:=ze (es++vs);have hLl:L.length<=NU+2:=by rw[<-hL,qK];omega
     have hLb:∀z∈L,0<=z/\z<=65536:=by
      rw[<-hL];intro y hy;rcases qW.1 hy with h|h;·exact hes y h
      exact agY y h
     rw[hL]at wM Y6;have hzz:Nn=z:=by rw[<-HZ.out,Y6]
     obtain⟨r0,hr0⟩:=ze (!L.contains 0);have hcz:(L.contains 0=false)↔(r0=true):=by rw[<-hr0];cases L.contains 0<;>simp
     have H9:Hid ((if 0<Nn/\r0=true then (S4.1,S4.2.adds (nC Nn L))else S4)=S9):=by rw[<-HS9.out,Y6];simp only[hcz];first|exact rfl|trivial
     subst hzz;have OT:=zh hLb;have HR0:=zh hr0;obtain⟨au,cu,hu,-,-⟩:∃au cu,u14= .slice au L.length cu/\L.length<=cu/\cu<=maxLen:=aJ wM.out.own;subst hu;have D9:Hid (∀S5 W,aZ W0 gt gb c bt bb G Bs D S5 W->aZ w gt gb c bt bb G Bs D S5 W):=fun S5 W h=>aZ.after iZ.out h;clear Y6 hS4 hvs hL hLb hr0 hcz agY hvl;by_cases hpos:0<Nn
     ·have Ci:Hid (Calls Tryz.prog 227 #[.slice au L.length cu] wr fun e w'=>e= .returned (.bool r0)/\w'=wr):=by obtain⟨_,_,Hx,_,_,_,hI,_⟩:=wM.out.ints OT.out;exact JG hI r0 HR0.out
      have uM:Hid (Calls Tryz.prog 28 #[.pointer (some ⟨c,0,none⟩)] wr fun e w'=>e= .returned (.pointer (some ⟨bb,0,none⟩))/\w'=wr):=by obtain⟨_,_,Hx,_⟩:=wM.out;exact sD Hx.gr
      have Ls:Hid (Calls Tryz.prog 228 #[.pointer (some ⟨bb,0,none⟩),.int .i64 Nn,.slice au L.length cu] wr fun e w'=>e= .returned (.tuple #[])/\aZ W0 gt gb c bt bb G Bs D (S4.1,S4.2.adds (nC Nn L)) w'):=by obtain⟨_,_,Hx,A,A',O,hI,hN⟩:=wM.out.ints OT.out;exact(agU Hx hI hN Nn ⟨by omega,by omega⟩ (fun y hy=>by have:=OT.out y hy;omega) zAB).mono fun e w' ⟨he,h⟩=>⟨he,aZ.trans A A' O h⟩
      go_wp2_with fail;refine Ci.out.mono ?_;rintro e w4 ⟨rfl,rfl⟩;cases r0 with
      |false=>
       have h9:S4=S9:=by rw[<-H9.out,if_neg zAF]
       subst h9;have HE2:=zh (D9.out _ _ wM.out.gr);clear wM Ls uM;go_wp2_with fail;go_ret;exact⟨rfl,HE2.out⟩
      |true=>
       have h9:(S4.1,S4.2.adds (nC Nn L))=S9:=by rw[<-H9.out,if_pos ⟨hpos,rfl⟩]
       rw[h9]at Ls;clear wM h9;go_wp2_with fail;refine uM.out.mono ?_;rintro e w5 ⟨rfl,rfl⟩;go_wp2_with fail;refine Ls.out.mono ?_;rintro e w6 ⟨rfl,h6⟩;have H6:=zh (D9.out _ _ h6);clear h6 Ls uM;go_wp2_with fail;go_ret;exact⟨rfl,H6.out⟩
     have h9:S4=S9:=by rw[<-H9.out,if_neg (fun h=>hpos h.1)]
     subst h9;have HE2:=zh (D9.out _ _ wM.out.gr);clear wM;go_wp2_with fail;go_ret;exact⟨rfl,HE2.out⟩
end
end Go.Proofs.YtdmmebjjojimiaaGreatDoor
namespace Go.Proofs
theorem zDH{p:Prop}(h:p:=by
 rcases h with h|h
 ·rw[h]at hk;exact ht hk.symm
 ·rw[h,hm1]at hk;exact ht hk.symm):p:=h
theorem zDI{p:Prop}(h:p:=by
 rcases yK k w9.heap.size with h|h
 ·exact h
 ·exact absurd ((hf5.more h3.size) k h) hm):p:=h
theorem zDq{p:Prop}(h:p:=by
 unfold Mine
 rcases hk with hk|hk
 ·rw[hk];simp
 ·rw[hk,hm1];simp):p:=h
end Go.Proofs
namespace Go.Proofs.YtdmmebjjojimiaaGreatDoor
open Go.RowKit
theorem adi{P:Program}{w:World}{ops:Array Oper}{o:Oper}{a:Act}{K:Act->World->Prop}{Q:Exit->Act->World->Prop}{E:Prop}{t:TypeId}(hg:o.guard=none)(m x v:Operand)(hop:o.op=Op.mapUpdate t m x v){mv kv vv:Value}(hm:a.eval m=mv)(hx:a.eval x=kv)(hv:a.eval v=vv){w':World}(hr:(Instr.mapUpdate t mv kv vv).run P w= .ok () w')(hK:K (a.put o.dst undef) w'):if Region.wanted o (yielded ops a.tmps)=true then Oper.wp P o a w K Q else E:=by rw[if_pos (by simp[Region.wanted,hg])];unfold Oper.wp;simp[execOp,hop,hm,hx,hv,hr,Result.andThen];exact hK
section
variable {κ:Type} [DecidableEq κ] {t k:TypeId} {K:CU κ t k} {w w':World} {g:Tag} {τ B:Nat} {m:List (κ×List Int)} {val:κ->Value}
theorem rD.look'(h:rD K w g τ B m val){x:κ}(hx:K.ok x){F:Nat->Prop}(ho:Only F w w')(hF:¬F B):(Instr.lookup t (.map (some B)) (K.enc x) false).run Tryz.prog w'= .ok (val x) w':=by obtain⟨D,h1,h2,h3,h4⟩:=h.own;obtain⟨v,ps,hrun,hat⟩:=(zX h1 ho hF).lookup K.law K.und (YV w') (zd:=.held dF) (zp:=[]) rfl (K.key x hx);exact zEH
end
section
variable {w w':World} {gt gb gp:Tag} {X:MW} {Bs:Nat} {D:xC} {E:ES}
theorem jl.QT(H:jl w gt gb gp X Bs D E){e:Nat×Nat}(he:KE.ok e){z:Int}(hz:bg z)(hl:E.2.of.length<maxLen):∃(ix:Nat) (v:Value),Row w gp (1,ix+1) 3 v ((dD E.2.of e).map cI)/\(∀W,Only (fun k=>gp k=(1,ix+1)) w W->W.cell? ⟨X.px,2,none⟩=some (.map (some X.m1))/\(Instr.lookup 150 (.map (some X.m1)) (CV e) false).run Tryz.prog W= .ok v W)/\(∀wA w5 v',O0 w wA->Only (fun k=>gp k=(1,ix+1)) wA w5->Row w5 (Tag.put gp wA.heap.size w5.heap.size (1,ix+1)) (1,ix+1) 3 v' ((dD E.2.of e).map cI++[cI z])->∃w9,(Instr.mapUpdate 150 (.map (some X.m1)) (CV e) v').run Tryz.prog w5= .ok () w9/\bF w gt gb gp X Bs D (E.1,{E.2 with of:=dM E.2.of e z}) w9):=by
 obtain⟨val,hR⟩:=H.of;obtain⟨us,hN⟩:=H.needs;obtain⟨v3,SA⟩:=H.roots;refine⟨oK E.2.of e,val e,hR.rowAt e,fun W hW=>⟨?_,?_⟩,fun wA w5 v' oA o5 hr=>?_⟩;·exact aY H.cells.2.2.1 hW (fun h=>H.tp (.inr (by unfold Mine;rw[h];simp)))
 ·exact hR.look' he hW (by rw[hR.tb];simp)
 have HA:=H.aH oA;have hRA:=hR.keep oA (fun _ _ f=>f) (Agree.refl _ _);have hA:Agree wA gp (Tag.put gp wA.heap.size w5.heap.size (1,oK E.2.of e+1)):=Agree.put _ _ (qH _);obtain⟨w9,h1,h2,h3⟩:=hRA.push he hA o5 hz hr hl;refine⟨w9,h1,bF.after oA ?_⟩;have hm1:=hRA.tb;have V5:Only (fun k=>gp k=(1,oK E.2.of e+1)\/k=X.m1) wA w9:=(o5.mono fun k hk=>.inl hk).same (h3.mono fun k hk=>.inr hk);have hT:∀{τ:Nat},τ≠1->∀k,(gp k).1=τ->¬(gp k=(1,oK E.2.of e+1)\/k=X.m1):=fun{τ} ht k hk h=>by exact zDH
 have hf5:rM w5 (Tag.put gp wA.heap.size w5.heap.size (1,oK E.2.of e+1)):=rM.put _ HA.fresh o5.size;refine HA.ac3 hA (V5.mono fun k hk=>?_) (hf5.more h3.size) ⟨_,h2⟩ ⟨us,(hN.keep oA (fun _ _ f=>f) (Agree.refl _ _)).keep V5 (hT zBV) hA⟩ rfl ⟨v3,(SA.keep oA (fun _ _ f=>f) (Agree.refl _ _)).keep V5 (hT zAD) hA⟩ (fun k hk hm=>?_);·exact zDq
 exact zDI
theorem jl.Ic(H:jl w gt gb gp X Bs D E){e:Nat}(he:KI.ok e){z:Int}(hz:bg z)(hl:E.2.roots.length<maxLen):∃(ix:Nat) (v:Value),Row w gp (3,ix+1) 3 v ((dD E.2.roots e).map cI)/\(∀W,Only (fun k=>gp k=(3,ix+1)) w W->W.cell? ⟨X.px,4,none⟩=some (.map (some X.m2))/\(Instr.lookup 151 (.map (some X.m2)) (.int .i64 (e:Int)) false).run Tryz.prog W= .ok v W)/\(∀wA w5 v',O0 w wA->Only (fun k=>gp k=(3,ix+1)) wA w5->Row w5 (Tag.put gp wA.heap.size w5.heap.size (3,ix+1)) (3,ix+1) 3 v' ((dD E.2.roots e).map cI++[cI z])->∃w9,(Instr.mapUpdate 151 (.map (some X.m2)) (.int .i64 (e:Int)) v').run Tryz.prog w5= .ok () w9/\bF w gt gb gp X Bs D (E.1,{E.2 with roots:=dM E.2.roots e z}) w9):=by
 obtain⟨val,hR⟩:=H.of;obtain⟨us,hN⟩:=H.needs;obtain⟨v3,SA⟩:=H.roots;refine⟨oK E.2.roots e,v3 e,SA.rowAt e,fun W hW=>⟨?_,?_⟩,fun wA w5 v' oA o5 hr=>?_⟩;·exact aY H.cells.2.2.2.2 hW (fun h=>H.tp (.inr (by unfold Mine;rw[h];simp)))
 ·exact SA.look' he hW (by rw[SA.tb];simp)
 have HA:=H.aH oA;have hRA:=SA.keep oA (fun _ _ f=>f) (Agree.refl _ _);have hA:Agree wA gp (Tag.put gp wA.heap.size w5.heap.size (3,oK E.2.roots e+1)):=Agree.put _ _ (qH _);obtain⟨w9,h1,h2,h3⟩:=hRA.push he hA o5 hz hr hl;refine⟨w9,h1,bF.after oA ?_⟩;have hm1:=hRA.tb;have V5:Only (fun k=>gp k=(3,oK E.2.roots e+1)\/k=X.m2) wA w9:=(o5.mono fun k hk=>.inl hk).same (h3.mono fun k hk=>.inr hk);have hT:∀{τ:Nat},τ≠3->∀k,(gp k).1=τ->¬(gp k=(3,oK E.2.roots e+1)\/k=X.m2):=fun{τ} ht k hk h=>by exact zDH
 have hf5:rM w5 (Tag.put gp wA.heap.size w5.heap.size (3,oK E.2.roots e+1)):=rM.put _ HA.fresh o5.size;refine HA.ac3 hA (V5.mono fun k hk=>?_) (hf5.more h3.size) ⟨val,(hR.keep oA (fun _ _ f=>f) (Agree.refl _ _)).keep V5 (hT zBV) hA⟩ ⟨us,(hN.keep oA (fun _ _ f=>f) (Agree.refl _ _)).keep V5 (hT zAD) hA⟩ rfl ⟨_,h2⟩ (fun k hk hm=>?_);·exact zDq
 exact zDI
theorem jl.vP(H:jl w gt gb gp X Bs D E){n:Nat}(hn:n<D.names.length){z:Int}(hz:bg z):∃(b cap:Nat) (v:Value),X.sv= .slice (some ⟨b,0,none⟩) D.names.length cap/\Row w gp (2,n+1) 3 v ((E.2.needs.getD n []).map cI)/\(∀W,Only (fun k=>gp k=(2,n+1)) w W->W.cell? ⟨X.px,3,none⟩=some X.sv/\W.cell? ⟨b,n,none⟩=some v/\W.frozen? ⟨b,n,none⟩=false)/\(∀wA w5 v',O0 w wA->Only (fun k=>gp k=(2,n+1)) wA w5->Row w5 (Tag.put gp wA.heap.size w5.heap.size (2,n+1)) (2,n+1) 3 v' ((E.2.needs.getD n []).map cI++[cI z])->bF w gt gb gp X Bs D (E.1,{E.2 with needs:=kZ E.2.needs n z}) (w5.setCell ⟨b,n,none⟩ v')):=by
 obtain⟨val,hR⟩:=H.of;obtain⟨us,hN⟩:=H.needs;obtain⟨v3,SA⟩:=H.roots;have hnl:=H.Jp;have hul:us.length=D.names.length:=hN.len.trans hnl;obtain⟨b,cap,hsv,-,-,htb,-⟩:=hN.row.pos zAB;rw[hul]at hsv;have hrow:=hN.row;rw[hsv]at hrow;have hn2:n<E.2.needs.length:=zAB;refine⟨b,cap,us.getD n dF,hsv,hN.rows n hn2,fun W hW=>⟨?_,?_,?_⟩,fun wA w5 v' oA o5 hr=>?_⟩;·exact aY H.cells.2.2.2.1 hW (fun h=>H.tp (.inr (by unfold Mine;rw[h];simp)))
 ·exact aY (hrow.cell dF zAB) hW (by rw[htb];simp)
 ·exact rY (hrow.cell dF (by omega:n<us.length)) (hrow.free n) hW (by rw[htb];simp)
 have HA:=H.aH oA;have hA:Agree wA gp (Tag.put gp wA.heap.size w5.heap.size (2,n+1)):=Agree.put _ _ (qH _);have hNA:=hN.keep oA (fun _ _ f=>f) (Agree.refl _ _);rw[hsv]at hNA;obtain⟨h2,h3⟩:=hNA.push hn2 hA o5 hz hr;refine bF.after oA ?_;obtain⟨w9,FD⟩:=ze (w5.setCell ⟨b,n,none⟩ v');have h4:Only (fun k=>k=b) w5 w9:=by rw[<-FD];exact Only.setCell (Only.refl (fun k=>k=b) w5) (p:=⟨b,n,none⟩) (.inl rfl) v'
 rw[FD]at h2 h3⊢;have V5:Only (fun k=>gp k=(2,n+1)\/k=b) wA w9:=(o5.mono fun k hk=>.inl hk).same (h4.mono fun k hk=>.inr hk);have hT:∀{τ:Nat},τ≠2->∀k,(gp k).1=τ->¬(gp k=(2,n+1)\/k=b):=fun{τ} ht k hk h=>by
  rcases h with h|h;·rw[h]at hk;exact ht hk.symm
  rw[h,htb]at hk;exact ht hk.symm
 have hf5:rM w5 (Tag.put gp wA.heap.size w5.heap.size (2,n+1)):=rM.put _ HA.fresh o5.size;refine HA.ac3 hA (V5.mono fun k hk=>?_) (hf5.more h3.size) ⟨val,(hR.keep oA (fun _ _ f=>f) (Agree.refl _ _)).keep V5 (hT zBV) hA⟩ ⟨_,by rw[hsv];exact h2⟩ (by unfold kZ;simp) ⟨v3,(SA.keep oA (fun _ _ f=>f) (Agree.refl _ _)).keep V5 (hT zAD) hA⟩ (fun k hk hm=>?_)
 ·unfold Mine;rcases hk with hk|hk;·rw[hk];simp
  rw[hk,htb];simp
 exact zDI
end
end Go.Proofs.YtdmmebjjojimiaaGreatDoor
