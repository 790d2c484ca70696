/- What may be needed, by the document: Closure. Printed by gen_rfc.py.; The rules, by the document. Printed by gen_rfd.py. -/
import Derived.Test.YtdmmebjjojimiaaGreatDoorG15
set_option maxRecDepth 100000
set_option maxHeartbeats 8000000
set_option linter.all false
namespace Go.Proofs
theorem zFq{p:Prop}(h:p:=by simp[Value.ownBlock]at hk;subst hk;exact HBj.out _ h):p:=h
end Go.Proofs
namespace Go.Proofs.YtdmmebjjojimiaaGreatDoor
open Go.RowKit
section
variable {w w':World} {B:Nat}
theorem UF.set{g m:Nat}{f:List Bool}(h:UF w g m f)(i:Nat):UF (w.setCell ⟨g,i,none⟩ (.bool true)) g m (f.set i true):=by refine⟨by rw[List.length_set];exact h.1,?_⟩;have:=(h.2.stored i (.bool true)).1;rw[List.map_set];exact this
theorem QF{lC:List Value}{x:aQ}(hx:fO B w lC x){Ba:List Value}{q:dD}(hq:mg B w Ba q)(hlen:x.packs.length<=1000000):Calls Tryz.prog 37 #[.agg lC.toArray,.agg Ba.toArray] w fun e w'=> ∃v,e= .returned v/\w'.ownsRow 0 3 1 v (x.closure q.names).length (eP (x.closure q.names))/\(∀k,v.ownBlock=some k->w.heap.size<=k)/\O0 w w':=by
 obtain⟨aP,ak,aJ,aO,aG,aH,rfl,fF,fG,dP,dQ,aB,bJ,mY⟩:=open_rec hx;clear hx;try rw[aB.out]
 obtain⟨dw,aY,dA,rfl,oU,oV,bQ,E8⟩:=lM hq;clear hq;try rw[bQ.out]
 obtain⟨W0,hW0,aV,jK,aF⟩:=G9 w (.slice aP ak aJ) (.slice aO aG aH) (.slice dw aY dA) 25 28;obtain⟨eX,bK,bT⟩:=mY W0 aV.out;clear mY;obtain⟨zL,gu⟩:=E8 W0 aV.out;clear E8;rw[aB.out]at hlen;go_enter Tryz.func37,Tryz.ntmps37;go_wp2_with (at_make;go_must (refine wpM (bytes:=1) (z:=.bool false) Tryz.underlying58 zk rfl rfl _ _ rfl ak rfl rfl rfl rfl zAA zC6 ?_));rw[<-hW0];clear hW0;intro w7 t1 t2 t3;obtain⟨g,hg⟩:=ze (w.heap.size+1+1);rw[hg]at t1⊢;have HG:Hid (W0.heap.size<=g):=by rw[jK.out,Hid];omega
 have alh:Hid (UF w7 g ak (gG x q.names 0)):=⟨by simp[gG,aB.out],by rw[gG,aB.out,List.map_replicate];exact t1⟩;have fQ:=zh t2;clear t1 t2 t3 hg;go_wp2_with fail;go_loopw [6] (fun vn Oi=>Hid (O0 W0 Oi)/\∃n:Nat,vn= .int .i64 n/\n<=(ak+1)/\Hid (UF Oi g ak (gG x q.names n))) (fun v _=>(ak+1)-(RowKit.intOf v).toNat);case atStart=>exact⟨fQ,0,rfl,qE _,alh⟩
 case round=>
  obtain⟨Oi,rfl⟩:=zB wr;clear fQ alh;obtain⟨Ik,n,rfl,hn,CP⟩:=hrel;obtain⟨k0,k1,k2⟩:=aF.out Oi Ik.out;by_cases cn:n<(ak+1)
  ·have iE:=zw (n+1);have hle:(n:Int)<=(ak:Int):=zAA;obtain⟨F,hF⟩:=ze (gG x q.names n);have HFF:=zh hF;have HB0:Hid (UF Oi g ak (jI x q.names F 0)):=by rw[<-hF];exact CP.out
   have fQ:=Ik;clear hF;go_wp2_with fail;go_loopw [24] (fun vi bD=>Hid (O0 W0 bD)/\∃i:Nat,vi= .int .i64 i/\i<=ak/\Hid (UF bD g ak (jI x q.names F i))) (fun v _=>ak-(RowKit.intOf v).toNat);case atStart=>exact⟨fQ,0,rfl,qE _,HB0⟩
   case round=>
    obtain⟨bD,rfl⟩:=zB wr;clear fQ HB0;obtain⟨gK,i,rfl,hi,HBi⟩:=hrel;clear k0 k1 k2;obtain⟨k0,k1,k2⟩:=aF.out bD gK.out;by_cases ci:i<ak
    ·have iE:=zw (i+1);obtain⟨fi,hfi⟩:=ze (jI x q.names F i);rw[hfi]at HBi;have HFi:=zh hfi;clear hfi;have gin:=HBi.out.cell ci;obtain⟨b0,hb0⟩:=ze (fi.getD i false);rw[hb0]at gin;have HB0:=zh hb0;clear hb0;obtain⟨ab,hab⟩:=ze (xP x q.names fi i);have HAs:Hid (Calls Tryz.prog 96 #[.agg #[.slice aP ak aJ,.slice aO aG aH],.agg #[.slice dw aY dA],.slice (some ⟨g,0,none⟩) ak ak,.int .i64 (i:Int)] bD fun e w'=>e= .returned (.bool ab)/\O0 bD w'):=by have:=abw (eX.out bD gK.out) (zL.out bD gK.out) zAg (by rw[aB.out];exact HBi.out) i;rw[hab,aB.out]at this;exact this
     have HAb:=zh hab;clear hab;have X8:Hid (jI x q.names F (i+1)=if (!b0&&ab)=true then fi.set i true else fi):=by rw[vF,HFi.out,stepD,HB0.out,HAb.out];exact rfl
     cases b0 with
     |true=>
      have HB2:Hid (UF bD g ak (jI x q.names F (i+1))):=by rw[X8.out];simp only[Bool.not_true,yQ,Bool.false_eq_true,if_false];exact HBi.out
      go_wp2_with fail;go_roundw;case rel=>exact⟨gK,i+1,by first|rfl|go_num,by omega,HB2⟩
      case measure=>simp[RowKit.intOf]<;>omega
     |false=>
      go_wp2_with fail;refine HAs.out.mono ?_;rintro e w2 ⟨rfl,O2⟩;have eF:=zh (gK.out.same O2);have HB1:=zh (HBi.out.dK O2);clear O2 HAs gin k0 k1 k2;obtain⟨k0,k1,k2⟩:=aF.out w2 eF.out;have gin:=HB1.out.cell ci;cases ab with
      |false=>
       have HB2:Hid (UF w2 g ak (jI x q.names F (i+1))):=by rw[X8.out];simp only[Bool.and_false,Bool.false_eq_true,if_false];exact HB1.out
       go_wp2_with fail;go_roundw;case rel=>exact⟨eF,i+1,by first|rfl|go_num,by omega,HB2⟩
       case measure=>simp[RowKit.intOf]<;>omega
      |true=>
       have hfr:=HB1.out.2.frozenAt i;have HB2:Hid (UF (w2.setCell ⟨g,i,none⟩ (.bool true)) g ak (jI x q.names F (i+1))):=by rw[X8.out];simp only[Bool.not_false,Bool.and_true,if_true];exact HB1.out.set i
       have kD:Hid (O0 W0 (w2.setCell ⟨g,i,none⟩ (.bool true))):=eF.out.setCell (p:=⟨g,i,none⟩) (.inr HG.out) _;go_wp2_with fail;go_roundw;case rel=>exact⟨kD,i+1,by first|rfl|go_num,by omega,HB2⟩
       case measure=>simp[RowKit.intOf]<;>omega
    obtain rfl:ak=i:=by omega
    have HB2:Hid (UF bD g ak (gG x q.names (n+1))):=by have:=HBi.out;rw[<-HFF.out,<-aB.out]at this;rw[<-aB.out];exact this
    have eF:=gK;go_wp2_with fail;go_roundw;case rel=>exact⟨eF,n+1,by first|rfl|go_num,by omega,HB2⟩
    case measure=>simp[RowKit.intOf]<;>omega
  obtain rfl:(ak+1)=n:=by omega
  obtain⟨WB,hWB⟩:=zB Oi;obtain⟨F,hF⟩:=ze (gG x q.names (ak+1));rw[hF]at CP;have HFF:=zh hF;clear hF;have HOW:Hid (O0 W0 WB):=by rw[hWB];exact Ik.out
  have HIn:Hid (∀W,O0 WB W->UF W g ak F):=fun W hW=>by rw[hWB]at hW;exact CP.out.dK hW
  have aI:Hid (O0 WB (WB.alloc (.cells #[] 3))):=zr.alloc _;have GU:Hid ((WB.alloc (.cells #[] 3)).ownsRow 0 3 1 (.slice (some ⟨WB.heap.size,0,none⟩) 0 0) (EZ F 0).length (eP (EZ F 0))):=VH WB;have HB1:Hid (∀k,(Value.slice (some ⟨WB.heap.size,0,none⟩) 0 0).ownBlock=some k->WB.heap.size<=k):=fun k hk=>by simp[Value.ownBlock]at hk;omega
  have hnl:¬((ak:Int)+1<=ak):=zAA;rw[<-hWB];rw[<-hWB]at k0 k1 k2;clear hWB CP Ik;go_wp2_with fail;clear k0 k1 k2;go_loopw [8,46] (fun vo vj gV=>Hid (O0 WB gV)/\∃j:Nat,vj= .int .i64 j/\j<=ak/\Hid (gV.ownsRow 0 3 1 vo (EZ F j).length (eP (EZ F j)))/\Hid (∀k,vo.ownBlock=some k->WB.heap.size<=k)) (fun _ v _=>ak-(RowKit.intOf v).toNat);case atStart=>exact⟨aI,0,rfl,qE _,GU,HB1⟩
  case round=>
   obtain⟨gV,rfl⟩:=zB wr;clear aI GU HB1;obtain⟨GK,j,rfl,hj,HV,HBj⟩:=hrel;obtain⟨au,cu,rfl,-,-⟩:=bg HV.out;by_cases cj:j<ak
   ·have hpl:(EZ F j).length<=j:=by unfold EZ;have:=yO (fun i=>F.getD i false) (List.range j);simpa using this
    have iE:=zw (j+1);have gin:=(HIn.out gV GK.out).cell cj;obtain⟨b0,hb0⟩:=ze (F.getD j false);rw[hb0]at gin;have HB0:=zh hb0;clear hb0;cases b0 with
    |false=>
     have uN:Hid (gV.ownsRow 0 3 1 (.slice au (EZ F j).length cu) (EZ F (j+1)).length (eP (EZ F (j+1)))):=by rw[RU,HB0.out,if_neg zAP];exact HV.out
     go_wp2_with fail;go_roundw;case rel=>exact⟨GK,j+1,by first|rfl|go_num,by omega,uN,HBj⟩
     case measure=>simp[RowKit.intOf]<;>omega
    |true=>
     go_wp2_with (at_builtin;go_must (refine Ai (u:=.int .i64 (j:Int)) ac7 rfl (.tmp 53) (.tmp 55) rfl rfl rfl (cell_new0 _ _ _) rfl (aW HV.out ((Only.refl (fun _=>False) _).alloc _) (fun _ _ f=>f)) zAA zC6 ?_));intro v' w2 r1 r2 r3;have uN:Hid (w2.ownsRow 0 3 1 v' (EZ F (j+1)).length (eP (EZ F (j+1)))):=by rw[RU,HB0.out,if_pos rfl];simpa[eP,Hid]using r1
     have eF:=zh (((GK.out.alloc _).trans r2 fun k hk=>.inr (HBj.out k hk)));have HB2:Hid (∀k,v'.ownBlock=some k->WB.heap.size<=k):=by
      intro k hk;obtain⟨g,cap',rfl,-,-,h|h⟩:=r3;·exact zFq
      simp[Value.ownBlock]at hk;subst hk;have:=GK.out.size;simp at h;omega
     obtain⟨g2,cap',rfl,-,-,-⟩:=r3;clear r1 r2;go_wp2_with fail;go_roundw;case rel=>exact⟨eF,j+1,by first|rfl|go_num,by omega,uN,HB2⟩
     case measure=>simp[RowKit.intOf]<;>omega
   obtain rfl:ak=j:=by omega
   go_wp2_with fail;go_ret;refine⟨_,rfl,?_,fun k hk=>by have:=HBj.out k hk;have:=aV.out.size;have:=HOW.out.size;omega,aV.out.same (HOW.out.same GK.out)⟩;have:=HV.out;rw[<-HFF.out,<-aB.out,E5]at this;rw[<-HFF.out,<-aB.out,E5];exact this
end
end Go.Proofs.YtdmmebjjojimiaaGreatDoor
namespace Go.Proofs
theorem zEM{p:Prop}(h:p:=by
 have h1:(0:Int)<=(k:Int)/\(k:Int)<=(cap:Int):=⟨by omega,by omega⟩
 cases ao with
 |none=>simp[Instr.slice,Instr.sliceBounds,Instr.sliceBound,run_underlying ht,sizeOf,typeInfo,hi,hs,asIntOf,Addr.add,hk,h1]
 |some a=>simp[Instr.slice,Instr.sliceBounds,Instr.sliceBound,run_underlying ht,sizeOf,typeInfo,hi,hs,asIntOf,Addr.add,hk,h1]):p:=h
end Go.Proofs
namespace Go.Proofs.YtdmmebjjojimiaaGreatDoor
open Go.RowKit
section
variable {w w':World} {B:Nat}
theorem Bc{P:Program}{t e:TypeId}{i:TypeInfo}(ht:P.underlying t=some (.slice e))(hi:P.info? e=some i)(hs:i.size=1)(ao:Option Addr)(m k cap:Nat)(hk:k<=cap)(W:World):(Instr.slice t (.slice ao m cap) none (some (.int .i64 (k:Int))) none).run P W= .ok (.slice ao k cap) W:=by exact zEM
def Fa(ao:Option Addr)(k cap:Nat):Option Addr:=ao.map fun a=>if cap=k then a else a.add k
theorem WR{ao:Option Addr}{k cap:Nat}(h:(if cap=k then ao else Option.map (fun x=>x.add k) ao)=none):ao=none:=by
 cases ao with
 |none=>rfl
 |some a=>split at h<;>simp at h
theorem D7{P:Program}{t e:TypeId}{i:TypeInfo}(ht:P.underlying t=some (.slice e))(hi:P.info? e=some i)(hs:i.size=1)(ao:Option Addr)(m k cap:Nat)(hk:k<=m)(hm:m<=cap)(W:World):(Instr.slice t (.slice ao m cap) (some (.int .i64 (k:Int))) none none).run P W= .ok (.slice (Fa ao k cap) (m-k) (cap-k)) W:=by
 have h1:(0:Int)<=(k:Int)/\(k:Int)<=(m:Int):=⟨by omega,by omega⟩;cases ao with
 |none=>simp[Fa,Instr.slice,Instr.sliceBounds,Instr.sliceBound,run_underlying ht,sizeOf,typeInfo,hi,hs,asIntOf,Addr.add,hk,h1]
 |some a=>
  simp[Fa,Instr.slice,Instr.sliceBounds,Instr.sliceBound,run_underlying ht,sizeOf,typeInfo,hi,hs,asIntOf,Addr.add,hk,h1];by_cases hc:cap=k;·simp[hc]
  simp[hc]
theorem wH{ao:Option Addr}{n cap:Nat}{l:List Str}(h:aS 1 bU B w (.slice ao n cap) l):(∀ad,ao=some ad->∀j u,(bZ l)[j]? =some u->w.cell? (ad.add j)=some u)/\(ao=none->n=0/\cap=0)/\l.length=n/\n<=cap:=by
 obtain⟨a2,c2,e,h1,h2⟩:=h.shape;simp only[qU]at e;obtain⟨rfl,rfl,rfl⟩:=e;refine⟨fun ad had j u hu=>?_,fun e=>h.nil _ _ (by rw[e]),rfl,h1⟩;have hj:j<l.length:=by have:=(qJ.1 hu).1;simpa[bZ]using this
 obtain⟨b,off,he,hb,hB,hc⟩:=h.cells _ _ _ rfl zAA;rw[had]at he;obtain rfl:=Option.some.inj he;obtain⟨cs,hl,hr,hC⟩:=hc j hj;obtain⟨rfl,-⟩:=hC;have h0:=hr 0 _ rfl;rw[yH,qF]at h0;rw[Go.WideShapes.add_plain,h0,<-hu];simp[bZ,hj]
theorem I7{ao:Option Addr}{n cap:Nat}{l:List Str}(h:aS 1 bU B w (.slice ao n cap) l)(k:Nat):∀ad,ao=some ad->∀j u,(bZ (l.take k))[j]? =some u->w.cell? (ad.add j)=some u:=fun ad had j u hu=>
 (wH h).1 ad had j u (by
  unfold bZ at hu⊢
  rw[List.map_take,List.getElem?_take]at hu
  split at hu
  ·exact hu
  ·cases hu)
theorem Ol{ao:Option Addr}{n cap:Nat}{l:List Str}(h:aS 1 bU B w (.slice ao n cap) l){k:Nat}:∀ad,Fa ao k cap=some ad->∀j u,(bZ (l.drop k))[j]? =some u->w.cell? (ad.add j)=some u:=fun ad had j u hu=>by
 obtain⟨h1,h2,h3,h4⟩:=wH h
 have hj:j<l.length-k:=by
  have:=(qJ.1 hu).1
  simpa[bZ]using this
 obtain⟨b,off,he,-,-,-⟩:=h.cells _ _ _ rfl zAA
 subst he
 unfold Fa at had
 simp only[Option.map_some,qG]at had
 rw[if_neg zAA]at had
 subst had
 have hu2:(bZ l)[k+j]? =some u:=by
  unfold bZ at hu⊢
  rw[List.map_drop,List.getElem?_drop]at hu
  exact hu
 have:=h1 _ rfl (k+j) u hu2
 rw[Go.WideShapes.add_plain]at this
 rw[Go.WideShapes.add_plain,Go.WideShapes.add_plain,Nat.add_assoc]
 exact this
theorem ints_at{ao:Option Addr}{n cap:Nat}{xs:List Int}(h:Ints w (.slice ao n cap) xs){i:Nat}{z:Int}(hz:xs[i]? =some z):∃bl ol,ao=some ⟨bl,ol,none⟩/\Hid (∀W,O0 w W->W.cell? ⟨bl,ol+i,none⟩=some (.int .i64 z)):=by have hi:=(qJ.1 hz).1;obtain⟨b,off,he,-,hc⟩:=h.cells _ _ _ rfl zAA;refine⟨b,off,he,fun W ho=>?_⟩;have h0:=hc i hi;rw[qC,hz]at h0;exact eH h0 ho (fun f=>f)
end
end Go.Proofs.YtdmmebjjojimiaaGreatDoor
namespace Go.Proofs
theorem zCG{p:Prop}(h:p:=by rw[List.length_take];omega):p:=h
end Go.Proofs
namespace Go.Proofs.YtdmmebjjojimiaaGreatDoor
open Go.RowKit
noncomputable def aQ.sees (x:aQ) (q:dD):List Str:=(q.names++(x.closure q.names).flatMap fun p=>(x.pack p).deps.map fun d=>d.on.name).filter x.nZ
noncomputable def aQ.names (x:aQ) (q:dD):List Str:=gX (oJ (x.sees q))
section
variable {w w':World} {B:Nat}
theorem J8{cs:List Value}{x:aQ}(h:fO B w cs x)(hlen:x.packs.length<=1000000)(s:Str):Calls Tryz.prog 156 #[.agg cs.toArray,.string s] w fun e w'=>e= .returned (.bool (x.nZ s))/\O0 w w':=by
 have HH:=zh h;obtain⟨v1,v2,rfl,h1,h2⟩:=h;obtain⟨ao,cap,rfl,-,-⟩:=h1.shape;obtain⟨Rl,cap2,rfl,-,-⟩:=h2.shape;unfold aQ.nZ;obtain⟨f,hf⟩:=ze (x.find s);have HF:=zh (rX (fO.keep HH.out (Kp.dV ((Only.refl (fun _=>False) w).alloc (.cells #[.slice ao x.packs.length cap,.slice Rl x.fV.length cap2] 25)))) s);have ZX:=fun W hO=>zh (AU (w:=W) (fO.keep HH.out (Kp.dV hO)) hlen s);rw[hf]at HF;rw[hf];clear hf h1 h2;obtain⟨np,hnp⟩:=ze ((x.oH s).length);rw[hnp]at ZX⊢;clear hnp;by_cases hf0:f<0
 ·obtain⟨bz,hbz⟩:∃z,decide (0<np)=z:=⟨_,rfl⟩;have e1:(decide (f<0)&&decide (0<np))=bz:=by rw[qX hf0,hbz];rfl
  rw[e1];have HZ:Hid (decide ((np:Int)>0)=bz):=by rw[Hid,<-hbz];exact decide_eq_decide.2 zAA
  clear e1 hbz;go_enter Tryz.func156,Tryz.ntmps156;go_wp2_with fail;refine HF.out.mono ?_;rintro e w1 ⟨rfl,O1⟩;have aI:=zh (((Only.refl (fun _=>False) w).alloc _).same O1);have hw1:=O1.size;simp only[World.size_alloc]at hw1;have hcell:w1.cell? ⟨w.heap.size,0,none⟩=some (.slice ao x.packs.length cap)/\w1.cell? ⟨w.heap.size,1,none⟩=some (.slice Rl x.fV.length cap2):=by
   constructor;·exact zEB
   exact zEB
  obtain⟨hc1,hc2⟩:=hcell;have ac8:=ZX w1 aI.out;clear O1 ZX HF;go_wp2_with fail;refine ac8.out.mono ?_;rintro e w2 ⟨v,rfl,r1,r2,r3⟩;have eF:=zh (aI.out.same r3);obtain⟨av,cv,rfl,-,-⟩:=bg r1;have hz:=HZ.out;clear r1 r2 r3 ac8 aI;go_wp2_with fail;go_ret;refine⟨?_,eF.out⟩;first|rfl| (rw[<-HZ.out];first|rfl|simp)
 have e1:(decide (f<0)&&decide (0<np))=false:=by rw[qP hf0];rfl
 rw[e1];clear e1;go_enter Tryz.func156,Tryz.ntmps156;go_wp2_with fail;refine HF.out.mono ?_;rintro e w1 ⟨rfl,O1⟩;have aI:=zh (((Only.refl (fun _=>False) w).alloc _).same O1);clear O1 HF;exact zEi
def NmV(W0:World)(bo:Nat)(v:Value)(l:List Str)(W:World):Prop:=
 W.heap[bo]? =some (.cells #[v] 81 (0,0))/\W.ownsRow 0 9 1 v l.length (bZ l)/\(∀k,v.ownBlock=some k->W0.heap.size<=k)/\bo<W0.heap.size/\Only (fun k=>k=bo) W0 W
theorem WS{W0:World}{bx bo:Nat}{l:List Str}{ao Rl:Option Addr}{n1 cap n2 cap2:Nat}{x:aQ}(h:fO B w [.slice ao n1 cap,.slice Rl n2 cap2] x)(hlen:x.packs.length<=1000000)(hbx:w.cell? ⟨bx,0,none⟩=some (.slice ao n1 cap)/\w.cell? ⟨bx,1,none⟩=some (.slice Rl n2 cap2)){v:Value}(H:NmV W0 bo v l w)(hl:l.length<=100000)(s:Str):Calls Tryz.prog 155 #[.string s,.pointer (some ⟨bx,0,none⟩),.pointer (some ⟨bo,0,none⟩)] w fun e w'=>e= .returned (.tuple #[])/\∃v',NmV W0 bo v' (l++if x.nZ s=true then [s]else []) w'/\Only (fun k=>k=bo\/v.ownBlock=some k) w w'/\∀k,v'.ownBlock=some k->v.ownBlock=some k\/w.heap.size<=k:=by
 have HV:=zh (J8 h hlen s);obtain⟨hv,hr,hb,UG,ho⟩:=H;obtain⟨h0,h1⟩:=hbx;have HC:=zh (And.intro hv (And.intro hr (And.intro hb (And.intro UG ho))));clear h hv hr hb UG ho;generalize hz:x.nZ s=z at*;clear hz;cases z with
 |false=>
  go_enter Tryz.func155,Tryz.ntmps155;go_wp2_with fail;refine HV.out.mono ?_;rintro e w1 ⟨rfl,O1⟩;have aI:=zh O1;clear O1 HV;go_wp2_with fail;go_end0;obtain⟨hv,hr,hb,UG,ho⟩:=HC.out;have h2:l++(if false=true then [s]else [])=l:=zAP;try rw[h2]
  exact⟨rfl,v,⟨aA hv aI.out (fun f=>f),aW hr aI.out (fun _ _ f=>f),hb,UG,ho.same (aI.out.mono fun _ f=>f.elim)⟩,aI.out.mono fun _ f=>f.elim,fun k hk=>.inl hk⟩
 |true=>
  go_enter Tryz.func155,Tryz.ntmps155;go_wp2_with fail;refine HV.out.mono ?_;rintro e w1 ⟨rfl,O1⟩;obtain⟨hv,hr,hb,UG,ho⟩:=HC.out;have hv1:=aA hv O1 (fun f=>f);have hr1:=aW hr O1 (fun _ _ f=>f);have ho1:=ho.same (O1.mono fun _ f=>f.elim);have hc1:w1.cell? ⟨bo,0,none⟩=some v:=by rw[aj hv1];rfl
  have aI:=zh O1;have HW1:=zh (And.intro hv1 (And.intro hr1 (And.intro hb (And.intro UG ho1))));obtain⟨nl,hnl⟩:=ze l.length;have Ak:=zh hnl;rw[hnl]at hl;have HR1:Hid (w1.ownsRow 0 9 1 v nl (bZ l)):=by rw[<-hnl];exact zh hr1
  have ash:bo<w1.heap.size:=(yA.1 hv1).1;clear O1 HV hv hr hb UG ho hv1 hr1 ho1 HC hnl h0 h1;go_wp2_with (at_builtin;go_must (refine Ai (u:=.string s) iU rfl (.tmp 7) (.tmp 9) rfl rfl rfl (cell_new0 _ _ _) rfl (aW HR1.out ((Only.refl (fun _=>False) _).alloc _) (fun _ _ f=>f)) zAA zHZ ?_));intro v' w2 r2 o2 a2;obtain⟨hv1,hr1,hb,UG,ho1⟩:=HW1.out;have agP:v.ownBlock≠some bo:=fun e=>by have:=hb bo e;omega
  have hv2:w2.heap[bo]? =some (.cells #[v] 81 (0,0)):=by rw[o2.block bo zBL agP];exact dF hv1 _
  obtain⟨g,cap',rfl,hg1,hg2,hg3⟩:=a2;have hc2:w2.cell? ⟨bo,0,none⟩=some v:=by rw[aj hv2];rfl
  have hf2:w2.frozen? ⟨bo,0,none⟩=false:=by simp[World.frozen?,hv2]
  have hg:W0.heap.size<=g:=by
   rcases hg3 with e|e;·exact hb g e
   have:=ho1.size;simp at e;omega
  have hgb:g≠bo:=zAA;have oo:Only (fun k=>k=bo\/v.ownBlock=some k) w1 w2:=((Only.refl (fun k=>k=bo\/v.ownBlock=some k) w1).alloc _).same (o2.mono fun k hk=>.inr hk);have hgn:v.ownBlock=some g\/w1.heap.size<=g:=by
   rcases hg3 with e|e;·exact .inl e
   right;simp at e;omega
  have HW2:=zh (And.intro hv2 (And.intro r2 (And.intro oo (And.intro ho1 (And.intro UG (And.intro hg (And.intro hb hgn)))))));clear hv1 hr1 hb UG ho1 agP hv2 r2 o2 hg1 hg2 hg3 oo hg hgn HW1 hc1 HR1;go_wp2_with fail;go_end0;obtain⟨hv2,r2,oo,ho1,UG,hg,hb,hgn⟩:=HW2.out;have o3:Only (fun k=>k=bo\/v.ownBlock=some k) w1 (w2.setCell ⟨bo,0,none⟩ (.slice (some ⟨g,0,none⟩) (nl+1) cap')):=oo.setCell (p:=⟨bo,0,none⟩) (.inl (.inl rfl)) _;refine⟨rfl,.slice (some ⟨g,0,none⟩) (nl+1) cap',⟨heap_setCell_box_a _ hv2,?_,fun k hk=>?_,UG,?_⟩,(aI.out.mono fun _ f=>f.elim).same o3,fun k hk=>?_⟩
  ·have h2:l++(if true=true then [s]else [])=l++[s]:=by simp
   try rw[h2]
   rw[qK,Ak.out];have e3:bZ (l++[s])=bZ l++[.string s]:=by simp[bZ]
   rw[e3];exact aW r2 ((Only.refl (fun k=>k=bo) w2).setCell (p:=⟨bo,0,none⟩) (.inl rfl) _) (fun k hk e=>by cases hk;exact hgb e)
  ·cases hk;exact hg
  ·exact ho1.trans o3 fun k hk=>hk.imp id (hb k)
  cases hk;exact hgn.imp id (fun h=>qR aI.out.size h)
theorem NmV.dK{W0 W W':World}{bo:Nat}{v:Value}{l:List Str}(H:NmV W0 bo v l W)(o:O0 W W'):NmV W0 bo v l W':=by obtain⟨hv,hr,hb,UG,ho⟩:=H;exact⟨aA hv o (fun f=>f),aW hr o (fun _ _ f=>f),hb,UG,ho.same (o.mono fun _ f=>f.elim)⟩
theorem J9{α β:Type}{M:Nat}{f:α->List β}:∀{l:List α},(∀y∈l,(f y).length<=M)->(l.flatMap f).length<=M*l.length
 | [],_=>by simp
 |a::r,h=>by
  have h1:=J9 (l:=r) fun y hy=>h y (yE _ hy)
  have h2:=h a qQ
  rw[List.flatMap_cons,qK,qN,Nat.mul_add]
  omega
theorem I8(x:aQ)(l:List Str)(s:Str):l.filter x.nZ++(if x.nZ s=true then [s]else [])=(l++[s]).filter x.nZ:=by rw[List.filter_append];congr 1;cases h:x.nZ s<;>simp[h]
theorem agQ{cs cq:List Value}{x:aQ}{q:dD}(h:fO B w cs x)(hq:mg B w cq q)(hs:wR x)(hl:q.roots.length<=1000):Calls Tryz.prog 77 #[.agg cs.toArray,.agg cq.toArray] w fun e w'=> ∃v,e= .returned v/\w'.ownsRow 0 9 1 v (x.names q).length (bZ (x.names q))/\(∀k,v.ownBlock=some k->w.heap.size<=k)/\O0 w w':=by
 have HH:=zh h;have HQ:=zh hq;have HS:=zh hs;obtain⟨v1,v2,rfl,h1,h2⟩:=h;obtain⟨ao,cap,rfl,-,-⟩:=h1.shape;obtain⟨Rl,cap2,rfl,-,-⟩:=h2.shape;obtain⟨v3,rfl,h3⟩:=hq;obtain⟨ao3,cap3,rfl,g3,g3'⟩:=h3.shape;obtain⟨n1,hn1⟩:=ze x.packs.length;obtain⟨n2,hn2⟩:=ze x.fV.length;obtain⟨n3,hn3⟩:=ze q.roots.length;rw[hn1,hn2]at HH;rw[hn1]at h1;rw[hn3]at h3 HQ g3 hl;rw[hn1,hn2,hn3];have R1:=zh h1;have R3:=zh h3;have N1:=zh hn1;have N3:=zh hn3;obtain⟨bo,UG⟩:=ze (w.heap.size+2);obtain⟨W0,hW0⟩:=zB (((w.alloc (.cells #[.slice ao n1 cap,.slice Rl n2 cap2] 25)).alloc (.cells #[.slice ao3 n3 cap3] 28)).alloc (.cells #[Qn] 81));have aV:Hid (O0 w W0):=by rw[hW0];exact((zr.alloc _).alloc _).alloc _
 have jK:Hid (W0.heap.size=w.heap.size+3):=by rw[hW0];simp[Hid]
 have qp:Hid (∀W,Only (fun k=>k=bo) W0 W->O0 w W):=fun W o=>aV.out.trans o fun k hk=>.inr zAA;have aF:Hid (∀W,Only (fun k=>k=bo) W0 W->W.cell? ⟨w.heap.size,0,none⟩=some (.slice ao n1 cap)/\W.cell? ⟨w.heap.size,1,none⟩=some (.slice Rl n2 cap2)/\W.cell? ⟨w.heap.size+1,0,none⟩=some (.slice ao3 n3 cap3)):=fun W ho=>by
  have b0:W0.heap[w.heap.size]? =some (.cells #[.slice ao n1 cap,.slice Rl n2 cap2] 25):=by rw[hW0];exact dF (dF (alloc_at rfl) _) _
  have d0:=aA b0 ho zAA;have b1:W0.heap[w.heap.size+1]? =some (.cells #[.slice ao3 n3 cap3] 28):=by rw[hW0];exact dF (alloc_at zAP) _
  have d1:=aA b1 ho zAA;exact⟨by rw[aj d0];rfl,by rw[aj d0];rfl,by rw[aj d1];rfl⟩
 have alj:Hid (NmV W0 bo Qn [] W0):=⟨by rw[hW0,<-UG];exact alloc_at zAP,World.ownsRow_nil _ _ _ _,fun k hk=>(by cases hk),by have:=jK.out;omega,Only.refl _ _⟩;obtain⟨k0,k1,k2⟩:=aF.out W0 zr;rw[hW0]at k0 k1 k2;clear h1 h2 h3 hn1 hn2 hn3 hs;go_enter Tryz.func77,Tryz.ntmps77;go_wp2_with fail;rw[<-hW0]at k0 k1 k2⊢;clear hW0 k0 k1 k2 UG;go_loopw [17] (fun vi wr=> ∃(i:Nat) (v:Value),vi= .int .i64 i/\i<=n3/\Hid (NmV W0 bo v ((q.names.take i).filter x.nZ) wr)) (fun v _=>n3-(RowKit.intOf v).toNat);case atStart=>exact⟨0,Qn,rfl,qE _,alj⟩
 case round=>
  clear alj;obtain⟨i,v,rfl,hi,HV⟩:=hrel;have hO:=HV.out.2.2.2.2;obtain⟨k0,k1,k2⟩:=aF.out wr hO;have HR1:=zh (fO.keep HH.out (Kp.dV (qp.out wr hO)));by_cases ci:i<n3
  ·have h2:=R3.out;rw[<-N3.out]at h2;obtain⟨b,off,he,-,-⟩:=h2.at (by have:=N3.out;omega);subst he;obtain⟨y,hx⟩:=zG q.roots i (by rw[N3.out];exact ci);obtain⟨cs,hl2,hr,hC⟩:=(h2.keep mM.keep (Kp.dV (qp.out wr hO))).get hx;have iE:=zw (i+1);obtain⟨c1,rfl,hS,-⟩:=hC;obtain⟨p1,p2,d1,d2,rfl,-,-,-⟩:=hS.cells;have HR:=zh hr;have HSn:Hid (q.names.take (i+1)=q.names.take i++[y.spec.name]):=zC (fun r:tN=>r.spec.name) hx;have HLe:Hid (((q.names.take i).filter x.nZ).length<=100000):=by have h1:=yO x.nZ (q.names.take i);have h2:(q.names.take i).length<=i:=zCG;show _<=_;omega
   have X8:Hid (∀o,Calls Tryz.prog 155 #[.string y.spec.name,.pointer (some ⟨w.heap.size,0,none⟩),.pointer (some ⟨bo,0,none⟩)] (wr.alloc o) fun e w'=>e= .returned (.tuple #[])/\∃v',NmV W0 bo v' ((q.names.take (i+1)).filter x.nZ) w'):=fun o=>by have oo:=(Only.refl (fun _=>False) wr).alloc o;rw[HSn.out,<-I8];exact(WS (fO.keep HR1.out (Kp.dV oo)) zCb ⟨eH k0 oo (fun f=>f),eH k1 oo (fun f=>f)⟩ (HV.out.dK oo) HLe.out y.spec.name).mono fun e w' ⟨he,v',h,_⟩=>⟨he,v',h⟩
   clear hr hx h2 hl2 hS hO HV HR1;go_wp2_with (first| (refine wpList_load_mid rfl 110 (.tmp 19) rfl b (off+i*4) rfl _ _ HR.out Tryz.underlying110 rfl zk ?_)|fail);refine(X8.out _).mono ?_;rintro e w2 ⟨rfl,v',hv'⟩;have uN:=zh hv';clear hv' X8;go_wp2_with fail;go_roundw;case rel=>exact⟨i+1,v',by first|rfl|go_num,by omega,uN⟩
   case measure=>simp[RowKit.intOf]<;>omega
  obtain rfl:n3=i:=by omega
  have hnl:q.names.length=n3:=by unfold dD.names;rw[qM,N3.out]
  rw[qI (yG hnl)]at HV;have HCl:=zh (VP HR1.out (mg.keep HQ.out (Kp.dV (qp.out wr hO))) HS.out (by have:=N3.out;omega));clear hO HR1 ci hi hnl;go_wp2_with fail;refine HCl.out.mono ?_;rintro e w1 ⟨vc,rfl,rc,bc,oc⟩;obtain⟨nc,hnc⟩:=ze ((x.closure q.names).length);rw[hnc]at rc;have HNc:=zh hnc;have aqv:nc<=1000:=by rw[<-hnc];have:=x.Ap q.names;have:=HS.out.packs;omega
  obtain⟨ac,cc,rfl,-,-⟩:=bg rc;have HRc:=zh rc;have GU:=zh (HV.out.dK oc);have HB1:Hid (∀k,v.ownBlock=some k->(Value.slice ac nc cc).ownBlock≠some k):=fun k hk h=>by have h1:=bc k h;have h2:=pq HV.out.2.1 hk;omega
  have HBc:Hid (∀k,(Value.slice ac nc cc).ownBlock=some k->k≠bo):=fun k hk e=>by have h1:=bc k hk;have h2:=(yA.1 HV.out.1).1;omega
  clear HCl rc bc oc hnc k0 k1 k2 HV;go_wp2_with fail;go_loopw [31] (fun vj wr=> ∃(j:Nat) (v:Value),vj= .int .i64 j/\j<=nc/\Hid (NmV W0 bo v ((q.names++((x.closure q.names).take j).flatMap fun p=>(x.pack p).deps.map fun d=>d.on.name).filter x.nZ) wr)/\Hid (wr.ownsRow 0 3 1 (.slice ac nc cc) nc (eP (x.closure q.names)))/\Hid (∀k,v.ownBlock=some k->(Value.slice ac nc cc).ownBlock≠some k)) (fun v _=>nc-(RowKit.intOf v).toNat);case atStart=>exact⟨0,v,rfl,qE _,by simpa using GU,HRc,HB1⟩
  case round=>
   clear GU HRc HB1;obtain⟨j,v,rfl,hj,HV,HR,HB⟩:=hrel;have hO:=HV.out.2.2.2.2;obtain⟨k0,k1,k2⟩:=aF.out wr hO;by_cases cj:j<nc
   ·obtain⟨kT,aiC,he,-,-⟩:=gQ HR.out zAA;simp only[qU]at he;obtain⟨rfl,-,rfl⟩:=he;obtain⟨t,htt⟩:=zG (x.closure q.names) j (by rw[HNc.out];exact cj);have hcell:wr.cell? ⟨kT,j,none⟩=some (.int .i64 (t:Int)):=by rw[HR.out.cellAt j zAA];simp[eP,htt]
    have ewj:=zw (j+1);have htn:t<n1:=by have:=(aQ.tX.1 (qT htt)).lt;rw[N1.out]at this;exact this
    have ak1:n1<=30:=by rw[<-N1.out];exact HS.out.packs
    have hpx:x.packs[t]? =some (x.pack t):=by unfold aQ.pack;rw[qC,qA (by rw[N1.out];exact htn)];rfl
    have hsn:((x.closure q.names).take (j+1)).flatMap (fun p=>(x.pack p).deps.map fun d=>d.on.name)=(((x.closure q.names).take j).flatMap fun p=>(x.pack p).deps.map fun d=>d.on.name)++(x.pack t).deps.map fun d=>d.on.name:=by rw[List.take_add_one,htt];simp
    have h2:=R1.out;rw[<-N1.out]at h2;obtain⟨b,off,he,-,-⟩:=h2.at zB9;subst he;obtain⟨LY,-,hrp,hCp⟩:=h2.get hpx;obtain⟨p,hp⟩:=ze (x.pack t);have VQ:p∈x.packs:=by rw[<-hp];exact qT hpx
    rw[hp]at hCp hsn;obtain⟨q1,q2,q3,q4,q5,q6,z1,z2,z3,z4,z5,z6,rfl,-,-,-,-,-,b4,-,-⟩:=hCp.cells;have hcd:=wK hrp (qp.out wr hO) 5 _ rfl;have hdl:=(HS.out.all p VQ).deps;obtain⟨nd,hnd⟩:=ze p.deps.length;rw[hnd]at hcd b4 hdl;have BJ:=zh hnd;obtain⟨_,_,e4,g4,g4'⟩:=b4.shape;simp only[qU]at e4;obtain⟨-,-,rfl⟩:=e4;rw[hnd]at g4;have HD:Hid (∀W,Only (fun k=>k=bo) W0 W->aS 7 wz B W (.slice q4 nd z4) p.deps):=fun W hW=>b4.keep wz.keep (Kp.dV (qp.out W hW));obtain⟨A,hA⟩:∃A,q.names++(((x.closure q.names).take j).flatMap fun p=>(x.pack p).deps.map fun d=>d.on.name)=A:=⟨_,rfl⟩;have HSn:Hid (q.names++((x.closure q.names).take (j+1)).flatMap (fun p=>(x.pack p).deps.map fun d=>d.on.name)=A++p.deps.map fun d=>d.on.name):=by rw[Hid,hsn,<-hA,yW]
    have hAl:A.length<=10000:=by
     rw[<-hA,qK];have h1:q.names.length<=1000:=by unfold dD.names;rw[qM,N3.out];exact hl
     have h3:=J9 (M:=40) (f:=fun p=>(x.pack p).deps.map fun d=>d.on.name) (l:=(x.closure q.names).take j) (fun y hy=>by
      rw[qM]
      have hy2:=(aQ.tX.1 (List.mem_of_mem_take hy)).lt
      exact(HS.out.all _ (aQ.VR hy2)).deps)
     have h4:((x.closure q.names).take j).length<=30:=by have h5:=x.Ap q.names;have h6:=HS.out.packs;rw[List.length_take];omega
     have h5:40*((x.closure q.names).take j).length<=40*30:=Nat.mul_le_mul_left _ h4;omega
    have HV0:Hid (NmV W0 bo v ((A++(p.deps.map fun d=>d.on.name).take 0).filter x.nZ) wr):=by rw[List.take_zero,List.append_nil,<-hA];exact HV
    clear htt hpx hsn hp hCp hrp b4 VQ h2 HV hO hnd hA;go_wp2_with fail;generalize wr=wm at*;go_loopw [42] (fun vl wr=> ∃(l:Nat) (v:Value),vl= .int .i64 l/\l<=nd/\Hid (NmV W0 bo v ((A++(p.deps.map fun d=>d.on.name).take l).filter x.nZ) wr)/\Hid (wr.ownsRow 0 3 1 (.slice (some ⟨kT,0,none⟩) nc cc) nc (eP (x.closure q.names)))/\Hid (∀k,v.ownBlock=some k->(Value.slice (some ⟨kT,0,none⟩) nc cc).ownBlock≠some k)) (fun v _=>nd-(RowKit.intOf v).toNat);case atStart=>exact⟨0,v,rfl,qE _,HV0,HR,HB⟩
    case round=>
     clear HV0 HR HB k0 k1 k2 hcell hcd;obtain⟨l,v,rfl,hl2,HV,HR,HB⟩:=hrel;have hO:=HV.out.2.2.2.2;obtain⟨k0,k1,k2⟩:=aF.out wr hO;by_cases cl:l<nd
     ·have hd2:=HD.out wr hO;rw[<-BJ.out]at hd2;obtain⟨b',off',he',-,-⟩:=hd2.at (by have:=BJ.out;omega);subst he';obtain⟨d,hdd⟩:=zG p.deps l (by rw[BJ.out];exact cl);obtain⟨cs7,-,hr7,hC7⟩:=hd2.get hdd;obtain⟨c1,c2,rfl,hS1,hS2,-⟩:=hC7;obtain⟨p1,p2,d1,d2,rfl,-,-,-⟩:=hS1.cells;obtain⟨p3,p4,d3,d4,rfl,-,-,-⟩:=hS2.cells;have HR7:=zh (show wr.rangeAt b' (off'+l*7) [.string d.on.name,.slice p1 d.on.spans.length d1,.slice p2 d.on.sets.length d2,.string d.cond.name,.slice p3 d.cond.spans.length d3,.slice p4 d.cond.sets.length d4,.int .i64 d.line] from hr7);have ewl:=zw (l+1);have alk:(p.deps.map fun d=>d.on.name).take (l+1)=(p.deps.map fun d=>d.on.name).take l++[d.on.name]:=zC (fun d:Aj=>d.on.name) hdd;have hle:((A++(p.deps.map fun d=>d.on.name).take l).filter x.nZ).length<=100000:=by have h1:=yO x.nZ (A++(p.deps.map fun d=>d.on.name).take l);have h2:((p.deps.map fun d=>d.on.name).take l).length<=l:=zCG;rw[qK]at h1;omega
      have HRx:=zh (fO.keep HH.out (Kp.dV (qp.out wr hO)));have X8:Hid (∀o,Calls Tryz.prog 155 #[.string d.on.name,.pointer (some ⟨w.heap.size,0,none⟩),.pointer (some ⟨bo,0,none⟩)] (wr.alloc o) fun e w'=>e= .returned (.tuple #[])/\∃v',NmV W0 bo v' ((A++(p.deps.map fun d=>d.on.name).take (l+1)).filter x.nZ) w'/\w'.ownsRow 0 3 1 (.slice (some ⟨kT,0,none⟩) nc cc) nc (eP (x.closure q.names))/\∀k,v'.ownBlock=some k->(Value.slice (some ⟨kT,0,none⟩) nc cc).ownBlock≠some k):=fun o=>by
       have oo:=(Only.refl (fun _=>False) wr).alloc o;rw[alk,<-yW,<-I8];refine(WS (fO.keep HRx.out (Kp.dV oo)) zCb ⟨eH k0 oo (fun f=>f),eH k1 oo (fun f=>f)⟩ (HV.out.dK oo) hle d.on.name).mono fun e w' ⟨he,v',h,o2,h3⟩=>⟨he,v',h,aW (aW HR.out oo (fun _ _ f=>f)) o2 (fun k hk e=>?_),fun k hk e=>?_⟩
       ·rcases e with e|e;·exact HBc.out k hk e
        exact HB.out k e hk
       rcases h3 k hk with h4|h4;·exact HB.out k h4 e
       have h5:=pq HR.out e;have h6:=oo.size;omega
      clear hd2 hdd hr7 hS1 hS2 alk hle HRx HV HR HB hO;go_wp2_with (first| (refine wpList_load_mid rfl 132 (.tmp 44) rfl b' (off'+l*7) rfl _ _ HR7.out Tryz.underlying132 rfl zk ?_)|fail);refine(X8.out _).mono ?_;rintro e w3 ⟨rfl,v',hv',hr',hb'⟩;have VD:=zh hv';have HR3:=zh hr';have HB3:=zh hb';clear hv' hr' hb' X8;go_wp2_with fail;go_roundw;case rel=>exact⟨l+1,v',by first|rfl|go_num,by omega,VD,HR3,HB3⟩
      case measure=>simp[RowKit.intOf]<;>omega
     obtain rfl:nd=l:=by omega
     have VD:=HV;rw[qI (by rw[qM,BJ.out];exact qH _),<-HSn.out]at VD;clear HV hO;go_wp2_with fail;go_roundw;case rel=>exact⟨j+1,v,by first|rfl|go_num,by omega,VD,HR,HB⟩
     case measure=>simp[RowKit.intOf]<;>omega
   obtain rfl:nc=j:=by omega
   rw[qI (yG HNc.out)]at HV;obtain⟨l,hl0⟩:∃l,(q.names++(x.closure q.names).flatMap fun p=>(x.pack p).deps.map fun d=>d.on.name).filter x.nZ=l:=⟨_,rfl⟩;rw[hl0]at HV;have HL:Hid (x.sees q=l):=hl0;obtain⟨hv,hr,hb,UG,ho⟩:=HV.out;obtain⟨av,cv,rfl,-,-⟩:=bg hr;obtain⟨nl,hnl⟩:=ze l.length;rw[hnl]at hr hv hb;have hc0:wr.cell? ⟨bo,0,none⟩=some (.slice av nl cv):=by rw[aj hv];rfl
   have an5:nl<=1000000:=by
    rw[<-hnl,<-hl0];refine qR (yO _ _) ?_;rw[qK];have h1:q.names.length<=1000:=by unfold dD.names;rw[qM,N3.out];exact hl
    have h3:=J9 (M:=40) (f:=fun p=>(x.pack p).deps.map fun d=>d.on.name) (l:=x.closure q.names) (fun y hy=>by
     rw[qM]
     exact(HS.out.all _ (aQ.VR (aQ.tX.1 hy).lt)).deps)
    rw[HNc.out]at h3;omega
   have Ij:=zh (Uu hnl hr an5);have HB2:=zh hb;have HOo:=zh ho;have hvb:(Value.slice av nl cv).ownBlock≠some bo:=fun e=>by have:=hb bo e;omega
   have HVB:=zh hvb;have HV5:=zh hv;have Ak:=zh hnl;clear hv hr hb UG ho hl0 hnl HV hvb hO;go_wp2_with fail;refine Ij.out.mono ?_;rintro e w5 ⟨rfl,r5,o5⟩;have hv5:=aA HV5.out o5 HVB.out;have hc5:w5.cell? ⟨bo,0,none⟩=some (.slice av nl cv):=by rw[aj hv5];rfl
   have HCp:=zh (Hg (l:=oJ l) (by rw[RS];exact Ak.out) r5);have xK:=zh o5;clear r5 o5 hv5 Ij hc0 k0 k1 k2;go_wp2_with fail;refine HCp.out.mono ?_;rintro e w6 ⟨v6,rfl,r6,b6,o6⟩;have HF6:=zh (And.intro r6 (And.intro b6 o6));clear r6 b6 o6 HCp hc5;go_wp2_with fail;go_ret;obtain⟨r6,b6,o6⟩:=HF6.out;unfold aQ.names;rw[HL.out];have o56:Only (fun k=>(Value.slice av nl cv).ownBlock=some k) wr w6:=xK.out.same o6;refine⟨_,rfl,r6,fun k hk=>?_,?_⟩;·have hk2:v6.ownBlock=some k:=hk;rw[b6]at hk2;have h1:=HB2.out k hk2;have h2:=jK.out;omega
   exact(qp.out wr HOo.out).trans o56 fun k hk=>.inr (by
    have h1:=HB2.out k hk
    have h2:=jK.out
    omega)
end
end Go.Proofs.YtdmmebjjojimiaaGreatDoor
