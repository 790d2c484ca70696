/- Package graph, exact: needed, wrongNeeds. Printed by gen_gwd.py.; Package graph, exact: virtuals. Printed by gen_gwe.py. -/
import Derived.Test.YtdmmebjjojimiaaGreatDoorG34
set_option maxRecDepth 100000
set_option maxHeartbeats 8000000
set_option linter.all false
namespace Go.Proofs
theorem zBc{p:Prop}(h:p:=by(intro w hSw;obtain⟨p0,p1,p2,p3⟩:=oZ.out w (iP.out.same hSw);obtain⟨s0,s1,s2⟩:=EU.out w hSw;go_simp<;>(try with_reducible rfl))):p:=h
theorem zBh{p:Prop}(h:p:=by rw[N1.out];omega):p:=h
theorem zFI{p:Prop}(h:p:=by
 have h2:x.packs.length+1<=1001:=zBh
 exact qR (Nat.mul_le_mul h1 h2) zAH):p:=h
theorem zG2{p:Prop}(h:p:=by(try dsimp only)<;>(exact Only.same hHeld O4)):p:=h
end Go.Proofs
namespace Go.Proofs.YtdmmebjjojimiaaGreatDoor
open Go.RowKit
section
variable {w w':World} {B:Nat}
attribute [local irreducible] wpQuiet
structure Cj (Z:Nat) (w:World) (v:Value) (l:List Str):Prop where
 row:w.ownsRow 0 9 1 v l.length (bZ l)
 new:∀k,v.ownBlock=some k->Z<=k
 ok:∀s∈l,okS s
theorem Cj.nil{Z:Nat}:Cj Z w (.slice none 0 0) []:=⟨World.ownsRow_nil _ _ _ _,fun k hk=>(by cases hk),fun s h=>(by cases h)⟩
theorem Cj.only{Z:Nat}{v:Value}{l:List Str}(h:Cj Z w v l)(o:O0 w w'):Cj Z w' v l:=⟨aW h.row o (fun _ _ f=>f),h.new,h.ok⟩
theorem ZA(l:List Str)(s:Str):bZ (l++[s])=bZ l++[.string s]:=by simp[bZ]
def Yc(x:aQ)(g:List aC)(ps:List Nat):List Str:=(ps.map fun p=>(x.pack p).name).filter fun m=>decide (0<=jG g m)
theorem afp{x:aQ}{g:List aC}{ps:List Nat}{j p:Nat}(h:ps[j]? =some p){b:Bool}(hb:decide (0<=jG g (x.pack p).name)=b):Yc x g (ps.take (j+1))=Yc x g (ps.take j)++(if b=true then [(x.pack p).name]else []):=by
 unfold Yc;rw[List.take_add_one,h,List.map_append,List.filter_append];congr 1;cases b with
 |true=>rw[if_pos rfl];simp;simpa using hb
 |false=>rw[if_neg zAP];simp;simpa using hb
theorem aaJ(x:aQ)(g:List aC)(ps:List Nat):(Yc x g ps).length<=ps.length:=by unfold Yc;refine qR (yO _ _) ?_;rw[qM];exact qH _
def Bh(x:aQ)(g:List aC)(l:List iW):List Str:=l.flatMap fun s=>Yc x g (x.targets s.name)
theorem XD{x:aQ}{g:List aC}{l:List iW}{i:Nat}{s:iW}(h:l[i]? =some s):Bh x g (l.take (i+1))=Bh x g (l.take i)++Yc x g (x.targets s.name):=by unfold Bh;rw[List.take_add_one,h,List.flatMap_append];simp
theorem nX(x:aQ)(s:Str):(x.targets s).length<=x.packs.length+1:=by
 unfold aQ.targets;split;·simp
 unfold aQ.oH aQ.kE;refine qR (yO _ _) ?_;rw[List.length_range];omega
theorem Ig(x:aQ)(g:List aC):∀l:List iW,(Bh x g l).length<=l.length*(x.packs.length+1)
 | []=>by simp[Bh]
 |a::r=>by
  have h1:=Ig x g r
  have h2:=qR (aaJ x g (x.targets a.name)) (nX x a.name)
  unfold Bh at h1⊢
  rw[List.flatMap_cons,qK,qN,Nat.add_mul]
  omega
theorem QV{l:List Str}{s:Str}(h:s∈gX (oJ l)):s∈l:=by have h1:fZ s∈(gX (oJ l)).map fZ:=List.mem_map_of_mem h;rw[Fq,Lu,(List.mergeSort_perm _ _).mem_iff]at h1;obtain⟨t,ht,e⟩:=yD.1 h1;rw[<-Hl e];exact ht
theorem acv{bp:Nat}{x:aQ}{q:dD}{g:List aC}(hc:lH B w bp x q g){zQ:List Value}{n:aC}(hn:dH B w zQ n)(hf:0<=x.find n.name)(hdl:(bY x n).deps.length<=990)(hpl:x.packs.length<=1000)(hB:B<=w.heap.size)(hL:Laid w):Calls Tryz.prog 204 #[.pointer (some ⟨bp,0,none⟩),.agg zQ.toArray] w fun e w'=> ∃v,e= .returned v/\aS 1 bU w'.heap.size w' v (AL x g n)/\O0 w w':=by
 have hn0:=hn;obtain⟨v5,v6,rfl,-,-,r5,r6⟩:=hn;obtain⟨a5,c5,rfl,-,-⟩:=r5.shape;obtain⟨a6,c6,rfl,-,-⟩:=r6.shape;obtain⟨n5,h5⟩:=ze n.sets.length;obtain⟨n6,h6⟩:=ze n.needs.length;rw[h5]at r5 hn0⊢;rw[h6]at r6 hn0⊢;obtain⟨a1,n1,c1,a2,n2,c2,a3,n3,c3,a4,n4,c4,N1,-,-,-,-,-,Xu,HK0,-,HG0,HX0,-,-⟩:=hc.open;obtain⟨W0,hW0,aV,jK,aF⟩:=QN w (.string n.name) (.string n.version) (.slice a5 n5 c5) (.slice a6 n6 c6) 83;have HAc:=zh (KG (hc.only aV.out) (dH.keep hn0 (Kp.dV aV.out)) hf zAA (qR hB aV.out.size) (hL.only aV.out));rw[N1.out]at hpl;obtain⟨res,hrs⟩:=ze (AL x g n);rw[hrs];have HRs:=zh hrs;clear hrs;have hal:(mQ x n).length<=990:=by have h:=XB n (bY x n).deps;unfold mQ;unfold KF at h;omega
 have hW0':=hW0.symm;obtain⟨k0,k1,k2,k3⟩:=aF.out W0 zr;clear hn0 r5 r6 h5 h6 hc hW0 hL hB hdl hf;go_enter Tryz.func204,Tryz.ntmps204;go_wp2_with fail;clear hW0' k0 k1 k2 k3;refine HAc.out.mono ?_;rintro e w1 ⟨v1,rfl,hR,O1⟩;have aI:=zh (aV.out.same O1);obtain⟨lA,hlA⟩:=ze (mQ x n);rw[hlA]at hR hal;have HLA:=zh hlA;obtain⟨aL,cL,rfl,-,-⟩:=hR.shape;obtain⟨nl,hnl⟩:=ze lA.length;have Ak:=zh hnl;rw[hnl]at hR hal⊢;have HRl:Hid (∀W,O0 w1 W->aS 3 dJ w1.heap.size W (.slice aL nl cL) lA):=fun W hW=>hR.keep dJ.keep (Kp.dV hW);have oZ:Hid (∀W,O0 w1 W->W.cell? ⟨bp,0,none⟩=some (.slice a1 n1 c1)/\W.cell? ⟨bp,1,none⟩=some (.slice a2 n2 c2)/\W.cell? ⟨bp,2,none⟩=some (.slice a3 n3 c3)/\W.cell? ⟨bp,3,none⟩=some (.slice a4 n4 c4)):=fun W hW=>Xu.out W (aI.out.same hW);have eX:Hid (∀W,O0 w1 W->fO B W [.slice a1 n1 c1,.slice a2 n2 c2] x):=fun W hW=>HK0.out W (aI.out.same hW);have ahk:Hid (∀W,O0 w1 W->rU B W [.slice a4 n4 c4] g):=fun W hW=>HG0.out W (aI.out.same hW);have ajO:Hid (∀W,O0 w1 W->aS 8 gY B W (.slice a1 n1 c1) x.packs):=fun W hW=>HX0.out W (aI.out.same hW);clear hR O1 HAc hlA hnl Xu HK0 HG0 HX0 aF;go_wp2_with fail;go_loopw [5,15] (fun vo vi bD=>Hid (O0 w1 bD)/\∃i:Nat,vi= .int .i64 i/\i<=nl/\Hid (Cj w1.heap.size bD vo (Bh x g (lA.take i)))) (fun _ v _=>nl-(RowKit.intOf v).toNat);case atStart=>exact⟨show Hid _ from Only.refl _ _,0,rfl,qE _,zh Cj.nil⟩
 case round=>
  obtain⟨bD,rfl⟩:=zB wr;obtain⟨jD,i,rfl,hi,HV⟩:=hrel;obtain⟨vo,rfl⟩:=zB u5;by_cases ci:i<nl
  ·have iE:=zw (i+1);obtain⟨ys,hxs⟩:=zG lA i (by rw[Ak.out];omega);obtain⟨X5,Gv,Vj,ns1,cs1,as2,ns2,cs2,hes,ape,apf,Iy,uS⟩:=afh (HRl.out w1 zr) hxs;first|subst hes| (simp only[qG,qO,and_true]at hes;obtain⟨rfl,rfl⟩:=hes)
   have x9:=zh uS;have AV:=zh hxs;clear uS hxs ape apf;obtain⟨L0,hL0⟩:=ze (Bh x g (lA.take i));have HL0:Hid (L0.length<=1000000):=by rw[<-hL0];refine qR (Ig x g _) ?_;have h1:(lA.take i).length<=990:=zCG;exact zFI
   have ajP:=zh hL0;rw[hL0]at HV;clear hL0;obtain⟨nT,hnT⟩:=ze ((x.targets ys.name).length);have HTn:=zh hnT;have aph:nT<=2000:=by have h:=nX x ys.name;rw[hnT,N1.out]at h;omega
   obtain⟨tJ,vV⟩:=ze (bD.alloc (.cells #[.string ys.name,.slice Vj ns1 cs1,.slice as2 ns2 cs2] 108));have Am:Hid (tJ.heap[bD.heap.size]? =some (.cells #[.string ys.name,.slice Vj ns1 cs1,.slice as2 ns2 cs2] 108 (0,0))):=zCJ;have qp:Hid (O0 bD tJ):=zCE;have iP:Hid (O0 w1 tJ):=jD.out.same qp.out;have EU:Hid (∀W,O0 tJ W->W.cell? ⟨bD.heap.size,0,none⟩=some (.string ys.name)/\W.cell? ⟨bD.heap.size,1,none⟩=some (.slice Vj ns1 cs1)/\W.cell? ⟨bD.heap.size,2,none⟩=some (.slice as2 ns2 cs2)):=fun W hW=>by exact zHB
   have Rq:Hid (∀W,O0 tJ W->Calls Tryz.prog 148 #[.agg #[.slice a1 n1 c1,.slice a2 n2 c2],.string ys.name] W fun e w'=> ∃v,e= .returned v/\w'.ownsRow 0 3 1 v nT (eP (x.targets ys.name))/\(∀k,v.ownBlock=some k->W.heap.size<=k)/\O0 W w'):=fun W hW=>by have h:=EI (eX.out W (iP.out.same hW)) zBh ys.name;rw[hnT]at h;exact h
   have hr1:=zh (x9.out bD jD.out).1;clear hnT Am;go_wp2_with (refine wpList_load_mid rfl 108 (.tmp 17) rfl X5 (Gv+i*3) rfl _ _ hr1.out Tryz.underlying108 rfl zk ?_);clear vV hr1;refine dn (n:=9) (E:=fun _=>false) (S:=fun W=>O0 tJ W) zk rfl (by exact(Only.refl (fun _=>False) tJ).drew) (fun hHeld=>?_);refine tW 0 ?_;refine tW 1 ?_;refine tW 2 ?_;refine tK 3 ?_ (hy:=zBc);refine tW 4 ?_;refine tK 5 ?_ (hy:=zBc);refine tW 8 ?_;refine tO 6 fun K hK=>?_;(go_simp;refine(Rq.out _ hHeld).mono ?_;rintro e w4 ⟨vT,rfl,hT,hTb,O4⟩;obtain⟨aT,cT,rfl,-,-⟩:=bg hT;try go_wp2_with fail);refine hK.out _ _ ?_ (fun hHeld=>?_);·exact zG2
   clear hK K;try simp only[Act.put,fA,fD,fB,dW,dX,dY]
   refine tW 7 ?_;refine bV zk ?_ _;have rF:=zh (iP.out.same hHeld);have MF:Hid (Cj w1.heap.size w4 vo (L0++Yc x g ((x.targets ys.name).take 0))):=by have h:=HV.out.only (qp.out.same hHeld);simpa[Yc,Hid]using h
   have HT4:=zh hT;clear hT hTb O4 hHeld HV Rq;try clear hC
   go_wp2_with fail;go_loopw [5,27] (fun vo vj gV=>Hid (O0 w1 gV)/\∃j:Nat,vj= .int .i64 j/\j<=nT/\Hid (Cj w1.heap.size gV vo (L0++Yc x g ((x.targets ys.name).take j)))/\Hid (gV.ownsRow 0 3 1 (.slice aT nT cT) nT (eP (x.targets ys.name)))) (fun _ v _=>nT-(RowKit.intOf v).toNat);case atStart=>exact⟨rF,0,rfl,qE _,MF,HT4⟩
   case round=>
    obtain⟨gV,rfl⟩:=zB wr;clear rF MF HT4;obtain⟨Bj,j,rfl,hj,HV,HT⟩:=hrel;obtain⟨vo,rfl⟩:=zB u5;by_cases cj:j<nT
    ·have iE:=zw (j+1);obtain⟨p,hpj⟩:=zG (x.targets ys.name) j (by rw[HTn.out];exact cj);have CY:=zh hpj;have cp:p<n1:=by have h:=aQ.mD (qT hpj);rw[N1.out]at h;exact h
     obtain⟨kT,aiC,heT,-,-⟩:=gQ HT.out zAA;simp only[qU]at heT;obtain⟨rfl,-,rfl⟩:=heT;have hcell:gV.cell? ⟨kT,j,none⟩=some (.int .i64 (p:Int)):=by rw[HT.out.cellAt j zAA];simp[eP,hpj]
     clear hpj;obtain⟨yy,hxy⟩:=zG x.packs p zBh;obtain⟨AY,mF,og,jo,oh,sO,sQ,sS,xE,uT,xG,yc,uG,yg,EN,AZ,EO,CV,zA,CW,oq,kF,nP,rQ,qB,uU,uV,yh,Ef,je⟩:=jy (ajO.out w1 zr) hxy;first|subst oq| (simp only[qG,qO,and_true]at oq;obtain⟨rfl,rfl⟩:=oq)
     have jq:=zh je;have xR:=zh hxy;clear je hxy kF nP rQ qB uU uV;have hpk:x.pack p=yy:=zA6;obtain⟨f,hf⟩:=ze (jG g yy.name);obtain⟨fb,hfb⟩:∃b,decide (0<=f)=b:=⟨_,rfl⟩;have HF:Hid (∀W,O0 w1 W->Calls Tryz.prog 207 #[.agg #[.slice a4 n4 c4],.string yy.name] W fun e w'=>e= .returned (.int .i64 f)/\O0 W w'):=fun W hW=>by rw[<-hf];exact MZ (ahk.out W hW) yy.name
     have HSj:Hid (Yc x g ((x.targets ys.name).take (j+1))=Yc x g ((x.targets ys.name).take j)++(if fb=true then [yy.name]else [])):=by have h:=afp (x:=x) (g:=g) CY.out (b:=fb) (by rw[hpk,hf];exact hfb);rw[hpk]at h;exact h
     clear hf hpk;obtain⟨p0,p1,p2,p3⟩:=oZ.out gV Bj.out;have fJ:=(jq.out gV Bj.out).1;have Bv:=fJ 0 _ rfl;rw[qF]at Bv;clear fJ;go_wp2_with fail;clear p0 p1 p2 p3;clear hcell Bv;refine(HF.out gV Bj.out).mono ?_;rintro e w9 ⟨rfl,O9⟩;have jZ:=zh (Bj.out.same O9);have Tn:=zh (HV.out.only O9);have HT9:=zh (aW HT.out O9 (fun _ _ f=>f));clear O9 HV HT HF;cases fb with
     |false=>
      have uN:Hid (Cj w1.heap.size w9 vo (L0++Yc x g ((x.targets ys.name).take (j+1)))):=by have h:=HSj.out;rw[if_neg zAP,List.append_nil]at h;rw[h];exact Tn
      go_wp2_with fail;go_roundw;case rel=>exact⟨jZ,j+1,by first|rfl|go_num,by omega,uN,HT9⟩
      case measure=>simp[RowKit.intOf]<;>omega
     |true=>
      obtain⟨L,Vk⟩:=ze (L0++Yc x g ((x.targets ys.name).take j));have hlen:L.length<=1000000+2000:=by rw[<-Vk,qK];have h1:=HL0.out;have h2:=aaJ x g ((x.targets ys.name).take j);rw[List.length_take]at h2;have h3:=nX x ys.name;have h4:=N1.out;omega
      rw[Vk]at Tn;have ajQ:Hid (L0++Yc x g ((x.targets ys.name).take (j+1))=L++[yy.name]):=by
       have h:=HSj.out;first|rw[if_pos rfl]at h|rw[if_pos trivial]at h
       rw[Hid,h,<-Vk,yW]
      obtain⟨nl,hnl⟩:=ze L.length;have afi:Hid (∀W,O0 w9 W->W.ownsRow 0 9 1 vo nl (bZ L)):=fun W o=>by rw[<-hnl];exact aW Tn.out.row o (fun _ _ f=>f)
      have Ak:=zh hnl;rw[hnl]at hlen;clear hnl Vk HSj;go_wp2_with (at_builtin;go_must (refine Ai (u:=.string yy.name) iU rfl (.tmp 47) (.tmp 49) rfl rfl rfl (cell_new0 _ _ _) rfl (afi.out _ (zr.alloc _)) zAA zHZ ?_));intro v5 w5 r5 o5 r6;have O5:Only (fun k=>vo.ownBlock=some k) w9 w5:=((Only.refl (fun _=>False) w9).alloc _ |>.mono fun _ f=>f.elim).same o5;have xI:Hid (O0 w1 w5):=jZ.out.trans O5 fun k hk=>.inr (Tn.out.new k hk);have HT5:Hid (w5.ownsRow 0 3 1 (.slice (some ⟨kT,0,none⟩) nT cT) nT (eP (x.targets ys.name))):=aW HT9.out O5 (fun k hk e=>Dq zAH Tn.out.row HT9.out e hk);have uN:Hid (Cj w1.heap.size w5 v5 (L0++Yc x g ((x.targets ys.name).take (j+1)))):=by
       rw[ajQ.out];refine⟨by rw[qK,Ak.out,ZA];exact r5,fun k hk=>?_,fun t ht=>?_⟩
       ·obtain⟨g',cap',rfl,-,-,h⟩:=r6;simp only[Value.ownBlock,qG]at hk;subst hk;rcases h with h|h;·exact Tn.out.new _ h
        have:=jZ.out.size;simp at h;omega
       rcases qW.1 ht with h|h;·exact Tn.out.ok t h
       rw[yJ]at h;subst h;exact yh
      obtain⟨VG,co5,rfl,-,-⟩:=bg r5;clear r5 o5 r6 O5 Tn HT9;go_wp2_with fail;go_roundw;case rel=>exact⟨xI,j+1,by first|rfl|go_num,by omega,uN,HT5⟩
      case measure=>simp[RowKit.intOf]<;>omega
    obtain rfl:nT=j:=by omega
    have uN:Hid (Cj w1.heap.size gV vo (Bh x g (lA.take (i+1)))):=by have h:=HV.out;rw[qI (yG HTn.out),<-ajP.out]at h;rw[XD AV.out];exact h
    clear HT;go_wp2_with fail;go_roundw;case rel=>exact⟨Bj,i+1,by first|rfl|go_num,by omega,uN⟩
    case measure=>simp[RowKit.intOf]<;>omega
  obtain rfl:nl=i:=by omega
  have BJ:Hid (F8 x g n=Bh x g lA):=by rw[Hid,<-HLA.out];rfl
  have HVe:Hid (Cj w1.heap.size bD vo (F8 x g n)):=by have h:=HV.out;rw[qI (yG Ak.out)]at h;rw[BJ.out];exact h
  have hlen:(F8 x g n).length<=1000000:=by
   rw[BJ.out];refine qR (Ig x g _) ?_;have h1:lA.length<=990:=by rw[Ak.out];omega
   exact zFI
  obtain⟨L,Vk⟩:=ze (F8 x g n);have hres:gX (oJ L)=res:=by rw[<-HRs.out];unfold AL;rw[Vk]
  subst hres;rw[Vk]at HVe hlen;have HSo:=zh (Uu rfl HVe.out.row hlen);clear Vk hlen HV HRs;go_wp2_with fail;refine HSo.out.mono ?_;rintro e w4 ⟨rfl,r4,O4⟩;have rF:Hid (O0 w1 w4):=jD.out.trans O4 fun k hk=>.inr (HVe.out.new k hk);have hsl:(oJ L).length=L.length:=by unfold oJ;simp
  have HCo:=zh (Hg hsl r4);clear r4 O4 HSo hsl;go_wp2_with fail;refine HCo.out.mono ?_;rintro e w5 ⟨v5,rfl,r5,b5,O5⟩;have xI:Hid (O0 w1 w5):=rF.out.trans O5 fun k hk=>.inr (HVe.out.new k hk);have HR5:Hid (aS 1 bU w5.heap.size w5 v5 (gX (oJ L))):=oO rfl r5 fun s hs=>HVe.out.ok s (QV hs);obtain⟨VG,co5,rfl,-,-⟩:=bg r5;clear r5 b5 O5 HCo;go_wp2_with fail;go_ret;exact⟨_,rfl,HR5.out,aI.out.same xI.out⟩
theorem QW{bp:Nat}{x:aQ}{q:dD}{g:List aC}(hc:lH B w bp x q g){zQ:List Value}{n:aC}(hn:dH B w zQ n)(hf:0<=x.find n.name)(hdl:(bY x n).deps.length<=990)(hpl:x.packs.length<=1000)(hB:B<=w.heap.size)(hL:Laid w)(ix:Int):Calls Tryz.prog 122 #[.pointer (some ⟨bp,0,none⟩),.int .i64 ix,.agg zQ.toArray] w fun e w'=>e= .returned (.bool (D8 x g n))/\O0 w w':=by
 have hn0:=hn;obtain⟨v5,v6,rfl,-,-,r5,r6⟩:=hn;obtain⟨a5,c5,rfl,-,-⟩:=r5.shape;obtain⟨a6,c6,rfl,-,-⟩:=r6.shape;obtain⟨n5,h5⟩:=ze n.sets.length;obtain⟨n6,h6⟩:=ze n.needs.length;rw[h5]at r5 hn0⊢;rw[h6]at r6 hn0⊢;obtain⟨W0,hW0,aV,jK,aF⟩:=QN w (.string n.name) (.string n.version) (.slice a5 n5 c5) (.slice a6 n6 c6) 83;obtain⟨r,hr⟩:=ze (D8 x g n);rw[hr];have HEq:Hid ((!r)=true↔n.needs=AL x g n):=by rw[Hid,<-hr];unfold D8;simp
 have HNe:Hid (∀W,O0 W0 W->Calls Tryz.prog 204 #[.pointer (some ⟨bp,0,none⟩),.agg #[.string n.name,.string n.version,.slice a5 n5 c5,.slice a6 n6 c6]] W fun e w'=> ∃v,e= .returned v/\aS 1 bU w'.heap.size w' v (AL x g n)/\O0 W w'):=fun W hW=>by have o:=aV.out.same hW;exact acv (hc.only o) (dH.keep hn0 (Kp.dV o)) hf hdl hpl (qR hB o.size) (hL.only o)
 have Ko:Hid (∀W,O0 W0 W->aS 1 bU B W (.slice a6 n6 c6) n.needs):=fun W hW=>r6.keep bU.keep (Kp.dV (aV.out.same hW));have HRn:Hid (∀W,O0 W0 W->W.rangeAt w.heap.size 0 [.string n.name,.string n.version,.slice a5 n5 c5,.slice a6 n6 c6]):=fun W hW i u hu=>by exact zD3
 have hW0':=hW0.symm;clear hn0 r5 r6 h5 h6 hc hW0 hL hB hdl hpl hf hr;go_enter Tryz.func122,Tryz.ntmps122;go_wp2_with fail;clear hW0';refine dn (n:=8) (E:=fun _=>false) (S:=fun W=>O0 W0 W) zk rfl (by exact(Only.refl (fun _=>False) W0).drew) (fun hHeld=>?_);refine tW 0 ?_;refine tK 1 ?_ (hy:=by(intro w hSw;obtain⟨k0,k1,k2,k3⟩:=aF.out w hSw;go_simp<;>(try with_reducible rfl)));refine tW 2 ?_;refine tK 3 ?_ (hy:=by(intro w hSw;obtain⟨k0,k1,k2,k3⟩:=aF.out w hSw;exact oz rfl rfl (HRn.out w hSw) Tryz.underlying83 rfl zk));refine tO 4 fun K hK=>?_;(go_simp;refine(HNe.out _ hHeld).mono ?_;rintro e w4 ⟨v4,rfl,hR4,O4⟩;obtain⟨a4',c4',rfl,-,-⟩:=hR4.shape;have HR4:=zh hR4;clear hR4;try go_wp2_with fail);refine hK.out _ _ ?_ (fun hHeld=>?_);·exact zG2
 clear hK K;try simp only[Act.put,fA,fD,fB,dW,dX,dY]
 refine tO 5 fun K hK=>?_;(go_simp;refine(aeo (Ko.out _ hHeld) HR4.out (!r) HEq.out).mono ?_;rintro e w5 ⟨rfl,O5⟩;try go_wp2_with fail);refine hK.out _ _ ?_ (fun hHeld=>?_);·(try dsimp only)<;>(exact Only.same hHeld O5)
 clear hK K;try simp only[Act.put,fA,fD,fB,dW,dX,dY]
 refine tW 6 ?_;refine tW 7 ?_;refine bV zk ?_ _;go_wp2_with fail;go_ret;exact⟨by simp,aV.out.same hHeld⟩
end
end Go.Proofs.YtdmmebjjojimiaaGreatDoor
namespace Go.Proofs
theorem zBz{p:Prop}(h:p:=by(intro w hSw;obtain⟨p0,p1,p2,p3⟩:=oZ.out w (aI.out.same hSw);go_simp<;>(try with_reducible rfl))):p:=h
theorem zCh{p:Prop}(h:p:=by rw[aj Am.out];rfl):p:=h
end Go.Proofs
namespace Go.Proofs.YtdmmebjjojimiaaGreatDoor
open Go.RowKit
section
variable {w w':World} {B:Nat}
attribute [local irreducible] wpQuiet
theorem XE{bp:Nat}{x:aQ}{q:dD}{g:List aC}(hc:lH B w bp x q g)(hL:Laid w)(hB:B<=w.heap.size)(hd:aaI x g)(hs:wR x)(hql:q.roots.length<=1000):Calls Tryz.prog 118 #[.pointer (some ⟨bp,0,none⟩)] w fun e w'=>iY (dB [(6,xg x q g)]) w w' e:=by
 have Jp:=zh hc;obtain⟨a1,n1,c1,a2,n2,c2,a3,n3,c3,a4,n4,c4,-,-,N4,-,-,g4,oZ,eX,zL,-,-,-,ajS⟩:=hc.open;have hn4:n4<=9223372036854775807:=by obtain⟨_,_,_,hb1,hb2⟩:=(ajS.out w zr).shape;rw[<-N4.out];omega
 have NV:=zh hL;have EU:=zh hB;have HD:=zh hd;have aV:Hid (O0 w w):=Only.refl _ _;obtain⟨nN,hnN⟩:=ze ((x.names q).length);have HNn:=zh hnN;clear hc hL hB hd;obtain⟨rc,rs,hr⟩:∃c s,dB [(6,xg x q g)]=(c,s):=⟨_,_,rfl⟩;have aZ:=zh hr;rw[hr];unfold iY;dsimp only;obtain⟨W1,hW1⟩:=ze (w.alloc (.cells #[.int .u8 0,.string ⟨#[]⟩] 38));have aI:Hid (O0 w W1):=zAc;have iM:Hid (∀W,O0 W1 W->W.heap[w.heap.size]? =some (.cells #[.int .u8 0,.string ⟨#[]⟩] 38 (0,0))):=fun W ho=>by exact zDn
 clear hr;have NI:Hid (∀W,O0 W1 W->Calls Tryz.prog 77 #[.agg #[.slice a1 n1 c1,.slice a2 n2 c2],.agg #[.slice a3 n3 c3]] W fun e w'=> ∃v,e= .returned v/\w'.ownsRow 0 9 1 v nN (bZ (x.names q))/\(∀k,v.ownBlock=some k->W.heap.size<=k)/\O0 W w'):=fun W hW=>by have h:=agQ (eX.out W (aI.out.same hW)) (zL.out W (aI.out.same hW)) hs hql;rw[hnN]at h;exact h
 clear hs hql hnN;go_enter Tryz.func118,Tryz.ntmps118;go_wp2_with fail;clear hW1;refine dn (n:=11) (E:=fun _=>false) (S:=fun W=>O0 W1 W) zk rfl (by exact(Only.refl (fun _=>False) W1).drew) (fun hHeld=>?_);refine tW 0 ?_;refine tW 1 ?_;refine tW 2 ?_;refine tK 3 ?_ (hy:=zBz);refine tW 4 ?_;refine tW 5 ?_;refine tW 6 ?_;refine tK 7 ?_ (hy:=zBz);refine tW 10 ?_;refine tO 8 fun K hK=>?_;(go_simp;refine(NI.out _ hHeld).mono ?_;rintro e W2 ⟨vN,rfl,hNr,hNb,O2⟩;obtain⟨aN,cN,rfl,gN1,gN2⟩:=bg hNr;try go_wp2_with fail);refine hK.out _ _ ?_ (fun hHeld=>?_);·(try dsimp only)<;>(exact Only.same hHeld O2)
 clear hK K;try simp only[Act.put,fA,fD,fB,dW,dX,dY]
 refine tW 9 ?_;refine bV zk ?_ _;have HP2:=zh hHeld;have eF:=zh (aI.out.same HP2.out);have HNr:=zh hNr;have hnN:nN<=9223372036854775807:=by unfold maxLen at gN2;omega
 clear gN1 gN2;have HCh:Hid (∀W,O0 W2 W->lH B W bp x q g):=fun W hW=>Jp.out.only (eF.out.same hW);have MH:Hid (∀W,O0 W2 W->aS 4 dH B W (.slice a4 n4 c4) g):=fun W hW=>ajS.out W (eF.out.same hW);clear hNr hNb O2 hHeld NI ajS;go_wp2_with fail;go_loopw [18] (fun vi bD=>Hid (O0 W2 bD)/\∃i:Nat,vi= .int .i64 i/\i<=nN/\Hid (((x.names q).take i).any (Me x q g)=false)) (fun v _=>nN-(RowKit.intOf v).toNat);case atStart=>exact⟨show Hid _ from Only.refl _ _,0,rfl,qE _,show Hid _ from rfl⟩
 case round=>
  obtain⟨bD,rfl⟩:=zB wr;obtain⟨rM,i,rfl,hi,HQ⟩:=hrel;by_cases ci:i<nN
  ·have iE:=zw (i+1);obtain⟨ys,hxs⟩:=zG (x.names q) i (by rw[HNn.out];omega);have AV:=zh hxs;obtain⟨gN,as5,heN,-,-⟩:=gQ HNr.out zAA;simp only[qU]at heN;obtain⟨rfl,-,rfl⟩:=heN;have Qk:bD.cell? ⟨gN,i,none⟩=some (.string ys):=by rw[(aW HNr.out rM.out (fun _ _ f=>f)).cellAt i zAA];simp[bZ,hxs]
   obtain⟨ab,hab⟩:=ze (zN x q g ys);have HAb:=zh hab;have HAs:Hid (Calls Tryz.prog 199 #[.pointer (some ⟨bp,0,none⟩),.string ys] bD fun e w'=>e= .returned (.bool ab)/\O0 bD w'):=by rw[<-hab];exact afo (HCh.out bD rM.out) (NV.out.only (eF.out.same rM.out)) (qR EU.out (eF.out.same rM.out).size) HD.out ys
   clear hab hxs;go_wp2_with fail;clear Qk;refine HAs.out.mono ?_;rintro e w8 ⟨rfl,O8⟩;have HQ8:=zh (rM.out.same O8);clear O8 HAs;cases ab with
   |false=>
    have pI:Hid (((x.names q).take (i+1)).any (Me x q g)=false):=zh (eY AV.out HQ.out (by unfold Me;rw[HAb.out];rfl));go_wp2_with fail;go_roundw;case rel=>exact⟨HQ8,i+1,by first|rfl|go_num,by omega,pI⟩
    case measure=>simp[RowKit.intOf]<;>omega
   |true=>
    obtain⟨p0,p1,p2,p3⟩:=oZ.out w8 (eF.out.same HQ8.out);go_wp2_with fail;clear p0 p1 p2 p3;go_loopw [32,5] (fun vk vc iJ=>Hid (O0 W2 iJ)/\∃k:Nat,vk= .int .i64 k/\k<=n4/\vc= .int .i64 (oL x g ys k:Int)) (fun v _ _=>n4-(RowKit.intOf v).toNat);case atStart=>exact⟨HQ8,0,rfl,qE _,rfl⟩
    case round=>
     obtain⟨iJ,rfl⟩:=zB wr;clear HQ8;obtain⟨EG,k,rfl,hk,rfl⟩:=hrel;obtain⟨p0,p1,p2,p3⟩:=oZ.out iJ (eF.out.same EG.out);by_cases ck:k<n4
     ·have iE:=zw (k+1);obtain⟨yn,hxn⟩:=zG g k zCH;obtain⟨Kv,wI,nR,nU,nV,mV,lD,mP,hen,lY,lG,Fp,Eo,jO⟩:=jf (MH.out W2 zr) hxn;first|subst hen| (simp only[qG,qO,and_true]at hen;obtain⟨rfl,rfl⟩:=hen)
      have jg:=zh jO;have uJ:=zh hxn;clear jO hxn lY lG;have vG:Hid (∀W,O0 W2 W->dH B W [.string yn.name,.string yn.version,.slice nR nU nV,.slice mV lD mP] yn):=fun W ho=>(jg.out W ho).2.2.2;have hmem:yn∈g:=qT uJ.out;have hfd:=(HD.out yn hmem).1;obtain⟨OI,qm,kS⟩:=Jm (HCh.out iJ EG.out) (vG.out iJ EG.out) hfd;obtain⟨F9,Gf,Gg,Ea,Eb,Ec,Ep,Es,Et,Gh,xB,Gi,FB,DJ,FC,Gj,Gl,Gm,zY,gd1,hd1,gd2,hd2,gd3,hd3,gd4,hd4,gd5,hd5,gd6,hd6,Nd1,Nd2,Nd3,SH,Nd5,Nd6,Fd⟩:=iO qm;subst zY;obtain⟨HKd,OJ,Ky,Kz,Hu,KA,OL⟩:=Fd iJ zr;replace kS:=zh kS;clear Fd qm;have hfv:=fun W=>Xm (.string (bY x yn).name) (.int .i64 (bY x yn).line) (.slice F9 Gf Gg) (.slice Ea Eb Ec) (.slice Ep Es Et) (.slice Gh xB Gi) (.slice FB DJ FC) (.slice Gj Gl Gm) W;obtain⟨hb,hhb⟩:=ze (aaF x ys yn);have aeW:Hid (oL x g ys (k+1)=oL x g ys k+(if hb=true then 1 else 0)):=OT uJ.out hhb;have hck:=Jg x g ys k;obtain⟨tJ,vV⟩:=ze (iJ.alloc (.cells #[.string yn.name,.string yn.version,.slice nR nU nV,.slice mV lD mP] 83));have Am:Hid (tJ.heap[iJ.heap.size]? =some (.cells #[.string yn.name,.string yn.version,.slice nR nU nV,.slice mV lD mP] 83 (0,0))):=by rw[<-vV];exact qL iJ _
      have qp:Hid (O0 iJ tJ):=zCE;have aho:Hid (O0 W2 tJ):=EG.out.same qp.out;have L9:Hid (∀W,O0 tJ W->Calls Tryz.prog 191 #[.slice Ep Es Et,.string ys] W fun e w'=>e= .returned (.bool hb)/\w'=W):=fun W hW=>by rw[<-hhb];exact oN (Kz.out W (qp.out.same hW)) ys
      have HPd:Hid (∀W,O0 tJ W->Calls Tryz.prog 193 #[.pointer (some ⟨bp,0,none⟩),.agg #[.string yn.name,.string yn.version,.slice nR nU nV,.slice mV lD mP]] W fun e w'=>e= .returned (.agg #[.string (bY x yn).name,.int .i64 (bY x yn).line,.slice F9 Gf Gg,.slice Ea Eb Ec,.slice Ep Es Et,.slice Gh xB Gi,.slice FB DJ FC,.slice Gj Gl Gm])/\O0 W w'):=fun W hW=>kS.out W (qp.out.same hW);have m4:tJ.cell? ⟨iJ.heap.size,0,none⟩=some (.string yn.name):=zCh;have m5:tJ.cell? ⟨iJ.heap.size,1,none⟩=some (.string yn.version):=zCh;have m6:tJ.cell? ⟨iJ.heap.size,2,none⟩=some (.slice nR nU nV):=zCh;have m7:tJ.cell? ⟨iJ.heap.size,3,none⟩=some (.slice mV lD mP):=zCh;have hr1:=zh (jg.out iJ EG.out).1;clear hhb hmem Am;go_wp2_with (refine wpList_load_mid rfl 83 (.tmp 34) rfl Kv (wI+k*4) rfl _ _ hr1.out Tryz.underlying83 rfl zk ?_);clear vV hr1 m4 m5 m6 m7;refine(HPd.out tJ zr).mono ?_;rintro e w8 ⟨rfl,O8⟩;have HQ8:=zh (aho.out.same O8);have HH8:=zh (L9.out w8 O8);clear O8 L9 HPd;go_wp2_with fail;clear hfv;refine HH8.out.mono ?_;rintro e w9 ⟨rfl,rfl⟩;cases hb with
      |true=>
       have ewc:IntKind.i64.wrap ((oL x g ys k:Int)+1)=(oL x g ys (k+1):Int):=by rw[qD,aeW.out,if_pos rfl];omega
       go_wp2_with fail;go_roundw;case rel=>exact⟨HQ8,k+1,by first|rfl|go_num,by omega,rfl⟩
       case measure=>simp[RowKit.intOf]<;>omega
      |false=>
       have ewc:(oL x g ys k:Int)=(oL x g ys (k+1):Int):=by rw[aeW.out];rfl
       go_wp2_with fail;go_roundw;case rel=>exact⟨HQ8,k+1,by first|rfl|go_num,by omega,by rw[<-ewc]⟩
       case measure=>simp[RowKit.intOf]<;>omega
     obtain rfl:n4=k:=by omega
     have OU:Si x g ys=oL x g ys n4:=by unfold Si oL;rw[qI (yG N4.out)];rfl
     have hcl:=Jg x g ys n4;obtain⟨c,hc⟩:=ze (oL x g ys n4);rw[hc]at OU hcl⊢;have hW:Me x q g ys=decide (c≠1):=by unfold Me;rw[HAb.out,OU,yR]
     clear OU hc;have ajU:Hid (O0 W1 iJ):=HP2.out.same EG.out;by_cases c1:c=1;·subst c1;have hne:(((1:Nat):Int) != 1)=false:=zAP;have pI:Hid (((x.names q).take (i+1)).any (Me x q g)=false):=zh (eY AV.out HQ.out zBj);exact zF2
     have hne:((c:Int) != 1)=true:=by simp;omega
     obtain⟨rfl,rfl⟩:6=rc/\ys=rs:=by
      have h:dB [(6,xg x q g)]=(6,ys):=by rw[show xg x q g=some ys from aaD AV.out HQ.out (by show Me x q g ys=true;rw[hW];simpa using c1)];rfl
      exact zDS
     go_wp2_with (refine wpList_store_row rfl 38 (.tmp 2) (.tmp 48) rfl w.heap.size #[.int .u8 6,.string ys] rfl rfl 38 #[.int .u8 0,.string ⟨#[]⟩] (iM.out iJ ajU.out) zk rfl zk ?_);refine cO (p:=2) rfl rfl rfl (run_loadVar_row _ _ _ _ _ (0,0) _ (setRow_heap _ _ _ _ _ _ (iM.out iJ ajU.out)) Tryz.underlying38 rfl zk) ?_;exact⟨rfl,(aV.out.same (aI.out.same ajU.out)).trans (aK _ _ _) fun k hk=>.inr zAO⟩
  obtain rfl:nN=i:=by omega
  have hq:xg x q g=none:=aaE (by
   have h:=HQ.out
   rw[qI (yG HNn.out)]at h
   exact h)
  have sJ:Hid (O0 W1 bD):=HP2.out.same rM.out;obtain⟨rfl,rfl⟩:0=rc/\ByteArray.empty=rs:=by
   have h:dB [(6,xg x q g)]=(0,ByteArray.empty):=by rw[hq];rfl
   exact zDS
  go_wp2_with (refine wpList_store_row rfl 38 (.tmp 2) (.tmp 50) rfl w.heap.size #[.int .u8 0,.string ByteArray.empty] rfl rfl 38 #[.int .u8 0,.string ⟨#[]⟩] (iM.out bD sJ.out) zk rfl zk ?_);refine cO (p:=2) rfl rfl rfl (run_loadVar_row _ _ _ _ _ (0,0) _ (setRow_heap _ _ _ _ _ _ (iM.out bD sJ.out)) Tryz.underlying38 rfl zk) ?_;exact zEu
end
def rP(out:Nat->Nat)(k:Nat):Nat->Nat:=fun i=>if i=k then out i+1 else out i
theorem DR(out:Nat->Nat)(k:Nat):rP out k k=out k+1:=by unfold rP;rw[if_pos rfl]
theorem Gq{out:Nat->Nat}{k i:Nat}(h:0<out i):0<rP out k i:=by unfold rP;split<;>omega
theorem Cm{out:Nat->Nat}{k i:Nat}(h:i≠k):rP out k i=out i:=by unfold rP;rw[if_neg h]
structure BeI (g:List aC) (fr:List Nat) (out:Nat->Nat) (ah:List Nat):Prop where
 frl:∀r∈fr,r<g.length
 lt:∀i,0<out i->i<g.length
 way:∀i,0<out i->∃r∈fr,Dx g r i
 ahead:∀a∈ah,a∈fr\/0<out a
 done:∀d,d∈fr\/0<out d->d∉ah->∀k,BR g d k=true->0<out k
structure BeM (g:List aC) (fr:List Nat) (out:Nat->Nat) (ah:List Nat) (a j:Nat):Prop where
 frl:∀r∈fr,r<g.length
 lt:∀i,0<out i->i<g.length
 way:∀i,0<out i->∃r∈fr,Dx g r i
 ahead:∀a∈ah,a∈fr\/0<out a
 here:a∈fr\/0<out a
 done:∀d,d∈fr\/0<out d->d∉ah->d≠a->∀k,BR g d k=true->0<out k
 part:∀s∈(nodeAt g a).needs.take j,∀k:Nat,jG g s=(k:Int)->0<out k
theorem BeI.start{g:List aC}{fr:List Nat}(h:∀r∈fr,r<g.length):BeI g fr (fun _=>0) fr:=
 ⟨h,fun i hi=>absurd hi (Nat.lt_irrefl _),fun i hi=>absurd hi (Nat.lt_irrefl _),fun a ha=>.inl ha,fun d hd hn=>by
  rcases hd with hd|hd
  ·exact absurd hd hn
  ·exact absurd hd (Nat.lt_irrefl _)⟩
theorem BeI.al7{g:List aC}{fr:List Nat}{out:Nat->Nat}{ah:List Nat}(h:BeI g fr out ah){a:Nat}(ha:a∈ah):a<g.length:=by
 rcases h.ahead a ha with h1|h1;·exact h.frl a h1
 exact h.lt a h1
theorem BeI.pop{g:List aC}{fr:List Nat}{out:Nat->Nat}{a:Nat}{t:List Nat}(h:BeI g fr out (a::t)):BeM g fr out t a 0:=
 ⟨h.frl,h.lt,h.way,fun b hb=>h.ahead b (yE _ hb),h.ahead a qQ,fun d hd hn hne k hk=>h.done d hd (fun hm=>by
  rcases qY.1 hm with e|e
  ·exact hne e
  ·exact hn e) k hk,fun s hs=>by simp at hs⟩
theorem BeM.hit{g:List aC}{fr:List Nat}{out:Nat->Nat}{ah:List Nat}{a j k:Nat}{s:Str}(h:BeM g fr out ah a j)(hs:(nodeAt g a).needs[j]? =some s)(hk:jG g s=(k:Int)):BeM g fr (rP out k) (if out k=0 then ah++[k]else ah) a (j+1):=by
 have hlt:k<g.length:=by have:=xk g s;omega
 have he:BR g a k=true:=by unfold BR;rw[yU];exact⟨s,qT hs,by rw[hk];simp⟩
 have hsub:∀b∈ah,b∈(if out k=0 then ah++[k]else ah):=fun b hb=>by
  split;·exact List.mem_append_left _ hb
  exact hb
 refine⟨h.frl,fun i hi=>?_,fun i hi=>?_,fun b hb=>?_,?_,fun d hd hn hne k2 hk2=>?_,fun t ht k2 hk2=>?_⟩
 ·by_cases e:i=k;·rw[e];exact hlt
  rw[Cm e]at hi;exact h.lt i hi
 ·by_cases e:i=k
  ·rw[e];rcases h.here with h1|h1;·exact⟨a,h1,.one he⟩
   obtain⟨r,hr,hw⟩:=h.way a h1;exact⟨r,hr,.more hw he⟩
  rw[Cm e]at hi;exact h.way i hi
 ·by_cases e:b=k;·right;rw[e,DR];omega
  have hb2:b∈ah:=by
   split at hb
   ·rcases qW.1 hb with h1|h1;·exact h1
    exact absurd (yJ.1 h1) e
   exact hb
  rcases h.ahead b hb2 with h1|h1;·exact .inl h1
  exact .inr (Gq h1)
 ·rcases h.here with h1|h1;·exact .inl h1
  exact .inr (Gq h1)
 ·have hd2:d∈fr\/0<out d:=by
   rcases hd with h1|h1;·exact .inl h1
   by_cases e:d=k
   ·by_cases h0:out k=0;·exact absurd (by rw[if_pos h0,e];simp) hn
    right;rw[e];omega
   rw[Cm e]at h1;exact .inr h1
  exact Gq (h.done d hd2 (fun hm=>hn (hsub d hm)) hne k2 hk2)
 rw[List.take_add_one,hs]at ht;rcases qW.1 ht with h1|h1;·exact Gq (h.part t h1 k2 hk2)
 simp at h1;subst h1;have:k=k2:=zAA;rw[<-this,DR];omega
theorem BeM.miss{g:List aC}{fr:List Nat}{out:Nat->Nat}{ah:List Nat}{a j:Nat}{s:Str}(h:BeM g fr out ah a j)(hs:(nodeAt g a).needs[j]? =some s)(hk:jG g s<0):BeM g fr out ah a (j+1):=
 ⟨h.frl,h.lt,h.way,h.ahead,h.here,h.done,fun t ht k2 hk2=>by
  rw[List.take_add_one,hs]at ht
  rcases qW.1 ht with h1|h1
  ·exact h.part t h1 k2 hk2
  ·simp at h1
   subst h1
   omega⟩
theorem BeM.finish{g:List aC}{fr:List Nat}{out:Nat->Nat}{ah:List Nat}{a j:Nat}(h:BeM g fr out ah a j)(hj:(nodeAt g a).needs.length<=j):BeI g fr out ah:=
 ⟨h.frl,h.lt,h.way,h.ahead,fun d hd hn k hk=>by
  by_cases e:d=a
  ·subst e
   unfold BR at hk
   rw[yU]at hk
   obtain⟨s,hs,h2⟩:=hk
   exact h.part s (by rw[qI hj];exact hs) k (of_decide_eq_true h2)
  ·exact h.done d hd hn e k hk⟩
theorem BeI.finish{g:List aC}{fr:List Nat}{out:Nat->Nat}(h:BeI g fr out [])(i:Nat):0<out i↔ ∃r∈fr,Dx g r i:=by
 refine⟨h.way i,?_⟩;rintro⟨r,hr,hw⟩;induction hw with
 |one e=>exact h.done r (.inl hr) zAP _ e
 |more _ e ih=>exact h.done _ (.inr ih) zAP _ e
def jh(out:Nat->Nat)(n:Nat):Nat:=((List.range n).filter fun i=>decide (out i=0)).length
theorem uz(out:Nat->Nat)(n:Nat):jh out (n+1)=jh out n+(if out n=0 then 1 else 0):=by
 unfold jh;rw[List.range_succ,List.filter_append,qK];by_cases h:out n=0;·rw[if_pos h];simp[h]
 rw[if_neg h];simp[h]
theorem acw(out:Nat->Nat)(n:Nat):jh out n<=n:=by unfold jh;refine qR (yO _ _) ?_;simp
theorem Px{out:Nat->Nat}{k:Nat}:∀{n:Nat},n<=k->jh (rP out k) n=jh out n
 |0,_=>rfl
 |n+1,h=>by rw[uz,uz,Px zCj,Cm zAA]
theorem LH{out:Nat->Nat}{k:Nat}(h0:out k≠0):∀{n:Nat},jh (rP out k) n=jh out n
 |0=>rfl
 |n+1=>by
  rw[uz,uz,LH h0]
  by_cases e:n=k
  ·subst e
   rw[DR,if_neg zAA,if_neg h0]
  ·rw[Cm e]
theorem LJ{out:Nat->Nat}{k:Nat}(h0:out k=0):∀{n:Nat},k<n->jh (rP out k) n+1=jh out n
 |n+1,h=>by
  rw[uz,uz]
  by_cases e:n=k
  ·subst e
   rw[DR,if_neg zAA,if_pos h0,Px (qH _)]
  ·rw[Cm e,<-LJ h0 (n:=n) zAA]
   omega
end Go.Proofs.YtdmmebjjojimiaaGreatDoor
