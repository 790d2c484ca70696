/- lock.reads: a node's line. Printed by gen_lkw6.py. -/
import Derived.Test.YtdmmebjjojimiaaGreatDoorG32
set_option maxRecDepth 100000
set_option maxHeartbeats 8000000
set_option linter.all false
namespace Go.Proofs
theorem zA8{p:Prop}(h:p:=by repeat (first|exact Only.refl _ _|apply Only.drew|apply Only.alloc|apply Only.drewN)):p:=h
theorem zBa{p:Prop}(h:p:=by have h:=qL (w7.alloc (.cells #[.string d.name,.string d.value] 117)) (.cells #[.string d.name,.string d.value] 117);rw[World.size_alloc]at h;exact h):p:=h
theorem zBw{p:Prop}(h:p:=by rw[aj (ZE.out.dK ((Only.refl (fun _=>False) w7).alloc (.cells #[.string d.name,.string d.value] 117))).blk];rfl):p:=h
theorem zB6{p:Prop}(h:p:=by rw[Oq.out,Ak.out];exact o10):p:=h
theorem zB8{p:Prop}(h:p:=by rw[Oq.out,Ak.out];exact hk):p:=h
theorem zAK{p:Prop}(h:p:=by repeat (first|exact Only.refl _ _|apply Only.drew|apply Only.alloc|apply Only.drewN)):p:=h
theorem zCw{p:Prop}(h:p:=by rw[Oq.out,Ak.out];exact r3):p:=h
theorem zC5{p:Prop}(h:p:=by repeat (first|exact Only.refl _ _|apply Only.drew|apply Only.alloc|apply Only.drewN)):p:=h
theorem zDC{p:Prop}(h:p:=by rw[Ak.out];exact r1):p:=h
theorem zDF{p:Prop}(h:p:=by intro u hu;simp at hu;rcases hu with rfl|rfl|rfl|rfl<;>first|rfl|exact XO):p:=h
theorem zDI{p:Prop}(h:p:=by intro h;cases h):p:=h
theorem zDJ{p:Prop}(h:p:=by exact qL _ _):p:=h
theorem zDV{p:Prop}(h:p:=by
 have uH:Hid (O0 w7 ((w7.alloc (.cells #[.string d.name,.string d.value] 117)).alloc (.cells #[.string d.name,.string d.value] 117))):=(zr.alloc _).alloc _
 have ZF:=zh (ZE.out.dK uH.out)
 have c8:(w7.alloc (.cells #[.string d.name,.string d.value] 117)).cell? ⟨N,2,none⟩=some sv:=zBw
 have ZG:Hid (∀j u,[Value.string d.name,.string d.value][j]? =some u->((w7.alloc (.cells #[.string d.name,.string d.value] 117)).alloc (.cells #[.string d.name,.string d.value] 117)).cell? ((⟨w7.heap.size+1,0,none⟩:Addr).add j)=some u):=fun j u hu=>uD zBa hu
 have hSl:=HSl.out
 go_wp2_with (at_builtin;go_must (refine wpA (news:=[.string d.name,.string d.value]) afA rfl (.tmp 80) (.tmp 82) rfl rfl ZF.out.own (ad:=⟨w7.heap.size+1,0,none⟩) (m:=1) (c:=1) rfl rfl ZG.out zC9 zCn zAA ?_))
 intro v' w10 r1 r2 r3 r4 r5
 have hB8:w1.heap.size<=((w7.alloc (.cells #[.string d.name,.string d.value] 117)).alloc (.cells #[.string d.name,.string d.value] 117)).heap.size:=qR pz.out.size uH.out.size
 have hnx:=ZF.out.next (d:=d) HNs.out (by rw[HSl.out];exact r1) (zr.grown r2 fun k hk=>.inl hk) (by simpa using r3) HD.out hB8
 have X8:=zh hnx.1
 have c10:=hnx.2.1
 have f10:=hnx.2.2.1
 have uY:=zh (((pz.out.same uH.out).trans hnx.2.2.2 (fun k hk=>.inr hk)))
 obtain⟨ga,apC,hv',-,-⟩:=bg r1
 have aj3:=zh (PV HX.out VN.out XP.out)
 have hlen2:(S++[d]).length=i+1:=by rw[qK,hSl];rfl
 have Zh:=zh hlen2
 subst hv'
 clear hnx r1 r2 r3 r5 hB8 c8 hSl hlen2 ZE ZF ZG uH
 go_wp2_with fail
 go_roundw
 case rel=>exact⟨uY,i+1,S++[d],_,by first|rfl|go_num,by omega,X8,Zh,aj3⟩
 case measure=>simp[RowKit.intOf]<;>omega):p:=h
theorem zDW{p:Prop}(h:p:=by
 refine hK.out _ _ ?_ (fun hHeld=>?_)
 ·(try dsimp only)<;>(exact HKA.out w10 oA)
 clear hK K
 try simp only[Act.put,fA,fD,fB,dW,dX,dY]
 refine tW 8 ?_
 refine tW 9 ?_
 refine dN (rs:=[10]) zk zAP ?_
 refine bI.late (i:=10) rfl zk (fun K hK=>?_) ?_
 ·(have c10:=(Ih.out w10 oA).1;have f10:=(Ih.out w10 oA).2;go_simp)
  refine hK.out _ _ ?_
  clear hK K
  try simp only[Act.put,fA,fD,fB,dW,dX,dY]
  refine bV zk ?_ _
  have HFin:=zh (Ce.out w10 _ r5 oA rA)
  go_wp2_with fail
  go_ret
  exact HFin.out
 exact bI.nil):p:=h
theorem zDq{p:Prop}(h:p:=by
 have hn:=(nM.out.dK o).blk
 refine⟨?_,by rw[aj hn];rfl,by rw[aj hn];rfl,by rw[aj hn];rfl,by rw[aj hn];rfl⟩
 rw[World.cell?_of_block (w:=w) ((qp.out.same o).block _ (World.block_lt_of_cell? _ _ HCP.out) (fun f=>f))];exact HCP.out):p:=h
theorem zDx{p:Prop}(h:p:=by
 have b9:=(qp.out.block P (yA.1 QO.out).1 (fun f=>f)).trans QO.out
 rw[Oq.out,Ak.out]at b9
 have bW:=(o.block P (yA.1 b9).1 (fun e=>jw zAH (FU.out w9 zr) b9 e)).trans b9
 exact⟨by rw[aj bW];rfl,gB bW 0⟩):p:=h
theorem zD2{p:Prop}(h:p:=by
 have hn:=(o.block N (yA.1 nM.out.blk).1 (fun e=>hNg N e rfl)).trans nM.out.blk
 exact⟨(Ih.out W o).1,by rw[aj hn];rfl,by rw[aj hn];rfl,by rw[aj hn];rfl,by rw[aj hn];rfl⟩):p:=h
theorem zEy{p:Prop}(h:p:=by
 go_wp2_with fail
 go_ret
 exact HE.out):p:=h
theorem zFD{p:Prop}(h:p:=by rw[Hid,HR.out,if_pos ⟨by omega,c24,NI.out,HMb.out,QA.out⟩,TU.out];rfl):p:=h
theorem zFJ{p:Prop}(h:p:=by
 have h:=pq (pO.out.own) (k:=k) zB8
 have:=HNs.out
 have:=aI.out.size
 omega):p:=h
theorem zFO{p:Prop}(h:p:=by
 have h:=(pO.out.dK (qp.out.same o)).own
 rw[Oq.out,Ak.out]at h
 exact h):p:=h
theorem zF6{p:Prop}(h:p:=by(try dsimp only)<;>(exact HK.out _ zA8)):p:=h
theorem zGA{p:Prop}(h:p:=by
 have hn:=LK (G:=fM (L.map LN.x)) (l:=line.toList) (by rw[<-KP.out];simp)
 have HE:=zh (uI.out w1 zr hn)
 clear hn
 exact zEy):p:=h
theorem zGM{p:Prop}(h:p:=by
 obtain⟨hi,he⟩:=qJ.1 hx
 exact(List.take_append_drop i r).symm.trans (by rw[List.drop_eq_getElem_cons hi,he])):p:=h
end Go.Proofs
namespace Go.Proofs.YtdmmebjjojimiaaGreatDoor
open Go.RowKit
open Lk (nameB gW kG nG lastB Dj AA cutAt)
section
variable {w w':World} {B:Nat}
theorem PU(x:List UInt8)(l:List (List UInt8)):nG (x::l)=match cutAt 61 x with
  |none=>none
  |some p=>if AA p=true then (nG l).map fun l=>p::l else none:=rfl
theorem yX:∀(l m:List (List UInt8)),nG (l++m)=(nG l).bind fun s=>(nG m).map fun t=>s++t
 | [],m=>by simp[nG]
 |x::l,m=>by
  have ih:=yX l m
  rw[List.cons_append,PU,PU,ih]
  cases cutAt 61 x with
  |none=>rfl
  |some p=>
   simp only
   by_cases h:AA p=true
   ·rw[if_pos h,if_pos h]
    cases nG l with
    |none=>rfl
    |some s=>cases nG m<;>rfl
   ·rw[if_neg h,if_neg h];rfl
theorem Tv{s:Str}{d:dM}{ok:Bool}(h:SY s.toList d ok):nG [s.toList]=if ok=true then some [d.toB]else none:=by
 unfold SY at h;unfold nG;cases hc:cutAt 61 s.toList with
 |none=>rw[hc]at h;simp only at h;rw[h];rfl
 |some p=>
  rw[hc]at h;simp only at h;obtain⟨h1,h2⟩:=h;simp only;rw[<-h1,h2];by_cases q:ok=true;·rw[if_pos q,if_pos q];rfl
  rw[if_neg q,if_neg q]
theorem PV{r:List Str}{i:Nat}{x:Str}{S:List dM}{d:dM}(hx:r[i]? =some x)(h:nG ((r.take i).map ByteArray.toList)=some (S.map dM.toB))(hd:SY x.toList d true):nG ((r.take (i+1)).map ByteArray.toList)=some ((S++[d]).map dM.toB):=by
 have e:r.take (i+1)=r.take i++[x]:=by rw[List.take_add_one,hx];rfl
 rw[e,List.map_append,yX,h,List.map_singleton,Tv hd];simp
theorem Tz{r:List Str}{i:Nat}{x:Str}{d:dM}(hx:r[i]? =some x)(hd:SY x.toList d false):nG (r.map ByteArray.toList)=none:=by
 have e:r=r.take i++x::r.drop (i+1):=by exact zGM
 have e2:nG (x.toList::(r.drop (i+1)).map ByteArray.toList)=none:=by have:=yX [x.toList] ((r.drop (i+1)).map ByteArray.toList);rw[Tv hd]at this;exact this
 rw[e,List.map_append,List.map_cons,yX,e2];cases nG (List.map ByteArray.toList (List.take i r))<;>rfl
theorem LK{G:List Lk.NB}{l:List UInt8}(h:(dZ 32 l).length<2):kG G l=none:=by
 unfold kG;cases hc:dZ 32 l with
 |nil=>rfl
 |cons a r=>cases r with
  |nil=>rfl
  |cons b r=>rw[hc]at h;simp at h;omega
theorem afz{G:List Lk.NB}{s a b:Str}{r:List Str}(h:(a::b::r).map ByteArray.toList=dZ 32 s.toList):kG G s.toList=if r.length<=4/\G.length≠24/\nameB a.toList=true/\iV b.toList=true/\Dj G a.toList=true then (nG (r.map ByteArray.toList)).map fun t=>G++[⟨a.toList,b.toList,t,[]⟩]else none:=by unfold kG;rw[<-h];simp only[List.map_cons,qM]
theorem FT{L:List LN}{m:LN}{a:List UInt8}:Dj (fM ((L++[m]).map LN.x)) a=decide (m.x.name.toList<a):=by unfold Dj lastB;rw[List.getLast?_map,Xz,List.getLast?_concat];rfl
theorem afA:Gu Tryz.prog 80 117 2 32:=Gu.mk' (z:=.agg #[.string .empty,.string .empty]) Tryz.underlying80 zk rfl zAH
theorem KO:Gu Tryz.prog 29 83 4 80:=Gu.mk' (z:=.agg #[.string .empty,.string .empty,.slice none 0 0,.slice none 0 0]) Tryz.underlying29 zk rfl zAH
theorem GB.node{P:Nat}{rv:Value}{L:List LN}(hb:w.heap[P]? =some (.cells #[rv] 31 (0,0)))(h:vU B w rv L):(fM (L.map LN.x)).length=L.length:=by simp[fM]
structure oD (B:Nat) (w:World) (N:Nat) (a b:Str) (sv:Value) (S:List dM):Prop where
 blk:w.heap[N]? =some (.cells #[.string a,.string b,sv,.slice none 0 0] 83 (0,0))
 own:w.ownsRow 0 117 2 sv S.length (xU S)
 oks:∀s∈S,okS s.name/\okS s.value
 new:∀k,sv.ownBlock=some k->B<=k
theorem oD.dK{N:Nat}{a b:Str}{sv:Value}{S:List dM}(h:oD B w N a b sv S)(ho:O0 w w'):oD B w' N a b sv S:=⟨(ho.block N (yA.1 h.blk).1 (fun f=>f)).trans h.blk,aW h.own ho (fun _ _ f=>f),h.oks,h.new⟩
theorem oD.next{w10:World}{N:Nat}{a b:Str}{sv v':Value}{S:List dM}{d:dM}(h:oD B w N a b sv S)(hN:B<=N)(r1:w10.ownsRow 0 117 2 v' (S.length+1) (xU S++[.string d.name,.string d.value]))(o:Only (fun k=>sv.ownBlock=some k) w w10)(r3:∀k,v'.ownBlock=some k->sv.ownBlock=some k\/w.heap.size<=k)(hd:okS d.name/\okS d.value)(hB:B<=w.heap.size):oD B (w10.setCell ⟨N,2,none⟩ v') N a b v' (S++[d])/\w10.cell? ⟨N,2,none⟩=some sv/\w10.frozen? ⟨N,2,none⟩=false/\Only (fun k=>B<=k) w (w10.setCell ⟨N,2,none⟩ v'):=by
 have b10:w10.heap[N]? =some (.cells #[.string a,.string b,sv,.slice none 0 0] 83 (0,0)):=(o.block N (yA.1 h.blk).1 (fun e=>jw zAH h.own h.blk e)).trans h.blk;have oS:Only (fun k=>k=N) w10 (w10.setCell ⟨N,2,none⟩ v'):=(Only.refl (fun k=>k=N) w10).setCell (p:=⟨N,2,none⟩) (.inl rfl) _;refine⟨⟨heap_setCell_same w10 N 2 _ 83 v' b10,?_,fun s hs=>?_,fun k hk=>?_⟩,by rw[aj b10];rfl,by simp[World.frozen?,b10],(o.mono fun k hk=>h.new k hk).trans oS fun k hk=>.inl (by rw[hk];exact hN)⟩;·rw[qK,List.length_singleton,YV];exact aW r1 oS (fun k hk e=>jw zAH r1 b10 (e▸hk))
 ·rcases qW.1 hs with q|q;·exact h.oks s q
  rw[yJ.1 q];exact hd
 rcases r3 k hk with q|q;·exact h.new k q
 omega
theorem uD{g:Nat}{l:List Value}{t:TypeId}(h:w.heap[g]? =some (.cells l.toArray t (0,0))){j:Nat}{u:Value}(hu:l[j]? =some u):w.cell? ((⟨g,0,none⟩:Addr).add j)=some u:=by rw[Go.WideShapes.add_plain,Nat.zero_add,aj h];simpa using hu
theorem gB{g:Nat}{c:Array Value}{t:TypeId}(h:w.heap[g]? =some (.cells c t (0,0)))(i:Nat):w.frozen? ⟨g,i,none⟩=false:=by simp[World.frozen?,h]
theorem DU{w9 w10:World}{P N:Nat}{rv rv' sv:Value}{L:List LN}{a b:Str}{S:List dM}{G:Option (List Lk.NB)}(hb:w.heap[P]? =some (.cells #[rv] 31 (0,0)))(o9:O0 w w9)(hr:vU B w rv L)(hB:B<=w.heap.size)(hn:oD B w9 N a b sv S)(hka:okS a)(hkb:okS b)(r1:w10.ownsRow 0 83 4 rv' (L.length+1) (gJ L++[.string a,.string b,sv,.slice none 0 0]))(o10:Only (fun k=>rv.ownBlock=some k) w9 w10)(r3:∀k,rv'.ownBlock=some k->rv.ownBlock=some k\/w9.heap.size<=k)(hG:G=some (fM (L.map LN.x)++[⟨a.toList,b.toList,S.map dM.toB,[]⟩])):jP B P G L w (w10.setCell ⟨P,0,none⟩ rv') (.returned (.bool true)):=by
 have hr9:=hr.dK o9;have hB9:B<=w9.heap.size:=qR hB o9.size;have hown:BO B w9 ⟨⟨a,b,S,[]⟩,sv,.slice none 0 0⟩:=⟨hka,hkb,hn.own,World.ownsRow_nil _ _ _ _,hn.oks,(fun _ h=>by cases h),hn.new,(fun k hk=>by simp[Value.ownBlock]at hk)⟩;have hs:=hr9.snoc hown (fun m _ k _=>by simp[Value.ownBlock]) r1 o10 r3 hB9;have b9:w9.heap[P]? =some (.cells #[rv] 31 (0,0)):=(o9.block P (yA.1 hb).1 (fun f=>f)).trans hb;have b10:w10.heap[P]? =some (.cells #[rv] 31 (0,0)):=(o10.block P (yA.1 b9).1 (fun e=>jw zAH hr9.own b9 e)).trans b9;have fr:=hs.free b10 zC6 zHZ zAH;have oS:Only (fun k=>k=P) w10 (w10.setCell ⟨P,0,none⟩ rv'):=(Only.refl (fun k=>k=P) w10).setCell (p:=⟨P,0,none⟩) (.inl rfl) _;subst hG;refine⟨true,rfl,?_,rfl,L++[⟨⟨a,b,S,[]⟩,sv,.slice none 0 0⟩],?_,rv',?_,hs.only oS (fun k hk e=>fr.1 k hk e) (fun n hn k hk e=>fr.2.1 n hn k hk e) (fun n hn k hk e=>fr.2.2 n hn k hk e)⟩;·exact(Only.mono (F:=fun k=>B<=k) (G:=fun k=>B<=k\/k=P) ((o9.mono fun _ f=>f.elim).trans (G:=fun j=>rv.ownBlock=some j) o10 fun i hi=>.inl (hr.new i hi)) fun _ h=>.inl h).trans oS fun i hi=>.inl (.inr hi)
 ·simp[fM,aC.toB]
 exact heap_setCell_same w10 P 0 #[rv] 31 rv' b10
theorem ahu{P:Nat}{L:List LN}(line:Str)(hs:line.size<4294967281)(h:GB B w P L)(hl:L.length<=24)(hM:vK w)(hB:B<=w.heap.size):Calls Tryz.prog 180 #[.pointer (some ⟨P,0,none⟩),.string line] w (fun e w'=>jP B P (kG (fM (L.map LN.x)) line.toList) L w w' e):=by
 have HGB:=zh h;obtain⟨rv,hb,hr⟩:=h;have VN:=zh (aaH line hs 32 hM);have jK:=zh hs;have HM:=zh hM;have EU:=zh hB;have pO:=zh hr;have QO:=zh hb;obtain⟨nl,hnl⟩:=ze L.length;have Ak:=zh hnl;have HGl:Hid ((fM (L.map LN.x)).length=nl):=by show _=_;rw[<-hnl];simp[fM]
 obtain⟨ao,cap,oK,hc1,hc2⟩:=bg hr.own;have Oq:=zh oK;have hcP:w.cell? ⟨P,0,none⟩=some (.slice ao nl cap):=by rw[aj hb,oK,hnl];rfl
 have HCP:=zh hcP;rw[hnl]at hl;clear hs hM hB hr hb hnl oK hcP hc1;go_enter Tryz.func180,Tryz.ntmps180;go_wp2_with fail;refine VN.out.mono ?_;rintro e w1 ⟨l,hcut,rfl,hw1,hrow,hsz,hln⟩;have aI:Hid (O0 w w1):=by rw[hw1];exact zr.alloc _
 have KP:=zh hcut;have QZ:=zh hsz;have HL:=zh hrow;have hb0:w.heap.size<w1.heap.size:=by rw[hw1];simp
 obtain⟨bl,hbl⟩:=ze w.heap.size;have MC:=zh hbl;rw[hbl]at hb0 HL;have amd:=zh hb0;rw[MC.out];have uI:Hid (∀W,O0 w1 W->kG (fM (L.map LN.x)) line.toList=none->jP B P (kG (fM (L.map LN.x)) line.toList) L w W (.returned (.bool false))):=fun W o hG=>jP.no hG HGB.out (aI.out.same o) rfl;clear hcut hsz hrow hw1 hbl hb0 VN;match l,KP,QZ,HL,hln with
 | [],KP,QZ,HL,hln=>exact zGA
 | [a],KP,QZ,HL,hln=>exact zGA
 |a::b::r,KP,QZ,HL,hln=>
  obtain⟨n,hn⟩:=ze r.length;have HN:=zh hn;have HR:=zh (afz (G:=fM (L.map LN.x)) KP.out);rw[HGl.out,hn]at HR;have hlen:(a::b::r).length=n+2:=by simp[hn]
  rw[hlen]at HL;rw[hlen];have hka:okS a:=by have:=QZ.out a zAP;have:=jK.out;unfold okS maxLen;omega
  have hkb:okS b:=by have:=QZ.out b zAP;have:=jK.out;unfold okS maxLen;omega
  have HKa:=zh hka;have HKb:=zh hkb;have HAt:Hid (∀W,O0 w1 W->∀(i:Nat) (x:Str),(a::b::r)[i]? =some x->W.cell? ⟨bl,i,none⟩=some (.string x)):=fun W o i x hx=>by obtain⟨b',off',he,-,hE⟩:=iR HL.out hx;cases he;have:=(hE W o).1 0 _ rfl;simpa using this
  have q0:=HAt.out w1 zr 0 a rfl;have q1:=HAt.out w1 zr 1 b rfl;have qPz:w1.cell? ⟨P,0,none⟩=some (.slice ao nl cap):=by rw[World.cell?_of_block (w:=w) (aI.out.block _ (World.block_lt_of_cell? _ _ HCP.out) (fun f=>f))];exact HCP.out
  have ata:n+2<=4294967282:=by have:=jK.out;rw[hlen]at hln;omega
  clear hn hlen hka hkb hln;by_cases c4:4<n;·have HE:=zh (uI.out w1 zr (by rw[HR.out,if_neg zAA]));have d1:¬((n:Int)+2<2):=zAA;have d2:(6:Int)<(n:Int)+2:=zAA;clear HR;exact zEy
  have d1:decide ((n:Int)+2<2)=false:=qP zAA;have d2:decide ((6:Int)<(n:Int)+2)=false:=qP zAA;have i0:(0:Int)<(n:Int)+2:=zAA;have i1:(1:Int)<(n:Int)+2:=zAA;by_cases c24:nl=24;·have HE:=zh (uI.out w1 zr (by rw[HR.out,if_neg zAA]));subst c24;clear HR;exact zEy
  have d3:((nl:Int)==24)=false:=by rw[yC];omega
  obtain⟨na,hna⟩:=ze (nameB a.toList);have En:=zh (IW (w:=w1) a HKa.out na hna);have NI:=zh hna;clear hna;go_wp2_with fail;refine En.out.mono ?_;rintro e w2 ⟨rfl,O2⟩;have eF:=zh O2;have q1':=HAt.out w2 O2 1 b rfl;clear O2 En q0 q1 qPz;cases na with
  |false=>have HE:=zh (uI.out w2 eF.out (by rw[HR.out,if_neg (by rw[NI.out];simp)]));clear HR;exact zEy
  |true=>
   obtain⟨mb,hmb⟩:=ze (iV b.toList);have HMy:=zh (YO (w:=w2) b HKb.out (HM.out.only (aI.out.same eF.out)).laid mb hmb);have HMb:=zh hmb;clear hmb;go_wp2_with fail;refine HMy.out.mono ?_;rintro e w3 ⟨rfl,O3⟩;have kD:=zh (eF.out.same O3);clear O3 HMy q1' eF;cases mb with
   |false=>have HE:=zh (uI.out w3 kD.out (by rw[HR.out,if_neg (by rw[HMb.out];simp)]));clear HR;exact zEy
   |true=>
    rcases Ib L with hL0| ⟨L0,m,hL0⟩
    ·have hlt:Dj (fM (L.map LN.x)) a.toList=true:=by rw[hL0];rfl
     have hn0:nl=0:=by rw[<-Ak.out,hL0];rfl
     have hcP:w3.cell? ⟨P,0,none⟩=some (.slice ao 0 cap):=by rw[World.cell?_of_block (w:=w) ((aI.out.same kD.out).block _ (World.block_lt_of_cell? _ _ HCP.out) (fun f=>f)),HCP.out,hn0]
     have TV:=zh (Xy hcP);have QA:=zh hlt;clear hL0 hn0 hcP hlt;go_wp2_with fail;refine TV.out.mono ?_;rintro e w4 ⟨rfl,O4⟩;have Ej:=zh (kD.out.same O4);clear O4 TV kD;go_wp2_with fail;go_quiet (fail);go_wp2_with fail;obtain⟨w5,hw5⟩:=ze (w4.drewN nq);have xK:Hid (O0 w1 w5):=by rw[<-hw5];exact Ej.out.drewN _
     rw[hw5];clear hw5 Ej;have q0:=HAt.out w5 xK.out 0 a rfl;have q1:=HAt.out w5 xK.out 1 b rfl;have b5:bl<w5.heap.size:=Nat.lt_of_lt_of_le amd.out xK.out.size;go_region;have hN6:((w5.alloc (.cells #[.string a,.string b,.slice none 0 0,.slice none 0 0] 83)).drew).heap[w5.heap.size]? =some (.cells #[.string a,.string b,.slice none 0 0,.slice none 0 0] 83 (0,0)):=qL _ _;have hO6:O0 w1 ((w5.alloc (.cells #[.string a,.string b,.slice none 0 0,.slice none 0 0] 83)).drew):=(xK.out.alloc _).drew;have hNs:w1.heap.size<=w5.heap.size:=xK.out.size;obtain⟨N,hN⟩:=ze w5.heap.size;obtain⟨w6,hw6⟩:=ze ((w5.alloc (.cells #[.string a,.string b,.slice none 0 0,.slice none 0 0] 83)).drew);rw[hN]at hN6 hNs⊢;rw[hw6]at hN6 hO6⊢;have Gz:=zh hO6;have BJ:Hid (oD w1.heap.size w6 N a b (.slice none 0 0) []):=show oD _ _ _ _ _ _ _ from⟨hN6,World.ownsRow_nil _ _ _ _,(fun _ h=>by cases h),(fun k hk=>by simp[Value.ownBlock]at hk)⟩;have HNs:Hid (w1.heap.size<=N):=hNs;clear hN6 hO6 hNs hw6 hN q0 q1 b5 xK;by_cases cn:n=0
     ·obtain rfl:r=[]:=yF (by rw[HN.out,cn]);subst cn;have TU:Hid (nG (([]:List Str).map ByteArray.toList)=some (([]:List dM).map dM.toB)):=rfl;have nM:=BJ;go_wp2_with fail;go_loopw [68] (fun vi wr=>Hid (w6=wr)/\vi= .int .i64 0) (fun v _=>0);case atStart=>exact⟨rfl,rfl⟩
      case round=>
       obtain⟨hw,rfl⟩:=hrel;obtain rfl:=hw.out;obtain⟨w9,dR⟩:=zB w6;have fK:=Gz;rw[<-dR]at nM fK⊢;clear dR;have HWr:Hid (kG (fM (L.map LN.x)) line.toList=some (fM (L.map LN.x)++[⟨a.toList,b.toList,([]:List dM).map dM.toB,[]⟩])):=by exact zFD
       have qp:Hid (O0 w w9):=aI.out.same fK.out;have HK:Hid (∀W,O0 w9 W->W.cell? ⟨P,0,none⟩=some (.slice ao nl cap)/\W.cell? ⟨N,0,none⟩=some (.string a)/\W.cell? ⟨N,1,none⟩=some (.string b)/\W.cell? ⟨N,2,none⟩=some (.slice none 0 0)/\W.cell? ⟨N,3,none⟩=some (.slice none 0 0)):=fun W o=>by exact zDq
       have FU:Hid (∀W,O0 w9 W->W.ownsRow 0 83 4 (.slice ao nl cap) (nl) (gJ L)):=fun W o=>by exact zFO
       have Ih:Hid (∀W,Only (fun k=>(Value.slice ao nl cap).ownBlock=some k) w9 W->W.cell? ⟨P,0,none⟩=some (.slice ao nl cap)/\W.frozen? ⟨P,0,none⟩=false):=fun W o=>by exact zDx
       have Ce:Hid (∀w10 rv',w10.ownsRow 0 83 4 rv' (nl+1) (gJ L++[.string a,.string b,(.slice none 0 0),.slice none 0 0])->Only (fun k=>(Value.slice ao nl cap).ownBlock=some k) w9 w10->(∀k,rv'.ownBlock=some k->(Value.slice ao nl cap).ownBlock=some k\/w9.heap.size<=k)->jP B P (kG (fM (L.map LN.x)) line.toList) L w (w10.setCell ⟨P,0,none⟩ rv') (.returned (.bool true))):=fun w10 rv' r1 o10 r3=>
        DU QO.out qp.out pO.out EU.out ⟨nM.out.blk,nM.out.own,nM.out.oks,fun k hk=>qR (qR EU.out aI.out.size) (nM.out.new k hk)⟩ HKa.out HKb.out zDC zB6 zCw HWr.out
       have hNg:∀k,(Value.slice ao nl cap).ownBlock=some k->k≠N:=fun k hk e=>by exact zFJ
       have HKA:Hid (∀W,Only (fun k=>(Value.slice ao nl cap).ownBlock=some k) w9 W->W.cell? ⟨P,0,none⟩=some (.slice ao nl cap)/\W.cell? ⟨N,0,none⟩=some (.string a)/\W.cell? ⟨N,1,none⟩=some (.string b)/\W.cell? ⟨N,2,none⟩=some (.slice none 0 0)/\W.cell? ⟨N,3,none⟩=some (.slice none 0 0)):=fun W o=>by exact zD2
       have hS0:=HK.out w9.drew (zr.drew);have hnl:nl<=23:=zAA;clear HR uI HAt hNg;go_wp2_with fail;refine dn (n:=11) (E:=fun j=>j==10) (S:=fun W=>W.cell? ⟨P,0,none⟩=some (.slice ao nl cap)/\W.cell? ⟨N,0,none⟩=some (.string a)/\W.cell? ⟨N,1,none⟩=some (.string b)/\W.cell? ⟨N,2,none⟩=some (.slice none 0 0)/\W.cell? ⟨N,3,none⟩=some (.slice none 0 0)) zk rfl hS0 (fun hHeld=>?_);refine tW 0 ?_;refine tW 1 ?_;refine tW 2 ?_;refine tW 3 ?_;refine tK 4 ?_;refine tK 5 ?_;refine tO 6 fun K hK=>?_;go_simp;refine hK.out _ _ ?_ (fun hHeld=>?_);·exact zF6
       clear hK K;try simp only[Act.put,fA,fB,dW,dX,dY]
       refine tO 7 fun K hK=>?_;(refine Nr KO (by rfl) (.tmp 90) (.tmp 92) (by rfl) (by rfl) (FU.out _ zC5) (by rfl) (news:=[.string a,.string b,(.slice none 0 0),.slice none 0 0]) (by rfl) zDI (fun ad hd j u hu=>by cases hd;exact uD zDJ hu) zDF zAA zHP ?_;intro VG cap5 w10 r5 o5 nr5;have oA:Only (fun k=>(Value.slice ao nl cap).ownBlock=some k) w9 w10:=Only.trans zAK o5 (fun k hk=>.inl hk);have rA:∀k,(Value.slice VG (nl+1) cap5).ownBlock=some k->(Value.slice ao nl cap).ownBlock=some k\/w9.heap.size<=k:=fun k hk=>by(rcases nr5 k hk with h|h;exact Or.inl h;exact Or.inr zHO));exact zDW
     have mP:¬((n:Int)+2=2):=by omega
     have cn3:(2:Int)<=(n:Int)+2:=zAA;have cn4:¬n+2=2:=zAA;have cn5:2<=n+2:=zAA;have cn6:n+2-2=n:=zAA;go_wp2_with fail;go_loopw [68] (fun vi wr=>Hid (O0 w1 wr)/\∃(i:Nat) (S:List dM) (sv:Value),vi= .int .i64 i/\i<=n/\Hid (oD w1.heap.size wr N a b sv S)/\Hid (S.length=i)/\Hid (nG ((r.take i).map ByteArray.toList)=some (S.map dM.toB))) (fun v _=>n-(RowKit.intOf v).toNat);case atStart=>exact⟨Gz,0,[],_,rfl,qE _,BJ,rfl,rfl⟩
     case round=>
      obtain⟨fK,i,S,sv,rfl,hi,nM,HSl,VN⟩:=hrel;by_cases ci:i<n
      ·have iE:=zw (i+1);obtain⟨x,hx⟩:=zG r i zAe;have qx:=HAt.out wr fK.out (i+2) x (by simpa using hx);rw[Nat.add_comm i 2]at qx;have hxs:x.size<4294967281:=by have:=QZ.out x (by simp[qT hx]);have:=jK.out;omega
       have afD:=zh (S9 (w:=wr) x hxs (HM.out.only (aI.out.same fK.out)));have HX:=zh hx;clear hx hxs;go_wp2_with fail;refine afD.out.mono ?_;rintro e w7 ⟨d,ok,rfl,hset,hd1,hd2,O7⟩;have pz:=zh (fK.out.same O7);have ZE:=zh (nM.out.dK O7);have XP:=zh hset;have HD:=zh (And.intro hd1 hd2);clear O7 afD hset hd1 hd2 qx nM fK;cases ok with
       |false=>
        have HE:Hid (∀W,O0 w1 W->jP B P (kG (fM (L.map LN.x)) line.toList) L w W (.returned (.bool false))):=fun W o=>uI.out W o (by
         rw[HR.out]
         split
         ·rw[Tz HX.out XP.out];rfl
         ·rfl)
        clear HR uI;go_wp2_with fail;go_ret;exact HE.out _ (pz.out.alloc _)
       |true=>exact zDV
      obtain rfl:i=n:=by omega
      have TU:Hid (nG (r.map ByteArray.toList)=some (S.map dM.toB)):=by have h:=VN.out;rw[qI (yG HN.out)]at h;exact h
      obtain⟨sa,sc,hsv,-,-⟩:=bg nM.out.own;have XO:sv.oneCell'=true:=by rw[hsv];rfl
      obtain⟨w9,dR⟩:=zB wr;rw[<-dR]at nM fK⊢;clear dR hsv;have HWr:Hid (kG (fM (L.map LN.x)) line.toList=some (fM (L.map LN.x)++[⟨a.toList,b.toList,S.map dM.toB,[]⟩])):=by exact zFD
      have qp:Hid (O0 w w9):=aI.out.same fK.out;have HK:Hid (∀W,O0 w9 W->W.cell? ⟨P,0,none⟩=some (.slice ao nl cap)/\W.cell? ⟨N,0,none⟩=some (.string a)/\W.cell? ⟨N,1,none⟩=some (.string b)/\W.cell? ⟨N,2,none⟩=some sv/\W.cell? ⟨N,3,none⟩=some (.slice none 0 0)):=fun W o=>by exact zDq
      have FU:Hid (∀W,O0 w9 W->W.ownsRow 0 83 4 (.slice ao nl cap) (nl) (gJ L)):=fun W o=>by exact zFO
      have Ih:Hid (∀W,Only (fun k=>(Value.slice ao nl cap).ownBlock=some k) w9 W->W.cell? ⟨P,0,none⟩=some (.slice ao nl cap)/\W.frozen? ⟨P,0,none⟩=false):=fun W o=>by exact zDx
      have Ce:Hid (∀w10 rv',w10.ownsRow 0 83 4 rv' (nl+1) (gJ L++[.string a,.string b,sv,.slice none 0 0])->Only (fun k=>(Value.slice ao nl cap).ownBlock=some k) w9 w10->(∀k,rv'.ownBlock=some k->(Value.slice ao nl cap).ownBlock=some k\/w9.heap.size<=k)->jP B P (kG (fM (L.map LN.x)) line.toList) L w (w10.setCell ⟨P,0,none⟩ rv') (.returned (.bool true))):=fun w10 rv' r1 o10 r3=>
       DU QO.out qp.out pO.out EU.out ⟨nM.out.blk,nM.out.own,nM.out.oks,fun k hk=>qR (qR EU.out aI.out.size) (nM.out.new k hk)⟩ HKa.out HKb.out zDC zB6 zCw HWr.out
      have hNg:∀k,(Value.slice ao nl cap).ownBlock=some k->k≠N:=fun k hk e=>by exact zFJ
      have HKA:Hid (∀W,Only (fun k=>(Value.slice ao nl cap).ownBlock=some k) w9 W->W.cell? ⟨P,0,none⟩=some (.slice ao nl cap)/\W.cell? ⟨N,0,none⟩=some (.string a)/\W.cell? ⟨N,1,none⟩=some (.string b)/\W.cell? ⟨N,2,none⟩=some sv/\W.cell? ⟨N,3,none⟩=some (.slice none 0 0)):=fun W o=>by exact zD2
      have hS0:=HK.out w9.drew (zr.drew);have hnl:nl<=23:=zAA;clear HR uI HAt hNg;go_wp2_with fail;refine dn (n:=11) (E:=fun j=>j==10) (S:=fun W=>W.cell? ⟨P,0,none⟩=some (.slice ao nl cap)/\W.cell? ⟨N,0,none⟩=some (.string a)/\W.cell? ⟨N,1,none⟩=some (.string b)/\W.cell? ⟨N,2,none⟩=some sv/\W.cell? ⟨N,3,none⟩=some (.slice none 0 0)) zk rfl hS0 (fun hHeld=>?_);refine tW 0 ?_;refine tW 1 ?_;refine tW 2 ?_;refine tW 3 ?_;refine tK 4 ?_;refine tK 5 ?_;refine tO 6 fun K hK=>?_;go_simp;refine hK.out _ _ ?_ (fun hHeld=>?_);·exact zF6
      clear hK K;try simp only[Act.put,fA,fB,dW,dX,dY]
      refine tO 7 fun K hK=>?_;(refine Nr KO (by rfl) (.tmp 90) (.tmp 92) (by rfl) (by rfl) (FU.out _ zC5) (by rfl) (news:=[.string a,.string b,sv,.slice none 0 0]) (by rfl) zDI (fun ad hd j u hu=>by cases hd;exact uD zDJ hu) zDF zAA zHP ?_;intro VG cap5 w10 r5 o5 nr5;have oA:Only (fun k=>(Value.slice ao nl cap).ownBlock=some k) w9 w10:=Only.trans zAK o5 (fun k hk=>.inl hk);have rA:∀k,(Value.slice VG (nl+1) cap5).ownBlock=some k->(Value.slice ao nl cap).ownBlock=some k\/w9.heap.size<=k:=fun k hk=>by(rcases nr5 k hk with h|h;exact Or.inl h;exact Or.inr zHO));exact zDW
    subst hL0;obtain⟨n0,hn0⟩:=ze L0.length;have apD:nl=n0+1:=by rw[<-Ak.out,qK,hn0];rfl
    subst apD;have hrw:=pO.out;rw[Oq.out]at hrw;obtain⟨g,cap',oK,-,-⟩:=gQ hrw.own (by rw[Ak.out];omega);simp only[qU,true_and]at oK;obtain⟨rfl,rfl⟩:=oK;have hnm:∀W,O0 w1 W->W.cell? ⟨g,n0*4,none⟩=some (.string m.x.name):=fun W o=>by have h3:=(hrw.dK (aI.out.same o)).own;rw[Ak.out]at h3;rw[h3.cellAt (n0*4) zAA];exact zK (L0++[m]) n0 m (by rw[<-hn0];simp) 0 _ rfl
    have En:=zh hnm;have hcP:w3.cell? ⟨P,0,none⟩=some (.slice (some ⟨g,0,none⟩) (n0+1) cap):=by rw[World.cell?_of_block (w:=w) ((aI.out.same kD.out).block _ (World.block_lt_of_cell? _ _ HCP.out) (fun f=>f)),HCP.out]
    have TV:=zh (Tc hcP zAA);clear hcP hrw hnm hn0;go_wp2_with fail;refine TV.out.mono ?_;rintro e w4 ⟨rfl,O4⟩;have Ej:=zh (kD.out.same O4);have q0:=HAt.out w4 Ej.out 0 a rfl;have q2:=En.out w4 Ej.out;clear O4 TV kD;cases hlt:decide (m.x.name.toList<a.toList)with
    |false=>have HE:=zh (uI.out w4 Ej.out (by rw[HR.out,if_neg (by rw[FT,hlt];simp)]));have hbl:Op.bytesLess m.x.name.toList a.toList=false:=zCW;have HE2:Hid (∀k,jP B P (kG (fM ((L0++[m]).map LN.x)) line.toList) (L0++[m]) w (w4.drewN k) (.returned (.bool false))):=fun k=>uI.out _ (Ej.out.drewN k) (by rw[HR.out,if_neg (by rw[FT,hlt];simp)]);clear hlt HR HE;go_wp2_with fail;go_quiet (fail);go_wp2_with fail;go_ret;exact HE2.out _
    |true=>
     have QA:Hid (Dj (fM ((L0++[m]).map LN.x)) a.toList=true):=by rw[Hid,FT,hlt]
     have hbl:Op.bytesLess m.x.name.toList a.toList=true:=zCW;clear hlt;go_wp2_with fail;go_quiet (fail);go_wp2_with fail;obtain⟨w5,hw5⟩:=ze (w4.drewN nq);have xK:Hid (O0 w1 w5):=by rw[<-hw5];exact Ej.out.drewN _
     rw[hw5];clear hw5 Ej q0 q2 hbl;have q0:=HAt.out w5 xK.out 0 a rfl;have q1:=HAt.out w5 xK.out 1 b rfl;have b5:bl<w5.heap.size:=Nat.lt_of_lt_of_le amd.out xK.out.size;go_region;have hN6:((w5.alloc (.cells #[.string a,.string b,.slice none 0 0,.slice none 0 0] 83)).drew).heap[w5.heap.size]? =some (.cells #[.string a,.string b,.slice none 0 0,.slice none 0 0] 83 (0,0)):=qL _ _;have hO6:O0 w1 ((w5.alloc (.cells #[.string a,.string b,.slice none 0 0,.slice none 0 0] 83)).drew):=(xK.out.alloc _).drew;have hNs:w1.heap.size<=w5.heap.size:=xK.out.size;obtain⟨N,hN⟩:=ze w5.heap.size;obtain⟨w6,hw6⟩:=ze ((w5.alloc (.cells #[.string a,.string b,.slice none 0 0,.slice none 0 0] 83)).drew);rw[hN]at hN6 hNs⊢;rw[hw6]at hN6 hO6⊢;have Gz:=zh hO6;have BJ:Hid (oD w1.heap.size w6 N a b (.slice none 0 0) []):=show oD _ _ _ _ _ _ _ from⟨hN6,World.ownsRow_nil _ _ _ _,(fun _ h=>by cases h),(fun k hk=>by simp[Value.ownBlock]at hk)⟩;have HNs:Hid (w1.heap.size<=N):=hNs;clear hN6 hO6 hNs hw6 hN q0 q1 b5 xK;by_cases cn:n=0
     ·obtain rfl:r=[]:=yF (by rw[HN.out,cn]);subst cn;have TU:Hid (nG (([]:List Str).map ByteArray.toList)=some (([]:List dM).map dM.toB)):=rfl;have nM:=BJ;go_wp2_with fail;go_loopw [68] (fun vi wr=>Hid (w6=wr)/\vi= .int .i64 0) (fun v _=>0);case atStart=>exact⟨rfl,rfl⟩
      case round=>
       obtain⟨hw,rfl⟩:=hrel;obtain rfl:=hw.out;obtain⟨w9,dR⟩:=zB w6;have fK:=Gz;rw[<-dR]at nM fK⊢;clear dR;have HWr:Hid (kG (fM ((L0++[m]).map LN.x)) line.toList=some (fM ((L0++[m]).map LN.x)++[⟨a.toList,b.toList,([]:List dM).map dM.toB,[]⟩])):=by exact zFD
       have qp:Hid (O0 w w9):=aI.out.same fK.out;have HK:Hid (∀W,O0 w9 W->W.cell? ⟨P,0,none⟩=some (.slice (some ⟨g,0,none⟩) (n0+1) cap)/\W.cell? ⟨N,0,none⟩=some (.string a)/\W.cell? ⟨N,1,none⟩=some (.string b)/\W.cell? ⟨N,2,none⟩=some (.slice none 0 0)/\W.cell? ⟨N,3,none⟩=some (.slice none 0 0)):=fun W o=>by exact zDq
       have FU:Hid (∀W,O0 w9 W->W.ownsRow 0 83 4 (.slice (some ⟨g,0,none⟩) (n0+1) cap) ((n0+1)) (gJ (L0++[m]))):=fun W o=>by exact zFO
       have Ih:Hid (∀W,Only (fun k=>(Value.slice (some ⟨g,0,none⟩) (n0+1) cap).ownBlock=some k) w9 W->W.cell? ⟨P,0,none⟩=some (.slice (some ⟨g,0,none⟩) (n0+1) cap)/\W.frozen? ⟨P,0,none⟩=false):=fun W o=>by exact zDx
       have Ce:Hid (∀w10 rv',w10.ownsRow 0 83 4 rv' ((n0+1)+1) (gJ (L0++[m])++[.string a,.string b,(.slice none 0 0),.slice none 0 0])->Only (fun k=>(Value.slice (some ⟨g,0,none⟩) (n0+1) cap).ownBlock=some k) w9 w10->(∀k,rv'.ownBlock=some k->(Value.slice (some ⟨g,0,none⟩) (n0+1) cap).ownBlock=some k\/w9.heap.size<=k)->jP B P (kG (fM ((L0++[m]).map LN.x)) line.toList) (L0++[m]) w (w10.setCell ⟨P,0,none⟩ rv') (.returned (.bool true))):=fun w10 rv' r1 o10 r3=>
        DU QO.out qp.out pO.out EU.out ⟨nM.out.blk,nM.out.own,nM.out.oks,fun k hk=>qR (qR EU.out aI.out.size) (nM.out.new k hk)⟩ HKa.out HKb.out zDC zB6 zCw HWr.out
       have hNg:∀k,(Value.slice (some ⟨g,0,none⟩) (n0+1) cap).ownBlock=some k->k≠N:=fun k hk e=>by exact zFJ
       have HKA:Hid (∀W,Only (fun k=>(Value.slice (some ⟨g,0,none⟩) (n0+1) cap).ownBlock=some k) w9 W->W.cell? ⟨P,0,none⟩=some (.slice (some ⟨g,0,none⟩) (n0+1) cap)/\W.cell? ⟨N,0,none⟩=some (.string a)/\W.cell? ⟨N,1,none⟩=some (.string b)/\W.cell? ⟨N,2,none⟩=some (.slice none 0 0)/\W.cell? ⟨N,3,none⟩=some (.slice none 0 0)):=fun W o=>by exact zD2
       have hS0:=HK.out w9.drew (zr.drew);have hnl:(n0+1)<=23:=zAA;clear HR uI HAt hNg;go_wp2_with fail;refine dn (n:=11) (E:=fun j=>j==10) (S:=fun W=>W.cell? ⟨P,0,none⟩=some (.slice (some ⟨g,0,none⟩) (n0+1) cap)/\W.cell? ⟨N,0,none⟩=some (.string a)/\W.cell? ⟨N,1,none⟩=some (.string b)/\W.cell? ⟨N,2,none⟩=some (.slice none 0 0)/\W.cell? ⟨N,3,none⟩=some (.slice none 0 0)) zk rfl hS0 (fun hHeld=>?_);refine tW 0 ?_;refine tW 1 ?_;refine tW 2 ?_;refine tW 3 ?_;refine tK 4 ?_;refine tK 5 ?_;refine tO 6 fun K hK=>?_;go_simp;refine hK.out _ _ ?_ (fun hHeld=>?_);·exact zF6
       clear hK K;try simp only[Act.put,fA,fD,fB,dW,dX,dY]
       refine tO 7 fun K hK=>?_;(refine Nr KO (by rfl) (.tmp 90) (.tmp 92) (by rfl) (by rfl) (FU.out _ zC5) (by rfl) (news:=[.string a,.string b,(.slice none 0 0),.slice none 0 0]) (by rfl) zDI (fun ad hd j u hu=>by cases hd;exact uD zDJ hu) zDF zAA zHP ?_;intro VG cap5 w10 r5 o5 nr5;have oA:Only (fun k=>(Value.slice (some ⟨g,0,none⟩) (n0+1) cap).ownBlock=some k) w9 w10:=Only.trans zAK o5 (fun k hk=>.inl hk);have rA:∀k,(Value.slice VG ((n0+1)+1) cap5).ownBlock=some k->(Value.slice (some ⟨g,0,none⟩) (n0+1) cap).ownBlock=some k\/w9.heap.size<=k:=fun k hk=>by(rcases nr5 k hk with h|h;exact Or.inl h;exact Or.inr zHO));exact zDW
     have mP:¬((n:Int)+2=2):=by omega
     have cn3:(2:Int)<=(n:Int)+2:=zAA;have cn4:¬n+2=2:=zAA;have cn5:2<=n+2:=zAA;have cn6:n+2-2=n:=zAA;go_wp2_with fail;go_loopw [68] (fun vi wr=>Hid (O0 w1 wr)/\∃(i:Nat) (S:List dM) (sv:Value),vi= .int .i64 i/\i<=n/\Hid (oD w1.heap.size wr N a b sv S)/\Hid (S.length=i)/\Hid (nG ((r.take i).map ByteArray.toList)=some (S.map dM.toB))) (fun v _=>n-(RowKit.intOf v).toNat);case atStart=>exact⟨Gz,0,[],_,rfl,qE _,BJ,rfl,rfl⟩
     case round=>
      obtain⟨fK,i,S,sv,rfl,hi,nM,HSl,VN⟩:=hrel;by_cases ci:i<n
      ·have iE:=zw (i+1);obtain⟨x,hx⟩:=zG r i zAe;have qx:=HAt.out wr fK.out (i+2) x (by simpa using hx);rw[Nat.add_comm i 2]at qx;have hxs:x.size<4294967281:=by have:=QZ.out x (by simp[qT hx]);have:=jK.out;omega
       have afD:=zh (S9 (w:=wr) x hxs (HM.out.only (aI.out.same fK.out)));have HX:=zh hx;clear hx hxs;go_wp2_with fail;refine afD.out.mono ?_;rintro e w7 ⟨d,ok,rfl,hset,hd1,hd2,O7⟩;have pz:=zh (fK.out.same O7);have ZE:=zh (nM.out.dK O7);have XP:=zh hset;have HD:=zh (And.intro hd1 hd2);clear O7 afD hset hd1 hd2 qx nM fK;cases ok with
       |false=>
        have HE:Hid (∀W,O0 w1 W->jP B P (kG (fM ((L0++[m]).map LN.x)) line.toList) (L0++[m]) w W (.returned (.bool false))):=fun W o=>uI.out W o (by
         rw[HR.out]
         split
         ·rw[Tz HX.out XP.out];rfl
         ·rfl)
        clear HR uI;go_wp2_with fail;go_ret;exact HE.out _ (pz.out.alloc _)
       |true=>exact zDV
      obtain rfl:i=n:=by omega
      have TU:Hid (nG (r.map ByteArray.toList)=some (S.map dM.toB)):=by have h:=VN.out;rw[qI (yG HN.out)]at h;exact h
      obtain⟨sa,sc,hsv,-,-⟩:=bg nM.out.own;have XO:sv.oneCell'=true:=by rw[hsv];rfl
      obtain⟨w9,dR⟩:=zB wr;rw[<-dR]at nM fK⊢;clear dR hsv;have HWr:Hid (kG (fM ((L0++[m]).map LN.x)) line.toList=some (fM ((L0++[m]).map LN.x)++[⟨a.toList,b.toList,S.map dM.toB,[]⟩])):=by exact zFD
      have qp:Hid (O0 w w9):=aI.out.same fK.out;have HK:Hid (∀W,O0 w9 W->W.cell? ⟨P,0,none⟩=some (.slice (some ⟨g,0,none⟩) (n0+1) cap)/\W.cell? ⟨N,0,none⟩=some (.string a)/\W.cell? ⟨N,1,none⟩=some (.string b)/\W.cell? ⟨N,2,none⟩=some sv/\W.cell? ⟨N,3,none⟩=some (.slice none 0 0)):=fun W o=>by exact zDq
      have FU:Hid (∀W,O0 w9 W->W.ownsRow 0 83 4 (.slice (some ⟨g,0,none⟩) (n0+1) cap) ((n0+1)) (gJ (L0++[m]))):=fun W o=>by exact zFO
      have Ih:Hid (∀W,Only (fun k=>(Value.slice (some ⟨g,0,none⟩) (n0+1) cap).ownBlock=some k) w9 W->W.cell? ⟨P,0,none⟩=some (.slice (some ⟨g,0,none⟩) (n0+1) cap)/\W.frozen? ⟨P,0,none⟩=false):=fun W o=>by exact zDx
      have Ce:Hid (∀w10 rv',w10.ownsRow 0 83 4 rv' ((n0+1)+1) (gJ (L0++[m])++[.string a,.string b,sv,.slice none 0 0])->Only (fun k=>(Value.slice (some ⟨g,0,none⟩) (n0+1) cap).ownBlock=some k) w9 w10->(∀k,rv'.ownBlock=some k->(Value.slice (some ⟨g,0,none⟩) (n0+1) cap).ownBlock=some k\/w9.heap.size<=k)->jP B P (kG (fM ((L0++[m]).map LN.x)) line.toList) (L0++[m]) w (w10.setCell ⟨P,0,none⟩ rv') (.returned (.bool true))):=fun w10 rv' r1 o10 r3=>
       DU QO.out qp.out pO.out EU.out ⟨nM.out.blk,nM.out.own,nM.out.oks,fun k hk=>qR (qR EU.out aI.out.size) (nM.out.new k hk)⟩ HKa.out HKb.out zDC zB6 zCw HWr.out
      have hNg:∀k,(Value.slice (some ⟨g,0,none⟩) (n0+1) cap).ownBlock=some k->k≠N:=fun k hk e=>by exact zFJ
      have HKA:Hid (∀W,Only (fun k=>(Value.slice (some ⟨g,0,none⟩) (n0+1) cap).ownBlock=some k) w9 W->W.cell? ⟨P,0,none⟩=some (.slice (some ⟨g,0,none⟩) (n0+1) cap)/\W.cell? ⟨N,0,none⟩=some (.string a)/\W.cell? ⟨N,1,none⟩=some (.string b)/\W.cell? ⟨N,2,none⟩=some sv/\W.cell? ⟨N,3,none⟩=some (.slice none 0 0)):=fun W o=>by exact zD2
      have hS0:=HK.out w9.drew (zr.drew);have hnl:(n0+1)<=23:=zAA;clear HR uI HAt hNg;go_wp2_with fail;refine dn (n:=11) (E:=fun j=>j==10) (S:=fun W=>W.cell? ⟨P,0,none⟩=some (.slice (some ⟨g,0,none⟩) (n0+1) cap)/\W.cell? ⟨N,0,none⟩=some (.string a)/\W.cell? ⟨N,1,none⟩=some (.string b)/\W.cell? ⟨N,2,none⟩=some sv/\W.cell? ⟨N,3,none⟩=some (.slice none 0 0)) zk rfl hS0 (fun hHeld=>?_);refine tW 0 ?_;refine tW 1 ?_;refine tW 2 ?_;refine tW 3 ?_;refine tK 4 ?_;refine tK 5 ?_;refine tO 6 fun K hK=>?_;go_simp;refine hK.out _ _ ?_ (fun hHeld=>?_);·exact zF6
      clear hK K;try simp only[Act.put,fA,fD,fB,dW,dX,dY]
      refine tO 7 fun K hK=>?_;(refine Nr KO (by rfl) (.tmp 90) (.tmp 92) (by rfl) (by rfl) (FU.out _ zC5) (by rfl) (news:=[.string a,.string b,sv,.slice none 0 0]) (by rfl) zDI (fun ad hd j u hu=>by cases hd;exact uD zDJ hu) zDF zAA zHP ?_;intro VG cap5 w10 r5 o5 nr5;have oA:Only (fun k=>(Value.slice (some ⟨g,0,none⟩) (n0+1) cap).ownBlock=some k) w9 w10:=Only.trans zAK o5 (fun k hk=>.inl hk);have rA:∀k,(Value.slice VG ((n0+1)+1) cap5).ownBlock=some k->(Value.slice (some ⟨g,0,none⟩) (n0+1) cap).ownBlock=some k\/w9.heap.size<=k:=fun k hk=>by(rcases nr5 k hk with h|h;exact Or.inl h;exact Or.inr zHO));exact zDW
end
end Go.Proofs.YtdmmebjjojimiaaGreatDoor
