/- Ch1 Ch2 Ch3 Ch4 Ch5, in one text. -/
import Derived.Test.YtdmmebjjojimiaaGreatDoorG04
import Derived.Test.YtdmmebjjojimiaaGreatDoorG08
import Derived.Test.YtdmmebjjojimiaaGreatDoorG09
import Derived.Test.YtdmmebjjojimiaaGreatDoorG10
import Derived.Deep.DeepCutAuto
set_option maxRecDepth 100000
set_option maxHeartbeats 8000000
set_option linter.all false
namespace Go.Proofs
theorem zBA{p:Prop}(h:p:=by repeat (first|exact Only.refl _ _|apply Only.drew|apply Only.alloc|apply Only.drewN)):p:=h
theorem zAd{p:Prop}(h:p:=by rw[oD.out];exact ci):p:=h
theorem zAi{p:Prop}(h:p:=by rw[hwB];exact zr.alloc _):p:=h
theorem zAn{p:Prop}(h:p:=by rw[hwB];exact qL wr _):p:=h
theorem zAz{p:Prop}(h:p:=by unfold intsOf;rw[qM];omega):p:=h
theorem zA6{p:Prop}(h:p:=by rw[qM,HN.out];exact qH _):p:=h
theorem zAA{p:Prop}(h:p:=by repeat (first|exact Only.refl _ _|apply Only.drew|apply Only.alloc|apply Only.drewN)):p:=h
theorem zBV{p:Prop}(h:p:=by simp[Value.ownBlock]at hk;(try simp);omega):p:=h
theorem zBY{p:Prop}(h:p:=by exact qL _ _):p:=h
theorem zB0{p:Prop}(h:p:=by
 have b0:W0.heap[w.heap.size]? =some (.cells #[.int .u8 x.1,.int .i64 x.2.1,.int .i64 x.2.2.1,.int .i64 x.2.2.2] 89):=by rw[hW0];exact qL w _
 have c0:=ak b0 ho (fun f=>f)
 exact⟨by rw[aj c0];rfl,by rw[aj c0];rfl,by rw[aj c0];rfl,by rw[aj c0];rfl⟩):p:=h
theorem zB1{p:Prop}(h:p:=by
 go_wp2_with fail
 go_roundw
 case rel=>exact⟨k+1,by first|rfl|go_num,by omega,HF⟩
 case measure=>simp[RowKit.intOf]<;>omega):p:=h
theorem zB5{p:Prop}(h:p:=by
 obtain⟨ao,cap,rfl,-,-⟩:=aH R
 cases ao with
 |none=>cases hk
 |some ad=>exact hk):p:=h
theorem zCC{p:Prop}(h:p:=by exact⟨by omega,by omega⟩):p:=h
theorem zCM{p:Prop}(h:p:=by
 obtain⟨g6,c6',rfl,-,-,-⟩:=s3
 clear s1 s2 H5 l9 fP
 go_wp2_with fail
 go_roundw
 case rel=>exact⟨k+1,by first|rfl|go_num,by omega,xG⟩
 case measure=>simp[RowKit.intOf]<;>omega):p:=h
theorem zCS{p:Prop}(h:p:=by exact⟨by rw[aj b1];rfl,by rw[aj b1];rfl⟩):p:=h
theorem zCe{p:Prop}(h:p:=by
 obtain⟨g,cap,rfl,-,-,hg⟩:=a
 simp[Value.ownBlock]at hk
 subst hk
 rcases hg with hg|hg
 ·exact N g hg
 ·have:=O.size;have:=o3.size;omega):p:=h
theorem zCo{p:Prop}(h:p:=by
 go_wp2_with fail
 ((try simp only[Exit.inBlock,Exit.then]);refine bodyPost_ret (results_none rfl _ _ _) rfl ?_)
 exact⟨rfl,fV.refl H0.out⟩):p:=h
theorem zC4{p:Prop}(h:p:=by
 obtain⟨Vj,Vk,H2,A2,Qo,O2⟩:=h2
 exact⟨Vj,Vk,H2,ht.trans A2 ho.size,hb.trans Qo ho.size,ho.Ag ht hb O2⟩):p:=h
theorem zD6{p:Prop}(h:p:=by
 refine⟨hlt,?_,?_,by omega⟩
 ·unfold Mine;rw[hV.fresh g zBB];simp
 ·unfold Mine;rw[hU.fresh g zBB];simp):p:=h
theorem zD7{p:Prop}(h:p:=by(try dsimp only)<;>(exact HK.out _ zBA)):p:=h
theorem zDY{p:Prop}(h:p:=by
 rw[hpk,jf.qg,jf.vH]
 exact dV.trans A1 O1 (dV.after ((Only.refl _ wr).alloc _) h)):p:=h
theorem zDb{p:Prop}(h:p:=by
 rw[EZ.out]
 exact lG.app H5.out ((Only.refl (fun _=>False) w5).alloc _) s1 s2 s3):p:=h
theorem zDm{p:Prop}(h:p:=by
 rcases qY.1 hz with rfl|hz
 ·exact zCC
 ·have:=HS.out z hz;exact⟨by omega,by omega⟩):p:=h
theorem zEF{p:Prop}(h:p:=by exact rM.out _ zAA):p:=h
end Go.Proofs
namespace Go.Proofs.YtdmmebjjojimiaaGreatDoor
open Go.RowKit
structure BJ where
 x1:Value
 x2:Value
 q:Value
 l:Value
 r:Value
structure kH (w:World) (gt gb:Tag) (c bt bb:Nat) (G:BJ) (T:Tab) (B:jf):Prop where
 blk:w.heap[c]? =some (.cells #[G.x1,G.x2,G.q,G.l,G.r,.pointer (some ⟨bt,0,none⟩),.pointer (some ⟨bb,0,none⟩)] 141 (0,0))
 tc:(gt c).1=0
 tc':(gb c).1=0
 tab:∃V,TabAt w gt bt V T
 G8:∃V,iE w gb bb V B
 Eh:∀k,Mine gt k->¬Mine gb k
def fV(w:World)(gt gb:Tag)(c bt bb:Nat)(G:BJ)(T:Tab)(B:jf)(w':World):Prop:=
 ∃gt' gb',kH w' gt' gb' c bt bb G T B/\Agree w gt gt'/\Agree w gb gb'/\Only (fun k=>Mine gt k\/Mine gb k) w w'
section
variable {w:World} {gt gb:Tag} {c bt bb:Nat} {G:BJ} {T:Tab} {B:jf}
theorem kH.only(H:kH w gt gb c bt bb G T B){w':World}{F:Nat->Prop}(ho:Only F w w')(h1:∀k,Mine gt k\/Mine gb k->¬F k)(h2:¬F c):kH w' gt gb c bt bb G T B:=by obtain⟨V,hV⟩:=H.tab;obtain⟨U,hU⟩:=H.G8;exact⟨ak H.blk ho h2,H.tc,H.tc',⟨V,hV.only ho (fun k hk=>h1 k (.inl hk))⟩,⟨U,hU.only ho (fun k hk=>h1 k (.inr hk))⟩,H.Eh⟩
theorem kH.aF(H:kH w gt gb c bt bb G T B){w':World}(ho:O0 w w'):kH w' gt gb c bt bb G T B:=H.only ho (fun _ _ f=>f) (fun f=>f)
theorem fV.refl(H:kH w gt gb c bt bb G T B):fV w gt gb c bt bb G T B w:=⟨gt,gb,H,Agree.refl _ _,Agree.refl _ _,Only.refl _ _⟩
theorem kH.XK(H:kH w gt gb c bt bb G T B){T2:Tab}{w':World}(h:jB w gt bt T2 w'):fV w gt gb c bt bb G T2 B w':=by
 obtain⟨g2,V2,H2,A2,O2⟩:=h;obtain⟨U,hU⟩:=H.G8;have hc:=bf H.blk;refine⟨g2,gb,⟨ak H.blk O2 (by unfold Mine;rw[H.tc];simp),by rw[A2 c hc];exact H.tc,H.tc',⟨V2,H2⟩,⟨U,hU.only O2 (fun k hk hm=>H.Eh k hm hk)⟩,fun k hk hm=>?_⟩,A2,Agree.refl _ _,O2.mono fun k hk=>.inl hk⟩;have hlt:k<w.heap.size:=by
  rcases yK k w.heap.size with h|h;·exact h
  exact absurd (hU.fresh k h) hm
 refine H.Eh k ?_ hm;unfold Mine at hk⊢;rwa[A2 k hlt]at hk
theorem kH.step_b(H:kH w gt gb c bt bb G T B){B2:jf}{w':World}(h:dV w gb bb B2 w'):fV w gt gb c bt bb G T B2 w':=by
 obtain⟨g2,V2,H2,A2,O2⟩:=h;obtain⟨U,hU⟩:=H.tab;have hc:=bf H.blk;refine⟨gt,g2,⟨ak H.blk O2 (by unfold Mine;rw[H.tc'];simp),H.tc,by rw[A2 c hc];exact H.tc',⟨U,hU.only O2 (fun k hk hm=>H.Eh k hk hm)⟩,⟨V2,H2⟩,fun k hk hm=>?_⟩,Agree.refl _ _,A2,O2.mono fun k hk=>.inr hk⟩;have hlt:k<w.heap.size:=by
  rcases yK k w.heap.size with h|h;·exact h
  exact absurd (hU.fresh k h) hk
 refine H.Eh k hk ?_;unfold Mine at hm⊢;rwa[A2 k hlt]at hm
theorem Only.Ag{w1 w2:World}{iT iU:Tag}(h:Only (fun k=>Mine gt k\/Mine gb k) w w1)(ht:Agree w gt iT)(hb:Agree w gb iU)(h1:Only (fun k=>Mine iT k\/Mine iU k) w1 w2):Only (fun k=>Mine gt k\/Mine gb k) w w2:=by
 refine h.trans h1 (fun k hk=>?_);rcases yK k w.heap.size with hlt|hge;·refine .inl ?_;unfold Mine at hk⊢;rwa[ht k hlt,hb k hlt]at hk
 exact .inr hge
theorem fV.trans{iT iU:Tag}{w1 w2:World}{T2:Tab}{B2:jf}(ht:Agree w gt iT)(hb:Agree w gb iU)(ho:Only (fun k=>Mine gt k\/Mine gb k) w w1)(h2:fV w1 iT iU c bt bb G T2 B2 w2):fV w gt gb c bt bb G T2 B2 w2:=by exact zC4
theorem fV.after{w1 w2:World}(o1:O0 w w1){T2:Tab}{B2:jf}(h:fV w1 gt gb c bt bb G T2 B2 w2):fV w gt gb c bt bb G T2 B2 w2:=fV.trans (Agree.refl _ _) (Agree.refl _ _) (o1.mono fun _ f=>f.elim) h
def Beside(w:World)(gt gb:Tag)(c:Nat)(v:Value):Prop:= ∀k,Value.blk v=some k->k<w.heap.size/\¬Mine gt k/\¬Mine gb k/\k≠c
theorem Beside.more{v:Value}(h:Beside w gt gb c v){w':World}{gt' gb':Tag}(hs:w.heap.size<=w'.heap.size)(ht:Agree w gt gt')(hb:Agree w gb gb'):Beside w' gt' gb' c v:=fun k hk=>by
 obtain⟨h1,h2,h3,h4⟩:=h k hk
 refine⟨by omega,?_,?_,h4⟩
 ·unfold Mine at h2⊢;rwa[ht k h1]
 ·unfold Mine at h3⊢;rwa[hb k h1]
theorem Beside.new(H:kH w gt gb c bt bb G T B){v:Value}{w':World}(hw:w.heap.size<=w'.heap.size)(h:∀k,Value.blk v=some k->w.heap.size<=k/\k<w'.heap.size):Beside w' gt gb c v:=fun k hk=>by
 obtain⟨h1,h2⟩:=h k hk
 obtain⟨V,hV⟩:=H.tab
 obtain⟨U,hU⟩:=H.G8
 have hc:=bf H.blk
 refine⟨h2,?_,?_,by omega⟩
 ·unfold Mine;rw[hV.fresh k h1];simp
 ·unfold Mine;rw[hU.fresh k h1];simp
theorem oZ{v:Value}{xs:List Int}(hI:Ints w v xs)(x:Int)(r:Bool)(hr:xs.contains x=r):Calls Tryz.prog 152 #[v,.int .i64 x] w fun e w'=>e= .returned (.bool r)/\w'=w:=by
 subst hr;obtain⟨ao,cap,rfl,_,_⟩:=hI.shape;by_cases h0:xs.length=0;·have hx:xs=[]:=yF h0;subst hx;exact Tryz.slices_Contains_int_empty ao cap x w
 obtain⟨b,o,rfl,_,c⟩:=hI.cells _ _ _ rfl zBB;have:=Tryz.slices_Contains_int b o xs.length cap xs x w (qH _) zBB c;rwa[qI (qH _)]at this
theorem qc(H:kH w gt gb c bt bb G T B):Calls Tryz.prog 66 #[.pointer (some ⟨c,0,none⟩)] w fun e w'=>e= .returned (.pointer (some ⟨bt,0,none⟩))/\w'=w:=by have q1:w.cell? ⟨c,5,none⟩=some (.pointer (some ⟨bt,0,none⟩)):=zAT;go_enter Tryz.func66,Tryz.ntmps66;exact zBd
theorem mX(H:kH w gt gb c bt bb G T B):Calls Tryz.prog 28 #[.pointer (some ⟨c,0,none⟩)] w fun e w'=>e= .returned (.pointer (some ⟨bb,0,none⟩))/\w'=w:=by have q1:w.cell? ⟨c,6,none⟩=some (.pointer (some ⟨bb,0,none⟩)):=zAT;go_enter Tryz.func28,Tryz.ntmps28;exact zBd
theorem sN(H:kH w gt gb c bt bb G T B){l:List Int}(hl:Ints w G.l l)(hb:l.length<=1099511627776):Calls Tryz.prog 74 #[.pointer (some ⟨c,0,none⟩)] w fun e w'=> ∃v',e= .returned v'/\w'.ownsRow 0 3 1 v' l.length (l.map cI)/\(∀k,v'.ownBlock=some k->w.heap.size<=k)/\O0 w w':=by have q1:w.cell? ⟨c,3,none⟩=some G.l:=zAT;have hC:=zh (Cb hl hb);obtain⟨ao,cap,e,-,-⟩:=hl.shape;rw[e]at q1 hC;clear hl;go_enter Tryz.func74,Tryz.ntmps74;go_wp2_with fail;refine hC.out.mono ?_;rintro e w1 ⟨v,rfl,r1,r2,r3⟩;have HR:=zh (And.intro r1 (And.intro r2 r3));obtain⟨av,cv,rfl,-,-⟩:=aH r1;clear r1 r2 r3;go_wp2_with fail;go_ret;exact⟨_,rfl,HR.out⟩
theorem Jd(H:kH w gt gb c bt bb G T B){x:At}(hx:kC x)(r:Int)(hr:(T.num x).2=r):Calls Tryz.prog 75 #[.pointer (some ⟨c,0,none⟩),fH x] w fun e w'=>e= .returned (.int .i64 r)/\fV w gt gb c bt bb G (T.num x).1 B w':=by
 obtain⟨W0,hW0⟩:=zB (w.alloc (.cells #[.int .u8 x.1,.int .i64 x.2.1,.int .i64 x.2.2.1,.int .i64 x.2.2.2] 89));have o0:O0 w W0:=by rw[hW0];exact zr.alloc _
 have HK:Hid (∀W,O0 W0 W->W.cell? ⟨w.heap.size,0,none⟩=some (.int .u8 x.1)/\W.cell? ⟨w.heap.size,1,none⟩=some (.int .i64 x.2.1)/\W.cell? ⟨w.heap.size,2,none⟩=some (.int .i64 x.2.2.1)/\W.cell? ⟨w.heap.size,3,none⟩=some (.int .i64 x.2.2.2)):=fun W ho=>by exact zB0
 have HT:Hid (∀W,O0 W0 W->Calls Tryz.prog 66 #[.pointer (some ⟨c,0,none⟩)] W fun e w'=>e= .returned (.pointer (some ⟨bt,0,none⟩))/\w'=W):=fun W hW=>qc (H.aF (o0.same hW));have HN:Hid (∀W,O0 W0 W->Calls Tryz.prog 151 #[.pointer (some ⟨bt,0,none⟩),fH x] W fun e w'=>e= .returned (.int .i64 r)/\fV w gt gb c bt bb G (T.num x).1 B w'):=fun W hW=>by have h2:=H.aF (o0.same hW);obtain⟨V,hV⟩:=h2.tab;refine(EW hV hx r hr).mono fun e w' ⟨he,ht⟩=>⟨he,?_⟩;exact fV.after (o0.same hW) (h2.XK ht)
 have hS0:=HK.out W0.drew (zr.drew);unfold fH at*;clear o0 H hr;go_enter Tryz.func75,Tryz.ntmps75;go_wp2_with fail;rw[<-hW0];clear hW0;refine aT (n:=5) (E:=fun j=>j==3) (S:=fun W=>W.cell? ⟨w.heap.size,0,none⟩=some (.int .u8 x.1)/\W.cell? ⟨w.heap.size,1,none⟩=some (.int .i64 x.2.1)/\W.cell? ⟨w.heap.size,2,none⟩=some (.int .i64 x.2.2.1)/\W.cell? ⟨w.heap.size,3,none⟩=some (.int .i64 x.2.2.2)) zk rfl hS0 (fun hHeld=>?_);refine tW 0 ?_;refine tK 2 ?_;refine tO 1 fun K hK=>?_;(go_simp;refine(HT.out _ (by exact zBA)).mono ?_;rintro e w5 ⟨rfl,rfl⟩;try go_wp2_with fail);refine hK.out _ _ ?_ (fun hHeld=>?_);·exact zD7
 clear hK K;try simp only[Act.put,dL,dM,dN,dO,dP]
 refine eY (rs:=[3]) zk zAE ?_;refine bD.late (i:=3) rfl zk (fun K hK=>?_) ?_
 ·(go_simp;refine(HN.out _ (by exact zBA)).mono ?_;rintro e w6 ⟨rfl,o6⟩;try go_wp2_with fail);refine hK.out _ _ ?_;clear hK K;try simp only[Act.put,dL,dQ,dM,dN,dO,dP]
  refine tW 4 ?_ (hS:=.inl zk);refine aS zk ?_ _;go_wp2_with fail;go_ret;exact⟨rfl,o6⟩
 exact bD.nil
end
def jf.adds(B:jf)(l:List (List Int)):jf:=l.foldl jf.add B
theorem jf.qg(B:jf)(l m:List (List Int)):B.adds (l++m)=(B.adds l).adds m:=by simp[jf.adds]
theorem jf.vH(B:jf)(c:List Int):B.adds [c]=B.add c:=rfl
def iY(row:List Int)(i:Nat):List (List Int):=(row.drop (i+1)).map fun y=>[-(row.getD i 0),-y]
def kD(row:List Int)(i:Nat):List (List Int):=(List.range i).flatMap (iY row)
def mD(row:List Int):List (List Int):=kD row row.length
theorem vI(row:List Int)(i:Nat):kD row (i+1)=kD row i++iY row i:=by unfold kD;rw[List.range_succ,List.flatMap_append];simp
section
variable {w:World}
theorem Ii{P:Program}{t e:TypeId}{i:TypeInfo}(ht:P.underlying t=some (.slice e))(hi:P.info? e=some i)(hs:i.size=1)(b o m k cap:Nat)(hm:k<=m)(hc:m<=cap)(W:World)(z:Int)(hz:z=k):(Instr.slice t (.slice (some ⟨b,o,none⟩) m cap) (some (.int .i64 z)) none none).run P W= .ok (.slice (some ⟨b,if cap=k then o else o+k,none⟩) (m-k) (cap-k)) W:=by
 subst hz;have h1:(0:Int)<=(k:Int)/\(k:Int)<=(m:Int):=⟨by omega,by omega⟩;simp[Instr.slice,Instr.sliceBounds,Instr.sliceBound,run_underlying ht,sizeOf,typeInfo,hi,hs,asIntOf,Addr.add,hm];by_cases hcap:cap=k;·simp[hcap]
 simp[hcap]
theorem qh(b o m k cap:Nat)(hm:k<=m)(hc:m<=cap)(W:World)(z:Int)(hz:z=k):(Instr.slice 78 (.slice (some ⟨b,o,none⟩) m cap) (some (.int .i64 z)) none none).run Tryz.prog W= .ok (.slice (some ⟨b,if cap=k then o else o+k,none⟩) (m-k) (cap-k)) W:=by obtain⟨ii,zz,t1,t2,t3,-,-⟩:=kF.info;exact Ii (P:=Tryz.prog) kF.und t1 t3 b o m k cap hm hc W z hz
theorem Ints.XL{b o n cap:Nat}{xs:List Int}(h:Ints w (.slice (some ⟨b,o,none⟩) n cap) xs){k:Nat}(hk:k<=xs.length):Ints w (.slice (some ⟨b,if cap=k then o else o+k,none⟩) (n-k) (cap-k)) (xs.drop k):=by obtain⟨ao,c,he,hc1,hc2⟩:=h.shape;simp only[qU]at he;obtain⟨rfl,rfl,rfl⟩:=he;refine⟨⟨some ⟨b,if cap=k then o else o+k,none⟩,cap-k,by simp,by simp;omega,by omega⟩,fun ao' len' cap' hv hp=>?_,fun x hx=>h.range x (List.mem_of_mem_drop hx),fun len' cap' hv=>by simp at hv⟩;rw[List.length_drop]at hp;simp only[qU]at hv;obtain⟨rfl,-,-⟩:=hv;obtain⟨b',off,e2,hb,hc⟩:=h.cells _ _ _ rfl zBB;simp only[qG,qO,and_true]at e2;obtain⟨rfl,rfl⟩:=e2;refine⟨b,_,rfl,hb,fun i hi=>?_⟩;rw[List.length_drop]at hi;rw[if_neg zBB];have:=hc (k+i) zBB;rw[show o+k+i=o+(k+i) by omega,this];simp[List.getD,List.getElem?_drop]
theorem Ints.Ah{ao:Option Addr}{n cap:Nat}{xs:List Int}(h:Ints w (.slice ao n cap) xs){i:Nat}(hi:i<xs.length):∃b off,ao=some ⟨b,off,none⟩/\w.cell? ⟨b,off+i,none⟩=some (.int .i64 (xs.getD i 0)):=by obtain⟨b,off,e,_,hc⟩:=h.cells _ _ _ rfl zBB;exact⟨b,off,e,hc i hi⟩
theorem rC(w:World)(x y:Int)(hx:aO x)(hy:aO y):Ints (w.alloc (.cells #[.int .i64 x,.int .i64 y] 3)) (.slice (some ⟨w.heap.size,0,none⟩) 2 2) [x,y]:=by
 refine Ints.dF ?_ fun z hz=>?_;·have:=World.ownsRow_lit (base:=0) (e:=3) (size:=1) w #[.int .i64 x,.int .i64 y] 2 (qE _) zAH zAE;simpa using this
 simp at hz;rcases hz with rfl|rfl;·exact hx
 exact hy
variable {g:Tag} {b:Nat} {V:Nu} {B:jf}
theorem dV.after{w1 w2:World}(o1:O0 w w1){B2:jf}(h:dV w1 g b B2 w2):dV w g b B2 w2:=dV.trans (Agree.refl _ _) (o1.mono fun _ f=>f.elim) h
theorem XM(H:iE w g b V B){v:Value}{xs:List Int}(hI:Ints w v xs)(hN:rF g v xs)(hs:∀z∈xs,-1000000<=z/\z<=1000000)(hl:xs.length<=1000000):Calls Tryz.prog 154 #[.pointer (some ⟨b,0,none⟩),v] w fun e w'=>e= .returned (.tuple #[])/\dV w g b (B.adds (mD xs)) w':=by
 obtain⟨ao,cap,rfl,hc1,hc2⟩:=hI.shape;obtain⟨n,hn⟩:=ze xs.length;have HN:=zh hn;rw[hn]at hc1 hl hI hN⊢;have HI:=zh hI;have Kt:=zh hN;have HS:=zh hs;have H0:=zh (dV.refl H);clear hI hN hs hn H;go_enter Tryz.func154,Tryz.ntmps154;go_wp2_with fail;go_loopw [10] (fun vi wr=> ∃i:Nat,vi= .int .i64 i/\i<=n/\Hid (dV w g b (B.adds (kD xs i)) wr)) (fun v _=>n-(RowKit.intOf v).toNat);case atStart=>exact⟨0,rfl,qE _,H0⟩
 case round=>
  obtain⟨i,rfl,hi,HR⟩:=hrel;by_cases ci:i<n
  ·obtain⟨g1,V1,H1,A1,O1⟩:=HR.out;have hI1:=HI.out.mine Kt.out O1;have hi2:i<xs.length:=zAS;obtain⟨bb,off,rfl,hcell⟩:=hI1.Ah hi2;obtain⟨x,hx⟩:=ze (xs.getD i 0);have hxb:=HS.out x (by rw[<-hx];exact jP 0 hi2);rw[hx]at hcell;have jg:=zw (i+1);have ewx:=zw (-x);have hsl:=fun W=>qh bb off n (i+1) cap zAB hc1 W ((i:Int)+1) zBB;obtain⟨o',ho'⟩:∃o',o'=if cap=i+1 then off else off+(i+1):=⟨_,rfl⟩
   obtain⟨m,hm⟩:=ze (n-(i+1));obtain⟨c2,hc2'⟩:=ze (cap-(i+1));have HD:Hid (∀W,Only (Mine g) w W->Ints W (.slice (some ⟨bb,o',none⟩) m c2) (xs.drop (i+1))):=fun W hW=>by have:=(HI.out.mine Kt.out hW).XL (k:=i+1) zBB;rw[<-ho',hm,hc2']at this;exact this
   rw[<-ho',hm,hc2']at hsl;have HX:=zh hx;have hmn:m<=n:=zBB;have Hm:=zh hm;have uV:=zh ewx;clear hI1 ho' hm hc2' hx ewx H1 A1 O1;go_wp2_with fail;generalize wr=wo at*;have HR0:Hid (dV w g b ((B.adds (kD xs i)).adds ((iY xs i).take 0)) wo):=by simpa[jf.adds,Hid]using HR.out
   go_loopw [20] (fun vk wr=> ∃k:Nat,vk= .int .i64 k/\k<=m/\Hid (dV w g b ((B.adds (kD xs i)).adds ((iY xs i).take k)) wr)) (fun v _=>m-(RowKit.intOf v).toNat);case atStart=>exact⟨0,rfl,qE _,HR0⟩
   case round=>
    clear HR HR0 hcell;obtain⟨k,rfl,hk,HR⟩:=hrel;have hdl:(xs.drop (i+1)).length=m:=by rw[List.length_drop,HN.out,Hm.out]
    by_cases ck:k<m
    ·obtain⟨g1,V1,H1,A1,O1⟩:=HR.out;obtain⟨b2,off2,e2,hcell⟩:=(HD.out wr O1).Ah (i:=k) (by rw[hdl];exact ck);simp only[qG,qO,and_true]at e2;obtain⟨rfl,rfl⟩:=e2;obtain⟨y,hy⟩:=ze ((xs.drop (i+1)).getD k 0);have hyb:=HS.out y (by rw[<-hy];exact List.mem_of_mem_drop (jP 0 (by rw[hdl];exact ck)));rw[hy]at hcell;have hpk:(iY xs i).take (k+1)=(iY xs i).take k++[[-x,-y]]:=by
      have hlt:k<(xs.drop (i+1)).length:=by rw[hdl];exact ck
      unfold iY;have hk2:(xs.drop (i+1))[k]'hlt=y:=by rw[<-hy,qC,qA hlt];rfl
      rw[yL (by simpa using hlt),List.getElem_map,hk2];simp only[HX.out]
     have hAdd:=wG (H1.aF ((Only.refl (fun _=>False) wr).alloc (.cells #[.int .i64 (-x),.int .i64 (-y)] 3))) (rC wr (-x) (-y) ⟨by omega,by omega⟩ ⟨by omega,by omega⟩) zAE;have hfin:∀w',dV (wr.alloc (.cells #[.int .i64 (-x),.int .i64 (-y)] 3)) g1 b (((B.adds (kD xs i)).adds ((iY xs i).take k)).add [-x,-y]) w'->dV w g b ((B.adds (kD xs i)).adds ((iY xs i).take (k+1))) w':=fun w' h=>by exact zDY
     have Vl:=zw (k+1);have ewx:=uV.out;have ewy:=zw (-y);have HAdd:=zh hAdd;have HFin:=zh hfin;have HEk:=zh Vl;clear hpk hAdd hfin hy H1 A1 O1 Vl hdl;go_wp2_with fail;refine HAdd.out.mono ?_;rintro e w2 ⟨rfl,h2⟩;have HF:=zh (HFin.out w2 h2);have Vl:=HEk.out;clear h2 ewx ewy;exact zB1
    obtain rfl:m=k:=by omega
    have HR2:Hid (dV w g b (B.adds (kD xs (i+1))) wr):=by have:=HR.out;rw[qI (by unfold iY;rw[qM,hdl];exact qH _)]at this;rw[vI,jf.qg];exact this
    clear HR;go_wp2_with fail;go_roundw;case rel=>exact⟨i+1,by first|rfl|go_num,by omega,HR2⟩
    case measure=>simp[RowKit.intOf]<;>omega
  obtain rfl:n=i:=by omega
  go_wp2_with fail;go_end0;refine⟨rfl,?_⟩;have:=HR.out;unfold mD;rw[HN.out];exact this
end
def sO(node:Int)(row:List Int):List (List Int):=(-node::row)::(mD row++row.map fun n=>[-n,node])
def jf.one(B:jf)(node:Int)(row:List Int):jf:=if node=0\/row.contains 0=true then B else B.adds (sO node row)
section
variable {w:World} {gt gb:Tag} {c bt bb:Nat} {G:BJ} {T:Tab} {B:jf}
def wQ(gt gb:Tag)(v:Value)(xs:List Int):Prop:=0<xs.length->∀k,Value.blk v=some k->¬Mine gt k/\¬Mine gb k
theorem Ints.Ag{v:Value}{xs:List Int}(h:Ints w v xs)(hn:wQ gt gb v xs){w':World}(ho:Only (fun k=>Mine gt k\/Mine gb k) w w'):Ints w' v xs:=
 h.only' ho fun hp k hk hm=>by
  rcases hm with hm|hm
  ·exact(hn hp k hk).1 hm
  ·exact(hn hp k hk).2 hm
theorem wQ.b{v:Value}{xs:List Int}(hn:wQ gt gb v xs):rF gb v xs:=fun hp k hk=>by
 have:=(hn hp k hk).2
 unfold Mine at this
 exact Classical.not_not.1 this
theorem wQ.agree{v:Value}{xs:List Int}(hn:wQ gt gb v xs)(hI:Ints w v xs){gt' gb':Tag}(ht:Agree w gt gt')(hb:Agree w gb gb'):wQ gt' gb' v xs:=fun hp k hk=>by
 have hlt:=hI.lt hp hk
 have:=hn hp k hk
 unfold Mine at this⊢
 rwa[ht k hlt,hb k hlt]
theorem aaE(H:kH w gt gb c bt bb G T B){v:Value}{xs:List Int}(hI:Ints w v xs)(hN:wQ gt gb v xs)(hs:∀z∈xs,-1000000<=z/\z<=1000000)(hl:xs.length<=1000000):Calls Tryz.prog 154 #[.pointer (some ⟨bb,0,none⟩),v] w fun e w'=>e= .returned (.tuple #[])/\fV w gt gb c bt bb G T (B.adds (mD xs)) w':=by obtain⟨V,hV⟩:=H.G8;exact(XM hV hI hN.b hs hl).mono fun e w' ⟨he,h⟩=>⟨he,H.step_b h⟩
theorem nT{w:World}{e:TypeId}{g:Nat}{u:Value}(h:w.heap[g]? =some (.cells #[u] e)):w.ownsRow 0 e 1 (.slice (some ⟨g,0,none⟩) 1 1) 1 [u]:=
 ⟨rfl,.inr ⟨g,1,#[u],rfl,qE _,h,qH _,by unfold maxLen;omega,rfl,rfl⟩⟩
theorem kH.XO(H:kH w gt gb c bt bb G T B):w.cell? ⟨c,6,none⟩=some (.pointer (some ⟨bb,0,none⟩)):=by rw[aj H.blk];rfl
theorem Ku(H:kH w gt gb c bt bb G T B){v:Value}{xs:List Int}(hI:Ints w v xs)(hb:xs.length<=1099511627):Calls Tryz.prog 153 #[.pointer (some ⟨bb,0,none⟩),v] w fun e w'=>e= .returned (.tuple #[])/\fV w gt gb c bt bb G T (B.add xs) w':=by obtain⟨V,hV⟩:=H.G8;exact(wG hV hI hb).mono fun e w' ⟨he,h⟩=>⟨he,H.step_b h⟩
theorem ade(H:kH w gt gb c bt bb G T B){v:Value}{row:List Int}(hI:Ints w v row)(hn:wQ gt gb v row)(node:Int)(hb: -1000000<=node/\node<=1000000)(hs:∀z∈row,-1000000<=z/\z<=1000000)(hl:row.length<=1000000):Calls Tryz.prog 76 #[.pointer (some ⟨c,0,none⟩),.int .i64 node,v] w fun e w'=>e= .returned (.tuple #[])/\fV w gt gb c bt bb G T (B.one node row) w':=by
 obtain⟨ao,cap,rfl,hc1,hc2⟩:=hI.shape;obtain⟨n,hnl⟩:=ze row.length;have HN:=zh hnl;rw[hnl]at hc1 hl hI hn⊢;have HI:=zh hI;have Kt:=zh hn;have HS:=zh hs;have H0:=zh H;obtain⟨r0,hr0⟩:=ze (row.contains 0);have HR0:=zh hr0;have HC:=zh (oZ hI 0 r0 hr0);obtain⟨B2,hB2⟩:=ze (B.one node row);rw[hB2];have HB2:=zh hB2;clear hI hn hs hnl H hr0 hB2;go_enter Tryz.func76,Tryz.ntmps76;by_cases h0:node=0
 ·have hB:B2=B:=by rw[<-HB2.out];unfold jf.one;rw[if_pos (.inl h0)]
  subst hB;subst h0;exact zCo
 go_wp2_with fail;refine HC.out.mono ?_;rintro e w1 ⟨rfl,rfl⟩;cases r0 with
 |true=>
  have hB:B2=B:=by rw[<-HB2.out];unfold jf.one;rw[if_pos (.inr HR0.out)]
  subst hB;exact zCo
 |false=>
  have hB:B2=B.adds (sO node row):=by rw[<-HB2.out];unfold jf.one;rw[if_neg (by rw[HR0.out];simp[h0])]
  subst hB;have ewn:=zw (-node);have HK:Hid (∀W,O0 w1 W->W.cell? ⟨c,6,none⟩=some (.pointer (some ⟨bb,0,none⟩))):=fun W hW=>(H0.out.aF hW).XO;have hS0:=HK.out w1.drew (zr.drew);have rM:Hid (∀W,O0 w1 W->∀ad,ao=some ad->∀j u,(row.map cI)[j]? =some u->W.cell? (ad.add j)=some u):=fun W hW=>(HI.out.aF hW).news;have Ai:Hid (ao=none->n=0/\cap=0):=fun e=>HI.out.nil n cap (by rw[e]);have HLen:Hid ((row.map cI).length=n*1):=by rw[qM,HN.out,yH];exact rfl
  have lQ:Hid (∀W v2,O0 w1 W->W.ownsRow 0 3 1 v2 (1+n) ([cI (-node)]++row.map cI)->Calls Tryz.prog 153 #[.pointer (some ⟨bb,0,none⟩),v2] W fun e w'=>e= .returned (.tuple #[])/\fV w1 gt gb c bt bb G T (B.add (-node::row)) w'):=fun W v2 hW hown=>by
   have hI2:Ints W v2 (-node::row):=by
    refine Ints.dF ?_ fun z hz=>?_
    ·have e1:1+n=(-node::row).length:=by rw[qN,HN.out];omega
     rw[e1]at hown;simpa using hown
    exact zDm
   refine(Ku (H0.out.aF hW) hI2 (by rw[qN,HN.out];omega)).mono fun e w' ⟨he,h⟩=>⟨he,fV.after hW h⟩
  go_wp2_with fail;go_cut [] (fun wx=>fV w1 gt gb c bt bb G T (B.add (-node::row)) wx);case first=>
   refine aT (n:=10) (E:=fun j=>j==9) (S:=fun W=>W.cell? ⟨c,6,none⟩=some (.pointer (some ⟨bb,0,none⟩))) zk rfl hS0 (fun hHeld=>?_);refine tW 0 ?_;refine tW 1 ?_;refine tW 2 ?_;refine tK 3 ?_;refine tW 4 ?_;refine tW 5 ?_;refine tW 7 ?_;refine tO 6 fun K hK=>?_;go_simp;refine hK.out _ _ ?_ (fun hHeld=>?_);·exact zD7
   clear hK K;try simp only[Act.put,dL,dM,dN,dO,dP]
   refine tO 8 fun K hK=>?_;(refine Ci kF (by rfl) (.tmp 20) (.tmp 21) (by rfl) (by rfl) (nT zBY) (by rfl) HLen.out Ai.out zEF (by intro u hu;obtain⟨q,-,rfl⟩:=yD.1 hu;rfl) zBR (by decide) ?_;intro ao5 cap5 w5 r5 o5 Xe;have oA:O0 w1 w5:=Only.trans zBA o5 (fun k hk=>.inr zBV));refine hK.out _ _ ?_ (fun hHeld=>?_);·(try dsimp only)<;>(exact HK.out _ oA)
   clear hK K;try simp only[Act.put,dL,dQ,dM,dN,dO,dP]
   refine eY (rs:=[9]) zk zAE ?_;refine bD.late (i:=9) rfl zk (fun K hK=>?_) ?_
   ·(go_simp;refine(lQ.out _ _ oA r5).mono ?_;rintro e w7 ⟨rfl,h7⟩;try go_wp2_with fail);refine hK.out _ _ ?_;clear hK K;try simp only[Act.put,dL,dQ,dM,dN,dO,dP]
    refine aS zk ?_ _;go_wp2_with fail;go_meet;exact h7
   exact bD.nil
  case rest=>
   clear hS0 HK rM Ai HLen lQ;obtain⟨iT,iU,H1,A1,A1',O1⟩:=hcut;have hI1:=HI.out.Ag Kt.out O1;have hbc:=H1.XO;have HM:=zh (aaE H1 hI1 (Kt.out.agree HI.out A1 A1') HS.out (by rw[HN.out];exact hl));have HT1:Hid (∀w2,fV wc iT iU c bt bb G T ((B.add (-node::row)).adds (mD row)) w2->fV w1 gt gb c bt bb G T ((B.adds ((-node::row)::mD row)).adds ((row.map fun n=>[-n,node]).take 0)) w2):=fun w2 h=>fV.trans A1 A1' O1 h;clear H1 A1 A1' O1 hI1;go_wp2_with fail;refine HM.out.mono ?_;rintro e w2 ⟨rfl,h2⟩;have H3:=zh (HT1.out w2 h2);clear h2 hbc HM HT1;go_wp2_with fail;go_loopw [32] (fun vk wr=> ∃k:Nat,vk= .int .i64 k/\k<=n/\Hid (fV w1 gt gb c bt bb G T ((B.adds ((-node::row)::mD row)).adds ((row.map fun n=>[-n,node]).take k)) wr)) (fun v _=>n-(RowKit.intOf v).toNat);case atStart=>exact⟨0,rfl,qE _,H3⟩
   case round=>
    clear H3;obtain⟨k,rfl,hk,HR⟩:=hrel;by_cases ck:k<n
    ·obtain⟨iT,iU,H1,A1,A1',O1⟩:=HR.out;have hbc:=H1.XO;have hkr:k<row.length:=by rw[HN.out];exact ck
     obtain⟨b2,off2,rfl,hcell⟩:=(HI.out.Ag Kt.out O1).Ah hkr;obtain⟨y,hy⟩:=ze (row.getD k 0);have hyb:=HS.out y (by rw[<-hy];exact jP 0 hkr);rw[hy]at hcell;have hpk:(row.map fun n=>[-n,node]).take (k+1)=(row.map fun n=>[-n,node]).take k++[[-y,node]]:=by
      rw[yL (by simpa using hkr),List.getElem_map];have hk2:row[k]'hkr=y:=by rw[<-hy,qC,qA hkr];rfl
      rw[hk2]
     have hAdd:=Ku (H1.aF ((Only.refl (fun _=>False) wr).alloc (.cells #[.int .i64 (-y),.int .i64 node] 3))) (rC wr (-y) node ⟨by omega,by omega⟩ ⟨by omega,by omega⟩) zAE;have hfin:∀w',fV (wr.alloc (.cells #[.int .i64 (-y),.int .i64 node] 3)) iT iU c bt bb G T (((B.adds ((-node::row)::mD row)).adds ((row.map fun n=>[-n,node]).take k)).add [-y,node]) w'->fV w1 gt gb c bt bb G T ((B.adds ((-node::row)::mD row)).adds ((row.map fun n=>[-n,node]).take (k+1))) w':=fun w' h=>by rw[hpk,jf.qg,jf.vH];exact fV.trans A1 A1' O1 (fV.after ((Only.refl _ wr).alloc _) h)
     have Vl:=zw (k+1);have ewy:=zw (-y);have HAdd:=zh hAdd;have HFin:=zh hfin;have HEk:=zh Vl;clear hpk hAdd hfin hy H1 A1 A1' O1 Vl;go_wp2_with fail;refine HAdd.out.mono ?_;rintro e w3 ⟨rfl,h3⟩;have HF:=zh (HFin.out w3 h3);have Vl:=HEk.out;clear h3 ewy;exact zB1
    obtain rfl:n=k:=by omega
    go_wp2_with fail;go_end0;refine⟨rfl,?_⟩;have:=HR.out;rw[qI zA6]at this;have e1:B.adds (sO node row)=(B.adds ((-node::row)::mD row)).adds (row.map fun n=>[-n,node]):=by rw[<-jf.qg];rfl
    rw[e1];exact this
end
def Tab.nums(T:Tab):List At->Tab×List Int
 | []=>(T,[])
 |a::r=>(((T.num a).1.nums r).1,(T.num a).2::((T.num a).1.nums r).2)
theorem Tab.mY:∀(l:List At) (T:Tab) (a:At),T.nums (l++[a])=(((T.nums l).1.num a).1,(T.nums l).2++[((T.nums l).1.num a).2])
 | [],T,a=>rfl
 |b::r,T,a=>by
  rw[List.cons_append,Tab.nums,Tab.mY r,Tab.nums]
  rfl
theorem Tab.iO:∀(l:List At) (T:Tab),(T.nums l).2.length=l.length
 | [],_=>rfl
 |b::r,T=>by rw[Tab.nums,qN,qN,Tab.iO r]
structure Tab.Ok (T:Tab):Prop where
 lim:T.limit<=65536
 len:T.l.length<=T.limit
theorem Tab.lS{T:Tab}(h:T.Ok)(a:At):(T.num a).1.Ok/\0<=(T.num a).2/\(T.num a).2<=65536:=by
 have h1:=h.lim;have h2:=h.len;unfold Tab.num;split;·rename_i hm;refine⟨h,by simp,?_⟩;have:=List.idxOf_lt_length_of_mem hm;simp only[numOf,if_pos hm];omega
 split;·exact⟨⟨h1,h2⟩,by simp,by simp⟩
 rename_i hlt;refine⟨⟨h1,?_⟩,by simp;omega,by simp;omega⟩;simp;omega
theorem Tab.nG:∀(l:List At) {T:Tab},T.Ok->(T.nums l).1.Ok/\∀z∈(T.nums l).2,0<=z/\z<=65536
 | [],T,h=>⟨h,fun z hz=>by cases hz⟩
 |a::r,T,h=>by
  obtain⟨h1,h2⟩:=Tab.lS h a
  obtain⟨h3,h4⟩:=Tab.nG r h1
  refine⟨h3,fun z hz=>?_⟩
  rw[Tab.nums]at hz
  rcases qY.1 hz with rfl|hz
  ·exact h2
  ·exact h4 z hz
def aG(p:Nat):At:=(1,p,0,0)
def iZ(p i:Nat):At:=(2,p,i,0)
def jI(p j k:Nat):At:=(3,p,j,k)
def gJ(p n:Nat):List At:=(List.range n).map (iZ p)
def gV(p j n:Nat):List At:=(List.range n).map (jI p j)
theorem QN(p n:Nat):gJ p (n+1)=gJ p n++[iZ p n]:=by unfold gJ;rw[List.range_succ,List.map_append];rfl
theorem QO(p j n:Nat):gV p j (n+1)=gV p j n++[jI p j n]:=by unfold gV;rw[List.range_succ,List.map_append];rfl
abbrev TB:=Tab×jf
def TB.row(S:TB)(node:Int)(ats:List At):TB:=((S.1.nums ats).1,S.2.one node (S.1.nums ats).2)
def TB.vars(S:TB)(node:Int)(p:Nat)(vs:List fE):Nat->TB
 |0=>S
 |j+1=>(S.vars node p vs j).row node (gV p j (vs.getD j default).values.length)
def TB.pack(S:TB)(p:Nat)(pk:eP):TB:=
 (TB.row ((S.1.num (aG p)).1,S.2) (S.1.num (aG p)).2 (gJ p pk.aP.length)).vars (S.1.num (aG p)).2 p pk.vars pk.vars.length
def TB.choices(S:TB)(x:aC)(l:List Nat):TB:=l.foldl (fun S p=>S.pack p (x.pack p)) S
theorem TB.Kv(S:TB)(x:aC)(l:List Nat)(p:Nat):S.choices x (l++[p])=(S.choices x l).pack p (x.pack p):=by simp[TB.choices]
theorem TB.Kw{S:TB}(h:S.1.Ok)(node:Int)(p:Nat)(vs:List fE):∀j,(S.vars node p vs j).1.Ok
 |0=>h
 |j+1=>(Tab.nG _ (TB.Kw h node p vs j)).1
theorem TB.aaF{S:TB}(h:S.1.Ok)(p:Nat)(pk:eP):(S.pack p pk).1.Ok:=TB.Kw (S:=TB.row ((S.1.num (aG p)).1,S.2) (S.1.num (aG p)).2 (gJ p pk.aP.length)) (Tab.nG _ (Tab.lS h _).1).1 _ _ _ _
theorem TB.QS{S:TB}(h:S.1.Ok)(x:aC)(l:List Nat):(S.choices x l).1.Ok:=by
 unfold TB.choices;induction l generalizing S with
 |nil=>exact h
 |cons a r ih=>exact ih (TB.aaF h _ _)
section
variable {w w2 wr:World} {gt gb iT iU:Tag} {c bt bb:Nat} {G:BJ} {T:Tab} {B:jf}
def lG(w2:World)(iT iU:Tag)(c bt bb:Nat)(G:BJ)(T:Tab)(B:jf)(wr:World)(v:Value)(xs:List Int):Prop:=
 ∃gt' gb',kH wr gt' gb' c bt bb G T B/\Agree w2 iT gt'/\Agree w2 iU gb'/\Only (fun k=>Mine iT k\/Mine iU k) w2 wr/\wr.ownsRow 0 3 1 v xs.length (xs.map cI)/\Beside wr gt' gb' c v/\∀k,v.ownBlock=some k->w2.heap.size<=k
theorem lG.start(h:fV w2 iT iU c bt bb G T B wr):lG w2 iT iU c bt bb G T B wr bK []:=by obtain⟨a,b,H,A,A',O⟩:=h;exact⟨a,b,H,A,A',O,World.ownsRow_nil _ _ _ _,(fun k hk=>by cases hk),fun k hk=>by cases hk⟩
theorem lG.gr{v:Value}{xs:List Int}(h:lG w2 iT iU c bt bb G T B wr v xs):fV w2 iT iU c bt bb G T B wr:=by obtain⟨a,b,H,A,A',O,-,-,-⟩:=h;exact⟨a,b,H,A,A',O⟩
theorem lG.num{v:Value}{xs:List Int}(h:lG w2 iT iU c bt bb G T B wr v xs){x:At}(hx:kC x)(r:Int)(hr:(T.num x).2=r):Calls Tryz.prog 75 #[.pointer (some ⟨c,0,none⟩),fH x] wr fun e w'=>e= .returned (.int .i64 r)/\lG w2 iT iU c bt bb G (T.num x).1 B w' v xs:=by
 obtain⟨a,b,H,A,A',O,R,S,N⟩:=h;refine(Jd H hx r hr).mono ?_;rintro e w' ⟨rfl,a2,b2,H2,A2,Qo,O2⟩;refine⟨rfl,a2,b2,H2,A.trans A2 O.size,A'.trans Qo O.size,O.Ag A A' O2,aB R O2 fun k hk hm=>?_,S.more O2.size A2 Qo,N⟩;have hk':Value.blk v=some k:=by exact zB5
 rcases hm with hm|hm;·exact(S k hk').2.1 hm
 exact(S k hk').2.2.1 hm
theorem lG.app{v v':Value}{xs:List Int}(h:lG w2 iT iU c bt bb G T B wr v xs){w3 w4:World}(o3:O0 wr w3){z:Int}(r:w4.ownsRow 0 3 1 v' (xs.length+1) (xs.map cI++[cI z]))(o:Only (fun k=>v.ownBlock=some k) w3 w4)(a:vg w3 v v' (xs.length+1)):lG w2 iT iU c bt bb G T B w4 v' (xs++[z]):=by
 obtain⟨gt',gb',H,A,A',O,R,S,N⟩:=h;have hbl:∀k,v.ownBlock=some k->Value.blk v=some k:=fun k hk=>by exact zB5
 have o4:Only (fun k=>v.ownBlock=some k) wr w4:=(o3.mono fun _ f=>f.elim).same o;have H4:=H.only o4 (fun k hk hv=>by
  obtain⟨-,s1,s2,-⟩:=S k (hbl k hv)
  rcases hk with hk|hk
  ·exact s1 hk
  ·exact s2 hk) (fun hv=>(S c (hbl c hv)).2.2.2 rfl)
 refine⟨gt',gb',H4,A,A',O.trans o4 fun k hk=>.inr (N k hk),by simpa using r,fun k hk=>?_,fun k hk=>?_⟩
 ·obtain⟨g,cap,rfl,-,-,hg⟩:=a;simp[Value.blk]at hk;subst hk;rcases hg with hg|hg;·obtain⟨s0,s1,s2,s3⟩:=S g (hbl g hg);exact⟨by have:=o4.size;omega,s1,s2,s3⟩
  have hlt:g<w4.heap.size:=dn r rfl;have:=o3.size;obtain⟨V,hV⟩:=H.tab;obtain⟨U,hU⟩:=H.G8;have hc:=bf H.blk;exact zD6
 exact zCe
theorem lG.ints{v:Value}{xs:List Int}(h:lG w2 iT iU c bt bb G T B wr v xs)(hx:∀z∈xs,0<=z/\z<=65536):∃gt' gb',kH wr gt' gb' c bt bb G T B/\Agree w2 iT gt'/\Agree w2 iU gb'/\Only (fun k=>Mine iT k\/Mine iU k) w2 wr/\Ints wr v xs/\wQ gt' gb' v xs:=by obtain⟨a,b,H,A,A',O,R,S,-⟩:=h;exact⟨a,b,H,A,A',O,Ints.dF R fun z hz=>⟨by have:=hx z hz;omega,by have:=hx z hz;omega⟩,fun _ k hk=>⟨(S k hk).2.1,(S k hk).2.2.1⟩⟩
theorem lG.one{v:Value}{xs:List Int}(h:lG w2 iT iU c bt bb G T B wr v xs)(hx:∀z∈xs,0<=z/\z<=65536)(hl:xs.length<=1000000)(node:Int)(hb:0<=node/\node<=65536):Calls Tryz.prog 76 #[.pointer (some ⟨c,0,none⟩),.int .i64 node,v] wr fun e w'=>e= .returned (.tuple #[])/\fV w2 iT iU c bt bb G T (B.one node xs) w':=by obtain⟨a,b,H,A,A',O,I,N⟩:=h.ints hx;exact(ade H I N node ⟨by omega,by omega⟩ (fun z hz=>by have:=hx z hz;omega) hl).mono fun e w' ⟨he,h⟩=>⟨he,fV.trans A A' O h⟩
end
structure Cj (x:aC):Prop where
 packs:x.packs.length<=1000
 aP:∀p∈x.packs,p.aP.length<=1000
 vars:∀p∈x.packs,p.vars.length<=1000
 vals:∀p∈x.packs,∀v∈p.vars,v.values.length<=1000
theorem zI:aO 0:=⟨by decide,by decide⟩
theorem QT{l:List Nat}{i p:Nat}(h:l[i]? =some p):l.take (i+1)=l.take i++[p]:=by obtain⟨hlt,rfl⟩:=qJ.1 h;rw[yL hlt]
section
variable {w:World} {gt gb:Tag} {c bt bb Bs:Nat} {G:BJ} {T:Tab} {B:jf}
theorem QU(H:kH w gt gb c bt bb G T B){x:aC}(hx:gG Bs w [G.x1,G.x2] x){l:List Nat}(hl:Ints w G.l (intsOf l))(hlt:∀p∈l,p<x.packs.length)(hm:Cj x)(hBs:∀k,Mine gt k\/Mine gb k->Bs<=k)(hBw:Bs<=w.heap.size)(hlen:l.length<=1000):Calls Tryz.prog 22 #[.pointer (some ⟨c,0,none⟩)] w fun e w'=>e= .returned (.tuple #[])/\fV w gt gb c bt bb G (TB.choices (T,B) x l).1 (TB.choices (T,B) x l).2 w':=by
 have agq:T.Ok:=by obtain⟨V,hV⟩:=H.tab;exact⟨hV.lim,hV.len⟩
 have HP:=zh (sN H hl zAz);have q0:w.cell? ⟨c,0,none⟩=some G.x1:=zAT;have H0:=zh H;obtain⟨v1,v2,e12,h1,-⟩:=hx;simp only[List.cons.injEq,and_true]at e12;obtain⟨e1,-⟩:=e12;obtain⟨ao,cap,e2,-,-⟩:=h1.shape;obtain⟨n1,hn1⟩:=ze x.packs.length;rw[e1,e2,hn1]at q0;rw[e2,hn1]at h1;have R1:=zh h1;have N1:=zh hn1;have HM:=zh hm;have ajz:=zh agq;have HBs:=zh hBs;have XP:Hid (∀p∈l,p<n1):=by rw[<-hn1];exact hlt
 have ajA:n1<=1000:=by rw[<-hn1];exact hm.packs
 obtain⟨nl,hnl⟩:=ze l.length;rw[hnl]at hlen;have oD:=zh hnl;have xE:Hid ((intsOf l).length=nl):=by unfold intsOf;rw[qM];exact hnl
 have hc:c<w.heap.size:=bf H.blk; -- the cell of the recipe, later on
 have HX:Hid (∀W gt' gb',kH W gt' gb' c bt bb G T B\/True->Only (fun k=>Mine gt k\/Mine gb k) w W->W.cell? ⟨c,0,none⟩=some (.slice ao n1 cap)):=fun W _ _ _ hW=>by rw[World.cell?_of_block (w:=w) (hW.block c hc (by rintro(h|h);exact h H0.out.tc;exact h H0.out.tc'))];exact q0
 clear H hl hlt hm hBs agq h1 e1 e2 hn1 hnl q0;go_enter Tryz.func22,Tryz.ntmps22;go_wp2_with fail;refine HP.out.mono ?_;rintro e w1 ⟨vp,rfl,r1,r2,r3⟩;have HI:Hid (Ints w1 vp (intsOf l)):=Ints.dF r1 fun z hz=>by obtain⟨i,hi,rfl⟩:=yD.1 hz;have:=XP.out i hi;exact zCC
 have H1:=zh (H0.out.aF r3);have bg:=zh r3;have Kt:Hid (wQ gt gb vp (intsOf l)):=fun _ k hk=>by
  obtain⟨V,hV⟩:=H0.out.tab;obtain⟨U,hU⟩:=H0.out.G8;have hk2:=r2 k (by obtain⟨a2,c2,rfl,-,-⟩:=aH r1;cases a2 with|none=>cases hk|some ad=>exact hk);constructor;·unfold Mine;rw[hV.fresh k hk2];simp
  unfold Mine;rw[hU.fresh k hk2];simp
 obtain⟨ap,cp,rfl,-,-⟩:=aH r1;rw[xE.out]at HI Kt⊢;have HG1:Hid (fV w1 gt gb c bt bb G (TB.choices (T,B) x (l.take 0)).1 (TB.choices (T,B) x (l.take 0)).2 w1):=fV.refl H1.out;clear r1 r2 r3 HP;go_wp2_with fail;go_loopw [15] (fun vi wr=> ∃i:Nat,vi= .int .i64 i/\i<=nl/\Hid (fV w1 gt gb c bt bb G (TB.choices (T,B) x (l.take i)).1 (TB.choices (T,B) x (l.take i)).2 wr)) (fun v _=>nl-(RowKit.intOf v).toNat);case atStart=>exact⟨0,rfl,qE _,HG1⟩
 case round=>
  clear HG1;obtain⟨i,rfl,hi,HR⟩:=hrel;by_cases ci:i<nl
  ·obtain⟨S,hS⟩:=ze (TB.choices (T,B) x (l.take i));have ajB:S.1.Ok:=by rw[<-hS];exact TB.QS ajz.out _ _
   rw[hS]at HR;obtain⟨p,hp⟩:=zG l i zAd;have jr:Hid (TB.choices (T,B) x (l.take (i+1))=S.pack p (x.pack p)):=by rw[QT hp,TB.Kv,hS];exact rfl
   have hpn:p<n1:=XP.out p (qT hp);obtain⟨iT,iU,HG,A1,A1',O1⟩:=HR.out;have hI2:=HI.out.Ag Kt.out O1;obtain⟨bI,ajC,eI,hcell⟩:=hI2.Ah (i:=i) (by rw[xE.out];exact ci);subst eI;have hgp:(intsOf l).getD i 0=(p:Int):=by unfold intsOf;rw[qC,List.getElem?_map,hp];rfl
   rw[hgp]at hcell;have jg:=zw (i+1);have Ow:Only (fun k=>Mine gt k\/Mine gb k) w wr:=(bg.out.mono fun _ f=>f.elim).same O1;have qx:=HX.out wr iT iU (.inr trivial) Ow;have hKp:Kp Bs w wr:=Ow.mono fun k hk=>HBs.out k hk;have hr1:=R1.out.keep fF.keep hKp;rw[<-N1.out]at hr1;obtain⟨b,off,eb,-,-⟩:=hr1.at (by have:=N1.out;omega);subst eb;have hpx:x.packs[p]? =some (x.pack p):=by unfold aC.pack;rw[qC,qA (by rw[N1.out];exact hpn)];rfl
   obtain⟨cs,-,Ij,Je⟩:=hr1.get hpx;obtain⟨pk,hpk⟩:=ze (x.pack p);have hmem:pk∈x.packs:=by rw[<-hpk];exact qT hpx
   rw[hpk]at Je jr;obtain⟨o1,o2,o3,o4,o5,o6,c1,c2,c3,c4,c5,c6,rfl,-,-,-,b2,-,-,-,-⟩:=Je.cells;have HRp:=zh Ij;have hrl:=HM.out.aP pk hmem;have hvl:=HM.out.vars pk hmem;have HVl:=zh (HM.out.vals pk hmem);obtain⟨nr,hnr⟩:=ze pk.aP.length;obtain⟨nv,MI⟩:=ze pk.vars.length;rw[hnr]at HRp hrl;rw[MI]at HRp b2 hvl;have Vm:=zh hnr;have NK:=zh MI; -- the world behind the copy of the package
   obtain⟨wB,hwB⟩:=zB (wr.alloc (.cells #[.string pk.name,.int .i64 pk.line,.slice o1 nr c1,.slice o2 nv c2,.slice o3 pk.provides.length c3,.slice o4 pk.deps.length c4,.slice o5 pk.cons.length c5,.slice o6 pk.files.length c6] 101));have oB:O0 wr wB:=zAi;have HGB:=HG.aF oB;have hfr:(iT wr.heap.size).1=0/\(iU wr.heap.size).1=0:=by obtain⟨V,hV⟩:=HG.tab;obtain⟨U,hU⟩:=HG.G8;exact⟨hV.fresh _ (qH _),hU.fresh _ (qH _)⟩
   have XQ:Hid (∀W,Only (fun k=>Mine iT k\/Mine iU k) wB W->W.cell? ⟨wr.heap.size,2,none⟩=some (.slice o1 nr c1)/\W.cell? ⟨wr.heap.size,3,none⟩=some (.slice o2 nv c2)):=fun W hW=>by have b0:wB.heap[wr.heap.size]? =some (.cells #[.string pk.name,.int .i64 pk.line,.slice o1 nr c1,.slice o2 nv c2,.slice o3 pk.provides.length c3,.slice o4 pk.deps.length c4,.slice o5 pk.cons.length c5,.slice o6 pk.files.length c6] 101):=zAn;have b1:=ak b0 hW (by rintro(h|h);exact h hfr.1;exact h hfr.2);exact zCS
   have HVr:Hid (∀W,Only (fun k=>Mine iT k\/Mine iU k) wB W->aJ 2 jF Bs W (.slice o2 nv c2) pk.vars):=fun W hW=>b2.keep jF.keep (((oB.mono fun _ f=>f.elim).trans (G:=fun k=>Mine iT k\/Mine iU k) hW fun k hk=>by
    rcases yK k wr.heap.size with hlt|hge
    ·left
     have hs1:=bg.out.size
     rcases yK k w1.heap.size with h2|h2
     ·refine HBs.out k ?_
      unfold Mine at hk⊢
      rwa[A1 k h2,A1' k h2]at hk
     ·omega
    ·exact .inr hge:Kp Bs wr W))
   have HFin:Hid (∀W,fV wB iT iU c bt bb G (S.pack p pk).1 (S.pack p pk).2 W->fV w1 gt gb c bt bb G (TB.choices (T,B) x (l.take (i+1))).1 (TB.choices (T,B) x (l.take (i+1))).2 W):=fun W h=>by rw[jr.out];exact fV.trans A1 A1' (O1.same (oB.mono fun _ f=>f.elim)) h
   have Jf:Hid (lG wB iT iU c bt bb G S.1 S.2 wB bK []):=lG.start (fV.refl HGB);clear HX hgp hI2 hKp hr1 hpx Ij Je hmem b2 hnr MI HG A1 A1' O1 Ow HGB hfr oB hp hS HR hpk;go_wp2_with (refine wpList_load_mid rfl 101 (.tmp 25) rfl b (off+p*8) rfl _ _ HRp.out Tryz.underlying101 rfl zk ?_);rw[<-hwB];clear hwB;generalize wr=wo at*;obtain⟨T1,hT1⟩:=ze ((S.1.num (aG p)).1);obtain⟨node,TR⟩:=ze ((S.1.num (aG p)).2);have ags:=Tab.lS ajB (aG p);rw[hT1,TR]at ags;obtain⟨agt,hnb⟩:=ags;have adi:=zh (lG.num Jf.out (x:=aG p) ⟨by simp[aG],⟨by simp only[aG];omega,by simp only[aG];omega⟩,zI,zI⟩ node TR);rw[hT1]at adi;have HT1:=zh hT1;have TS:=zh TR;refine adi.out.mono ?_;rintro e w2 ⟨rfl,h2⟩;have HG2:Hid (lG wB iT iU c bt bb G (T1.nums (gJ p 0)).1 S.2 w2 bK (T1.nums (gJ p 0)).2):=h2;clear adi h2 hT1 TR Jf;have hpk2:=(XQ.out w2 (by obtain⟨_,_,_,_,_,O,_⟩:=HG2.out;exact O)).1;go_wp2_with fail;go_loopw [6,34] (fun v6 vk wr=> ∃k:Nat,vk= .int .i64 k/\k<=nr/\Hid (lG wB iT iU c bt bb G (T1.nums (gJ p k)).1 S.2 wr v6 (T1.nums (gJ p k)).2)) (fun _ v _=>nr-(RowKit.intOf v).toNat);case atStart=>exact⟨0,rfl,qE _,HG2⟩
   case round=>
    clear HG2 hpk2;obtain⟨k,rfl,hk,fP⟩:=hrel;by_cases ck:k<nr
    ·obtain⟨T2,hT2⟩:=ze ((T1.nums (gJ p k)).1);obtain⟨zs,hzs⟩:=ze ((T1.nums (gJ p k)).2);have hzl:zs.length=k:=by rw[<-hzs,Tab.iO];unfold gJ;simp
     obtain⟨r,hr⟩:=ze ((T2.num (iZ p k)).2);have hsn:T1.nums (gJ p (k+1))=((T2.num (iZ p k)).1,zs++[r]):=by rw[QN,Tab.mY,hT2,hzs,hr]
     rw[hT2,hzs]at fP;have EZ:=zh hsn;have pq:=zh (lG.num fP.out (x:=iZ p k) ⟨by simp[iZ],⟨by simp only[iZ];omega,by simp only[iZ];omega⟩,⟨by simp only[iZ];omega,by simp only[iZ];omega⟩,zI⟩ r hr);obtain⟨au,cu,hu,-,-⟩:∃au cu,u6= .slice au zs.length cu/\zs.length<=cu/\cu<=maxLen:=by obtain⟨_,_,_,_,_,_,R,_⟩:=fP.out;exact aH R
     subst hu;have Vl:=zw (k+1);have hzk:zs.length<=1000:=zBB;clear hT2 hzs hsn hr hzl;go_wp2_with fail;refine pq.out.mono ?_;rintro e w5 ⟨rfl,h5⟩;have H5:=zh h5;have hown:w5.ownsRow 0 3 1 (.slice au zs.length cu) zs.length (zs.map cI):=by obtain⟨_,_,_,_,_,_,R,_⟩:=h5;exact R
     have l9:=zh hown;clear h5 hown pq;go_wp2_with (at_builtin;go_must (refine zJ (u:=.int .i64 r) kF rfl (.tmp 37) (.tmp 43) rfl rfl rfl (cell_new0 _ _ _) rfl (aB l9.out ((Only.refl (fun _=>False) _).alloc _) (fun _ _ f=>f)) zBB zBC ?_));intro v' w6 s1 s2 s3;have xG:Hid (lG wB iT iU c bt bb G (T1.nums (gJ p (k+1))).1 S.2 w6 v' (T1.nums (gJ p (k+1))).2):=by exact zDb
     exact zCM
    obtain rfl:nr=k:=by omega
    clear hk ck;obtain⟨zok,zb⟩:=Tab.nG (gJ p nr) agt;have zl:(T1.nums (gJ p nr)).2.length=nr:=by rw[Tab.iO];unfold gJ;simp
    have NM:=zh (lG.one fP.out zb (by rw[zl];omega) node hnb);obtain⟨au,cu,hu,-,-⟩:∃au cu,u6= .slice au nr cu/\nr<=cu/\cu<=maxLen:=by obtain⟨_,_,_,_,_,_,R,_⟩:=fP.out;rw[zl]at R;exact aH R
    subst hu;clear zb;go_wp2_with fail;refine NM.out.mono ?_;rintro e w3 ⟨rfl,h3⟩;obtain⟨S1,hS1⟩:=ze (TB.row (T1,S.2) node (gJ p nr));have Jg:S1.1.Ok:=by rw[<-hS1];exact zok
    have HG3:Hid (fV wB iT iU c bt bb G (S1.vars node p pk.vars 0).1 (S1.vars node p pk.vars 0).2 w3):=by rw[<-hS1];exact h3
    have agu:Hid (∀W,fV wB iT iU c bt bb G (S1.vars node p pk.vars nv).1 (S1.vars node p pk.vars nv).2 W->fV w1 gt gb c bt bb G (TB.choices (T,B) x (l.take (i+1))).1 (TB.choices (T,B) x (l.take (i+1))).2 W):=fun W h=>by refine HFin.out W ?_;unfold TB.pack;rw[HT1.out,TS.out,Vm.out,NK.out,hS1];exact h
    have ajG:=(XQ.out w3 (by obtain⟨_,_,_,_,_,O⟩:=HG3.out;exact O)).2;clear h3 NM fP zl zok hS1 HFin jr;go_wp2_with fail;generalize w3=wq at*;go_loopw [53] (fun vj wr=> ∃j:Nat,vj= .int .i64 j/\j<=nv/\Hid (fV wB iT iU c bt bb G (S1.vars node p pk.vars j).1 (S1.vars node p pk.vars j).2 wr)) (fun v _=>nv-(RowKit.intOf v).toNat);case atStart=>exact⟨0,rfl,qE _,HG3⟩
    case round=>
     clear HG3 ajG;obtain⟨j,rfl,hj,HG⟩:=hrel;by_cases cj:j<nv
     ·obtain⟨S2,hS2⟩:=ze (S1.vars node p pk.vars j);have agv:S2.1.Ok:=by rw[<-hS2];exact TB.Kw Jg _ _ _ _
      rw[hS2]at HG;have HV:=HVr.out wr (by obtain⟨_,_,_,_,_,O⟩:=HG.out;exact O);rw[<-NK.out]at HV;obtain⟨b2,off2,e2,-,-⟩:=HV.at (by have:=NK.out;omega);subst e2;obtain⟨vd,hvd⟩:=zG pk.vars j (by rw[NK.out];exact cj);obtain⟨cs2,-,hr2,hC2⟩:=HV.get hvd;obtain⟨vv,rfl,-,hvv⟩:=hC2;obtain⟨av,cv,rfl,-,-⟩:=hvv.shape;have hvn:vd.values.length<=1000:=HVl.out vd (qT hvd);obtain⟨nk,hnk⟩:=ze vd.values.length;rw[hnk]at hr2 hvn;have HR2:=zh hr2;have hgd:pk.vars.getD j default=vd:=by rw[qC,hvd];rfl
      have jr:Hid (S1.vars node p pk.vars (j+1)=S2.row node (gV p j nk)):=by show TB.row _ _ _=_;rw[hS2,hgd,hnk]
      have TT:=zw (j+1);obtain⟨wV,hwV⟩:=zB (wr.alloc (.cells #[.string vd.name,.slice av nk cv] 145));have oV:O0 wr wV:=by rw[hwV];exact zr.alloc _
      obtain⟨Vj,Vk,HGr,A2,Qo,O2⟩:=HG.out;have HGV:=HGr.aF oV;have hfr2:(Vj wr.heap.size).1=0/\(Vk wr.heap.size).1=0:=by obtain⟨V,hV⟩:=HGr.tab;obtain⟨U,hU⟩:=HGr.G8;exact⟨hV.fresh _ (qH _),hU.fresh _ (qH _)⟩
      have hvc:wV.cell? ⟨wr.heap.size,1,none⟩=some (.slice av nk cv):=by
       have b0:wV.heap[wr.heap.size]? =some (.cells #[.string vd.name,.slice av nk cv] 145):=by rw[hwV];exact qL wr _
       rw[aj b0];rfl
      have agw:Hid (∀W,fV wV Vj Vk c bt bb G (S2.row node (gV p j nk)).1 (S2.row node (gV p j nk)).2 W->fV wB iT iU c bt bb G (S1.vars node p pk.vars (j+1)).1 (S1.vars node p pk.vars (j+1)).2 W):=fun W h=>by rw[jr.out];exact fV.trans A2 Qo (O2.same (oV.mono fun _ f=>f.elim)) h
      have Jf:Hid (lG wV Vj Vk c bt bb G (S2.1.nums (gV p j 0)).1 S2.2 wV bK (S2.1.nums (gV p j 0)).2):=lG.start (fV.refl HGV);clear HV hvd hr2 hvv hnk hgd jr oV HGr A2 Qo O2 HGV hfr2 hS2 HG;go_wp2_with (refine wpList_load_mid rfl 145 (.tmp 56) rfl b2 (off2+j*2) rfl _ _ HR2.out Tryz.underlying145 rfl zk ?_);rw[<-hwV];clear hwV hvc;generalize wr=wm at*;go_loopw [10,61] (fun v6 vk wr=> ∃k:Nat,vk= .int .i64 k/\k<=nk/\Hid (lG wV Vj Vk c bt bb G (S2.1.nums (gV p j k)).1 S2.2 wr v6 (S2.1.nums (gV p j k)).2)) (fun _ v _=>nk-(RowKit.intOf v).toNat);case atStart=>exact⟨0,rfl,qE _,Jf⟩
      case round=>
       clear Jf;obtain⟨k,rfl,hk,fP⟩:=hrel;by_cases ck:k<nk
       ·obtain⟨T2,hT2⟩:=ze ((S2.1.nums (gV p j k)).1);obtain⟨zs,hzs⟩:=ze ((S2.1.nums (gV p j k)).2);have hzl:zs.length=k:=by rw[<-hzs,Tab.iO];unfold gV;simp
        obtain⟨r,hr⟩:=ze ((T2.num (jI p j k)).2);have hsn:S2.1.nums (gV p j (k+1))=((T2.num (jI p j k)).1,zs++[r]):=by rw[QO,Tab.mY,hT2,hzs,hr]
        rw[hT2,hzs]at fP;have EZ:=zh hsn;have pq:=zh (lG.num fP.out (x:=jI p j k) ⟨by simp[jI],⟨by simp only[jI];omega,by simp only[jI];omega⟩,⟨by simp only[jI];omega,by simp only[jI];omega⟩,⟨by simp only[jI];omega,by simp only[jI];omega⟩⟩ r hr);obtain⟨au,cu,hu,-,-⟩:∃au cu,u10= .slice au zs.length cu/\zs.length<=cu/\cu<=maxLen:=by obtain⟨_,_,_,_,_,_,R,_⟩:=fP.out;exact aH R
        subst hu;have Vl:=zw (k+1);have hzk:zs.length<=1000:=zBB;clear hT2 hzs hsn hr hzl;go_wp2_with fail;refine pq.out.mono ?_;rintro e w5 ⟨rfl,h5⟩;have H5:=zh h5;have hown:w5.ownsRow 0 3 1 (.slice au zs.length cu) zs.length (zs.map cI):=by obtain⟨_,_,_,_,_,_,R,_⟩:=h5;exact R
        have l9:=zh hown;clear h5 hown pq;go_wp2_with (at_builtin;go_must (refine zJ (u:=.int .i64 r) kF rfl (.tmp 64) (.tmp 71) rfl rfl rfl (cell_new0 _ _ _) rfl (aB l9.out ((Only.refl (fun _=>False) _).alloc _) (fun _ _ f=>f)) zBB zBC ?_));intro v' w6 s1 s2 s3;have xG:Hid (lG wV Vj Vk c bt bb G (S2.1.nums (gV p j (k+1))).1 S2.2 w6 v' (S2.1.nums (gV p j (k+1))).2):=by exact zDb
        exact zCM
       obtain rfl:nk=k:=by omega
       clear hk ck;obtain⟨-,zb⟩:=Tab.nG (gV p j nk) agv;have zl:(S2.1.nums (gV p j nk)).2.length=nk:=by rw[Tab.iO];unfold gV;simp
       have NM:=zh (lG.one fP.out zb (by rw[zl];omega) node hnb);obtain⟨au,cu,hu,-,-⟩:∃au cu,u10= .slice au nk cu/\nk<=cu/\cu<=maxLen:=by obtain⟨_,_,_,_,_,_,R,_⟩:=fP.out;rw[zl]at R;exact aH R
       subst hu;clear zb zl;go_wp2_with fail;refine NM.out.mono ?_;rintro e w3 ⟨rfl,h3⟩;have agx:=zh (agw.out w3 h3);clear h3 NM fP;go_wp2_with fail;go_roundw;case rel=>exact⟨j+1,by first|rfl|go_num,by omega,agx⟩
       case measure=>simp[RowKit.intOf]<;>omega
     obtain rfl:nv=j:=by omega
     have yS:=zh (agu.out wr HG.out);go_wp2_with fail;go_roundw;case rel=>exact⟨i+1,by first|rfl|go_num,by omega,yS⟩
     case measure=>simp[RowKit.intOf]<;>omega
  obtain rfl:nl=i:=by omega
  go_wp2_with fail;go_end0;refine⟨rfl,?_⟩;have:=HR.out;rw[qI (yG oD.out)]at this;exact fV.after bg.out this
end
end Go.Proofs.YtdmmebjjojimiaaGreatDoor
