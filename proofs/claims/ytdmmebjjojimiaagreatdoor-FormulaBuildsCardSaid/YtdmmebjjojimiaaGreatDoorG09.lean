/- Ch1 Ch2 Ch3 Ch4 Ch5, in one text. -/
import Derived.Test.YtdmmebjjojimiaaGreatDoorG07
import Derived.Test.YtdmmebjjojimiaaGreatDoorG08
import Derived.Deep.DeepCutAuto
set_option maxRecDepth 100000
set_option maxHeartbeats 8000000
set_option linter.all false
namespace Go.Proofs
theorem zAA{p:Prop}(h:p:=by repeat (first|exact Only.refl _ _|apply Only.drew|apply Only.alloc|apply Only.drewN)):p:=h
theorem zAu{p:Prop}(h:p:=by rw[uh.out];exact ci):p:=h
theorem zA2{p:Prop}(h:p:=by rw[hwB];exact zr.alloc _):p:=h
theorem zA7{p:Prop}(h:p:=by rw[hwB];exact qL wr _):p:=h
theorem zBK{p:Prop}(h:p:=by unfold intsOf;rw[qM];omega):p:=h
theorem zBP{p:Prop}(h:p:=by rw[qM,HN.out];exact qH _):p:=h
theorem zBT{p:Prop}(h:p:=by repeat (first|exact Only.refl _ _|apply Only.drew|apply Only.alloc|apply Only.drewN)):p:=h
theorem zBy{p:Prop}(h:p:=by simp[Value.ownBlock]at hk;(try simp);omega):p:=h
theorem zB1{p:Prop}(h:p:=by exact qL _ _):p:=h
theorem zCi{p:Prop}(h:p:=by
 have b0:W0.heap[w.heap.size]? =some (.cells #[.int .u8 x.1,.int .i64 x.2.1,.int .i64 x.2.2.1,.int .i64 x.2.2.2] 89):=by rw[hW0];exact qL w _
 have c0:=aC b0 ho (fun f=>f)
 exact⟨by rw[aj c0];rfl,by rw[aj c0];rfl,by rw[aj c0];rfl,by rw[aj c0];rfl⟩):p:=h
theorem zCj{p:Prop}(h:p:=by
 go_wp2_with fail
 go_roundw
 case rel=>exact⟨k+1,by first|rfl|go_num,by omega,HF⟩
 case measure=>simp[RowKit.intOf]<;>omega):p:=h
theorem zCn{p:Prop}(h:p:=by
 obtain⟨ao,cap,rfl,-,-⟩:=aJ R
 cases ao with
 |none=>cases hk
 |some ad=>exact hk):p:=h
theorem zCr{p:Prop}(h:p:=by exact⟨by rw[aj b1];rfl,by rw[aj b1];rfl⟩):p:=h
theorem zCx{p:Prop}(h:p:=by exact⟨by omega,by omega⟩):p:=h
theorem zC9{p:Prop}(h:p:=by
 obtain⟨g6,c6',rfl,-,-,-⟩:=s3
 clear s1 s2 H5 rG iP
 go_wp2_with fail
 go_roundw
 case rel=>exact⟨k+1,by first|rfl|go_num,by omega,Du⟩
 case measure=>simp[RowKit.intOf]<;>omega):p:=h
theorem zDa{p:Prop}(h:p:=by
 obtain⟨g,cap,rfl,-,-,hg⟩:=a
 simp[Value.ownBlock]at hk
 subst hk
 rcases hg with hg|hg
 ·exact N g hg
 ·have:=O.size;have:=o3.size;omega):p:=h
theorem zDo{p:Prop}(h:p:=by
 go_wp2_with fail
 ((try simp only[Exit.inBlock,Exit.then]);refine bodyPost_ret (results_none rfl _ _ _) rfl ?_)
 exact⟨rfl,jd.refl H0.out⟩):p:=h
theorem zEA{p:Prop}(h:p:=by
 obtain⟨ZH,ZI,H2,A2,VN,O2⟩:=h2
 exact⟨ZH,ZI,H2,ht.trans A2 ho.size,hb.trans VN ho.size,ho.Fe ht hb O2⟩):p:=h
theorem zEB{p:Prop}(h:p:=by
 refine⟨hlt,?_,?_,by omega⟩
 ·unfold Mine;rw[hV.fresh g zAB];simp
 ·unfold Mine;rw[hU.fresh g zAB];simp):p:=h
theorem zEL{p:Prop}(h:p:=by(try dsimp only)<;>(exact HK.out _ zAA)):p:=h
theorem zEr{p:Prop}(h:p:=by
 rw[hpk,kD.vY,kD.AY]
 exact gG.trans A1 O1 (gG.after ((Only.refl _ wr).alloc _) h)):p:=h
theorem zEu{p:Prop}(h:p:=by
 rw[Ku.out]
 exact pO.app H5.out ((Only.refl (fun _=>False) w5).alloc _) s1 s2 s3):p:=h
theorem zFL{p:Prop}(h:p:=by
 rcases qY.1 hz with rfl|hz
 ·exact zCx
 ·have:=HS.out z hz;exact⟨by omega,by omega⟩):p:=h
theorem zFR{p:Prop}(h:p:=by exact xg.out _ zBT):p:=h
end Go.Proofs
namespace Go.Proofs.YtdmmebjjojimiaaGreatDoor
open Go.RowKit
structure GL where
 x1:Value
 x2:Value
 q:Value
 l:Value
 r:Value
structure nP (w:World) (gt gb:Tag) (c bt bb:Nat) (G:GL) (T:Tab) (B:kD):Prop where
 blk:w.heap[c]? =some (.cells #[G.x1,G.x2,G.q,G.l,G.r,.pointer (some ⟨bt,0,none⟩),.pointer (some ⟨bb,0,none⟩)] 141 (0,0))
 tc:(gt c).1=0
 tc':(gb c).1=0
 tab:∃V,TabAt w gt bt V T
 Fb:∃V,jL w gb bb V B
 Jz:∀k,Mine gt k->¬Mine gb k
def jd(w:World)(gt gb:Tag)(c bt bb:Nat)(G:GL)(T:Tab)(B:kD)(w':World):Prop:=
 ∃gt' gb',nP w' gt' gb' c bt bb G T B/\Agree w gt gt'/\Agree w gb gb'/\Only (fun k=>Mine gt k\/Mine gb k) w w'
section
variable {w:World} {gt gb:Tag} {c bt bb:Nat} {G:GL} {T:Tab} {B:kD}
theorem nP.only(H:nP w gt gb c bt bb G T B){w':World}{F:Nat->Prop}(ho:Only F w w')(h1:∀k,Mine gt k\/Mine gb k->¬F k)(h2:¬F c):nP w' gt gb c bt bb G T B:=by obtain⟨V,hV⟩:=H.tab;obtain⟨U,hU⟩:=H.Fb;exact⟨aC H.blk ho h2,H.tc,H.tc',⟨V,hV.only ho (fun k hk=>h1 k (.inl hk))⟩,⟨U,hU.only ho (fun k hk=>h1 k (.inr hk))⟩,H.Jz⟩
theorem nP.aH(H:nP w gt gb c bt bb G T B){w':World}(ho:O0 w w'):nP w' gt gb c bt bb G T B:=H.only ho (fun _ _ f=>f) (fun f=>f)
theorem jd.refl(H:nP w gt gb c bt bb G T B):jd w gt gb c bt bb G T B w:=⟨gt,gb,H,Agree.refl _ _,Agree.refl _ _,Only.refl _ _⟩
theorem nP.abW(H:nP w gt gb c bt bb G T B){T2:Tab}{w':World}(h:lN w gt bt T2 w'):jd w gt gb c bt bb G T2 B w':=by
 obtain⟨g2,V2,H2,A2,O2⟩:=h;obtain⟨U,hU⟩:=H.Fb;have hc:=bU H.blk;refine⟨g2,gb,⟨aC H.blk O2 (by unfold Mine;rw[H.tc];simp),by rw[A2 c hc];exact H.tc,H.tc',⟨V2,H2⟩,⟨U,hU.only O2 (fun k hk hm=>H.Jz k hm hk)⟩,fun k hk hm=>?_⟩,A2,Agree.refl _ _,O2.mono fun k hk=>.inl hk⟩;have hlt:k<w.heap.size:=by
  rcases yK k w.heap.size with h|h;·exact h
  exact absurd (hU.fresh k h) hm
 refine H.Jz k ?_ hm;unfold Mine at hk⊢;rwa[A2 k hlt]at hk
theorem nP.step_b(H:nP w gt gb c bt bb G T B){B2:kD}{w':World}(h:gG w gb bb B2 w'):jd w gt gb c bt bb G T B2 w':=by
 obtain⟨g2,V2,H2,A2,O2⟩:=h;obtain⟨U,hU⟩:=H.tab;have hc:=bU H.blk;refine⟨gt,g2,⟨aC H.blk O2 (by unfold Mine;rw[H.tc'];simp),H.tc,by rw[A2 c hc];exact H.tc',⟨U,hU.only O2 (fun k hk hm=>H.Jz k hk hm)⟩,⟨V2,H2⟩,fun k hk hm=>?_⟩,Agree.refl _ _,A2,O2.mono fun k hk=>.inr hk⟩;have hlt:k<w.heap.size:=by
  rcases yK k w.heap.size with h|h;·exact h
  exact absurd (hU.fresh k h) hk
 refine H.Jz k hk ?_;unfold Mine at hm⊢;rwa[A2 k hlt]at hm
theorem Only.Fe{w1 w2:World}{jO jP:Tag}(h:Only (fun k=>Mine gt k\/Mine gb k) w w1)(ht:Agree w gt jO)(hb:Agree w gb jP)(h1:Only (fun k=>Mine jO k\/Mine jP k) w1 w2):Only (fun k=>Mine gt k\/Mine gb k) w w2:=by
 refine h.trans h1 (fun k hk=>?_);rcases yK k w.heap.size with hlt|hge;·refine .inl ?_;unfold Mine at hk⊢;rwa[ht k hlt,hb k hlt]at hk
 exact .inr hge
theorem jd.trans{jO jP:Tag}{w1 w2:World}{T2:Tab}{B2:kD}(ht:Agree w gt jO)(hb:Agree w gb jP)(ho:Only (fun k=>Mine gt k\/Mine gb k) w w1)(h2:jd w1 jO jP c bt bb G T2 B2 w2):jd w gt gb c bt bb G T2 B2 w2:=by exact zEA
theorem jd.after{w1 w2:World}(o1:O0 w w1){T2:Tab}{B2:kD}(h:jd w1 gt gb c bt bb G T2 B2 w2):jd w gt gb c bt bb G T2 B2 w2:=jd.trans (Agree.refl _ _) (Agree.refl _ _) (o1.mono fun _ f=>f.elim) h
def Beside(w:World)(gt gb:Tag)(c:Nat)(v:Value):Prop:= ∀k,Value.blk v=some k->k<w.heap.size/\¬Mine gt k/\¬Mine gb k/\k≠c
theorem Beside.more{v:Value}(h:Beside w gt gb c v){w':World}{gt' gb':Tag}(hs:w.heap.size<=w'.heap.size)(ht:Agree w gt gt')(hb:Agree w gb gb'):Beside w' gt' gb' c v:=fun k hk=>by
 obtain⟨h1,h2,h3,h4⟩:=h k hk
 refine⟨by omega,?_,?_,h4⟩
 ·unfold Mine at h2⊢;rwa[ht k h1]
 ·unfold Mine at h3⊢;rwa[hb k h1]
theorem Beside.new(H:nP w gt gb c bt bb G T B){v:Value}{w':World}(hw:w.heap.size<=w'.heap.size)(h:∀k,Value.blk v=some k->w.heap.size<=k/\k<w'.heap.size):Beside w' gt gb c v:=fun k hk=>by
 obtain⟨h1,h2⟩:=h k hk
 obtain⟨V,hV⟩:=H.tab
 obtain⟨U,hU⟩:=H.Fb
 have hc:=bU H.blk
 refine⟨h2,?_,?_,by omega⟩
 ·unfold Mine;rw[hV.fresh k h1];simp
 ·unfold Mine;rw[hU.fresh k h1];simp
theorem uU{v:Value}{xs:List Int}(hI:Ints w v xs)(x:Int)(r:Bool)(hr:xs.contains x=r):Calls Tryz.prog 152 #[v,.int .i64 x] w fun e w'=>e= .returned (.bool r)/\w'=w:=by
 subst hr;obtain⟨ao,cap,rfl,_,_⟩:=hI.shape;by_cases h0:xs.length=0;·have hx:xs=[]:=yF h0;subst hx;exact Tryz.slices_Contains_int_empty ao cap x w
 obtain⟨b,o,rfl,_,c⟩:=hI.cells _ _ _ rfl zAB;have:=Tryz.slices_Contains_int b o xs.length cap xs x w (qH _) zAB c;rwa[qI (qH _)]at this
theorem vX(H:nP w gt gb c bt bb G T B):Calls Tryz.prog 66 #[.pointer (some ⟨c,0,none⟩)] w fun e w'=>e= .returned (.pointer (some ⟨bt,0,none⟩))/\w'=w:=by have q1:w.cell? ⟨c,5,none⟩=some (.pointer (some ⟨bt,0,none⟩)):=zAf;go_enter Tryz.func66,Tryz.ntmps66;go_wp2_with fail;exact zCL
theorem sD(H:nP w gt gb c bt bb G T B):Calls Tryz.prog 28 #[.pointer (some ⟨c,0,none⟩)] w fun e w'=>e= .returned (.pointer (some ⟨bb,0,none⟩))/\w'=w:=by have q1:w.cell? ⟨c,6,none⟩=some (.pointer (some ⟨bb,0,none⟩)):=zAf;go_enter Tryz.func28,Tryz.ntmps28;go_wp2_with fail;exact zCL
theorem x9(H:nP w gt gb c bt bb G T B){l:List Int}(hl:Ints w G.l l)(hb:l.length<=1099511627776):Calls Tryz.prog 74 #[.pointer (some ⟨c,0,none⟩)] w fun e w'=> ∃v',e= .returned v'/\w'.ownsRow 0 3 1 v' l.length (l.map cI)/\(∀k,v'.ownBlock=some k->w.heap.size<=k)/\O0 w w':=by have q1:w.cell? ⟨c,3,none⟩=some G.l:=zAf;have hC:=zh (G5 hl hb);obtain⟨ao,cap,e,-,-⟩:=hl.shape;rw[e]at q1 hC;clear hl;go_enter Tryz.func74,Tryz.ntmps74;go_wp2_with fail;refine hC.out.mono ?_;rintro e w1 ⟨v,rfl,r1,r2,r3⟩;have HR:=zh (And.intro r1 (And.intro r2 r3));obtain⟨av,cv,rfl,-,-⟩:=aJ r1;clear r1 r2 r3;go_wp2_with fail;go_ret;exact⟨_,rfl,HR.out⟩
theorem OG(H:nP w gt gb c bt bb G T B){x:At}(hx:nK x)(r:Int)(hr:(T.num x).2=r):Calls Tryz.prog 75 #[.pointer (some ⟨c,0,none⟩),iY x] w fun e w'=>e= .returned (.int .i64 r)/\jd w gt gb c bt bb G (T.num x).1 B w':=by
 obtain⟨W0,hW0⟩:=zB (w.alloc (.cells #[.int .u8 x.1,.int .i64 x.2.1,.int .i64 x.2.2.1,.int .i64 x.2.2.2] 89));have o0:O0 w W0:=by rw[hW0];exact zr.alloc _
 have HK:Hid (∀W,O0 W0 W->W.cell? ⟨w.heap.size,0,none⟩=some (.int .u8 x.1)/\W.cell? ⟨w.heap.size,1,none⟩=some (.int .i64 x.2.1)/\W.cell? ⟨w.heap.size,2,none⟩=some (.int .i64 x.2.2.1)/\W.cell? ⟨w.heap.size,3,none⟩=some (.int .i64 x.2.2.2)):=fun W ho=>by exact zCi
 have HT:Hid (∀W,O0 W0 W->Calls Tryz.prog 66 #[.pointer (some ⟨c,0,none⟩)] W fun e w'=>e= .returned (.pointer (some ⟨bt,0,none⟩))/\w'=W):=fun W hW=>vX (H.aH (o0.same hW));have HN:Hid (∀W,O0 W0 W->Calls Tryz.prog 151 #[.pointer (some ⟨bt,0,none⟩),iY x] W fun e w'=>e= .returned (.int .i64 r)/\jd w gt gb c bt bb G (T.num x).1 B w'):=fun W hW=>by have h2:=H.aH (o0.same hW);obtain⟨V,hV⟩:=h2.tab;refine(Kq hV hx r hr).mono fun e w' ⟨he,ht⟩=>⟨he,?_⟩;exact jd.after (o0.same hW) (h2.abW ht)
 have hS0:=HK.out W0.drew (zr.drew);unfold iY at*;clear o0 H hr;go_enter Tryz.func75,Tryz.ntmps75;go_wp2_with fail;rw[<-hW0];clear hW0;refine bC (n:=5) (E:=fun j=>j==3) (S:=fun W=>W.cell? ⟨w.heap.size,0,none⟩=some (.int .u8 x.1)/\W.cell? ⟨w.heap.size,1,none⟩=some (.int .i64 x.2.1)/\W.cell? ⟨w.heap.size,2,none⟩=some (.int .i64 x.2.2.1)/\W.cell? ⟨w.heap.size,3,none⟩=some (.int .i64 x.2.2.2)) zk rfl hS0 (fun hHeld=>?_);refine tW 0 ?_;refine tK 2 ?_;refine tO 1 fun K hK=>?_;(go_simp;refine(HT.out _ (by exact zAA)).mono ?_;rintro e w5 ⟨rfl,rfl⟩;try go_wp2_with fail);refine hK.out _ _ ?_ (fun hHeld=>?_);·exact zEL
 clear hK K;try simp only[Act.put,eF,eG,dW,dX,dY]
 refine fF (rs:=[3]) zk zAF ?_;refine bQ.late (i:=3) rfl zk (fun K hK=>?_) ?_
 ·(go_simp;refine(HN.out _ (by exact zAA)).mono ?_;rintro e w6 ⟨rfl,o6⟩;try go_wp2_with fail);refine hK.out _ _ ?_;clear hK K;try simp only[Act.put,eF,fA,eG,dW,dX,dY]
  refine tW 4 ?_ (hS:=.inl zk);refine bf zk ?_ _;go_wp2_with fail;go_ret;exact⟨rfl,o6⟩
 exact bQ.nil
end
def kD.adds(B:kD)(l:List (List Int)):kD:=l.foldl kD.add B
theorem kD.vY(B:kD)(l m:List (List Int)):B.adds (l++m)=(B.adds l).adds m:=by simp[kD.adds]
theorem kD.AY(B:kD)(c:List Int):B.adds [c]=B.add c:=rfl
def kE(row:List Int)(i:Nat):List (List Int):=(row.drop (i+1)).map fun y=>[-(row.getD i 0),-y]
def nM(row:List Int)(i:Nat):List (List Int):=(List.range i).flatMap (kE row)
def rO(row:List Int):List (List Int):=nM row row.length
theorem AZ(row:List Int)(i:Nat):nM row (i+1)=nM row i++kE row i:=by unfold nM;rw[List.range_succ,List.flatMap_append];simp
section
variable {w:World}
theorem Ny{P:Program}{t e:TypeId}{i:TypeInfo}(ht:P.underlying t=some (.slice e))(hi:P.info? e=some i)(hs:i.size=1)(b o m k cap:Nat)(hm:k<=m)(hc:m<=cap)(W:World)(z:Int)(hz:z=k):(Instr.slice t (.slice (some ⟨b,o,none⟩) m cap) (some (.int .i64 z)) none none).run P W= .ok (.slice (some ⟨b,if cap=k then o else o+k,none⟩) (m-k) (cap-k)) W:=by
 subst hz;have h1:(0:Int)<=(k:Int)/\(k:Int)<=(m:Int):=⟨by omega,by omega⟩;simp[Instr.slice,Instr.sliceBounds,Instr.sliceBound,run_underlying ht,sizeOf,typeInfo,hi,hs,asIntOf,Addr.add,hm];by_cases hcap:cap=k;·simp[hcap]
 simp[hcap]
theorem vZ(b o m k cap:Nat)(hm:k<=m)(hc:m<=cap)(W:World)(z:Int)(hz:z=k):(Instr.slice 78 (.slice (some ⟨b,o,none⟩) m cap) (some (.int .i64 z)) none none).run Tryz.prog W= .ok (.slice (some ⟨b,if cap=k then o else o+k,none⟩) (m-k) (cap-k)) W:=by obtain⟨ii,zz,t1,t2,t3,-,-⟩:=lY.info;exact Ny (P:=Tryz.prog) lY.und t1 t3 b o m k cap hm hc W z hz
theorem Ints.abX{b o n cap:Nat}{xs:List Int}(h:Ints w (.slice (some ⟨b,o,none⟩) n cap) xs){k:Nat}(hk:k<=xs.length):Ints w (.slice (some ⟨b,if cap=k then o else o+k,none⟩) (n-k) (cap-k)) (xs.drop k):=by obtain⟨ao,c,he,hc1,hc2⟩:=h.shape;simp only[qU]at he;obtain⟨rfl,rfl,rfl⟩:=he;refine⟨⟨some ⟨b,if cap=k then o else o+k,none⟩,cap-k,by simp,by simp;omega,by omega⟩,fun ao' len' cap' hv hp=>?_,fun x hx=>h.range x (List.mem_of_mem_drop hx),fun len' cap' hv=>by simp at hv⟩;rw[List.length_drop]at hp;simp only[qU]at hv;obtain⟨rfl,-,-⟩:=hv;obtain⟨b',off,e2,hb,hc⟩:=h.cells _ _ _ rfl zAB;simp only[qG,qO,and_true]at e2;obtain⟨rfl,rfl⟩:=e2;refine⟨b,_,rfl,hb,fun i hi=>?_⟩;rw[List.length_drop]at hi;rw[if_neg zAB];have:=hc (k+i) zAB;rw[show o+k+i=o+(k+i) by omega,this];simp[List.getD,List.getElem?_drop]
theorem Ints.Fg{ao:Option Addr}{n cap:Nat}{xs:List Int}(h:Ints w (.slice ao n cap) xs){i:Nat}(hi:i<xs.length):∃b off,ao=some ⟨b,off,none⟩/\w.cell? ⟨b,off+i,none⟩=some (.int .i64 (xs.getD i 0)):=by obtain⟨b,off,e,_,hc⟩:=h.cells _ _ _ rfl zAB;exact⟨b,off,e,hc i hi⟩
theorem wR(w:World)(x y:Int)(hx:bg x)(hy:bg y):Ints (w.alloc (.cells #[.int .i64 x,.int .i64 y] 3)) (.slice (some ⟨w.heap.size,0,none⟩) 2 2) [x,y]:=by
 refine Ints.dV ?_ fun z hz=>?_;·have:=World.ownsRow_lit (base:=0) (e:=3) (size:=1) w #[.int .i64 x,.int .i64 y] 2 (qE _) zBY zAF;simpa using this
 simp at hz;rcases hz with rfl|rfl;·exact hx
 exact hy
variable {g:Tag} {b:Nat} {V:Tj} {B:kD}
theorem gG.after{w1 w2:World}(o1:O0 w w1){B2:kD}(h:gG w1 g b B2 w2):gG w g b B2 w2:=gG.trans (Agree.refl _ _) (o1.mono fun _ f=>f.elim) h
theorem abY(H:jL w g b V B){v:Value}{xs:List Int}(hI:Ints w v xs)(hN:wY g v xs)(hs:∀z∈xs,-1000000<=z/\z<=1000000)(hl:xs.length<=1000000):Calls Tryz.prog 154 #[.pointer (some ⟨b,0,none⟩),v] w fun e w'=>e= .returned (.tuple #[])/\gG w g b (B.adds (rO xs)) w':=by
 obtain⟨ao,cap,rfl,hc1,hc2⟩:=hI.shape;obtain⟨n,hn⟩:=ze xs.length;have HN:=zh hn;rw[hn]at hc1 hl hI hN⊢;have HI:=zh hI;have MS:=zh hN;have HS:=zh hs;have H0:=zh (gG.refl H);clear hI hN hs hn H;go_enter Tryz.func154,Tryz.ntmps154;go_wp2_with fail;go_loopw [10] (fun vi wr=> ∃i:Nat,vi= .int .i64 i/\i<=n/\Hid (gG w g b (B.adds (nM xs i)) wr)) (fun v _=>n-(RowKit.intOf v).toNat);case atStart=>exact⟨0,rfl,qE _,H0⟩
 case round=>
  obtain⟨i,rfl,hi,HR⟩:=hrel;by_cases ci:i<n
  ·obtain⟨g1,V1,H1,A1,O1⟩:=HR.out;have hI1:=HI.out.mine MS.out O1;have hi2:i<xs.length:=zAT;obtain⟨bb,off,rfl,hcell⟩:=hI1.Fg hi2;obtain⟨x,hx⟩:=ze (xs.getD i 0);have hxb:=HS.out x (by rw[<-hx];exact mW 0 hi2);rw[hx]at hcell;have iG:=zw (i+1);have ewx:=zw (-x);have hsl:=fun W=>vZ bb off n (i+1) cap zBU hc1 W ((i:Int)+1) zAB;obtain⟨o',ho'⟩:∃o',o'=if cap=i+1 then off else off+(i+1):=⟨_,rfl⟩
   obtain⟨m,hm⟩:=ze (n-(i+1));obtain⟨c2,hc2'⟩:=ze (cap-(i+1));have HD:Hid (∀W,Only (Mine g) w W->Ints W (.slice (some ⟨bb,o',none⟩) m c2) (xs.drop (i+1))):=fun W hW=>by have:=(HI.out.mine MS.out hW).abX (k:=i+1) zAB;rw[<-ho',hm,hc2']at this;exact this
   rw[<-ho',hm,hc2']at hsl;have HX:=zh hx;have hmn:m<=n:=zAB;have Hm:=zh hm;have Am:=zh ewx;clear hI1 ho' hm hc2' hx ewx H1 A1 O1;go_wp2_with fail;generalize wr=wo at*;have HR0:Hid (gG w g b ((B.adds (nM xs i)).adds ((kE xs i).take 0)) wo):=by simpa[kD.adds,Hid]using HR.out
   go_loopw [20] (fun vk wr=> ∃k:Nat,vk= .int .i64 k/\k<=m/\Hid (gG w g b ((B.adds (nM xs i)).adds ((kE xs i).take k)) wr)) (fun v _=>m-(RowKit.intOf v).toNat);case atStart=>exact⟨0,rfl,qE _,HR0⟩
   case round=>
    clear HR HR0 hcell;obtain⟨k,rfl,hk,HR⟩:=hrel;have hdl:(xs.drop (i+1)).length=m:=by rw[List.length_drop,HN.out,Hm.out]
    by_cases ck:k<m
    ·obtain⟨g1,V1,H1,A1,O1⟩:=HR.out;obtain⟨b2,off2,e2,hcell⟩:=(HD.out wr O1).Fg (i:=k) (by rw[hdl];exact ck);simp only[qG,qO,and_true]at e2;obtain⟨rfl,rfl⟩:=e2;obtain⟨y,hy⟩:=ze ((xs.drop (i+1)).getD k 0);have hyb:=HS.out y (by rw[<-hy];exact List.mem_of_mem_drop (mW 0 (by rw[hdl];exact ck)));rw[hy]at hcell;have hpk:(kE xs i).take (k+1)=(kE xs i).take k++[[-x,-y]]:=by
      have hlt:k<(xs.drop (i+1)).length:=by rw[hdl];exact ck
      unfold kE;have hk2:(xs.drop (i+1))[k]'hlt=y:=by rw[<-hy,qC,qA hlt];rfl
      rw[yL (by simpa using hlt),List.getElem_map,hk2];simp only[HX.out]
     have hAdd:=BQ (H1.aH ((Only.refl (fun _=>False) wr).alloc (.cells #[.int .i64 (-x),.int .i64 (-y)] 3))) (wR wr (-x) (-y) ⟨by omega,by omega⟩ ⟨by omega,by omega⟩) zAF;have hfin:∀w',gG (wr.alloc (.cells #[.int .i64 (-x),.int .i64 (-y)] 3)) g1 b (((B.adds (nM xs i)).adds ((kE xs i).take k)).add [-x,-y]) w'->gG w g b ((B.adds (nM xs i)).adds ((kE xs i).take (k+1))) w':=fun w' h=>by exact zEr
     have TI:=zw (k+1);have ewx:=Am.out;have ewy:=zw (-y);have HAdd:=zh hAdd;have HFin:=zh hfin;have HEk:=zh TI;clear hpk hAdd hfin hy H1 A1 O1 TI hdl;go_wp2_with fail;refine HAdd.out.mono ?_;rintro e w2 ⟨rfl,h2⟩;have HF:=zh (HFin.out w2 h2);have TI:=HEk.out;clear h2 ewx ewy;exact zCj
    obtain rfl:m=k:=by omega
    have HR2:Hid (gG w g b (B.adds (nM xs (i+1))) wr):=by have:=HR.out;rw[qI (by unfold kE;rw[qM,hdl];exact qH _)]at this;rw[AZ,kD.vY];exact this
    clear HR;go_wp2_with fail;go_roundw;case rel=>exact⟨i+1,by first|rfl|go_num,by omega,HR2⟩
    case measure=>simp[RowKit.intOf]<;>omega
  obtain rfl:n=i:=by omega
  go_wp2_with fail;go_end0;refine⟨rfl,?_⟩;have:=HR.out;unfold rO;rw[HN.out];exact this
end
def yc(node:Int)(row:List Int):List (List Int):=(-node::row)::(rO row++row.map fun n=>[-n,node])
def kD.one(B:kD)(node:Int)(row:List Int):kD:=if node=0\/row.contains 0=true then B else B.adds (yc node row)
section
variable {w:World} {gt gb:Tag} {c bt bb:Nat} {G:GL} {T:Tab} {B:kD}
def CO(gt gb:Tag)(v:Value)(xs:List Int):Prop:=0<xs.length->∀k,Value.blk v=some k->¬Mine gt k/\¬Mine gb k
theorem Ints.Fe{v:Value}{xs:List Int}(h:Ints w v xs)(hn:CO gt gb v xs){w':World}(ho:Only (fun k=>Mine gt k\/Mine gb k) w w'):Ints w' v xs:=
 h.only' ho fun hp k hk hm=>by
  rcases hm with hm|hm
  ·exact(hn hp k hk).1 hm
  ·exact(hn hp k hk).2 hm
theorem CO.b{v:Value}{xs:List Int}(hn:CO gt gb v xs):wY gb v xs:=fun hp k hk=>by
 have:=(hn hp k hk).2
 unfold Mine at this
 exact Classical.not_not.1 this
theorem CO.agree{v:Value}{xs:List Int}(hn:CO gt gb v xs)(hI:Ints w v xs){gt' gb':Tag}(ht:Agree w gt gt')(hb:Agree w gb gb'):CO gt' gb' v xs:=fun hp k hk=>by
 have hlt:=hI.lt hp hk
 have:=hn hp k hk
 unfold Mine at this⊢
 rwa[ht k hlt,hb k hlt]
theorem afh(H:nP w gt gb c bt bb G T B){v:Value}{xs:List Int}(hI:Ints w v xs)(hN:CO gt gb v xs)(hs:∀z∈xs,-1000000<=z/\z<=1000000)(hl:xs.length<=1000000):Calls Tryz.prog 154 #[.pointer (some ⟨bb,0,none⟩),v] w fun e w'=>e= .returned (.tuple #[])/\jd w gt gb c bt bb G T (B.adds (rO xs)) w':=by obtain⟨V,hV⟩:=H.Fb;exact(abY hV hI hN.b hs hl).mono fun e w' ⟨he,h⟩=>⟨he,H.step_b h⟩
theorem ug{w:World}{e:TypeId}{g:Nat}{u:Value}(h:w.heap[g]? =some (.cells #[u] e)):w.ownsRow 0 e 1 (.slice (some ⟨g,0,none⟩) 1 1) 1 [u]:=
 ⟨rfl,.inr ⟨g,1,#[u],rfl,qE _,h,qH _,by unfold maxLen;omega,rfl,rfl⟩⟩
theorem nP.abZ(H:nP w gt gb c bt bb G T B):w.cell? ⟨c,6,none⟩=some (.pointer (some ⟨bb,0,none⟩)):=by rw[aj H.blk];rfl
theorem Qe(H:nP w gt gb c bt bb G T B){v:Value}{xs:List Int}(hI:Ints w v xs)(hb:xs.length<=1099511627):Calls Tryz.prog 153 #[.pointer (some ⟨bb,0,none⟩),v] w fun e w'=>e= .returned (.tuple #[])/\jd w gt gb c bt bb G T (B.add xs) w':=by obtain⟨V,hV⟩:=H.Fb;exact(BQ hV hI hb).mono fun e w' ⟨he,h⟩=>⟨he,H.step_b h⟩
theorem ahD(H:nP w gt gb c bt bb G T B){v:Value}{row:List Int}(hI:Ints w v row)(hn:CO gt gb v row)(node:Int)(hb: -1000000<=node/\node<=1000000)(hs:∀z∈row,-1000000<=z/\z<=1000000)(hl:row.length<=1000000):Calls Tryz.prog 76 #[.pointer (some ⟨c,0,none⟩),.int .i64 node,v] w fun e w'=>e= .returned (.tuple #[])/\jd w gt gb c bt bb G T (B.one node row) w':=by
 obtain⟨ao,cap,rfl,hc1,hc2⟩:=hI.shape;obtain⟨n,hnl⟩:=ze row.length;have HN:=zh hnl;rw[hnl]at hc1 hl hI hn⊢;have HI:=zh hI;have MS:=zh hn;have HS:=zh hs;have H0:=zh H;obtain⟨r0,hr0⟩:=ze (row.contains 0);have HR0:=zh hr0;have HC:=zh (uU hI 0 r0 hr0);obtain⟨B2,hB2⟩:=ze (B.one node row);rw[hB2];have HB2:=zh hB2;clear hI hn hs hnl H hr0 hB2;go_enter Tryz.func76,Tryz.ntmps76;by_cases h0:node=0
 ·have hB:B2=B:=by rw[<-HB2.out];unfold kD.one;rw[if_pos (.inl h0)]
  subst hB;subst h0;exact zDo
 go_wp2_with fail;refine HC.out.mono ?_;rintro e w1 ⟨rfl,rfl⟩;cases r0 with
 |true=>
  have hB:B2=B:=by rw[<-HB2.out];unfold kD.one;rw[if_pos (.inr HR0.out)]
  subst hB;exact zDo
 |false=>
  have hB:B2=B.adds (yc node row):=by rw[<-HB2.out];unfold kD.one;rw[if_neg (by rw[HR0.out];simp[h0])]
  subst hB;have ewn:=zw (-node);have HK:Hid (∀W,O0 w1 W->W.cell? ⟨c,6,none⟩=some (.pointer (some ⟨bb,0,none⟩))):=fun W hW=>(H0.out.aH hW).abZ;have hS0:=HK.out w1.drew (zr.drew);have xg:Hid (∀W,O0 w1 W->∀ad,ao=some ad->∀j u,(row.map cI)[j]? =some u->W.cell? (ad.add j)=some u):=fun W hW=>(HI.out.aH hW).news;have Fh:Hid (ao=none->n=0/\cap=0):=fun e=>HI.out.nil n cap zBs;have HLen:Hid ((row.map cI).length=n*1):=by rw[qM,HN.out,yH];exact rfl
  have qj:Hid (∀W v2,O0 w1 W->W.ownsRow 0 3 1 v2 (1+n) ([cI (-node)]++row.map cI)->Calls Tryz.prog 153 #[.pointer (some ⟨bb,0,none⟩),v2] W fun e w'=>e= .returned (.tuple #[])/\jd w1 gt gb c bt bb G T (B.add (-node::row)) w'):=fun W v2 hW hown=>by
   have hI2:Ints W v2 (-node::row):=by
    refine Ints.dV ?_ fun z hz=>?_
    ·have e1:1+n=(-node::row).length:=by rw[qN,HN.out];omega
     rw[e1]at hown;simpa using hown
    exact zFL
   refine(Qe (H0.out.aH hW) hI2 (by rw[qN,HN.out];omega)).mono fun e w' ⟨he,h⟩=>⟨he,jd.after hW h⟩
  go_wp2_with fail;go_cut [] (fun wx=>jd w1 gt gb c bt bb G T (B.add (-node::row)) wx);case first=>
   refine bC (n:=10) (E:=fun j=>j==9) (S:=fun W=>W.cell? ⟨c,6,none⟩=some (.pointer (some ⟨bb,0,none⟩))) zk rfl hS0 (fun hHeld=>?_);refine tW 0 ?_;refine tW 1 ?_;refine tW 2 ?_;refine tK 3 ?_;refine tW 4 ?_;refine tW 5 ?_;refine tW 7 ?_;refine tO 6 fun K hK=>?_;go_simp;refine hK.out _ _ ?_ (fun hHeld=>?_);·exact zEL
   clear hK K;try simp only[Act.put,eF,eG,dW,dX,dY]
   refine tO 8 fun K hK=>?_;(refine G9 lY (by rfl) (.tmp 20) (.tmp 21) (by rfl) (by rfl) (ug zB1) (by rfl) HLen.out Fh.out zFR (by intro u hu;obtain⟨q,-,rfl⟩:=yD.1 hu;rfl) zBt (by decide) ?_;intro ao5 cap5 w5 r5 o5 nr5;have oA:O0 w1 w5:=Only.trans zAA o5 (fun k hk=>.inr zBy));refine hK.out _ _ ?_ (fun hHeld=>?_);·(try dsimp only)<;>(exact HK.out _ oA)
   clear hK K;try simp only[Act.put,eF,fA,eG,dW,dX,dY]
   refine fF (rs:=[9]) zk zAF ?_;refine bQ.late (i:=9) rfl zk (fun K hK=>?_) ?_
   ·(go_simp;refine(qj.out _ _ oA r5).mono ?_;rintro e w7 ⟨rfl,h7⟩;try go_wp2_with fail);refine hK.out _ _ ?_;clear hK K;try simp only[Act.put,eF,fA,eG,dW,dX,dY]
    refine bf zk ?_ _;go_wp2_with fail;go_meet;exact h7
   exact bQ.nil
  case rest=>
   clear hS0 HK xg Fh HLen qj;obtain⟨jO,jP,H1,A1,A1',O1⟩:=hcut;have hI1:=HI.out.Fe MS.out O1;have hbc:=H1.abZ;have HM:=zh (afh H1 hI1 (MS.out.agree HI.out A1 A1') HS.out (by rw[HN.out];exact hl));have HT1:Hid (∀w2,jd wc jO jP c bt bb G T ((B.add (-node::row)).adds (rO row)) w2->jd w1 gt gb c bt bb G T ((B.adds ((-node::row)::rO row)).adds ((row.map fun n=>[-n,node]).take 0)) w2):=fun w2 h=>jd.trans A1 A1' O1 h;clear H1 A1 A1' O1 hI1;go_wp2_with fail;refine HM.out.mono ?_;rintro e w2 ⟨rfl,h2⟩;have H3:=zh (HT1.out w2 h2);clear h2 hbc HM HT1;go_wp2_with fail;go_loopw [32] (fun vk wr=> ∃k:Nat,vk= .int .i64 k/\k<=n/\Hid (jd w1 gt gb c bt bb G T ((B.adds ((-node::row)::rO row)).adds ((row.map fun n=>[-n,node]).take k)) wr)) (fun v _=>n-(RowKit.intOf v).toNat);case atStart=>exact⟨0,rfl,qE _,H3⟩
   case round=>
    clear H3;obtain⟨k,rfl,hk,HR⟩:=hrel;by_cases ck:k<n
    ·obtain⟨jO,jP,H1,A1,A1',O1⟩:=HR.out;have hbc:=H1.abZ;have hkr:k<row.length:=by rw[HN.out];exact ck
     obtain⟨b2,off2,rfl,hcell⟩:=(HI.out.Fe MS.out O1).Fg hkr;obtain⟨y,hy⟩:=ze (row.getD k 0);have hyb:=HS.out y (by rw[<-hy];exact mW 0 hkr);rw[hy]at hcell;have hpk:(row.map fun n=>[-n,node]).take (k+1)=(row.map fun n=>[-n,node]).take k++[[-y,node]]:=by
      rw[yL (by simpa using hkr),List.getElem_map];have hk2:row[k]'hkr=y:=by rw[<-hy,qC,qA hkr];rfl
      rw[hk2]
     have hAdd:=Qe (H1.aH ((Only.refl (fun _=>False) wr).alloc (.cells #[.int .i64 (-y),.int .i64 node] 3))) (wR wr (-y) node ⟨by omega,by omega⟩ ⟨by omega,by omega⟩) zAF;have hfin:∀w',jd (wr.alloc (.cells #[.int .i64 (-y),.int .i64 node] 3)) jO jP c bt bb G T (((B.adds ((-node::row)::rO row)).adds ((row.map fun n=>[-n,node]).take k)).add [-y,node]) w'->jd w1 gt gb c bt bb G T ((B.adds ((-node::row)::rO row)).adds ((row.map fun n=>[-n,node]).take (k+1))) w':=fun w' h=>by rw[hpk,kD.vY,kD.AY];exact jd.trans A1 A1' O1 (jd.after ((Only.refl _ wr).alloc _) h)
     have TI:=zw (k+1);have ewy:=zw (-y);have HAdd:=zh hAdd;have HFin:=zh hfin;have HEk:=zh TI;clear hpk hAdd hfin hy H1 A1 A1' O1 TI;go_wp2_with fail;refine HAdd.out.mono ?_;rintro e w3 ⟨rfl,h3⟩;have HF:=zh (HFin.out w3 h3);have TI:=HEk.out;clear h3 ewy;exact zCj
    obtain rfl:n=k:=by omega
    go_wp2_with fail;go_end0;refine⟨rfl,?_⟩;have:=HR.out;rw[qI zBP]at this;have e1:B.adds (yc node row)=(B.adds ((-node::row)::rO row)).adds (row.map fun n=>[-n,node]):=by rw[<-kD.vY];rfl
    rw[e1];exact this
end
def Tab.nums(T:Tab):List At->Tab×List Int
 | []=>(T,[])
 |a::r=>(((T.num a).1.nums r).1,(T.num a).2::((T.num a).1.nums r).2)
theorem Tab.sF:∀(l:List At) (T:Tab) (a:At),T.nums (l++[a])=(((T.nums l).1.num a).1,(T.nums l).2++[((T.nums l).1.num a).2])
 | [],T,a=>rfl
 |b::r,T,a=>by
  rw[List.cons_append,Tab.nums,Tab.sF r,Tab.nums]
  rfl
theorem Tab.jT:∀(l:List At) (T:Tab),(T.nums l).2.length=l.length
 | [],_=>rfl
 |b::r,T=>by rw[Tab.nums,qN,qN,Tab.jT r]
structure Tab.Ok (T:Tab):Prop where
 lim:T.limit<=65536
 len:T.l.length<=T.limit
theorem Tab.ql{T:Tab}(h:T.Ok)(a:At):(T.num a).1.Ok/\0<=(T.num a).2/\(T.num a).2<=65536:=by
 have h1:=h.lim;have h2:=h.len;unfold Tab.num;split;·rename_i hm;refine⟨h,by simp,?_⟩;have:=List.idxOf_lt_length_of_mem hm;simp only[numOf,if_pos hm];omega
 split;·exact⟨⟨h1,h2⟩,by simp,by simp⟩
 rename_i hlt;refine⟨⟨h1,?_⟩,by simp;omega,by simp;omega⟩;simp;omega
theorem Tab.sW:∀(l:List At) {T:Tab},T.Ok->(T.nums l).1.Ok/\∀z∈(T.nums l).2,0<=z/\z<=65536
 | [],T,h=>⟨h,fun z hz=>by cases hz⟩
 |a::r,T,h=>by
  obtain⟨h1,h2⟩:=Tab.ql h a
  obtain⟨h3,h4⟩:=Tab.sW r h1
  refine⟨h3,fun z hz=>?_⟩
  rw[Tab.nums]at hz
  rcases qY.1 hz with rfl|hz
  ·exact h2
  ·exact h4 z hz
def aI(p:Nat):At:=(1,p,0,0)
def kF(p i:Nat):At:=(2,p,i,0)
def lZ(p j k:Nat):At:=(3,p,j,k)
def je(p n:Nat):List At:=(List.range n).map (kF p)
def jo(p j n:Nat):List At:=(List.range n).map (lZ p j)
theorem WC(p n:Nat):je p (n+1)=je p n++[kF p n]:=by unfold je;rw[List.range_succ,List.map_append];rfl
theorem WE(p j n:Nat):jo p j (n+1)=jo p j n++[lZ p j n]:=by unfold jo;rw[List.range_succ,List.map_append];rfl
abbrev TB:=Tab×kD
def TB.row(S:TB)(node:Int)(ats:List At):TB:=((S.1.nums ats).1,S.2.one node (S.1.nums ats).2)
def TB.vars(S:TB)(node:Int)(p:Nat)(vs:List eP):Nat->TB
 |0=>S
 |j+1=>(S.vars node p vs j).row node (jo p j (vs.getD j default).values.length)
def TB.pack(S:TB)(p:Nat)(pk:fP):TB:=
 (TB.row ((S.1.num (aI p)).1,S.2) (S.1.num (aI p)).2 (je p pk.aX.length)).vars (S.1.num (aI p)).2 p pk.vars pk.vars.length
def TB.choices(S:TB)(x:aF)(l:List Nat):TB:=l.foldl (fun S p=>S.pack p (x.pack p)) S
theorem TB.Qg(S:TB)(x:aF)(l:List Nat)(p:Nat):S.choices x (l++[p])=(S.choices x l).pack p (x.pack p):=by simp[TB.choices]
theorem TB.Qh{S:TB}(h:S.1.Ok)(node:Int)(p:Nat)(vs:List eP):∀j,(S.vars node p vs j).1.Ok
 |0=>h
 |j+1=>(Tab.sW _ (TB.Qh h node p vs j)).1
theorem TB.afi{S:TB}(h:S.1.Ok)(p:Nat)(pk:fP):(S.pack p pk).1.Ok:=TB.Qh (S:=TB.row ((S.1.num (aI p)).1,S.2) (S.1.num (aI p)).2 (je p pk.aX.length)) (Tab.sW _ (Tab.ql h _).1).1 _ _ _ _
theorem TB.WG{S:TB}(h:S.1.Ok)(x:aF)(l:List Nat):(S.choices x l).1.Ok:=by
 unfold TB.choices;induction l generalizing S with
 |nil=>exact h
 |cons a r ih=>exact ih (TB.afi h _ _)
section
variable {w w2 wr:World} {gt gb jO jP:Tag} {c bt bb:Nat} {G:GL} {T:Tab} {B:kD}
def pO(w2:World)(jO jP:Tag)(c bt bb:Nat)(G:GL)(T:Tab)(B:kD)(wr:World)(v:Value)(xs:List Int):Prop:=
 ∃gt' gb',nP wr gt' gb' c bt bb G T B/\Agree w2 jO gt'/\Agree w2 jP gb'/\Only (fun k=>Mine jO k\/Mine jP k) w2 wr/\wr.ownsRow 0 3 1 v xs.length (xs.map cI)/\Beside wr gt' gb' c v/\∀k,v.ownBlock=some k->w2.heap.size<=k
theorem pO.start(h:jd w2 jO jP c bt bb G T B wr):pO w2 jO jP c bt bb G T B wr dF []:=by obtain⟨a,b,H,A,A',O⟩:=h;exact⟨a,b,H,A,A',O,World.ownsRow_nil _ _ _ _,(fun k hk=>by cases hk),fun k hk=>by cases hk⟩
theorem pO.gr{v:Value}{xs:List Int}(h:pO w2 jO jP c bt bb G T B wr v xs):jd w2 jO jP c bt bb G T B wr:=by obtain⟨a,b,H,A,A',O,-,-,-⟩:=h;exact⟨a,b,H,A,A',O⟩
theorem pO.num{v:Value}{xs:List Int}(h:pO w2 jO jP c bt bb G T B wr v xs){x:At}(hx:nK x)(r:Int)(hr:(T.num x).2=r):Calls Tryz.prog 75 #[.pointer (some ⟨c,0,none⟩),iY x] wr fun e w'=>e= .returned (.int .i64 r)/\pO w2 jO jP c bt bb G (T.num x).1 B w' v xs:=by
 obtain⟨a,b,H,A,A',O,R,S,N⟩:=h;refine(OG H hx r hr).mono ?_;rintro e w' ⟨rfl,a2,b2,H2,A2,VN,O2⟩;refine⟨rfl,a2,b2,H2,A.trans A2 O.size,A'.trans VN O.size,O.Fe A A' O2,aG R O2 fun k hk hm=>?_,S.more O2.size A2 VN,N⟩;have hk':Value.blk v=some k:=by exact zCn
 rcases hm with hm|hm;·exact(S k hk').2.1 hm
 exact(S k hk').2.2.1 hm
theorem pO.app{v v':Value}{xs:List Int}(h:pO w2 jO jP c bt bb G T B wr v xs){w3 w4:World}(o3:O0 wr w3){z:Int}(r:w4.ownsRow 0 3 1 v' (xs.length+1) (xs.map cI++[cI z]))(o:Only (fun k=>v.ownBlock=some k) w3 w4)(a:AB w3 v v' (xs.length+1)):pO w2 jO jP c bt bb G T B w4 v' (xs++[z]):=by
 obtain⟨gt',gb',H,A,A',O,R,S,N⟩:=h;have hbl:∀k,v.ownBlock=some k->Value.blk v=some k:=fun k hk=>by exact zCn
 have o4:Only (fun k=>v.ownBlock=some k) wr w4:=(o3.mono fun _ f=>f.elim).same o;have H4:=H.only o4 (fun k hk hv=>by
  obtain⟨-,s1,s2,-⟩:=S k (hbl k hv)
  rcases hk with hk|hk
  ·exact s1 hk
  ·exact s2 hk) (fun hv=>(S c (hbl c hv)).2.2.2 rfl)
 refine⟨gt',gb',H4,A,A',O.trans o4 fun k hk=>.inr (N k hk),by simpa using r,fun k hk=>?_,fun k hk=>?_⟩
 ·obtain⟨g,cap,rfl,-,-,hg⟩:=a;simp[Value.blk]at hk;subst hk;rcases hg with hg|hg;·obtain⟨s0,s1,s2,s3⟩:=S g (hbl g hg);exact⟨by have:=o4.size;omega,s1,s2,s3⟩
  have hlt:g<w4.heap.size:=dP r rfl;have:=o3.size;obtain⟨V,hV⟩:=H.tab;obtain⟨U,hU⟩:=H.Fb;have hc:=bU H.blk;exact zEB
 exact zDa
theorem pO.ints{v:Value}{xs:List Int}(h:pO w2 jO jP c bt bb G T B wr v xs)(hx:∀z∈xs,0<=z/\z<=65536):∃gt' gb',nP wr gt' gb' c bt bb G T B/\Agree w2 jO gt'/\Agree w2 jP gb'/\Only (fun k=>Mine jO k\/Mine jP k) w2 wr/\Ints wr v xs/\CO gt' gb' v xs:=by obtain⟨a,b,H,A,A',O,R,S,-⟩:=h;exact⟨a,b,H,A,A',O,Ints.dV R fun z hz=>⟨by have:=hx z hz;omega,by have:=hx z hz;omega⟩,fun _ k hk=>⟨(S k hk).2.1,(S k hk).2.2.1⟩⟩
theorem pO.one{v:Value}{xs:List Int}(h:pO w2 jO jP c bt bb G T B wr v xs)(hx:∀z∈xs,0<=z/\z<=65536)(hl:xs.length<=1000000)(node:Int)(hb:0<=node/\node<=65536):Calls Tryz.prog 76 #[.pointer (some ⟨c,0,none⟩),.int .i64 node,v] wr fun e w'=>e= .returned (.tuple #[])/\jd w2 jO jP c bt bb G T (B.one node xs) w':=by obtain⟨a,b,H,A,A',O,I,N⟩:=h.ints hx;exact(ahD H I N node ⟨by omega,by omega⟩ (fun z hz=>by have:=hx z hz;omega) hl).mono fun e w' ⟨he,h⟩=>⟨he,jd.trans A A' O h⟩
end
structure He (x:aF):Prop where
 packs:x.packs.length<=1000
 aX:∀p∈x.packs,p.aX.length<=1000
 vars:∀p∈x.packs,p.vars.length<=1000
 vals:∀p∈x.packs,∀v∈p.vars,v.values.length<=1000
theorem zI:bg 0:=⟨by decide,by decide⟩
theorem WH{l:List Nat}{i p:Nat}(h:l[i]? =some p):l.take (i+1)=l.take i++[p]:=by obtain⟨hlt,rfl⟩:=qJ.1 h;rw[yL hlt]
section
variable {w:World} {gt gb:Tag} {c bt bb Bs:Nat} {G:GL} {T:Tab} {B:kD}
theorem WI(H:nP w gt gb c bt bb G T B){x:aF}(hx:gy Bs w [G.x1,G.x2] x){l:List Nat}(hl:Ints w G.l (intsOf l))(hlt:∀p∈l,p<x.packs.length)(hm:He x)(hBs:∀k,Mine gt k\/Mine gb k->Bs<=k)(hBw:Bs<=w.heap.size)(hlen:l.length<=1000):Calls Tryz.prog 22 #[.pointer (some ⟨c,0,none⟩)] w fun e w'=>e= .returned (.tuple #[])/\jd w gt gb c bt bb G (TB.choices (T,B) x l).1 (TB.choices (T,B) x l).2 w':=by
 have akH:T.Ok:=by obtain⟨V,hV⟩:=H.tab;exact⟨hV.lim,hV.len⟩
 have HP:=zh (x9 H hl zBK);have q0:w.cell? ⟨c,0,none⟩=some G.x1:=zAf;have H0:=zh H;obtain⟨v1,v2,e12,h1,-⟩:=hx;simp only[List.cons.injEq,and_true]at e12;obtain⟨e1,-⟩:=e12;obtain⟨ao,cap,e2,-,-⟩:=h1.shape;obtain⟨n1,hn1⟩:=ze x.packs.length;rw[e1,e2,hn1]at q0;rw[e2,hn1]at h1;have R1:=zh h1;have N1:=zh hn1;have HM:=zh hm;have aoh:=zh akH;have HBs:=zh hBs;have HLt:Hid (∀p∈l,p<n1):=by rw[<-hn1];exact hlt
 have aoi:n1<=1000:=by rw[<-hn1];exact hm.packs
 obtain⟨nl,hnl⟩:=ze l.length;rw[hnl]at hlen;have uh:=zh hnl;have Dt:Hid ((intsOf l).length=nl):=by unfold intsOf;rw[qM];exact hnl
 have hc:c<w.heap.size:=bU H.blk; -- the cell of the recipe, later on
 have HX:Hid (∀W gt' gb',nP W gt' gb' c bt bb G T B\/True->Only (fun k=>Mine gt k\/Mine gb k) w W->W.cell? ⟨c,0,none⟩=some (.slice ao n1 cap)):=fun W _ _ _ hW=>by rw[World.cell?_of_block (w:=w) (hW.block c hc (by rintro(h|h);exact h H0.out.tc;exact h H0.out.tc'))];exact q0
 clear H hl hlt hm hBs akH h1 e1 e2 hn1 hnl q0;go_enter Tryz.func22,Tryz.ntmps22;go_wp2_with fail;refine HP.out.mono ?_;rintro e w1 ⟨vp,rfl,r1,r2,r3⟩;have HI:Hid (Ints w1 vp (intsOf l)):=Ints.dV r1 fun z hz=>by obtain⟨i,hi,rfl⟩:=yD.1 hz;have:=HLt.out i hi;exact zCx
 have H1:=zh (H0.out.aH r3);have aW:=zh r3;have MS:Hid (CO gt gb vp (intsOf l)):=fun _ k hk=>by
  obtain⟨V,hV⟩:=H0.out.tab;obtain⟨U,hU⟩:=H0.out.Fb;have hk2:=r2 k (by obtain⟨a2,c2,rfl,-,-⟩:=aJ r1;cases a2 with|none=>cases hk|some ad=>exact hk);constructor;·unfold Mine;rw[hV.fresh k hk2];simp
  unfold Mine;rw[hU.fresh k hk2];simp
 obtain⟨ap,cp,rfl,-,-⟩:=aJ r1;rw[Dt.out]at HI MS⊢;have HG1:Hid (jd w1 gt gb c bt bb G (TB.choices (T,B) x (l.take 0)).1 (TB.choices (T,B) x (l.take 0)).2 w1):=jd.refl H1.out;clear r1 r2 r3 HP;go_wp2_with fail;go_loopw [15] (fun vi wr=> ∃i:Nat,vi= .int .i64 i/\i<=nl/\Hid (jd w1 gt gb c bt bb G (TB.choices (T,B) x (l.take i)).1 (TB.choices (T,B) x (l.take i)).2 wr)) (fun v _=>nl-(RowKit.intOf v).toNat);case atStart=>exact⟨0,rfl,qE _,HG1⟩
 case round=>
  clear HG1;obtain⟨i,rfl,hi,HR⟩:=hrel;by_cases ci:i<nl
  ·obtain⟨S,hS⟩:=ze (TB.choices (T,B) x (l.take i));have aoj:S.1.Ok:=by rw[<-hS];exact TB.WG aoh.out _ _
   rw[hS]at HR;obtain⟨p,hp⟩:=zG l i zAu;have kN:Hid (TB.choices (T,B) x (l.take (i+1))=S.pack p (x.pack p)):=by rw[WH hp,TB.Qg,hS];exact rfl
   have hpn:p<n1:=HLt.out p (qT hp);obtain⟨jO,jP,HG,A1,A1',O1⟩:=HR.out;have hI2:=HI.out.Fe MS.out O1;obtain⟨bI,aok,eI,hcell⟩:=hI2.Fg (i:=i) (by rw[Dt.out];exact ci);subst eI;have hgp:(intsOf l).getD i 0=(p:Int):=by unfold intsOf;rw[qC,List.getElem?_map,hp];rfl
   rw[hgp]at hcell;have iG:=zw (i+1);have Ow:Only (fun k=>Mine gt k\/Mine gb k) w wr:=(aW.out.mono fun _ f=>f.elim).same O1;have qx:=HX.out wr jO jP (.inr trivial) Ow;have hKp:Kp Bs w wr:=Ow.mono fun k hk=>HBs.out k hk;have hr1:=R1.out.keep fQ.keep hKp;rw[<-N1.out]at hr1;obtain⟨b,off,eb,-,-⟩:=hr1.at (by have:=N1.out;omega);subst eb;have hpx:x.packs[p]? =some (x.pack p):=by unfold aF.pack;rw[qC,qA (by rw[N1.out];exact hpn)];rfl
   obtain⟨cs,-,Nz,OH⟩:=hr1.get hpx;obtain⟨pk,hpk⟩:=ze (x.pack p);have hmem:pk∈x.packs:=by rw[<-hpk];exact qT hpx
   rw[hpk]at OH kN;obtain⟨o1,o2,o3,o4,o5,o6,c1,c2,c3,c4,c5,c6,rfl,-,-,-,b2,-,-,-,-⟩:=OH.cells;have HRp:=zh Nz;have hrl:=HM.out.aX pk hmem;have hvl:=HM.out.vars pk hmem;have HVl:=zh (HM.out.vals pk hmem);obtain⟨nr,hnr⟩:=ze pk.aX.length;obtain⟨nv,RY⟩:=ze pk.vars.length;rw[hnr]at HRp hrl;rw[RY]at HRp b2 hvl;have ZJ:=zh hnr;have TJ:=zh RY; -- the world behind the copy of the package
   obtain⟨wB,hwB⟩:=zB (wr.alloc (.cells #[.string pk.name,.int .i64 pk.line,.slice o1 nr c1,.slice o2 nv c2,.slice o3 pk.provides.length c3,.slice o4 pk.deps.length c4,.slice o5 pk.cons.length c5,.slice o6 pk.files.length c6] 101));have oB:O0 wr wB:=zA2;have HGB:=HG.aH oB;have hfr:(jO wr.heap.size).1=0/\(jP wr.heap.size).1=0:=by obtain⟨V,hV⟩:=HG.tab;obtain⟨U,hU⟩:=HG.Fb;exact⟨hV.fresh _ (qH _),hU.fresh _ (qH _)⟩
   have OI:Hid (∀W,Only (fun k=>Mine jO k\/Mine jP k) wB W->W.cell? ⟨wr.heap.size,2,none⟩=some (.slice o1 nr c1)/\W.cell? ⟨wr.heap.size,3,none⟩=some (.slice o2 nv c2)):=fun W hW=>by have b0:wB.heap[wr.heap.size]? =some (.cells #[.string pk.name,.int .i64 pk.line,.slice o1 nr c1,.slice o2 nv c2,.slice o3 pk.provides.length c3,.slice o4 pk.deps.length c4,.slice o5 pk.cons.length c5,.slice o6 pk.files.length c6] 101):=zA7;have b1:=aC b0 hW (by rintro(h|h);exact h hfr.1;exact h hfr.2);exact zCr
   have HVr:Hid (∀W,Only (fun k=>Mine jO k\/Mine jP k) wB W->aQ 2 jM Bs W (.slice o2 nv c2) pk.vars):=fun W hW=>b2.keep jM.keep (((oB.mono fun _ f=>f.elim).trans (G:=fun k=>Mine jO k\/Mine jP k) hW fun k hk=>by
    rcases yK k wr.heap.size with hlt|hge
    ·left
     have hs1:=aW.out.size
     rcases yK k w1.heap.size with h2|h2
     ·refine HBs.out k ?_
      unfold Mine at hk⊢
      rwa[A1 k h2,A1' k h2]at hk
     ·omega
    ·exact .inr hge:Kp Bs wr W))
   have HFin:Hid (∀W,jd wB jO jP c bt bb G (S.pack p pk).1 (S.pack p pk).2 W->jd w1 gt gb c bt bb G (TB.choices (T,B) x (l.take (i+1))).1 (TB.choices (T,B) x (l.take (i+1))).2 W):=fun W h=>by rw[kN.out];exact jd.trans A1 A1' (O1.same (oB.mono fun _ f=>f.elim)) h
   have OJ:Hid (pO wB jO jP c bt bb G S.1 S.2 wB dF []):=pO.start (jd.refl HGB);clear HX hgp hI2 hKp hr1 hpx Nz OH hmem b2 hnr RY HG A1 A1' O1 Ow HGB hfr oB hp hS HR hpk;go_wp2_with (refine wpList_load_mid rfl 101 (.tmp 25) rfl b (off+p*8) rfl _ _ HRp.out Tryz.underlying101 rfl zk ?_);rw[<-hwB];clear hwB;generalize wr=wo at*;obtain⟨T1,hT1⟩:=ze ((S.1.num (aI p)).1);obtain⟨node,Yw⟩:=ze ((S.1.num (aI p)).2);have akJ:=Tab.ql aoj (aI p);rw[hT1,Yw]at akJ;obtain⟨akK,hnb⟩:=akJ;have ahI:=zh (pO.num OJ.out (x:=aI p) ⟨by simp[aI],⟨by simp only[aI];omega,by simp only[aI];omega⟩,zI,zI⟩ node Yw);rw[hT1]at ahI;have HT1:=zh hT1;have Yx:=zh Yw;refine ahI.out.mono ?_;rintro e w2 ⟨rfl,h2⟩;have HG2:Hid (pO wB jO jP c bt bb G (T1.nums (je p 0)).1 S.2 w2 dF (T1.nums (je p 0)).2):=h2;clear ahI h2 hT1 Yw OJ;have hpk2:=(OI.out w2 (by obtain⟨_,_,_,_,_,O,_⟩:=HG2.out;exact O)).1;go_wp2_with fail;go_loopw [6,34] (fun v6 vk wr=> ∃k:Nat,vk= .int .i64 k/\k<=nr/\Hid (pO wB jO jP c bt bb G (T1.nums (je p k)).1 S.2 wr v6 (T1.nums (je p k)).2)) (fun _ v _=>nr-(RowKit.intOf v).toNat);case atStart=>exact⟨0,rfl,qE _,HG2⟩
   case round=>
    clear HG2 hpk2;obtain⟨k,rfl,hk,iP⟩:=hrel;by_cases ck:k<nr
    ·obtain⟨T2,hT2⟩:=ze ((T1.nums (je p k)).1);obtain⟨zs,hzs⟩:=ze ((T1.nums (je p k)).2);have hzl:zs.length=k:=by rw[<-hzs,Tab.jT];unfold je;simp
     obtain⟨r,hr⟩:=ze ((T2.num (kF p k)).2);have hsn:T1.nums (je p (k+1))=((T2.num (kF p k)).1,zs++[r]):=by rw[WC,Tab.sF,hT2,hzs,hr]
     rw[hT2,hzs]at iP;have Ku:=zh hsn;have uV:=zh (pO.num iP.out (x:=kF p k) ⟨by simp[kF],⟨by simp only[kF];omega,by simp only[kF];omega⟩,⟨by simp only[kF];omega,by simp only[kF];omega⟩,zI⟩ r hr);obtain⟨au,cu,hu,-,-⟩:∃au cu,u6= .slice au zs.length cu/\zs.length<=cu/\cu<=maxLen:=by obtain⟨_,_,_,_,_,_,R,_⟩:=iP.out;exact aJ R
     subst hu;have TI:=zw (k+1);have hzk:zs.length<=1000:=zAB;clear hT2 hzs hsn hr hzl;go_wp2_with fail;refine uV.out.mono ?_;rintro e w5 ⟨rfl,h5⟩;have H5:=zh h5;have hown:w5.ownsRow 0 3 1 (.slice au zs.length cu) zs.length (zs.map cI):=by obtain⟨_,_,_,_,_,_,R,_⟩:=h5;exact R
     have rG:=zh hown;clear h5 hown uV;go_wp2_with (at_builtin;go_must (refine AL (u:=.int .i64 r) lY rfl (.tmp 37) (.tmp 43) rfl rfl rfl (cell_new0 _ _ _) rfl (aG rG.out ((Only.refl (fun _=>False) _).alloc _) (fun _ _ f=>f)) zAB zBV ?_));intro v' w6 s1 s2 s3;have Du:Hid (pO wB jO jP c bt bb G (T1.nums (je p (k+1))).1 S.2 w6 v' (T1.nums (je p (k+1))).2):=by exact zEu
     exact zC9
    obtain rfl:nr=k:=by omega
    clear hk ck;obtain⟨zok,zb⟩:=Tab.sW (je p nr) akK;have zl:(T1.nums (je p nr)).2.length=nr:=by rw[Tab.jT];unfold je;simp
    have TK:=zh (pO.one iP.out zb (by rw[zl];omega) node hnb);obtain⟨au,cu,hu,-,-⟩:∃au cu,u6= .slice au nr cu/\nr<=cu/\cu<=maxLen:=by obtain⟨_,_,_,_,_,_,R,_⟩:=iP.out;rw[zl]at R;exact aJ R
    subst hu;clear zb;go_wp2_with fail;refine TK.out.mono ?_;rintro e w3 ⟨rfl,h3⟩;obtain⟨S1,hS1⟩:=ze (TB.row (T1,S.2) node (je p nr));have OL:S1.1.Ok:=by rw[<-hS1];exact zok
    have HG3:Hid (jd wB jO jP c bt bb G (S1.vars node p pk.vars 0).1 (S1.vars node p pk.vars 0).2 w3):=by rw[<-hS1];exact h3
    have akL:Hid (∀W,jd wB jO jP c bt bb G (S1.vars node p pk.vars nv).1 (S1.vars node p pk.vars nv).2 W->jd w1 gt gb c bt bb G (TB.choices (T,B) x (l.take (i+1))).1 (TB.choices (T,B) x (l.take (i+1))).2 W):=fun W h=>by refine HFin.out W ?_;unfold TB.pack;rw[HT1.out,Yx.out,ZJ.out,TJ.out,hS1];exact h
    have aon:=(OI.out w3 (by obtain⟨_,_,_,_,_,O⟩:=HG3.out;exact O)).2;clear h3 TK iP zl zok hS1 HFin kN;go_wp2_with fail;generalize w3=wq at*;go_loopw [53] (fun vj wr=> ∃j:Nat,vj= .int .i64 j/\j<=nv/\Hid (jd wB jO jP c bt bb G (S1.vars node p pk.vars j).1 (S1.vars node p pk.vars j).2 wr)) (fun v _=>nv-(RowKit.intOf v).toNat);case atStart=>exact⟨0,rfl,qE _,HG3⟩
    case round=>
     clear HG3 aon;obtain⟨j,rfl,hj,HG⟩:=hrel;by_cases cj:j<nv
     ·obtain⟨S2,hS2⟩:=ze (S1.vars node p pk.vars j);have akM:S2.1.Ok:=by rw[<-hS2];exact TB.Qh OL _ _ _ _
      rw[hS2]at HG;have HV:=HVr.out wr (by obtain⟨_,_,_,_,_,O⟩:=HG.out;exact O);rw[<-TJ.out]at HV;obtain⟨b2,off2,e2,-,-⟩:=HV.at (by have:=TJ.out;omega);subst e2;obtain⟨vd,hvd⟩:=zG pk.vars j (by rw[TJ.out];exact cj);obtain⟨cs2,-,hr2,hC2⟩:=HV.get hvd;obtain⟨vv,rfl,-,hvv⟩:=hC2;obtain⟨av,cv,rfl,-,-⟩:=hvv.shape;have hvn:vd.values.length<=1000:=HVl.out vd (qT hvd);obtain⟨nk,hnk⟩:=ze vd.values.length;rw[hnk]at hr2 hvn;have HR2:=zh hr2;have hgd:pk.vars.getD j default=vd:=by rw[qC,hvd];rfl
      have kN:Hid (S1.vars node p pk.vars (j+1)=S2.row node (jo p j nk)):=by show TB.row _ _ _=_;rw[hS2,hgd,hnk]
      have WJ:=zw (j+1);obtain⟨wV,hwV⟩:=zB (wr.alloc (.cells #[.string vd.name,.slice av nk cv] 145));have oV:O0 wr wV:=by rw[hwV];exact zr.alloc _
      obtain⟨ZH,ZI,HGr,A2,VN,O2⟩:=HG.out;have HGV:=HGr.aH oV;have hfr2:(ZH wr.heap.size).1=0/\(ZI wr.heap.size).1=0:=by obtain⟨V,hV⟩:=HGr.tab;obtain⟨U,hU⟩:=HGr.Fb;exact⟨hV.fresh _ (qH _),hU.fresh _ (qH _)⟩
      have hvc:wV.cell? ⟨wr.heap.size,1,none⟩=some (.slice av nk cv):=by
       have b0:wV.heap[wr.heap.size]? =some (.cells #[.string vd.name,.slice av nk cv] 145):=by rw[hwV];exact qL wr _
       rw[aj b0];rfl
      have akN:Hid (∀W,jd wV ZH ZI c bt bb G (S2.row node (jo p j nk)).1 (S2.row node (jo p j nk)).2 W->jd wB jO jP c bt bb G (S1.vars node p pk.vars (j+1)).1 (S1.vars node p pk.vars (j+1)).2 W):=fun W h=>by rw[kN.out];exact jd.trans A2 VN (O2.same (oV.mono fun _ f=>f.elim)) h
      have OJ:Hid (pO wV ZH ZI c bt bb G (S2.1.nums (jo p j 0)).1 S2.2 wV dF (S2.1.nums (jo p j 0)).2):=pO.start (jd.refl HGV);clear HV hvd hr2 hvv hnk hgd kN oV HGr A2 VN O2 HGV hfr2 hS2 HG;go_wp2_with (refine wpList_load_mid rfl 145 (.tmp 56) rfl b2 (off2+j*2) rfl _ _ HR2.out Tryz.underlying145 rfl zk ?_);rw[<-hwV];clear hwV hvc;generalize wr=wm at*;go_loopw [10,61] (fun v6 vk wr=> ∃k:Nat,vk= .int .i64 k/\k<=nk/\Hid (pO wV ZH ZI c bt bb G (S2.1.nums (jo p j k)).1 S2.2 wr v6 (S2.1.nums (jo p j k)).2)) (fun _ v _=>nk-(RowKit.intOf v).toNat);case atStart=>exact⟨0,rfl,qE _,OJ⟩
      case round=>
       clear OJ;obtain⟨k,rfl,hk,iP⟩:=hrel;by_cases ck:k<nk
       ·obtain⟨T2,hT2⟩:=ze ((S2.1.nums (jo p j k)).1);obtain⟨zs,hzs⟩:=ze ((S2.1.nums (jo p j k)).2);have hzl:zs.length=k:=by rw[<-hzs,Tab.jT];unfold jo;simp
        obtain⟨r,hr⟩:=ze ((T2.num (lZ p j k)).2);have hsn:S2.1.nums (jo p j (k+1))=((T2.num (lZ p j k)).1,zs++[r]):=by rw[WE,Tab.sF,hT2,hzs,hr]
        rw[hT2,hzs]at iP;have Ku:=zh hsn;have uV:=zh (pO.num iP.out (x:=lZ p j k) ⟨by simp[lZ],⟨by simp only[lZ];omega,by simp only[lZ];omega⟩,⟨by simp only[lZ];omega,by simp only[lZ];omega⟩,⟨by simp only[lZ];omega,by simp only[lZ];omega⟩⟩ r hr);obtain⟨au,cu,hu,-,-⟩:∃au cu,u10= .slice au zs.length cu/\zs.length<=cu/\cu<=maxLen:=by obtain⟨_,_,_,_,_,_,R,_⟩:=iP.out;exact aJ R
        subst hu;have TI:=zw (k+1);have hzk:zs.length<=1000:=zAB;clear hT2 hzs hsn hr hzl;go_wp2_with fail;refine uV.out.mono ?_;rintro e w5 ⟨rfl,h5⟩;have H5:=zh h5;have hown:w5.ownsRow 0 3 1 (.slice au zs.length cu) zs.length (zs.map cI):=by obtain⟨_,_,_,_,_,_,R,_⟩:=h5;exact R
        have rG:=zh hown;clear h5 hown uV;go_wp2_with (at_builtin;go_must (refine AL (u:=.int .i64 r) lY rfl (.tmp 64) (.tmp 71) rfl rfl rfl (cell_new0 _ _ _) rfl (aG rG.out ((Only.refl (fun _=>False) _).alloc _) (fun _ _ f=>f)) zAB zBV ?_));intro v' w6 s1 s2 s3;have Du:Hid (pO wV ZH ZI c bt bb G (S2.1.nums (jo p j (k+1))).1 S2.2 w6 v' (S2.1.nums (jo p j (k+1))).2):=by exact zEu
        exact zC9
       obtain rfl:nk=k:=by omega
       clear hk ck;obtain⟨-,zb⟩:=Tab.sW (jo p j nk) akM;have zl:(S2.1.nums (jo p j nk)).2.length=nk:=by rw[Tab.jT];unfold jo;simp
       have TK:=zh (pO.one iP.out zb (by rw[zl];omega) node hnb);obtain⟨au,cu,hu,-,-⟩:∃au cu,u10= .slice au nk cu/\nk<=cu/\cu<=maxLen:=by obtain⟨_,_,_,_,_,_,R,_⟩:=iP.out;rw[zl]at R;exact aJ R
       subst hu;clear zb zl;go_wp2_with fail;refine TK.out.mono ?_;rintro e w3 ⟨rfl,h3⟩;have akO:=zh (akN.out w3 h3);clear h3 TK iP;go_wp2_with fail;go_roundw;case rel=>exact⟨j+1,by first|rfl|go_num,by omega,akO⟩
       case measure=>simp[RowKit.intOf]<;>omega
     obtain rfl:nv=j:=by omega
     have D9:=zh (akL.out wr HG.out);go_wp2_with fail;go_roundw;case rel=>exact⟨i+1,by first|rfl|go_num,by omega,D9⟩
     case measure=>simp[RowKit.intOf]<;>omega
  obtain rfl:nl=i:=by omega
  go_wp2_with fail;go_end0;refine⟨rfl,?_⟩;have:=HR.out;rw[qI (yG uh.out)]at this;exact jd.after aW.out this
end
end Go.Proofs.YtdmmebjjojimiaaGreatDoor
