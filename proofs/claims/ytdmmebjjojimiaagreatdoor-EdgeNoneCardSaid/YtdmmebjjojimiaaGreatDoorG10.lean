/- Ch1 Ch2 Ch3 Ch4 Ch5, in one text.; A row that is taken from its head and appended to: 'xs = xs[1:]', 'xs = append(xs, u)' (el -/
import Derived.Test.YtdmmebjjojimiaaGreatDoorG08
import Derived.Test.YtdmmebjjojimiaaGreatDoorG09
import Derived.Test.YtdmmebjjojimiaaGreatDoorG03
import Derived.Deep.DeepCutAuto
set_option maxRecDepth 100000
set_option maxHeartbeats 8000000
set_option linter.all false
namespace Go.Proofs
theorem zBj{p:Prop}(h:p:=by repeat (first|exact Only.refl _ _|apply Only.drew|apply Only.alloc|apply Only.drewN)):p:=h
theorem zBA{p:Prop}(h:p:=by rw[hwB];exact zr.alloc _):p:=h
theorem zBJ{p:Prop}(h:p:=by rw[hwB];exact qL wr _):p:=h
theorem zBf{p:Prop}(h:p:=by rw[qM,HN.out];exact qH _):p:=h
theorem zAB{p:Prop}(h:p:=by repeat (first|exact Only.refl _ _|apply Only.drew|apply Only.alloc|apply Only.drewN)):p:=h
theorem zCB{p:Prop}(h:p:=by simp[Value.ownBlock]at hk;(try simp);omega):p:=h
theorem zCE{p:Prop}(h:p:=by exact qL _ _):p:=h
theorem zCk{p:Prop}(h:p:=by
 go_wp2_with fail
 go_roundw
 case rel=>exact⟨k+1,by first|rfl|go_num,by omega,HF⟩
 case measure=>simp[RowKit.intOf]<;>omega):p:=h
theorem zCp{p:Prop}(h:p:=by
 obtain⟨ao,cap,rfl,-,-⟩:=aC R
 cases ao with
 |none=>cases hk
 |some ad=>exact hk):p:=h
theorem zCw{p:Prop}(h:p:=by exact⟨by omega,by omega⟩):p:=h
theorem zC4{p:Prop}(h:p:=by exact⟨by rw[ah b1];rfl,by rw[ah b1];rfl⟩):p:=h
theorem zDB{p:Prop}(h:p:=by
 obtain⟨g6,c6',rfl,-,-,-⟩:=s3
 clear s1 s2 H5 zO ng
 go_wp2_with fail
 go_roundw
 case rel=>exact⟨k+1,by first|rfl|go_num,by omega,Ey⟩
 case measure=>simp[RowKit.intOf]<;>omega):p:=h
theorem zDT{p:Prop}(h:p:=by
 obtain⟨g,cap,rfl,-,-,hg⟩:=a
 simp[Value.ownBlock]at hk
 subst hk
 rcases hg with hg|hg
 ·exact N g hg
 ·have:=O.size;have:=o3.size;omega):p:=h
theorem zDe{p:Prop}(h:p:=by
 go_wp2_with fail
 ((try simp only[Exit.inBlock,Exit.then]);refine bodyPost_ret (results_none rfl _ _ _) rfl ?_)
 exact⟨rfl,jT.refl H0.out⟩):p:=h
theorem zD2{p:Prop}(h:p:=by
 obtain⟨ZH,ZI,H2,A2,V6,O2⟩:=h2
 exact⟨ZH,ZI,H2,ht.trans A2 ho.size,hb.trans V6 ho.size,ho.GX ht hb O2⟩):p:=h
theorem zFN{p:Prop}(h:p:=by
 refine⟨hlt,?_,?_,by omega⟩
 ·unfold Mine;rw[hV.fresh g zBk];simp
 ·unfold Mine;rw[hU.fresh g zBk];simp):p:=h
theorem zEe{p:Prop}(h:p:=by
 rw[hpk,lu.wZ,lu.CU]
 exact iV.trans A1 O1 (iV.after ((Only.refl _ wr).alloc _) h)):p:=h
theorem zEg{p:Prop}(h:p:=by
 rw[DN.out]
 exact rF.app H5.out ((Only.refl (fun _=>False) w5).alloc _) s1 s2 s3):p:=h
theorem zE3{p:Prop}(h:p:=by
 rcases qY.1 hz with rfl|hz
 ·exact zCw
 ·have:=HS.out z hz;exact⟨by omega,by omega⟩):p:=h
theorem zFW{p:Prop}(h:p:=by exact x9.out _ zAB):p:=h
end Go.Proofs
namespace Go.Proofs.YtdmmebjjojimiaaGreatDoor
open Go.RowKit
structure NU where
 x1:Value
 x2:Value
 q:Value
 l:Value
 r:Value
structure nD (w:World) (gt gb:Tag) (c bt bb:Nat) (G:NU) (T:Tab) (B:lu):Prop where
 blk:w.heap[c]? =some (.cells #[G.x1,G.x2,G.q,G.l,G.r,.pointer (some ⟨bt,0,none⟩),.pointer (some ⟨bb,0,none⟩)] 141 (0,0))
 tc:(gt c).1=0
 tc':(gb c).1=0
 tab:∃V,TabAt w gt bt V T
 Jy:∃V,lJ w gb bb V B
 Kw:∀k,Mine gt k->¬Mine gb k
def jT(w:World)(gt gb:Tag)(c bt bb:Nat)(G:NU)(T:Tab)(B:lu)(w':World):Prop:=
 ∃gt' gb',nD w' gt' gb' c bt bb G T B/\Agree w gt gt'/\Agree w gb gb'/\Only (fun k=>Mine gt k\/Mine gb k) w w'
section
variable {w:World} {gt gb:Tag} {c bt bb:Nat} {G:NU} {T:Tab} {B:lu}
theorem nD.only(H:nD w gt gb c bt bb G T B){w':World}{F:Nat->Prop}(ho:Only F w w')(h1:∀k,Mine gt k\/Mine gb k->¬F k)(h2:¬F c):nD w' gt gb c bt bb G T B:=by obtain⟨V,hV⟩:=H.tab;obtain⟨U,hU⟩:=H.Jy;exact⟨aF H.blk ho h2,H.tc,H.tc',⟨V,hV.only ho (fun k hk=>h1 k (.inl hk))⟩,⟨U,hU.only ho (fun k hk=>h1 k (.inr hk))⟩,H.Kw⟩
theorem nD.aN(H:nD w gt gb c bt bb G T B){w':World}(ho:O0 w w'):nD w' gt gb c bt bb G T B:=H.only ho (fun _ _ f=>f) (fun f=>f)
theorem jT.refl(H:nD w gt gb c bt bb G T B):jT w gt gb c bt bb G T B w:=⟨gt,gb,H,Agree.refl _ _,Agree.refl _ _,Only.refl _ _⟩
theorem nD.abY(H:nD w gt gb c bt bb G T B){T2:Tab}{w':World}(h:nK w gt bt T2 w'):jT w gt gb c bt bb G T2 B w':=by
 obtain⟨g2,V2,H2,A2,O2⟩:=h;obtain⟨U,hU⟩:=H.Jy;have hc:=dR H.blk;refine⟨g2,gb,⟨aF H.blk O2 (by unfold Mine;rw[H.tc];simp),by rw[A2 c hc];exact H.tc,H.tc',⟨V2,H2⟩,⟨U,hU.only O2 (fun k hk hm=>H.Kw k hm hk)⟩,fun k hk hm=>?_⟩,A2,Agree.refl _ _,O2.mono fun k hk=>.inl hk⟩;have hlt:k<w.heap.size:=by
  rcases yK k w.heap.size with h|h;·exact h
  exact absurd (hU.fresh k h) hm
 refine H.Kw k ?_ hm;unfold Mine at hk⊢;rwa[A2 k hlt]at hk
theorem nD.step_b(H:nD w gt gb c bt bb G T B){B2:lu}{w':World}(h:iV w gb bb B2 w'):jT w gt gb c bt bb G T B2 w':=by
 obtain⟨g2,V2,H2,A2,O2⟩:=h;obtain⟨U,hU⟩:=H.tab;have hc:=dR H.blk;refine⟨gt,g2,⟨aF H.blk O2 (by unfold Mine;rw[H.tc'];simp),H.tc,by rw[A2 c hc];exact H.tc',⟨U,hU.only O2 (fun k hk hm=>H.Kw k hk hm)⟩,⟨V2,H2⟩,fun k hk hm=>?_⟩,Agree.refl _ _,A2,O2.mono fun k hk=>.inr hk⟩;have hlt:k<w.heap.size:=by
  rcases yK k w.heap.size with h|h;·exact h
  exact absurd (hU.fresh k h) hk
 refine H.Kw k hk ?_;unfold Mine at hm⊢;rwa[A2 k hlt]at hm
theorem Only.GX{w1 w2:World}{kF lV:Tag}(h:Only (fun k=>Mine gt k\/Mine gb k) w w1)(ht:Agree w gt kF)(hb:Agree w gb lV)(h1:Only (fun k=>Mine kF k\/Mine lV k) w1 w2):Only (fun k=>Mine gt k\/Mine gb k) w w2:=by
 refine h.trans h1 (fun k hk=>?_);rcases yK k w.heap.size with hlt|hge;·refine .inl ?_;unfold Mine at hk⊢;rwa[ht k hlt,hb k hlt]at hk
 exact .inr hge
theorem jT.trans{kF lV:Tag}{w1 w2:World}{T2:Tab}{B2:lu}(ht:Agree w gt kF)(hb:Agree w gb lV)(ho:Only (fun k=>Mine gt k\/Mine gb k) w w1)(h2:jT w1 kF lV c bt bb G T2 B2 w2):jT w gt gb c bt bb G T2 B2 w2:=by exact zD2
theorem jT.after{w1 w2:World}(o1:O0 w w1){T2:Tab}{B2:lu}(h:jT w1 gt gb c bt bb G T2 B2 w2):jT w gt gb c bt bb G T2 B2 w2:=jT.trans (Agree.refl _ _) (Agree.refl _ _) (o1.mono fun _ f=>f.elim) h
def Beside(w:World)(gt gb:Tag)(c:Nat)(v:Value):Prop:= ∀k,Value.blk v=some k->k<w.heap.size/\¬Mine gt k/\¬Mine gb k/\k≠c
theorem Beside.more{v:Value}(h:Beside w gt gb c v){w':World}{gt' gb':Tag}(hs:w.heap.size<=w'.heap.size)(ht:Agree w gt gt')(hb:Agree w gb gb'):Beside w' gt' gb' c v:=fun k hk=>by
 obtain⟨h1,h2,h3,h4⟩:=h k hk
 refine⟨by omega,?_,?_,h4⟩
 ·unfold Mine at h2⊢;rwa[ht k h1]
 ·unfold Mine at h3⊢;rwa[hb k h1]
theorem Beside.new(H:nD w gt gb c bt bb G T B){v:Value}{w':World}(hw:w.heap.size<=w'.heap.size)(h:∀k,Value.blk v=some k->w.heap.size<=k/\k<w'.heap.size):Beside w' gt gb c v:=fun k hk=>by
 obtain⟨h1,h2⟩:=h k hk
 obtain⟨V,hV⟩:=H.tab
 obtain⟨U,hU⟩:=H.Jy
 have hc:=dR H.blk
 refine⟨h2,?_,?_,by omega⟩
 ·unfold Mine;rw[hV.fresh k h1];simp
 ·unfold Mine;rw[hU.fresh k h1];simp
theorem Aw{v:Value}{xs:List Int}(hI:Ints w v xs)(x:Int)(r:Bool)(hr:xs.contains x=r):Calls Tryz.prog 152 #[v,.int .i64 x] w fun e w'=>e= .returned (.bool r)/\w'=w:=by
 subst hr;obtain⟨ao,cap,rfl,_,_⟩:=hI.shape;by_cases h0:xs.length=0;·have hx:xs=[]:=yF h0;subst hx;exact Tryz.slices_Contains_int_empty ao cap x w
 obtain⟨b,o,rfl,_,c⟩:=hI.cells _ _ _ rfl zBk;have:=Tryz.slices_Contains_int b o xs.length cap xs x w (qH _) zBk c;rwa[qI (qH _)]at this
theorem wY(H:nD w gt gb c bt bb G T B):Calls Tryz.prog 66 #[.pointer (some ⟨c,0,none⟩)] w fun e w'=>e= .returned (.pointer (some ⟨bt,0,none⟩))/\w'=w:=by have q1:w.cell? ⟨c,5,none⟩=some (.pointer (some ⟨bt,0,none⟩)):=zAz;go_enter Tryz.func66,Tryz.ntmps66;go_wp2_with fail;exact zCd
theorem pW(H:nD w gt gb c bt bb G T B):Calls Tryz.prog 28 #[.pointer (some ⟨c,0,none⟩)] w fun e w'=>e= .returned (.pointer (some ⟨bb,0,none⟩))/\w'=w:=by have q1:w.cell? ⟨c,6,none⟩=some (.pointer (some ⟨bb,0,none⟩)):=zAz;go_enter Tryz.func28,Tryz.ntmps28;go_wp2_with fail;exact zCd
theorem PW(H:nD w gt gb c bt bb G T B){l:List Int}(hl:Ints w G.l l)(hb:l.length<=1099511627776):Calls Tryz.prog 74 #[.pointer (some ⟨c,0,none⟩)] w fun e w'=> ∃v',e= .returned v'/\w'.ownsRow 0 3 1 v' l.length (l.map cI)/\(∀k,v'.ownBlock=some k->w.heap.size<=k)/\O0 w w':=by have q1:w.cell? ⟨c,3,none⟩=some G.l:=zAz;have hC:=zh (PS hl hb);obtain⟨ao,cap,e,-,-⟩:=hl.shape;rw[e]at q1 hC;clear hl;go_enter Tryz.func74,Tryz.ntmps74;go_wp2_with fail;refine hC.out.mono ?_;rintro e w1 ⟨v,rfl,r1,r2,r3⟩;have HR:=zh (And.intro r1 (And.intro r2 r3));obtain⟨av,cv,rfl,-,-⟩:=aC r1;clear r1 r2 r3;go_wp2_with fail;go_ret;exact⟨_,rfl,HR.out⟩
theorem PX(H:nD w gt gb c bt bb G T B){x:At}(hx:sD x)(r:Int)(hr:(T.num x).2=r):Calls Tryz.prog 75 #[.pointer (some ⟨c,0,none⟩),jS x] w fun e w'=>e= .returned (.int .i64 r)/\jT w gt gb c bt bb G (T.num x).1 B w':=by
 obtain⟨W0,hW0⟩:=zB (w.alloc (.cells #[.int .u8 x.1,.int .i64 x.2.1,.int .i64 x.2.2.1,.int .i64 x.2.2.2] 89));have o0:O0 w W0:=by rw[hW0];exact zr.alloc _
 have HK:Hid (∀W,O0 W0 W->W.cell? ⟨w.heap.size,0,none⟩=some (.int .u8 x.1)/\W.cell? ⟨w.heap.size,1,none⟩=some (.int .i64 x.2.1)/\W.cell? ⟨w.heap.size,2,none⟩=some (.int .i64 x.2.2.1)/\W.cell? ⟨w.heap.size,3,none⟩=some (.int .i64 x.2.2.2)):=fun W ho=>by
  have b0:W0.heap[w.heap.size]? =some (.cells #[.int .u8 x.1,.int .i64 x.2.1,.int .i64 x.2.2.1,.int .i64 x.2.2.2] 89):=by rw[hW0];exact qL w _
  have c0:=aF b0 ho (fun f=>f);exact⟨by rw[ah c0];rfl,by rw[ah c0];rfl,by rw[ah c0];rfl,by rw[ah c0];rfl⟩
 have HT:Hid (∀W,O0 W0 W->Calls Tryz.prog 66 #[.pointer (some ⟨c,0,none⟩)] W fun e w'=>e= .returned (.pointer (some ⟨bt,0,none⟩))/\w'=W):=fun W hW=>wY (H.aN (o0.same hW));have HN:Hid (∀W,O0 W0 W->Calls Tryz.prog 151 #[.pointer (some ⟨bt,0,none⟩),jS x] W fun e w'=>e= .returned (.int .i64 r)/\jT w gt gb c bt bb G (T.num x).1 B w'):=fun W hW=>by have h2:=H.aN (o0.same hW);obtain⟨V,hV⟩:=h2.tab;refine(LH hV hx r hr).mono fun e w' ⟨he,ht⟩=>⟨he,?_⟩;exact jT.after (o0.same hW) (h2.abY ht)
 have hS0:=HK.out W0.drew (zr.drew);unfold jS at*;clear o0 H hr;go_enter Tryz.func75,Tryz.ntmps75;go_wp2_with fail;rw[<-hW0];clear hW0;refine bH (n:=5) (E:=fun j=>j==3) (S:=fun W=>W.cell? ⟨w.heap.size,0,none⟩=some (.int .u8 x.1)/\W.cell? ⟨w.heap.size,1,none⟩=some (.int .i64 x.2.1)/\W.cell? ⟨w.heap.size,2,none⟩=some (.int .i64 x.2.2.1)/\W.cell? ⟨w.heap.size,3,none⟩=some (.int .i64 x.2.2.2)) zk rfl hS0 (fun hHeld=>?_);refine tW 0 ?_;refine tK 2 ?_;refine tO 1 fun K hK=>?_;(go_simp;refine(HT.out _ (by exact zBj)).mono ?_;rintro e w5 ⟨rfl,rfl⟩;try go_wp2_with fail);refine hK.out _ _ ?_ (fun hHeld=>?_);·(try dsimp only)<;>(exact HK.out _ zBj)
 clear hK K;try simp only[Act.put,gJ,gK,gu,gy,gG]
 refine fP (rs:=[3]) zk zAM ?_;refine dA.late (i:=3) rfl zk (fun K hK=>?_) ?_
 ·(go_simp;refine(HN.out _ (by exact zBj)).mono ?_;rintro e w6 ⟨rfl,o6⟩;try go_wp2_with fail);refine hK.out _ _ ?_;clear hK K;try simp only[Act.put,gJ,gU,gK,gu,gy,gG]
  refine tW 4 ?_ (hS:=.inl zk);refine aZ zk ?_ _;go_wp2_with fail;go_ret;exact⟨rfl,o6⟩
 exact dA.nil
end
def lu.adds(B:lu)(l:List (List Int)):lu:=l.foldl lu.add B
theorem lu.wZ(B:lu)(l m:List (List Int)):B.adds (l++m)=(B.adds l).adds m:=by simp[lu.adds]
theorem lu.CU(B:lu)(c:List Int):B.adds [c]=B.add c:=rfl
def lX(row:List Int)(i:Nat):List (List Int):=(row.drop (i+1)).map fun y=>[-(row.getD i 0),-y]
def oI(row:List Int)(i:Nat):List (List Int):=(List.range i).flatMap (lX row)
def tq(row:List Int):List (List Int):=oI row row.length
theorem CV(row:List Int)(i:Nat):oI row (i+1)=oI row i++lX row i:=by unfold oI;rw[List.range_succ,List.flatMap_append];simp
section
variable {w:World}
theorem Oy{P:Program}{t e:TypeId}{i:TypeInfo}(ht:P.underlying t=some (.slice e))(hi:P.info? e=some i)(hs:i.size=1)(b o m k cap:Nat)(hm:k<=m)(hc:m<=cap)(W:World)(z:Int)(hz:z=k):(Instr.slice t (.slice (some ⟨b,o,none⟩) m cap) (some (.int .i64 z)) none none).run P W= .ok (.slice (some ⟨b,if cap=k then o else o+k,none⟩) (m-k) (cap-k)) W:=by
 subst hz;have h1:(0:Int)<=(k:Int)/\(k:Int)<=(m:Int):=⟨by omega,by omega⟩;simp[Instr.slice,Instr.sliceBounds,Instr.sliceBound,run_underlying ht,sizeOf,typeInfo,hi,hs,asIntOf,Addr.add,hm];by_cases hcap:cap=k;·simp[hcap]
 simp[hcap]
theorem CW(b o m k cap:Nat)(hm:k<=m)(hc:m<=cap)(W:World)(z:Int)(hz:z=k):(Instr.slice 78 (.slice (some ⟨b,o,none⟩) m cap) (some (.int .i64 z)) none none).run Tryz.prog W= .ok (.slice (some ⟨b,if cap=k then o else o+k,none⟩) (m-k) (cap-k)) W:=by obtain⟨ii,zz,t1,t2,t3,-,-⟩:=kJ.info;exact Oy (P:=Tryz.prog) kJ.und t1 t3 b o m k cap hm hc W z hz
theorem Ints.agq{b o n cap:Nat}{xs:List Int}(h:Ints w (.slice (some ⟨b,o,none⟩) n cap) xs){k:Nat}(hk:k<=xs.length):Ints w (.slice (some ⟨b,if cap=k then o else o+k,none⟩) (n-k) (cap-k)) (xs.drop k):=by obtain⟨ao,c,he,hc1,hc2⟩:=h.shape;simp only[qU]at he;obtain⟨rfl,rfl,rfl⟩:=he;refine⟨⟨some ⟨b,if cap=k then o else o+k,none⟩,cap-k,by simp,by simp;omega,by omega⟩,fun ao' len' cap' hv hp=>?_,fun x hx=>h.range x (List.mem_of_mem_drop hx),fun len' cap' hv=>by simp at hv⟩;rw[List.length_drop]at hp;simp only[qU]at hv;obtain⟨rfl,-,-⟩:=hv;obtain⟨b',off,e2,hb,hc⟩:=h.cells _ _ _ rfl zBk;simp only[qG,qO,and_true]at e2;obtain⟨rfl,rfl⟩:=e2;refine⟨b,_,rfl,hb,fun i hi=>?_⟩;rw[List.length_drop]at hi;rw[if_neg zBk];have:=hc (k+i) zBk;rw[show o+k+i=o+(k+i) by omega,this];simp[List.getD,List.getElem?_drop]
theorem Ints.Jz{ao:Option Addr}{n cap:Nat}{xs:List Int}(h:Ints w (.slice ao n cap) xs){i:Nat}(hi:i<xs.length):∃b off,ao=some ⟨b,off,none⟩/\w.cell? ⟨b,off+i,none⟩=some (.int .i64 (xs.getD i 0)):=by obtain⟨b,off,e,_,hc⟩:=h.cells _ _ _ rfl zBk;exact⟨b,off,e,hc i hi⟩
theorem BH(w:World)(x y:Int)(hx:bU x)(hy:bU y):Ints (w.alloc (.cells #[.int .i64 x,.int .i64 y] 3)) (.slice (some ⟨w.heap.size,0,none⟩) 2 2) [x,y]:=by
 refine Ints.fH ?_ fun z hz=>?_;·have:=World.ownsRow_lit (base:=0) (e:=3) (size:=1) w #[.int .i64 x,.int .i64 y] 2 (qE _) zAe zAM;simpa using this
 simp at hz;rcases hz with rfl|rfl;·exact hx
 exact hy
variable {g:Tag} {b:Nat} {V:WU} {B:lu}
theorem iV.after{w1 w2:World}(o1:O0 w w1){B2:lu}(h:iV w1 g b B2 w2):iV w g b B2 w2:=iV.trans (Agree.refl _ _) (o1.mono fun _ f=>f.elim) h
theorem abZ(H:lJ w g b V B){v:Value}{xs:List Int}(hI:Ints w v xs)(hN:xX g v xs)(hs:∀z∈xs,-1000000<=z/\z<=1000000)(hl:xs.length<=1000000):Calls Tryz.prog 154 #[.pointer (some ⟨b,0,none⟩),v] w fun e w'=>e= .returned (.tuple #[])/\iV w g b (B.adds (tq xs)) w':=by
 obtain⟨ao,cap,rfl,hc1,hc2⟩:=hI.shape;obtain⟨n,hn⟩:=ze xs.length;have HN:=zh hn;rw[hn]at hc1 hl hI hN⊢;have HI:=zh hI;have J3:=zh hN;have HS:=zh hs;have H0:=zh (iV.refl H);clear hI hN hs hn H;go_enter Tryz.func154,Tryz.ntmps154;go_wp2_with fail;go_loopw [10] (fun vi wr=> ∃i:Nat,vi= .int .i64 i/\i<=n/\Hid (iV w g b (B.adds (oI xs i)) wr)) (fun v _=>n-(RowKit.intOf v).toNat);case atStart=>exact⟨0,rfl,qE _,H0⟩
 case round=>
  obtain⟨i,rfl,hi,HR⟩:=hrel;by_cases ci:i<n
  ·obtain⟨g1,V1,H1,A1,O1⟩:=HR.out;have hI1:=HI.out.mine J3.out O1;have hi2:i<xs.length:=zAl;obtain⟨bb,off,rfl,hcell⟩:=hI1.Jz hi2;obtain⟨x,hx⟩:=ze (xs.getD i 0);have hxb:=HS.out x (by rw[<-hx];exact ql 0 hi2);rw[hx]at hcell;have jh:=zw (i+1);have ewx:=zw (-x);have hsl:=fun W=>CW bb off n (i+1) cap zAC hc1 W ((i:Int)+1) zBk;obtain⟨o',ho'⟩:∃o',o'=if cap=i+1 then off else off+(i+1):=⟨_,rfl⟩
   obtain⟨m,hm⟩:=ze (n-(i+1));obtain⟨c2,hc2'⟩:=ze (cap-(i+1));have HD:Hid (∀W,Only (Mine g) w W->Ints W (.slice (some ⟨bb,o',none⟩) m c2) (xs.drop (i+1))):=fun W hW=>by have:=(HI.out.mine J3.out hW).agq (k:=i+1) zBk;rw[<-ho',hm,hc2']at this;exact this
   rw[<-ho',hm,hc2']at hsl;have HX:=zh hx;have hmn:m<=n:=zBk;have Hm:=zh hm;have CX:=zh ewx;clear hI1 ho' hm hc2' hx ewx H1 A1 O1;go_wp2_with fail;generalize wr=wo at*;have HR0:Hid (iV w g b ((B.adds (oI xs i)).adds ((lX xs i).take 0)) wo):=by simpa[lu.adds,Hid]using HR.out
   go_loopw [20] (fun vk wr=> ∃k:Nat,vk= .int .i64 k/\k<=m/\Hid (iV w g b ((B.adds (oI xs i)).adds ((lX xs i).take k)) wr)) (fun v _=>m-(RowKit.intOf v).toNat);case atStart=>exact⟨0,rfl,qE _,HR0⟩
   case round=>
    clear HR HR0 hcell;obtain⟨k,rfl,hk,HR⟩:=hrel;have hdl:(xs.drop (i+1)).length=m:=by rw[List.length_drop,HN.out,Hm.out]
    by_cases ck:k<m
    ·obtain⟨g1,V1,H1,A1,O1⟩:=HR.out;obtain⟨b2,off2,e2,hcell⟩:=(HD.out wr O1).Jz (i:=k) (by rw[hdl];exact ck);simp only[qG,qO,and_true]at e2;obtain⟨rfl,rfl⟩:=e2;obtain⟨y,hy⟩:=ze ((xs.drop (i+1)).getD k 0);have hyb:=HS.out y (by rw[<-hy];exact List.mem_of_mem_drop (ql 0 (by rw[hdl];exact ck)));rw[hy]at hcell;have hpk:(lX xs i).take (k+1)=(lX xs i).take k++[[-x,-y]]:=by
      have hlt:k<(xs.drop (i+1)).length:=by rw[hdl];exact ck
      unfold lX;have hk2:(xs.drop (i+1))[k]'hlt=y:=by rw[<-hy,qC,qA hlt];rfl
      rw[yL (by simpa using hlt),List.getElem_map,hk2];simp only[HX.out]
     have hAdd:=DK (H1.aN ((Only.refl (fun _=>False) wr).alloc (.cells #[.int .i64 (-x),.int .i64 (-y)] 3))) (BH wr (-x) (-y) ⟨by omega,by omega⟩ ⟨by omega,by omega⟩) zAM;have hfin:∀w',iV (wr.alloc (.cells #[.int .i64 (-x),.int .i64 (-y)] 3)) g1 b (((B.adds (oI xs i)).adds ((lX xs i).take k)).add [-x,-y]) w'->iV w g b ((B.adds (oI xs i)).adds ((lX xs i).take (k+1))) w':=fun w' h=>by exact zEe
     have TR:=zw (k+1);have ewx:=CX.out;have ewy:=zw (-y);have HAdd:=zh hAdd;have HFin:=zh hfin;have HEk:=zh TR;clear hpk hAdd hfin hy H1 A1 O1 TR hdl;go_wp2_with fail;refine HAdd.out.mono ?_;rintro e w2 ⟨rfl,h2⟩;have HF:=zh (HFin.out w2 h2);have TR:=HEk.out;clear h2 ewx ewy;exact zCk
    obtain rfl:m=k:=by omega
    have HR2:Hid (iV w g b (B.adds (oI xs (i+1))) wr):=by have:=HR.out;rw[qI (by unfold lX;rw[qM,hdl];exact qH _)]at this;rw[CV,lu.wZ];exact this
    clear HR;go_wp2_with fail;go_roundw;case rel=>exact⟨i+1,by first|rfl|go_num,by omega,HR2⟩
    case measure=>simp[RowKit.intOf]<;>omega
  obtain rfl:n=i:=by omega
  go_wp2_with fail;go_end0;refine⟨rfl,?_⟩;have:=HR.out;unfold tq;rw[HN.out];exact this
end
def zN(node:Int)(row:List Int):List (List Int):=(-node::row)::(tq row++row.map fun n=>[-n,node])
def lu.one(B:lu)(node:Int)(row:List Int):lu:=if node=0\/row.contains 0=true then B else B.adds (zN node row)
section
variable {w:World} {gt gb:Tag} {c bt bb:Nat} {G:NU} {T:Tab} {B:lu}
def D6(gt gb:Tag)(v:Value)(xs:List Int):Prop:=0<xs.length->∀k,Value.blk v=some k->¬Mine gt k/\¬Mine gb k
theorem Ints.GX{v:Value}{xs:List Int}(h:Ints w v xs)(hn:D6 gt gb v xs){w':World}(ho:Only (fun k=>Mine gt k\/Mine gb k) w w'):Ints w' v xs:=
 h.only' ho fun hp k hk hm=>by
  rcases hm with hm|hm
  ·exact(hn hp k hk).1 hm
  ·exact(hn hp k hk).2 hm
theorem D6.b{v:Value}{xs:List Int}(hn:D6 gt gb v xs):xX gb v xs:=fun hp k hk=>by
 have:=(hn hp k hk).2
 unfold Mine at this
 exact Classical.not_not.1 this
theorem D6.agree{v:Value}{xs:List Int}(hn:D6 gt gb v xs)(hI:Ints w v xs){gt' gb':Tag}(ht:Agree w gt gt')(hb:Agree w gb gb'):D6 gt' gb' v xs:=fun hp k hk=>by
 have hlt:=hI.lt hp hk
 have:=hn hp k hk
 unfold Mine at this⊢
 rwa[ht k hlt,hb k hlt]
theorem aeU(H:nD w gt gb c bt bb G T B){v:Value}{xs:List Int}(hI:Ints w v xs)(hN:D6 gt gb v xs)(hs:∀z∈xs,-1000000<=z/\z<=1000000)(hl:xs.length<=1000000):Calls Tryz.prog 154 #[.pointer (some ⟨bb,0,none⟩),v] w fun e w'=>e= .returned (.tuple #[])/\jT w gt gb c bt bb G T (B.adds (tq xs)) w':=by obtain⟨V,hV⟩:=H.Jy;exact(abZ hV hI hN.b hs hl).mono fun e w' ⟨he,h⟩=>⟨he,H.step_b h⟩
theorem uO{w:World}{e:TypeId}{g:Nat}{u:Value}(h:w.heap[g]? =some (.cells #[u] e)):w.ownsRow 0 e 1 (.slice (some ⟨g,0,none⟩) 1 1) 1 [u]:=
 ⟨rfl,.inr ⟨g,1,#[u],rfl,qE _,h,qH _,by unfold maxLen;omega,rfl,rfl⟩⟩
theorem nD.ab1(H:nD w gt gb c bt bb G T B):w.cell? ⟨c,6,none⟩=some (.pointer (some ⟨bb,0,none⟩)):=by rw[ah H.blk];rfl
theorem Xa(H:nD w gt gb c bt bb G T B){v:Value}{xs:List Int}(hI:Ints w v xs)(hb:xs.length<=1099511627):Calls Tryz.prog 153 #[.pointer (some ⟨bb,0,none⟩),v] w fun e w'=>e= .returned (.tuple #[])/\jT w gt gb c bt bb G T (B.add xs) w':=by obtain⟨V,hV⟩:=H.Jy;exact(DK hV hI hb).mono fun e w' ⟨he,h⟩=>⟨he,H.step_b h⟩
theorem ahv(H:nD w gt gb c bt bb G T B){v:Value}{row:List Int}(hI:Ints w v row)(hn:D6 gt gb v row)(node:Int)(hb: -1000000<=node/\node<=1000000)(hs:∀z∈row,-1000000<=z/\z<=1000000)(hl:row.length<=1000000):Calls Tryz.prog 76 #[.pointer (some ⟨c,0,none⟩),.int .i64 node,v] w fun e w'=>e= .returned (.tuple #[])/\jT w gt gb c bt bb G T (B.one node row) w':=by
 obtain⟨ao,cap,rfl,hc1,hc2⟩:=hI.shape;obtain⟨n,hnl⟩:=ze row.length;have HN:=zh hnl;rw[hnl]at hc1 hl hI hn⊢;have HI:=zh hI;have J3:=zh hn;have HS:=zh hs;have H0:=zh H;obtain⟨r0,hr0⟩:=ze (row.contains 0);have HR0:=zh hr0;have HC:=zh (Aw hI 0 r0 hr0);obtain⟨B2,hB2⟩:=ze (B.one node row);rw[hB2];have HB2:=zh hB2;clear hI hn hs hnl H hr0 hB2;go_enter Tryz.func76,Tryz.ntmps76;by_cases h0:node=0
 ·have hB:B2=B:=by rw[<-HB2.out];unfold lu.one;rw[if_pos (.inl h0)]
  subst hB;subst h0;exact zDe
 go_wp2_with fail;refine HC.out.mono ?_;rintro e w1 ⟨rfl,rfl⟩;cases r0 with
 |true=>
  have hB:B2=B:=by rw[<-HB2.out];unfold lu.one;rw[if_pos (.inr HR0.out)]
  subst hB;exact zDe
 |false=>
  have hB:B2=B.adds (zN node row):=by rw[<-HB2.out];unfold lu.one;rw[if_neg (by rw[HR0.out];simp[h0])]
  subst hB;have ewn:=zw (-node);have HK:Hid (∀W,O0 w1 W->W.cell? ⟨c,6,none⟩=some (.pointer (some ⟨bb,0,none⟩))):=fun W hW=>(H0.out.aN hW).ab1;have hS0:=HK.out w1.drew (zr.drew);have x9:Hid (∀W,O0 w1 W->∀ad,ao=some ad->∀j u,(row.map cI)[j]? =some u->W.cell? (ad.add j)=some u):=fun W hW=>(HI.out.aN hW).news;have GY:Hid (ao=none->n=0/\cap=0):=fun e=>HI.out.nil n cap zB6;have HLen:Hid ((row.map cI).length=n*1):=by rw[qM,HN.out,yH];exact rfl
  have xg:Hid (∀W v2,O0 w1 W->W.ownsRow 0 3 1 v2 (1+n) ([cI (-node)]++row.map cI)->Calls Tryz.prog 153 #[.pointer (some ⟨bb,0,none⟩),v2] W fun e w'=>e= .returned (.tuple #[])/\jT w1 gt gb c bt bb G T (B.add (-node::row)) w'):=fun W v2 hW hown=>by
   have hI2:Ints W v2 (-node::row):=by
    refine Ints.fH ?_ fun z hz=>?_
    ·have e1:1+n=(-node::row).length:=by rw[qN,HN.out];omega
     rw[e1]at hown;simpa using hown
    exact zE3
   refine(Xa (H0.out.aN hW) hI2 (by rw[qN,HN.out];omega)).mono fun e w' ⟨he,h⟩=>⟨he,jT.after hW h⟩
  go_wp2_with fail;go_cut [] (fun wx=>jT w1 gt gb c bt bb G T (B.add (-node::row)) wx);case first=>
   refine bH (n:=10) (E:=fun j=>j==9) (S:=fun W=>W.cell? ⟨c,6,none⟩=some (.pointer (some ⟨bb,0,none⟩))) zk rfl hS0 (fun hHeld=>?_);refine tW 0 ?_;refine tW 1 ?_;refine tW 2 ?_;refine tK 3 ?_;refine tW 4 ?_;refine tW 5 ?_;refine tW 7 ?_;refine tO 6 fun K hK=>?_;go_simp;refine hK.out _ _ ?_ (fun hHeld=>?_);·(try dsimp only)<;>(exact HK.out _ zBj)
   clear hK K;try simp only[Act.put,gJ,gK,gu,gy,gG]
   refine tO 8 fun K hK=>?_;(refine EP kJ (by rfl) (.tmp 20) (.tmp 21) (by rfl) (by rfl) (uO zCE) (by rfl) HLen.out GY.out zFW (by intro u hu;obtain⟨q,-,rfl⟩:=yD.1 hu;rfl) zB7 (by decide) ?_;intro Xb cap5 w5 r5 o5 Xc;have oA:O0 w1 w5:=Only.trans zBj o5 (fun k hk=>.inr zCB));refine hK.out _ _ ?_ (fun hHeld=>?_);·(try dsimp only)<;>(exact HK.out _ oA)
   clear hK K;try simp only[Act.put,gJ,gU,gK,gu,gy,gG]
   refine fP (rs:=[9]) zk zAM ?_;refine dA.late (i:=9) rfl zk (fun K hK=>?_) ?_
   ·(go_simp;refine(xg.out _ _ oA r5).mono ?_;rintro e w7 ⟨rfl,h7⟩;try go_wp2_with fail);refine hK.out _ _ ?_;clear hK K;try simp only[Act.put,gJ,gU,gK,gu,gy,gG]
    refine aZ zk ?_ _;go_wp2_with fail;go_meet;exact h7
   exact dA.nil
  case rest=>
   clear hS0 HK x9 GY HLen xg;obtain⟨kF,lV,H1,A1,A1',O1⟩:=hcut;have hI1:=HI.out.GX J3.out O1;have hbc:=H1.ab1;have HM:=zh (aeU H1 hI1 (J3.out.agree HI.out A1 A1') HS.out (by rw[HN.out];exact hl));have HT1:Hid (∀w2,jT wc kF lV c bt bb G T ((B.add (-node::row)).adds (tq row)) w2->jT w1 gt gb c bt bb G T ((B.adds ((-node::row)::tq row)).adds ((row.map fun n=>[-n,node]).take 0)) w2):=fun w2 h=>jT.trans A1 A1' O1 h;clear H1 A1 A1' O1 hI1;go_wp2_with fail;refine HM.out.mono ?_;rintro e w2 ⟨rfl,h2⟩;have H3:=zh (HT1.out w2 h2);clear h2 hbc HM HT1;go_wp2_with fail;go_loopw [32] (fun vk wr=> ∃k:Nat,vk= .int .i64 k/\k<=n/\Hid (jT w1 gt gb c bt bb G T ((B.adds ((-node::row)::tq row)).adds ((row.map fun n=>[-n,node]).take k)) wr)) (fun v _=>n-(RowKit.intOf v).toNat);case atStart=>exact⟨0,rfl,qE _,H3⟩
   case round=>
    clear H3;obtain⟨k,rfl,hk,HR⟩:=hrel;by_cases ck:k<n
    ·obtain⟨kF,lV,H1,A1,A1',O1⟩:=HR.out;have hbc:=H1.ab1;have hkr:k<row.length:=by rw[HN.out];exact ck
     obtain⟨b2,off2,rfl,hcell⟩:=(HI.out.GX J3.out O1).Jz hkr;obtain⟨y,hy⟩:=ze (row.getD k 0);have hyb:=HS.out y (by rw[<-hy];exact ql 0 hkr);rw[hy]at hcell;have hpk:(row.map fun n=>[-n,node]).take (k+1)=(row.map fun n=>[-n,node]).take k++[[-y,node]]:=by
      rw[yL (by simpa using hkr),List.getElem_map];have hk2:row[k]'hkr=y:=by rw[<-hy,qC,qA hkr];rfl
      rw[hk2]
     have hAdd:=Xa (H1.aN ((Only.refl (fun _=>False) wr).alloc (.cells #[.int .i64 (-y),.int .i64 node] 3))) (BH wr (-y) node ⟨by omega,by omega⟩ ⟨by omega,by omega⟩) zAM;have hfin:∀w',jT (wr.alloc (.cells #[.int .i64 (-y),.int .i64 node] 3)) kF lV c bt bb G T (((B.adds ((-node::row)::tq row)).adds ((row.map fun n=>[-n,node]).take k)).add [-y,node]) w'->jT w1 gt gb c bt bb G T ((B.adds ((-node::row)::tq row)).adds ((row.map fun n=>[-n,node]).take (k+1))) w':=fun w' h=>by rw[hpk,lu.wZ,lu.CU];exact jT.trans A1 A1' O1 (jT.after ((Only.refl _ wr).alloc _) h)
     have TR:=zw (k+1);have ewy:=zw (-y);have HAdd:=zh hAdd;have HFin:=zh hfin;have HEk:=zh TR;clear hpk hAdd hfin hy H1 A1 A1' O1 TR;go_wp2_with fail;refine HAdd.out.mono ?_;rintro e w3 ⟨rfl,h3⟩;have HF:=zh (HFin.out w3 h3);have TR:=HEk.out;clear h3 ewy;exact zCk
    obtain rfl:n=k:=by omega
    go_wp2_with fail;go_end0;refine⟨rfl,?_⟩;have:=HR.out;rw[qI zBf]at this;have e1:B.adds (zN node row)=(B.adds ((-node::row)::tq row)).adds (row.map fun n=>[-n,node]):=by rw[<-lu.wZ];rfl
    rw[e1];exact this
end
def Tab.nums(T:Tab):List At->Tab×List Int
 | []=>(T,[])
 |a::r=>(((T.num a).1.nums r).1,(T.num a).2::((T.num a).1.nums r).2)
theorem Tab.ug:∀(l:List At) (T:Tab) (a:At),T.nums (l++[a])=(((T.nums l).1.num a).1,(T.nums l).2++[((T.nums l).1.num a).2])
 | [],T,a=>rfl
 |b::r,T,a=>by
  rw[List.cons_append,Tab.nums,Tab.ug r,Tab.nums]
  rfl
theorem Tab.lM:∀(l:List At) (T:Tab),(T.nums l).2.length=l.length
 | [],_=>rfl
 |b::r,T=>by rw[Tab.nums,qN,qN,Tab.lM r]
structure Tab.Ok (T:Tab):Prop where
 lim:T.limit<=65536
 len:T.l.length<=T.limit
theorem Tab.xq{T:Tab}(h:T.Ok)(a:At):(T.num a).1.Ok/\0<=(T.num a).2/\(T.num a).2<=65536:=by
 have h1:=h.lim;have h2:=h.len;unfold Tab.num;split;·rename_i hm;refine⟨h,by simp,?_⟩;have:=List.idxOf_lt_length_of_mem hm;simp only[numOf,if_pos hm];omega
 split;·exact⟨⟨h1,h2⟩,by simp,by simp⟩
 rename_i hlt;refine⟨⟨h1,?_⟩,by simp;omega,by simp;omega⟩;simp;omega
theorem Tab.uF:∀(l:List At) {T:Tab},T.Ok->(T.nums l).1.Ok/\∀z∈(T.nums l).2,0<=z/\z<=65536
 | [],T,h=>⟨h,fun z hz=>by cases hz⟩
 |a::r,T,h=>by
  obtain⟨h1,h2⟩:=Tab.xq h a
  obtain⟨h3,h4⟩:=Tab.uF r h1
  refine⟨h3,fun z hz=>?_⟩
  rw[Tab.nums]at hz
  rcases qY.1 hz with rfl|hz
  ·exact h2
  ·exact h4 z hz
def aJ(p:Nat):At:=(1,p,0,0)
def pX(p i:Nat):At:=(2,p,i,0)
def oh(p j k:Nat):At:=(3,p,j,k)
def ku(p n:Nat):List At:=(List.range n).map (pX p)
def kG(p j n:Nat):List At:=(List.range n).map (oh p j)
theorem Xd(p n:Nat):ku p (n+1)=ku p n++[pX p n]:=by unfold ku;rw[List.range_succ,List.map_append];rfl
theorem Xe(p j n:Nat):kG p j (n+1)=kG p j n++[oh p j n]:=by unfold kG;rw[List.range_succ,List.map_append];rfl
abbrev TB:=Tab×lu
def TB.row(S:TB)(node:Int)(ats:List At):TB:=((S.1.nums ats).1,S.2.one node (S.1.nums ats).2)
def TB.vars(S:TB)(node:Int)(p:Nat)(vs:List kS):Nat->TB
 |0=>S
 |j+1=>(S.vars node p vs j).row node (kG p j (vs.getD j default).values.length)
def TB.pack(S:TB)(p:Nat)(pk:iT):TB:=
 (TB.row ((S.1.num (aJ p)).1,S.2) (S.1.num (aJ p)).2 (ku p pk.bY.length)).vars (S.1.num (aJ p)).2 p pk.vars pk.vars.length
def TB.choices(S:TB)(x:aH)(l:List Nat):TB:=l.foldl (fun S p=>S.pack p (x.pack p)) S
theorem TB.QW(S:TB)(x:aH)(l:List Nat)(p:Nat):S.choices x (l++[p])=(S.choices x l).pack p (x.pack p):=by simp[TB.choices]
theorem TB.QX{S:TB}(h:S.1.Ok)(node:Int)(p:Nat)(vs:List kS):∀j,(S.vars node p vs j).1.Ok
 |0=>h
 |j+1=>(Tab.uF _ (TB.QX h node p vs j)).1
theorem TB.aeV{S:TB}(h:S.1.Ok)(p:Nat)(pk:iT):(S.pack p pk).1.Ok:=TB.QX (S:=TB.row ((S.1.num (aJ p)).1,S.2) (S.1.num (aJ p)).2 (ku p pk.bY.length)) (Tab.uF _ (Tab.xq h _).1).1 _ _ _ _
theorem TB.Xf{S:TB}(h:S.1.Ok)(x:aH)(l:List Nat):(S.choices x l).1.Ok:=by
 unfold TB.choices;induction l generalizing S with
 |nil=>exact h
 |cons a r ih=>exact ih (TB.aeV h _ _)
section
variable {w w2 wr:World} {gt gb kF lV:Tag} {c bt bb:Nat} {G:NU} {T:Tab} {B:lu}
def rF(w2:World)(kF lV:Tag)(c bt bb:Nat)(G:NU)(T:Tab)(B:lu)(wr:World)(v:Value)(xs:List Int):Prop:=
 ∃gt' gb',nD wr gt' gb' c bt bb G T B/\Agree w2 kF gt'/\Agree w2 lV gb'/\Only (fun k=>Mine kF k\/Mine lV k) w2 wr/\wr.ownsRow 0 3 1 v xs.length (xs.map cI)/\Beside wr gt' gb' c v/\∀k,v.ownBlock=some k->w2.heap.size<=k
theorem rF.start(h:jT w2 kF lV c bt bb G T B wr):rF w2 kF lV c bt bb G T B wr bP []:=by obtain⟨a,b,H,A,A',O⟩:=h;exact⟨a,b,H,A,A',O,World.ownsRow_nil _ _ _ _,(fun k hk=>by cases hk),fun k hk=>by cases hk⟩
theorem rF.gr{v:Value}{xs:List Int}(h:rF w2 kF lV c bt bb G T B wr v xs):jT w2 kF lV c bt bb G T B wr:=by obtain⟨a,b,H,A,A',O,-,-,-⟩:=h;exact⟨a,b,H,A,A',O⟩
theorem rF.num{v:Value}{xs:List Int}(h:rF w2 kF lV c bt bb G T B wr v xs){x:At}(hx:sD x)(r:Int)(hr:(T.num x).2=r):Calls Tryz.prog 75 #[.pointer (some ⟨c,0,none⟩),jS x] wr fun e w'=>e= .returned (.int .i64 r)/\rF w2 kF lV c bt bb G (T.num x).1 B w' v xs:=by
 obtain⟨a,b,H,A,A',O,R,S,N⟩:=h;refine(PX H hx r hr).mono ?_;rintro e w' ⟨rfl,a2,b2,H2,A2,V6,O2⟩;refine⟨rfl,a2,b2,H2,A.trans A2 O.size,A'.trans V6 O.size,O.GX A A' O2,aI R O2 fun k hk hm=>?_,S.more O2.size A2 V6,N⟩;have hk':Value.blk v=some k:=by exact zCp
 rcases hm with hm|hm;·exact(S k hk').2.1 hm
 exact(S k hk').2.2.1 hm
theorem rF.app{v v':Value}{xs:List Int}(h:rF w2 kF lV c bt bb G T B wr v xs){w3 w4:World}(o3:O0 wr w3){z:Int}(r:w4.ownsRow 0 3 1 v' (xs.length+1) (xs.map cI++[cI z]))(o:Only (fun k=>v.ownBlock=some k) w3 w4)(a:BN w3 v v' (xs.length+1)):rF w2 kF lV c bt bb G T B w4 v' (xs++[z]):=by
 obtain⟨gt',gb',H,A,A',O,R,S,N⟩:=h;have hbl:∀k,v.ownBlock=some k->Value.blk v=some k:=fun k hk=>by exact zCp
 have o4:Only (fun k=>v.ownBlock=some k) wr w4:=(o3.mono fun _ f=>f.elim).same o;have H4:=H.only o4 (fun k hk hv=>by
  obtain⟨-,s1,s2,-⟩:=S k (hbl k hv)
  rcases hk with hk|hk
  ·exact s1 hk
  ·exact s2 hk) (fun hv=>(S c (hbl c hv)).2.2.2 rfl)
 refine⟨gt',gb',H4,A,A',O.trans o4 fun k hk=>.inr (N k hk),by simpa using r,fun k hk=>?_,fun k hk=>?_⟩
 ·obtain⟨g,cap,rfl,-,-,hg⟩:=a;simp[Value.blk]at hk;subst hk;rcases hg with hg|hg;·obtain⟨s0,s1,s2,s3⟩:=S g (hbl g hg);exact⟨by have:=o4.size;omega,s1,s2,s3⟩
  have hlt:g<w4.heap.size:=dX r rfl;have:=o3.size;obtain⟨V,hV⟩:=H.tab;obtain⟨U,hU⟩:=H.Jy;have hc:=dR H.blk;exact zFN
 exact zDT
theorem rF.ints{v:Value}{xs:List Int}(h:rF w2 kF lV c bt bb G T B wr v xs)(hx:∀z∈xs,0<=z/\z<=65536):∃gt' gb',nD wr gt' gb' c bt bb G T B/\Agree w2 kF gt'/\Agree w2 lV gb'/\Only (fun k=>Mine kF k\/Mine lV k) w2 wr/\Ints wr v xs/\D6 gt' gb' v xs:=by obtain⟨a,b,H,A,A',O,R,S,-⟩:=h;exact⟨a,b,H,A,A',O,Ints.fH R fun z hz=>⟨by have:=hx z hz;omega,by have:=hx z hz;omega⟩,fun _ k hk=>⟨(S k hk).2.1,(S k hk).2.2.1⟩⟩
theorem rF.one{v:Value}{xs:List Int}(h:rF w2 kF lV c bt bb G T B wr v xs)(hx:∀z∈xs,0<=z/\z<=65536)(hl:xs.length<=1000000)(node:Int)(hb:0<=node/\node<=65536):Calls Tryz.prog 76 #[.pointer (some ⟨c,0,none⟩),.int .i64 node,v] wr fun e w'=>e= .returned (.tuple #[])/\jT w2 kF lV c bt bb G T (B.one node xs) w':=by obtain⟨a,b,H,A,A',O,I,N⟩:=h.ints hx;exact(ahv H I N node ⟨by omega,by omega⟩ (fun z hz=>by have:=hx z hz;omega) hl).mono fun e w' ⟨he,h⟩=>⟨he,jT.trans A A' O h⟩
end
structure Fv (x:aH):Prop where
 packs:x.packs.length<=1000
 bY:∀p∈x.packs,p.bY.length<=1000
 vars:∀p∈x.packs,p.vars.length<=1000
 vals:∀p∈x.packs,∀v∈p.vars,v.values.length<=1000
theorem zI:bU 0:=⟨by decide,by decide⟩
theorem Xg{l:List Nat}{i p:Nat}(h:l[i]? =some p):l.take (i+1)=l.take i++[p]:=by obtain⟨hlt,rfl⟩:=qJ.1 h;rw[yL hlt]
section
variable {w:World} {gt gb:Tag} {c bt bb Bs:Nat} {G:NU} {T:Tab} {B:lu}
theorem Xh(H:nD w gt gb c bt bb G T B){x:aH}(hx:jl Bs w [G.x1,G.x2] x){l:List Nat}(hl:Ints w G.l (intsOf l))(hlt:∀p∈l,p<x.packs.length)(hm:Fv x)(hBs:∀k,Mine gt k\/Mine gb k->Bs<=k)(hBw:Bs<=w.heap.size)(hlen:l.length<=1000):Calls Tryz.prog 22 #[.pointer (some ⟨c,0,none⟩)] w fun e w'=>e= .returned (.tuple #[])/\jT w gt gb c bt bb G (TB.choices (T,B) x l).1 (TB.choices (T,B) x l).2 w':=by
 have akK:T.Ok:=by obtain⟨V,hV⟩:=H.tab;exact⟨hV.lim,hV.len⟩
 have HP:=zh (PW H hl (by unfold intsOf;rw[qM];omega));have q0:w.cell? ⟨c,0,none⟩=some G.x1:=zAz;have H0:=zh H;obtain⟨v1,v2,e12,h1,-⟩:=hx;simp only[List.cons.injEq,and_true]at e12;obtain⟨e1,-⟩:=e12;obtain⟨ao,cap,e2,-,-⟩:=h1.shape;obtain⟨n1,hn1⟩:=ze x.packs.length;rw[e1,e2,hn1]at q0;rw[e2,hn1]at h1;have R1:=zh h1;have N1:=zh hn1;have HM:=zh hm;have aoY:=zh akK;have HBs:=zh hBs;have Tj:Hid (∀p∈l,p<n1):=by rw[<-hn1];exact hlt
 have aoZ:n1<=1000:=by rw[<-hn1];exact hm.packs
 obtain⟨nl,hnl⟩:=ze l.length;rw[hnl]at hlen;have HNl:=zh hnl;have D7:Hid ((intsOf l).length=nl):=by unfold intsOf;rw[qM];exact hnl
 have hc:c<w.heap.size:=dR H.blk; -- the cell of the recipe, later on
 have HX:Hid (∀W gt' gb',nD W gt' gb' c bt bb G T B\/True->Only (fun k=>Mine gt k\/Mine gb k) w W->W.cell? ⟨c,0,none⟩=some (.slice ao n1 cap)):=fun W _ _ _ hW=>by rw[World.cell?_of_block (w:=w) (hW.block c hc (by rintro(h|h);exact h H0.out.tc;exact h H0.out.tc'))];exact q0
 clear H hl hlt hm hBs akK h1 e1 e2 hn1 hnl q0;go_enter Tryz.func22,Tryz.ntmps22;go_wp2_with fail;refine HP.out.mono ?_;rintro e w1 ⟨vp,rfl,r1,r2,r3⟩;have HI:Hid (Ints w1 vp (intsOf l)):=Ints.fH r1 fun z hz=>by obtain⟨i,hi,rfl⟩:=yD.1 hz;have:=Tj.out i hi;exact zCw
 have H1:=zh (H0.out.aN r3);have bM:=zh r3;have J3:Hid (D6 gt gb vp (intsOf l)):=fun _ k hk=>by
  obtain⟨V,hV⟩:=H0.out.tab;obtain⟨U,hU⟩:=H0.out.Jy;have hk2:=r2 k (by obtain⟨a2,c2,rfl,-,-⟩:=aC r1;cases a2 with|none=>cases hk|some ad=>exact hk);constructor;·unfold Mine;rw[hV.fresh k hk2];simp
  unfold Mine;rw[hU.fresh k hk2];simp
 obtain⟨ap,cp,rfl,-,-⟩:=aC r1;rw[D7.out]at HI J3⊢;have HG1:Hid (jT w1 gt gb c bt bb G (TB.choices (T,B) x (l.take 0)).1 (TB.choices (T,B) x (l.take 0)).2 w1):=jT.refl H1.out;clear r1 r2 r3 HP;go_wp2_with fail;go_loopw [15] (fun vi wr=> ∃i:Nat,vi= .int .i64 i/\i<=nl/\Hid (jT w1 gt gb c bt bb G (TB.choices (T,B) x (l.take i)).1 (TB.choices (T,B) x (l.take i)).2 wr)) (fun v _=>nl-(RowKit.intOf v).toNat);case atStart=>exact⟨0,rfl,qE _,HG1⟩
 case round=>
  clear HG1;obtain⟨i,rfl,hi,HR⟩:=hrel;by_cases ci:i<nl
  ·obtain⟨S,hS⟩:=ze (TB.choices (T,B) x (l.take i));have ao0:S.1.Ok:=by rw[<-hS];exact TB.Xf aoY.out _ _
   rw[hS]at HR;obtain⟨p,hp⟩:=zG l i (by rw[HNl.out];exact ci);have uh:Hid (TB.choices (T,B) x (l.take (i+1))=S.pack p (x.pack p)):=by rw[Xg hp,TB.QW,hS];exact rfl
   have hpn:p<n1:=Tj.out p (qT hp);obtain⟨kF,lV,HG,A1,A1',O1⟩:=HR.out;have hI2:=HI.out.GX J3.out O1;obtain⟨bI,aeW,eI,hcell⟩:=hI2.Jz (i:=i) (by rw[D7.out];exact ci);subst eI;have hgp:(intsOf l).getD i 0=(p:Int):=by unfold intsOf;rw[qC,List.getElem?_map,hp];rfl
   rw[hgp]at hcell;have jh:=zw (i+1);have Ow:Only (fun k=>Mine gt k\/Mine gb k) w wr:=(bM.out.mono fun _ f=>f.elim).same O1;have qx:=HX.out wr kF lV (.inr trivial) Ow;have hKp:Kp Bs w wr:=Ow.mono fun k hk=>HBs.out k hk;have hr1:=R1.out.keep iU.keep hKp;rw[<-N1.out]at hr1;obtain⟨b,off,eb,-,-⟩:=hr1.at (by have:=N1.out;omega);subst eb;have hpx:x.packs[p]? =some (x.pack p):=by unfold aH.pack;rw[qC,qA (by rw[N1.out];exact hpn)];rfl
   obtain⟨cs,-,Oz,PY⟩:=hr1.get hpx;obtain⟨pk,hpk⟩:=ze (x.pack p);have hmem:pk∈x.packs:=by rw[<-hpk];exact qT hpx
   rw[hpk]at PY uh;obtain⟨o1,o2,o3,o4,o5,o6,c1,c2,c3,c4,c5,c6,rfl,-,-,-,b2,-,-,-,-⟩:=PY.cells;have HRp:=zh Oz;have hrl:=HM.out.bY pk hmem;have hvl:=HM.out.vars pk hmem;have HVl:=zh (HM.out.vals pk hmem);obtain⟨nr,hnr⟩:=ze pk.bY.length;obtain⟨nv,ZJ⟩:=ze pk.vars.length;rw[hnr]at HRp hrl;rw[ZJ]at HRp b2 hvl;have QY:=zh hnr;have ZK:=zh ZJ; -- the world behind the copy of the package
   obtain⟨wB,hwB⟩:=zB (wr.alloc (.cells #[.string pk.name,.int .i64 pk.line,.slice o1 nr c1,.slice o2 nv c2,.slice o3 pk.provides.length c3,.slice o4 pk.deps.length c4,.slice o5 pk.cons.length c5,.slice o6 pk.files.length c6] 101));have oB:O0 wr wB:=zBA;have HGB:=HG.aN oB;have hfr:(kF wr.heap.size).1=0/\(lV wr.heap.size).1=0:=by obtain⟨V,hV⟩:=HG.tab;obtain⟨U,hU⟩:=HG.Jy;exact⟨hV.fresh _ (qH _),hU.fresh _ (qH _)⟩
   have sS:Hid (∀W,Only (fun k=>Mine kF k\/Mine lV k) wB W->W.cell? ⟨wr.heap.size,2,none⟩=some (.slice o1 nr c1)/\W.cell? ⟨wr.heap.size,3,none⟩=some (.slice o2 nv c2)):=fun W hW=>by have b0:wB.heap[wr.heap.size]? =some (.cells #[.string pk.name,.int .i64 pk.line,.slice o1 nr c1,.slice o2 nv c2,.slice o3 pk.provides.length c3,.slice o4 pk.deps.length c4,.slice o5 pk.cons.length c5,.slice o6 pk.files.length c6] 101):=zBJ;have b1:=aF b0 hW (by rintro(h|h);exact h hfr.1;exact h hfr.2);exact zC4
   have HVr:Hid (∀W,Only (fun k=>Mine kF k\/Mine lV k) wB W->aQ 2 pR Bs W (.slice o2 nv c2) pk.vars):=fun W hW=>b2.keep pR.keep (((oB.mono fun _ f=>f.elim).trans (G:=fun k=>Mine kF k\/Mine lV k) hW fun k hk=>by
    rcases yK k wr.heap.size with hlt|hge
    ·left
     have hs1:=bM.out.size
     rcases yK k w1.heap.size with h2|h2
     ·refine HBs.out k ?_
      unfold Mine at hk⊢
      rwa[A1 k h2,A1' k h2]at hk
     ·omega
    ·exact .inr hge:Kp Bs wr W))
   have HFin:Hid (∀W,jT wB kF lV c bt bb G (S.pack p pk).1 (S.pack p pk).2 W->jT w1 gt gb c bt bb G (TB.choices (T,B) x (l.take (i+1))).1 (TB.choices (T,B) x (l.take (i+1))).2 W):=fun W h=>by rw[uh.out];exact jT.trans A1 A1' (O1.same (oB.mono fun _ f=>f.elim)) h
   have V7:Hid (rF wB kF lV c bt bb G S.1 S.2 wB bP []):=rF.start (jT.refl HGB);clear HX hgp hI2 hKp hr1 hpx Oz PY hmem b2 hnr ZJ HG A1 A1' O1 Ow HGB hfr oB hp hS HR hpk;go_wp2_with (refine wpList_load_mid rfl 101 (.tmp 25) rfl b (off+p*8) rfl _ _ HRp.out Tryz.underlying101 rfl zk ?_);rw[<-hwB];clear hwB;generalize wr=wo at*;obtain⟨T1,hT1⟩:=ze ((S.1.num (aJ p)).1);obtain⟨node,Yz⟩:=ze ((S.1.num (aJ p)).2);have akL:=Tab.xq ao0 (aJ p);rw[hT1,Yz]at akL;obtain⟨akM,hnb⟩:=akL;have ahy:=zh (rF.num V7.out (x:=aJ p) ⟨by simp[aJ],⟨by simp only[aJ];omega,by simp only[aJ];omega⟩,zI,zI⟩ node Yz);rw[hT1]at ahy;have HT1:=zh hT1;have YA:=zh Yz;refine ahy.out.mono ?_;rintro e w2 ⟨rfl,h2⟩;have HG2:Hid (rF wB kF lV c bt bb G (T1.nums (ku p 0)).1 S.2 w2 bP (T1.nums (ku p 0)).2):=h2;clear ahy h2 hT1 Yz V7;have hpk2:=(sS.out w2 (by obtain⟨_,_,_,_,_,O,_⟩:=HG2.out;exact O)).1;go_wp2_with fail;go_loopw [6,34] (fun v6 vk wr=> ∃k:Nat,vk= .int .i64 k/\k<=nr/\Hid (rF wB kF lV c bt bb G (T1.nums (ku p k)).1 S.2 wr v6 (T1.nums (ku p k)).2)) (fun _ v _=>nr-(RowKit.intOf v).toNat);case atStart=>exact⟨0,rfl,qE _,HG2⟩
   case round=>
    clear HG2 hpk2;obtain⟨k,rfl,hk,ng⟩:=hrel;by_cases ck:k<nr
    ·obtain⟨T2,hT2⟩:=ze ((T1.nums (ku p k)).1);obtain⟨zs,hzs⟩:=ze ((T1.nums (ku p k)).2);have hzl:zs.length=k:=by rw[<-hzs,Tab.lM];unfold ku;simp
     obtain⟨r,hr⟩:=ze ((T2.num (pX p k)).2);have hsn:T1.nums (ku p (k+1))=((T2.num (pX p k)).1,zs++[r]):=by rw[Xd,Tab.ug,hT2,hzs,hr]
     rw[hT2,hzs]at ng;have DN:=zh hsn;have vT:=zh (rF.num ng.out (x:=pX p k) ⟨by simp[pX],⟨by simp only[pX];omega,by simp only[pX];omega⟩,⟨by simp only[pX];omega,by simp only[pX];omega⟩,zI⟩ r hr);obtain⟨au,cu,hu,-,-⟩:∃au cu,u6= .slice au zs.length cu/\zs.length<=cu/\cu<=maxLen:=by obtain⟨_,_,_,_,_,_,R,_⟩:=ng.out;exact aC R
     subst hu;have TR:=zw (k+1);have hzk:zs.length<=1000:=zBk;clear hT2 hzs hsn hr hzl;go_wp2_with fail;refine vT.out.mono ?_;rintro e w5 ⟨rfl,h5⟩;have H5:=zh h5;have hown:w5.ownsRow 0 3 1 (.slice au zs.length cu) zs.length (zs.map cI):=by obtain⟨_,_,_,_,_,_,R,_⟩:=h5;exact R
     have zO:=zh hown;clear h5 hown vT;go_wp2_with (at_builtin;go_must (refine tC (u:=.int .i64 r) kJ rfl (.tmp 37) (.tmp 43) rfl rfl rfl (cell_new0 _ _ _) rfl (aI zO.out ((Only.refl (fun _=>False) _).alloc _) (fun _ _ f=>f)) zBk zBl ?_));intro v' w6 s1 s2 s3;have Ey:Hid (rF wB kF lV c bt bb G (T1.nums (ku p (k+1))).1 S.2 w6 v' (T1.nums (ku p (k+1))).2):=by exact zEg
     exact zDB
    obtain rfl:nr=k:=by omega
    clear hk ck;obtain⟨zok,zb⟩:=Tab.uF (ku p nr) akM;have zl:(T1.nums (ku p nr)).2.length=nr:=by rw[Tab.lM];unfold ku;simp
    have ab4:=zh (rF.one ng.out zb (by rw[zl];omega) node hnb);obtain⟨au,cu,hu,-,-⟩:∃au cu,u6= .slice au nr cu/\nr<=cu/\cu<=maxLen:=by obtain⟨_,_,_,_,_,_,R,_⟩:=ng.out;rw[zl]at R;exact aC R
    subst hu;clear zb;go_wp2_with fail;refine ab4.out.mono ?_;rintro e w3 ⟨rfl,h3⟩;obtain⟨S1,hS1⟩:=ze (TB.row (T1,S.2) node (ku p nr));have PZ:S1.1.Ok:=by rw[<-hS1];exact zok
    have HG3:Hid (jT wB kF lV c bt bb G (S1.vars node p pk.vars 0).1 (S1.vars node p pk.vars 0).2 w3):=by rw[<-hS1];exact h3
    have akN:Hid (∀W,jT wB kF lV c bt bb G (S1.vars node p pk.vars nv).1 (S1.vars node p pk.vars nv).2 W->jT w1 gt gb c bt bb G (TB.choices (T,B) x (l.take (i+1))).1 (TB.choices (T,B) x (l.take (i+1))).2 W):=fun W h=>by refine HFin.out W ?_;unfold TB.pack;rw[HT1.out,YA.out,QY.out,ZK.out,hS1];exact h
    have ao7:=(sS.out w3 (by obtain⟨_,_,_,_,_,O⟩:=HG3.out;exact O)).2;clear h3 ab4 ng zl zok hS1 HFin uh;go_wp2_with fail;generalize w3=wq at*;go_loopw [53] (fun vj wr=> ∃j:Nat,vj= .int .i64 j/\j<=nv/\Hid (jT wB kF lV c bt bb G (S1.vars node p pk.vars j).1 (S1.vars node p pk.vars j).2 wr)) (fun v _=>nv-(RowKit.intOf v).toNat);case atStart=>exact⟨0,rfl,qE _,HG3⟩
    case round=>
     clear HG3 ao7;obtain⟨j,rfl,hj,HG⟩:=hrel;by_cases cj:j<nv
     ·obtain⟨S2,hS2⟩:=ze (S1.vars node p pk.vars j);have akO:S2.1.Ok:=by rw[<-hS2];exact TB.QX PZ _ _ _ _
      rw[hS2]at HG;have HV:=HVr.out wr (by obtain⟨_,_,_,_,_,O⟩:=HG.out;exact O);rw[<-ZK.out]at HV;obtain⟨b2,off2,e2,-,-⟩:=HV.at (by have:=ZK.out;omega);subst e2;obtain⟨vd,hvd⟩:=zG pk.vars j (by rw[ZK.out];exact cj);obtain⟨cs2,-,hr2,hC2⟩:=HV.get hvd;obtain⟨vv,rfl,-,hvv⟩:=hC2;obtain⟨av,cv,rfl,-,-⟩:=hvv.shape;have hvn:vd.values.length<=1000:=HVl.out vd (qT hvd);obtain⟨nk,hnk⟩:=ze vd.values.length;rw[hnk]at hr2 hvn;have HR2:=zh hr2;have hgd:pk.vars.getD j default=vd:=by rw[qC,hvd];rfl
      have uh:Hid (S1.vars node p pk.vars (j+1)=S2.row node (kG p j nk)):=by show TB.row _ _ _=_;rw[hS2,hgd,hnk]
      have ewj:=zw (j+1);obtain⟨wV,hwV⟩:=zB (wr.alloc (.cells #[.string vd.name,.slice av nk cv] 145));have oV:O0 wr wV:=by rw[hwV];exact zr.alloc _
      obtain⟨ZH,ZI,HGr,A2,V6,O2⟩:=HG.out;have HGV:=HGr.aN oV;have hfr2:(ZH wr.heap.size).1=0/\(ZI wr.heap.size).1=0:=by obtain⟨V,hV⟩:=HGr.tab;obtain⟨U,hU⟩:=HGr.Jy;exact⟨hV.fresh _ (qH _),hU.fresh _ (qH _)⟩
      have hvc:wV.cell? ⟨wr.heap.size,1,none⟩=some (.slice av nk cv):=by
       have b0:wV.heap[wr.heap.size]? =some (.cells #[.string vd.name,.slice av nk cv] 145):=by rw[hwV];exact qL wr _
       rw[ah b0];rfl
      have akP:Hid (∀W,jT wV ZH ZI c bt bb G (S2.row node (kG p j nk)).1 (S2.row node (kG p j nk)).2 W->jT wB kF lV c bt bb G (S1.vars node p pk.vars (j+1)).1 (S1.vars node p pk.vars (j+1)).2 W):=fun W h=>by rw[uh.out];exact jT.trans A2 V6 (O2.same (oV.mono fun _ f=>f.elim)) h
      have V7:Hid (rF wV ZH ZI c bt bb G (S2.1.nums (kG p j 0)).1 S2.2 wV bP (S2.1.nums (kG p j 0)).2):=rF.start (jT.refl HGV);clear HV hvd hr2 hvv hnk hgd uh oV HGr A2 V6 O2 HGV hfr2 hS2 HG;go_wp2_with (refine wpList_load_mid rfl 145 (.tmp 56) rfl b2 (off2+j*2) rfl _ _ HR2.out Tryz.underlying145 rfl zk ?_);rw[<-hwV];clear hwV hvc;generalize wr=wm at*;go_loopw [10,61] (fun v6 vk wr=> ∃k:Nat,vk= .int .i64 k/\k<=nk/\Hid (rF wV ZH ZI c bt bb G (S2.1.nums (kG p j k)).1 S2.2 wr v6 (S2.1.nums (kG p j k)).2)) (fun _ v _=>nk-(RowKit.intOf v).toNat);case atStart=>exact⟨0,rfl,qE _,V7⟩
      case round=>
       clear V7;obtain⟨k,rfl,hk,ng⟩:=hrel;by_cases ck:k<nk
       ·obtain⟨T2,hT2⟩:=ze ((S2.1.nums (kG p j k)).1);obtain⟨zs,hzs⟩:=ze ((S2.1.nums (kG p j k)).2);have hzl:zs.length=k:=by rw[<-hzs,Tab.lM];unfold kG;simp
        obtain⟨r,hr⟩:=ze ((T2.num (oh p j k)).2);have hsn:S2.1.nums (kG p j (k+1))=((T2.num (oh p j k)).1,zs++[r]):=by rw[Xe,Tab.ug,hT2,hzs,hr]
        rw[hT2,hzs]at ng;have DN:=zh hsn;have vT:=zh (rF.num ng.out (x:=oh p j k) ⟨by simp[oh],⟨by simp only[oh];omega,by simp only[oh];omega⟩,⟨by simp only[oh];omega,by simp only[oh];omega⟩,⟨by simp only[oh];omega,by simp only[oh];omega⟩⟩ r hr);obtain⟨au,cu,hu,-,-⟩:∃au cu,u10= .slice au zs.length cu/\zs.length<=cu/\cu<=maxLen:=by obtain⟨_,_,_,_,_,_,R,_⟩:=ng.out;exact aC R
        subst hu;have TR:=zw (k+1);have hzk:zs.length<=1000:=zBk;clear hT2 hzs hsn hr hzl;go_wp2_with fail;refine vT.out.mono ?_;rintro e w5 ⟨rfl,h5⟩;have H5:=zh h5;have hown:w5.ownsRow 0 3 1 (.slice au zs.length cu) zs.length (zs.map cI):=by obtain⟨_,_,_,_,_,_,R,_⟩:=h5;exact R
        have zO:=zh hown;clear h5 hown vT;go_wp2_with (at_builtin;go_must (refine tC (u:=.int .i64 r) kJ rfl (.tmp 64) (.tmp 71) rfl rfl rfl (cell_new0 _ _ _) rfl (aI zO.out ((Only.refl (fun _=>False) _).alloc _) (fun _ _ f=>f)) zBk zBl ?_));intro v' w6 s1 s2 s3;have Ey:Hid (rF wV ZH ZI c bt bb G (S2.1.nums (kG p j (k+1))).1 S2.2 w6 v' (S2.1.nums (kG p j (k+1))).2):=by exact zEg
        exact zDB
       obtain rfl:nk=k:=by omega
       clear hk ck;obtain⟨-,zb⟩:=Tab.uF (kG p j nk) akO;have zl:(S2.1.nums (kG p j nk)).2.length=nk:=by rw[Tab.lM];unfold kG;simp
       have ab4:=zh (rF.one ng.out zb (by rw[zl];omega) node hnb);obtain⟨au,cu,hu,-,-⟩:∃au cu,u10= .slice au nk cu/\nk<=cu/\cu<=maxLen:=by obtain⟨_,_,_,_,_,_,R,_⟩:=ng.out;rw[zl]at R;exact aC R
       subst hu;clear zb zl;go_wp2_with fail;refine ab4.out.mono ?_;rintro e w3 ⟨rfl,h3⟩;have akQ:=zh (akP.out w3 h3);clear h3 ab4 ng;go_wp2_with fail;go_roundw;case rel=>exact⟨j+1,by first|rfl|go_num,by omega,akQ⟩
       case measure=>simp[RowKit.intOf]<;>omega
     obtain rfl:nv=j:=by omega
     have Fz:=zh (akN.out wr HG.out);go_wp2_with fail;go_roundw;case rel=>exact⟨i+1,by first|rfl|go_num,by omega,Fz⟩
     case measure=>simp[RowKit.intOf]<;>omega
  obtain rfl:nl=i:=by omega
  go_wp2_with fail;go_end0;refine⟨rfl,?_⟩;have:=HR.out;rw[qI (yG HNl.out)]at this;exact jT.after bM.out this
end
end Go.Proofs.YtdmmebjjojimiaaGreatDoor
namespace Go.Proofs
theorem zFR{p:Prop}(h:p:=by
 obtain⟨g,cap,rfl,_,_⟩:=fJ h2 zBk
 simpa[Value.blk,Value.ownBlock]using hk):p:=h
end Go.Proofs
namespace Go.Proofs.YtdmmebjjojimiaaGreatDoor
open Go.RowKit
theorem ZL{w:World}{base:Nat}{e:TypeId}{size:Nat}{v:Value}{n:Nat}{xs:List Value}(h:w.ownsRow base e size v n xs):w.ownsRow 0 e size v n xs:=⟨h.1,h.2.imp id fun⟨g,cap,cur,a,_,c⟩=>⟨g,cap,cur,a,qE _,c⟩⟩
def pY(w:World)(e:TypeId)(v:Value)(us:List Value):Prop:=
 (v=bP/\us=[])\/ ∃g o cap cur,v= .slice (some ⟨g,o,none⟩) us.length cap/\w.heap[g]? =some (.cells cur e (0,0))/\us.length<=cap/\cap<=maxLen/\(∀j,j<cap->o+j<cur.size)/\∀j u,us[j]? =some u->cur[o+j]? =some u
theorem pY.nilRow(w:World)(e:TypeId):pY w e bP []:=.inl ⟨rfl,rfl⟩
theorem pY.fH{w:World}{e:TypeId}{v:Value}{us:List Value}(h:w.ownsRow 0 e 1 v us.length us):pY w e v us:=by
 rcases h.2 with⟨rfl,h2⟩| ⟨g,cap,cur,rfl,_,hg,h1,h2,h3,h4⟩;·exact .inl ⟨rfl,yF h2⟩
 refine .inr ⟨g,0,cap,cur,rfl,hg,h1,h2,fun j hj=>by omega,fun j u hu=>?_⟩;have hj:=(qJ.1 hu).1;rw[<-h4,yH,List.getElem?_take,if_pos hj]at hu;rw[Nat.zero_add,<-hu,Array.getElem?_toList]
theorem pY.only{w w':World}{e:TypeId}{v:Value}{us:List Value}{F:Nat->Prop}(h:pY w e v us)(ho:Only F w w')(hF:∀k,Value.blk v=some k->¬F k):pY w' e v us:=by
 rcases h with h| ⟨g,o,cap,cur,rfl,hg,r⟩;·exact .inl h
 exact .inr ⟨g,o,cap,cur,rfl,aF hg ho (hF g rfl),r⟩
theorem pY.lt{w:World}{e:TypeId}{v:Value}{us:List Value}(h:pY w e v us){k:Nat}(hk:Value.blk v=some k):k<w.heap.size:=by
 rcases h with⟨rfl,_⟩| ⟨g,o,cap,cur,rfl,hg,r⟩;·cases hk
 cases hk;exact dR hg
theorem pY.some{w:World}{e:TypeId}{v u:Value}{us:List Value}(h:pY w e v (u::us)):∃g o cap,v= .slice (some ⟨g,o,none⟩) (us.length+1) cap/\us.length+1<=cap/\cap<=maxLen/\w.cell? ⟨g,o,none⟩=some u/\∃o',(o'=if cap=1 then o else o+1)/\pY w e (.slice (some ⟨g,o',none⟩) us.length (cap-1)) us:=by
 rcases h with⟨_,h⟩| ⟨g,o,cap,cur,rfl,hg,h1,h2,h3,h4⟩;·cases h
 simp only[qN]at h1;refine⟨g,o,cap,rfl,h1,h2,?_,_,rfl,.inr ⟨g,_,cap-1,cur,rfl,hg,by omega,by omega,fun j hj=>?_,fun j x hx=>?_⟩⟩;·rw[ah hg];exact h4 0 u rfl
 ·rw[if_neg zBk];have:=h3 (j+1) zBk;omega
 have hj:=(qJ.1 hx).1;rw[if_neg zBk];have:=h4 (j+1) x (by simpa using hx);rw[show o+1+j=o+(j+1) by omega];exact this
theorem Ur{P:Program}{t e:TypeId}{i:TypeInfo}(ht:P.underlying t=some (.slice e))(hi:P.info? e=some i)(hs:i.size=1)(g o m cap:Nat)(hm:m+1<=cap)(hc:cap<=maxLen)(W:World):(Instr.slice t (.slice (some ⟨g,o,none⟩) (m+1) cap) (some (.int .i64 1)) none none).run P W= .ok (.slice (some ⟨g,if cap=1 then o else o+1,none⟩) m (cap-1)) W:=by have h1:(1:Int)<=((m+1:Nat):Int):=zBk;simp[Instr.slice,Instr.sliceBounds,Instr.sliceBound,run_underlying ht,sizeOf,typeInfo,hi,hs,asIntOf,Addr.add];by_cases hcap:cap=1;all_goals (split<;>simp_all)
theorem pY.sh{w:World}{e:TypeId}{v:Value}{us:List Value}(h:pY w e v us):∃ao cap,v= .slice ao us.length cap/\us.length<=cap/\cap<=maxLen:=by
 rcases h with⟨rfl,rfl⟩| ⟨g,o,cap,cur,rfl,hg,h1,h2,_⟩;·exact zEI
 exact⟨_,cap,rfl,h1,h2⟩
theorem QZ{P:Program}(w:World){t e ty:TypeId}{bytes:Nat}(T:BM P t e 1 bytes){v:Value}{us:List Value}(h:pY w e v us)(a:Addr)(c:Nat){u:Value}(hc:w.cell? a=some u)(hu:u.oneCell'=true)(h63:us.length+1<=1099511627776)(hby:bytes<=64):∃v' w',(Builtin.append_ #[t,t] ty #[v,.slice (some a) 1 c]).run P w= .ok v' w'/\pY w' e v' (us++[u])/\Only (fun k=>Value.blk v=some k) w w'/\∀k,Value.blk v'=some k->Value.blk v=some k\/w.heap.size<=k:=by
 have hm:maxLen=9223372036854775807\/1099511627776<=maxLen:=zBp;have hm2:us.length+1<=maxLen:=zBp;have hmul:(us.length+1)*bytes<=1099511627776*64:=Nat.mul_le_mul h63 hby;have hnews:∀j x,[u][j]? =some x->w.cell? (a.add j)=some x:=by
  intro j x hx
  match j,hx with
  |0,hx=>simp at hx;subst hx;rw[<-hc];unfold Addr.add;simp
 have h1:∀x∈[u],x.oneCell'=true:=by intro x hx;simp at hx;subst hx;exact hu
 rcases h with⟨rfl,rfl⟩| ⟨g,o,cap,cur,rfl,hg,hl,hx,hi,hv⟩
 ·obtain⟨v',w',hr,h2,h3,h4,h5⟩:=nY (P:=P) (ty:=ty) w T bP 0 [] (World.ownsRow_nil _ _ _ _) a 1 c [u] rfl hnews h1 (by simpa using hm2) zBk;refine⟨v',w',hr,pY.fH (by simpa using h2),(Only.refl _ w).grown h3 fun k hk=>(by cases hk),fun k hk=>?_⟩;have hk':v'.ownBlock=some k:=by exact zFR
  rcases h4 k hk' with h|h;·cases h
  exact .inr h
 obtain⟨i,z,t1,t2,t3,t4,t5⟩:=T.info;have hcur:∀j,w.cell? ⟨g,j,none⟩=cur[j]? :=fun j=>ah hg j;by_cases hroom:us.length+1<=cap
 ·have hin:o+us.length<cur.size:=hi _ zBk;have hrun:=run_append_room_cells (P:=P) w t ty e i T.und t1 g o us.length cap a 1 c [u] (by rw[t3];rfl) hnews h1 hroom
   (fun j hj=>by
    simp at hj;subst hj
    rw[t3,yH,qF,hcur,Array.getElem?_eq_getElem hin];rfl)
   (fun j hj=>by simp at hj;subst hj;exact iG hg _)
  rw[t3,yH]at hrun;refine⟨_,_,hrun,.inr ⟨g,o,cap,cur.setIfInBounds (o+us.length) u,?_,?_,?_,hx,fun j hj=>by simpa using hi j hj,fun j x hj=>?_⟩,?_,fun k hk=>.inl hk⟩;·simp
  ·exact jX hg _ _
  ·simpa using hroom
  ·rw[Array.getElem?_setIfInBounds];have hjl:=(qJ.1 hj).1;simp at hjl;by_cases hjn:j=us.length;·subst hjn;rw[if_pos rfl,if_pos hin];simpa using hj
   rw[if_neg zBk];exact hv j x (by rw[yM zBk]at hj;exact hj)
  exact(Only.refl (fun k=>Value.blk (.slice (some ⟨g,o,none⟩) us.length cap)=some k) w).setCell (p:=⟨g,o+us.length,none⟩) (.inl rfl) u
 have hgrow:=run_append_arg_grows (P:=P) w t ty e i z 1 bytes T.und t1 t2 t3 t4 t5 zAC ⟨g,o,none⟩ us.length cap us zBk
  (fun j x hj=>by rw[Go.WideShapes.add_plain,hcur];exact hv j x hj) a 1 c [u] rfl hnews zAC hm2 zBk
 obtain⟨v',w',hr,h2,h3⟩:=hgrow;refine⟨v',w',hr,pY.fH (by simpa using ZL h2),(Only.refl _ w).grown h3 fun k hk=>(by cases hk),fun k hk=>?_⟩;have hk':v'.ownBlock=some k:=by exact zFR
 exact .inr (h2.lt k hk').1
theorem akR{P:Program}{w:World}{u:Value}{ops:Array Oper}{rest:List Oper}{o:Oper}{a:Act}{Q:Exit->Act->World->Prop}{t e:TypeId}{bytes:Nat}(T:BM P t e 1 bytes)
  (hgd:o.guard=none) (s x:Operand)
  (ho:o.op= .call {callee:=.builtin .append,args:= #[s,x],argTypes:= #[t,t]})
  {v:Value} {us:List Value} {g:Nat} (hs:a.eval s=v) (hx:a.eval x= .slice (some ⟨g,0,none⟩) 1 1) (hc:w.cell? ⟨g,0,none⟩=some u) (hu:u.oneCell'=true) (hq:pY w e v us)
  (h63:us.length+1<=1099511627776) (hbytes:bytes<=64)
  (h:∀v' w',pY w' e v' (us++[u])->Only (fun k=>Value.blk v=some k) w w'->(∀k,Value.blk v'=some k->Value.blk v=some k\/w.heap.size<=k)->wpList P ops Q rest (a.put o.dst v') w'):
  wpList P ops Q (o::rest) a w:=by
 refine wpList_plain hgd fun K hK=>?_
 obtain⟨v',w',hr,h2,h3,h4⟩:=QZ (P:=P) (ty:=o.type) w T hq ⟨g,0,none⟩ 1 hc hu h63 hbytes
 unfold Oper.wp execOp
 simp only[ho,resolve,invoke,builtin,Sem.run_bind,Sem.run_pure,Result.andThen_ok,List.map_toArray,List.map_cons,List.map_nil,hs,hx,hr]
 exact hK _ _ (h v' w' h2 h3 h4)
end Go.Proofs.YtdmmebjjojimiaaGreatDoor
namespace Go.Proofs
theorem zCv{p:Prop}(h:p:=by
 obtain⟨es,clock,hb,Ft,hs,hD⟩:=r1
 refine⟨es,clock,hb,Ft,?_,hD⟩
 rw[<-hsz,hD]
 simp[Maps.size,length_sorted]):p:=h
theorem zDW{p:Prop}(h:p:=by
 split
 ·exact h.nd
 ·rename_i hn
  rw[List.nodup_append]
  exact⟨h.nd,by simp,fun a ha b hb e=>hn (by simp at hb;rw[<-hb,<-e];exact ha)⟩):p:=h
end Go.Proofs
namespace Go.Proofs.YtdmmebjjojimiaaGreatDoor
open Go.RowKit
theorem inZ:bU 0:=⟨by decide,by decide⟩
theorem I8:Maps.Keyed Tryz.prog 3:=Maps.int_keyed Tryz.underlying3
theorem aeY(w:World):(zeroValue 3).run Tryz.prog w= .ok (.int .i64 0) w:=by kernel_rfl
abbrev kI(x:Int):Lit:=.int .i64 x
theorem wfI{x:Int}(hx:bU x):(kI x).wf=true:=WalkArith.wf_i64 hx
theorem ahz{x:Int}(hx:bU x):keyOf Tryz.prog 3 (cI x)=some (kI x):=Maps.keyOf_int_mk Tryz.underlying3 (wfI hx)
theorem YB{x y:Int}(h:y≠x):kI y≠kI x:=fun e=>h (by injection e)
structure rG (w:World) (B:Nat) (ks:List Int) (f:Int->Int):Prop where
 own:∃D:DataW Unit,w.ownsMap Tryz.prog 3 (plainElem Tryz.prog 3) B ks.length D/\(∀x,D.atKey (kI x) (.lit (kI 0))= .lit (kI (f x)))/\(∀x,Maps.has D (kI x)=decide (x∈ks))/\Maps.size D=ks.length
 nd:ks.Nodup
 out:∀x,x∉ks->f x=0
 val:∀x,bU (f x)
 rng:∀x∈ks,bU x
def D8(ks:List Int)(x:Int):List Int:=if x∈ks then ks else ks++[x]
def upd(f:Int->Int)(x v:Int):Int->Int:=fun y=>if y=x then v else f y
theorem CY{ks:List Int}{x y:Int}:y∈D8 ks x↔y∈ks\/y=x:=by
 unfold D8;split
 ·rename_i h;constructor;·exact .inl
  rintro(h1|rfl);·exact h1
  exact h
 simp
section
variable {w w':World} {B:Nat} {ks:List Int} {f:Int->Int}
theorem rG.lt(h:rG w B ks f):B<w.heap.size:=by obtain⟨D,h1,_⟩:=h.own;exact h1.lt
theorem rG.only{F:Nat->Prop}(h:rG w B ks f)(ho:Only F w w')(hF:¬F B):rG w' B ks f:=by have hlt:=h.lt;obtain⟨D,⟨es,clock,hb,Ft,hs,hD⟩,h2⟩:=h.own;exact⟨⟨D,⟨es,clock,(ho.block B hlt hF).trans hb,Ft,hs,hD⟩,h2⟩,h.nd,h.out,h.val,h.rng⟩
theorem rG.aN(h:rG w B ks f)(ho:O0 w w'):rG w' B ks f:=h.only ho (fun f=>f)
theorem rG.made(w:World):rG (w.alloc (.map #[] 0)) w.heap.size [] (fun _=>0):=
 ⟨⟨.map [],World.ownsMap_made _ _ _ _,fun x=>rfl,fun x=>by simp[Maps.has],rfl⟩,List.nodup_nil,fun _ _=>rfl,fun _=>inZ,fun x hx=>by cases hx⟩
theorem rG.look(h:rG w B ks f){x:Int}(hx:bU x):(Instr.lookup 211 (.map (some B)) (cI x) false).run Tryz.prog w= .ok (cI (f x)) w:=by obtain⟨D,h1,h2,h3,h4⟩:=h.own;obtain⟨c,hrun,hat,_⟩:=h1.lookup_int I8 Tryz.underlying211 Tryz.underlying3 (aeY _) (ahz hx);rw[h2]at hat;have:f x=c:=(Lit.int.inj (DataW.lit.inj hat)).2;rw[this];exact hrun
theorem rG.len(h:rG w B ks f)(ty:TypeId):(Builtin.len_ #[211] ty #[.map (some B)]).run Tryz.prog w= .ok (.int .i64 (ks.length:Int)) w:=by obtain⟨D,h1,h2,h3,h4⟩:=h.own;rw[h1.len Tryz.underlying211 ty,h4]
theorem JA{b:Nat}(h:w.mapTurned w' b):Only (fun k=>k=b) w w':=(Only.refl _ w).grown h.grown fun k hk=>.inl (Option.some.inj hk).symm
theorem rG.store(h:rG w B ks f){x v:Int}(hx:bU x)(hv:bU v)(hl:ks.length<maxLen):∃w',(Instr.mapUpdate 211 (.map (some B)) (cI x) (cI v)).run Tryz.prog w= .ok () w'/\rG w' B (D8 ks x) (upd f x v)/\Only (fun k=>k=B) w w':=by
 obtain⟨D,h1,h2,h3,h4⟩:=h.own;have hkl:WideAt.IsKeyLit (kI x):=trivial;obtain⟨w',hrun,r1,r2⟩:=h1.store I8 Tryz.underlying211 hl (ahz hx) (plainElem_int Tryz.underlying3 (wfI hv));have hsz:Maps.size (D.put (kI x) (.lit (kI v)))=(D8 ks x).length:=by
  rw[Maps.size_put (h1.tidy I8),h3,h4];unfold D8;by_cases hm:x∈ks;·simp[hm]
  simp[hm]
 refine⟨w',hrun,⟨⟨_,?_,fun y=>?_,fun y=>?_,hsz⟩,?_,fun y hy=>?_,fun y=>?_,fun y hy=>?_⟩,JA r2⟩;·exact zCv
 ·unfold upd;by_cases e:y=x;·subst e;rw[if_pos rfl,Maps.atKey_put_same h1.isMap hkl]
  rw[if_neg e,Maps.atKey_put_other (YB e),h2]
 ·by_cases e:y=x;·subst e;rw[Maps.has_put_same h1.isMap hkl,qX (CY.2 (.inr rfl))]
  rw[Maps.has_put_other (YB e),h3];exact decide_eq_decide.2 (by rw[CY];simp[e])
 ·unfold D8;exact zDW
 ·rw[CY,not_or]at hy;unfold upd;rw[if_neg hy.2];exact h.out y hy.1
 ·unfold upd;split;·exact hv
  exact h.val y
 rcases CY.1 hy with h5|rfl;·exact h.rng y h5
 exact hx
theorem rG.drop(h:rG w B ks f){x:Int}(hx:bU x)(ty:TypeId):∃w',(Builtin.delete_ #[211,3] ty #[.map (some B),cI x]).run Tryz.prog w= .ok (.tuple #[]) w'/\rG w' B (ks.erase x) (upd f x 0)/\Only (fun k=>k=B) w w':=by
 obtain⟨D,h1,h2,h3,h4⟩:=h.own;obtain⟨w',hrun,r1,r2⟩:=h1.drop I8 Tryz.underlying211 (ahz hx) ty;have hsz:Maps.size (D.del (kI x))=(ks.erase x).length:=by
  have h5:=Maps.size_del (k:=kI x) (h1.tidy I8);rw[h3,h4]at h5;rw[List.length_erase];by_cases hm:x∈ks;·simp[hm]at h5⊢;omega
  simp[hm]at h5⊢;omega
 have hmem:∀y,y∈ks.erase x↔y≠x/\y∈ks:=fun y=>h.nd.mem_erase_iff;refine⟨w',hrun,⟨⟨_,?_,fun y=>?_,fun y=>?_,hsz⟩,h.nd.erase _,fun y hy=>?_,fun y=>?_,fun y hy=>?_⟩,JA r2⟩;·exact zCv
 ·unfold upd;by_cases e:y=x;·subst e;rw[if_pos rfl,Maps.atKey_del_same]
  rw[if_neg e,Maps.atKey_del_other (YB e),h2]
 ·by_cases e:y=x;·subst e;rw[Maps.has_del_same,qP];rw[hmem];exact fun h=>h.1 rfl
  rw[Maps.has_del_other (YB e),h3];exact decide_eq_decide.2 (by rw[hmem];simp[e])
 ·unfold upd;split;·rfl
  rename_i e;refine h.out y fun hm=>hy ?_;rw[hmem];exact⟨e,hm⟩
 ·unfold upd;split;·exact inZ
  exact h.val y
 exact h.rng y ((hmem y).1 hy).2
theorem rG.keys(h:rG w B ks f):∃D:DataW Unit,w.ownsMap Tryz.prog 3 (plainElem Tryz.prog 3) B ks.length D/\ks.Perm (intKeys D)/\Maps.size D=ks.length:=by
 obtain⟨D,h1,h2,h3,h4⟩:=h.own;refine⟨D,h1,?_,h4⟩;obtain⟨es,hD,hpw,_⟩:=h1.entries I8;obtain⟨es',hD',hko⟩:=h1.keysOf;obtain rfl:es=es':=by rw[hD]at hD';simpa using hD'
 subst hD;exact perm_intKeys hpw (fun p hp=>by obtain⟨v,hv⟩:=hko p hp;obtain⟨x,_,hx,_⟩:=Maps.keyOf_i64 Tryz.underlying3 hv;exact⟨x,hx⟩) h.nd (fun x=>by rw[h3 x];simp)
end
end Go.Proofs.YtdmmebjjojimiaaGreatDoor
namespace Go.Proofs.YtdmmebjjojimiaaGreatDoor
open Go.RowKit Go.Maps Go.Sort Go.Shelf
def Ez(l:List Int):List Int:=l.mergeSort fun x y=>decide (x<=y)
theorem Az(l:List Int):(Ez l).Perm l:=List.mergeSort_perm l _
theorem AB(l:List Int):(Ez l).Pairwise (· <= ·):=by have h:=List.pairwise_mergeSort (le:=fun x y:Int=>decide (x<=y)) (by intro a b c;simp;omega) (by intro a b;simp;omega) l;exact h.imp fun h=>by simpa using h
theorem OB{l m:List Int}(h:l.Perm m):Ez l=Ez m:=
 List.Perm.eq_of_pairwise (le:=fun x y:Int=>x<=y) (fun a b _ _ h1 h2=>by omega) (AB l) (AB m) (((Az l).trans h).trans (Az m).symm)
theorem Tryz.sortsA(m:Nat):AnyZI.SortsIn Tryz.prog Tryz.sortedA_ren Fence.wide m:=⟨fun blk off cap ss W hH hblk hsz=>callsIn_wide.2 (AnyM.slices_Sort_int Tryz.sortA blk off cap ss W hH hblk hsz),fun p cap W=>callsIn_wide.2 (AnyM.slices_Sort_int_none Tryz.sortA p cap W)⟩
section
variable {w:World} {B:Nat} {ks:List Int} {f:Int->Int}
abbrev ags(w:World):Value:=.func (.func 218) #[] #[.pointer (some ⟨w.heap.size,0,none⟩)]
theorem ab5(w:World)(B:Nat):Calls Tryz.prog 150 #[.map (some B)] w fun e w'=>e= .returned (ags w)/\w'=w.alloc (.cells #[.map (some B)] 211):=by refine(callsIn_wide (n:=5)).1 ?_;exact AnyZI.keys_in Tryz.keysA Fence.wide 5 trivial rfl (some B) w
theorem Xi(h:rG w B ks f)(hl:ks.length<=65536):Calls Tryz.prog 149 #[ags w] (w.alloc (.cells #[.map (some B)] 211)) fun e w'=> ∃v,e= .returned v/\w'.ownsRow 0 3 1 v (Ez ks).length ((Ez ks).map cI)/\(∀k,v.ownBlock=some k->w.heap.size<=k)/\O0 w w':=by
 obtain⟨D,hown,hp,hsz⟩:=h.keys;have hbl:=hown.lt;have hseq:SeqGives Fence.wide 2 Tryz.prog 218 #[.pointer (some ⟨w.heap.size,0,none⟩)] encZ (fun ss=>ss.Perm (intKeys D)) (Maps.size D) (w.alloc (.cells #[.map (some B)] 211)):=
  AnyZI.keys_gives (ρ:=Tryz.keysA_ren) {Tryz.keysA with} Fence.wide _ trivial rfl zBk w.heap.size B ks.length D _ (by simp) (by simp) (by
   obtain⟨es,clock,hb,Ft,hs,hD⟩:=hown
   exact⟨es,clock,(Below.heap_alloc _ _ B hbl).trans hb,Ft,hs,hD⟩)
 have cS:=AnyZI.sorted_in Tryz.sortedA Fence.wide 5 trivial trivial trivial trivial rfl zBk (Tryz.sortsA _) (enters_of Tryz.func217 zk rfl) 218 #[.pointer (some ⟨w.heap.size,0,none⟩)] trivial (enters_of Tryz.func218 zk rfl) _ _ (by rw[hsz];unfold maxLen;omega) (by rw[hsz];omega) _ hseq;refine((callsIn_wide (n:=5)).1 cS).mono ?_;rintro e w' ⟨v,ss,rfl,hS,hrow,-,hb⟩;have e1:ss.mergeSort (fun x y=>decide (x<=y))=Ez ks:=OB (hS.trans hp.symm);have e2:ss.length=(Ez ks).length:=by rw[<-e1,List.length_mergeSort]
 rw[e1,e2]at hrow;refine⟨v,rfl,ownsRow_base_a hrow (qE _),fun k hk=>?_,?_⟩;·have:=(hrow.lt k hk).1;simp at this;omega
 exact(zr.alloc _).trans (G:=fun k=>w.heap.size+1<=k) (by have:=Only.of_below hb;simpa using this) fun k hk=>.inr zBk
end
end Go.Proofs.YtdmmebjjojimiaaGreatDoor
