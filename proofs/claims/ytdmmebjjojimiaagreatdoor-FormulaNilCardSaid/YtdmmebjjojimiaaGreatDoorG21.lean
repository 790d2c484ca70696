/- Maps from a key to a row of numbers that a call makes: what they hold, in plain words.; Ch9 Ch10 Ch11 Ch12 Ch13, in one text. -/
import Derived.Test.YtdmmebjjojimiaaGreatDoorG19
import Derived.DeepKeys5
set_option maxRecDepth 100000
set_option maxHeartbeats 8000000
set_option linter.all false
namespace Go.Proofs
theorem zDB{p:Prop}(h:p:=by
 rw[h2 x hx]at hat
 have:v=val x:=by
  unfold Ar at hat
  simp at hat
  exact hat.1
 rw[<-this];exact hrun):p:=h
end Go.Proofs
namespace Go.Proofs.YtdmmebjjojimiaaGreatDoor
open Go.RowKit
def Ar(v:Value):Option (DataW Value×List MemPlace):=some (.held v,[])
structure wS (κ:Type) (t k:TypeId) where
 enc:κ->Value
 lit:κ->Lit
 ok:κ->Prop
 law:Maps.Keyed Tryz.prog k
 und:Tryz.prog.underlying t=some (.map k 78)
 key:∀x,ok x->keyOf Tryz.prog k (enc x)=some (lit x)
 inj:∀x y,ok x->ok y->enc x=enc y->x=y
theorem Uu(w:World):(zeroValue 78).run Tryz.prog w= .ok bK w:=by kernel_rfl
section
variable {κ:Type} [DecidableEq κ] {t k:TypeId} {K:wS κ t k}
theorem wS.isKey(K:wS κ t k){x:κ}(hx:K.ok x):WideAt.IsKeyLit (K.lit x):=K.law.key (K.key x hx)
theorem wS.ne(K:wS κ t k){x y:κ}(hx:K.ok x)(hy:K.ok y)(h:y≠x):K.lit y≠K.lit x:=fun e=>h (K.inj y x hy hx (K.law.inj (K.key y hy) (by rw[e];exact K.key x hx)))
abbrev keysOf(m:List (κ×List Int)):List κ:=m.map Prod.fst
def kV(m:List (κ×List Int))(x:κ):Nat:=(keysOf m).idxOf x
structure lU (K:wS κ t k) (w:World) (g:Tag) (τ B:Nat) (m:List (κ×List Int)) (val:κ->Value):Prop where
 own:∃D:DataW Value,w.ownsMap Tryz.prog k Ar B m.length D/\(∀x,K.ok x->D.atKey (K.lit x) (.held bK)= .held (val x))/\(∀x,K.ok x->Maps.has D (K.lit x)=decide (x∈keysOf m))/\Maps.size D=m.length
 row:∀x,x∈keysOf m->Row w g (τ,kV m x+1) 3 (val x) ((bT m x).map cI)
 out:∀x,x∉keysOf m->val x=bK
 tb:g B=(τ,0)
 nd:(keysOf m).Nodup
 ok:∀x∈keysOf m,K.ok x
 rng:∀e∈m,∀z∈e.2,aO z
theorem Ju{m:List (κ×List Int)}{x:κ}(h:x∉keysOf m):bT m x=[]:=by unfold bT;rw[List.find?_eq_none.2 (fun e he=>by simp;rintro rfl;exact h (List.mem_map_of_mem he))];rfl
theorem sV(m:List (κ×List Int))(x:κ)(z:Int):keysOf (dH m x z)=if x∈keysOf m then keysOf m else keysOf m++[x]:=by
 unfold dH keysOf;split
 ·rw[List.map_map];refine List.map_congr_left fun e _=>?_;simp only[Function.comp];split;·rename_i h;exact h.symm
  rfl
 simp
theorem mem_push{m:List (κ×List Int)}{x y:κ}{z:Int}:y∈keysOf (dH m x z)↔y∈keysOf m\/y=x:=by
 rw[sV];split;·rename_i h;exact⟨.inl,fun h2=>h2.elim id (fun e=>e▸h)⟩
 simp
theorem OH(m:List (κ×List Int))(x:κ)(z:Int):(dH m x z).length=if x∈keysOf m then m.length else m.length+1:=by have h:=congrArg List.length (sV m x z);unfold keysOf at h;rw[qM]at h;rw[h];split<;>simp
theorem xO(m:List (κ×List Int))(x y:κ)(z:Int):((m.map fun e=>if e.1=x then (x,e.2++[z])else e).find? fun e=>decide (e.1=y))=((m.find? fun e=>decide (e.1=y)).map fun e=>if e.1=x then (x,e.2++[z])else e):=by
 induction m with
 |nil=>rfl
 |cons e r ih=>
  simp only[List.map_cons,List.find?_cons];have e1:(if e.1=x then (x,e.2++[z])else e).1=e.1:=by split<;>simp_all
  rw[e1];by_cases h:e.1=y;·simp[h]
  simp[h,ih]
theorem uQ{m:List (κ×List Int)}{x:κ}{z:Int}:bT (dH m x z) x=bT m x++[z]:=by
 by_cases h:x∈keysOf m
 ·unfold bT dH;rw[if_pos h,xO];obtain⟨e,he⟩:∃e,(m.find? fun e=>decide (e.1=x))=some e:=by rw[<-Option.isSome_iff_exists,List.find?_isSome];obtain⟨e,he,rfl⟩:=yD.1 h;exact⟨e,he,by simp⟩
  have h2:=List.find?_some he;rw[he];simp only[yP]at h2;simp[h2]
 rw[Ju h];unfold bT dH;rw[if_neg h,List.find?_append,List.find?_eq_none.2 (fun e he=>by simp;rintro rfl;exact h (List.mem_map_of_mem he))];simp
theorem sW{m:List (κ×List Int)}{x y:κ}{z:Int}(h:y≠x):bT (dH m x z) y=bT m y:=by
 by_cases hx:x∈keysOf m
 ·unfold bT dH;rw[if_pos hx,xO];cases he:(m.find? fun e=>decide (e.1=y))with
  |none=>rfl
  |some e=>have h2:=List.find?_some he;simp only[yP]at h2;simp[h2,h]
 unfold bT dH;rw[if_neg hx,List.find?_append];simp[Ne.symm h]
section
variable {w w':World} {g g':Tag} {τ B:Nat} {m:List (κ×List Int)} {val:κ->Value}
theorem lU.lt(h:lU K w g τ B m val):B<w.heap.size:=by obtain⟨D,h1,_⟩:=h.own;exact h1.lt
theorem uF{kk:TypeId}{R:Value->Option (DataW Value×List MemPlace)}{b n:Nat}{D:DataW Value}(h:w.ownsMap Tryz.prog kk R b n D){F:Nat->Prop}(ho:Only F w w')(hF:¬F b):w'.ownsMap Tryz.prog kk R b n D:=by have hlt:=h.lt;obtain⟨es,clock,hb,Ft,hs,hD⟩:=h;exact⟨es,clock,(ho.block b hlt hF).trans hb,Ft,hs,hD⟩
theorem lU.keep(h:lU K w g τ B m val){F:Nat->Prop}(ho:Only F w w')(hF:∀k,(g k).1=τ->¬F k)(hg:Agree w g g'):lU K w' g' τ B m val:=by obtain⟨D,h1,h2,h3,h4⟩:=h.own;exact⟨⟨D,uF h1 ho (hF B (by rw[h.tb])),h2,h3,h4⟩,fun x hx=>(h.row x hx).keep ho (fun k hk=>hF k (by rw[hk])) hg,h.out,(hg B h.lt).trans h.tb,h.nd,h.ok,h.rng⟩
theorem lU.made(K:wS κ t k)(w:World)(g:Tag){τ:Nat}(hg:g w.heap.size=(τ,0)):lU K (w.alloc (.map #[] 0)) g τ w.heap.size [] (fun _=>bK):=
 ⟨⟨.map [],World.ownsMap_made _ _ _ _,fun x _=>rfl,fun x _=>by simp[Maps.has,keysOf],rfl⟩,fun x hx=>by simp[keysOf]at hx,fun _ _=>rfl,hg,by simp[keysOf],fun x hx=>by simp[keysOf]at hx,fun e he=>by cases he⟩
theorem lU.rowAt(h:lU K w g τ B m val)(x:κ):Row w g (τ,kV m x+1) 3 (val x) ((bT m x).map cI):=by
 by_cases hx:x∈keysOf m;·exact h.row x hx
 rw[h.out x hx,Ju hx];exact Row.nil _ _ _ _
theorem lU.look(h:lU K w g τ B m val){x:κ}(hx:K.ok x):(Instr.lookup t (.map (some B)) (K.enc x) false).run Tryz.prog w= .ok (val x) w:=by obtain⟨D,h1,h2,h3,h4⟩:=h.own;obtain⟨v,ps,hrun,hat⟩:=h1.lookup K.law K.und (Uu w) (zd:=.held bK) (zp:=[]) rfl (K.key x hx);exact zDB
theorem OI{x y:κ}{z:Int}(hy:y∈keysOf m):kV (dH m x z) y=kV m y:=by
 unfold kV;rw[sV];split;·rfl
 rw[List.idxOf_append,if_pos hy]
theorem Iz{x:κ}{z:Int}:kV (dH m x z) x=kV m x:=by
 by_cases hx:x∈keysOf m;·exact OI hx
 unfold kV;rw[sV,if_neg hx,List.idxOf_append,if_neg hx,List.idxOf_eq_length hx];simp
theorem adH{x y:κ}(hy:y∈keysOf m)(h:y≠x):kV m y≠kV m x:=fun e=>by
 unfold kV at e
 have h1:(keysOf m).idxOf y<(keysOf m).length:=List.idxOf_lt_length_of_mem hy
 have h2:=List.getElem_idxOf (xs:=keysOf m) h1
 have h3:(keysOf m).idxOf x<(keysOf m).length:=by rw[<-e];exact h1
 have h4:=List.getElem_idxOf (xs:=keysOf m) h3
 refine h ?_
 rw[<-h2,<-h4]
 simp only[e]
theorem lU.push(h:lU K w g τ B m val){x:κ}(hx:K.ok x){w1:World}{g1:Tag}(hA:Agree w g g1)(ho:Only (fun k=>g k=(τ,kV m x+1)) w w1){v':Value}{z:Int}(hz:aO z)(hr:Row w1 g1 (τ,kV m x+1) 3 v' ((bT m x).map cI++[cI z]))(hl:m.length<maxLen):∃w2,(Instr.mapUpdate t (.map (some B)) (K.enc x) v').run Tryz.prog w1= .ok () w2/\lU K w2 g1 τ B (dH m x z) (fun y=>if y=x then v' else val y)/\Only (fun k=>k=B) w1 w2:=by
 obtain⟨D,h1,h2,h3,h4⟩:=h.own;have hB:¬g B=(τ,kV m x+1):=by rw[h.tb];simp
 have h1':=uF h1 ho hB;obtain⟨w2,hrun,r1,r2⟩:=h1'.store K.law K.und hl (K.key x hx) (d:=.held v') (ps:=[]) (val:=v') rfl;have hkl:=K.isKey hx;have hsz:Maps.size (D.put (K.lit x) (.held v'))=(dH m x z).length:=by
  rw[Maps.size_put (h1.tidy K.law),h3 x hx,h4,OH];by_cases hm:x∈keysOf m;·simp[hm]
  simp[hm]
 have O2:Only (fun k=>k=B) w1 w2:=(Only.refl _ w1).grown r2.grown fun k hk=>.inl (Option.some.inj hk).symm;have gB:g1 B=(τ,0):=(hA B h1.lt).trans h.tb;have hF2:∀(i:Nat) (k:Nat),g1 k=(τ,i+1)->¬k=B:=fun i k hk e=>by rw[e,gB]at hk;simp at hk
 refine⟨w2,hrun,⟨⟨_,?_,fun y hy=>?_,fun y hy=>?_,hsz⟩,fun y hy=>?_,fun y hy=>?_,gB,?_,fun y hy=>?_,?_⟩,O2⟩;·exact zB9
 ·show _=DataW.held (if y=x then v' else val y);by_cases e:y=x;·subst e;rw[if_pos rfl,Maps.atKey_put_same h1.isMap hkl]
  rw[if_neg e,Maps.atKey_put_other (K.ne hx hy e),h2 y hy]
 ·by_cases e:y=x;·subst e;rw[Maps.has_put_same h1.isMap hkl,qX (mem_push.2 (.inr rfl))]
  rw[Maps.has_put_other (K.ne hx hy e),h3 y hy];exact decide_eq_decide.2 (by rw[mem_push];simp[e])
 ·show Row w2 g1 _ _ (if y=x then v' else val y) _;by_cases e:y=x;·subst e;rw[if_pos rfl,Iz,uQ,List.map_append];exact hr.only O2 (hF2 _)
  have hy':y∈keysOf m:=(mem_push.1 hy).resolve_right e;rw[if_neg e,OI hy',sW e];exact((h.row y hy').keep ho (fun k hk hk2=>adH hy' e (by rw[hk]at hk2;simpa using hk2)) hA).only O2 (hF2 _)
 ·rw[mem_push,not_or]at hy;show(if y=x then v' else val y)=bK;rw[if_neg hy.2];exact h.out y hy.1
 ·rw[sV];exact zCh
 ·rcases mem_push.1 hy with h5|rfl;·exact h.ok y h5
  exact hx
 intro e he;unfold dH at he;split at he
 ·obtain⟨e0,h0,rfl⟩:=yD.1 he;split
  ·intro u hu;rcases qW.1 hu with hu|hu;·exact h.rng e0 h0 u hu
   simp at hu;subst hu;exact hz
  exact h.rng e0 h0
 rcases qW.1 he with he|he;·exact h.rng e he
 simp at he;subst he;intro u hu;simp at hu;subst hu;exact hz
end
end
theorem aa2:Maps.Keyed Tryz.prog 3:=Maps.int_keyed Tryz.underlying3
def KI:wS Nat 151 3 where
 enc x:=.int .i64 x
 lit x:=.int .i64 x
 ok x:=aO (x:Int)
 law:=aa2
 und:=Tryz.underlying151
 key x hx:=Maps.keyOf_int_mk Tryz.underlying3 (WalkArith.wf_i64 hx)
 inj x y _ _ h:=by simp at h;omega
theorem Au:Maps.Keyed Tryz.prog 226:=Maps.Keyed.of_law (deep_law_laid zk (m:=3) zBB (of_decide_eq_true zk) zk (by rw[Tryz.underlying226]))
abbrev wU(x:Nat×Nat):Value:=.agg #[.int .i64 x.1,.int .i64 x.2]
theorem VW(x:Nat×Nat)(h1:aO (x.1:Int))(h2:aO (x.2:Int)):∃l,keyOf Tryz.prog 226 (wU x)=some l:=by
 have a1:=WalkArith.wf_i64 h1;have a2:=WalkArith.wf_i64 h2;unfold keyOf;rw[Tryz.underlying226];have hk:(Tryz.prog.keyType 226&&(wU x).formed Tryz.prog 226)=true:=by
  have e1:Tryz.prog.keyType 226=true:=zA0;have e2:(wU x).formed Tryz.prog 226=true:=by have e3:Tryz.prog.cellsOf 226=2:=zA0;simp[Value.formed,Tryz.underlying226,e3]
  rw[e1,e2];rfl
 dsimp only;rw[if_pos hk];have hl:∃ls,Tryz.prog.keyLits (Tryz.prog.types.size+1) 226 (wU x).cells.toList=some ls:=by
  obtain⟨n,hn⟩:∃n,Tryz.prog.types.size=n+1:=⟨Tryz.prog.types.size-1,by
   have:0<Tryz.prog.types.size:=of_decide_eq_true zk
   omega⟩
  rw[hn];have e3:Tryz.prog.cellsOf 226=2:=zA0;have e4:Tryz.prog.cellsOf 3=1:=zA0;simp[Program.keyLits,Tryz.underlying226,Value.cells,e3,e4,Tryz.underlying3,a1,a2]
 obtain⟨ls,hls⟩:=hl;rw[hls];exact⟨_,rfl⟩
noncomputable def KE:wS (Nat×Nat) 150 226 where
 enc:=wU
 lit x:=(keyOf Tryz.prog 226 (wU x)).getD (.bool false)
 ok x:=aO (x.1:Int)/\aO (x.2:Int)
 law:=Au
 und:=Tryz.underlying150
 key x hx:=by obtain⟨l,hl⟩:=VW x hx.1 hx.2;rw[hl];rfl
 inj x y _ _ h:=by
  simp only[wU,Value.agg.injEq,Array.mk.injEq,List.cons.injEq,Value.int.injEq,true_and,and_true]at h
  exact Prod.ext zAB zBB
def Yu(_:Nat)(_:World)(cs:List Value)(x:At):Prop:=cs=[.int .u8 x.1,.int .i64 x.2.1,.int .i64 x.2.2.1,.int .i64 x.2.2.2]
section
variable {w w':World} {B:Nat}
theorem RD:Calls Tryz.prog 74 #[.pointer none] w fun e w'=>e= .returned bK/\w'=w:=by go_enter Tryz.func74,Tryz.ntmps74;exact zBd
theorem VX:Calls Tryz.prog 99 #[.pointer none] w fun e w'=>e= .returned bK/\w'=w:=by go_enter Tryz.func99,Tryz.ntmps99;exact zBd
theorem Jv:Calls Tryz.prog 66 #[.pointer none] w fun e w'=>e= .returned (.pointer none)/\w'=w:=by go_enter Tryz.func66,Tryz.ntmps66;exact zBd
theorem Yv(x:At):Calls Tryz.prog 67 #[.pointer none,fH x] w fun e w'=>e= .returned (.int .i64 0)/\O0 w w':=by unfold fH;go_enter Tryz.func67,Tryz.ntmps67;go_wp2_with fail;go_ret;exact⟨rfl,zr.alloc _⟩
end
theorem OJ:∀(L:List bG) (F:Nat->List Value),(∀i (hi:i<L.length),F i=L[i].cells)->(List.range L.length).flatMap F=mF L
 | [],_,_=>rfl
 |a::r,F,h=>by
  rw[qN,List.range_succ_eq_map,List.flatMap_cons,List.flatMap_map]
  have h0:=h 0 zAE
  have hr:=OJ r (fun i=>F (i+1)) fun i hi=>by
   have:=h (i+1) zAk
   simpa using this
  rw[hr,h0]
  rfl
section
variable {w w':World} {B:Nat}
theorem RF{v:Value}{L:List bG}(h:aJ 4 rO B w v L)(hn:L.length<=1000000):Calls Tryz.prog 176 #[v] w fun e w'=> ∃v',e= .returned v'/\iq w w' v' L/\O0 w w':=by
 obtain⟨ao,cap,rfl,g1,g2⟩:=h.shape;cases ao with
 |none=>obtain⟨hz,rfl⟩:=h.nil _ _ rfl;obtain rfl:L=[]:=yF hz;clear h;have eqn:=fun(W:World)=>Go.Lib.run_eql_slice_nil (P:=Tryz.prog) W 62 158 none 0 0 0 0 Tryz.underlying62;go_enter Tryz.func176,Tryz.ntmps176;go_wp2_with fail;go_ret;exact⟨_,rfl,iq.nil _ _,Only.refl _ _⟩
 |some ad=>
  obtain⟨F,hF,hl,hc⟩:=h.flat zAC;have hfl:=OJ L F fun i hi=>(hF i hi).2.1;rw[hfl]at hl hc;obtain⟨n,hnn⟩:=ze L.length;have HN:=zh hnn;rw[hnn]at hn hl g1⊢;have HL:=zh hl;have Jw:=zh (show∀u∈mF L,u.oneCell'=true from fun u hu=>by
   unfold mF at hu
   obtain⟨x,-,hx⟩:=List.mem_flatMap.1 hu
   exact x.one u hx)
  have HC:Hid (∀W,O0 w W->∀j u,(mF L)[j]? =some u->W.cell? (ad.add j)=some u):=fun W ho j u hj=>by have h1:=hc ad rfl j u hj;have hb:=World.block_lt_of_cell? _ _ h1;rw[World.cell?_of_block (w:=w) (ho.block _ hb (fun f=>f))];exact h1
  clear h hnn hF hl hc hfl;have eqn:=fun(W:World)=>Go.Lib.run_eql_slice_nil (P:=Tryz.prog) W 62 158 (some ad) n cap 0 0 Tryz.underlying62;go_enter Tryz.func176,Tryz.ntmps176;go_wp2_with (at_builtin;go_must (refine wpA KC rfl (.tmp 5) (.tmp 6) rfl (n:=0) (xs:=[]) rfl (show World.ownsRow _ 0 158 4 (.slice (some ⟨w.heap.size,0,none⟩) 0 0) 0 [] from⟨rfl,.inr ⟨w.heap.size,0,#[],rfl,qE _,qL _ _,qH _,by decide,rfl,rfl⟩⟩) (ad:=ad) (m:=n) (c:=cap) (news:=mF L) rfl HL.out (HC.out _ (zr.alloc _)) Jw.out zAH zBB ?_));intro v' w1 r1 r2 r3 r4;have hres:iq w w1 v' L/\O0 w w1:=by
   refine⟨⟨?_,fun k hk=>?_⟩,?_⟩;·rw[HN.out];simpa using r1
   ·rcases r3 k hk with h|h;·simp[Value.ownBlock]at h;omega
    omega
   exact((Only.refl (fun _=>False) w).alloc _).grown r2 fun k hk=>.inr (by simp[Value.ownBlock]at hk;omega)
  have bH:=zh hres;obtain⟨ao,cap',rfl,-,-⟩:=aH r1;clear r1 r2 r3 r4 hres;go_wp2_with fail;go_ret;exact⟨_,rfl,bH.out⟩
end
section
variable {w:World} {gt gb:Tag} {c bt bb:Nat} {G:BJ} {T:Tab} {B:jf} {Bs:Nat}
theorem Yw(H:kH w gt gb c bt bb G T B){l:List bG}(hl:aJ 4 rO Bs w G.r l)(hn:l.length<=1000000):Calls Tryz.prog 99 #[.pointer (some ⟨c,0,none⟩)] w fun e w'=> ∃v',e= .returned v'/\iq w w' v' l/\O0 w w':=by have q1:w.cell? ⟨c,4,none⟩=some G.r:=zAT;have hC:=zh (RF hl hn);obtain⟨ao,cap,e,-,-⟩:=hl.shape;rw[e]at q1 hC;clear hl;go_enter Tryz.func99,Tryz.ntmps99;go_wp2_with fail;refine hC.out.mono ?_;rintro e w1 ⟨v,rfl,r1,r2⟩;have HR:=zh (And.intro r1 r2);obtain⟨av,cv,rfl,-,-⟩:=aH r1.1;clear r1 r2;go_wp2_with fail;go_ret;exact⟨_,rfl,HR.out⟩
theorem Yx(H:kH w gt gb c bt bb G T B){l:List Int}(hl:Ints w G.l l)(n:Int):Calls Tryz.prog 230 #[.pointer (some ⟨c,0,none⟩),.int .i64 n] w fun e w'=>e= .returned (.bool (l.contains n))/\O0 w w':=by have q1:w.cell? ⟨c,3,none⟩=some G.l:=zAT;have hC:=zh (oZ hl n _ rfl);obtain⟨ao,cap,e,-,-⟩:=hl.shape;rw[e]at q1 hC;clear hl;obtain⟨b,hb⟩:=ze (l.contains n);rw[hb]at hC⊢;clear hb;go_enter Tryz.func230,Tryz.ntmps230;go_wp2_with fail;refine hC.out.mono ?_;rintro e w1 ⟨rfl,rfl⟩;go_wp2_with fail;go_ret;exact⟨rfl,Only.refl _ _⟩
theorem iH(H:kH w gt gb c bt bb G T B){a1 a2:Option Addr}{n1 n2 c1 c2:Nat}(h1:G.x1= .slice a1 n1 c1)(h2:G.x2= .slice a2 n2 c2):Calls Tryz.prog 78 #[.pointer (some ⟨c,0,none⟩)] w fun e w'=>e= .returned (.agg #[.slice a1 n1 c1,.slice a2 n2 c2])/\O0 w w':=by
 have ho:O0 w (w.alloc (.cells #[bK,bK] 25)):=zr.alloc _;have q1:(w.alloc (.cells #[bK,bK] 25)).cell? ⟨c,0,none⟩=some (.slice a1 n1 c1):=by rw[aj (ak H.blk ho (fun f=>f)),h1];rfl
 have q2:(w.alloc (.cells #[bK,bK] 25)).cell? ⟨c,1,none⟩=some (.slice a2 n2 c2):=by rw[aj (ak H.blk ho (fun f=>f)),h2];rfl
 clear ho;go_enter Tryz.func78,Tryz.ntmps78;go_wp2_with fail;(try simp only[Exit.inBlock,Exit.then]);refine bodyPost_ret (results_cell_row rfl _ _ w.heap.size 25 #[.slice a1 n1 c1,.slice a2 n2 c2] (0,0) _ rfl (qL w _) Tryz.underlying25 rfl zk) rfl ?_;exact⟨rfl,zr.alloc _⟩
theorem FZ(H:kH w gt gb c bt bb G T B){a1:Option Addr}{n1 c1:Nat}(h1:G.q= .slice a1 n1 c1):Calls Tryz.prog 79 #[.pointer (some ⟨c,0,none⟩)] w fun e w'=>e= .returned (.agg #[.slice a1 n1 c1])/\O0 w w':=by
 have ho:O0 w (w.alloc (.cells #[bK] 28)):=zr.alloc _;have q1:(w.alloc (.cells #[bK] 28)).cell? ⟨c,2,none⟩=some (.slice a1 n1 c1):=by rw[aj (ak H.blk ho (fun f=>f)),h1];rfl
 clear ho;go_enter Tryz.func79,Tryz.ntmps79;go_wp2_with fail;(try simp only[Exit.inBlock,Exit.then]);refine bodyPost_ret (results_cell_row rfl _ _ w.heap.size 28 #[.slice a1 n1 c1] (0,0) _ rfl (qL w _) Tryz.underlying28 rfl zk) rfl ?_;exact⟨rfl,zr.alloc _⟩
end
end Go.Proofs.YtdmmebjjojimiaaGreatDoor
namespace Go.Proofs
theorem zAj{p:Prop}(h:p:=by unfold Mine;omega):p:=h
theorem zCE{p:Prop}(h:p:=by
 obtain⟨V,hV⟩:=H.gx.gr.tab
 obtain⟨U,hU⟩:=H.gx.gr.G8
 rcases yK k w.heap.size with hlt|hge
 ·exact hlt
 ·rcases hk with hk|hk
  ·exact absurd (hV.fresh k hge) hk
  ·exact absurd (hU.fresh k hge) hk):p:=h
theorem zCd{p:Prop}(h:p:=by
 obtain⟨Vj,Vk,gp2,H2,A2,Qo,adI,O2⟩:=h2
 exact⟨Vj,Vk,gp2,H2,ht.trans A2 ho.size,hb.trans Qo ho.size,hp.trans adI ho.size,ho.sZ ht hb hp O2⟩):p:=h
theorem zCv{p:Prop}(h:p:=by
 obtain⟨gt',gb',jC,H2,A1,A2,A3,O⟩:=h
 exact⟨gt',gb',jC,H2.aF o,A1,A2,A3,O.same (o.mono fun _ f=>f.elim)⟩):p:=h
theorem zDK{p:Prop}(h:p:=by
 rcases yK k w.heap.size with hlt|hge
 ·exact H.low k ((hM k hlt).1 hk)
 ·exact qR H.gx.le hge):p:=h
end Go.Proofs
namespace Go.Proofs.YtdmmebjjojimiaaGreatDoor
open Go.RowKit
structure rU where
 x:aC
 q:dG
 l:List Nat
 rs:List bG
 names:List Str
def uS(B:Nat)(w:World):Prop:= ∀w',Kp B w w'->Laid w'
theorem uS.now{B:Nat}{w:World}(h:uS B w):Laid w:=h w zr
theorem uS.keep{B:Nat}{w w1:World}(h:uS B w)(k:Kp B w w1):uS B w1:=fun w' k'=>h w' (k.same k')
theorem uS.of{B:Nat}{w:World}(h:Laid w)(hB:w.heap.size<=B):uS B w:=fun w' k=>h.only (k.trans' fun i hi=>qR hB hi)
theorem uS.more{B B':Nat}{w:World}(h:uS B w)(hB:B<=B'):uS B' w:=fun w' k=>h w' (k.mono fun i hi=>qR hB hi)
def dS(T:Tab):Prop:= ∀j,j<T.helps->hA j∈T.l
theorem dS.num{T:Tab}(h:dS T)(x:At):dS (T.num x).1:=by
 unfold Tab.num;split;·exact h
 split;·exact h
 exact fun j hj=>List.mem_append_left _ (h j hj)
structure sD (w:World) (gt gb:Tag) (c bt bb:Nat) (G:BJ) (Bs:Nat) (D:rU) (S:TB):Prop where
 gr:kH w gt gb c bt bb G S.1 S.2
 yZ:gG Bs w [G.x1,G.x2] D.x
 VA:lI Bs w [G.q] D.q
 l:Ints w G.l (intsOf D.l)
 lb:∀k,Value.blk G.l=some k->k<Bs
 rl:aJ 4 rO Bs w G.r D.rs
 low:∀k,Mine gt k\/Mine gb k->Bs<=k
 le:Bs<=w.heap.size
 laid:uS Bs w
 hinv:dS S.1
section
variable {w w':World} {gt gb gp:Tag} {c bt bb:Nat} {G:BJ} {Bs:Nat} {D:rU} {S:TB}
theorem Kp.rV{F:Nat->Prop}(ho:Only F w w')(h:∀k,F k->Bs<=k):Kp Bs w w':=ho.mono h
theorem sD.keep(H:sD w gt gb c bt bb G Bs D S){F:Nat->Prop}(ho:Only F w w')(hF:∀k,F k->Bs<=k)(h1:∀k,Mine gt k\/Mine gb k->¬F k)(h2:¬F c):sD w' gt gb c bt bb G Bs D S:=
 ⟨H.gr.only ho h1 h2,gG.keep H.yZ (Kp.rV ho hF),lI.keep H.VA (Kp.rV ho hF),H.l.only' ho (fun _ k hk hf=>by have:=H.lb k hk;have:=hF k hf;omega),H.lb,H.rl.keep rO.keep (Kp.rV ho hF),H.low,qR H.le ho.size,H.laid.keep (Kp.rV ho hF),H.hinv⟩
theorem sD.aF(H:sD w gt gb c bt bb G Bs D S)(ho:O0 w w'):sD w' gt gb c bt bb G Bs D S:=H.keep ho (fun _ f=>f.elim) (fun _ _ f=>f) (fun f=>f)
def aN(w:World)(gt gb:Tag)(c bt bb:Nat)(G:BJ)(Bs:Nat)(D:rU)(S:TB)(w':World):Prop:=
 ∃gt' gb',sD w' gt' gb' c bt bb G Bs D S/\Agree w gt gt'/\Agree w gb gb'/\Only (fun k=>Mine gt k\/Mine gb k) w w'
theorem sD.step(H:sD w gt gb c bt bb G Bs D S){S2:TB}(h:fV w gt gb c bt bb G S2.1 S2.2 w')(hi:dS S2.1):aN w gt gb c bt bb G Bs D S2 w':=by
 obtain⟨gt',gb',H2,A1,A2,O⟩:=h;refine⟨gt',gb',⟨H2,gG.keep H.yZ (Kp.rV O H.low),lI.keep H.VA (Kp.rV O H.low),H.l.only' O (fun _ k hk hf=>by have:=H.lb k hk;have:=H.low k hf;omega),H.lb,H.rl.keep rO.keep (Kp.rV O H.low),fun k hk=>?_,qR H.le O.size,H.laid.keep (Kp.rV O H.low),hi⟩,A1,A2,O⟩;rcases yK k w.heap.size with hlt|hge;·refine H.low k ?_;unfold Mine at hk⊢;rwa[A1 k hlt,A2 k hlt]at hk
 exact qR H.le hge
theorem aN.gr(h:aN w gt gb c bt bb G Bs D S w'):fV w gt gb c bt bb G S.1 S.2 w':=by obtain⟨gt',gb',H2,A1,A2,O⟩:=h;exact⟨gt',gb',H2.gr,A1,A2,O⟩
theorem aN.refl(H:sD w gt gb c bt bb G Bs D S):aN w gt gb c bt bb G Bs D S w:=⟨gt,gb,H,Agree.refl _ _,Agree.refl _ _,Only.refl _ _⟩
theorem aN.trans{w1 w2:World}{iT iU:Tag}(ht:Agree w gt iT)(hb:Agree w gb iU)(ho:Only (fun k=>Mine gt k\/Mine gb k) w w1){S2:TB}(h2:aN w1 iT iU c bt bb G Bs D S2 w2):aN w gt gb c bt bb G Bs D S2 w2:=by exact zC4
theorem aN.after{w1 w2:World}(o1:O0 w w1){S2:TB}(h:aN w1 gt gb c bt bb G Bs D S2 w2):aN w gt gb c bt bb G Bs D S2 w2:=aN.trans (Agree.refl _ _) (Agree.refl _ _) (o1.mono fun _ f=>f.elim) h
theorem aN.F5{w1 w2:World}(h:aN w gt gb c bt bb G Bs D S w1)(o:O0 w1 w2):aN w gt gb c bt bb G Bs D S w2:=by obtain⟨gt',gb',H2,A1,A2,O⟩:=h;exact⟨gt',gb',H2.aF o,A1,A2,O.same (o.mono fun _ f=>f.elim)⟩
theorem aN.cell(h:aN w gt gb c bt bb G Bs D S w'){b i:Nat}{u:Value}(hc:w.cell? ⟨b,i,none⟩=some u)(h1:¬Mine gt b)(h2:¬Mine gb b):w'.cell? ⟨b,i,none⟩=some u:=by obtain⟨gt',gb',H2,A1,A2,O⟩:=h;exact aK hc O (fun hh=>hh.elim h1 h2)
end
section
variable {w2 wr:World} {iT iU:Tag} {c bt bb:Nat} {G:BJ} {Bs:Nat} {D:rU} {S:TB}
def gZ(w2:World)(iT iU:Tag)(c bt bb:Nat)(G:BJ)(Bs:Nat)(D:rU)(S:TB)(wr:World)(v:Value)(xs:List Int):Prop:=
 ∃gt' gb',sD wr gt' gb' c bt bb G Bs D S/\Agree w2 iT gt'/\Agree w2 iU gb'/\Only (fun k=>Mine iT k\/Mine iU k) w2 wr/\wr.ownsRow 0 3 1 v xs.length (xs.map cI)/\Beside wr gt' gb' c v/\(∀k,v.ownBlock=some k->w2.heap.size<=k)/\Bs<=w2.heap.size
theorem gZ.start(hB:Bs<=w2.heap.size)(h:aN w2 iT iU c bt bb G Bs D S wr):gZ w2 iT iU c bt bb G Bs D S wr bK []:=by obtain⟨a,b,H,A,A',O⟩:=h;exact⟨a,b,H,A,A',O,World.ownsRow_nil _ _ _ _,(fun k hk=>by cases hk),(fun k hk=>by cases hk),hB⟩
theorem gZ.gr{v:Value}{xs:List Int}(h:gZ w2 iT iU c bt bb G Bs D S wr v xs):aN w2 iT iU c bt bb G Bs D S wr:=by obtain⟨a,b,H,A,A',O,-,-,-,-⟩:=h;exact⟨a,b,H,A,A',O⟩
theorem gZ.own{v:Value}{xs:List Int}(h:gZ w2 iT iU c bt bb G Bs D S wr v xs):wr.ownsRow 0 3 1 v xs.length (xs.map cI):=by obtain⟨_,_,_,_,_,_,R,_⟩:=h;exact R
theorem gZ.only{v:Value}{xs:List Int}(h:gZ w2 iT iU c bt bb G Bs D S wr v xs):Only (fun k=>Mine iT k\/Mine iU k) w2 wr:=by obtain⟨_,_,_,_,_,O,_⟩:=h;exact O
theorem gZ.aF{v:Value}{xs:List Int}(h:gZ w2 iT iU c bt bb G Bs D S wr v xs){w3:World}(o:O0 wr w3):gZ w2 iT iU c bt bb G Bs D S w3 v xs:=by obtain⟨a,b,H,A,A',O,R,S',N,hB⟩:=h;exact⟨a,b,H.aF o,A,A',O.same (o.mono fun _ f=>f.elim),aB R o (fun _ _ f=>f),S'.more o.size (Agree.refl _ _) (Agree.refl _ _),N,hB⟩
theorem gZ.lit(hB:Bs<=w2.heap.size)(h:aN w2 iT iU c bt bb G Bs D S wr)(z:Int):gZ w2 iT iU c bt bb G Bs D S (wr.alloc (.cells #[.int .i64 z] 3)) (.slice (some ⟨wr.heap.size,0,none⟩) 1 1) [z]:=by
 obtain⟨a,b,H,A,A',O⟩:=h;have o:=(Only.refl (fun _=>False) wr).alloc (.cells #[.int .i64 z] 3);refine⟨a,b,H.aF o,A,A',O.same (o.mono fun _ f=>f.elim),nT zBY,Beside.new H.gr o.size (fun k hk=>?_),fun k hk=>?_,hB⟩;·simp[Value.blk]at hk;subst hk;exact⟨qH _,by simp⟩
 simp[Value.ownBlock]at hk;subst hk;exact O.size
theorem gZ.step{v:Value}{xs:List Int}{gt' gb':Tag}(A:Agree w2 iT gt')(A':Agree w2 iU gb')(O:Only (fun k=>Mine iT k\/Mine iU k) w2 wr)(R:wr.ownsRow 0 3 1 v xs.length (xs.map cI))(S':Beside wr gt' gb' c v)(N:∀k,v.ownBlock=some k->w2.heap.size<=k)(hB:Bs<=w2.heap.size){S2:TB}{w':World}(h2:aN wr gt' gb' c bt bb G Bs D S2 w'):gZ w2 iT iU c bt bb G Bs D S2 w' v xs:=by
 obtain⟨a2,b2,H2,A2,Qo,O2⟩:=h2;refine⟨a2,b2,H2,A.trans A2 O.size,A'.trans Qo O.size,O.Ag A A' O2,aB R O2 fun k hk hm=>?_,S'.more O2.size A2 Qo,N,hB⟩;have hk':Value.blk v=some k:=by exact zB5
 rcases hm with hm|hm;·exact(S' k hk').2.1 hm
 exact(S' k hk').2.2.1 hm
theorem gZ.call{v:Value}{xs:List Int}(h:gZ w2 iT iU c bt bb G Bs D S wr v xs){S2:TB}{f:FuncId}{args:Array Value}{u:Value}(hc:∀gt' gb',sD wr gt' gb' c bt bb G Bs D S->Calls Tryz.prog f args wr fun e w'=>e= .returned u/\aN wr gt' gb' c bt bb G Bs D S2 w'):Calls Tryz.prog f args wr fun e w'=>e= .returned u/\gZ w2 iT iU c bt bb G Bs D S2 w' v xs:=by obtain⟨a,b,H,A,A',O,R,S',N,hB⟩:=h;exact(hc a b H).mono fun e w' ⟨he,h2⟩=>⟨he,gZ.step A A' O R S' N hB h2⟩
theorem gZ.app{v v':Value}{xs:List Int}(h:gZ w2 iT iU c bt bb G Bs D S wr v xs){w3 w4:World}(o3:O0 wr w3){z:Int}(r:w4.ownsRow 0 3 1 v' (xs.length+1) (xs.map cI++[cI z]))(o:Only (fun k=>v.ownBlock=some k) w3 w4)(a:vg w3 v v' (xs.length+1)):gZ w2 iT iU c bt bb G Bs D S w4 v' (xs++[z]):=by
 obtain⟨gt',gb',H,A,A',O,R,S',N,hB⟩:=h;have hbl:∀k,v.ownBlock=some k->Value.blk v=some k:=fun k hk=>by exact zB5
 have o4:Only (fun k=>v.ownBlock=some k) wr w4:=(o3.mono fun _ f=>f.elim).same o;have hlow:∀k,v.ownBlock=some k->Bs<=k:=fun k hk=>qR hB (N k hk);have H4:=H.keep o4 hlow (fun k hk hv=>by
  obtain⟨-,s1,s2,-⟩:=S' k (hbl k hv)
  rcases hk with hk|hk
  ·exact s1 hk
  ·exact s2 hk) (fun hv=>(S' c (hbl c hv)).2.2.2 rfl)
 refine⟨gt',gb',H4,A,A',O.trans o4 fun k hk=>.inr (N k hk),by simpa using r,fun k hk=>?_,fun k hk=>?_,hB⟩
 ·obtain⟨g,cap,rfl,-,-,hg⟩:=a;simp[Value.blk]at hk;subst hk;rcases hg with hg|hg;·obtain⟨s0,s1,s2,s3⟩:=S' g (hbl g hg);exact⟨by have:=o4.size;omega,s1,s2,s3⟩
  have hlt:g<w4.heap.size:=dn r rfl;have:=o3.size;obtain⟨V,hV⟩:=H.gr.tab;obtain⟨U,hU⟩:=H.gr.G8;have hc:=bf H.gr.blk;exact zD6
 exact zCe
theorem gZ.ints{v:Value}{xs:List Int}(h:gZ w2 iT iU c bt bb G Bs D S wr v xs)(hx:∀z∈xs,0<=z/\z<=65536):∃gt' gb',sD wr gt' gb' c bt bb G Bs D S/\Agree w2 iT gt'/\Agree w2 iU gb'/\Only (fun k=>Mine iT k\/Mine iU k) w2 wr/\Ints wr v xs/\wQ gt' gb' v xs:=by obtain⟨a,b,H,A,A',O,R,S',-,-⟩:=h;exact⟨a,b,H,A,A',O,Ints.dF R fun z hz=>⟨by have:=hx z hz;omega,by have:=hx z hz;omega⟩,fun _ k hk=>⟨(S' k hk).2.1,(S' k hk).2.2.1⟩⟩
end
structure pF (w:World) (g:Tag) (τ:Nat) (sv:Value) (us:List Value) (ns:List (List Int)):Prop where
 len:us.length=ns.length
 row:Row w g (τ,0) 78 sv us
 rows:∀i,i<ns.length->Row w g (τ,i+1) 3 (us.getD i bK) ((ns.getD i []).map cI)
 rng:∀l∈ns,∀z∈l,aO z
theorem pF.keep{w w':World}{g g':Tag}{τ:Nat}{sv:Value}{us:List Value}{ns:List (List Int)}(h:pF w g τ sv us ns){F:Nat->Prop}(ho:Only F w w')(hF:∀k,(g k).1=τ->¬F k)(hg:Agree w g g'):pF w' g' τ sv us ns:=
 ⟨h.len,h.row.keep ho (fun k hk=>hF k (by rw[hk])) hg,fun i hi=>(h.rows i hi).keep ho (fun k hk=>hF k (by rw[hk])) hg,h.rng⟩
theorem pF.push{w w1:World}{g g1:Tag}{τ b m cap:Nat}{us:List Value}{ns:List (List Int)}(h:pF w g τ (.slice (some ⟨b,0,none⟩) m cap) us ns){n:Nat}(hn:n<ns.length)(hA:Agree w g g1)(ho:Only (fun k=>g k=(τ,n+1)) w w1){v':Value}{z:Int}(hz:aO z)(hr:Row w1 g1 (τ,n+1) 3 v' ((ns.getD n []).map cI++[cI z])):pF (w1.setCell ⟨b,n,none⟩ v') g1 τ (.slice (some ⟨b,0,none⟩) m cap) (us.set n v') (jK ns n z)/\Only (fun k=>(g1 k).1=τ) w1 (w1.setCell ⟨b,n,none⟩ v'):=by
 have hrow1:=h.row.keep ho (fun k hk hk2=>by rw[hk]at hk2;simp at hk2) hA;have hgb:g1 b=(τ,0):=hrow1.tg b rfl;have O:Only (fun k=>k=b) w1 (w1.setCell ⟨b,n,none⟩ v'):=Only.setCell (Only.refl (fun k=>k=b) w1) (p:=⟨b,n,none⟩) (.inl rfl) v';have hne:∀i k,g1 k=(τ,i+1)->¬k=b:=fun i k hk e=>by rw[e,hgb]at hk;simp at hk
 refine⟨⟨by unfold jK;simp[h.len],hrow1.store n v',fun i hi=>?_,fun l hl u hu=>?_⟩,O.mono fun k hk=>by rw[hk,hgb]⟩
 ·have hi':i<ns.length:=by unfold jK at hi;simpa using hi
  by_cases e:i=n
  ·subst e;have e1:(us.set i v').getD i bK=v':=by rw[qC,List.getElem?_set_self (by rw[h.len];exact hi')];rfl
   have e2:(jK ns i z).getD i []=ns.getD i []++[z]:=by unfold jK;rw[qC,List.getElem?_set_self hi'];rfl
   rw[e1,e2,List.map_append];exact hr.only O (hne i)
  have e1:(us.set n v').getD i bK=us.getD i bK:=by rw[qC,List.getElem?_set_ne (Ne.symm e),<-qC]
  have e2:(jK ns n z).getD i []=ns.getD i []:=by unfold jK;rw[qC,List.getElem?_set_ne (Ne.symm e),<-qC]
  rw[e1,e2];exact((h.rows i hi').keep ho (fun k hk hk2=>e (by rw[hk]at hk2;simpa using hk2)) hA).only O (hne i)
 unfold jK at hl;rcases List.mem_or_eq_of_mem_set hl with hl|rfl;·exact h.rng l hl u hu
 rcases qW.1 hu with hu|hu
 ·have:ns.getD n []∈ns:=by rw[qC,qA hn];exact qZ hn
  exact h.rng _ this u hu
 simp at hu;subst hu;exact hz
structure G9 where
 c:Nat
 bt:Nat
 bb:Nat
 px:Nat
 m1:Nat
 m2:Nat
 G:BJ
 nv:Value
 sv:Value
abbrev aX(gt gb gp:Tag):Nat->Prop:=fun k=>(Mine gt k\/Mine gb k)\/Mine gp k
structure gI (w:World) (gt gb gp:Tag) (X:G9) (Bs:Nat) (D:rU) (E:ES):Prop where
 gx:sD w gt gb X.c X.bt X.bb X.G Bs D E.1
 of:∃val,lU KE w gp 1 X.m1 E.2.of val
 needs:∃us,pF w gp 2 X.sv us E.2.needs
 D5:E.2.needs.length=D.names.length
 roots:∃val,lU KI w gp 3 X.m2 E.2.roots val
 blk:w.heap[X.px]? =some (.cells #[.pointer (some ⟨X.c,0,none⟩),X.nv,.map (some X.m1),X.sv,.map (some X.m2)] 153 (0,0))
 tp:¬aX gt gb gp X.px
 tc:(gp X.c).1=0
 names:w.ownsRow 0 9 1 X.nv D.names.length (dZ D.names)
 nb:∀k,X.nv.ownBlock=some k->¬aX gt gb gp k
 Yy:∀s∈D.names,okS s
 low:∀k,Mine gp k->Bs<=k
 Eh:∀k,Mine gt k\/Mine gb k->¬Mine gp k
 fresh:mg w gp
def aQ(w:World)(gt gb gp:Tag)(X:G9)(Bs:Nat)(D:rU)(E:ES)(w':World):Prop:=
 ∃gt' gb' jC,gI w' gt' gb' jC X Bs D E/\Agree w gt gt'/\Agree w gb gb'/\Agree w gp jC/\Only (aX gt gb gp) w w'
section
variable {w w':World} {gt gb gp:Tag} {X:G9} {Bs:Nat} {D:rU} {E:ES}
theorem aX.agree{gt' gb' jC:Tag}(h1:Agree w gt gt')(h2:Agree w gb gb')(h3:Agree w gp jC){k:Nat}(hk:k<w.heap.size):aX gt' gb' jC k↔aX gt gb gp k:=by unfold aX Mine;rw[h1 k hk,h2 k hk,h3 k hk]
theorem gI.aF(H:gI w gt gb gp X Bs D E)(ho:O0 w w'):gI w' gt gb gp X Bs D E:=by obtain⟨v1,h1⟩:=H.of;obtain⟨us,h2⟩:=H.needs;obtain⟨v3,h3⟩:=H.roots;exact⟨H.gx.aF ho,⟨v1,h1.keep ho (fun _ _ f=>f) (Agree.refl _ _)⟩,⟨us,h2.keep ho (fun _ _ f=>f) (Agree.refl _ _)⟩,H.D5,⟨v3,h3.keep ho (fun _ _ f=>f) (Agree.refl _ _)⟩,ak H.blk ho (fun f=>f),H.tp,H.tc,aB H.names ho (fun _ _ f=>f),H.nb,H.Yy,H.low,H.Eh,H.fresh.more ho.size⟩
theorem aQ.refl(H:gI w gt gb gp X Bs D E):aQ w gt gb gp X Bs D E w:=⟨gt,gb,gp,H,Agree.refl _ _,Agree.refl _ _,Agree.refl _ _,Only.refl _ _⟩
theorem Only.sZ{w1 w2:World}{iT iU MK:Tag}(h:Only (aX gt gb gp) w w1)(ht:Agree w gt iT)(hb:Agree w gb iU)(hp:Agree w gp MK)(h1:Only (aX iT iU MK) w1 w2):Only (aX gt gb gp) w w2:=by
 refine h.trans h1 (fun k hk=>?_);rcases yK k w.heap.size with hlt|hge;·exact .inl ((aX.agree ht hb hp hlt).1 hk)
 exact .inr hge
theorem aQ.trans{w1 w2:World}{iT iU MK:Tag}(ht:Agree w gt iT)(hb:Agree w gb iU)(hp:Agree w gp MK)(ho:Only (aX gt gb gp) w w1){E2:ES}(h2:aQ w1 iT iU MK X Bs D E2 w2):aQ w gt gb gp X Bs D E2 w2:=by exact zCd
theorem aQ.after{w1 w2:World}(o1:O0 w w1){E2:ES}(h:aQ w1 gt gb gp X Bs D E2 w2):aQ w gt gb gp X Bs D E2 w2:=aQ.trans (Agree.refl _ _) (Agree.refl _ _) (Agree.refl _ _) (o1.mono fun _ f=>f.elim) h
theorem aQ.F5{w1 w2:World}(h:aQ w gt gb gp X Bs D E w1)(o:O0 w1 w2):aQ w gt gb gp X Bs D E w2:=by exact zCv
theorem gI.step(H:gI w gt gb gp X Bs D E){S2:TB}(h:aN w gt gb X.c X.bt X.bb X.G Bs D S2 w'):aQ w gt gb gp X Bs D (S2,E.2) w':=by
 obtain⟨gt',gb',H2,A1,A2,O⟩:=h;obtain⟨v1,h1⟩:=H.of;obtain⟨us,h2⟩:=H.needs;obtain⟨v3,h3⟩:=H.roots;have hF:∀{τ:Nat},0<τ->∀k,(gp k).1=τ->¬(Mine gt k\/Mine gb k):=fun{τ} ht k hk hm=>H.Eh k hm zAj;have hpx:=bf H.blk;refine⟨gt',gb',gp,⟨H2,⟨v1,h1.keep O (hF zBL) (Agree.refl _ _)⟩,⟨us,h2.keep O (hF zAB) (Agree.refl _ _)⟩,H.D5,⟨v3,h3.keep O (hF zBB) (Agree.refl _ _)⟩,ak H.blk O (fun hm=>H.tp (.inl hm)),?_,H.tc,aB H.names O (fun k hk hm=>H.nb k hk (.inl hm)),?_,H.Yy,H.low,?_,H.fresh.more O.size⟩,A1,A2,Agree.refl _ _,O.mono fun k hk=>.inl hk⟩;·rw[aX.agree A1 A2 (Agree.refl w gp) hpx];exact H.tp
 ·intro k hk;rw[aX.agree A1 A2 (Agree.refl w gp) (dn H.names hk)];exact H.nb k hk
 intro k hk;rcases yK k w.heap.size with hlt|hge;·refine H.Eh k ?_;unfold Mine at hk⊢;rwa[A1 k hlt,A2 k hlt]at hk
 unfold Mine;rw[H.fresh k hge];simp
theorem gI.Yz(H:gI w gt gb gp X Bs D E){jC:Tag}(A:Agree w gp jC)(O:Only (Mine gp) w w')(hf:mg w' jC){P:dR}(h1:∃val,lU KE w' jC 1 X.m1 P.of val)(h2:∃us,pF w' jC 2 X.sv us P.needs)(hn:P.needs.length=E.2.needs.length)(h3:∃val,lU KI w' jC 3 X.m2 P.roots val)(hnew:∀k,w.heap.size<=k->Mine jC k->k<w'.heap.size):aQ w gt gb gp X Bs D (E.1,P) w':=by
 have hpx:=bf H.blk;have hc:=bf H.gx.gr.blk;have hd:∀k,Mine gt k\/Mine gb k->k<w.heap.size:=fun k hk=>by exact zCE
 have hM:∀k,k<w.heap.size->(Mine jC k↔Mine gp k):=fun k hk=>by unfold Mine;rw[A k hk]
 refine⟨gt,gb,jC,⟨H.gx.keep O (fun k hk=>H.low k hk) (fun k hk hm=>H.Eh k hk hm) (by unfold Mine;rw[H.tc];simp),h1,h2,hn.trans H.D5,h3,ak H.blk O (fun hm=>H.tp (.inr hm)),?_,by rw[A X.c hc];exact H.tc,aB H.names O (fun k hk hm=>H.nb k hk (.inr hm)),?_,H.Yy,fun k hk=>?_,fun k hk hm=>H.Eh k hk ((hM k (hd k hk)).1 hm),hf⟩,Agree.refl _ _,Agree.refl _ _,A,O.mono fun k hk=>.inr hk⟩;·rw[aX.agree (Agree.refl w gt) (Agree.refl w gb) A hpx];exact H.tp
 ·intro k hk;rw[aX.agree (Agree.refl w gt) (Agree.refl w gb) A (dn H.names hk)];exact H.nb k hk
 exact zDK
theorem aQ.cell(h:aQ w gt gb gp X Bs D E w'){b i:Nat}{u:Value}(hc:w.cell? ⟨b,i,none⟩=some u)(h1:¬aX gt gb gp b):w'.cell? ⟨b,i,none⟩=some u:=by obtain⟨gt',gb',jC,H2,A1,A2,A3,O⟩:=h;exact aK hc O h1
theorem gI.cells(H:gI w gt gb gp X Bs D E):w.cell? ⟨X.px,0,none⟩=some (.pointer (some ⟨X.c,0,none⟩))/\w.cell? ⟨X.px,1,none⟩=some X.nv/\w.cell? ⟨X.px,2,none⟩=some (.map (some X.m1))/\w.cell? ⟨X.px,3,none⟩=some X.sv/\w.cell? ⟨X.px,4,none⟩=some (.map (some X.m2)):=
 ⟨by rw[aj H.blk];rfl,by rw[aj H.blk];rfl,by rw[aj H.blk];rfl,by rw[aj H.blk];rfl,by rw[aj H.blk];rfl⟩
end
end Go.Proofs.YtdmmebjjojimiaaGreatDoor
