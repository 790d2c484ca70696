/- slices.Index, slices.Contains at []string, off the shelf.; RowZ RowO, in one text. -/
import Derived.Test.YtdmmebjjojimiaaGreatDoorG02
import Derived.Shelf.Slices.Turned
set_option maxRecDepth 100000
set_option maxHeartbeats 8000000
set_option linter.all false
namespace Go.Proofs.YtdmmebjjojimiaaGreatDoor
def Tryz.SX:Go.Shelf.Ren:=⟨fun |110=>191|109=>272|n=>n,fun |0=>0|3=>3|4=>4|9=>9|31=>81|n=>n,fun |n=>n⟩
theorem Tryz.Yt:Go.Proofs.Lays.n110 Tryz.prog Tryz.SX:={
 mixed:=by kernel_rfl
 f110:=Tryz.func191.trans (congrArg some zk)
 f109:=Tryz.func272.trans (congrArg some zk)
 t0:=Tryz.underlying0
 a0:=Tryz.isAgg0
 z0:=Tryz.sizeOf0
 v0:=Tryz.zeroValue0
 t3:=Tryz.underlying3
 a3:=Tryz.isAgg3
 z3:=Tryz.sizeOf3
 v3:=Tryz.zeroValue3
 t4:=Tryz.underlying4
 a4:=Tryz.isAgg4
 z4:=Tryz.sizeOf4
 v4:=Tryz.zeroValue4
 t9:=Tryz.underlying9
 a9:=Tryz.isAgg9
 z9:=Tryz.sizeOf9
 v9:=Tryz.zeroValue9
 t31:=Tryz.underlying81
 a31:=Tryz.isAgg81
 z31:=Tryz.sizeOf81
 v31:=Tryz.zeroValue81}
theorem Tryz.slices_Contains_string(b off n c:Nat)(zs:List ByteArray)(x:ByteArray)(w:World)(hz:n<=zs.length)(hbig:n<=9223372036854775807)(hc:∀j,j<zs.length->w.cell? ⟨b,off+j,none⟩=some (.string (zs.getD j ByteArray.empty))):Calls Tryz.prog 191 #[.slice (some ⟨b,off,none⟩) n c,.string x] w fun e w'=>e= .returned (.bool (Lib.containsS (zs.take n) x))/\w'=w:=Any.slices_Contains_string Tryz.Yt b off n c zs x w hz hbig hc
theorem Tryz.slices_Contains_string_empty(a:Option Addr)(c:Nat)(x:ByteArray)(w:World):Calls Tryz.prog 191 #[.slice a 0 c,.string x] w fun e w'=>e= .returned (.bool false)/\w'=w:=Any.slices_Contains_string_empty Tryz.Yt a c x w
end Go.Proofs.YtdmmebjjojimiaaGreatDoor
namespace Go.Proofs
theorem zAU{p:Prop}(h:p:=by simp;omega):p:=h
theorem zB0{p:Prop}(h:p:=by unfold maxLen;omega):p:=h
end Go.Proofs
namespace Go.Proofs.YtdmmebjjojimiaaGreatDoor
open Go.RowKit
structure pK (w:World) (g:Tag) (t:Nat×Nat) (e:TypeId) (size:Nat) (v:Value) (n:Nat) (xs:List Value):Prop where
 own:w.ownsRow 0 e size v n xs
 tg:∀k,v.ownBlock=some k->g k=t
section
variable {w w':World} {g g':Tag} {t:Nat×Nat} {e:TypeId} {size n:Nat} {v:Value} {xs:List Value}
theorem pK.keep(h:pK w g t e size v n xs){F:Nat->Prop}(ho:Only F w w')(hF:∀k,g k=t->¬F k)(hg:Agree w g g'):pK w' g' t e size v n xs:=⟨aG h.own ho fun k hk=>hF k (h.tg k hk),fun k hk=>(hg k (dP h.own hk)).trans (h.tg k hk)⟩
theorem pK.only(h:pK w g t e size v n xs){F:Nat->Prop}(ho:Only F w w')(hF:∀k,g k=t->¬F k):pK w' g t e size v n xs:=h.keep ho hF (Agree.refl _ _)
theorem pK.alloc(h:pK w g t e size v n xs)(o:Obj):pK (w.alloc o) g t e size v n xs:=h.only ((Only.refl (fun _=>False) _).alloc o) (fun _ _ f=>f)
theorem pK.drew(h:pK w g t e size v n xs):pK w.drew g t e size v n xs:=h.only ((Only.refl (fun _=>False) _).drew) (fun _ _ f=>f)
theorem pK.drewN(h:pK w g t e size v n xs)(m:Nat):pK (w.drewN m) g t e size v n xs:=h.only ((Only.refl (fun _=>False) _).drewN m) (fun _ _ f=>f)
theorem pK.far(h:pK w g t e size v n xs){p:Addr}(hp:g p.block≠t)(u:Value):pK (w.setCell p u) g t e size v n xs:=
 h.only (F:=fun k=>k=p.block) (Only.setCell (Only.refl (fun k=>k=p.block) w) (p:=p) (.inl rfl) u) (fun k hk hF=>hp (by rw[<-hF];exact hk))
theorem pK.step{P:Program}{us:List Value}{ops:Array Oper}{o:Oper}{a:Act}{K:Act->World->Prop}{Q:Exit->Act->World->Prop}{E:Prop}{tt:TypeId}{bytes:Nat}(T:Az P tt e size bytes)
  (hgd:o.guard=none) (s x:Operand)
  (ho:o.op= .call {callee:=.builtin .append,args:= #[s,x],argTypes:= #[tt,tt]})
  {gb:Nat} (hs:a.eval s=v) (hx:a.eval x= .slice (some ⟨gb,0,none⟩) 1 1) (hul:us.length=size) (hc:∀j,j<us.length->w.cell? ⟨gb,j,none⟩=us[j]?) (hu:∀u∈us,u.oneCell'=true) (h:pK w g t e size v n xs)
  (h63:n+1<=1099511627776) (hbytes:bytes<=64)
  (hK:∀bb cap w',pK w' (Tag.put g w.heap.size w'.heap.size t) t e size (.slice (some ⟨bb,0,none⟩) (n+1) cap) (n+1) (xs++us)->Only (fun k=>g k=t) w w'->K (a.put o.dst (.slice (some ⟨bb,0,none⟩) (n+1) cap)) w'):
  if Region.wanted o (yielded ops a.tmps)=true then Oper.wp P o a w K Q else E:=by
 rw[if_pos zBA]
 obtain⟨v',w',hr,r1,r2,r3,r4⟩:=mV (P:=P) (ty:=o.type) w T v n xs h.own ⟨gb,0,none⟩ 1 1 us zAB (by
  intro j x hj
  have hj':=(qJ.1 hj).1
  have:=hc j hj'
  rw[Go.WideShapes.add_plain,Nat.zero_add,this];exact hj) hu zAS (by
  have:(n+1)*bytes<=1099511627776*64:=Nat.mul_le_mul h63 hbytes
  omega)
 unfold Oper.wp execOp
 simp only[ho,resolve,invoke,builtin,Sem.run_bind,Sem.run_pure,Result.andThen_ok,List.map_toArray,List.map_cons,List.map_nil,hs,hx,hr]
 obtain⟨bb,cap,rfl,hc1,hc2⟩:=dU r1 zAB
 refine hK bb cap w' ⟨r1,fun k hk=>?_⟩ (((Only.refl _ w).grown r2 fun k hk=>.inl hk).mono fun k hk=>h.tg k hk)
 exact zDg
end
structure nI (w:World) (g:Tag) (t:Nat×Nat) (e:TypeId) (v:Value) (xs:List Value):Prop where
 form:(v= .slice none 0 0/\xs=[])\/ ∃b o cap,∃cur:Array Value,v= .slice (some ⟨b,o,none⟩) xs.length cap/\w.heap[b]? =some (.cells cur e (0,0))/\xs.length<=cap/\cap<=maxLen/\o+cap<=cur.size/\(cur.toList.drop o).take xs.length=xs
 tg:∀k,Value.blk v=some k->g k=t
section
variable {w w':World} {g g':Tag} {t:Nat×Nat} {e:TypeId} {v:Value} {xs:List Value}
theorem nI.lt(h:nI w g t e v xs):∀k,Value.blk v=some k->k<w.heap.size:=by
 intro k hk;rcases h.form with⟨rfl,_⟩| ⟨b,o,cap,cur,rfl,hb,_⟩;·simp[Value.blk]at hk
 simp[Value.blk]at hk;subst hk;exact bU hb
theorem nI.keep(h:nI w g t e v xs){F:Nat->Prop}(ho:Only F w w')(hF:∀k,g k=t->¬F k)(hg:Agree w g g'):nI w' g' t e v xs:=by
 refine⟨?_,fun k hk=>(hg k (h.lt k hk)).trans (h.tg k hk)⟩;rcases h.form with h1| ⟨b,o,cap,cur,rfl,hb,h1⟩;·exact .inl h1
 exact .inr ⟨b,o,cap,cur,rfl,aC hb ho (hF b (h.tg b rfl)),h1⟩
theorem nI.only(h:nI w g t e v xs){F:Nat->Prop}(ho:Only F w w')(hF:∀k,g k=t->¬F k):nI w' g t e v xs:=h.keep ho hF (Agree.refl _ _)
theorem nI.alloc(h:nI w g t e v xs)(o:Obj):nI (w.alloc o) g t e v xs:=h.only ((Only.refl (fun _=>False) _).alloc o) (fun _ _ f=>f)
theorem nI.drew(h:nI w g t e v xs):nI w.drew g t e v xs:=h.only ((Only.refl (fun _=>False) _).drew) (fun _ _ f=>f)
theorem nI.drewN(h:nI w g t e v xs)(m:Nat):nI (w.drewN m) g t e v xs:=h.only ((Only.refl (fun _=>False) _).drewN m) (fun _ _ f=>f)
theorem nI.far(h:nI w g t e v xs){p:Addr}(hp:g p.block≠t)(u:Value):nI (w.setCell p u) g t e v xs:=
 h.only (F:=fun k=>k=p.block) (Only.setCell (Only.refl (fun k=>k=p.block) w) (p:=p) (.inl rfl) u) (fun k hk hF=>hp (by rw[<-hF];exact hk))
theorem nI.shape(h:nI w g t e v xs):∃ao cap,v= .slice ao xs.length cap/\xs.length<=cap/\cap<=maxLen:=by
 rcases h.form with⟨rfl,rfl⟩| ⟨b,o,cap,cur,rfl,hb,h1,h2,_⟩;·exact zEP
 exact⟨_,cap,rfl,h1,h2⟩
theorem nI.nil(w:World)(g:Tag)(t:Nat×Nat)(e:TypeId):nI w g t e dF []:=⟨.inl ⟨rfl,rfl⟩,fun k hk=>by simp[Value.blk]at hk⟩
theorem nI.dV{n:Nat}(h:w.ownsRow 0 e 1 v n xs)(htg:∀k,v.ownBlock=some k->g k=t):nI w g t e v xs:=by
 have hn:xs.length=n:=by simpa using h.1
 subst hn;rcases h.2 with⟨h1,h2⟩| ⟨b,cap,cur,rfl,_,hb,h1,h2,h3,h4⟩;·refine⟨.inl ⟨h1,yF h2⟩,fun k hk=>?_⟩;rw[h1]at hk;simp[Value.blk]at hk
 refine⟨.inr ⟨b,0,cap,cur,rfl,hb,h1,h2,by omega,by simpa using h4⟩,fun k hk=>?_⟩;simp[Value.blk]at hk;exact htg k (by rw[<-hk];rfl)
theorem P7{P:Program}{tt ty:TypeId}{bytes:Nat}(T:Az P tt e 1 bytes)(h:nI w g t e v xs)(a:Addr)(m c:Nat)(news:List Value)(hl:news.length=m)(hnews:∀j u,news[j]? =some u->w.cell? (a.add j)=some u)(h1:∀u∈news,u.oneCell'=true)(h63:xs.length+m<=1099511627776)(hbytes:bytes<=64):∃v' w',(Builtin.append_ #[tt,tt] ty #[v,.slice (some a) m c]).run P w= .ok v' w'/\nI w' (Tag.put g w.heap.size w'.heap.size t) t e v' (xs++news)/\Only (fun k=>g k=t) w w':=by
 have hbb:(xs.length+m)*bytes<=140737488355328:=by have:(xs.length+m)*bytes<=1099511627776*64:=Nat.mul_le_mul h63 hbytes;omega
 rcases h.form with⟨rfl,rfl⟩| ⟨b,o,cap,cur,rfl,hb,k1,k2,k3,k4⟩
 ·obtain⟨v',w',hr,r1,r2,r3,r4⟩:=mV (P:=P) (ty:=ty) w T (.slice none 0 0) 0 [] (World.ownsRow_nil _ _ _ _) a m c news zAB hnews h1 (by simp at h63;unfold maxLen;omega) (by simpa using hbb);refine⟨v',w',hr,nI.dV r1 (fun k hk=>?_),(Only.refl _ w).grown r2 fun k hk=>by simp[Value.ownBlock]at hk⟩;rcases r3 k hk with hh|hh;·simp[Value.ownBlock]at hh
  exact Tag.zJ _ _ hh (dP r1 hk)
 obtain⟨i,z,h2,h3,h4,h5,h6⟩:=T.info;have htb:g b=t:=h.tg b rfl;by_cases hroom:xs.length+m<=cap
 ·have hf:=run_firstCells_some (P:=P) w i.size m a m c news (by rw[h4];omega) hnews;have hst:=run_storeCells_at P b (o+xs.length) e news 0 cur w hb zAB h1;simp only[qF]at hst;refine⟨.slice (some ⟨b,o,none⟩) (xs.length+m) cap,w.setRow b (cur.toList.take (o+xs.length)++news++cur.toList.drop (o+xs.length+news.length)).toArray,?_,⟨.inr ⟨b,o,cap,_,?_,setRow_heap w b cur _ e _ hb,?_,k2,?_,?_⟩,?_⟩,?_⟩;·rw[h4]at hf;simp[Builtin.append_,run_underlying T.und,sizeOf,typeInfo,h2,h4,Builtin.lenOf,hroom,hf,Addr.add_mid,hst]
  ·simp[hl]
  ·simp;omega
  ·simp;omega
  ·have e1:(cur.toList.take (o+xs.length)).drop o=xs:=by rw[List.drop_take,show o+xs.length-o=xs.length by omega];exact k4
   have e2:(cur.toList.take (o+xs.length)++news++cur.toList.drop (o+xs.length+news.length)).drop o=xs++news++cur.toList.drop (o+xs.length+news.length):=by rw[yW,List.drop_append_of_le_length zAU,e1,yW]
   simp only[qK];rw[e2,<-qK,List.take_left]
  ·intro k hk;simp[Value.blk]at hk;subst hk;rw[Tag.wX _ _ (bU hb)];exact htb
  exact⟨rfl,rfl,rfl,by simp,fun k _ hk=>setRow_other w b k _ (fun e=>hk (by rw[e];exact htb))⟩
 have holds:∀j u,xs[j]? =some u->w.cell? ((⟨b,o,none⟩:Addr).add j)=some u:=by
  intro j u hj;have hj':=(qJ.1 hj).1;rw[Addr.add_mid,aj hb];have h7:((cur.toList.drop o).take xs.length)[j]? =some u:=by rw[k4];exact hj
  rw[List.getElem?_take_of_lt hj',List.getElem?_drop]at h7;simpa using h7
 obtain⟨v',w',hr,r1,r2⟩:=run_append_arg_grows (P:=P) w tt ty e i z 1 bytes T.und h2 h3 h4 h5 h6 T.pos ⟨b,o,none⟩ xs.length cap xs zBt holds a m c news zBU hnews zAB zB0 hbb;have r1':w'.ownsRow 0 e 1 v' (xs.length+m) (xs++news):=⟨r1.1,by
  rcases r1.2 with h| ⟨g',cap',cur',he,hg',h⟩
  ·exact .inl h
  ·exact .inr ⟨g',cap',cur',he,qE _,h⟩⟩
 refine⟨v',w',hr,nI.dV r1' (fun k hk=>?_),(Only.refl _ w).grown r2 fun k hk=>by cases hk⟩;exact Tag.zJ _ _ (r1.lt k hk).1 (r1.lt k hk).2
theorem nI.step{P:Program}{ops:Array Oper}{o:Oper}{a:Act}{K:Act->World->Prop}{Q:Exit->Act->World->Prop}{E:Prop}{tt:TypeId}{bytes:Nat}(T:Az P tt e 1 bytes)
  (hgd:o.guard=none) (s x:Operand)
  (ho:o.op= .call {callee:=.builtin .append,args:= #[s,x],argTypes:= #[tt,tt]})
  {ao:Option Addr} {m c:Nat} {news:List Value} (hs:a.eval s=v) (hx:a.eval x= .slice ao m c) (hl:news.length=m) (hnone:ao=none->m=0/\c=0) (hnews:∀ad,ao=some ad->∀j u,news[j]? =some u->w.cell? (ad.add j)=some u) (h1:∀u∈news,u.oneCell'=true) (h:nI w g t e v xs)
  (h63:xs.length+m<=1099511627776) (hbytes:bytes<=64)
  (hK:∀ao' cap w',nI w' (Tag.put g w.heap.size w'.heap.size t) t e (.slice ao' (xs.length+m) cap) (xs++news)->Only (fun k=>g k=t) w w'->K (a.put o.dst (.slice ao' (xs.length+m) cap)) w'):
  if Region.wanted o (yielded ops a.tmps)=true then Oper.wp P o a w K Q else E:=by
 rw[if_pos zBA]
 cases ao with
 |none=>
  obtain⟨rfl,rfl⟩:=hnone rfl
  have hn:news=[]:=yF hl
  subst hn
  obtain⟨i,z,h2,h3,h4,h5,h6⟩:=T.info
  obtain⟨ao',cap',rfl,hc,hm⟩:=h.shape
  have hr:(Builtin.append_ #[tt,tt] o.type #[.slice ao' xs.length cap',.slice none 0 0]).run P w= .ok (.slice ao' xs.length cap') w:=by
   cases ao' with
   |none=>simp[Builtin.append_,run_underlying T.und,sizeOf,typeInfo,h2,Builtin.lenOf,Builtin.firstCells,hc]
   |some ad=>simp[Builtin.append_,run_underlying T.und,sizeOf,typeInfo,h2,Builtin.lenOf,Builtin.firstCells,hc,storeCells]
  unfold Oper.wp execOp
  simp only[ho,resolve,invoke,builtin,Sem.run_bind,Sem.run_pure,Result.andThen_ok,List.map_toArray,List.map_cons,List.map_nil,hs,hx,hr]
  refine hK ao' cap' w ?_ zr
  have e:Tag.put g w.heap.size w.heap.size t=g:=by
   funext k;unfold Tag.put;rw[if_neg zAB]
  rw[e]
  simpa using h
 |some ad=>
  obtain⟨v',w',hr,r1,r2⟩:=P7 (P:=P) (ty:=o.type) T h ad m c news hl (hnews ad rfl) h1 h63 hbytes
  unfold Oper.wp execOp
  simp only[ho,resolve,invoke,builtin,Sem.run_bind,Sem.run_pure,Result.andThen_ok,List.map_toArray,List.map_cons,List.map_nil,hs,hx,hr]
  obtain⟨ao',cap',rfl,hc,hm⟩:=r1.shape
  have hlen:(xs++news).length=xs.length+m:=by simp[hl]
  rw[hlen]at r1⊢
  exact hK ao' cap' w' r1 r2
end
end Go.Proofs.YtdmmebjjojimiaaGreatDoor
namespace Go.Proofs
theorem zAT{p:Prop}(h:p:=by rw[HN.out];exact ci):p:=h
theorem zAg{p:Prop}(h:p:=by rw[HL.out];kernel_rfl):p:=h
theorem zAi{p:Prop}(h:p:=by rw[HN.out];omega):p:=h
theorem zBV{p:Prop}(h:p:=by decide):p:=h
theorem zB3{p:Prop}(h:p:=by
 refine HC.out.mono ?_
 rintro e w1 ⟨rfl,O1⟩
 have aW:=zh (HO.out.same O1)
 clear O1
 go_wp2_with fail
 go_roundw
 case rel=>exact⟨aW,i+1,by first|rfl|go_num,by omega,show Hid _ from fun z hz=>by
  rcases bH HX.out hz with h|rfl
  ·exact HZ.out z h
  ·exact HY.out⟩
 case measure=>simp[intOf]<;>omega):p:=h
theorem zCB{p:Prop}(h:p:=by
 have:i=n:=by omega
 subst this
 go_wp2_with fail
 go_ret
 have:=HZ.out
 rw[qI (yG HN.out)]at this
 exact⟨by rw[oO this];rfl,HO.out⟩):p:=h
theorem zCE{p:Prop}(h:p:=by
 refine HC.out.mono ?_
 rintro e w1 ⟨rfl,O1⟩
 go_wp2_with fail
 go_ret
 exact⟨by rw[tN HX.out HY.out HZ.out];rfl,HO.out.same O1⟩):p:=h
theorem zCO{p:Prop}(h:p:=by rw[World.cell?_of_block (w:=w.alloc (.cells #[.slice ao x.packs.length cap,.slice nJ x.cO.length cap2] 25)) (O1.block _ zAF (fun f=>f))];simp):p:=h
theorem zDs{p:Prop}(h:p:=by
 have:=World.ownsRow_lit (base:=0) (e:=3) (size:=1) w1 #[.int .i64 f] 1 (qE _) zBY zAF
 simpa[gW,Int.toNat_of_nonneg hf0]using this):p:=h
theorem zEY{p:Prop}(h:p:=by
 unfold aF.iI
 have:=yO (fun i=>iT (x.pack i).provides s) (List.range i)
 simpa using this):p:=h
end Go.Proofs
namespace Go.Proofs.YtdmmebjjojimiaaGreatDoor
open Go.RowKit Go.Shelf
def wZ{α:Type}(C:Nat->World->List Value->α->Prop)(B:Nat)(g:Nat)(cb:Array Value)(p:α->Bool)(w:World):Prop:=
 ∀(W:World) (cs:List Value) (x:α),O0 w W->C B W cs x->Calls Tryz.prog g (#[.agg cs.toArray]++cb) W fun e w'=>e= .returned (.bool (p x))/\O0 W w'
theorem bH{α:Type}{xs:List α}{i:Nat}{x y:α}(hx:xs[i]? =some x)(h:y∈xs.take (i+1)):y∈xs.take i\/y=x:=by
 obtain⟨hlt,rfl⟩:=qJ.1 hx;rw[yL hlt]at h;rcases qW.1 h with h|h;·exact .inl h
 exact .inr (yJ.1 h)
section
variable {w w':World} {B:Nat}
theorem Wi{v:Value}{xs:List fP}(h:aQ 8 fQ B w v xs){g:Nat}{cb:Array Value}{p:fP->Bool}(eg:∀args w,(callFunc g args).run Tryz.prog w= .ok (.enter g args) w)(hp:wZ fQ B g cb p w):Calls Tryz.prog 262 #[v,.func (.func g) #[] cb] w fun e w'=>e= .returned (.int .i64 (kR p xs))/\O0 w w':=by
 obtain⟨ao,cap,rfl,hc1,hc2⟩:=h.shape;have HH:=zh h;have Jm:=zh hp;obtain⟨n,hn⟩:=ze xs.length;have HN:=zh hn;rw[hn]at hc1⊢;clear h hp hn;go_enter Tryz.func262,Tryz.ntmps262;go_wp2_with fail;go_loopw [5,8] (fun _ vi wr=>Hid (O0 w wr)/\∃i:Nat,vi= .int .i64 i/\i<=n/\Hid (∀x∈xs.take i,p x=false)) (fun _ v _=>n-(intOf v).toNat);case atStart=>exact⟨show Hid _ from Only.refl _ _,0,rfl,qE _,show Hid _ from fun x hx=>by simp at hx⟩
 case round=>
  obtain⟨HO,i,rfl,hi,HZ⟩:=hrel;by_cases ci:i<n
  ·have h2:=HH.out;rw[HN.out]at h2;obtain⟨b,off,he,-,-⟩:=h2.at zAi;subst he;obtain⟨x,hx⟩:=zG xs i zAT;obtain⟨cs,hl,hr,hC⟩:=(h2.keep fQ.keep (Kp.gV HO.out)).get hx;have iG:=zw (i+1);have HR:=zh hr;have HL:=zh hl;have HX:=zh hx;have HC:=zh (Jm.out wr cs x HO.out hC);obtain⟨y,hy⟩:=ze (p x);rw[hy]at HC;have HY:=zh hy;clear hr hx hy h2 hl hC;cases y with
   |true=>go_wp2_with (refine wpList_load_mid rfl 101 (.tmp 14) rfl b (off+i*8) rfl cs _ HR.out Tryz.underlying101 rfl zAg ?_);exact zCE
   |false=>go_wp2_with (refine wpList_load_mid rfl 101 (.tmp 14) rfl b (off+i*8) rfl cs _ HR.out Tryz.underlying101 rfl zAg ?_);exact zB3
  exact zCB
theorem lu(x y:ByteArray):(x.toList==y.toList)=decide (x=y):=by
 by_cases h:x=y;·rw[qX h,(Lib.bytes_beq_iff x y).2 h]
 rw[qP h,(Lib.bytes_beq_false_iff x y).2 h]
theorem Zz(s:Str)(gs:Nat)(hg:w.cell? ⟨gs,0,none⟩=some (.string s)):wZ fQ B 263 #[.pointer (some ⟨gs,0,none⟩)] (fun p=>decide (p.name=s)) w:=by
 intro W cs x hO hC;obtain⟨v1,v2,v3,v4,v5,v6,rfl,-⟩:=hC;have hlt:gs<w.heap.size:=World.block_lt_of_cell? _ _ hg;have hg2:W.cell? ⟨gs,0,none⟩=some (.string s):=by rw[World.cell?_of_block (w:=w) (hO.block gs hlt (fun f=>f))];exact hg
 have hgW:gs<W.heap.size:=World.block_lt_of_cell? _ _ hg2;have hd:=lu x.name s;have hne:gs≠W.heap.size:=zAB;clear hg hlt;go_enter Tryz.func263,Tryz.ntmps263;go_wp2_with fail;go_ret;exact⟨rfl,zr.alloc _⟩
theorem SY:∀args w,(callFunc 263 args).run Tryz.prog w= .ok (.enter 263 args) w:=enters_of Tryz.func263 zk rfl
theorem qc{cs:List Value}{x:aF}(h:gy B w cs x)(s:Str):Calls Tryz.prog 182 #[.agg cs.toArray,.string s] w fun e w'=>e= .returned (.int .i64 (x.find s))/\O0 w w':=by obtain⟨v1,v2,rfl,h1,-⟩:=h;obtain⟨ao,cap,rfl,hc1,hc2⟩:=h1.shape;have HH:=zh h1;clear h1;go_enter Tryz.func182,Tryz.ntmps182;go_wp2_with fail;refine(Wi ((HH.out.keep fQ.keep (Kp.gV (((Only.refl (fun _=>False) w).alloc _).alloc _)))) SY (Zz s (w.heap.size+1) zAF)).mono ?_;rintro e w1 ⟨rfl,O1⟩;go_wp2_with fail;go_ret;exact⟨rfl,(((Only.refl (fun _=>False) w).alloc _).alloc _).same O1⟩
theorem aQ.strs{b off len cap:Nat}{zs:List Str}(h:aQ 1 dN B w (.slice (some ⟨b,off,none⟩) len cap) zs):∀j,j<zs.length->w.cell? ⟨b,off+j,none⟩=some (.string (zs.getD j ByteArray.empty)):=by intro j hj;obtain⟨cs,_,hr,rfl,_⟩:=h.get (qA hj);have:=hr 0 _ rfl;simpa[List.getD,qA hj]using this
theorem sV{v:Value}{zs:List Str}(h:aQ 1 dN B w v zs)(s:Str):Calls Tryz.prog 191 #[v,.string s] w fun e w'=>e= .returned (.bool (iT zs s))/\w'=w:=by
 obtain⟨ao,cap,rfl,hc1,hc2⟩:=h.shape;have e1:Lib.containsS zs s=iT zs s:=by rw[Bool.eq_iff_iff,Lib.containsS_iff,AO]
 by_cases h0:0<zs.length;·obtain⟨b,off,rfl,-,-⟩:=h.at h0;have:=Tryz.slices_Contains_string b off zs.length cap zs s w (qH _) zAB h.strs;rw[qI (qH _),e1]at this;exact this
 obtain rfl:zs=[]:=yF zAB;exact Tryz.slices_Contains_string_empty ao cap s w
def gW(l:List Nat):List Value:=l.map fun i:Nat=>Value.int .i64 (i:Int)
theorem nO{cs:List Value}{x:aF}(h:gy B w cs x)(hlen:x.packs.length<=1000000)(s:Str):Calls Tryz.prog 165 #[.agg cs.toArray,.string s] w fun e w'=> ∃v,e= .returned v/\w'.ownsRow 0 3 1 v (x.dh s).length (gW (x.dh s))/\(∀k,v.ownBlock=some k->w.heap.size<=k)/\O0 w w':=by
 obtain⟨v1,v2,rfl,h1,-⟩:=h;obtain⟨ao,cap,rfl,hc1,hc2⟩:=h1.shape;have HH:=zh h1;obtain⟨n,hn⟩:=ze x.packs.length;have HN:=zh hn;rw[hn]at hc1 hlen⊢;clear h1 hn;go_enter Tryz.func165,Tryz.ntmps165;go_wp2_with fail;go_loopw [5,11] (fun vo vi wr=>Hid (O0 w wr)/\∃i:Nat,vi= .int .i64 i/\i<=n/\Hid (wr.ownsRow 0 3 1 vo (x.iI s i).length (gW (x.iI s i)))/\Hid (∀k,vo.ownBlock=some k->w.heap.size<=k)) (fun _ v _=>n-(intOf v).toNat);case atStart=>exact⟨show Hid _ from zr.alloc _,0,rfl,qE _,show Hid _ from World.ownsRow_nil _ _ _ _,show Hid _ from fun k hk=>by simp[Value.ownBlock]at hk⟩
 case round=>
  obtain⟨HO,i,rfl,hi,HZ⟩:=hrel;by_cases ci:i<n
  ·obtain⟨HV,HB⟩:=HZ;have h2:=HH.out;rw[HN.out]at h2;obtain⟨b,off,he,-,-⟩:=h2.at zAi;subst he;obtain⟨p,hx⟩:=zG x.packs i zAT;obtain⟨cs,hl,hr,hC⟩:=(h2.keep fQ.keep (Kp.gV HO.out)).get hx;obtain⟨o1,o2,o3,o4,o5,o6,c1,c2,c3,c4,c5,c6,rfl,-,-,-,-,b5,-,-,-⟩:=hC.cells;have iG:=zw (i+1);have HR:=zh hr;have HX:=zh hx;have HP:=zh b5;clear hr hx h2 hl b5 hC;go_wp2_with (refine wpList_load_mid rfl 101 (.tmp 14) rfl b (off+i*8) rfl _ _ HR.out Tryz.underlying101 rfl zk ?_);refine(sV (HP.out.keep dN.keep (Kp.gV ((Only.refl (fun _=>False) wr).alloc _))) s).mono ?_;rintro e w1 ⟨rfl,rfl⟩;have GX:=zh (aG HV.out ((Only.refl (fun _=>False) wr).alloc (.cells #[.string p.name,.int .i64 p.line,.slice o1 p.aX.length c1,.slice o2 p.vars.length c2,.slice o3 p.provides.length c3,.slice o4 p.deps.length c4,.slice o5 p.cons.length c5,.slice o6 p.files.length c6] 101)) (fun _ _ f=>f));have aW:=zh (HO.out.alloc (.cells #[.string p.name,.int .i64 p.line,.slice o1 p.aX.length c1,.slice o2 p.vars.length c2,.slice o3 p.provides.length c3,.slice o4 p.deps.length c4,.slice o5 p.cons.length c5,.slice o6 p.files.length c6] 101));have hpk:x.pack i=p:=by unfold aF.pack;rw[qC,HX.out];rfl
   have hsu:=x.IE s i;rw[hpk]at hsu;have HSu:=zh hsu;have hpl:(x.iI s i).length<=i:=by exact zEY
   generalize wr.alloc _=w1 at*;obtain⟨y,hy⟩:=ze (iT p.provides s);rw[hy]at HSu;rw[hy];clear hsu hpk hy;cases y with
   |false=>
    go_wp2_with fail;go_roundw;case rel=>exact⟨aW,i+1,by first|rfl|go_num,by omega,by rw[HSu.out,if_neg zAD];exact GX,HB⟩
    case measure=>simp[intOf]<;>omega
   |true=>
    obtain⟨au,cu,rfl,-,-⟩:=aJ GX.out;go_wp2_with (at_builtin;go_must (refine AL (u:=.int .i64 (i:Int)) lY rfl (.tmp 20) (.tmp 22) rfl rfl rfl (cell_new0 _ _ _) rfl (aG GX.out ((Only.refl (fun _=>False) _).alloc _) (fun _ _ f=>f)) zAB zBV ?_));intro v' w2 r1 r2 r3;have IG:=zh r1;have iO:=zh (((aW.out.alloc _).trans r2 fun k hk=>.inr (HB.out k hk)));have HB2:Hid (∀k,v'.ownBlock=some k->w.heap.size<=k):=by
     intro k hk;obtain⟨g,cap',rfl,-,-,h|h⟩:=r3;·simp[Value.ownBlock]at hk;subst hk;exact HB.out _ h
     simp[Value.ownBlock]at hk;subst hk;have:=aW.out.size;simp at h;omega
    obtain⟨g,cap',rfl,-,-,-⟩:=r3;clear r1 r2;go_wp2_with fail;go_roundw;case rel=>exact⟨iO,i+1,by first|rfl|go_num,by omega,by rw[HSu.out];have:=IG.out;show World.ownsRow _ _ _ _ _ _ _;simpa[gW]using this,HB2⟩
    case measure=>simp[intOf]<;>omega
  have:i=n:=by omega
  subst this;go_wp2_with fail;go_ret;refine⟨_,rfl,?_,HZ.2.out,HO.out⟩;have:=HZ.1.out;unfold aF.dh;rw[HN.out];exact this
theorem II{cs:List Value}{x:aF}(h:gy B w cs x)(hlen:x.packs.length<=1000000)(s:Str):Calls Tryz.prog 148 #[.agg cs.toArray,.string s] w fun e w'=> ∃v,e= .returned v/\w'.ownsRow 0 3 1 v (x.targets s).length (gW (x.targets s))/\(∀k,v.ownBlock=some k->w.heap.size<=k)/\O0 w w':=by
 have HH:=zh h;obtain⟨v1,v2,rfl,h1,h2⟩:=h;obtain⟨ao,cap,rfl,-,-⟩:=h1.shape;obtain⟨nJ,cap2,rfl,-,-⟩:=h2.shape;obtain⟨f,hf⟩:=ze (x.find s);have hlt:=x.pY s;have hge: -1<=x.find s:=by
  rcases oq (fun p=>decide (p.name=s)) x.packs with h| ⟨k,h,_⟩;·unfold aF.find;rw[h];omega
  unfold aF.find;rw[h];omega
 have HT:Hid (x.targets s=if 0<=f then [f.toNat]else x.dh s):=by unfold aF.targets;rw[hf];exact rfl
 have HF:=zh (qc (gy.keep HH.out (Kp.gV ((Only.refl (fun _=>False) w).alloc (.cells #[.slice ao x.packs.length cap,.slice nJ x.cO.length cap2] 25)))) s);have VL:=fun W hO=>zh (nO (w:=W) (gy.keep HH.out (Kp.gV hO)) hlen s);rw[hf]at hlt hge HF;clear hf h1 h2;go_enter Tryz.func148,Tryz.ntmps148;go_wp2_with fail;refine HF.out.mono ?_;rintro e w1 ⟨rfl,O1⟩;have aW:=zh (((Only.refl (fun _=>False) w).alloc _).same O1);have hw1:=O1.size;simp only[World.size_alloc]at hw1;have hcell:w1.cell? ⟨w.heap.size,0,none⟩=some (.slice ao x.packs.length cap)/\w1.cell? ⟨w.heap.size,1,none⟩=some (.slice nJ x.cO.length cap2):=by
  constructor;·exact zCO
  exact zCO
 obtain⟨hc1,hc2⟩:=hcell;have abD:=VL w1 aW.out;clear O1 VL HF;by_cases hf0:0<=f
 ·go_wp2_with fail;go_ret;refine⟨_,rfl,?_,fun k hk=>?_,aW.out.alloc _⟩;·rw[HT.out,if_pos hf0];exact zDs
  simp[Value.ownBlock]at hk;omega
 have hT2:x.targets s=x.dh s:=by rw[HT.out,if_neg hf0]
 rw[<-hT2]at abD;clear hT2;go_wp2_with fail;refine abD.out.mono ?_;rintro e w2 ⟨v,rfl,r1,r2,r3⟩;have HR:=zh (And.intro r1 (And.intro r2 r3));obtain⟨av,cv,rfl,-,-⟩:=aJ r1;clear r1 r2 r3;go_wp2_with fail;go_ret;obtain⟨r1,r2,r3⟩:=HR.out;exact⟨_,rfl,r1,fun k hk=>by have:=r2 k hk;omega,aW.out.same r3⟩
end
end Go.Proofs.YtdmmebjjojimiaaGreatDoor
