/- Package formula: node. Printed by gen_fm2.py. -/
import Derived.Test.YtdmmebjjojimiaaGreatDoorG31
set_option maxRecDepth 100000
set_option maxHeartbeats 8000000
set_option linter.all false
namespace Go.Proofs
theorem zAI{p:Prop}(h:p:=by repeat (first|exact Only.refl _ _|exact o8|apply Only.drew|apply Only.alloc|apply Only.drewN)):p:=h
theorem zBm{p:Prop}(h:p:=by repeat (first|exact Only.refl _ _|exact o8|apply Only.drew|apply Only.alloc|apply Only.drewN)):p:=h
theorem zBw{p:Prop}(h:p:=by repeat (first|exact Only.refl _ _|exact o8|apply Only.drew|apply Only.alloc|apply Only.drewN)):p:=h
theorem zCq{p:Prop}(h:p:=by(try dsimp only)<;>(exact HS.out _ (Only.mono (F:=fun _=>False) zAI fun _ f=>f.elim))):p:=h
theorem zCw{p:Prop}(h:p:=by exact(zr.alloc _).trans (aP _ _ _) fun k hk=>.inr (yG hk.symm)):p:=h
theorem zEQ{p:Prop}(h:p:=by exact aG r1 oS (fun k hk e=>jV zAD r1 b10 (e▸hk))):p:=h
end Go.Proofs
namespace Go.Proofs.YtdmmebjjojimiaaGreatDoor
open Go.RowKit
def Ih(L:List (Str×Str)):List Value:=L.flatMap fun s=>[.string s.1,.string s.2]
theorem U4(L:List (Str×Str))(s:Str×Str):Ih (L++[s])=Ih L++[.string s.1,.string s.2]:=by simp[Ih]
theorem aiM:Az Tryz.prog 80 117 2 32:=Az.mk' (z:=.agg #[.string .empty,.string .empty]) Tryz.underlying80 zk rfl zAD
structure Jq (B:Nat) (w:World) (N:Nat) (a b:Str) (sv nv:Value) (S:List (Str×Str)) (M:List Str):Prop where
 blk:w.heap[N]? =some (.cells #[.string a,.string b,sv,nv] 83 (0,0))
 N9:w.ownsRow 0 117 2 sv S.length (Ih S)
 L6:w.ownsRow 0 9 1 nv M.length (fH M)
 aaC:∀k,sv.ownBlock=some k->B<=k
 nnew:∀k,nv.ownBlock=some k->B<=k
 lo:B<=N
section
variable {w w':World} {B N:Nat} {a b:Str} {sv nv:Value} {S:List (Str×Str)} {M:List Str}
theorem Jq.aH(h:Jq B w N a b sv nv S M)(ho:O0 w w'):Jq B w' N a b sv nv S M:=⟨aC h.blk ho (fun f=>f),aG h.N9 ho (fun _ _ f=>f),aG h.L6 ho (fun _ _ f=>f),h.aaC,h.nnew,h.lo⟩
theorem Jq.cells(h:Jq B w N a b sv nv S M):w.cell? ⟨N,0,none⟩=some (.string a)/\w.cell? ⟨N,1,none⟩=some (.string b)/\w.cell? ⟨N,2,none⟩=some sv/\w.cell? ⟨N,3,none⟩=some nv:=
 ⟨by rw[aj h.blk];rfl,by rw[aj h.blk];rfl,by rw[aj h.blk];rfl,by rw[aj h.blk];rfl⟩
theorem Jq.ver(h:Jq B w N a b sv nv S M)(b':Str):Jq B (w.setCell ⟨N,1,none⟩ (.string b')) N a b' sv nv S M/\Only (fun k=>B<=k) w (w.setCell ⟨N,1,none⟩ (.string b')):=by have oS:Only (fun k=>k=N) w (w.setCell ⟨N,1,none⟩ (.string b')):=(Only.refl (fun k=>k=N) w).setCell (p:=⟨N,1,none⟩) (.inl rfl) _;exact⟨⟨heap_setCell_same w N 1 _ 83 _ h.blk,aG h.N9 oS (fun k hk e=>jV zBV h.N9 h.blk (e▸hk)),aG h.L6 oS (fun k hk e=>jV zAD h.L6 h.blk (e▸hk)),h.aaC,h.nnew,h.lo⟩,oS.mono fun k hk=>by rw[hk];exact h.lo⟩
theorem Jq.set{w9 w10:World}(h:Jq B w N a b sv nv S M)(o9:O0 w w9){sv':Value}{s:Str×Str}(r1:w10.ownsRow 0 117 2 sv' (S.length+1) (Ih S++[.string s.1,.string s.2]))(o:Only (fun k=>sv.ownBlock=some k) w9 w10)(r3:∀k,sv'.ownBlock=some k->sv.ownBlock=some k\/w9.heap.size<=k)(hB:B<=w.heap.size):w10.cell? ⟨N,2,none⟩=some sv/\w10.frozen? ⟨N,2,none⟩=false/\Jq B (w10.setCell ⟨N,2,none⟩ sv') N a b sv' nv (S++[s]) M/\Only (fun k=>B<=k) w (w10.setCell ⟨N,2,none⟩ sv'):=by
 have h9:=h.aH o9;have b10:w10.heap[N]? =some (.cells #[.string a,.string b,sv,nv] 83 (0,0)):=aC h9.blk o (fun e=>jV zAD h9.N9 h9.blk e);have n10:w10.ownsRow 0 9 1 nv M.length (fH M):=aG h9.L6 o (fun k hk e=>LZ zAD h9.N9 h9.L6 e hk);have oS:Only (fun k=>k=N) w10 (w10.setCell ⟨N,2,none⟩ sv'):=(Only.refl (fun k=>k=N) w10).setCell (p:=⟨N,2,none⟩) (.inl rfl) _;have hs:=o9.size;refine⟨by rw[aj b10];rfl,by simp[World.frozen?,b10],⟨heap_setCell_same w10 N 2 _ 83 _ b10,?_,aG n10 oS (fun k hk e=>jV zAD n10 b10 (e▸hk)),fun k hk=>?_,h.nnew,h.lo⟩,?_⟩;·rw[qK,List.length_singleton,U4];exact zEQ
 ·rcases r3 k hk with q|q;·exact h.aaC k q
  omega
 exact(o9.mono fun _ f=>f.elim).same ((o.mono fun k hk=>h.aaC k hk).same (oS.mono fun k hk=>by rw[hk];exact h.lo))
theorem Jq.need{w9 w10:World}(h:Jq B w N a b sv nv S M)(o9:O0 w w9){nv':Value}{s:Str}(r1:w10.ownsRow 0 9 1 nv' (M.length+1) (fH M++[.string s]))(o:Only (fun k=>nv.ownBlock=some k) w9 w10)(r3:∀k,nv'.ownBlock=some k->nv.ownBlock=some k\/w9.heap.size<=k)(hB:B<=w.heap.size):w10.cell? ⟨N,3,none⟩=some nv/\w10.frozen? ⟨N,3,none⟩=false/\Jq B (w10.setCell ⟨N,3,none⟩ nv') N a b sv nv' S (M++[s])/\Only (fun k=>B<=k) w (w10.setCell ⟨N,3,none⟩ nv'):=by
 have h9:=h.aH o9;have b10:w10.heap[N]? =some (.cells #[.string a,.string b,sv,nv] 83 (0,0)):=aC h9.blk o (fun e=>jV zAD h9.L6 h9.blk e);have s10:w10.ownsRow 0 117 2 sv S.length (Ih S):=aG h9.N9 o (fun k hk e=>LZ zAD h9.N9 h9.L6 hk e);have oS:Only (fun k=>k=N) w10 (w10.setCell ⟨N,3,none⟩ nv'):=(Only.refl (fun k=>k=N) w10).setCell (p:=⟨N,3,none⟩) (.inl rfl) _;have hs:=o9.size;refine⟨by rw[aj b10];rfl,by simp[World.frozen?,b10],⟨heap_setCell_same w10 N 3 _ 83 _ b10,aG s10 oS (fun k hk e=>jV zAD s10 b10 (e▸hk)),?_,h.aaC,fun k hk=>?_,h.lo⟩,?_⟩;·rw[qK,List.length_singleton,show fH (M++[s])=fH M++[.string s] by simp[fH]];exact zEQ
 ·rcases r3 k hk with q|q;·exact h.nnew k q
  omega
 exact(o9.mono fun _ f=>f.elim).same ((o.mono fun k hk=>h.nnew k hk).same (oS.mono fun k hk=>by rw[hk];exact h.lo))
theorem Jq.sorted(h:Jq B w N a b sv nv S M)(r1:w'.ownsRow 0 9 1 nv M.length (fH (uF M)))(o:Only (fun k=>nv.ownBlock=some k) w w'):Jq B w' N a b sv nv S (uF M)/\Only (fun k=>B<=k) w w':=
 ⟨⟨aC h.blk o (fun e=>jV zBV h.L6 h.blk e),aG h.N9 o (fun k hk e=>LZ zAD h.N9 h.L6 hk e),by rw[CJ];exact r1,h.aaC,h.nnew,h.lo⟩,o.mono fun k hk=>h.nnew k hk⟩
end
theorem Et{w:World}{g:Nat}{l:List Value}{t:TypeId}(h:w.heap[g]? =some (.cells l.toArray t (0,0))){j:Nat}{u:Value}(hu:l[j]? =some u):w.cell? ((⟨g,0,none⟩:Addr).add j)=some u:=by rw[Go.WideShapes.add_plain,Nat.zero_add,aj h];simpa using hu
def L8(l:List At)(aX:List lV)(m:List Bool)(p:Nat):Str:=match (List.range aX.length).find? (fun i=>Gj (numOf l (kF p i)) m)with|some i=>(aX.getD i default).version|none=>⟨#[]⟩
theorem afZ{l:List At}{aX:List lV}{m:List Bool}{p i:Nat}{z:lV}(hz:aX[i]? =some z)(h0:∀j,j<i->Gj (numOf l (kF p j)) m=false)(h1:Gj (numOf l (kF p i)) m=true):L8 l aX m p=z.version:=by
 have hi:=(qJ.1 hz).1;have h2:(List.range aX.length).find? (fun i=>Gj (numOf l (kF p i)) m)=some i:=by rw[List.find?_range_eq_some];exact⟨h1,by simpa using hi,fun j hj=>by simp[h0 j hj]⟩
 unfold L8;rw[h2];show(aX.getD i default).version=_;rw[qC,hz];rfl
theorem af0{l:List At}{aX:List lV}{m:List Bool}{p:Nat}(h0:∀j,j<aX.length->Gj (numOf l (kF p j)) m=false):L8 l aX m p=⟨#[]⟩:=by
 have h2:(List.range aX.length).find? (fun i=>Gj (numOf l (kF p i)) m)=none:=by rw[List.find?_eq_none];intro j hj;simp[h0 j zA1]
 unfold L8;rw[h2]
theorem aiN{p i:Nat}(hp:p<=1000000)(hi:i<=1000000):nK (kF p i):=⟨by simp[kF],(⟨by omega,by omega⟩:bg (p:Int)),(⟨by omega,by omega⟩:bg (i:Int)),zI'⟩
theorem aiO{p j k:Nat}(hp:p<=1000000)(hj:j<=1000000)(hk:k<=1000000):nK (lZ p j k):=⟨by simp[lZ],(⟨by omega,by omega⟩:bg (p:Int)),(⟨by omega,by omega⟩:bg (j:Int)),(⟨by omega,by omega⟩:bg (k:Int))⟩
section
variable {w w':World} {gt gb:Tag} {f c bt bb:Nat} {G:GL} {Bs:Nat} {D:xC} {S:TB} {cv:Value} {cls:List (List Int)}
theorem af2(H:Y8 w gt gb f c bt bb G Bs D S cv cls){v:Value}{m:List Bool}(hm:Bools w v m){p:Nat}(hp:p<D.x.packs.length)(hpl:D.x.packs.length<=1000000)(hpk:∀y∈D.x.packs,y.aX.length<=1000000/\y.vars.length<=1000000/\∀u∈y.vars,u.values.length<=1000000)(hl:∀t∈D.l,t<D.x.packs.length)(hln:D.l.length<=1000000)(rv:Str)(xU:L8 S.1.l (D.x.pack p).aX m p=rv):Calls Tryz.prog 92 #[.pointer (some ⟨f,0,none⟩),v,.int .i64 (p:Int)] w fun e w'=> ∃n:FN,e= .returned (.agg n.cells.toArray)/\n.name=(D.x.pack p).name/\n.ver=rv/\O0 w w':=by
 have H0:=zh H;obtain⟨v1,v2,ex,r1,r2⟩:=H.gr.Ef;simp only[List.cons.injEq,and_true]at ex;obtain⟨En,F6⟩:=ex;obtain⟨ax,cx,rfl,-,-⟩:=r1.shape;obtain⟨ap,cp,rfl,-,-⟩:=r2.shape;obtain⟨y,hy⟩:=zG D.x.packs p hp;obtain⟨bk,off,a1,n1,c1,a2,n2,c2,a3,n3,c3,a4,n4,c4,a5,n5,c5,a6,n6,c6,rfl,N1,N2,N3,N4,N5,N6,-,-,YD⟩:=jH r1 hy;have MX:=zh N1;have HN2:=zh N2;have HE:=zh YD;obtain⟨nx,hnx⟩:=ze D.x.packs.length;obtain⟨np,hnp⟩:=ze D.x.cO.length;have kN:=zh hnx;have hbr:=hpk y (qT hy);have epk:D.x.pack p=y:=by unfold aF.pack;rw[qC,hy];rfl
 rw[epk]at xU⊢;rw[hnx]at En hp hpl;rw[hnp]at F6;have Am:Hid (GL.x1 G= .slice (some ⟨bk,off,none⟩) nx cx):=En;have Ig:Hid (∀W,O0 w W->Calls Tryz.prog 78 #[.pointer (some ⟨c,0,none⟩)] W fun e w'=>e= .returned (.agg #[.slice (some ⟨bk,off,none⟩) nx cx,.slice ap np cp])/\O0 W w'):=fun W hW=>jQ (H0.out.gr.gr.aH hW) En F6;have HSo:Hid (∀W,O0 w W->∀x:At,nK x->∀b,Gj (numOf S.1.l x) m=b->Calls Tryz.prog 91 #[.pointer (some ⟨f,0,none⟩),v,iY x] W fun e w'=>e= .returned (.bool b)/\O0 W w'):=fun W hW x hx b hb=>alV (H0.out.aH hW) (hm.aH hW) hx b hb;have HRv:=zh xU;have HLl:=zh hl;obtain⟨am,cm,rfl,-,-⟩:=hm.shape;obtain⟨nm,hnm⟩:=ze m.length;rw[hnm]at HSo⊢;have HF:Hid (∀W,O0 w W->W.cell? ⟨f,0,none⟩=some (.pointer (some ⟨c,0,none⟩))):=fun W hW=>by rw[aj (H0.out.aH hW).blk];rfl
 -- the worlds ahead of the loops
 obtain⟨V0,hV0⟩:=ze (w.alloc (.cells #[.string ⟨#[]⟩,.string ⟨#[]⟩,.slice none 0 0,.slice none 0 0] 83));have GI:O0 w V0:=by rw[<-hV0];exact zr.alloc _
 have iZ:=zh GI;have HR0:Hid (V0.heap[w.heap.size]? =some (.cells #[.string ⟨#[]⟩,.string ⟨#[]⟩,.slice none 0 0,.slice none 0 0] 83)):=by rw[<-hV0];exact qL _ _
 have q0:=HF.out V0 GI;clear hm hnm xU hpk hl hy N1 N2 YD r1 r2 En F6 H epk GI hnx hnp;go_enter Tryz.func92,Tryz.ntmps92;go_wp2_with fail;have hfr:=fun W:World=>F5 (.slice (some ⟨bk,off,none⟩) nx cx) (.slice ap np cp) W;refine(Ig.out V0 iZ.out).mono ?_;rintro e W1 ⟨rfl,O1⟩;have aW:=zh (iZ.out.same O1);have HR1:Hid (W1.heap[w.heap.size]? =some (.cells #[.string ⟨#[]⟩,.string ⟨#[]⟩,.slice none 0 0,.slice none 0 0] 83)):=aC HR0.out O1 (fun f=>f);clear O1 q0 HR0;have fE:=zh (HE.out W1 aW.out).1;obtain⟨Va,Zd⟩:=ze (W1.alloc (.cells #[.string ⟨#[]⟩,.int .i64 0,.slice none 0 0,.slice none 0 0,.slice none 0 0,.slice none 0 0,.slice none 0 0,.slice none 0 0] 101));have XO:Hid (Va.heap[W1.heap.size]? =some (.cells #[.string ⟨#[]⟩,.int .i64 0,.slice none 0 0,.slice none 0 0,.slice none 0 0,.slice none 0 0,.slice none 0 0,.slice none 0 0] 101)):=by rw[<-Zd];exact qL W1 _
 obtain⟨W2,hW2⟩:=ze (Va.setRow W1.heap.size #[.string y.name,.int .i64 y.line,.slice a1 n1 c1,.slice a2 n2 c2,.slice a3 n3 c3,.slice a4 n4 c4,.slice a5 n5 c5,.slice a6 n6 c6]);have HB2:Hid (W2.heap[W1.heap.size]? =some (.cells #[.string y.name,.int .i64 y.line,.slice a1 n1 c1,.slice a2 n2 c2,.slice a3 n3 c3,.slice a4 n4 c4,.slice a5 n5 c5,.slice a6 n6 c6] 101 (0,0))):=by rw[<-hW2];exact setRow_heap _ _ _ _ _ _ XO.out
 have FQ:Hid (O0 W1 W2):=by rw[<-hW2,<-Zd];exact zCw
 obtain⟨Vb,hVb⟩:=ze (W2.alloc (.cells #[.string ⟨#[]⟩,.string ⟨#[]⟩,.slice none 0 0,.slice none 0 0] 83));have H6b:Hid (Vb.heap[W2.heap.size]? =some (.cells #[.string ⟨#[]⟩,.string ⟨#[]⟩,.slice none 0 0,.slice none 0 0] 83)):=by rw[<-hVb];exact qL W2 _
 obtain⟨W3,hW3⟩:=ze (Vb.setRow W2.heap.size #[.string y.name,.string ⟨#[]⟩,.slice none 0 0,.slice none 0 0]);have HB3:Hid (W3.heap[W2.heap.size]? =some (.cells #[.string y.name,.string ⟨#[]⟩,.slice none 0 0,.slice none 0 0] 83 (0,0))):=by rw[<-hW3];exact setRow_heap _ _ _ _ _ _ H6b.out
 have al5:Hid (O0 W2 W3):=by rw[<-hW3,<-hVb];exact zCw
 obtain⟨A,hA⟩:=ze W1.heap.size;obtain⟨N,hN⟩:=ze W2.heap.size;have p0:W2.cell? ⟨A,0,none⟩=some (.string y.name):=by rw[<-hA,aj HB2.out];rfl
 have HBp:Hid (∀W,O0 W2 W->W.cell? ⟨A,0,none⟩=some (.string y.name)/\W.cell? ⟨A,2,none⟩=some (.slice a1 n1 c1)/\W.cell? ⟨A,3,none⟩=some (.slice a2 n2 c2)):=fun W ho=>by have b1:=aC HB2.out ho (fun f=>f);rw[<-hA];exact⟨by rw[aj b1];rfl,by rw[aj b1];rfl,by rw[aj b1];rfl⟩
 have pb0:Vb.cell? ⟨A,0,none⟩=some (.string y.name):=(HBp.out Vb (by rw[<-hVb];exact zr.alloc _)).1;have EF:Hid (Jq N W3 N y.name ⟨#[]⟩ dF dF [] []):=⟨by rw[<-hN];exact HB3.out,World.ownsRow_nil _ _ _ _,World.ownsRow_nil _ _ _ _,(fun k hk=>by cases hk),(fun k hk=>by cases hk),qH _⟩;rw[hA]at HB2 XO hW2;rw[hN]at HB3 H6b hW3;have iO:Hid (O0 w W2):=aW.out.same FQ.out;have HHf:Hid (∀W,O0 W2 W->O0 w W):=fun W h=>iO.out.same h;have HBk:Hid (bk<w.heap.size):=by obtain⟨v1,v2,ex,r1,-⟩:=H0.out.gr.Ef;have hq:=(HE.out w zr).1 0 _ rfl;exact World.block_lt_of_cell? _ _ hq
 have HXp:Hid (∀W,O0 w W->∀t yt,D.x.packs[t]? =some yt->W.cell? ⟨bk,off+t*8,none⟩=some (.string yt.name)):=fun W hW t yt ht=>by obtain⟨v1,v2,ex,r1,-⟩:=H0.out.gr.Ef;simp only[List.cons.injEq,and_true]at ex;have h1:=Am.out;rw[h1]at ex;obtain⟨e1,-⟩:=ex;subst e1;rw[<-kN.out]at r1;obtain⟨bt,ot,_,_,_,_,_,_,_,_,_,_,_,_,_,_,_,_,_,_,et,-,-,-,-,-,-,-,-,hE⟩:=jH r1 ht;simp only[qG,qO,and_true]at et;obtain⟨rfl,rfl⟩:=et;exact(hE W hW).1 0 _ rfl
 have hb1:n1<=1000000:=by rw[<-MX.out];exact hbr.1
 have HRl:Hid (∀W,O0 W2 W->aQ 2 oh Bs W (.slice a1 n1 c1) y.aX):=fun W h=>(HE.out W (HHf.out W h)).2.1;have HVl:Hid (∀W,O0 W2 W->aQ 2 jM Bs W (.slice a2 n2 c2) y.vars):=fun W h=>(HE.out W (HHf.out W h)).2.2.1;have af4:Hid (∀wr W,O0 W2 wr->Only (fun k=>N<=k) wr W->O0 W2 W):=fun wr W h o=>h.trans o fun k hk=>.inr (by rw[hN];exact hk);have q2:=(HBp.out W3 al5.out).2.1;go_upto_block 0 with(first
  | (refine wpList_load_mid rfl 101 (.tmp 24) rfl bk (off+p*8) rfl _ _ fE.out Tryz.underlying101 rfl zk ?_)
  | (refine wpList_store_row rfl 101 (.tmp 7) (.tmp 25) rfl A #[.string y.name,.int .i64 y.line,.slice a1 n1 c1,.slice a2 n2 c2,.slice a3 n3 c3,.slice a4 n4 c4,.slice a5 n5 c5,.slice a6 n6 c6] rfl rfl 101 #[.string ⟨#[]⟩,.int .i64 0,.slice none 0 0,.slice none 0 0,.slice none 0 0,.slice none 0 0,.slice none 0 0,.slice none 0 0] XO.out zk rfl zk ?_)
  | (refine wpList_store_row rfl 83 (.tmp 8) (.tmp 28) rfl N #[.string y.name,.string ⟨#[]⟩,.slice none 0 0,.slice none 0 0] rfl rfl 83 #[.string ⟨#[]⟩,.string ⟨#[]⟩,.slice none 0 0,.slice none 0 0] H6b.out zk rfl zk ?_))
 clear p0 pb0 fE q2;go_cut [] (fun wx=>Hid (O0 W2 wx)/\Hid (Jq N wx N y.name rv dF dF [] []));case first=>
  go_wp2_with fail;go_loopw [32] (fun vi wr=>Hid (O0 W2 wr)/\∃i:Nat,vi= .int .i64 i/\i<=n1/\Hid (Jq N wr N y.name ⟨#[]⟩ dF dF [] [])/\Hid (∀j,j<i->Gj (numOf S.1.l (kF p j)) m=false)) (fun v _=>n1-(RowKit.intOf v).toNat);case atStart=>exact⟨al5,0,rfl,qE _,EF,fun j hj=>absurd hj (Nat.not_lt_zero j)⟩
  case round=>
   obtain⟨xK,i,rfl,hi,HNi,HFi⟩:=hrel;by_cases ci:i<n1
   ·have iG:=zw (i+1);obtain⟨z,hz⟩:=zG y.aX i (by rw[MX.out];exact ci);have HZ:=zh hz;obtain⟨bz,oz,ez,-,vM⟩:=JA (HRl.out wr xK.out) hz;first|subst ez| (simp only[qG,qO,and_true]at ez;obtain⟨rfl,rfl⟩:=ez)
    have hrz:=zh (vM wr zr).1;obtain⟨Vz,hVz⟩:=ze (wr.alloc (.cells #[.string ⟨#[]⟩,.bool false] 130));have H6z:Hid (Vz.heap[wr.heap.size]? =some (.cells #[.string ⟨#[]⟩,.bool false] 130)):=by rw[<-hVz];exact qL wr _
    obtain⟨Wz,hWz⟩:=ze (Vz.setRow wr.heap.size #[.string z.version,.bool z.old]);have HBz:Hid (Wz.heap[wr.heap.size]? =some (.cells #[.string z.version,.bool z.old] 130 (0,0))):=by rw[<-hWz];exact setRow_heap _ _ _ _ _ _ H6z.out
    have HOz:Hid (O0 wr Wz):=by rw[<-hWz,<-hVz];exact zCw
    obtain⟨b,hb⟩:=ze (Gj (numOf S.1.l (kF p i)) m);have HSi:Hid (Calls Tryz.prog 91 #[.pointer (some ⟨f,0,none⟩),.slice am nm cm,.agg #[.int .u8 2,.int .i64 (p:Int),.int .i64 (i:Int),.int .i64 0]] Wz fun e w'=>e= .returned (.bool b)/\O0 Wz w'):=HSo.out Wz (HHf.out Wz (xK.out.same HOz.out)) (kF p i) (aiN zBU zAB) b hb;have Jc:=zh hb;clear hz vM hb;go_wp2_with (first
     | (refine wpList_load_mid rfl 130 (.tmp 35) rfl bz (oz+i*2) rfl _ _ hrz.out Tryz.underlying130 rfl zk ?_)
     | (refine wpList_store_row rfl 130 (.tmp 10) (.tmp 36) rfl wr.heap.size #[.string z.version,.bool z.old] rfl rfl 130 #[.string ⟨#[]⟩,.bool false] H6z.out zk rfl zk ?_))
    refine HSi.out.mono ?_;rintro e w4 ⟨rfl,O4⟩;have HN4:=zh (HNi.out.aH (HOz.out.same O4));have KY:Hid (O0 W2 w4):=(xK.out.same HOz.out).same O4;have hB4:=aC HBz.out O4 (fun f=>f);have z0:w4.cell? ⟨wr.heap.size,0,none⟩=some (.string z.version):=by rw[aj hB4];rfl
    clear O4 hB4 HSi hrz H6z;cases b with
    |true=>
     obtain⟨-,g1,-,-⟩:=HN4.out.cells;have gf:w4.frozen? ⟨N,1,none⟩=false:=by simp[World.frozen?,HN4.out.blk]
     have adx:=zh (HN4.out.ver z.version);have hrr:z.version=rv:=by rw[<-HRv.out];exact(afZ HZ.out HFi.out Jc.out).symm
     go_wp2_with fail;go_meet;rw[<-hrr];exact⟨af4.out _ _ KY.out adx.out.2,adx.out.1⟩
    |false=>
     have HF':Hid (∀j,j<i+1->Gj (numOf S.1.l (kF p j)) m=false):=fun j hj=>by
      by_cases hji:j<i;·exact HFi.out j hji
      obtain rfl:j=i:=by omega
      exact Jc.out
     go_wp2_with fail;go_roundw;case rel=>exact⟨KY,i+1,by first|rfl|go_num,by omega,HN4,HF'⟩
     case measure=>simp[RowKit.intOf]<;>omega
   obtain rfl:i=n1:=by omega
   have hrr:(⟨#[]⟩:Str)=rv:=by rw[<-HRv.out];exact(af0 (by rw[MX.out];exact HFi.out)).symm
   go_wp2_with fail;go_meet;rw[<-hrr];exact⟨xK,HNi⟩
 case rest=>
  obtain⟨KY,HN4⟩:=hcut;have hb2:n2<=1000000:=by rw[<-HN2.out];exact hbr.2.1
  have q3:=(HBp.out wc KY.out).2.2;go_upto_block 2 with fail;clear q3;go_cut [] (fun wx=>Hid (O0 W2 wx)/\∃(ao:Option Addr) (ns cs:Nat) (L:List (Str×Str)),Hid (Jq N wx N y.name rv (.slice ao ns cs) dF L []));case first=>
   go_wp2_with fail;go_loopw [50] (fun vi wr=>Hid (O0 W2 wr)/\∃j:Nat,vi= .int .i64 j/\j<=n2/\∃(ao:Option Addr) (ns cs:Nat) (L:List (Str×Str)),Hid (Jq N wr N y.name rv (.slice ao ns cs) dF L [])/\L.length<=j/\Hid (L.length=ns)) (fun v _=>n2-(RowKit.intOf v).toNat);case atStart=>exact⟨KY,0,rfl,qE _,none,0,0,[],HN4,qH _,rfl⟩
   case round=>
    obtain⟨wj,rfl⟩:=zB wr;obtain⟨Di,j,rfl,hj,ao,ns,cs,L,HNj,hL,XP⟩:=hrel;by_cases cj:j<n2
    ·have WJ:=zw (j+1);obtain⟨u,hu⟩:=zG y.vars j (by rw[HN2.out];exact cj);have RY:=hbr.2.2 u (qT hu);obtain⟨bu,ou,au,nu,cu,eu,N0u,-,al7⟩:=Fj (HVl.out wj Di.out) hu;first|subst eu| (simp only[qG,qO,and_true]at eu;obtain⟨rfl,rfl⟩:=eu)
     have HEu:=zh al7;have HNu:=zh N0u;rw[N0u]at RY;have FI:=zh (HEu.out wj zr).1;obtain⟨Vu,hVu⟩:=ze (wj.alloc (.cells #[.string ⟨#[]⟩,.slice none 0 0] 145));have H6u:Hid (Vu.heap[wj.heap.size]? =some (.cells #[.string ⟨#[]⟩,.slice none 0 0] 145)):=by rw[<-hVu];exact qL wj _
     obtain⟨Wu,hWu⟩:=ze (Vu.setRow wj.heap.size #[.string u.name,.slice au nu cu]);have HBu:Hid (Wu.heap[wj.heap.size]? =some (.cells #[.string u.name,.slice au nu cu] 145 (0,0))):=by rw[<-hWu];exact setRow_heap _ _ _ _ _ _ H6u.out
     have HOu:Hid (O0 wj Wu):=by rw[<-hWu,<-hVu];exact zCw
     have apD:=zh (HNj.out.aH HOu.out);have u1:Wu.cell? ⟨wj.heap.size,1,none⟩=some (.slice au nu cu):=by rw[aj HBu.out];rfl
     have HUu:Hid (∀W,O0 Wu W->W.cell? ⟨wj.heap.size,0,none⟩=some (.string u.name)):=fun W ho=>by rw[aj (aC HBu.out ho (fun f=>f))];rfl
     clear hu N0u al7;go_upto_block 3 with fail;go_cut [] (fun wx=>Hid (O0 W2 wx)/\∃(ao:Option Addr) (ns cs:Nat) (L:List (Str×Str)),Hid (Jq N wx N y.name rv (.slice ao ns cs) dF L [])/\L.length<=j+1/\Hid (L.length=ns));case first=>
      go_wp2_with (first
       | (refine wpList_load_mid rfl 145 (.tmp 53) rfl bu (ou+j*2) rfl _ _ FI.out Tryz.underlying145 rfl zk ?_)
       | (refine wpList_store_row rfl 145 (.tmp 12) (.tmp 54) rfl wj.heap.size #[.string u.name,.slice au nu cu] rfl rfl 145 #[.string ⟨#[]⟩,.slice none 0 0] H6u.out zk rfl zk ?_))
      clear u1 FI H6u;go_loopw [58] (fun vi wk=>Hid (O0 Wu wk)/\∃k:Nat,vi= .int .i64 k/\k<=nu) (fun v _=>nu-(RowKit.intOf v).toNat);case atStart=>exact⟨show Hid _ from Only.refl _ _,0,rfl,qE _⟩
      case round=>
       obtain⟨wk,rfl⟩:=zB wr;obtain⟨vw,k,rfl,hk⟩:=hrel;have HWk:Hid (O0 W2 wk):=(Di.out.same HOu.out).same vw.out;have HNk:=zh (apD.out.aH vw.out);by_cases ck:k<nu
       ·have TI:=zw (k+1);obtain⟨s,hs⟩:=zG u.values k (by rw[HNu.out];exact ck);obtain⟨bs,os,es,-,Ea⟩:=zL (HEu.out wk (HOu.out.same vw.out)).2.1 hs;first|subst es| (simp only[qG,qO,and_true]at es;obtain⟨rfl,rfl⟩:=es)
        have qs:=(Ea wk zr).1 0 _ rfl;rw[yH,qF]at qs;obtain⟨b,hb⟩:=ze (Gj (numOf S.1.l (lZ p j k)) m);have HSk:Hid (Calls Tryz.prog 91 #[.pointer (some ⟨f,0,none⟩),.slice am nm cm,.agg #[.int .u8 3,.int .i64 (p:Int),.int .i64 (j:Int),.int .i64 (k:Int)]] wk fun e w'=>e= .returned (.bool b)/\O0 wk w'):=HSo.out wk (HHf.out wk HWk.out) (lZ p j k) (aiO zBl zBU zAB) b hb;clear hs Ea hb;go_wp2_with fail;refine HSk.out.mono ?_;rintro e w7 ⟨rfl,O7⟩;have pG:=zh (vw.out.same O7);have HW7:=zh (HWk.out.same O7);have HN7:=zh (HNk.out.aH O7);clear O7 HSk qs;cases b with
        |true=>
         have JM:Hid (O0 w7 (w7.alloc (.cells #[.string u.name,.string s] 117))):=zr.alloc _;have HN8:=zh (HN7.out.aH JM.out);obtain⟨-,-,c8,-⟩:=HN7.out.cells;have u0:=HUu.out w7 pG.out;have HNw:Hid (∀j t,[Value.string u.name,.string s][j]? =some t->(w7.alloc (.cells #[.string u.name,.string s] 117)).cell? ((⟨w7.heap.size,0,none⟩:Addr).add j)=some t):=fun j t ht=>Et (qL _ _) ht;have hNs:=XP.out;have aiP:=HN8.out.N9;rw[hNs]at aiP;have rG:=zh aiP;have au5:ns<=1000000:=zAB;clear aiP hNs;go_wp2_with (at_builtin;go_must (refine wpA (news:=[.string u.name,.string s]) aiM rfl (.tmp 71) (.tmp 76) rfl rfl rG.out (ad:=⟨w7.heap.size,0,none⟩) (m:=1) (c:=1) rfl rfl HNw.out (by simp[Value.oneCell']) zBY zAB ?_));intro v' w10 r1 r2 r3 r4 r5;have hB7:N<=w7.heap.size:=by have:=HW7.out.size;omega
         have hnx:=HN7.out.set JM.out (s:=(u.name,s)) (by rw[XP.out];exact r1) (zr.grown r2 fun k hk=>.inl hk) (by simpa using r3) hB7;have kN:=zh hnx.2.2.1;have c10:=hnx.1;have f10:=hnx.2.1;have adG:=zh (af4.out _ _ HW7.out hnx.2.2.2);obtain⟨ga,au6,hv',-,-⟩:=aJ r1;subst hv';clear hnx r1 r2 r3 r5 hB7 c8 HN7 HN8 HNw JM;go_wp2_with fail;go_meet;exact⟨adG,_,_,_,_,kN,by rw[qK,List.length_singleton];omega,(show(L++[(u.name,s)]).length=ns+1 by rw[qK,List.length_singleton,XP.out])⟩
        |false=>
         go_wp2_with fail;go_roundw;case rel=>exact⟨pG,k+1,by first|rfl|go_num,by omega⟩
         case measure=>simp[RowKit.intOf]<;>omega
       obtain rfl:k=nu:=by omega
       go_wp2_with fail;go_meet;exact⟨HWk,ao,ns,cs,L,HNk,by omega,XP⟩
     case rest=>
      clear u1 FI H6u;obtain⟨Ar,ao',ns',cs',L',HN5,hL',apF⟩:=hcut;go_wp2_with fail;go_roundw;case rel=>exact⟨Ar,j+1,by first|rfl|go_num,by omega,ao',ns',cs',L',HN5,hL',apF⟩
      case measure=>simp[RowKit.intOf]<;>omega
    obtain rfl:j=n2:=by omega
    go_wp2_with fail;go_meet;exact⟨Di,ao,ns,cs,L,HNj⟩
  case rest=>
   obtain⟨Ar,ao,ns,cs,L,HN5⟩:=hcut;have q5:=HF.out wc (HHf.out wc Ar.out);have Dt:Hid (Calls Tryz.prog 74 #[.pointer (some ⟨c,0,none⟩)] wc fun e w'=> ∃v',e= .returned v'/\w'.ownsRow 0 3 1 v' (intsOf D.l).length ((intsOf D.l).map cI)/\(∀k,v'.ownBlock=some k->wc.heap.size<=k)/\O0 wc w'):=by have hg:=H0.out.gr.aH (HHf.out wc Ar.out);exact x9 hg.gr hg.l zBK
   obtain⟨nl,hnl⟩:=ze D.l.length;have uh:=zh hnl;have hil:(intsOf D.l).length=nl:=by unfold intsOf;rw[qM,hnl]
   rw[hil]at Dt;rw[hnl]at hln;clear hnl hil;go_wp2_with fail;refine Dt.out.mono ?_;rintro e W6 ⟨vl,rfl,rl,nl1,O6⟩;obtain⟨al,cl,rfl,-,-⟩:=aJ rl;have JD:=zh (Ar.out.same O6);have HN6:=zh (HN5.out.aH O6);clear O6 Dt q5 nl1;go_upto_block 6 with fail;go_cut [] (fun wx=>Hid (O0 W2 wx)/\∃(a9:Option Addr) (ne ce:Nat) (M:List Str),Hid (Jq N wx N y.name rv (.slice ao ns cs) (.slice a9 ne ce) L M)/\M.length<=nl/\Hid (M.length=ne));case first=>
    go_wp2_with fail;go_loopw [87] (fun vi wr=>Hid (O0 W2 wr)/\Hid (wr.ownsRow 0 3 1 (.slice al nl cl) nl ((intsOf D.l).map cI))/\∃j:Nat,vi= .int .i64 j/\j<=nl/\∃(a9:Option Addr) (ne ce:Nat) (M:List Str),Hid (Jq N wr N y.name rv (.slice ao ns cs) (.slice a9 ne ce) L M)/\M.length<=j/\Hid (M.length=ne)) (fun v _=>nl-(RowKit.intOf v).toNat);case atStart=>exact⟨JD,rl,0,rfl,qE _,none,0,0,[],HN6,qH _,rfl⟩
    case round=>
     obtain⟨wj,rfl⟩:=zB wr;obtain⟨Di,HRj,j,rfl,hj,a9,ne,ce,M,HNj,hL,XP⟩:=hrel;by_cases cj:j<nl
     ·have WJ:=zw (j+1);obtain⟨t,ht⟩:=zG D.l j zA6;have htx:=HLl.out t (qT ht);rw[kN.out]at htx;obtain⟨b9,e9,hct⟩:=mO HRj.out uh.out ht;first|subst e9| (simp only[qG,qO,and_true]at e9;subst e9)
      obtain⟨b,hb⟩:=ze (Gj (numOf S.1.l (iV p t)) m);have HSk:Hid (Calls Tryz.prog 91 #[.pointer (some ⟨f,0,none⟩),.slice am nm cm,.agg #[.int .u8 5,.int .i64 (p:Int),.int .i64 (t:Int),.int .i64 0]] wj fun e w'=>e= .returned (.bool b)/\O0 wj w'):=HSo.out wj (HHf.out wj Di.out) (iV p t) (YX ⟨by omega,by omega⟩ ⟨by omega,by omega⟩) b hb;clear ht hb;go_wp2_with fail;refine HSk.out.mono ?_;rintro e w7 ⟨rfl,O7⟩;have pG:=zh (Di.out.same O7);have TS:=zh (aG HRj.out O7 (fun _ _ f=>f));have HN7:=zh (HNj.out.aH O7);clear O7 HSk hct;cases b with
      |true=>
       obtain⟨yt,hyt⟩:=zG D.x.packs t (by rw[kN.out];exact htx);have hrr:=(HXp.out w7 (HHf.out w7 pG.out)) t yt hyt;obtain⟨-,-,-,c8⟩:=HN7.out.cells;have qf:=HF.out w7 (HHf.out w7 pG.out);have hN7:=HN7.out.nnew;have hNe:=XP.out;have hown:=HN7.out.L6;rw[hNe]at hown;have hfN:f<N:=by have h1:=bU H0.out.blk;have h2:=iO.out.size;omega
       have hbN:bk<N:=by have h1:=World.block_lt_of_cell? _ _ hrr;have h2:=iO.out.size;have h3:=(HBk.out);omega
       have rG:Hid (∀W,O0 w7 W->W.ownsRow 0 9 1 (.slice a9 ne ce) ne (fH M)):=fun W o=>aG hown o fun _ _ f=>f;have hNb:∀k,(Value.slice a9 ne ce).ownBlock=some k->k≠N:=fun k hk e=>jV zAD hown HN7.out.blk (e▸hk);have HS:Hid (∀W,Only (fun k=>(Value.slice a9 ne ce).ownBlock=some k) w7 W->W.cell? ⟨N,3,none⟩=some (.slice a9 ne ce)/\W.cell? ⟨f,0,none⟩=some (.pointer (some ⟨c,0,none⟩))/\W.cell? ⟨bk,off+t*8,none⟩=some (.string yt.name)):=fun W o=>
        ⟨aY c8 o (fun h=>hNb _ h rfl),aY qf o (fun h=>by have:=hN7 _ h;omega),aY hrr o (fun h=>by have:=hN7 _ h;omega)⟩
       have apH:Hid (∀W,O0 w7 W->O0 w W):=fun W h=>(HHf.out w7 pG.out).same h;have hS0:=HS.out w7.drew zr.drew;have hneb:ne<=1000000:=zAB;have hB7:N<=w7.heap.size:=by have:=pG.out.size;omega
       have hHB:bk=bk:=rfl;clear hyt hrr c8 qf hown hfN hbN hHB hNe;go_wp2_with fail;refine bC (n:=16) (E:=fun j=>j==15) (S:=(fun W:World=>W.cell? ⟨N,3,none⟩=some (.slice a9 ne ce)/\W.cell? ⟨f,0,none⟩=some (.pointer (some ⟨c,0,none⟩))/\W.cell? ⟨bk,off+t*8,none⟩=some (.string yt.name))) zk rfl hS0 (fun hHeld=>?_);refine tW 0 ?_;refine tK 1 ?_;refine tW 2 ?_;refine tW 3 ?_;refine tW 4 ?_;refine tK 5 ?_;refine tW 8 ?_;refine tO 6 fun K hK=>?_;(go_simp;refine(Ig.out _ (apH.out _ zBT)).mono ?_;rintro e w8 ⟨rfl,O8⟩;have o8:O0 w7 w8:=Only.same (F:=fun _=>False) zAA O8;try go_wp2_with fail);refine hK.out _ _ ?_ (fun hHeld=>?_);·exact zCq
       clear hK K;try simp only[Act.put,eF,fA,eG,dW,dX,dY]
       refine tW 7 ?_;refine tW 9 ?_;refine tW 10 ?_;refine tK 11 ?_;refine tO 12 fun K hK=>?_;go_simp;refine hK.out _ _ ?_ (fun hHeld=>?_);·exact zCq
       clear hK K;try simp only[Act.put,eF,fA,eG,dW,dX,dY]
       refine tO 13 fun K hK=>?_;(refine G9 zM (by rfl) (.tmp 98) (.tmp 109) (by rfl) (by rfl) (rG.out _ zBw) (by rfl) (news:=[.string yt.name]) (by rfl) (by intro h;cases h) (fun ad hd j u hu=>by cases hd;exact Et zB1 hu) (by intro u hu;simp at hu;subst hu;rfl) zAB zBV ?_;intro ao5 cap5 w10 r5 o5 nr5;have oA:Only (fun k=>(Value.slice a9 ne ce).ownBlock=some k) w7 w10:=Only.same (F:=fun k=>(Value.slice a9 ne ce).ownBlock=some k) (Only.mono (F:=fun _=>False) zBm fun _ f=>f.elim) o5;have hnx:=HN7.out.need (w9:=w7) (w10:=w10) zr (s:=yt.name) (by rw[XP.out];exact r5) oA (fun k hk=>by rcases nr5 k hk with h|h;exact Or.inl h;exact Or.inr (qR (o8.size) (by simp at h;omega))) hB7);refine hK.out _ _ ?_ (fun hHeld=>?_);·(try dsimp only)<;>(exact HS.out _ oA)
       clear hK K;try simp only[Act.put,eF,fA,eG,dW,dX,dY]
       refine tW 14 ?_;refine fF (rs:=[15]) zk zAF ?_;refine bQ.late (i:=15) rfl zk (fun K hK=>?_) ?_
       ·(obtain⟨c10,f10,adH,o11⟩:=hnx;have kN:=zh adH;have adG:=zh (af4.out _ _ pG.out o11);have aiQ:=zh (aG (aG TS.out oA (fun k hk h=>LZ zBV (rG.out w7 zr) TS.out h hk)) ((Only.refl (fun k=>k=N) w10).setCell (p:=⟨N,3,none⟩) (.inl rfl) (.slice ao5 (ne+1) cap5)) (fun k hk h=>jV zAD TS.out HN7.out.blk (h▸hk)));clear adH o11 oA o5 nr5 r5;go_simp);refine hK.out _ _ ?_;clear hK K;try simp only[Act.put,eF,fA,eG,dW,dX,dY]
        refine bf zk ?_ _;go_wp2_with fail;go_roundw;case rel=>exact⟨adG,aiQ,j+1,by first|rfl|go_num,by omega,_,_,_,_,kN,by rw[qK,List.length_singleton];omega,(show(M++[yt.name]).length=ne+1 by rw[qK,List.length_singleton,XP.out])⟩
        case measure=>simp[RowKit.intOf]<;>omega
       exact bQ.nil
      |false=>
       go_wp2_with fail;go_roundw;case rel=>exact⟨pG,TS,j+1,by first|rfl|go_num,by omega,a9,ne,ce,M,HN7,by omega,XP⟩
       case measure=>simp[RowKit.intOf]<;>omega
     obtain rfl:j=nl:=by omega
     go_wp2_with fail;go_meet;exact⟨Di,a9,ne,ce,M,HNj,hL,XP⟩
   case rest=>
    obtain⟨JM,a9,ne,ce,M,HN8,hM,XP⟩:=hcut;obtain⟨-,-,-,c8⟩:=HN8.out.cells;have hown:=HN8.out.L6;rw[XP.out]at hown;have hneb:ne<=1000000:=by have:=XP.out;omega
    have GR:=zh (Rk XP.out hown hneb);clear hown;go_wp2_with fail;refine GR.out.mono ?_;rintro e w9 ⟨rfl,r9,O9⟩;have hn9:=HN8.out.sorted (by rw[XP.out];exact r9) O9;have HN9:=zh hn9.1;have BZ:=zh (af4.out _ _ JM.out hn9.2);have HRb:Hid (w9.heap[w.heap.size]? =some (.cells #[.string ⟨#[]⟩,.string ⟨#[]⟩,.slice none 0 0,.slice none 0 0] 83)):=aC HR1.out (FQ.out.same BZ.out) (fun f=>f);have hrow:Hid (w9.rangeAt N 0 [.string y.name,.string rv,.slice ao ns cs,.slice a9 ne ce]):=fun i u hu=>by
     obtain⟨g0,g1,g2,g3⟩:=HN9.out.cells
     match i,hu with
     |0,hu=>simp at hu;subst hu;exact g0
     |1,hu=>simp at hu;subst hu;exact g1
     |2,hu=>simp at hu;subst hu;exact g2
     |3,hu=>simp at hu;subst hu;exact g3
     |i+4,hu=>simp at hu
    have hH9:=HHf.out w9 BZ.out;have HH9:=zh hH9;clear r9 O9 hn9 GR c8 hH9;go_wp2_with (first
     | (refine wpList_load_mid rfl 83 (.tmp 8) rfl N 0 rfl _ _ hrow.out Tryz.underlying83 rfl zk ?_)
     | (refine wpList_store_row rfl 83 (.tmp 6) (.tmp 116) rfl w.heap.size #[.string y.name,.string rv,.slice ao ns cs,.slice a9 ne ce] rfl rfl 83 #[.string ⟨#[]⟩,.string ⟨#[]⟩,.slice none 0 0,.slice none 0 0] HRb.out zk rfl zk ?_))
    have HZ:Hid ((w9.setRow w.heap.size #[.string y.name,.string rv,.slice ao ns cs,.slice a9 ne ce]).heap[w.heap.size]? =some (.cells #[.string y.name,.string rv,.slice ao ns cs,.slice a9 ne ce] 83 (0,0))):=setRow_heap _ _ _ _ _ _ HRb.out;(try simp only[Exit.inBlock,Exit.then]);refine bodyPost_ret (results_cell_row rfl _ _ w.heap.size 83 #[.string y.name,.string rv,.slice ao ns cs,.slice a9 ne ce] (0,0) _ rfl HZ.out Tryz.underlying83 rfl zk) rfl ?_;exact⟨⟨y.name,rv,ao,ns,cs,a9,ne,ce⟩,rfl,rfl,rfl,HH9.out.trans (aP _ _ _) fun k hk=>.inr (yG hk.symm)⟩
end
end Go.Proofs.YtdmmebjjojimiaaGreatDoor
