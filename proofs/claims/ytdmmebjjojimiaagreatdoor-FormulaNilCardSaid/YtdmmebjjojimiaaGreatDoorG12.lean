/- Which literals are so, what follows of a clause, passes over clauses: plain functions.; The walks of cooperref18: Value, Follows, Right. -/
import Derived.Test.YtdmmebjjojimiaaGreatDoorG07
import Derived.Test.YtdmmebjjojimiaaGreatDoorG04
import Derived.Test.YtdmmebjjojimiaaGreatDoorG10
import Derived.Deep.CutBlock
import Derived.Deep.DeepCutAuto
set_option maxRecDepth 100000
set_option maxHeartbeats 8000000
set_option linter.all false
namespace Go.Proofs.YtdmmebjjojimiaaGreatDoor
namespace fA
def value(l:List Int)(x:Int):Int:=
 match l with
 | []=>0
 |y::r=>if y=x then 1 else if y= -x then -1 else value r x
end fA
namespace fA
def andThen(p:List Int×Bool)(f:List Int->List Int×Bool):List Int×Bool:=if p.2 then (p.1,true)else f p.1
end fA
end Go.Proofs.YtdmmebjjojimiaaGreatDoor
namespace Go.Proofs.YtdmmebjjojimiaaGreatDoor
open Go.RowKit
namespace fA
def ajH(k x:Int):Bool:= !wr x&&decide ((x.natAbs:Int)<=k)
def right(k:Int)(c:List Int):Bool:=c.all (ajH k)&&(form c).isSome
theorem XR{α:Type}(p:α->Bool){c:List α}{k:Nat}(d:α)(h:k<c.length):(c.drop k).all p=(p (c.getD k d)&&(c.drop (k+1)).all p):=by
 rw[List.drop_eq_getElem_cons h,List.all_cons];have e:c.getD k d=c[k]:=by simp[qC,h]
 rw[e]
end fA
end Go.Proofs.YtdmmebjjojimiaaGreatDoor
namespace Go.Proofs
theorem zDi{p:Prop}(h:p:=by
 rintro e w' ⟨rfl,rfl⟩
 go_wp2_with fail
 refine(HAt.out _).mono ?_
 rintro e w' ⟨rfl,rfl⟩
 go_wp2_with fail
 exact zBi):p:=h
theorem zDp{p:Prop}(h:p:=by
 go_enter Tryz.func40,Tryz.ntmps40
 go_wp2_with fail
 refine(vG x hx false HW.out).mono ?_
 rintro e w' ⟨rfl,rfl⟩
 go_wp2_with fail
 refine(HAt.out _).mono ?_
 exact zDi):p:=h
theorem zDq{p:Prop}(h:p:=by
 go_enter Tryz.func40,Tryz.ntmps40
 go_wp2_with fail
 refine(vG x hx false HW.out).mono ?_
 exact zDi):p:=h
end Go.Proofs
namespace Go.Proofs.YtdmmebjjojimiaaGreatDoor
open Go.RowKit
structure Bools (w:World) (v:Value) (bs:List Bool):Prop where
 shape:∃ao cap,v= .slice ao bs.length cap/\bs.length<=cap/\cap<=9223372036854775807
 cells:∀ao len cap,v= .slice ao len cap->0<bs.length->∃b off,ao=some ⟨b,off,none⟩/\b<w.heap.size/\∀i,i<bs.length->w.cell? ⟨b,off+i,none⟩=some (.bool (bs.getD i false))
theorem Bools.aF{w w':World}{v:Value}{bs:List Bool}(h:Bools w v bs)(ho:O0 w w'):Bools w' v bs:=by refine⟨h.shape,fun ao len cap hv hp=>?_⟩;obtain⟨b,off,rfl,hb,hc⟩:=h.cells ao len cap hv hp;refine⟨b,off,rfl,Nat.lt_of_lt_of_le hb ho.size,fun i hi=>?_⟩;rw[World.cell?_of_block (w:=w) (ho.block b hb (fun f=>f))];exact hc i hi
theorem Bools.dF{w:World}{v:Value}{bs:List Bool}{t:TypeId}(h:w.ownsRow 0 t 1 v bs.length (bs.map Value.bool)):Bools w v bs:=by obtain⟨ao,cap,rfl,h1,h2⟩:=aH h;unfold maxLen at h2;refine⟨⟨ao,cap,rfl,h1,by omega⟩,fun ao' len' cap' hv hp=>?_⟩;exact zDv
namespace fA
def Vo(x:Int)(m:List Bool):Bool:=if wr x then false else if x<0 then !(m.getD (x.natAbs-1) false)else m.getD (x.natAbs-1) false
def holdsB(css:List (List Int))(m:List Bool):Bool:=css.all fun c=>c.any fun x=>Vo x m
end fA
section
variable {w:World}
theorem XT{v:Value}{m:List Bool}(hm:Bools w v m)(x:Int)(hx:aO x)(r:Bool)(hr:fA.Vo x m=r):Calls Tryz.prog 40 #[.int .i64 x,v] w fun e w'=>e= .returned (.bool r)/\w=w':=by
 obtain⟨ao,cap,rfl,hc1,hc2⟩:=hm.shape;subst hr;unfold fA.Vo;cases hw:fA.wr x
 ·have HW:=zh hw;have hl:fA.Lit x:=⟨hx,hw⟩;have hlo:=hl.lo;have hne:=hl.ne0;clear hw hl;simp only[Bool.false_eq_true,if_false];by_cases hle:x.natAbs<=m.length
  ·obtain⟨b,off,rfl,_,hcs⟩:=hm.cells _ _ _ rfl zBB;have q:=hcs (x.natAbs-1) zBB;have d1:decide (x.natAbs<=m.length)=true:=qX hle;have hp:1<=x.natAbs:=zBB;clear hcs;generalize m.getD (x.natAbs-1) false=y at*;have hat:=fun W=>(Nr (w:=W) x hx HW.out);have HAt:=zh hat;clear hat;generalize hna:x.natAbs=na at*;clear hna;by_cases hneg:x<0;·rw[if_pos hneg];have d2:decide (x<0)=true:=qX hneg;exact zDp
   rw[if_neg hneg];have d2:decide (x<0)=false:=qP hneg;exact zDp
  have d1:decide (x.natAbs<=m.length)=false:=qP hle;have hz:m.getD (x.natAbs-1) false=false:=by rw[qC,List.getElem?_eq_none zBB];rfl
  rw[hz];have hat:=fun W=>(Nr (w:=W) x hx HW.out);have HAt:=zh hat;clear hat hz;generalize hna:x.natAbs=na at*;clear hna;by_cases hneg:x<0;·rw[if_pos hneg];have d2:decide (x<0)=true:=qX hneg;exact zDq
  rw[if_neg hneg];have d2:decide (x<0)=false:=qP hneg;exact zDq
 have HW:=zh hw;clear hw;simp only[if_true];go_enter Tryz.func40,Tryz.ntmps40;go_wp2_with fail;refine(vG x hx true HW.out).mono ?_;rintro e w' ⟨rfl,rfl⟩;go_wp2_with fail;exact zBi
theorem XU{α:Type}(p:α->Bool){c:List α}{k:Nat}(d:α)(h:k<c.length):(c.take (k+1)).any p=((c.take k).any p||p (c.getD k d)):=by
 rw[yL h,List.any_append];have e:c.getD k d=c[k]:=by simp[qC,h]
 rw[e];simp
theorem Vp{vcs v:Value}{css:List (List Int)}{m:List Bool}(hI:sH w vcs css)(hm:Bools w v m)(r:Bool)(hr:fA.holdsB css m=r):Calls Tryz.prog 27 #[vcs,v] w fun e w'=>e= .returned (.bool r)/\w=w':=by
 obtain⟨ac,cc,rfl,hc1,hc2⟩:=hI.shape;have hm0:=hm.shape;obtain⟨ao,cap,rfl,_,_⟩:=hm0;have hR:r=(css.drop 0).all fun c=>c.any fun x=>fA.Vo x m:=hr.symm;have HR:=zh hR;clear hr hR;go_enter Tryz.func27,Tryz.ntmps27;go_wp2_with fail;go_loop [10] (fun v=> ∃k:Nat,v= .int .i64 k/\k<=css.length/\r=(css.drop k).all fun c=>c.any fun x=>fA.Vo x m) (fun v=>css.length-(intOf v).toNat);case atStart=>exact⟨0,rfl,qE _,HR.out⟩
 case round=>
  clear HR;obtain⟨k,rfl,hk,hR⟩:=hrel;by_cases ck:k<css.length
  ·obtain⟨b,off,u,rfl,_,q,hu⟩:=hI.at ck;obtain⟨au,cu,rfl,hu1,hu2⟩:=hu.shape;rw[fA.XR _ [] ck]at hR;have HR:=zh hR;clear hR;have kb:(k:Int)<(css.length:Int):=zBB;generalize css.getD k []=c at*;go_wp2_with fail;go_loop [6,18] (fun vf v=> ∃j:Nat,v= .int .i64 j/\j<=c.length/\vf= .bool ((c.take j).any fun x=>fA.Vo x m)) (fun _ v=>c.length-(intOf v).toNat);case atStart=>exact⟨0,rfl,qE _,rfl⟩
   case round=>
    obtain⟨j,rfl,hj,rfl⟩:=hrel;by_cases cj:j<c.length
    ·obtain⟨b2,off2,rfl,_,hcs⟩:=hu.cells _ _ _ rfl zBB;have q2:=hcs j cj;have hx:=hu.range' j;have hat:=XU (fun x=>fA.Vo x m) 0 cj;have jb:(j:Int)<(c.length:Int):=zBB;clear hcs;generalize c.getD j 0=x at*;have HAT:=zh hat;have HX:=zh hx;clear hat hx;cases hf:(c.take j).any fun x=>fA.Vo x m
     ·have HF:=zh hf;clear hf;cases hs:fA.Vo x m
      ·have HS:=zh hs;clear hs;go_wp2_with fail;refine(XT hm x HX.out false HS.out).mono ?_;rintro e w' ⟨rfl,rfl⟩;go_wp2_with fail;go_round;case rel=>exact⟨j+1,by go_num,by omega,by rw[HAT.out,HF.out,HS.out];rfl⟩
       case measure=>simp[intOf];omega
      have HS:=zh hs;clear hs;go_wp2_with fail;refine(XT hm x HX.out true HS.out).mono ?_;rintro e w' ⟨rfl,rfl⟩;go_wp2_with fail;go_round;case rel=>exact⟨j+1,by go_num,by omega,by rw[HAT.out,HF.out,HS.out];rfl⟩
      case measure=>simp[intOf];omega
     have HF:=zh hf;clear hf;go_wp2_with fail;go_round;case rel=>exact⟨j+1,by go_num,by omega,by rw[HAT.out,HF.out];rfl⟩
     case measure=>simp[intOf];omega
    have hj':j=c.length:=by omega
    have hte:c.take j=c:=by rw[hj'];exact qI (qH _)
    rw[hte];cases hf:c.any fun x=>fA.Vo x m
    ·have hrf:r=false:=by rw[HR.out,hf];rfl
     have HRF:=zh hrf;clear hrf hte hf;go_wp2_with fail;go_ret;rw[HRF.out];exact⟨rfl,rfl⟩
    have HF:=zh hf;clear hf hte;go_wp2_with fail;go_round;case rel=>exact⟨k+1,by go_num,by omega,by rw[HR.out,HF.out];simp⟩
    case measure=>simp[intOf];omega
  have hrt:r=true:=by rw[hR,List.drop_of_length_le zBB];rfl
  have TU:=zh hrt;clear hrt hR;go_wp2_with fail;go_ret;rw[TU.out];exact⟨rfl,rfl⟩
end
section
variable {w w':World} {B:Nat}
def dZ(l:List Str):List Value:=l.map Value.string
theorem vJ:uZ Tryz.prog 81 9 1 16:=uZ.mk' (z:=.string .empty) Tryz.underlying81 zk rfl zAC
theorem pI{v:Value}{l:List Str}{n:Nat}(hn:l.length=n)(h:w.ownsRow 0 9 1 v n (dZ l))(hk:∀s∈l,okS s):aJ 1 dK w.heap.size w v l:=by
 subst hn;refine aJ.dF h fun i hi=>⟨[.string l[i]],rfl,fun j u hu=>?_,rfl,hk _ (qZ hi)⟩;obtain rfl:j=0:=by have:=(qJ.1 hu).1;simpa using this
 simp at hu;subst hu;simp[dZ,hi]
theorem Jh{s:Str}(h:s.size=0):s=⟨#[]⟩:=by have:s.data.size=0:=h;cases s with|mk d=>simp at this;rw[this]
end
section
variable {w w':World} {B:Nat}
def aC.pz(x:aC)(s:Str):Bool:=decide (x.find s<0)&&decide (0<(x.bZ s).length)
end
section
variable {w w':World} {B:Nat}
def NQ(w w':World)(e:Ending):Prop:= ∃b,e= .returned (.bool b)/\O0 w w'
theorem NQ.mk(b:Bool){w w':World}{e:Ending}(he:e= .returned (.bool b))(ho:O0 w w'):NQ w w' e:=⟨b,he,ho⟩
end
def agy(v:fE):Prop:=1<=v.values.length/\v.values.length<=4
def QV(l:List fE):Prop:=l.length<=4/\∀v∈l,agy v
section
variable {w w':World} {B:Nat}
def XY(l:List fE)(w w':World)(e:Ending):Prop:= ∃b,e= .returned (.bool b)/\(b=true->QV l)/\O0 w w'
theorem XY.mk{l:List fE}(b:Bool){w w':World}{e:Ending}(he:e= .returned (.bool b))(hb:b=true->QV l)(ho:O0 w w'):XY l w w' e:=⟨b,he,hb,ho⟩
attribute [local irreducible] wpQuiet
def adl(s:jv)(v:fE):Bool:=decide (v.name=s.name)&&lJ v.values s.value
def NR(p:eP)(s:jv):Bool:=p.vars.any (adl s)
def iG(p:eP)(l:List jv):Bool:=l.all (NR p)
end
section
variable {w w':World} {B:Nat}
attribute [local irreducible] wpQuiet
def QW:List iD->Bool
 | [a]=>a.lo.toList.isEmpty&&a.hi.toList.isEmpty
 |_=>false
def aC.wish(x:aC)(s:fQ):Int:=
 if 0<=x.find s.name then (if iG (x.pack (x.find s.name).toNat) s.sets then 0 else 8)
 else if x.pz s.name then (if 0<s.sets.length then 9 else if QW s.spans then 0 else 9)else 7
end
section
variable {w w':World} {B:Nat}
structure QX (p:eP):Prop where
 some:1<=p.aP.length
 aP:p.aP.length<=10
 vars:QV p.vars
 deps:p.deps.length<=16
 cons:p.cons.length<=8
 bZ:p.provides.length<=4
def NS(p:eP)(w w':World)(e:Ending):Prop:= ∃c:Int,e= .returned (.int .u8 c)/\(0<=c/\c<=255)/\(c=0->QX p)/\O0 w w'
theorem NS.mk{p:eP}(c:Int){w w':World}{e:Ending}(he:e= .returned (.int .u8 c))(hc:0<=c/\c<=255)(hb:c=0->QX p)(ho:O0 w w'):NS p w w' e:=⟨c,he,hc,hb,ho⟩
def yV(l:List jY)(j:Nat):List Str:=(l.take j).map jY.version
theorem NT{l:List jY}{j:Nat}{r:jY}(h:l[j]? =some r):yV l (j+1)=yV l j++[r.version]:=by unfold yV;rw[List.take_add_one,h];simp
end
section
variable {w w':World} {B:Nat}
def jS(x:aC)(p:eP)(d:oO):Int:=if x.wish d.on=0/\iG p d.cond.sets=false then 8 else x.wish d.on
def jm(x:aC)(p:eP)(d:uh):Int:=if iG p d.cond.sets=false then 8 else if d.with'.name.toList.isEmpty=true then 0 else if x.find d.with'.name<0 then 7 else x.wish d.with'
def jw(x:aC)(p:eP):Int×Int:=
 match p.deps.find? fun d=>decide (jS x p d≠0)with
 |some d=>(jS x p d,d.line)
 |none=>match p.cons.find? fun d=>decide (jm x p d≠0)with
  |some d=>(jm x p d,d.line)
  |none=>(0,0)
theorem Fb{α:Type}{f:α->Int}{l:List α}{i:Nat}{d:α}(h:∀d∈l.take i,f d=0)(hd:l[i]? =some d)(hn:f d≠0):(l.find? fun d=>decide (f d≠0))=some d:=by
 obtain⟨hlt,rfl⟩:=qJ.1 hd;have e:∀g:α->Bool,l.find? g=(l.take i++l[i]::l.drop (i+1)).find? g:=fun g=>by rw[<-List.drop_eq_getElem_cons hlt,List.take_append_drop]
 rw[e,List.find?_append,List.find?_eq_none.2 (fun d hd=>by simp[h d hd]),Option.none_or,List.find?_cons_of_pos (by simpa using hn)]
theorem Fe{α:Type}{f:α->Int}{l:List α}(h:∀d∈l,f d=0):(l.find? fun d=>decide (f d≠0))=none:=
 List.find?_eq_none.2 fun d hd=>by simp[h d hd]
theorem Fg{x:aC}{p:eP}{i:Nat}{d:oO}{c:Int}(h:∀d∈p.deps.take i,jS x p d=0)(hd:p.deps[i]? =some d)(hc:jS x p d=c)(hn:c≠0):jw x p=(c,d.line):=by subst hc;unfold jw;rw[Fb h hd hn]
theorem yX{x:aC}{p:eP}{i:Nat}{d:uh}{c:Int}(h0:∀d∈p.deps,jS x p d=0)(h:∀d∈p.cons.take i,jm x p d=0)(hd:p.cons[i]? =some d)(hc:jm x p d=c)(hn:c≠0):jw x p=(c,d.line):=by subst hc;unfold jw;rw[Fe h0,Fb h hd hn]
theorem QY{x:aC}{p:eP}(h0:∀d∈p.deps,jS x p d=0)(h:∀d∈p.cons,jm x p d=0):jw x p=(0,0):=by unfold jw;rw[Fe h0,Fe h]
theorem aU(w:World)(g:Nat)(cs:Array Value):Only (fun k=>k=g) w (w.setRow g cs):=
 ⟨rfl,rfl,rfl,by simp[World.setRow],fun k hk hn=>by
  unfold World.setRow
  simp only[Array.getElem?_modify]
  rw[if_neg (fun e=>hn e.symm)]⟩
theorem Ky{fn:Func}{p:Tmp}{ty:TypeId}(h:fn.results= #[.cell p ty])(tmps:Array Value)(P:Program)(w:World):(results fn tmps).run P w=((asAddr (tmps.getD p undef)).run P w).andThen fun a w₁=>(loadVar ty a).run P w₁:=by simp only[results,h];simp[Sem.run_bind,Result.andThen]
theorem gW{fn:Func}{p:Tmp}{Q:Ending->World->Prop}{a:Act}{W:World}{B:Nat}{cs:Array Value}(hf:fn.results= #[.cell p 43])(hp:a.tmps.getD p undef= .pointer (some ⟨B,0,none⟩))(hd:a.defers=[])(hs:cs.size=2)(hg:W.heap[B]? =some (.cells cs 43 (0,0)))(h:Q (.returned (.agg cs)) W):bodyPost Tryz.prog fn Q Exit.ret a W:=by refine bodyPost_ret (v:=.agg cs) ?_ hd h;rw[Ky hf,hp];simp only[asAddr,Sem.run_pure,Result.andThen_ok];exact run_loadVar_row W B 43 43 cs (0,0) _ hg Tryz.underlying43 rfl (by rw[hs];kernel_rfl)
end
section
variable {w w':World} {B:Nat}
attribute [local irreducible] wpQuiet
def Ud(F:Prop)(w w':World)(e:Ending):Prop:= ∃c l:Int,e= .returned (.agg #[.int .u8 c,.int .i64 l])/\(c=0->F)/\O0 w w'
theorem Ud.mk{F:Prop}(c l:Int){w w':World}{e:Ending}(he:e= .returned (.agg #[.int .u8 c,.int .i64 l]))(hf:c=0->F)(ho:O0 w w'):Ud F w w' e:=⟨c,l,he,hf,ho⟩
end
section
variable {w w':World} {B:Nat}
attribute [local irreducible] wpQuiet
structure Ue (x:aC) (q:dG):Prop where
 packs:x.packs.length<=8
 all:∀p∈x.packs,QX p
 roots:q.roots.length<=8
end
section
variable {w w':World} {B:Nat}
def tJ(w w':World)(v:Value):Prop:= ∃l:List Str,w'.ownsRow 0 9 1 v l.length (dZ l)/\(∀s∈l,okS s)/\(∀k,v.ownBlock=some k->w.heap.size<=k)/\l.length<=1000000000
theorem tJ.aF{w0:World}{v:Value}(h:tJ w0 w v)(ho:O0 w w'):tJ w0 w' v:=by obtain⟨l,h1,h2,h3,h4⟩:=h;exact⟨l,aB h1 ho (fun _ _ f=>f),h2,h3,h4⟩
theorem tJ.row{w0:World}{v:Value}(h:tJ w0 w v):∃l:List Str,aJ 1 dK w.heap.size w v l/\l.length<=1000000000:=by obtain⟨l,h1,h2,h3,h4⟩:=h;exact⟨l,pI rfl h1 h2,h4⟩
end
section
variable {w w':World} {B:Nat}
def LV(P:Prop)(w w':World)(e:Ending):Prop:= ∃b,e= .returned (.bool b)/\(b=true->P)/\O0 w w'
theorem LV.mk{P:Prop}(b:Bool){w w':World}{e:Ending}(he:e= .returned (.bool b))(h:b=true->P)(ho:O0 w w'):LV P w w' e:=⟨b,he,h,ho⟩
end
end Go.Proofs.YtdmmebjjojimiaaGreatDoor
namespace Go.Proofs
theorem zEB{p:Prop}(h:p:=by
 obtain⟨g,cap,rfl,_,_⟩:=dB h2 zBB
 simpa[Value.blk,Value.ownBlock]using hk):p:=h
end Go.Proofs
namespace Go.Proofs.YtdmmebjjojimiaaGreatDoor
open Go.RowKit
theorem Vr{w:World}{base:Nat}{e:TypeId}{size:Nat}{v:Value}{n:Nat}{xs:List Value}(h:w.ownsRow base e size v n xs):w.ownsRow 0 e size v n xs:=⟨h.1,h.2.imp id fun⟨g,cap,cur,a,_,c⟩=>⟨g,cap,cur,a,qE _,c⟩⟩
def kS(w:World)(e:TypeId)(v:Value)(us:List Value):Prop:=
 (v=bK/\us=[])\/ ∃g o cap cur,v= .slice (some ⟨g,o,none⟩) us.length cap/\w.heap[g]? =some (.cells cur e (0,0))/\us.length<=cap/\cap<=maxLen/\(∀j,j<cap->o+j<cur.size)/\∀j u,us[j]? =some u->cur[o+j]? =some u
theorem kS.nilRow(w:World)(e:TypeId):kS w e bK []:=.inl ⟨rfl,rfl⟩
theorem kS.dF{w:World}{e:TypeId}{v:Value}{us:List Value}(h:w.ownsRow 0 e 1 v us.length us):kS w e v us:=by
 rcases h.2 with⟨rfl,h2⟩| ⟨g,cap,cur,rfl,_,hg,h1,h2,h3,h4⟩;·exact .inl ⟨rfl,yF h2⟩
 refine .inr ⟨g,0,cap,cur,rfl,hg,h1,h2,fun j hj=>by omega,fun j u hu=>?_⟩;have hj:=(qJ.1 hu).1;rw[<-h4,yH,List.getElem?_take,if_pos hj]at hu;rw[Nat.zero_add,<-hu,Array.getElem?_toList]
theorem kS.only{w w':World}{e:TypeId}{v:Value}{us:List Value}{F:Nat->Prop}(h:kS w e v us)(ho:Only F w w')(hF:∀k,Value.blk v=some k->¬F k):kS w' e v us:=by
 rcases h with h| ⟨g,o,cap,cur,rfl,hg,r⟩;·exact .inl h
 exact .inr ⟨g,o,cap,cur,rfl,ak hg ho (hF g rfl),r⟩
theorem kS.lt{w:World}{e:TypeId}{v:Value}{us:List Value}(h:kS w e v us){k:Nat}(hk:Value.blk v=some k):k<w.heap.size:=by
 rcases h with⟨rfl,_⟩| ⟨g,o,cap,cur,rfl,hg,r⟩;·cases hk
 cases hk;exact bf hg
theorem kS.some{w:World}{e:TypeId}{v u:Value}{us:List Value}(h:kS w e v (u::us)):∃g o cap,v= .slice (some ⟨g,o,none⟩) (us.length+1) cap/\us.length+1<=cap/\cap<=maxLen/\w.cell? ⟨g,o,none⟩=some u/\∃o',(o'=if cap=1 then o else o+1)/\kS w e (.slice (some ⟨g,o',none⟩) us.length (cap-1)) us:=by
 rcases h with⟨_,h⟩| ⟨g,o,cap,cur,rfl,hg,h1,h2,h3,h4⟩;·cases h
 simp only[qN]at h1;refine⟨g,o,cap,rfl,h1,h2,?_,_,rfl,.inr ⟨g,_,cap-1,cur,rfl,hg,by omega,by omega,fun j hj=>?_,fun j x hx=>?_⟩⟩;·rw[aj hg];exact h4 0 u rfl
 ·rw[if_neg zBB];have:=h3 (j+1) zBB;omega
 have hj:=(qJ.1 hx).1;rw[if_neg zBB];have:=h4 (j+1) x (by simpa using hx);rw[show o+1+j=o+(j+1) by omega];exact this
theorem NU{P:Program}{t e:TypeId}{i:TypeInfo}(ht:P.underlying t=some (.slice e))(hi:P.info? e=some i)(hs:i.size=1)(g o m cap:Nat)(hm:m+1<=cap)(hc:cap<=maxLen)(W:World):(Instr.slice t (.slice (some ⟨g,o,none⟩) (m+1) cap) (some (.int .i64 1)) none none).run P W= .ok (.slice (some ⟨g,if cap=1 then o else o+1,none⟩) m (cap-1)) W:=by have h1:(1:Int)<=((m+1:Nat):Int):=zBB;simp[Instr.slice,Instr.sliceBounds,Instr.sliceBound,run_underlying ht,sizeOf,typeInfo,hi,hs,asIntOf,Addr.add];by_cases hcap:cap=1;all_goals (split<;>simp_all)
theorem kS.sh{w:World}{e:TypeId}{v:Value}{us:List Value}(h:kS w e v us):∃ao cap,v= .slice ao us.length cap/\us.length<=cap/\cap<=maxLen:=by
 rcases h with⟨rfl,rfl⟩| ⟨g,o,cap,cur,rfl,hg,h1,h2,_⟩;·exact zDH
 exact⟨_,cap,rfl,h1,h2⟩
theorem Kz{P:Program}(w:World){t e ty:TypeId}{bytes:Nat}(T:uZ P t e 1 bytes){v:Value}{us:List Value}(h:kS w e v us)(a:Addr)(c:Nat){u:Value}(hc:w.cell? a=some u)(hu:u.oneCell'=true)(h63:us.length+1<=1099511627776)(hby:bytes<=64):∃v' w',(Builtin.append_ #[t,t] ty #[v,.slice (some a) 1 c]).run P w= .ok v' w'/\kS w' e v' (us++[u])/\Only (fun k=>Value.blk v=some k) w w'/\∀k,Value.blk v'=some k->Value.blk v=some k\/w.heap.size<=k:=by
 have hm:maxLen=9223372036854775807\/1099511627776<=maxLen:=zBG;have hm2:us.length+1<=maxLen:=zBG;have hmul:(us.length+1)*bytes<=1099511627776*64:=Nat.mul_le_mul h63 hby;have hnews:∀j x,[u][j]? =some x->w.cell? (a.add j)=some x:=by
  intro j x hx
  match j,hx with
  |0,hx=>simp at hx;subst hx;rw[<-hc];unfold Addr.add;simp
 have h1:∀x∈[u],x.oneCell'=true:=by intro x hx;simp at hx;subst hx;exact hu
 rcases h with⟨rfl,rfl⟩| ⟨g,o,cap,cur,rfl,hg,hl,hx,hi,hv⟩
 ·obtain⟨v',w',hr,h2,h3,h4,h5⟩:=jO (P:=P) (ty:=ty) w T bK 0 [] (World.ownsRow_nil _ _ _ _) a 1 c [u] rfl hnews h1 (by simpa using hm2) zBB;refine⟨v',w',hr,kS.dF (by simpa using h2),(Only.refl _ w).grown h3 fun k hk=>(by cases hk),fun k hk=>?_⟩;have hk':v'.ownBlock=some k:=by exact zEB
  rcases h4 k hk' with h|h;·cases h
  exact .inr h
 obtain⟨i,z,t1,t2,t3,t4,t5⟩:=T.info;have hcur:∀j,w.cell? ⟨g,j,none⟩=cur[j]? :=fun j=>aj hg j;by_cases hroom:us.length+1<=cap
 ·have hin:o+us.length<cur.size:=hi _ zBB;have hrun:=run_append_room_cells (P:=P) w t ty e i T.und t1 g o us.length cap a 1 c [u] (by rw[t3];rfl) hnews h1 hroom
   (fun j hj=>by
    simp at hj;subst hj
    rw[t3,yH,qF,hcur,Array.getElem?_eq_getElem hin];rfl)
   (fun j hj=>by simp at hj;subst hj;exact iV hg _)
  rw[t3,yH]at hrun;refine⟨_,_,hrun,.inr ⟨g,o,cap,cur.setIfInBounds (o+us.length) u,?_,?_,?_,hx,fun j hj=>by simpa using hi j hj,fun j x hj=>?_⟩,?_,fun k hk=>.inl hk⟩;·simp
  ·exact jM hg _ _
  ·simpa using hroom
  ·rw[Array.getElem?_setIfInBounds];have hjl:=(qJ.1 hj).1;simp at hjl;by_cases hjn:j=us.length;·subst hjn;rw[if_pos rfl,if_pos hin];simpa using hj
   rw[if_neg zBB];exact hv j x (by rw[yM zBB]at hj;exact hj)
  exact(Only.refl (fun k=>Value.blk (.slice (some ⟨g,o,none⟩) us.length cap)=some k) w).setCell (p:=⟨g,o+us.length,none⟩) (.inl rfl) u
 have hgrow:=run_append_arg_grows (P:=P) w t ty e i z 1 bytes T.und t1 t2 t3 t4 t5 zAB ⟨g,o,none⟩ us.length cap us zBB
  (fun j x hj=>by rw[Go.WideShapes.add_plain,hcur];exact hv j x hj) a 1 c [u] rfl hnews zAB hm2 zBB
 obtain⟨v',w',hr,h2,h3⟩:=hgrow;refine⟨v',w',hr,kS.dF (by simpa using Vr h2),(Only.refl _ w).grown h3 fun k hk=>(by cases hk),fun k hk=>?_⟩;have hk':v'.ownBlock=some k:=by exact zEB
 exact .inr (h2.lt k hk').1
theorem agz{P:Program}{w:World}{u:Value}{ops:Array Oper}{rest:List Oper}{o:Oper}{a:Act}{Q:Exit->Act->World->Prop}{t e:TypeId}{bytes:Nat}(T:uZ P t e 1 bytes)
  (hgd:o.guard=none) (s x:Operand)
  (ho:o.op= .call {callee:=.builtin .append,args:= #[s,x],argTypes:= #[t,t]})
  {v:Value} {us:List Value} {g:Nat} (hs:a.eval s=v) (hx:a.eval x= .slice (some ⟨g,0,none⟩) 1 1) (hc:w.cell? ⟨g,0,none⟩=some u) (hu:u.oneCell'=true) (hq:kS w e v us)
  (h63:us.length+1<=1099511627776) (hbytes:bytes<=64)
  (h:∀v' w',kS w' e v' (us++[u])->Only (fun k=>Value.blk v=some k) w w'->(∀k,Value.blk v'=some k->Value.blk v=some k\/w.heap.size<=k)->wpList P ops Q rest (a.put o.dst v') w'):
  wpList P ops Q (o::rest) a w:=by
 refine wpList_plain hgd fun K hK=>?_
 obtain⟨v',w',hr,h2,h3,h4⟩:=Kz (P:=P) (ty:=o.type) w T hq ⟨g,0,none⟩ 1 hc hu h63 hbytes
 unfold Oper.wp execOp
 simp only[ho,resolve,invoke,builtin,Sem.run_bind,Sem.run_pure,Result.andThen_ok,List.map_toArray,List.map_cons,List.map_nil,hs,hx,hr]
 exact hK _ _ (h v' w' h2 h3 h4)
end Go.Proofs.YtdmmebjjojimiaaGreatDoor
namespace Go.Proofs
theorem zB9{p:Prop}(h:p:=by
 obtain⟨es,clock,hb,Ft,hs,hD⟩:=r1
 refine⟨es,clock,hb,Ft,?_,hD⟩
 rw[<-hsz,hD]
 simp[Maps.size,length_sorted]):p:=h
theorem zCh{p:Prop}(h:p:=by
 split
 ·exact h.nd
 ·rename_i hn
  rw[List.nodup_append]
  exact⟨h.nd,by simp,fun a ha b hb e=>hn (by simp at hb;rw[<-hb,<-e];exact ha)⟩):p:=h
end Go.Proofs
namespace Go.Proofs.YtdmmebjjojimiaaGreatDoor
open Go.RowKit
theorem inZ:aO 0:=⟨by decide,by decide⟩
theorem Cm:Maps.Keyed Tryz.prog 3:=Maps.int_keyed Tryz.underlying3
theorem aaI(w:World):(zeroValue 3).run Tryz.prog w= .ok (.int .i64 0) w:=by kernel_rfl
abbrev kI(x:Int):Lit:=.int .i64 x
theorem wfI{x:Int}(hx:aO x):(kI x).wf=true:=WalkArith.wf_i64 hx
theorem adn{x:Int}(hx:aO x):keyOf Tryz.prog 3 (cI x)=some (kI x):=Maps.keyOf_int_mk Tryz.underlying3 (wfI hx)
theorem Ub{x y:Int}(h:y≠x):kI y≠kI x:=fun e=>h (by injection e)
structure lH (w:World) (B:Nat) (ks:List Int) (f:Int->Int):Prop where
 own:∃D:DataW Unit,w.ownsMap Tryz.prog 3 (plainElem Tryz.prog 3) B ks.length D/\(∀x,D.atKey (kI x) (.lit (kI 0))= .lit (kI (f x)))/\(∀x,Maps.has D (kI x)=decide (x∈ks))/\Maps.size D=ks.length
 nd:ks.Nodup
 out:∀x,x∉ks->f x=0
 val:∀x,aO (f x)
 rng:∀x∈ks,aO x
def wR(ks:List Int)(x:Int):List Int:=if x∈ks then ks else ks++[x]
def upd(f:Int->Int)(x v:Int):Int->Int:=fun y=>if y=x then v else f y
theorem vK{ks:List Int}{x y:Int}:y∈wR ks x↔y∈ks\/y=x:=by
 unfold wR;split
 ·rename_i h;constructor;·exact .inl
  rintro(h1|rfl);·exact h1
  exact h
 simp
section
variable {w w':World} {B:Nat} {ks:List Int} {f:Int->Int}
theorem lH.lt(h:lH w B ks f):B<w.heap.size:=by obtain⟨D,h1,_⟩:=h.own;exact h1.lt
theorem lH.only{F:Nat->Prop}(h:lH w B ks f)(ho:Only F w w')(hF:¬F B):lH w' B ks f:=by have hlt:=h.lt;obtain⟨D,⟨es,clock,hb,Ft,hs,hD⟩,h2⟩:=h.own;exact⟨⟨D,⟨es,clock,(ho.block B hlt hF).trans hb,Ft,hs,hD⟩,h2⟩,h.nd,h.out,h.val,h.rng⟩
theorem lH.aF(h:lH w B ks f)(ho:O0 w w'):lH w' B ks f:=h.only ho (fun f=>f)
theorem lH.made(w:World):lH (w.alloc (.map #[] 0)) w.heap.size [] (fun _=>0):=
 ⟨⟨.map [],World.ownsMap_made _ _ _ _,fun x=>rfl,fun x=>by simp[Maps.has],rfl⟩,List.nodup_nil,fun _ _=>rfl,fun _=>inZ,fun x hx=>by cases hx⟩
theorem lH.look(h:lH w B ks f){x:Int}(hx:aO x):(Instr.lookup 211 (.map (some B)) (cI x) false).run Tryz.prog w= .ok (cI (f x)) w:=by obtain⟨D,h1,h2,h3,h4⟩:=h.own;obtain⟨c,hrun,hat,_⟩:=h1.lookup_int Cm Tryz.underlying211 Tryz.underlying3 (aaI _) (adn hx);rw[h2]at hat;have:f x=c:=(Lit.int.inj (DataW.lit.inj hat)).2;rw[this];exact hrun
theorem lH.len(h:lH w B ks f)(ty:TypeId):(Builtin.len_ #[211] ty #[.map (some B)]).run Tryz.prog w= .ok (.int .i64 (ks.length:Int)) w:=by obtain⟨D,h1,h2,h3,h4⟩:=h.own;rw[h1.len Tryz.underlying211 ty,h4]
theorem Dw{b:Nat}(h:w.mapTurned w' b):Only (fun k=>k=b) w w':=(Only.refl _ w).grown h.grown fun k hk=>.inl (Option.some.inj hk).symm
theorem lH.store(h:lH w B ks f){x v:Int}(hx:aO x)(hv:aO v)(hl:ks.length<maxLen):∃w',(Instr.mapUpdate 211 (.map (some B)) (cI x) (cI v)).run Tryz.prog w= .ok () w'/\lH w' B (wR ks x) (upd f x v)/\Only (fun k=>k=B) w w':=by
 obtain⟨D,h1,h2,h3,h4⟩:=h.own;have hkl:WideAt.IsKeyLit (kI x):=trivial;obtain⟨w',hrun,r1,r2⟩:=h1.store Cm Tryz.underlying211 hl (adn hx) (plainElem_int Tryz.underlying3 (wfI hv));have hsz:Maps.size (D.put (kI x) (.lit (kI v)))=(wR ks x).length:=by
  rw[Maps.size_put (h1.tidy Cm),h3,h4];unfold wR;by_cases hm:x∈ks;·simp[hm]
  simp[hm]
 refine⟨w',hrun,⟨⟨_,?_,fun y=>?_,fun y=>?_,hsz⟩,?_,fun y hy=>?_,fun y=>?_,fun y hy=>?_⟩,Dw r2⟩;·exact zB9
 ·unfold upd;by_cases e:y=x;·subst e;rw[if_pos rfl,Maps.atKey_put_same h1.isMap hkl]
  rw[if_neg e,Maps.atKey_put_other (Ub e),h2]
 ·by_cases e:y=x;·subst e;rw[Maps.has_put_same h1.isMap hkl,qX (vK.2 (.inr rfl))]
  rw[Maps.has_put_other (Ub e),h3];exact decide_eq_decide.2 (by rw[vK];simp[e])
 ·unfold wR;exact zCh
 ·rw[vK,not_or]at hy;unfold upd;rw[if_neg hy.2];exact h.out y hy.1
 ·unfold upd;split;·exact hv
  exact h.val y
 rcases vK.1 hy with h5|rfl;·exact h.rng y h5
 exact hx
theorem lH.drop(h:lH w B ks f){x:Int}(hx:aO x)(ty:TypeId):∃w',(Builtin.delete_ #[211,3] ty #[.map (some B),cI x]).run Tryz.prog w= .ok (.tuple #[]) w'/\lH w' B (ks.erase x) (upd f x 0)/\Only (fun k=>k=B) w w':=by
 obtain⟨D,h1,h2,h3,h4⟩:=h.own;obtain⟨w',hrun,r1,r2⟩:=h1.drop Cm Tryz.underlying211 (adn hx) ty;have hsz:Maps.size (D.del (kI x))=(ks.erase x).length:=by
  have h5:=Maps.size_del (k:=kI x) (h1.tidy Cm);rw[h3,h4]at h5;rw[List.length_erase];by_cases hm:x∈ks;·simp[hm]at h5⊢;omega
  simp[hm]at h5⊢;omega
 have hmem:∀y,y∈ks.erase x↔y≠x/\y∈ks:=fun y=>h.nd.mem_erase_iff;refine⟨w',hrun,⟨⟨_,?_,fun y=>?_,fun y=>?_,hsz⟩,h.nd.erase _,fun y hy=>?_,fun y=>?_,fun y hy=>?_⟩,Dw r2⟩;·exact zB9
 ·unfold upd;by_cases e:y=x;·subst e;rw[if_pos rfl,Maps.atKey_del_same]
  rw[if_neg e,Maps.atKey_del_other (Ub e),h2]
 ·by_cases e:y=x;·subst e;rw[Maps.has_del_same,qP];rw[hmem];exact fun h=>h.1 rfl
  rw[Maps.has_del_other (Ub e),h3];exact decide_eq_decide.2 (by rw[hmem];simp[e])
 ·unfold upd;split;·rfl
  rename_i e;refine h.out y fun hm=>hy ?_;rw[hmem];exact⟨e,hm⟩
 ·unfold upd;split;·exact inZ
  exact h.val y
 exact h.rng y ((hmem y).1 hy).2
theorem lH.keys(h:lH w B ks f):∃D:DataW Unit,w.ownsMap Tryz.prog 3 (plainElem Tryz.prog 3) B ks.length D/\ks.Perm (intKeys D)/\Maps.size D=ks.length:=by
 obtain⟨D,h1,h2,h3,h4⟩:=h.own;refine⟨D,h1,?_,h4⟩;obtain⟨es,hD,hpw,_⟩:=h1.entries Cm;obtain⟨es',hD',hko⟩:=h1.keysOf;obtain rfl:es=es':=by rw[hD]at hD';simpa using hD'
 subst hD;exact perm_intKeys hpw (fun p hp=>by obtain⟨v,hv⟩:=hko p hp;obtain⟨x,_,hx,_⟩:=Maps.keyOf_i64 Tryz.underlying3 hv;exact⟨x,hx⟩) h.nd (fun x=>by rw[h3 x];simp)
end
end Go.Proofs.YtdmmebjjojimiaaGreatDoor
namespace Go.Proofs.YtdmmebjjojimiaaGreatDoor
open Go.RowKit Go.Maps Go.Sort Go.Shelf
def xI(l:List Int):List Int:=l.mergeSort fun x y=>decide (x<=y)
theorem um(l:List Int):(xI l).Perm l:=List.mergeSort_perm l _
theorem uo(l:List Int):(xI l).Pairwise (· <= ·):=by have h:=List.pairwise_mergeSort (le:=fun x y:Int=>decide (x<=y)) (by intro a b c;simp;omega) (by intro a b;simp;omega) l;exact h.imp fun h=>by simpa using h
theorem Ik{l m:List Int}(h:l.Perm m):xI l=xI m:=
 List.Perm.eq_of_pairwise (le:=fun x y:Int=>x<=y) (fun a b _ _ h1 h2=>by omega) (uo l) (uo m) (((um l).trans h).trans (um m).symm)
theorem Tryz.sortsA(m:Nat):AnyZI.SortsIn Tryz.prog Tryz.sortedA_ren Fence.wide m:=⟨fun blk off cap ss W hH hblk hsz=>callsIn_wide.2 (AnyM.slices_Sort_int Tryz.sortA blk off cap ss W hH hblk hsz),fun p cap W=>callsIn_wide.2 (AnyM.slices_Sort_int_none Tryz.sortA p cap W)⟩
section
variable {w:World} {B:Nat} {ks:List Int} {f:Int->Int}
abbrev acf(w:World):Value:=.func (.func 218) #[] #[.pointer (some ⟨w.heap.size,0,none⟩)]
theorem XZ(w:World)(B:Nat):Calls Tryz.prog 150 #[.map (some B)] w fun e w'=>e= .returned (acf w)/\w'=w.alloc (.cells #[.map (some B)] 211):=by refine(callsIn_wide (n:=5)).1 ?_;exact AnyZI.keys_in Tryz.keysA Fence.wide 5 trivial rfl (some B) w
theorem QZ(h:lH w B ks f)(hl:ks.length<=65536):Calls Tryz.prog 149 #[acf w] (w.alloc (.cells #[.map (some B)] 211)) fun e w'=> ∃v,e= .returned v/\w'.ownsRow 0 3 1 v (xI ks).length ((xI ks).map cI)/\(∀k,v.ownBlock=some k->w.heap.size<=k)/\O0 w w':=by
 obtain⟨D,hown,hp,hsz⟩:=h.keys;have hbl:=hown.lt;have hseq:SeqGives Fence.wide 2 Tryz.prog 218 #[.pointer (some ⟨w.heap.size,0,none⟩)] encZ (fun ss=>ss.Perm (intKeys D)) (Maps.size D) (w.alloc (.cells #[.map (some B)] 211)):=
  AnyZI.keys_gives (ρ:=Tryz.keysA_ren) {Tryz.keysA with} Fence.wide _ trivial rfl zBB w.heap.size B ks.length D _ (by simp) (by simp) (by
   obtain⟨es,clock,hb,Ft,hs,hD⟩:=hown
   exact⟨es,clock,(Below.heap_alloc _ _ B hbl).trans hb,Ft,hs,hD⟩)
 have cS:=AnyZI.sorted_in Tryz.sortedA Fence.wide 5 trivial trivial trivial trivial rfl zBB (Tryz.sortsA _) (enters_of Tryz.func217 zk rfl) 218 #[.pointer (some ⟨w.heap.size,0,none⟩)] trivial (enters_of Tryz.func218 zk rfl) _ _ (by rw[hsz];unfold maxLen;omega) (by rw[hsz];omega) _ hseq;refine((callsIn_wide (n:=5)).1 cS).mono ?_;rintro e w' ⟨v,ss,rfl,hS,hrow,-,hb⟩;have e1:ss.mergeSort (fun x y=>decide (x<=y))=xI ks:=Ik (hS.trans hp.symm);have e2:ss.length=(xI ks).length:=by rw[<-e1,List.length_mergeSort]
 rw[e1,e2]at hrow;refine⟨v,rfl,ownsRow_base_a hrow (qE _),fun k hk=>?_,?_⟩;·have:=(hrow.lt k hk).1;simp at this;omega
 exact(zr.alloc _).trans (G:=fun k=>w.heap.size+1<=k) (by have:=Only.of_below hb;simpa using this) fun k hk=>.inr zBB
end
end Go.Proofs.YtdmmebjjojimiaaGreatDoor
