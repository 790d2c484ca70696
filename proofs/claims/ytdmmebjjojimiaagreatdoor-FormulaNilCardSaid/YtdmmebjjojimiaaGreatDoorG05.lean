/- Slices of slices of ints of one's own. -/
import Derived.Test.YtdmmebjjojimiaaGreatDoorG01
set_option maxRecDepth 100000
set_option maxHeartbeats 8000000
set_option linter.all false
namespace Go.Proofs.YtdmmebjjojimiaaGreatDoor
open Go.RowKit
structure uj (w0 w:World) (v:Value) (us:List Value) (css:List (List Int)):Prop where
 row:w.ownsRow 0 78 1 v us.length us
 ints:iI w us css
 new:∀k,v.ownBlock=some k->w0.heap.size<=k
 apart:∀i,i<css.length->0<(css.getD i []).length->∀k,Value.blk (us.getD i bK)=some k->v.ownBlock≠some k
theorem uj.TN{w0 w:World}{v:Value}{us:List Value}{css:List (List Int)}(h:uj w0 w v us css):sH w v css:=⟨us,Cells.dF h.row,h.ints⟩
theorem uj.aF{w0 w w':World}{v:Value}{us:List Value}{css:List (List Int)}(h:uj w0 w v us css)(ho:O0 w w'):uj w0 w' v us css:=⟨aB h.row ho (fun _ _ f=>f),h.ints.aF ho,h.new,h.apart⟩
theorem uj.snoc{w0 w w':World}{v v':Value}{us:List Value}{css:List (List Int)}(h:uj w0 w v us css)(hw:w0.heap.size<=w.heap.size){u:Value}{f:List Int}(hu:Ints w u f)(hua:0<f.length->∀k,Value.blk u=some k->v.ownBlock≠some k)(s1:w'.ownsRow 0 78 1 v' (us.length+1) (us++[u]))(s2:Only (fun k=>v.ownBlock=some k) w w')(s3:vg w v v' (us.length+1)):uj w0 w' v' (us++[u]) (css++[f]):=by
 have hl:=h.ints.1;have hold:∀i,i<css.length->Ints w' (us.getD i bK) (css.getD i []):=fun i hi=>(h.ints.2 i hi).only' s2 (fun hp b hb=>h.apart i hi hp b hb);have hnew:Ints w' u f:=hu.only' s2 hua;have hall:iI w' (us++[u]) (css++[f]):=iI.snoc ⟨hl,hold⟩ hnew;obtain⟨g,cap,rfl,_,_,hg⟩:=s3;refine⟨by simpa using s1,hall,fun k hk=>?_,fun i hi hp k hk hF=>?_⟩
 ·simp[Value.ownBlock]at hk;subst hk;rcases hg with hg|hg;·exact h.new _ hg
  omega
 simp only[Value.ownBlock,qG]at hF;subst hF;by_cases hi':i<css.length
 ·rw[mO _ _ _ zBB]at hk;rw[mO _ _ _ hi']at hp;rcases hg with hg|hg;·exact h.apart i hi' hp _ hk hg
  have:=(h.ints.2 i hi').lt hp hk;omega
 have:i=css.length:=by simp at hi;omega
 subst this;rw[mP _ _ _ zBB,hl]at hk;rw[mP _ _ _ zBB]at hp;simp at hk hp;rcases hg with hg|hg;·exact hua (by simpa using hp) _ hk hg
 have:=hu.lt (by simpa using hp) hk;omega
theorem uj.nil(w0 w:World):uj w0 w (.slice none 0 0) [] []:=
 ⟨World.ownsRow_nil _ _ _ _,⟨rfl,fun i hi=>by simp at hi⟩,fun k hk=>by simp[Value.ownBlock]at hk,fun i hi=>by simp at hi⟩
theorem EH(xs:List (List Int))(k:Nat)(h:k<xs.length):xs.take (k+1)=xs.take k++[xs.getD k []]:=by rw[yL h];simp[qC,h]
end Go.Proofs.YtdmmebjjojimiaaGreatDoor
