/- ChoiceRules: the walk. Printed by gen_ch14.py. -/
import Derived.Test.YtdmmebjjojimiaaGreatDoorG20
set_option maxRecDepth 100000
set_option maxHeartbeats 8000000
set_option linter.all false
namespace Go.Proofs.YtdmmebjjojimiaaGreatDoor
open Go.RowKit
section
variable {w w':World} {B:Nat}
theorem ada{ao:Option Addr}{len cap i:Nat}{xs:List dH}{y:dH}(h:aQ 4 uP B w (.slice ao len cap) xs)(hx:xs[i]? =some y):∃(b off:Nat),ao=some ⟨b,off,none⟩/\((0<=y.kind/\y.kind<=255)/\bU y.pack/\bU y.idx/\bU y.line)/\∀W,O0 w W->W.rangeAt b (off+i*4) [.int .u8 y.kind,.int .i64 y.pack,.int .i64 y.idx,.int .i64 y.line]:=by obtain⟨b,off,cs,rfl,hb,hB,-,hr,hC⟩:=h.placed hx;obtain⟨rfl,hk⟩:=hC;exact⟨b,off,rfl,hk,fun W ho=>dO hr hb hB (Kp.iI ho)⟩
end
end Go.Proofs.YtdmmebjjojimiaaGreatDoor
