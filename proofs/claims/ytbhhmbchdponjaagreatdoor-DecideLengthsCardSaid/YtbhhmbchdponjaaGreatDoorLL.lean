/- Texts of the claim. -/
import Derived.Test.YtbhhmbchdponjaaGreatDoorLNA
import Derived.Test.YtbhhmbchdponjaaGreatDoorLNB
import Derived.Test.YtbhhmbchdponjaaGreatDoorLNC
import Derived.Test.YtbhhmbchdponjaaGreatDoorLND
import Derived.Test.YtbhhmbchdponjaaGreatDoorLNE
import Derived.Test.YtbhhmbchdponjaaGreatDoorLNF
import Derived.Test.YtbhhmbchdponjaaGreatDoorT7
namespace Go.Proofs.YtbhhmbchdponjaaGreatDoor
set_option linter.unusedVariables false
set_option linter.unusedSimpArgs false
open Go.RowKit
set_option maxHeartbeats 0
set_option maxRecDepth 1000000
theorem L0_0(ha:PRet Tryz.prog 6 [] (fun q=>q=.v (.bool true))):PRet Tryz.prog 4 [.v (.int .u8 0),.v (.int .i16 0)] (fun q=>q=.v (.bool true)):=fw (m:=0) (z:=0) (by decide) (by decide) ha (by decide) (fun _=>PRet.of_call e1) (fun _=>PRet.of_call e2)
theorem L1_0(ha:PRet Tryz.prog 6 [] (fun q=>q=.v (.bool true))):PRet Tryz.prog 4 [.v (.int .u8 1),.v (.int .i16 0)] (fun q=>q=.v (.bool true)):=fw (m:=1) (z:=0) (by decide) (by decide) ha (by decide) (fun _=>PRet.of_call e4) (fun _=>PRet.of_call e5)
theorem L1_1(ha:PRet Tryz.prog 6 [] (fun q=>q=.v (.bool true))):PRet Tryz.prog 4 [.v (.int .u8 1),.v (.int .i16 1)] (fun q=>q=.v (.bool true)):=l7 (m:=1) (z:=1) (by decide) (by decide) ha (by decide) (fun _=>PRet.of_call e13) (fun _=>PRet.of_call e28)
theorem L1_2(ha:PRet Tryz.prog 6 [] (fun q=>q=.v (.bool true))):PRet Tryz.prog 4 [.v (.int .u8 1),.v (.int .i16 2)] (fun q=>q=.v (.bool true)):=fw (m:=1) (z:=2) (by decide) (by decide) ha (by decide) (fun _=>PRet.of_call e30) (fun _=>PRet.of_call e31)
theorem L2_0(ha:PRet Tryz.prog 6 [] (fun q=>q=.v (.bool true))):PRet Tryz.prog 4 [.v (.int .u8 2),.v (.int .i16 0)] (fun q=>q=.v (.bool true)):=fw (m:=2) (z:=0) (by decide) (by decide) ha (by decide) (fun _=>PRet.of_call e33) (fun _=>PRet.of_call e34)
theorem L2_1(ha:PRet Tryz.prog 6 [] (fun q=>q=.v (.bool true))):PRet Tryz.prog 4 [.v (.int .u8 2),.v (.int .i16 1)] (fun q=>q=.v (.bool true)):=l7 (m:=2) (z:=1) (by decide) (by decide) ha (by decide) (fun _=>PRet.of_call e48) (fun _=>PRet.of_call e75)
theorem L2_2(ha:PRet Tryz.prog 6 [] (fun q=>q=.v (.bool true))):PRet Tryz.prog 4 [.v (.int .u8 2),.v (.int .i16 2)] (fun q=>q=.v (.bool true)):=fw (m:=2) (z:=2) (by decide) (by decide) ha (by decide) (fun _=>PRet.of_call e78) (fun _=>PRet.of_call e79)
theorem L2_3(ha:PRet Tryz.prog 6 [] (fun q=>q=.v (.bool true))):PRet Tryz.prog 4 [.v (.int .u8 2),.v (.int .i16 3)] (fun q=>q=.v (.bool true)):=l7 (m:=2) (z:=3) (by decide) (by decide) ha (by decide) (fun _=>PRet.of_call e89) (fun _=>PRet.of_call e108)
theorem L2_4(ha:PRet Tryz.prog 6 [] (fun q=>q=.v (.bool true))):PRet Tryz.prog 4 [.v (.int .u8 2),.v (.int .i16 4)] (fun q=>q=.v (.bool true)):=fw (m:=2) (z:=4) (by decide) (by decide) ha (by decide) (fun _=>PRet.of_call e110) (fun _=>PRet.of_call e111)
theorem L3_0(ha:PRet Tryz.prog 6 [] (fun q=>q=.v (.bool true))):PRet Tryz.prog 4 [.v (.int .u8 3),.v (.int .i16 0)] (fun q=>q=.v (.bool true)):=fw (m:=3) (z:=0) (by decide) (by decide) ha (by decide) (fun _=>PRet.of_call e113) (fun _=>PRet.of_call e114)
theorem L3_1(ha:PRet Tryz.prog 6 [] (fun q=>q=.v (.bool true))):PRet Tryz.prog 4 [.v (.int .u8 3),.v (.int .i16 1)] (fun q=>q=.v (.bool true)):=l7 (m:=3) (z:=1) (by decide) (by decide) ha (by decide) (fun _=>PRet.of_call e128) (fun _=>PRet.of_call e142)
theorem L3_2(ha:PRet Tryz.prog 6 [] (fun q=>q=.v (.bool true))):PRet Tryz.prog 4 [.v (.int .u8 3),.v (.int .i16 2)] (fun q=>q=.v (.bool true)):=fw (m:=3) (z:=2) (by decide) (by decide) ha (by decide) (fun _=>PRet.of_call e145) (fun _=>PRet.of_call e146)
theorem L3_3(ha:PRet Tryz.prog 6 [] (fun q=>q=.v (.bool true))):PRet Tryz.prog 4 [.v (.int .u8 3),.v (.int .i16 3)] (fun q=>q=.v (.bool true)):=l7 (m:=3) (z:=3) (by decide) (by decide) ha (by decide) (fun _=>PRet.of_call e162) (fun _=>PRet.of_call e178)
theorem L3_4(ha:PRet Tryz.prog 6 [] (fun q=>q=.v (.bool true))):PRet Tryz.prog 4 [.v (.int .u8 3),.v (.int .i16 4)] (fun q=>q=.v (.bool true)):=fw (m:=3) (z:=4) (by decide) (by decide) ha (by decide) (fun _=>PRet.of_call e187) (fun _=>PRet.of_call e188)
theorem L3_5(ha:PRet Tryz.prog 6 [] (fun q=>q=.v (.bool true))):PRet Tryz.prog 4 [.v (.int .u8 3),.v (.int .i16 5)] (fun q=>q=.v (.bool true)):=l7 (m:=3) (z:=5) (by decide) (by decide) ha (by decide) (fun _=>PRet.of_call e202) (fun _=>PRet.of_call e216)
theorem L3_6(ha:PRet Tryz.prog 6 [] (fun q=>q=.v (.bool true))):PRet Tryz.prog 4 [.v (.int .u8 3),.v (.int .i16 6)] (fun q=>q=.v (.bool true)):=fw (m:=3) (z:=6) (by decide) (by decide) ha (by decide) (fun _=>PRet.of_call e218) (fun _=>PRet.of_call e219)
theorem lawLen20{m z:Int}(hm:0<=m/\m<=255)(hz:-32768<=z/\z<=32767)(ha:PRet Tryz.prog 6 [] (fun q=>q=.v (.bool true))):PRet Tryz.prog 4 [.v (.int .u8 m),.v (.int .i16 z)] (fun q=>q=.v (.bool true)):=by
 by_cases h3:m<=3
 ·by_cases hin:0<=z/\z<=2*m
  ·have hd:m=0\/m=1\/m=2\/m=3:=by omega
   rcases hd with rfl|rfl|rfl|rfl
   ·have hc:z=0:=by omega
    subst hc;exact L0_0 ha
   ·have hc:z=0\/z=1\/z=2:=by omega
    rcases hc with rfl|rfl|rfl
    ·exact L1_0 ha
    ·exact L1_1 ha
    ·exact L1_2 ha
   ·have hc:z=0\/z=1\/z=2\/z=3\/z=4:=by omega
    rcases hc with rfl|rfl|rfl|rfl|rfl
    ·exact L2_0 ha
    ·exact L2_1 ha
    ·exact L2_2 ha
    ·exact L2_3 ha
    ·exact L2_4 ha
   ·have hc:z=0\/z=1\/z=2\/z=3\/z=4\/z=5\/z=6:=by omega
    rcases hc with rfl|rfl|rfl|rfl|rfl|rfl|rfl
    ·exact L3_0 ha
    ·exact L3_1 ha
    ·exact L3_2 ha
    ·exact L3_3 ha
    ·exact L3_4 ha
    ·exact L3_5 ha
    ·exact L3_6 ha
  ·have hM:M3 m:=by unfold M3;omega
   obtain⟨S,R,hS,hl,hu,hR,hb⟩:=Vn (z:=z) (m:=m) (by omega) ⟨hm.1,h3⟩ (by omega)
   exact B3 hm hz ha (by omega) (fun _=>Iu hM (by omega) hS) (fun _=>O9 hM (by omega) hl hu hR hb)
 ·by_cases ho:z≥0/\z%2=0/\z<=2*m
  ·exact fw (rw:=[]) hm hz ha ho (fun h=>absurd h h3) (fun h=>absurd h h3)
  ·exact B3 (rw:=[]) hm hz ha ho (fun h=>absurd h h3) (fun h=>absurd h h3)
end Go.Proofs.YtbhhmbchdponjaaGreatDoor
