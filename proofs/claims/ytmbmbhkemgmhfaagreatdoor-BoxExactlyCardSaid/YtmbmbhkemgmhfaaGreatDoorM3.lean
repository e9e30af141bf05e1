/- Texts of the claim. -/
import Derived.Test.YtmbmbhkemgmhfaaGreatDoorM1
import Derived.Test.YtmbmbhkemgmhfaaGreatDoorQ2
namespace Go.Proofs.YtmbmbhkemgmhfaaGreatDoor
set_option linter.unusedVariables false
set_option linter.unusedSimpArgs false
open Go.RowKit
abbrev bI(x:Int):List AV:=bgA (bgI x)
theorem ab:RowF bI 2:=⟨fun _=>rfl,fun _=>rfl,fun _ _=>rfl,fun _ _=>rfl,fun _ _=>rfl,fun _=>rfl⟩
structure IqS where
 cs:List Int
 b:Int
abbrev iqA(q:IqS):List AV:=.tree 2 (q.cs.map bI)::bI q.b
theorem ag:RowF iqA 3:=⟨fun _=>rfl,fun _=>rfl,fun _ _=>rfl,fun _ _=>rfl,fun _ _=>rfl,fun _=>rfl⟩
instance:Inhabited IqS:=⟨⟨[],0⟩⟩
abbrev BL(l:List Int):Prop:=∀x∈l,B1 x
structure BQ(q:IqS):Prop where
 c:BL q.cs
 b:B1 q.b
section
variable{P:Program}{τ:Nat->AV}{η:bf}{d:Option Tmp}{ty:TypeId}{pos:String}{af:Array Edge}{g:Option (Nat×Bool)}{t:Nat}{x y:Operand}
theorem cq(u:Nat){e len:Nat}{v:Int}(he:P.underlying t=some (.slice e))(hs:ap P e=some 2)(hz:bi P e=some (.agg #[.bool false,.slice none 0 0]))(h3:(P.info? e).map (·.bytes)=some 32)
 (hx:aev τ x=.v (.int .i64 v))(hy:aev τ y=.v (.int .i64 v))(hv:v=((len:Nat):Int))(hl:len<=1000000):
 LOp P ⟨d,.makeSlice t x y,ty,pos,af,g⟩ τ η [] [(u,some ⟨0,rF bI (List.replicate len 0),2,false⟩)] (.sl u 0 0 len):=by
 by_cases h0:len=0
 ·subst h0;subst hv;exact C6 u he hs hx hy
 refine od u he hs hz h3 hx hy hv (by omega) (by omega) h0 (by decide) (by rw[ib ab];simp) fun i h T w=>?_
 obtain⟨h1,e1⟩:=x8 ab h
 rw[e1]
 show TR T w _ ((#[.bool false,.slice none 0 0]:Array Value)[i%2]!)
 have h2:i%2=0\/i%2=1:=by omega
 rcases h2 with h2|h2
 ·simp only[h2];exact .v _
 simp only[h2];exact .tree0 (by unfold maxLen;omega)
end
theorem sgZ_0{x:Int}:sgZ x=0↔x=0:=by unfold sgZ;split<;>(try split)<;>omega
theorem E6:(Tryz.prog.info? 69).map (·.bytes)=some 32:=by kernel_rfl
theorem Kq:c9 Tryz.prog 196=some (some 3):=by kernel_rfl
theorem jf:ap Tryz.prog 69=some 2:=by kernel_rfl
theorem Dj:bi Tryz.prog 69=some (.agg #[.bool false,.slice none 0 0]):=by kernel_rfl
def rgC(c:PCon)(n:Int):Prop:=(∀j (h:j<c.l.cs.length),0<=c.l.cs[j].v/\c.l.cs[j].v<n)/\(∀j (h:j+1<c.l.cs.length),c.l.cs[j].v<c.l.cs[j+1].v)/\0<=n/\n<=512
end Go.Proofs.YtmbmbhkemgmhfaaGreatDoor
