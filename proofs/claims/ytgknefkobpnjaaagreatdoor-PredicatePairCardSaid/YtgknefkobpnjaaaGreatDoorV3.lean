/- Texts of the claim. -/
import Derived.Test.YtgknefkobpnjaaaGreatDoorV2
import Derived.Test.YtgknefkobpnjaaaGreatDoorShelf
namespace Go.Proofs.YtgknefkobpnjaaaGreatDoor
set_option linter.unusedVariables false
set_option linter.unusedSimpArgs false
open Go.RowKit
end Go.Proofs.YtgknefkobpnjaaaGreatDoor
namespace Go.Proofs.YtgknefkobpnjaaaGreatDoor
set_option linter.unusedVariables false
set_option linter.unusedSimpArgs false
open Go.RowKit
/-- The numbers of a linear form are such as the type holds. -/
structure PLin.R (f:PLin):Prop where
 k:-9223372036854775808≤f.k∧f.k≤9223372036854775807
 cs:∀ a∈f.cs,-9223372036854775808≤a.n∧a.n≤9223372036854775807
end Go.Proofs.YtgknefkobpnjaaaGreatDoor
namespace Go.Proofs.YtgknefkobpnjaaaGreatDoor
set_option linter.unusedVariables false
set_option linter.unusedSimpArgs false
open Go.RowKit
/-- A call that gives a slice of no elements in a new row. -/
def Fresh (P:Program) (f:FuncId) (args:List AV) (z:Nat):Prop :=
 ∀ (T:Nat→Prop) (w:World) (vals:Array Value),TRs T w args vals→(∀ b,T b→b < w.heap.size)→Calls P f vals w (fun e w'=>∃ b o cap cells t,e=.returned (.slice (some ⟨b,o,none⟩) 0 cap)∧Below w.heap.size w w'∧w.heap.size≤b∧w'.heap[b]? = some (.cells cells t (0,0))∧cap≤maxLen∧o+cap * z≤cells.size)
section
variable {P:Program} {τ:Nat→AV} {η:Heap} {d:Option Tmp} {ty:TypeId} {pos:String} {af:Array Edge} {g:Option (Nat×Bool)}
theorem LOp.fresh (u:Nat) {f:FuncId} {xs:Array Operand} {ats:Array TypeId} {z:Nat} (hb:bodied P f=true) (hp:pureL (xs.toList.map (aev τ))=true) (hc:Fresh P f (xs.toList.map (aev τ)) z) :
  LOp P ⟨d,.call { callee:=.value (.func f),args:=xs,argTypes:=ats },ty,pos,af,g⟩ τ η [] [(u,some ⟨0,[],z,false⟩)] (.sl u 0 0 0):=by
 intro C a hg hxs _ hnew K Q hK
 have hu:¬ C.U u:=hnew (u,some ⟨0,[],z,false⟩) (by simp) (by simp)
 have hargs:=args_rel (a:=a) (fun x hx=>hxs x (by simp [Op.operands,Call.operands]; exact .inr (by simpa using hx))) hp
 have hrun:(execOp a.eval ⟨d,.call { callee:=.value (.func f),args:=xs,argTypes:=ats },ty,pos,af,g⟩).run P C.w=.ok (.enter f (xs.map a.eval)) C.w:=by
  have:execOp a.eval ⟨d,.call { callee:=.value (.func f),args:=xs,argTypes:=ats },ty,pos,af,g⟩=callFunc f (#[]++xs.map a.eval++#[]):=rfl
  rw [this,run_callFunc' hb]
  simp
 unfold Oper.wp
 rw [hrun]
 refine Calls.mono (hc C.T C.w _ hargs (fun b hb=>hg.tlt hb)) ?_
 rintro e w' ⟨b,o,cap,cells,t,rfl,hbel,hge,hcell,hcap,hsz⟩
 have hok:ReplOk C u (b,o) cells.size ⟨0,[],z,false⟩ w':=⟨hbel.os,hbel.tape,hbel.output,hbel.size,fun k hk _=>hbel.block k hk,.inr hge,fun h=>absurd h hu,rfl,fun e=>absurd e (by show ¬ ((0:Nat)=TV); decide),cells,t,hcell,rfl,by simp; omega,fun j h=>absurd h (by simp)⟩
 refine hK _ (C.repl u (b,o) cells.size ⟨0,[],z,false⟩ w') rfl (fun i=>by simp [Ctx.repl]) (Ctx.repl_good hg hok) (Ctx.repl_ev hg hok) ?_
 have:=VR.sl (C:=C.repl u (b,o) cells.size ⟨0,[],z,false⟩ w') (id:=u) (ver:=0) (off:=0) (len:=0) (cap:=cap) (b:=⟨0,[],z,false⟩) (Heap.set_same _ _ _) rfl rfl (Nat.zero_le _) hcap (Nat.zero_le _) (by simp [Ctx.repl]; omega)
 simpa [Ctx.repl] using this
end
theorem two_args {T:Nat→Prop} {w:World} {x y:Value} {vals:Array Value} (h:TRs T w [.v x,.v y] vals):vals=#[x,y]:=by
 obtain ⟨hlen,hv⟩:=h
 have k0:=(hv 0 (by simp) (by simp at hlen; omega)).v_inv
 have k1:=(hv 1 (by simp) (by simp at hlen; omega)).v_inv
 apply Array.ext
 ·simpa using hlen.symm
 ·intro i hi hi'
  have:i=0∨i=1:=by simp at hi'; omega
  rcases this with rfl | rfl
  ·exact k0
  ·exact k1
theorem bod101:bodied Tryz.prog 101=true:=by kernel_rfl
theorem by26:(Tryz.prog.info? 26).map (·.bytes)=some 16:=by kernel_rfl
theorem sz33:sizeInfo Tryz.prog 33=some 1:=by kernel_rfl
theorem zr26:zeroOf Tryz.prog 26=some (.agg #[.int .i64 0,.int .i64 0]):=by kernel_rfl
end Go.Proofs.YtgknefkobpnjaaaGreatDoor
namespace Go.Proofs.YtgknefkobpnjaaaGreatDoor
set_option linter.unusedVariables false
set_option linter.unusedSimpArgs false
open Go.RowKit
/-- The numbers of a clause are such as the types hold. -/
structure PCl.R (c:PCl):Prop where
 aux:∀ a∈c.aux,a.of_.R
 ints:∀ a∈c.ints,a.l.R
section
variable {P:Program} {τ:Nat→AV} {η:Heap} {d:Option Tmp} {ty:TypeId} {pos:String} {af:Array Edge} {g:Option (Nat×Bool)}
end
theorem bod57:bodied Tryz.prog 57=true:=by kernel_rfl
theorem row26:rowOf Tryz.prog 26=some (some 2):=by kernel_rfl
theorem row84:rowOf Tryz.prog 84=some (some 3):=by kernel_rfl
theorem zr3:zeroOf Tryz.prog 3=some (.int .i64 0):=by kernel_rfl
theorem zr33:zeroOf Tryz.prog 33=some (.slice none 0 0):=by kernel_rfl
theorem zr52:zeroOf Tryz.prog 52=some (.agg #[.int .i64 0,.int .i64 0,.bool false,.string ⟨#[]⟩]):=by kernel_rfl
theorem zr84:zeroOf Tryz.prog 84=some (.agg #[.int .i64 0,.slice none 0 0,.bool false]):=by kernel_rfl
end Go.Proofs.YtgknefkobpnjaaaGreatDoor
