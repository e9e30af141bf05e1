/- Texts of the claim. -/
import Derived.Test.YtbhhmbchdponjaaGreatDoorQ2
import Derived.Test.YtbhhmbchdponjaaGreatDoorProg
namespace Go.Proofs.YtbhhmbchdponjaaGreatDoor
open Go.RowKit
def inf:Inf:=⟨[
 ⟨3,.o,none,1,8,.int .i64 0,0,[]⟩,
 ⟨9,.str,none,1,16,.string ⟨#[]⟩,0,[]⟩,
 ⟨41,.o,some 7,7,168,.agg #[.slice none 0 0,.slice none 0 0,.slice none 0 0,.slice none 0 0,.slice none 0 0,.slice none 0 0,.slice none 0 0],1,[(0,1),(1,1),(2,1),(3,1),(4,1),(5,1),(6,1)]⟩,
 ⟨74,.o,some 3,3,32,.agg #[.int .i64 0,.int .i64 0,.string ⟨#[]⟩],1,[(0,1),(1,1),(2,1)]⟩,
 ⟨27,.sl 3,none,1,24,.slice none 0 0,0,[]⟩,
 ⟨69,.o,some 4,4,40,.agg #[.int .i64 0,.int .i64 0,.bool false,.string ⟨#[]⟩],1,[(0,1),(1,1),(2,1),(3,1)]⟩,
 ⟨62,.o,some 2,2,16,.agg #[.int .i64 0,.int .i64 0],2,[(0,1),(1,1)]⟩,
 ⟨25,.o,some 5,5,40,.agg #[.int .i64 0,.int .i64 0,.int .i64 0,.int .i64 0,.bool false],1,[(0,1),(1,1),(2,1),(3,1),(4,1)]⟩,
 ⟨61,.o,some 4,4,48,.agg #[.int .i64 0,.slice none 0 0,.int .i64 0,.int .i64 0],1,[(0,2),(2,1),(3,1)]⟩,
 ⟨39,.sl 62,none,1,24,.slice none 0 0,0,[]⟩,
 ⟨54,.o,some 9,9,152,.agg #[.int .i64 0,.int .i64 0,.int .i64 0,.slice none 0 0,.slice none 0 0,.bool false,.slice none 0 0,.slice none 0 0,.slice none 0 0],1,[(0,1),(1,1),(2,1),(3,5),(8,1)]⟩,
 ⟨2,.o,none,1,8,.int .i64 0,0,[]⟩,
 ⟨35,.o,some 2,2,16,.agg #[.int .i64 0,.int .i64 0],1,[(0,1),(1,1)]⟩,
 ⟨26,.sl 25,none,1,24,.slice none 0 0,0,[]⟩,
 ⟨38,.sl 69,none,1,24,.slice none 0 0,0,[]⟩,
 ⟨80,.o,some 5,5,120,.agg #[.slice none 0 0,.slice none 0 0,.slice none 0 0,.slice none 0 0,.slice none 0 0],1,[(0,1),(1,1),(2,1),(3,1),(4,1)]⟩,
 ⟨43,.sl 74,none,1,24,.slice none 0 0,0,[]⟩,
 ⟨37,.sl 61,none,1,24,.slice none 0 0,0,[]⟩,
 ⟨112,.sl 9,none,1,24,.slice none 0 0,0,[]⟩,
 ⟨30,.o,some 2,2,32,.agg #[.int .i64 0,.slice none 0 0],1,[(0,1),(1,1)]⟩,
 ⟨28,.sl 35,none,1,24,.slice none 0 0,0,[]⟩,
 ⟨77,.o,some 9,9,216,.agg #[.slice none 0 0,.slice none 0 0,.slice none 0 0,.slice none 0 0,.slice none 0 0,.slice none 0 0,.slice none 0 0,.slice none 0 0,.slice none 0 0],1,[(0,1),(1,7),(8,1)]⟩,
 ⟨4,.bool,none,1,1,.bool false,0,[]⟩,
 ⟨32,.o,some 3,3,40,.agg #[.int .i64 0,.slice none 0 0,.bool false],1,[(0,2),(2,1)]⟩,
 ⟨36,.sl 32,none,1,24,.slice none 0 0,0,[]⟩,
 ⟨48,.o,some 2,2,32,.agg #[.bool false,.slice none 0 0],1,[(0,1),(1,1)]⟩,
 ⟨5,.o,none,1,1,.int .u8 0,0,[]⟩,
 ⟨183,.sl 4,none,1,24,.slice none 0 0,0,[]⟩,
 ⟨95,.o,some 5,5,120,.agg #[.slice none 0 0,.slice none 0 0,.slice none 0 0,.slice none 0 0,.slice none 0 0],1,[(0,1),(1,1),(2,1),(3,1),(4,1)]⟩,
 ⟨235,.o,some 4,4,64,.agg #[.slice none 0 0,.int .i64 0,.slice none 0 0,.map none],1,[(0,1),(1,1),(2,1),(3,1)]⟩,
 ⟨160,.sl 5,none,1,24,.slice none 0 0,0,[]⟩,
 ⟨134,.sl 2,none,1,24,.slice none 0 0,0,[]⟩,
 ⟨52,.sl 54,none,1,24,.slice none 0 0,0,[]⟩,
 ⟨45,.sl 48,none,1,24,.slice none 0 0,0,[]⟩,
 ⟨109,.sl 27,none,1,24,.slice none 0 0,0,[]⟩,
 ⟨192,.o,none,1,4,.int .u32 0,0,[]⟩,
 ⟨46,.sl 192,none,1,24,.slice none 0 0,0,[]⟩,
 ⟨51,.o,some 5,5,104,.agg #[.slice none 0 0,.slice none 0 0,.bool false,.slice none 0 0,.slice none 0 0],1,[(0,1),(1,1),(2,2),(4,1)]⟩,
 ⟨72,.sl 41,none,1,24,.slice none 0 0,0,[]⟩,
 ⟨111,.sl 112,none,1,24,.slice none 0 0,0,[]⟩,
 ⟨233,.o,none,1,8,.map none,0,[]⟩]
 ,[6,7,8,9,10,11,12,13,14,15,16,17,18,19,20,21,22,23,24,25,26,27,28,29,30,31,32,33,34,35,36,37,38,39,40,41,42,43,44,45,46,47,57,58,59,60,61,62,65,66,67,68,69,70,71,72,73,74,75,76,85,86,87,88,97,98,99,100,102,103,104,105,106,121,122,129,130,141,160,161,162,169,170,173,198,203,204,205,206,234]⟩
theorem infOk:inf.Ok Tryz.prog:=Inf.ok_of (by kernel_rfl) (by kernel_rfl) (by kernel_rfl)
theorem ovT {f:FuncId} {fn:Func} {c:Code} {N:Nat} {args:List AV} {R:AV→Prop} (cu st:List Nat) (hf:Tryz.prog.funcs[f]? = some fn) (hb:fn.body=some c) (hN:fn.ntmps=N)
 (h:vc Tryz.prog inf N cu st c (fun e s'=>(e=.normal∨e=.ret)∧∃ ret,Outs Tryz.prog N fn s' ret∧R ret) ⟨frameOf args,noHeap,0⟩) (hl:Nat.ble args.length N=true:=by rfl) (hc:codeOk N c=true:=by kernel_rfl):PRet Tryz.prog f args R:=PRet.of_vc infOk cu st hf hb hN hl hc h
end Go.Proofs.YtbhhmbchdponjaaGreatDoor
