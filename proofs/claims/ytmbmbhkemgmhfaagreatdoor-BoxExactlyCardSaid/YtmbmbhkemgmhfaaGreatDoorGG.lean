/- Texts of the claim. -/
import Derived.KernelRfl
import Derived.Test.YtmbmbhkemgmhfaaGreatDoorF1
import Derived.Test.YtmbmbhkemgmhfaaGreatDoorQ2
import Derived.Test.YtmbmbhkemgmhfaaGreatDoorInf
import Derived.Test.YtmbmbhkemgmhfaaGreatDoorF2
import Derived.Test.YtmbmbhkemgmhfaaGreatDoorE3
import Derived.Test.YtmbmbhkemgmhfaaGreatDoorQ1
namespace Go.Proofs.YtmbmbhkemgmhfaaGreatDoor
set_option maxRecDepth 1000000
set_option maxHeartbeats 0
set_option linter.unusedVariables false
set_option linter.unusedSimpArgs false
open Go.RowKit
abbrev tE(v:Int)(w:ByteArray):GTst:=⟨v,0,false,w⟩
theorem rm{P:Program}{τ:Nat->AV}{η:bf}{d:Option Tmp}{ty:TypeId}{pos:String}{af:Array Edge}{g:Option (Nat×Bool)}{t k:Nat}{x i:Operand}{s:ByteArray}{K:IntKind}(hu:P.underlying t=some .string)(hx:aev τ x=.v (.string s))(hi:aev τ i=.v (.int K ((k:Nat):Int)))(hk:k<s.size):
 LOp P ⟨d,.index t x i,ty,pos,af,g⟩ τ η [] [] (.v (.int .u8 (((bAt s k).toNat:Nat):Int))):=
 .look [] fun C a hg h3 _=>by
  have h1:=h3 x (by simp[Op.operands])
  have h2:=h3 i (by simp[Op.operands])
  rw[hx]at h1
  rw[hi]at h2
  have e1:=h1.v_inv
  have e2:=h2.v_inv
  refine⟨_,?_,VR.v C _⟩
  simp only[execOp,e1,e2,Instr.index,asIntOf,Sem.run_bind,ahd,ahc,run_underlying hu]
  have h0:(0:Int)<=((k:Nat):Int):=Int.natCast_nonneg k
  simp only[h0,if_true,Int.toNat_natCast,Hr hk,ahd,ahc]
theorem C9{P:Program}{τ:Nat->AV}{η:bf}{d:Option Tmp}{ty:TypeId}{pos:String}{af:Array Edge}{g:Option (Nat×Bool)}{t t':Nat}{x:Operand}{td:TypeDesc}{m:Int}{k:IntKind}(hs:P.underlying t=some td)(hd:P.underlying t'=some (.int .i64))(hx:aev τ x=.v (.int k m))(h1:-9223372036854775808<=m)(h2:m<=9223372036854775807):
 LOp P ⟨d,.convert t t' x,ty,pos,af,g⟩ τ η [] [] (.v (.int .i64 m)):=
 .look [] fun C a _ h0 _=>by
  have e1:=h0 x (by simp[Op.operands])
  rw[hx]at e1
  refine⟨.int .i64 m,?_,VR.v C _⟩
  simp[execOp,e1.v_inv,convert,run_underlying hs,run_underlying hd,Conv.intToInt,Go.IntWalk.i64_in m ⟨h1,h2⟩]
def nxE(w:ByteArray)(s c:Int):Int:=if 100<=s then s else if s=(w.size:Int)then 101 else if(((bAt w s.toNat).toNat:Nat):Int)<c then 101 else if c<(((bAt w s.toNat).toNat:Nat):Int)then 100 else s+1
section
variable{w:ByteArray}{s:Nat}{c:Int}
theorem Z0(h:¬(((s:Nat):Int)≥100))(hs:100<=s\/s<=w.size)(e:(((s:Nat):Int)==((w.size:Nat):Int))=false):s<w.size:=by
 have:=beq_eq_false_iff_ne.1 e;omega
theorem aep(h:((s:Nat):Int)≥100):AV.v (.int .u32 ((s:Nat):Int))=.v (.int .u32 (nxE w ((s:Nat):Int) c)):=by unfold nxE;rw[ag2 h]
theorem aeo(h:¬(((s:Nat):Int)≥100))(e:(((s:Nat):Int)==((w.size:Nat):Int))=true):AV.v (.int .u32 101)=.v (.int .u32 (nxE w ((s:Nat):Int) c)):=by unfold nxE;rw[ag1 h,ag2 (eq_of_beq e)]
theorem aen(h:¬(((s:Nat):Int)≥100))(e:(((s:Nat):Int)==((w.size:Nat):Int))=false)(d:decide (c>(((bAt w s).toNat:Nat):Int))=true):AV.v (.int .u32 101)=.v (.int .u32 (nxE w ((s:Nat):Int) c)):=by unfold nxE;rw[ag1 h,ag1 (beq_eq_false_iff_ne.1 e),Int.toNat_natCast,ag2 (ag4 d)]
theorem aem(h:¬(((s:Nat):Int)≥100))(e:(((s:Nat):Int)==((w.size:Nat):Int))=false)(d:decide (c>(((bAt w s).toNat:Nat):Int))=false)(f:decide (c<(((bAt w s).toNat:Nat):Int))=true):AV.v (.int .u32 100)=.v (.int .u32 (nxE w ((s:Nat):Int) c)):=by unfold nxE;rw[ag1 h,ag1 (beq_eq_false_iff_ne.1 e),Int.toNat_natCast,ag1 (ag3 d),ag2 (ag4 f)]
theorem ael(h:¬(((s:Nat):Int)≥100))(hs:100<=s\/s<=w.size)(hw:w.size<=16)(e:(((s:Nat):Int)==((w.size:Nat):Int))=false)(d:decide (c>(((bAt w s).toNat:Nat):Int))=false)(f:decide (c<(((bAt w s).toNat:Nat):Int))=false):AV.v (.int .u32 (IntKind.u32.wrap (((s:Nat):Int)+1)))=.v (.int .u32 (nxE w ((s:Nat):Int) c)):=by unfold nxE;rw[ag1 h,ag1 (beq_eq_false_iff_ne.1 e),Int.toNat_natCast,ag1 (ag3 d),ag1 (ag3 f),IntKind.wrap_u32];congr 2;omega
end
theorem Vg(v:Int)(w:ByteArray)(s:Nat)(hw:w.size<=16)(hs:s<=101):PRet Tryz.prog 146 [.agg (tsA (tE v w)),.v (.int .u32 ((s:Nat):Int))] (fun q=>q=.v (.bool (decide (((s:Nat):Int)=((w.size:Nat):Int))))):=by
 refine ovT [30] [] Tryz.func146 rfl rfl (cF ?_)
 refine cT (OpG.lk (C9 Tryz.underlying177 Tryz.underlying3 rfl (by omega) (by omega)) ?_)
 refine rV rfl rfl ?_
 show AV.v (.bool ((((s:Nat):Int)==((w.size:Nat):Int)) !=false))=_
 by_cases h:((s:Nat):Int)=((w.size:Nat):Int)<;>simp[h]
theorem Vt(v:Int)(w:ByteArray)(s:Nat)(c:Int)(hs:100<=s\/s<=w.size)(hw:w.size<=16):PRet Tryz.prog 148 [.agg (tsA (tE v w)),.v (.int .u32 ((s:Nat):Int)),.v (.int .u8 c)] (fun q=>q=.v (.int .u32 (nxE w ((s:Nat):Int) c))):=by
 refine ovT [59,69,77] [] Tryz.func148 rfl rfl (cF ?_)
 refine OpG.lk (lP rfl (fun _ _=>nofun) (fun _=>rfl)) (cD (fun h0=>?_) (fun h0=>?_))
 ·exact rV rfl rfl (aep h0)
 refine OpG.lk (C9 Tryz.underlying177 Tryz.underlying3 rfl (by omega) (by omega)) (cB (fun h1=>?_) (fun h1=>?_))
 ·exact cT (rV rfl rfl (aeo h0 h1))
 refine OpG.lk (rm Tryz.underlying9 rfl rfl (Z0 h0 hs h1)) (cB (fun h2=>?_) (fun h2=>?_))
 ·exact rV rfl rfl (aen h0 h1 h2)
 refine OpG.lk (rm Tryz.underlying9 rfl rfl (Z0 h0 hs h1)) (cB (fun h3=>?_) (fun h3=>?_))
 ·exact rV rfl rfl (aem h0 h1 h2 h3)
 exact OpG.lk (lP rfl (fun _ _=>nofun) (fun _=>rfl)) (rV rfl rfl (ael h0 hs hw h1 h2 h3))
set_option maxRecDepth 1000000
set_option maxHeartbeats 0
def SE(w:ByteArray):List Int:=(List.range (w.size+1)).map (fun k:Nat=>(k:Int))++[100,101]
theorem mem_SE{w:ByteArray}{s:Int}:s∈SE w↔(∃k:Nat,k<=w.size/\s=(k:Int))\/s=100\/s=101:=by
 unfold SE
 rw[agz,ahj]
 constructor
 ·rintro(⟨k,h,rfl⟩|h)
  ·exact .inl ⟨k,by have:=List.mem_range.1 h;omega,rfl⟩
  exact .inr (by simpa using h)
 rintro(⟨k,h,rfl⟩|h)
 ·exact .inl ⟨k,List.mem_range.2 (by omega),rfl⟩
 exact .inr (by simpa using h)
theorem Hw{w:ByteArray}{s:Int}(hw:w.size<=16)(h:s∈SE w):∃k:Nat,s=(k:Int)/\(100<=k\/k<=w.size)/\k<=101:=by
 rcases mem_SE.1 h with⟨k,hk,rfl⟩|rfl|rfl
 ·exact⟨k,rfl,.inr hk,by omega⟩
 ·exact⟨100,rfl,.inl (by decide),by decide⟩
 exact⟨101,rfl,.inl (by decide),by decide⟩
theorem Z1{w:ByteArray}{s c:Int}(h:s∈SE w):nxE w s c∈SE w:=by
 unfold nxE
 split
 ·exact h
 split
 ·exact mem_SE.2 (.inr (.inr rfl))
 split
 ·exact mem_SE.2 (.inr (.inr rfl))
 split
 ·exact mem_SE.2 (.inr (.inl rfl))
 next h1 h2 _ _=>
 rcases mem_SE.1 h with⟨k,hk,rfl⟩|rfl|rfl
 ·exact mem_SE.2 (.inl ⟨k+1,by omega,by omega⟩)
 ·exact absurd (by decide) h1
 exact absurd (by decide) h1
theorem begE(v:Int)(w:ByteArray):PRet Tryz.prog 149 [.agg (tsA (tE v w))] (fun q=>q=.v (.int .u32 0)):=Bu (by kernel_rfl)
theorem J5{t:GTst}{w:ByteArray}(h:t.c_=0/\t.f_=false/\t.d_=w):t=tE t.h_ w:=by
 obtain⟨a,b,c,d⟩:=t
 obtain⟨rfl,rfl,rfl⟩:=h;rfl
def PE(w:ByteArray)(t:GTst):Pat t where
 S:=SE w
 n:=nxE w
 f:=fun s=>decide (s=(w.size:Int))
 s0:=0
 ok:=(t.c_=0/\t.f_=false/\t.d_=w)/\w.size<=16
 i0:=fun _=>mem_SE.2 (.inl ⟨0,ag6 _,rfl⟩)
 h0:=fun h=>by rw[J5 h.1];exact begE _ _
 hn:=fun h s hs k hk=>by
  refine⟨?_,Z1 hs⟩
  obtain⟨j,rfl,h1,h2⟩:=Hw h.2 hs
  rw[J5 h.1];exact Vt _ w j (32+(k:Int)) h1 h.2
 hf:=fun h s hs=>by
  obtain⟨j,rfl,h1,h2⟩:=Hw h.2 hs
  rw[J5 h.1];exact Vg _ w j h.2 h2
def QE:List Int:=[0,1,2,3,4,5,6,7,8,9,10,11,12,13,14,15,16,100,101]
def kE(l:List Int)(n:Nat):ByteArray:=⟨(UInt8.ofNat n::l.flatMap fun s=>[UInt8.ofNat s.toNat,UInt8.ofNat (s.toNat/256),UInt8.ofNat (s.toNat/65536)]).toArray⟩
theorem afe:QE.map (fun s=>zh Tryz.prog (fun _=>false) (fun _ _=>none) (kh Tryz.prog) 1000 20 147 [.tree 1 ([s].map ct),.v (.int .i64 ((1:Nat):Int))])=QE.map (fun s=>some (.v (.string (kE [s] 1)))):=by kernel_rfl
theorem afd:QE.map (fun s=>zh Tryz.prog (fun _=>false) (fun _ _=>none) (kh Tryz.prog) 1000 20 147 [.tree 1 ([s].map ct),.v (.int .i64 ((2:Nat):Int))])=QE.map (fun s=>some (.v (.string (kE [s] 2)))):=by kernel_rfl
theorem afc:QE.map (fun s=>zh Tryz.prog (fun _=>false) (fun _ _=>none) (kh Tryz.prog) 1000 20 147 [.tree 1 ([s].map ct),.v (.int .i64 ((3:Nat):Int))])=QE.map (fun s=>some (.v (.string (kE [s] 3)))):=by kernel_rfl
theorem afb:QE.map (fun s=>zh Tryz.prog (fun _=>false) (fun _ _=>none) (kh Tryz.prog) 1000 20 147 [.tree 1 ([s].map ct),.v (.int .i64 ((4:Nat):Int))])=QE.map (fun s=>some (.v (.string (kE [s] 4)))):=by kernel_rfl
theorem afa:QE.map (fun s=>zh Tryz.prog (fun _=>false) (fun _ _=>none) (kh Tryz.prog) 1000 20 147 [.tree 1 ([s].map ct),.v (.int .i64 ((5:Nat):Int))])=QE.map (fun s=>some (.v (.string (kE [s] 5)))):=by kernel_rfl
theorem ae9:QE.map (fun s=>zh Tryz.prog (fun _=>false) (fun _ _=>none) (kh Tryz.prog) 1000 20 147 [.tree 1 ([s].map ct),.v (.int .i64 ((6:Nat):Int))])=QE.map (fun s=>some (.v (.string (kE [s] 6)))):=by kernel_rfl
theorem ae8:QE.map (fun s=>zh Tryz.prog (fun _=>false) (fun _ _=>none) (kh Tryz.prog) 1000 20 147 [.tree 1 ([s].map ct),.v (.int .i64 ((7:Nat):Int))])=QE.map (fun s=>some (.v (.string (kE [s] 7)))):=by kernel_rfl
theorem ae7:QE.map (fun s=>zh Tryz.prog (fun _=>false) (fun _ _=>none) (kh Tryz.prog) 1000 20 147 [.tree 1 ([s].map ct),.v (.int .i64 ((8:Nat):Int))])=QE.map (fun s=>some (.v (.string (kE [s] 8)))):=by kernel_rfl
theorem ae6:QE.map (fun s=>zh Tryz.prog (fun _=>false) (fun _ _=>none) (kh Tryz.prog) 1000 20 147 [.tree 1 ([s].map ct),.v (.int .i64 ((9:Nat):Int))])=QE.map (fun s=>some (.v (.string (kE [s] 9)))):=by kernel_rfl
theorem aaq:QE.map (fun s=>zh Tryz.prog (fun _=>false) (fun _ _=>none) (kh Tryz.prog) 1000 20 147 [.tree 1 ([s].map ct),.v (.int .i64 ((10:Nat):Int))])=QE.map (fun s=>some (.v (.string (kE [s] 10)))):=by kernel_rfl
theorem aap:QE.map (fun s=>zh Tryz.prog (fun _=>false) (fun _ _=>none) (kh Tryz.prog) 1000 20 147 [.tree 1 ([s].map ct),.v (.int .i64 ((11:Nat):Int))])=QE.map (fun s=>some (.v (.string (kE [s] 11)))):=by kernel_rfl
theorem aao:QE.map (fun s=>zh Tryz.prog (fun _=>false) (fun _ _=>none) (kh Tryz.prog) 1000 20 147 [.tree 1 ([s].map ct),.v (.int .i64 ((12:Nat):Int))])=QE.map (fun s=>some (.v (.string (kE [s] 12)))):=by kernel_rfl
theorem aan:QE.map (fun s=>zh Tryz.prog (fun _=>false) (fun _ _=>none) (kh Tryz.prog) 1000 20 147 [.tree 1 ([s].map ct),.v (.int .i64 ((13:Nat):Int))])=QE.map (fun s=>some (.v (.string (kE [s] 13)))):=by kernel_rfl
theorem aam:QE.map (fun s=>zh Tryz.prog (fun _=>false) (fun _ _=>none) (kh Tryz.prog) 1000 20 147 [.tree 1 ([s].map ct),.v (.int .i64 ((14:Nat):Int))])=QE.map (fun s=>some (.v (.string (kE [s] 14)))):=by kernel_rfl
theorem aal:QE.map (fun s=>zh Tryz.prog (fun _=>false) (fun _ _=>none) (kh Tryz.prog) 1000 20 147 [.tree 1 ([s].map ct),.v (.int .i64 ((15:Nat):Int))])=QE.map (fun s=>some (.v (.string (kE [s] 15)))):=by kernel_rfl
theorem aak:QE.map (fun s=>zh Tryz.prog (fun _=>false) (fun _ _=>none) (kh Tryz.prog) 1000 20 147 [.tree 1 ([s].map ct),.v (.int .i64 ((16:Nat):Int))])=QE.map (fun s=>some (.v (.string (kE [s] 16)))):=by kernel_rfl
theorem agr{w:ByteArray}{s:Int}(hw:w.size<=16)(h:s∈SE w):s∈QE:=by
 rcases mem_SE.1 h with⟨k,h,rfl⟩|rfl|rfl
 ·have hk:k<=16:=by omega
  unfold QE
  simp only[ahk,List.not_mem_nil,or_false]
  omega
 ·decide
 decide
theorem keyE{s:Int}{n:Nat}(hs:s∈QE)(h1:1<=n)(h2:n<=16):PRet Tryz.prog 147 [.tree 1 ([s].map ct),.v (.int .i64 ((n:Nat):Int))] (fun q=>q=.v (.string (kE [s] n))):=by
 have:n=1\/n=2\/n=3\/n=4\/n=5\/n=6\/n=7\/n=8\/n=9\/n=10\/n=11\/n=12\/n=13\/n=14\/n=15\/n=16:=by omega
 rcases this with rfl|rfl|rfl|rfl|rfl|rfl|rfl|rfl|rfl|rfl|rfl|rfl|rfl|rfl|rfl|rfl
 ·exact Bu (List.map_inj_left.1 afe s hs)
 ·exact Bu (List.map_inj_left.1 afd s hs)
 ·exact Bu (List.map_inj_left.1 afc s hs)
 ·exact Bu (List.map_inj_left.1 afb s hs)
 ·exact Bu (List.map_inj_left.1 afa s hs)
 ·exact Bu (List.map_inj_left.1 ae9 s hs)
 ·exact Bu (List.map_inj_left.1 ae8 s hs)
 ·exact Bu (List.map_inj_left.1 ae7 s hs)
 ·exact Bu (List.map_inj_left.1 ae6 s hs)
 ·exact Bu (List.map_inj_left.1 aaq s hs)
 ·exact Bu (List.map_inj_left.1 aap s hs)
 ·exact Bu (List.map_inj_left.1 aao s hs)
 ·exact Bu (List.map_inj_left.1 aan s hs)
 ·exact Bu (List.map_inj_left.1 aam s hs)
 ·exact Bu (List.map_inj_left.1 aal s hs)
 exact Bu (List.map_inj_left.1 aak s hs)
theorem Se{a b:Nat}(ha:a<256)(hb:b<256)(h:UInt8.ofNat a=UInt8.ofNat b):a=b:=by
 have:=congrArg UInt8.toNat h
 simp only[UInt8.toNat_ofNat']at this
 omega
theorem ae5{l:List Int}(h:l.length=1):∃x,l=[x]:=match l,h with|[x],_=>⟨x,rfl⟩
theorem inE{v:Int}{w:ByteArray}{l:List Int}(h:InT (PE w) [tE v w] l):∃s,l=[s]/\s∈SE w:=by
 obtain⟨s,rfl⟩:=ae5 h.len
 exact⟨s,rfl,h.mem 0 (by simp) (by simp)⟩
def ags(v:Int)(w:ByteArray)(hw:w.size<=16):Keys (PE w) [tE v w] 16 where
 kF:=kE
 hk:=fun l n h h1 h2=>by
  obtain⟨s,rfl,hs⟩:=inE h
  exact keyE (agr hw hs) h1 h2
 inj:=fun l l' n n' h h' h1 h2 h3 h4 e=>by
  obtain⟨s,rfl,hs⟩:=inE h
  obtain⟨s',rfl,h0⟩:=inE h'
  obtain⟨a,rfl,_,ha⟩:=Hw hw hs
  obtain⟨b,rfl,_,hb⟩:=Hw hw h0
  have e1:=congrArg (fun x:ByteArray=>x.data.toList) e
  simp only[kE,List.flatMap_cons,List.flatMap_nil,List.append_nil,Int.toNat_natCast]at e1
  injection e1 with e2 e3
  injection e3 with e4 _
  rw[Se (by omega) (by omega) e2,Se (by omega) (by omega) e4]
  exact⟨rfl,rfl⟩
abbrev wdE(v:Int)(w:ByteArray)(n:Nat):List ByteArray:=fg 1 [] [] (WS (PE w) [tE v w] n [0])
theorem O7(v:Int)(w:ByteArray)(hw:w.size<=16)(n:Nat)(hn:n<=16):PRet Tryz.prog 90 [.tree 4 ([tE v w].map tsA),.v (.int .i64 ((n:Nat):Int)),.v (.int .i64 ((1:Nat):Int))] (fun q=>q=.tree 1 ((wdE v w n).map sA)):=
 Ue (PE w) [tE v w] ⟨by show 1<=1000;decide,fun t ht=>by rw[agy.1 ht];exact⟨by show w.size<=_;omega⟩⟩ (fun t ht=>by rw[agy.1 ht];exact⟨⟨rfl,rfl,rfl⟩,hw⟩) n 1 (by simp) (ags v w hw) (by decide) (by decide) (by decide) hn
theorem acm{v:Int}{w:ByteArray}(hw:w.size<=16)(hp:∀k,k<w.size->32<=(bAt w k).toNat/\(bAt w k).toNat<=126):∀n j,j+n=w.size->WS (PE w) [tE v w] n [((j:Nat):Int)]≠[]
 |0,j,h=>by
  have:okS (PE w) [tE v w] [((j:Nat):Int)]=true:=by
   show(decide (((j:Nat):Int)=(w.size:Int))&&true)=true
   rw[decide_eq_true (by omega)];rfl
  show(bif okS (PE w) [tE v w] [((j:Nat):Int)]then[[]]else[])≠[]
  rw[this];simp
 |n+1,j,h=>by
  obtain⟨h1,h2⟩:=hp j (by omega)
  have ih:=acm (v:=v) hw hp n (j+1) (by omega)
  have h0:nxS (PE w) [tE v w] [((j:Nat):Int)] (32+(((bAt w j).toNat-32:Nat):Int))=[((j+1:Nat):Int)]:=by
   show[nxE w ((j:Nat):Int) (32+(((bAt w j).toNat-32:Nat):Int))]=_
   have:nxE w ((j:Nat):Int) (32+(((bAt w j).toNat-32:Nat):Int))=((j:Nat):Int)+1:=by
    unfold nxE
    rw[ag1 (by omega),ag1 (by omega),Int.toNat_natCast,ag1 (by omega),ag1 (by omega)]
   rw[this];rfl
  obtain⟨x,hx⟩:=List.exists_mem_of_ne_nil _ ih
  refine List.ne_nil_of_mem (a:=UInt8.ofNat (32+((bAt w j).toNat-32))::x) ?_
  show _∈(List.range 95).flatMap fun(k:Nat)=>(WS (PE w) [tE v w] n (nxS (PE w) [tE v w] [((j:Nat):Int)] (32+(k:Int)))).map (UInt8.ofNat (32+k)::·)
  refine List.mem_flatMap.2 ⟨(bAt w j).toNat-32,List.mem_range.2 (by omega),?_⟩
  rw[h0]
  exact List.mem_map_of_mem hx
theorem Yl{v:Int}{w:ByteArray}(hw:w.size<=16)(hp:∀k,k<w.size->32<=(bAt w k).toNat/\(bAt w k).toNat<=126):(wdE v w w.size).length=1:=by
 have h:=acm (v:=v) hw hp w.size 0 (by omega)
 have h2:0<(WS (PE w) [tE v w] w.size [0]).length:=List.length_pos_iff.2 h
 rw[uo]
 show 0+min (1-0) _=1
 omega
theorem Fu{v:Int}{w:ByteArray}{n:Nat}:(wdE v w n).length<=1:=by
 rw[uo]
 show 0+min (1-0) _<=1
 omega
end Go.Proofs.YtmbmbhkemgmhfaaGreatDoor
namespace Go.Proofs
open Go.Shelf
def Tryz.cloT_ren:Go.Shelf.Ren:=⟨fun|41=>89|n=>n,fun|22=>61|23=>89|4=>4|n=>n,fun|n=>n⟩
theorem Tryz.cloT:Go.Proofs.SlLaysE0.n41 Tryz.prog Tryz.cloT_ren:={
 mixed:=by kernel_rfl
 f41:=⟨Tryz.f89.name,by decide,Tryz.func89.trans (congrArg some (by kernel_rfl))⟩
 t4:=Tryz.underlying4
 a4:=Tryz.isAgg4
 z4:=Tryz.sizeOf4
 v4:=Tryz.zeroValue4
 t22:=Tryz.underlying61
 a22:=Tryz.isAgg61
 z22:=Tryz.sizeOf61
 v22:=Tryz.zeroValue61}
end Go.Proofs
namespace Go.Proofs.YtmbmbhkemgmhfaaGreatDoor
set_option maxRecDepth 1000000
set_option maxHeartbeats 0
open Go.Shelf in
theorem cl_T:CloneL Tryz.prog 89 4:=⟨⟨Tryz.cloT_ren,Tryz.t89,_,_,rfl,Tryz.cloT,by kernel_rfl,rfl,rfl,rfl,rfl,Tryz.sizeOf89,by decide⟩,by decide⟩
set_option linter.unusedVariables false
set_option linter.unusedSimpArgs false
open Go.RowKit
structure KFw where
 k:Nat
 L:List ByteArray
 v:Nat
theorem adj{v:Int}{w:ByteArray}{k:Nat}{L:List ByteArray}{vv:Nat}(hw:w.size<=16)(hp:∀k,k<w.size->32<=(bAt w k).toNat/\(bAt w k).toNat<=126)(h:L.length<=1/\(k<=w.size\/L.length=1)/\vv<=k)(h0:((L.length:Nat):Int)<1):(L++wdE v w k).length<=1/\(k+1<=w.size\/(L++wdE v w k).length=1)/\vbX vv (L++wdE v w k).length<=k+1:=by
 have h1:=@Fu v w k
 rw[agx]
 refine⟨by omega,?_,by unfold vbX;cases Nat.beq (L.length+(wdE v w k).length) 0<;>simp only[cond_true,cond_false]<;>omega⟩
 by_cases e:k=w.size
 ·subst e;have:=Yl (v:=v) hw hp;omega
 omega
theorem Zx{L:List ByteArray}(h:L.length=1):∃x:ByteArray,AV.tree 1 (L.map sA)=.tree 1 ([x].map sA):=by
 obtain⟨x,rfl⟩:=List.length_eq_one_iff.1 h
 exact⟨x,rfl⟩
abbrev kcA(v:Int)(w:ByteArray)(hi:Nat):List AV:=[.v (.int .i64 0),.v (.int .i64 ((hi:Nat):Int)),.tree 4 ([tE v w].map tsA),.v (.slice none 0 0),.v (.slice none 0 0)]
theorem Qr(v:Int)(w:ByteArray)(hi:Nat)(hw:w.size<=hi)(h16:hi<=16)(hp:∀k,k<w.size->32<=(bAt w k).toNat/\(bAt w k).toNat<=126):PRet Tryz.prog 66 [.agg (kcA v w hi),.v (.int .i64 1)] (fun q=>∃x:ByteArray,q=.tree 1 ([x].map sA)):=by
 refine ovT [17,27,34,35,36,40] [] Tryz.func66 rfl rfl ?_
 refine LpG.via (fun _ h=>ic 5 1 rfl 2 rfl h) ?_
 refine LpG.on (fun k0:KFw=>(⟨fL [(1,.v (.int .i64 1)),(2,.ptr 0 0 0),(5,.sl 1 k0.v 0 k0.L.length),(6,.v (.int .i64 ((k0.k:Nat):Int)))],hLz [(0,⟨0,kcA v w hi,0,false⟩),(1,⟨k0.v,rF sA k0.L,1,Nat.beq k0.L.length 0⟩)],2⟩:St)) (fun k0=>((hi+1)-k0.k)) (fun k0=>(k0.k<=(hi+1)/\(k0.L.length<=1/\(k0.k<=w.size\/k0.L.length=1)/\k0.v<=k0.k))) (⟨0,[],0⟩:KFw) (cO (.cons rfl rfl (.cons rfl rfl (.cons (by rfl) rfl (.cons rfl rfl .nil)))) (.cons rfl rfl rfl (.cons (by rfl) rfl (aa bt _ _) .nil))) ⟨ag6 _,⟨ag6 _,.inl (ag6 _),ag8 _⟩⟩ ?_
 rintro k0 h6
 obtain⟨hle_k0,h0⟩:=h6
 refine cB (fun h3=>?_) (fun h3=>?_)
 ·have h7:((k0.k:Nat):Int)<=((hi:Nat):Int):=ag4 h3
  refine OpG.lk (bo rfl Tryz.underlying121 rfl rfl rfl) ?_
  refine cB (fun h1=>?_) (fun h1=>?_)
  ·have hlt20:k0.L.length<1:=Int.ofNat_lt.1 (ag4 h1)
   have h5:((k0.L.length:Nat):Int)<1:=ag4 h1
   refine ArgG.mk (PRet.of_call (CloneL.tree cl_T (fun _=>rfl) [tE v w] (by show 1<=1000000;decide))) rfl ?_
   rintro _ rfl
   refine LpG.exit ?_
   refine OpG.lk (bo rfl Tryz.underlying121 rfl rfl rfl) ?_
   refine cB (fun h2=>?_) (fun h2=>?_)
   ·have hlt29:k0.L.length<1:=Int.ofNat_lt.1 (ag4 h2)
    refine OpG.lk (bo rfl Tryz.underlying121 rfl rfl rfl) ?_
    refine OpG.lk (mu (r:=1) rfl rfl (by rw[show k0.L.length=0 by omega];decide)) ?_
    refine OpG.lk (rl rfl rfl) ?_
    refine ArgG.mk (O7 v w (by omega) k0.k (by omega)) rfl ?_
    rintro _ rfl
    refine OpG.mk _ _ _ 2 (og bt (l:=k0.L) (l':=wdE v w k0.k) Tryz.underlying121 sz9 zr9 by9 rfl rfl rfl rfl (by have:=@Fu v w k0.k;omega) (by have:=@Fu v w k0.k;omega) (by have:=h0.2.2;unfold TV;omega)) rfl rfl ?_
    refine LenG.of (cB (fun h4=>?_) (fun h4=>?_))
    ·have hlt43:((wdE v w k0.k)).length<100:=Int.ofNat_lt.1 (ag4 h4)
     refine⟨by omega,?_⟩
     refine⟨(⟨k0.k+1,k0.L++wdE v w k0.k,vbX k0.v (k0.L++wdE v w k0.k).length⟩:KFw),(by show(hi+1)-(k0.k+1)<(hi+1)-k0.k;omega),(cO (.cons rfl rfl (.cons rfl rfl (.cons (by rfl) rfl (.cons rfl rfl .nil)))) (.cons rfl rfl rfl (.cons (by rfl) rfl (aa bt _ _) .nil))),?_⟩
     refine⟨by show k0.k+1<=_;omega,?_⟩
     exact adj (by omega) hp h0 (by omega)
    have hge43:¬((wdE v w k0.k)).length<100:=fun h=>ag3 h4 (Int.ofNat_lt.2 h)
    exfalso;have hwl:=@Fu v w k0.k;omega
   have hge29:¬k0.L.length<1:=fun h=>ag3 h2 (Int.ofNat_lt.2 h)
   exfalso;exact ag3 h2 h5
  have hge20:¬k0.L.length<1:=fun h=>ag3 h1 (Int.ofNat_lt.2 h)
  have h5:¬(((k0.L.length:Nat):Int)<1):=ag3 h1
  refine⟨.inr rfl,_,Og.tmp rfl ⟨[1],FzP.rows bt (agy.2 rfl) rfl⟩,?_⟩
  exact Zx (by have h:=h0;omega)
 have h7:¬(((k0.k:Nat):Int)<=((hi:Nat):Int)):=ag3 h3
 exact cF ⟨.inr rfl,_,Og.tmp rfl ⟨[1],FzP.rows bt (agy.2 rfl) rfl⟩,Zx (by have h:=h0;omega)⟩
end Go.Proofs.YtmbmbhkemgmhfaaGreatDoor
