/- Texts of the claim. -/
import Derived.Lib.ItoaMem
import Derived.Lib.ItoaNum
import Derived.Lib.LaidTab
import Derived.Lib.Walk
import Derived.Lib.ItoaWalk
import Derived.WalkKit
import Derived.BigCall
import Derived.BigGuard
import Derived.Below
import Derived.KernelRfl
import Derived.Lib.Join
import Derived.Test.YtbhhmbchdponjaaGreatDoorA1
import Derived.Test.YtbhhmbchdponjaaGreatDoorShelf
import Derived.Test.YtbhhmbchdponjaaGreatDoorQ2
import Derived.Test.YtbhhmbchdponjaaGreatDoorT5
import Derived.Test.YtbhhmbchdponjaaGreatDoorE3
import Derived.Test.YtbhhmbchdponjaaGreatDoorT2
import Derived.Test.YtbhhmbchdponjaaGreatDoorT1
import Derived.Test.YtbhhmbchdponjaaGreatDoorM3
import Derived.Test.YtbhhmbchdponjaaGreatDoorT4
import Derived.Test.YtbhhmbchdponjaaGreatDoorF3
namespace Go.Proofs.YtbhhmbchdponjaaGreatDoor
set_option maxRecDepth 1000000
set_option maxHeartbeats 0
set_option linter.unusedVariables false
set_option linter.unusedSimpArgs false
open Go.RowKit Go.Lib Go.Shelf Go.Sort
abbrev L20:List Value:=[.int .u64 1,.int .u64 10,.int .u64 100,.int .u64 1000,.int .u64 10000,.int .u64 100000,.int .u64 1000000,.int .u64 10000000,.int .u64 100000000,.int .u64 1000000000,.int .u64 10000000000,.int .u64 100000000000,.int .u64 1000000000000,.int .u64 10000000000000,.int .u64 100000000000000,.int .u64 1000000000000000,.int .u64 10000000000000000,.int .u64 100000000000000000,.int .u64 1000000000000000000,.int .u64 10000000000000000000]
theorem Yb{T:Nat->Prop}{w:World}(h:TOk T w):Lib.TabIs Tryz.prog w "internal/strconv.uint64pow10" .u64 Lib.pow10Tab:=by
 have hg:Tryz.prog.globalNamed "internal/strconv.uint64pow10"=some 0:=by kernel_rfl
 obtain⟨-,hc,hn⟩:=h.glob _ (agx.2 rfl)
 have hc:∀j (h:j<L20.length),w.cell? ⟨0,j,none⟩=some L20[j]:=hc
 have hn:w.cell? ⟨0,20,none⟩=none:=hn
 have h0:=hc 0 (by decide)
 unfold Lib.TabIs World.var?
 rw[hg]
 simp only[aho]
 cases hb:w.heap[0]? with
 |none=>simp[World.cell?,hb]at h0
 |some o=>
  cases o with
  |cells c e f=>
   simp only[World.cell?,hb,Option.isSome_none,Bool.false_eq_true,if_false]at hc hn
   simp only[agv]
   apply Array.ext_getElem?
   intro i
   have e20:(Lib.pow10Tab.map fun z=>Value.int .u64 z).toArray=L20.toArray:=by kernel_rfl
   rw[e20]
   rcases Nat.lt_or_ge i 20 with g|g
   ·rw[hc i g,List.getElem?_toArray,agt (show i<L20.length from g)]
   ·have hs:c.size<=20:=Array.getElem?_eq_none_iff.1 hn
    rw[Array.getElem?_eq_none (by omega),Array.getElem?_eq_none (by show 20<=i;exact g)]
  |_=>simp[World.cell?,hb]at h0
theorem Zz(w:World)(T:TypeId)(nd:Nat)(hs:nd<=24):Holds (fun(b:UInt8)=>Value.int .u8 (b.toNat:Int)) (w.alloc (.cells Lib.zeros24 T)) w.heap.size 0 (Array.replicate nd (0:UInt8)):=fun j hj=>by
 have hj':j<nd:=by simpa using hj
 refine⟨?_,World.frozen?_alloc_new _ _ _ _⟩
 rw[World.cell?_alloc_new,Lib.zeros24_at _ (by omega),getElem!_pos _ j hj]
 simp
theorem afk(w:World)(o:Obj)(dk:Array UInt8)(k:Nat):∃os,(putRow (fun(b:UInt8)=>Value.int .u8 (b.toNat:Int)) (w.alloc o) w.heap.size 0 dk).drewN k=grow (w.drewN k) os:=by
 rw[alloc_eq_grow]
 obtain⟨os',_,e⟩:=putRow_grow_new (fun(b:UInt8)=>Value.int .u8 (b.toNat:Int)) w #[o] w.heap.size 0 dk (ag7 _)
 exact⟨os',by rw[e];rfl⟩
theorem aep(u:Nat)(ha:u<18446744073709551616)(w:World)(hc:Lib.TabIs Tryz.prog w "internal/strconv.uint64pow10" .u64 Lib.pow10Tab):
 Calls Tryz.prog 246 #[.int .u64 u,.int .i64 10] w fun e w'=>e=.returned (.string ⟨(Lib.decDigits u).toArray⟩)/\∃k os,w'=grow (w.drewN k) os:=by
 by_cases hs:u<100
 ·go_enter Tryz.func246,Tryz.ntmps246
  go_wp2_with (go_at_call 252;refine(Tryz.internal_strconv_small u hs _).mono ?_;rintro e w' ⟨rfl,rfl⟩)
  go_ret
  refine⟨rfl,0,#[],by simp[World.drewN_zero]⟩
 have he:1<=u:=by omega
 have hnd20:Lib.nDigits u<=20:=by have:=Lib.numDigits_eq u he ha;split at this<;>omega
 have hf:Tryz.prog.arrayLen 324=24:=by kernel_rfl
 have hsl:∀W,(Instr.sliceAt 324 (.pointer (some ⟨w.heap.size,0,none⟩)) none (some (.int .i64 (Lib.nDigits u:Int))) none).run Tryz.prog W=.ok (.slice (some ⟨w.heap.size,0,none⟩) (Lib.nDigits u) 24) W:=fun W=>by
  rw[run_sliceAt_array_h W 324 ⟨w.heap.size,0,none⟩ (by kernel_rfl) .i64 (Lib.nDigits u:Int) (by omega) (by rw[hf];omega)]
  go_simp
 have hd:=Zz w 324 (Lib.nDigits u) (by omega)
 have hb:=Tryz.internal_strconv_formatBase10 w.heap.size 0 24 u (Array.replicate (Lib.nDigits u) 0) (w.alloc (.cells Lib.zeros24 324)) hd (by rw[Array.size_replicate];exact Lib.lt_pow_nDigits u) ha (by rw[Array.size_replicate];omega)
 rw[Array.size_replicate]at hb
 have HH0:=Lib.hid hd
 clear hd hf
 go_enter Tryz.func246,Tryz.ntmps246
 go_wp2_with (go_at_call 253;refine(Tryz.internal_strconv_numDigits u he ha _ (Lib.tabIs_alloc hc _)).mono ?_;rintro e w' ⟨rfl,rfl⟩)
 go_at_call 254
 refine hb.mono ?_
 rintro e w' ⟨rfl,k,v',dk,rfl,hF⟩
 have hcv:(convert 160 9 (.slice (some ⟨w.heap.size,0,none⟩) (Lib.nDigits u) 24)).run Tryz.prog ((putRow (fun(b:UInt8)=>Value.int .u8 (b.toNat:Int)) (w.alloc (.cells Lib.zeros24 324)) w.heap.size 0 dk).drewN k)=.ok (.string ⟨(Lib.decDigits u).toArray⟩) ((putRow (fun(b:UInt8)=>Value.int .u8 (b.toNat:Int)) (w.alloc (.cells Lib.zeros24 324)) w.heap.size 0 dk).drewN k):=by
  have h:=run_convert_bytes_back (P:=Tryz.prog) ((putRow (fun(b:UInt8)=>Value.int .u8 (b.toNat:Int)) (w.alloc (.cells Lib.zeros24 324)) w.heap.size 0 dk).drewN k) 160 9 5 ⟨w.heap.size,0,none⟩ 24 (Lib.decDigits u) Tryz.underlying160 Tryz.underlying5 Tryz.underlying9 (fun j hj=>by
   rw[Lib.row_is_numeral hF j hj,Lib.add_plain,World.cell?_drewN]
   rw[show 0+j=0+j from rfl]
   exact cell?_putRow (fun(b:UInt8)=>Value.int .u8 (b.toNat:Int)) _ w.heap.size 0 _ dk HH0.out (by rw[hF.size,Array.size_replicate]) j (by rw[hF.size];rw[Lib.decDigits_length]at hj;exact hj))
  rw[Lib.decDigits_length]at h
  exact h
 go_wp2
 go_ret
 obtain⟨os,eo⟩:=afk w (.cells Lib.zeros24 324) dk k
 exact⟨rfl,k,os,eo⟩
open Go.RowKit
open Go.Lib in
theorem Tp:∀{f u:Nat},u<10^(f+1)->Lib.decDigits u=Ek (f+1) u
 |0,u,h=>by rw[Lib.decDigits,Ek,dif_pos (by simpa using h),ag1 (by simpa using h)]
 |f+1,u,h=>by
  rw[Lib.decDigits,Ek]
  by_cases g:u<10
  ·rw[dif_pos g,ag1 g]
  ·rw[dif_neg g,ag0 g,Tp (f:=f) (u:=u/10) (by rw[Nat.pow_succ]at h;omega)]
abbrev dSt(u:Nat):ByteArray:=⟨(Ek 20 u).toArray⟩
theorem aeq{u:Nat}(hu:u<18446744073709551616):b8 Tryz.prog 246 [.v (.int .u64 (u:Int)),.v (.int .i64 10)] (.v (.string (dSt u))):=by
 intro T w vals ⟨ha,hv⟩ hT
 have h0:=(hv 0 (by simp) (by simp at ha;omega)).v_inv
 have h1:=(hv 1 (by simp) (by simp at ha;omega)).v_inv
 have hc:vals=#[.int .u64 (u:Int),.int .i64 10]:=by
  have e0:vals[0]'(by simp at ha;omega)=.int .u64 (u:Int):=h0
  have e1:vals[1]'(by simp at ha;omega)=.int .i64 10:=h1
  apply Array.ext
  ·simpa using ha.symm
  ·intro i hi hd
   have:i=0\/i=1:=by simp at hd;omega
   rcases this with rfl|rfl
   ·exact e0
   ·exact e1
 rw[hc]
 refine(aep u hu w (Yb hT)).mono ?_
 rintro e w' ⟨rfl,k,os,rfl⟩
 have hb:Below w.heap.size w (Go.Sort.grow (w.drewN k) os):=⟨rfl,rfl,rfl,by rw[Go.Sort.size_grow];exact Nat.le_add_right _ _,fun j hj=>Go.Sort.heap_grow_old (w.drewN k) os hj⟩
 have e20:Lib.decDigits u=Ek 20 u:=Tp (f:=19) (Nat.lt_trans hu (by decide))
 rw[e20]
 exact⟨_,T,rfl,.v _,fun _ h=>h,fun _ h=>.inl h,fun b hb'=>Nat.lt_of_lt_of_le (hT b hb') hb.size,hb⟩
abbrev BY(b:Bool)(y:Int):GBig:=⟨b,[y]⟩
theorem shY{y:Int}(h1:1<=y)(h2:y<=65535):shN 1000000000 [y] 1=([0],y):=by
 have e:y/1000000000=0:=Int.ediv_eq_zero_of_lt (by omega) (by omega)
 have e2:y%1000000000=y:=Int.emod_eq_of_lt (by omega) (by omega)
 simp[shN,e,e2]
theorem ad7{b:Bool}{y:Int}(h1:1<=y)(h2:y<=65535):PRet Tryz.prog 83 [.agg (bgA (BY b y))] (fun q=>q=.agg (bgA (BY b y))):=by
 have:=wa (BY b y) ⟨dw (show 1<=5000 by decide)⟩ (show 1<=1000 by decide)
 have e:nmB b [y]=BY b y:=by unfold nmB;rw[show dtr [y]=[y]by rw[<-qm h1,kx]];rfl
 rwa [show nmB (BY b y).b_ (BY b y).a_=BY b y from e]at this
def dK(y:Int):Nat->List Int
 |0=>[y]
 |_+1=>[]
theorem shoY{y:Int}{k:Nat}(hk:k=0)(h1:1<=y)(h2:y<=65535):PRet Tryz.prog 230 [.tree 1 ((dK y k).map cx),.v (.int .u32 1000000000)] (fun q=>q=.tup [.tree 1 (([0]:List Int).map cx),.v (.int .u32 y)]):=by
 subst hk
 have:=Jz [y] (dw (show 1<=5000 by decide)) 1000000000 ⟨by decide,by decide⟩ (fun z hz=>by rw[agx.1 hz];exact⟨by omega,by omega⟩) (show 1<=1000 by decide)
 rwa [show shN 1000000000 [y] [y].length=([0],y)from shY h1 h2]at this
theorem act:PRet Tryz.prog 158 [.tree 1 (([0]:List Int).map cx)] (fun q=>q=.tree 1 (([]:List Int).map cx)):=
 xy [0] (dw (show 1<=5000 by decide)) (show 1<=1000 by decide)
theorem af0{y:Int}{k:Nat}(h:(((dK y k).length:Nat):Int)>0):k=0:=by
 cases k with
 |zero=>rfl
 |succ k=>exact absurd h (Int.lt_irrefl 0)
theorem af1{y:Int}{k:Nat}(h:¬(((dK y k).length:Nat):Int)>0):k≠0:=fun e=>by subst e;exact h (by show(0:Int)<1;decide)
theorem jn_1(a:ByteArray):Lib.join ([a].map (·.data.toList)) (⟨#[]⟩:ByteArray).data.toList=a.data.toList:=by simp[Lib.join,Lib.joinTail]
theorem jn_2(a b:ByteArray):Lib.join ([a,b].map (·.data.toList)) (⟨#[]⟩:ByteArray).data.toList=a.data.toList++b.data.toList:=by simp[Lib.join,Lib.joinTail]
def abp:Prop:=∀(ss:List ByteArray) (sep:ByteArray),(Lib.join (ss.map (·.data.toList)) sep.data.toList).length<=140737488355328->b8 Tryz.prog 213 [.tree 1 (ss.map sA),.v (.string sep)] (.v (.string ⟨(Lib.join (ss.map (·.data.toList)) sep.data.toList).toArray⟩))
theorem aay:bw Tryz.prog 237=true:=by kernel_rfl
theorem T0:bw Tryz.prog 239=true:=by kernel_rfl
theorem aax:bw Tryz.prog 246=true:=by kernel_rfl
theorem row9:ej Tryz.prog 9=some none:=by kernel_rfl
theorem afd{u:Nat}(hu:u<18446744073709551616):PRet Tryz.prog 237 [.v (.int .u64 ((u:Nat):Int)),.v (.int .i64 10)] (fun q=>q=.v (.string (dSt u))):=by
 refine ovT [7] [] Tryz.func237 rfl rfl (OpG.lk (LOp.call aax rfl (aeq hu)) ?_)
 exact rV rfl rfl rfl
theorem Yv(a:ByteArray)(v:Nat):qa Tryz.prog 239 [.sl 1000000 v 0 1] [(1000000,⟨v,rF sA [a],1,false⟩)] [(1000000,some (⟨v,rF sA [a],1,false⟩))] (fun q=>q=.tup []):=by
 refine qa.of_vc jc [5] [] Tryz.func239 rfl Tryz.ntmps239 rfl (by kernel_rfl) (OpG.lk (cd rfl Tryz.underlying112 rfl rfl rfl) ?_)
 refine⟨by omega,k7 (ULp.step ?_)⟩
 refine cF ⟨.inl rfl,_,Nf.of [] (az rfl .nil) rfl ⟨.same rfl (by decide),trivial⟩ .same,?_⟩
 rfl
theorem Yu(a b:ByteArray)(v:Nat):qa Tryz.prog 239 [.sl 1000000 v 0 2] [(1000000,⟨v,rF sA [a,b],1,false⟩)] [(1000000,some (⟨v,rF sA [b,a],1,false⟩))] (fun q=>q=.tup []):=by
 refine qa.of_vc jc [5,20,21,24,25,26,27,100026,100027] [] Tryz.func239 rfl Tryz.ntmps239 rfl (by kernel_rfl) (OpG.lk (cd rfl Tryz.underlying112 rfl rfl rfl) ?_)
 refine⟨by omega,k7 (ULp.step ?_)⟩
 refine cT (OpG.lk (av (k:=1) (n:=2) (id:=1000000) (ver:=v) (v:=1) (L:=[a,b]) cr Tryz.underlying112 sz9 rfl rfl rfl (by decide) rfl) ?_)
 refine OpG.lk (j0 (k:=1) (o:=0) (L:=[a,b]) cr row9 rfl rfl (by simp) rfl) (OpG.lk (av (k:=0) (n:=2) (id:=1000000) (ver:=v) (v:=0) (L:=[a,b]) cr Tryz.underlying112 sz9 rfl rfl rfl (by decide) rfl) ?_)
 refine OpG.lk (j0 (k:=0) (o:=0) (L:=[a,b]) cr row9 rfl rfl (by simp) rfl) (OpG.lk (av (k:=0) (n:=2) (id:=1000000) (ver:=v) (v:=0) (L:=[a,b]) cr Tryz.underlying112 sz9 rfl rfl rfl (by decide) rfl) ?_)
 refine OpG.wr (bl (k:=0) (o:=0) (v:=b) (L:=[a,b]) cr sz9 rfl rfl rfl rfl rfl rfl (by simp) (by decide) rfl) rfl (OpG.lk (av (k:=1) (n:=2) (id:=1000000) (ver:=v) (v:=1) (L:=[b,b]) cr Tryz.underlying112 sz9 rfl rfl rfl (by decide) rfl) ?_)
 refine OpG.wr (bl (k:=1) (o:=0) (v:=a) (L:=[b,b]) cr sz9 rfl rfl rfl rfl rfl rfl (by simp) (by decide) rfl) rfl ⟨by kernel_rfl,⟨by omega,?_⟩⟩
 refine⟨by omega,ULp.step ?_⟩
 refine cF ⟨.inl rfl,_,Nf.of [] (az rfl .nil) rfl ⟨.same rfl (by decide),trivial⟩ .same,?_⟩
 rfl
theorem fmtY(hJ:abp)(b:Bool)(y:Int)(DS:ByteArray)(hh:1<=y)(hi:y<=65535)(hj:DS=dSt y.toNat):PRet Tryz.prog 212 [.agg (bgA (BY b y))] (fun q=>q=.v (.string ⟨((if b then[45]else[])++DS.data.toList).toArray⟩)):=by
 obtain⟨_,rfl,hm⟩:PRet Tryz.prog 237 [.v (.int .u64 y),.v (.int .i64 10)] (fun q=>q=.v (.string DS)):=by
  have:=afd (u:=y.toNat) (by omega)
  rw[show((y.toNat:Nat):Int)=y by omega]at this;rw[hj];exact this
 have hyu:((y.toNat:Nat):Int)=y:=by omega
 have hn:DS.data.toList.length<=20:=by rw[hj];exact Ej
 obtain⟨_,rfl,hc⟩:=Yv DS 1
 obtain⟨_,rfl,hd⟩:=Yu DS (⟨#[45]⟩:ByteArray) 2
 have hk:=hJ [DS] ⟨#[]⟩ (by rw[jn_1];omega)
 have hl:=hJ [(⟨#[45]⟩:ByteArray),DS] ⟨#[]⟩ (by rw[jn_2];simp;simp at hn;omega)
 rw[jn_1]at hk
 rw[jn_2]at hl
 refine ovT [27,28,46,48,50] [13,16] Tryz.func212 rfl rfl (ArgG.mk (ad7 (b:=b) hh hi) rfl ?_)
 rintro _ rfl
 refine LenG.of (cF ?_)
 refine LpG.via (fun _ h=>ry 3 1 rfl 2 rfl h) (LpG.on (fun k0:KL ByteArray=>(⟨fL [(1,.ptr 0 0 0),(3,.sl 1 k0.L.length 0 k0.L.length),(4,.tree 1 (((dK y k0.k)).map cx))],hLz [(0,⟨0,bgA (BY b y),0,false⟩),(1,⟨k0.L.length,rF sA k0.L,1,Nat.beq k0.L.length 0⟩)],2⟩:St)) (fun k0=>(1-k0.k)) (fun k0=>(k0.k<=1/\(k0.L=[DS].take k0.k/\k0.k<=1))) (⟨0,[]⟩:KL ByteArray) (cO (.cons rfl rfl (.cons (by rfl) rfl (.cons rfl rfl .nil))) (.cons rfl rfl rfl (.cons (by rfl) rfl (aa cr _ _) .nil))) ⟨ag5 _,⟨rfl,ag5 _⟩⟩ ?_)
 rintro k0 he
 obtain⟨hle_k0,ha⟩:=he
 refine LenG.of (cD (fun hb=>?_) (fun hb=>?_))
 ·have hf:=af0 hb
  have hll:k0.L.length=0:=by rw[ha.1,hf];rfl
  refine ArgG.mk (shoY (k:=k0.k) hf hh hi) rfl ?_
  rintro _ rfl
  refine ArgG.mk (act) rfl ?_
  rintro _ rfl
  refine OpG.lk (j5 Tryz.underlying192 Tryz.underlying154 rfl (by omega) (by omega)) (OpG.lk (LOp.call aay rfl hm) ?_)
  refine LenG.of (cF ?_)
  refine OpG.mk _ _ _ 3 (b9 cr (a:=DS) Tryz.underlying112 sz9 zr9 by9 rfl rfl rfl (dv rfl rfl rfl rfl) rfl (by omega) (by omega) (by unfold TV;omega)) rfl rfl ⟨(⟨k0.k+1,k0.L++[DS]⟩:KL ByteArray),(by show 1-(k0.k+1)<1-k0.k;omega),(cO (.cons rfl rfl (.cons (by(rw[agw];rfl)) rfl (.cons rfl rfl .nil))) (.cons rfl rfl rfl (.cons (by(rw[agw];rfl)) rfl (aa cr _ _) .nil))),⟨by show k0.k+1<=_;omega,?_⟩⟩
  exact⟨by rw[ha.1,hf];rfl,by show k0.k+1<=1;omega⟩
 have ho:k0.k=1:=by have:=af1 hb;have:=ha.2;omega
 have hL:k0.L=[DS]:=by rw[ha.1,ho];rfl
 rw[hL]
 refine RegG.via (fun _ h=>ck 1 ⟨1,rF sA [DS],1,false⟩ rfl (rfl) h) (aw ?_)
 refine cB (fun hg=>?_) (fun hg=>?_)
 ·refine OpG.mk _ _ _ 3 (b9 cr (l:=[DS]) (a:=(⟨#[45]⟩:ByteArray)) Tryz.underlying112 sz9 zr9 by9 rfl rfl rfl (dv rfl rfl rfl rfl) rfl (ag9 rfl) (ag9 rfl) (by show 2≠TV;decide)) rfl rfl (OpG.mk _ _ _ 3 (a8 [(1000000,1)] T0 hd rfl rfl rfl rfl ⟨sX cr,trivial⟩ ⟨au cr,trivial⟩ ⟨aq cr _ _,trivial⟩ rfl rfl rfl rfl rfl rfl) rfl rfl ?_)
  refine RegG.via (fun _ h=>bm [1] 3 (.tree 1 (([(⟨#[45]⟩:ByteArray),DS]:List ByteArray).map sA)) (b7 cr (agx.2 rfl) rfl rfl) rfl h) (aw ?_)
  refine OpG.lk (LOp.call Mo rfl hl) (rV rfl rfl ?_)
  rw[ag1 ‹_›];rfl
 refine OpG.mk _ _ _ 2 (a8 [(1000000,1)] T0 hc rfl rfl rfl rfl ⟨sX cr,trivial⟩ ⟨au cr,trivial⟩ ⟨aq cr _ _,trivial⟩ rfl rfl rfl rfl rfl rfl) rfl rfl (RegG.via (fun _ h=>bm [1] 3 (.tree 1 (([DS]:List ByteArray).map sA)) (b7 cr (agx.2 rfl) rfl rfl) rfl h) ?_)
 refine aw (OpG.lk (LOp.call Mo rfl hk) ?_)
 refine rV rfl rfl ?_
 rw[ag0 (by simp_all)];rfl
theorem afe:PRet Tryz.prog 212 [.agg (bI 0)] (fun q=>q=.v (.string (I5 0))):=by
 refine ovT [] [] Tryz.func212 rfl rfl (ArgG.mk (wb (x:=0) ⟨by decide,by decide⟩) rfl ?_)
 rintro _ rfl
 refine LenG.of (cT ?_)
 exact rV rfl rfl rfl
set_option maxRecDepth 100000
theorem K8:abp:=by
 intro ss sep hl T w vals ⟨ha,hv⟩ hT
 have h0:=hv 0 (by simp) (by simp at ha;omega)
 have h1:=hv 1 (by simp) (by simp at ha;omega)
 have hf:=h1.v_inv
 simp only[List.getElem_cons_zero]at h0
 have hd:vals=#[vals[0]'(by simp at ha;omega),.string sep]:=by
  rw[<-hf]
  apply Array.ext
  ·simpa using ha.symm
  ·intro i hi hm
   have:i=0\/i=1:=by simp at hm;omega
   rcases this with rfl|rfl<;>rfl
 have give:∀w',Below w.heap.size w w'->Rn T w (.v (.string ⟨(Lib.join (ss.map (·.data.toList)) sep.data.toList).toArray⟩)) (.returned (.string ⟨(Lib.join (ss.map (·.data.toList)) sep.data.toList).toArray⟩)) w':=fun w' hb=>
  ⟨_,T,rfl,.v _,fun _ h=>h,fun _ h=>.inl h,fun b hb'=>Nat.lt_of_lt_of_le (hT b hb') hb.size,hb⟩
 rw[hd]
 generalize vals[0]'(by simp at ha;omega)=x0 at h0
 have hg:(ss.map sA).length=ss.length:=agz ..
 have hh:∀(j:Nat) (x:ByteArray),ss[j]? =some x->(ss.map sA)[j]? =some [AV.v (.string x)]:=fun j x h=>by rw[List.getElem?_map,h];rfl
 generalize ss.map sA=rows at h0 hg hh
 cases h0 with
 |tree cell hb hc1 hc2 hc3 hc4 hn ho=>
  rename_i b off cap
  rw[hg]
  refine(Tryz.strings_Join b off cap ss sep w (fun j x hj=>?_) (hT _ hb) (by omega) (by omega) hl).mono ?_
  ·obtain⟨hk,he⟩:=ahl.1 (hh j x hj)
   have h2:=hn j 0 hk (by omega)
   have h3:=ho j hk 0 (by rw[he];simp)
   simp only[he,List.getElem_cons_zero]at h3
   rw[h3.v_inv]at h2
   simpa using h2
  ·rintro e w' ⟨rfl,hp⟩
   exact give w' hp
 |tree0 hc=>
  have hq:ss=[]:=ahk (by simpa using hg.symm)
  subst hq
  refine(Tryz.strings_Join_none _ _ sep w).mono ?_
  rintro e w' ⟨rfl,hw⟩
  subst hw
  exact give _ (Below.refl _ _)
theorem K7:I3:=fun ss h=>K8 ss ⟨#[32]⟩ h
theorem Tg:∀c,aZ c<=FM->Nt c:=fun c h=>by
 by_cases h0:c=0
 ·subst h0;exact afe
 ·have h1:1<=aZ c:=by unfold aZ;split<;>omega
  have e:bgI c=BY (decide (c<0)) (aZ c):=by
   have e1:(bgI c).a_=[aZ c]:=by rw[ed,qm h1]
   have e2:(bgI c).b_=decide (c<0):=b6 c
   rw[show bgI c=⟨(bgI c).b_,(bgI c).a_⟩from rfl,e1,e2]
  have:=fmtY K8 (decide (c<0)) (aZ c) _ h1 h rfl
  unfold Nt
  show PRet _ _ [.agg (bgA (bgI c))] _
  rw[e]
  have e3:(aZ c).toNat=c.natAbs:=by rw[Nb];rfl
  rw[e3]at this
  have e4:(⟨((if decide (c<0)=true then[45]else[])++(dSt c.natAbs).data.toList).toArray⟩:ByteArray)=I5 c:=by
   unfold I5 Lq
   by_cases g:c<0
   ·rw[ag1 (decide_eq_true g),ag1 g];rfl
   ·rw[ag0 (by simp[g]),ag0 g];rfl
  rwa [e4]at this
def WkT(a b:AV):Prop:=∀(T:Nat->Prop) (w:World) (x:Value),TR T w a x->TR T w b x
def WkR:List AV->List AV->Prop
 |[],[]=>True
 |a::r,b::s=>WkT a b/\WkR r s
 |_,_=>False
theorem WkR.len:∀{cs ds:List AV},WkR cs ds->cs.length=ds.length
 |[],[],_=>rfl
 |[],_::_,h=>h.elim
 |_::_,[],h=>h.elim
 |_::r,_::s,h=>by simp[WkR.len h.2]
theorem WkR.get:∀{cs ds:List AV},WkR cs ds->∀i (h:i<cs.length) (h':i<ds.length),WkT cs[i] ds[i]
 |[],[],_,i,h,_=>absurd h (by simp)
 |[],_::_,h,_,_,_=>h.elim
 |_::_,[],h,_,_,_=>h.elim
 |_::r,_::s,h,0,_,_=>h.1
 |_::r,_::s,h,i+1,g,g'=>h.2.get i (by simpa using g) (by simpa using g')
theorem WkT.refl(a:AV):WkT a a:=fun _ _ _ h=>h
theorem kb{P:Program}{f:FuncId}{args args':List AV}{ret:AV}(hw:WkR args args')(h:b8 P f args' ret):b8 P f args ret:=fun T w vals ht hT=>
 h T w vals ⟨by have:=ht.1;have:=hw.len;omega,fun i g g'=>hw.get i (by have:=hw.len;omega) g T w _ (ht.2 i (by have:=hw.len;omega) g')⟩ hT
theorem WkT.agg{cs ds:List AV}(h:WkR cs ds):WkT (.agg cs) (.agg ds):=fun T w x hx=>by
 cases hx with
 |agg h1 h2=>exact .agg (by rw[<-h.len];exact h1) fun i g g'=>h.get i (by rw[h.len];exact g) g T w _ (h2 i (by rw[h.len];exact g) g')
theorem WkT.nil{n:Nat}:WkT (.v (.slice none 0 0)) (.tree n []):=fun T w x hx=>by
 rw[hx.v_inv];exact .tree0 (by unfold maxLen;omega)
def WkX(n:Nat):List (List AV)->List (List AV)->Prop
 |[],[]=>True
 |a::r,b::s=>(WkR a b/\a.length=n)/\WkX n r s
 |_,_=>False
theorem WkX.len{n:Nat}:∀{xs ys:List (List AV)},WkX n xs ys->xs.length=ys.length
 |[],[],_=>rfl
 |[],_::_,h=>h.elim
 |_::_,[],h=>h.elim
 |_::r,_::s,h=>by simp[WkX.len h.2]
theorem WkX.get{n:Nat}:∀{xs ys:List (List AV)},WkX n xs ys->∀i (h:i<xs.length) (h':i<ys.length),WkR xs[i] ys[i]/\xs[i].length=n
 |[],[],_,i,h,_=>absurd h (by simp)
 |[],_::_,h,_,_,_=>h.elim
 |_::_,[],h,_,_,_=>h.elim
 |_::r,_::s,h,0,_,_=>h.1
 |_::r,_::s,h,i+1,g,g'=>h.2.get i (by simpa using g) (by simpa using g')
theorem WkT.tree{n:Nat}{xs ys:List (List AV)}(h:WkX n xs ys):WkT (.tree n xs) (.tree n ys):=fun T w x hx=>by
 cases hx with
 |tree cell hb h1 h2 h3 h4 h5 h6=>
  rw[h.len]
  refine .tree cell hb (by rw[<-h.len];exact h1) h2 (by rw[<-h.len];exact h3) (fun k g=>?_) (fun k j g=>h5 k j (by rw[h.len];exact g)) (fun k g j g'=>?_)
  ·have:=(h.get k (by rw[h.len];exact g) g);rw[<-this.1.len];exact this.2
  ·have e:=(h.get k (by rw[h.len];exact g) g).1
   exact e.get j (by rw[e.len];exact g') g' T w _ (h6 k (by rw[h.len];exact g) j (by rw[e.len];exact g'))
 |tree0 h1=>
  have:ys=[]:=by cases ys with
   |nil=>rfl
   |cons a r=>exact h.elim
  subst this;exact .tree0 h1
def xp:AV->Option Int
 |.agg [.v (.bool ng),.tree 1 rows]=>match rows with
  |[]=>match ng with
   |false=>some 0
   |true=>none
  |[[.v (.int .u32 (.ofNat (m+1)))]]=>bif Nat.ble (m+1) 4294967295 then some (match ng with
   |false=>.ofNat (m+1)
   |true=>.negSucc m)else none
  |_=>none
 |.agg [.v (.bool false),.v (.slice none 0 0)]=>some 0
 |_=>none
theorem agk{m:Nat}:bI (.ofNat (m+1))=[.v (.bool false),.tree 1 [[.v (.int .u32 (.ofNat (m+1)))]]]:=by
 have h1:aZ (.ofNat (m+1))=.ofNat (m+1):=by unfold aZ;rw[ag0 (by have:=Int.natCast_nonneg (m+1);show¬((m+1:Nat):Int)<0;omega)]
 have h2:decide ((Int.ofNat (m+1))<0)=false:=decide_eq_false (by show¬((m+1:Nat):Int)<0;omega)
 show bgA (bgI _)=_
 unfold bgI bgS
 rw[h1,h2,ag0 (by show¬((m+1:Nat):Int)=0;omega)];rfl
theorem agl{m:Nat}:bI (.negSucc m)=[.v (.bool true),.tree 1 [[.v (.int .u32 (.ofNat (m+1)))]]]:=by
 have h1:aZ (.negSucc m)=.ofNat (m+1):=by unfold aZ;rw[ag1 (by omega)];rfl
 have h2:decide ((Int.negSucc m)<0)=true:=decide_eq_true (by omega)
 show bgA (bgI _)=_
 unfold bgI bgS
 rw[h1,h2,ag0 (by show¬((m+1:Nat):Int)=0;omega)];rfl
theorem ij{a:AV}{x:Int}(h:xp a=some x):B1 x/\WkT a (.agg (bI x)):=by
 unfold xp at h
 split at h
 ·split at h
  ·split at h
   ·cases h;exact⟨by decide,WkT.refl _⟩
   ·cases h
  ·next m=>
   cases hb:Nat.ble (m+1) 4294967295 with
   |false=>rw[hb]at h;cases h
   |true=>
    have hb:=ag9 hb
    rw[show(Nat.ble (m+1) 4294967295)=true from Nat.ble_eq_true_of_le hb,cond_true]at h
    split at h
    ·cases h;rw[agk];exact⟨by show -4294967295<=((m+1:Nat):Int)/\((m+1:Nat):Int)<=_;omega,WkT.refl _⟩
    ·cases h;rw[agl];exact⟨⟨by omega,by omega⟩,WkT.refl _⟩
  ·cases h
 ·cases h;exact⟨by decide,WkT.agg ⟨WkT.refl _,WkT.nil,trivial⟩⟩
 ·cases h
noncomputable def Tk(x:Int)(k:List AV->Option AV):Option AV:=match x with
 |.ofNat n=>yk n fun n=>match n with
  |0=>k [.v (.bool false),.tree 1 []]
  |m+1=>k [.v (.bool false),.tree 1 [[.v (.int .u32 (.ofNat (m+1)))]]]
 |.negSucc m=>yk (m+1) fun d=>k [.v (.bool true),.tree 1 [[.v (.int .u32 (.ofNat d))]]]
theorem wn(x:Int)(k:List AV->Option AV):Tk x k=k (bI x):=by
 cases x with
 |ofNat n=>
  unfold Tk;simp only[od]
  cases n with
  |zero=>rfl
  |succ m=>rw[agk]
 |negSucc m=>unfold Tk;simp only[od];rw[agl]
def okZ(x:Int):Bool:=Nat.ble x.natAbs 4294967295
theorem Ss{x:Int}(h:okZ x=true):B1 x:=by have:=ag9 h;omega
def X2:List (List AV)->Option (List Int)
 |[]=>some []
 |r::s=>match xp (.agg r)with
  |none=>none
  |some x=>match X2 s with
   |none=>none
   |some l=>some (x::l)
theorem Qp{r:List AV}{x:Int}(h:xp (.agg r)=some x):B1 x/\WkR r (bI x)/\r.length=2:=by
 unfold xp at h
 split at h
 ·next e=>
  injection e with e;subst e
  split at h
  ·split at h
   ·cases h;exact⟨by decide,⟨WkT.refl _,WkT.refl _,trivial⟩,rfl⟩
   ·cases h
  ·next m=>
   cases hb:Nat.ble (m+1) 4294967295 with
   |false=>rw[hb]at h;cases h
   |true=>
    have hb:=ag9 hb
    rw[show(Nat.ble (m+1) 4294967295)=true from Nat.ble_eq_true_of_le hb,cond_true]at h
    split at h
    ·cases h;rw[agk];exact⟨by show -4294967295<=((m+1:Nat):Int)/\((m+1:Nat):Int)<=_;omega,⟨WkT.refl _,WkT.refl _,trivial⟩,rfl⟩
    ·cases h;rw[agl];exact⟨⟨by omega,by omega⟩,⟨WkT.refl _,WkT.refl _,trivial⟩,rfl⟩
  ·cases h
 ·next e=>injection e with e;subst e;cases h;exact⟨by decide,⟨WkT.refl _,WkT.nil,trivial⟩,rfl⟩
 ·cases h
theorem Qy{x:Int}{l:List Int}(h:B1 x)(g:BL l):BL (x::l):=fun y hy=>by
 rcases ahi.1 hy with e|hy
 ·rw[e];exact h
 ·exact g y hy
theorem WkR.one{a b:AV}(h:WkT a b):WkR [a] [b]:=⟨h,trivial⟩
theorem WkR.two{a b c d:AV}(h:WkT a b)(g:WkT c d):WkR [a,c] [b,d]:=⟨h,g,trivial⟩
theorem WkR.thr{a b c d e f:AV}(h:WkT a b)(g:WkT c d)(k:WkT e f):WkR [a,c,e] [b,d,f]:=⟨h,g,k,trivial⟩
theorem Mb:∀{rs:List (List AV)} {l:List Int},X2 rs=some l->BL l/\WkX 2 rs (l.map bI)/\rs.length=l.length
 |[],l,h=>by unfold X2 at h;cases h;exact⟨fun _ h=>by simp at h,trivial,rfl⟩
 |r::s,l,h=>by
  unfold X2 at h
  cases e:xp (.agg r)with
  |none=>rw[e]at h;cases h
  |some x=>
   rw[e]at h;simp only at h
   cases e2:X2 s with
   |none=>rw[e2]at h;cases h
   |some m=>
    rw[e2]at h;cases h
    obtain⟨h1,h2,h3⟩:=Mb e2
    obtain⟨g1,g2,g3⟩:=Qp e
    exact⟨Qy g1 h1,⟨⟨g2,g3⟩,h2⟩,by simp[h3]⟩
def lenB(n:Nat):Bool:=Nat.ble n 1000
def dcL:AV->Option (List Int)
 |.tree 2 rows=>bif lenB rows.length then X2 rows else none
 |_=>none
theorem Mc{a:AV}{l:List Int}(h:dcL a=some l):BL l/\WkT a (.tree 2 (l.map bI))/\l.length<=1000:=by
 unfold dcL at h
 split at h
 ·next rows=>
  cases hb:lenB rows.length with
  |false=>rw[hb]at h;cases h
  |true=>
   rw[hb,cond_true]at h
   obtain⟨h1,h2,h3⟩:=Mb h
   exact⟨h1,WkT.tree h2,by rw[<-h3];exact ag9 hb⟩
 ·cases h
theorem Wb{l:List Int}(h:l.length<=1000):ip l (fun _=>True):=⟨by omega,fun _ _=>trivial⟩
noncomputable def una(g:Int->Int):List AV->Option AV
 |[a]=>match xp a with
  |none=>none
  |some x=>bif okZ (g x)then Tk (g x) fun r=>some (.agg r)else none
 |_=>none
noncomputable def bin(g:Int->Int->Int):List AV->Option AV
 |[a,b]=>match xp a with
  |none=>none
  |some x=>match xp b with
   |none=>none
   |some y=>bif okZ (g x y)then Tk (g x y) fun r=>some (.agg r)else none
 |_=>none
def sgR:List AV->Option AV
 |[a]=>match xp a with
  |none=>none
  |some x=>some (.v (.int .i64 (sgZ x)))
 |_=>none
def cmR:List AV->Option AV
 |[a,b]=>match xp a with
  |none=>none
  |some x=>match xp b with
   |none=>none
   |some y=>some (.v (.int .i64 (sgZ (x-y))))
 |_=>none
noncomputable def ofR:List AV->Option AV
 |[.v (.int .i64 n)]=>bif okZ n then Tk n fun r=>some (.agg r)else none
 |_=>none
noncomputable def dfR:List AV->Option AV
 |[a,b]=>match xp a with
  |none=>none
  |some x=>match xp b with
   |none=>none
   |some 0=>none
   |some y=>Tk (flD x y) fun r=>Tk (flM x y) fun s=>some (.tup [.agg r,.agg s,.v (.bool true)])
 |_=>none
def kyB:List Int->Bool
 |[]=>true
 |x::l=>Nat.ble x.natAbs 65535&&kyB l
def kyR:List AV->Option AV
 |[a]=>match dcL a with
  |none=>none
  |some l=>bif kyB l then some (.v (.string (xo l)))else none
 |_=>none
def eqL:List Int->List Int->Bool
 |[],[]=>true
 |x::l,y::m=>(match decEq x y with
  |.isTrue _=>eqL l m
  |.isFalse _=>false)
 |_,_=>false
def eqR:List AV->Option AV
 |[a,b,.clo 211 []]=>match dcL a with
  |none=>none
  |some l=>match dcL b with
   |none=>none
   |some m=>some (.v (.bool (eqL l m)))
 |_=>none
theorem Tj:∀(l m:List Int),eqL l m=decide (l=m)
 |[],[]=>rfl
 |[],y::m=>rfl
 |x::l,[]=>rfl
 |x::l,y::m=>by
  unfold eqL
  cases decEq x y with
  |isTrue h=>subst h;show eqL l m=_;rw[Tj l m];simp
  |isFalse h=>symm;apply decide_eq_false;intro e;injection e with e _;exact h e
theorem S3:∀{l:List Int},kyB l=true->∀x∈l,Nt x
 |[],_,x,hx=>by simp at hx
 |y::l,h,x,hx=>by
  simp only[kyB,ahq]at h
  rcases ahi.1 hx with rfl|hx
  ·refine Tg _ ?_
   have:=ag9 h.1
   unfold FM aZ;split<;>omega
  ·exact S3 h.2 x hx
noncomputable def ach:d7:=fun f ys=>
 bif Nat.beq f 165 then bin (fun x y=>x+y) ys else bif Nat.beq f 166 then bin (fun x y=>x*y) ys else bif Nat.beq f 137 then bin (fun x y=>x-y) ys
 else bif Nat.beq f 164 then sgR ys else bif Nat.beq f 138 then una (fun x=>-x) ys else bif Nat.beq f 83 then una (fun x=>x) ys else bif Nat.beq f 139 then ofR ys else bif Nat.beq f 85 then cmR ys else bif Nat.beq f 167 then dfR ys
 else bif Nat.beq f 210 then eqR ys else bif Nat.beq f 176 then kyR ys else bif Nat.beq f 236 then bin (fun x y=>((Int.gcd x y:Nat):Int)) ys
 else bif Nat.beq f 91 then bin (fun x y=>x+y) ys else bif Nat.beq f 92 then bin (fun x y=>x*y) ys else bif Nat.beq f 52 then bin (fun x y=>x-y) ys
 else bif Nat.beq f 89 then sgR ys else bif Nat.beq f 53 then una (fun x=>-x) ys else bif Nat.beq f 54 then ofR ys else bif Nat.beq f 93 then dfR ys
 else none
def ariO(f:Nat):Bool:=inN [165,166,137,164,138,83,139,85,167,210,176,236,91,92,52,89,53,54,93] f
theorem wu{f:Nat}{g:Int->Int->Int}(h:∀{x y:Int},B1 x->B1 y->B1 (g x y)->PRet Tryz.prog f [.agg (bI x),.agg (bI y)] (fun q=>q=.agg (bI (g x y)))){ys:List AV}{ret:AV}(hr:bin g ys=some ret):b8 Tryz.prog f ys ret:=by
 unfold bin at hr
 split at hr
 ·next a b=>
  cases ea:xp a with
  |none=>rw[ea]at hr;cases hr
  |some x=>
   rw[ea]at hr;simp only at hr
   cases eb:xp b with
   |none=>rw[eb]at hr;cases hr
   |some y=>
    rw[eb]at hr;simp only at hr
    cases ho:okZ (g x y)with
    |false=>rw[ho]at hr;cases hr
    |true=>
     rw[ho,cond_true,wn]at hr;cases hr
     exact kb (.two (ij ea).2 (ij eb).2) (PRet.eq (h (ij ea).1 (ij eb).1 (Ss ho)))
 ·cases hr
theorem Jf{f:Nat}{g:Int->Int}(h:∀{x:Int},B1 x->PRet Tryz.prog f [.agg (bI x)] (fun q=>q=.agg (bI (g x)))){ys:List AV}{ret:AV}(hr:una g ys=some ret):b8 Tryz.prog f ys ret:=by
 unfold una at hr
 split at hr
 ·next a=>
  cases ea:xp a with
  |none=>rw[ea]at hr;cases hr
  |some x=>
   rw[ea]at hr;simp only at hr
   cases ho:okZ (g x)with
   |false=>rw[ho]at hr;cases hr
   |true=>
    rw[ho,cond_true,wn]at hr;cases hr
    exact kb (.one (ij ea).2) (PRet.eq (h (ij ea).1))
 ·cases hr
theorem Sa{f:Nat}(h:∀{x:Int},B1 x->PRet Tryz.prog f [.agg (bI x)] (fun q=>q=.v (.int .i64 (sgZ x)))){ys:List AV}{ret:AV}(hr:sgR ys=some ret):b8 Tryz.prog f ys ret:=by
 unfold sgR at hr
 split at hr
 ·next a=>
  cases ea:xp a with
  |none=>rw[ea]at hr;cases hr
  |some x=>rw[ea]at hr;cases hr;exact kb (.one (ij ea).2) (PRet.eq (h (ij ea).1))
 ·cases hr
theorem aav{ys:List AV}{ret:AV}(hr:cmR ys=some ret):b8 Tryz.prog 85 ys ret:=by
 unfold cmR at hr
 split at hr
 ·next a b=>
  cases ea:xp a with
  |none=>rw[ea]at hr;cases hr
  |some x=>
   rw[ea]at hr;simp only at hr
   cases eb:xp b with
   |none=>rw[eb]at hr;cases hr
   |some y=>rw[eb]at hr;cases hr;exact kb (.two (ij ea).2 (ij eb).2) (PRet.eq (nk (ij ea).1 (ij eb).1))
 ·cases hr
theorem Su{f:Nat}(h:∀{n:Int},B1 n->PRet Tryz.prog f [.v (.int .i64 n)] (fun q=>q=.agg (bI n))){ys:List AV}{ret:AV}(hr:ofR ys=some ret):b8 Tryz.prog f ys ret:=by
 unfold ofR at hr
 split at hr
 ·next n=>
  cases ho:okZ n with
  |false=>rw[ho]at hr;cases hr
  |true=>rw[ho,cond_true,wn]at hr;cases hr;exact PRet.eq (h (Ss ho))
 ·cases hr
theorem Tn{f:Nat}(h:∀{x y:Int},B1 x->B1 y->y≠0->PRet Tryz.prog f [.agg (bI x),.agg (bI y)] (fun q=>q=.tup [.agg (bI (flD x y)),.agg (bI (flM x y)),.v (.bool true)])){ys:List AV}{ret:AV}(hr:dfR ys=some ret):b8 Tryz.prog f ys ret:=by
 unfold dfR at hr
 split at hr
 ·next a b=>
  cases ea:xp a with
  |none=>rw[ea]at hr;cases hr
  |some x=>
   rw[ea]at hr;simp only at hr
   split at hr
   ·cases hr
   ·cases hr
   ·next y hy eb=>
    rw[wn,wn]at hr;cases hr
    exact kb (.two (ij ea).2 (ij eb).2) (PRet.eq (h (ij ea).1 (ij eb).1 (fun e=>hy e)))
 ·cases hr
theorem Zp{ys:List AV}{ret:AV}(hr:kyR ys=some ret):b8 Tryz.prog 176 ys ret:=by
 unfold kyR at hr
 split at hr
 ·next a=>
  cases ea:dcL a with
  |none=>rw[ea]at hr;cases hr
  |some l=>
   rw[ea]at hr;simp only at hr
   cases ho:kyB l with
   |false=>rw[ho]at hr;cases hr
   |true=>
    rw[ho,cond_true]at hr;cases hr
    obtain⟨h1,h2,h3⟩:=Mc ea
    exact kb (.one h2) (PRet.eq (Vr l (Wb h3) (S3 ho) K7 h3))
 ·cases hr
theorem aag{ys:List AV}{ret:AV}(hr:eqR ys=some ret):b8 Tryz.prog 210 ys ret:=by
 unfold eqR at hr
 split at hr
 ·next a b=>
  cases ea:dcL a with
  |none=>rw[ea]at hr;cases hr
  |some l=>
   rw[ea]at hr;simp only at hr
   cases eb:dcL b with
   |none=>rw[eb]at hr;cases hr
   |some m=>
    rw[eb]at hr;cases hr
    obtain⟨h1,h2,h3⟩:=Mc ea
    obtain⟨g1,g2,g3⟩:=Mc eb
    rw[Tj]
    exact kb (.thr h2 g2 (WkT.refl _)) (PRet.eq (Gz l (Wb h3) m (Wb g3) h1 g1 (by omega)))
 ·cases hr
theorem Ao{f n:Nat}{α:Type}{a b:α}{P:α->Prop}(h1:f=n->P a)(h2:P b):P (bif Nat.beq f n then a else b):=by
 cases h:Nat.beq f n with
 |true=>exact h1 (agu h)
 |false=>exact h2
theorem M2(f:Nat)(ys:List AV)(ret:AV):ach f ys=some ret->b8 Tryz.prog f ys ret:=by
 unfold ach
 refine Ao (P:=fun z=>z=some ret->b8 Tryz.prog f ys ret) (fun e h=>by subst e;exact wu wz h) ?_
 refine Ao (P:=fun z=>z=some ret->b8 Tryz.prog f ys ret) (fun e h=>by subst e;exact wu yf h) ?_
 refine Ao (P:=fun z=>z=some ret->b8 Tryz.prog f ys ret) (fun e h=>by subst e;exact wu R3 h) ?_
 refine Ao (P:=fun z=>z=some ret->b8 Tryz.prog f ys ret) (fun e h=>by subst e;exact Sa j8 h) ?_
 refine Ao (P:=fun z=>z=some ret->b8 Tryz.prog f ys ret) (fun e h=>by subst e;exact Jf wc h) ?_
 refine Ao (P:=fun z=>z=some ret->b8 Tryz.prog f ys ret) (fun e h=>by subst e;exact Jf wb h) ?_
 refine Ao (P:=fun z=>z=some ret->b8 Tryz.prog f ys ret) (fun e h=>by subst e;exact Su pm h) ?_
 refine Ao (P:=fun z=>z=some ret->b8 Tryz.prog f ys ret) (fun e h=>by subst e;exact aav h) ?_
 refine Ao (P:=fun z=>z=some ret->b8 Tryz.prog f ys ret) (fun e h=>by subst e;exact Tn nj h) ?_
 refine Ao (P:=fun z=>z=some ret->b8 Tryz.prog f ys ret) (fun e h=>by subst e;exact aag h) ?_
 refine Ao (P:=fun z=>z=some ret->b8 Tryz.prog f ys ret) (fun e h=>by subst e;exact Zp h) ?_
 refine Ao (P:=fun z=>z=some ret->b8 Tryz.prog f ys ret) (fun e h=>by subst e;exact wu (fun hx hy _=>S9 hx hy) h) ?_
 refine Ao (P:=fun z=>z=some ret->b8 Tryz.prog f ys ret) (fun e h=>by subst e;exact wu w5 h) ?_
 refine Ao (P:=fun z=>z=some ret->b8 Tryz.prog f ys ret) (fun e h=>by subst e;exact wu Kt h) ?_
 refine Ao (P:=fun z=>z=some ret->b8 Tryz.prog f ys ret) (fun e h=>by subst e;exact wu Jo h) ?_
 refine Ao (P:=fun z=>z=some ret->b8 Tryz.prog f ys ret) (fun e h=>by subst e;exact Sa lj h) ?_
 refine Ao (P:=fun z=>z=some ret->b8 Tryz.prog f ys ret) (fun e h=>by subst e;exact Jf zo h) ?_
 refine Ao (P:=fun z=>z=some ret->b8 Tryz.prog f ys ret) (fun e h=>by subst e;exact Su (fun h=>Gd _ h) h) ?_
 refine Ao (P:=fun z=>z=some ret->b8 Tryz.prog f ys ret) (fun e h=>by subst e;exact Tn Eg h) ?_
 intro h;cases h
abbrev i6(x:Int):AV:=.v (.int .i64 x)
abbrev cs5(a b c d s:Int):List PCon:=[⟨⟨a,[⟨2,-1⟩]⟩,false⟩,⟨⟨-b,[⟨2,1⟩]⟩,false⟩,⟨⟨c,[⟨3,-1⟩]⟩,false⟩,⟨⟨-d,[⟨3,1⟩]⟩,false⟩,⟨⟨-s,[⟨2,1⟩,⟨3,1⟩]⟩,true⟩]
abbrev K5(a b c d s:Int):Prop:=(((0<=a/\a<=100)/\(0<=b/\b<=100))/\((0<=c/\c<=100)/\(0<=d/\d<=100)))/\(-40000<=s/\s<=40000)
section
variable{a b c d s:Int}
theorem acd(h:K5 a b c d s):∀q∈cs5 a b c d s,CnB q:=fun q hq=>by
 obtain⟨⟨⟨ha,hb⟩,⟨hc,hd⟩⟩,hs⟩:=h
 have e (n:Int) (h:-40000<=n/\n<=40000):B1 n:=by omega
 simp only[ahi,List.not_mem_nil,or_false]at hq
 rcases hq with rfl|rfl|rfl|rfl|rfl<;>refine⟨e _ (by first|(show -40000<=a/\a<=_;omega)|(show -40000<=-b/\-b<=_;omega)|(show -40000<=c/\c<=_;omega)|(show -40000<=-d/\-d<=_;omega)|(show -40000<=-s/\-s<=_;omega)),fun x hx=>?_,ag9 rfl⟩<;>simp only[ahi,List.not_mem_nil,or_false]at hx
 ·subst hx;exact e _ (by decide)
 ·subst hx;exact e _ (by decide)
 ·subst hx;exact e _ (by decide)
 ·subst hx;exact e _ (by decide)
 ·rcases hx with rfl|rfl<;>exact e _ (by decide)
theorem zg{k v n:Int}{e:Bool}(h:0<=v/\v<4):rgC ⟨⟨k,[⟨v,n⟩]⟩,e⟩ ((4:Nat):Int):=⟨fun j hj=>by
 have:j=0:=by have:j<1:=hj;omega
 subst this;exact h,fun j hj=>by have:j+1<1:=hj;omega,by decide,by decide⟩
theorem rg5:∀q∈cs5 a b c d s,rgC q ((4:Nat):Int):=fun q hq=>by
 simp only[ahi,List.not_mem_nil,or_false]at hq
 rcases hq with rfl|rfl|rfl|rfl|rfl
 ·exact zg (by decide)
 ·exact zg (by decide)
 ·exact zg (by decide)
 ·exact zg (by decide)
 ·refine⟨fun j hj=>?_,fun j hj=>?_,by decide,by decide⟩
  ·have:j=0\/j=1:=by have:j<2:=hj;omega
   rcases this with rfl|rfl
   ·show(0:Int)<=2/\(2:Int)<4;decide
   ·show(0:Int)<=3/\(3:Int)<4;decide
  ·have:j=0:=by have:j+1<2:=hj;omega
   subst this;show(2:Int)<3;decide
theorem afg:ip (cs5 a b c d s) (fun _=>True):=⟨ag9 rfl,fun _ _=>trivial⟩
theorem oso5{S:List StS}(h:K5 a b c d s)(hS:A0 4 (x3 4 (cs5 a b c d s))=some S):PRet Tryz.prog 37 [i6 4,.tree 3 ((cs5 a b c d s).map cnA)] (fun q=>q=.tup [ba,.agg (pfA S),.v (.bool false)]):=
 Uq (cs5 a b c d s) afg 4 S (by decide) (by decide) (Nat.zero_lt_succ _) (ag9 rfl) (acd h) rg5 Tg K7 hS
end
theorem Dk(a b c d s:Int)(S:List StS)(h:K5 a b c d s)(hS:A0 4 (x3 4 (cs5 a b c d s))=some S):b8 Tryz.prog 37 [i6 4,.tree 3 ((cs5 a b c d s).map cnA)] (.tup [ba,.agg (pfA S),.v (.bool false)]):=PRet.eq (oso5 h hS)
theorem Yq(x0 y0 x1 y1:Int)(sm:AV)(h:y0<x1\/y1<x0):b8 Tryz.prog 46 [.agg [.tree 1 [[i6 x0],[i6 x1]],.tree 1 [[i6 y0],[i6 y1]],ba,sm,ba],.tree 1 [[i6 0],[i6 1]],i6 1] (.tup [.tree 1 [],.tree 1 []]):=
 kb (args':=[.agg (pbA ⟨[x0,x1],[y0,y1],[]⟩),.tree 1 (([0,1]:List Int).map iA),i6 1]) (.thr (WkT.agg ⟨WkT.refl _,WkT.refl _,WkT.nil,fun _ _ x _=>.unk x,fun _ _ x _=>.unk x,trivial⟩) (WkT.refl _) (WkT.refl _))
  (PRet.eq (A5 [0,1] ⟨by decide,fun _ _=>trivial⟩ 1 ⟨[x0,x1],[y0,y1],[]⟩ ⟨rfl,ag9 rfl,⟨ag9 rfl,fun t ht=>by simp at ht⟩,by decide,fun v hv=>by
   simp only[ahi,List.not_mem_nil,or_false]at hv
   rcases hv with rfl|rfl
   ·exact⟨0,rfl,Nat.zero_lt_succ _⟩
   ·exact⟨1,rfl,Nat.lt_succ_self _⟩⟩ Ud (fun t ht=>by simp at ht) (fun w hw g=>by
   obtain⟨a1,a2,_⟩:=g 0 (by simp) 0 rfl
   obtain⟨b1,b2,_⟩:=g 1 (by simp) 1 rfl
   have a1:x0<=w.size:=a1 (Nat.zero_lt_succ _)
   have a2:(w.size:Int)<=y0:=a2 (Nat.zero_lt_succ _)
   have b1:x1<=w.size:=b1 (Nat.lt_succ_self _)
   have b2:(w.size:Int)<=y1:=b2 (Nat.lt_succ_self _)
   omega)))
abbrev En:=FuncId×List AV×AV
def PCe(e:En):Prop:=b8 Tryz.prog e.1 e.2.1 e.2.2
def PCs:List En->Prop
 |[]=>True
 |e::r=>PCe e/\PCs r
theorem PCs.all:∀{L:List En},PCs L->∀e∈L,b8 Tryz.prog e.1 e.2.1 e.2.2
 |[],_,e,he=>by simp at he
 |a::r,h,e,he=>by
  rcases ahi.1 he with g|g
  ·rw[g];exact h.1
  ·exact PCs.all h.2 e g
theorem jb{f:FuncId}{a:List AV}{r:AV}{e:En}(h:b8 Tryz.prog f a r)(he:e=(f,a,r)):PCe e:=by subst he;exact h
def isK(f:Nat):Bool:=Nat.beq f 154
def ovN(f:Nat):Bool:=ariO f||inN [37,18,63,9,46,6] f
theorem aee:Tryz.prog.follows .mixedOrders=true:=by kernel_rfl
noncomputable def RX(L:Tab)(f:FuncId)(a:List AV):Option AV:=J2 Tryz.prog ovN (orR ach (Im L)) (ka Tryz.prog) isK 100000 60 f a
theorem entZ(L:Tab){f:FuncId}{a:List AV}{r:AV}(hL:PCs L)(h:RX L f a=some r):b8 Tryz.prog f a r:=ze aee (Sr M2 (Ac hL.all)) ux h
theorem ent(L:Tab){e:En}(hL:PCs L)(h:RX L e.1 e.2.1=some e.2.2):PCe e:=entZ L hL h
end Go.Proofs.YtbhhmbchdponjaaGreatDoor
