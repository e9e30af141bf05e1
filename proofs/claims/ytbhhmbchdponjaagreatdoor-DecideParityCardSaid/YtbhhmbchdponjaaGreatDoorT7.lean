/- Texts of the claim. -/
import Derived.Lib.ItoaMem
import Derived.Lib.ItoaNum
import Derived.Lib.LaidTab
import Derived.Lib.Walk
import Derived.Lib.ItoaWalk
import Derived.WalkKit
import Derived.BigCall
import Derived.BigGuard
import Derived.Below
import Derived.KernelRfl
import Derived.Lib.Join
import Derived.Test.YtbhhmbchdponjaaGreatDoorA1
import Derived.Test.YtbhhmbchdponjaaGreatDoorShelf
import Derived.Test.YtbhhmbchdponjaaGreatDoorT5
import Derived.Test.YtbhhmbchdponjaaGreatDoorQ2
import Derived.Test.YtbhhmbchdponjaaGreatDoorE3
import Derived.Test.YtbhhmbchdponjaaGreatDoorT6
import Derived.Test.YtbhhmbchdponjaaGreatDoorT4
namespace Go.Proofs.YtbhhmbchdponjaaGreatDoor
set_option maxRecDepth 1000000
set_option maxHeartbeats 0
set_option linter.unusedVariables false
set_option linter.unusedSimpArgs false
open Go.RowKit Go.Lib Go.Shelf Go.Sort
abbrev L20:List Value:=[.int .u64 1,.int .u64 10,.int .u64 100,.int .u64 1000,.int .u64 10000,.int .u64 100000,.int .u64 1000000,.int .u64 10000000,.int .u64 100000000,.int .u64 1000000000,.int .u64 10000000000,.int .u64 100000000000,.int .u64 1000000000000,.int .u64 10000000000000,.int .u64 100000000000000,.int .u64 1000000000000000,.int .u64 10000000000000000,.int .u64 100000000000000000,.int .u64 1000000000000000000,.int .u64 10000000000000000000]
theorem Wy{T:Nat->Prop}{w:World}(h:TOk T w):Lib.TabIs Tryz.prog w "internal/strconv.uint64pow10" .u64 Lib.pow10Tab:=by
 have hg:Tryz.prog.globalNamed "internal/strconv.uint64pow10"=some 0:=by kernel_rfl
 obtain⟨-,hc,hn⟩:=h.glob _ (ady.2 rfl)
 have hc:∀j (h:j<L20.length),w.cell? ⟨0,j,none⟩=some L20[j]:=hc
 have hn:w.cell? ⟨0,20,none⟩=none:=hn
 have h0:=hc 0 (by decide)
 unfold Lib.TabIs World.var?
 rw[hg]
 simp only[aeq]
 cases hb:w.heap[0]? with
 |none=>simp[World.cell?,hb]at h0
 |some o=>
  cases o with
  |cells c e f=>
   simp only[World.cell?,hb,Option.isSome_none,Bool.false_eq_true,if_false]at hc hn
   simp only[adw]
   apply Array.ext_getElem?
   intro i
   have e20:(Lib.pow10Tab.map fun z=>Value.int .u64 z).toArray=L20.toArray:=by kernel_rfl
   rw[e20]
   rcases Nat.lt_or_ge i 20 with g|g
   ·rw[hc i g,List.getElem?_toArray,adu (show i<L20.length from g)]
   ·have hs:c.size<=20:=Array.getElem?_eq_none_iff.1 hn
    rw[Array.getElem?_eq_none (by omega),Array.getElem?_eq_none (by show 20<=i;exact g)]
  |_=>simp[World.cell?,hb]at h0
theorem Ye(w:World)(T:TypeId)(nd:Nat)(hs:nd<=24):Holds (fun(b:UInt8)=>Value.int .u8 (b.toNat:Int)) (w.alloc (.cells Lib.zeros24 T)) w.heap.size 0 (Array.replicate nd (0:UInt8)):=fun j hj=>by
 have hj':j<nd:=by simpa using hj
 refine⟨?_,World.frozen?_alloc_new _ _ _ _⟩
 rw[World.cell?_alloc_new,Lib.zeros24_at _ (by omega),getElem!_pos _ j hj]
 simp
theorem acp(w:World)(o:Obj)(dk:Array UInt8)(k:Nat):∃os,(putRow (fun(b:UInt8)=>Value.int .u8 (b.toNat:Int)) (w.alloc o) w.heap.size 0 dk).drewN k=grow (w.drewN k) os:=by
 rw[alloc_eq_grow]
 obtain⟨os',_,e⟩:=putRow_grow_new (fun(b:UInt8)=>Value.int .u8 (b.toNat:Int)) w #[o] w.heap.size 0 dk (ad9 _)
 exact⟨os',by rw[e];rfl⟩
theorem aci(u:Nat)(h0:u<18446744073709551616)(w:World)(h2:Lib.TabIs Tryz.prog w "internal/strconv.uint64pow10" .u64 Lib.pow10Tab):
 Calls Tryz.prog 246 #[.int .u64 u,.int .i64 10] w fun e w'=>e=.returned (.string ⟨(Lib.decDigits u).toArray⟩)/\∃k os,w'=grow (w.drewN k) os:=by
 by_cases hs:u<100
 ·go_enter Tryz.func246,Tryz.ntmps246
  go_wp2_with (go_at_call 252;refine(Tryz.internal_strconv_small u hs _).mono ?_;rintro e w' ⟨rfl,rfl⟩)
  go_ret
  refine⟨rfl,0,#[],by simp[World.drewN_zero]⟩
 ·have h4:1<=u:=by omega
  have hnd20:Lib.nDigits u<=20:=by have:=Lib.numDigits_eq u h4 h0;split at this<;>omega
  have h5:Tryz.prog.arrayLen 324=24:=by kernel_rfl
  have hsl:∀W,(Instr.sliceAt 324 (.pointer (some ⟨w.heap.size,0,none⟩)) none (some (.int .i64 (Lib.nDigits u:Int))) none).run Tryz.prog W=.ok (.slice (some ⟨w.heap.size,0,none⟩) (Lib.nDigits u) 24) W:=fun W=>by
   rw[run_sliceAt_array_h W 324 ⟨w.heap.size,0,none⟩ (by kernel_rfl) .i64 (Lib.nDigits u:Int) (by omega) (by rw[h5];omega)]
   go_simp
  have h3:=Ye w 324 (Lib.nDigits u) (by omega)
  have h1:=Tryz.internal_strconv_formatBase10 w.heap.size 0 24 u (Array.replicate (Lib.nDigits u) 0) (w.alloc (.cells Lib.zeros24 324)) h3 (by rw[Array.size_replicate];exact Lib.lt_pow_nDigits u) h0 (by rw[Array.size_replicate];omega)
  rw[Array.size_replicate]at h1
  have HH0:=Lib.hid h3
  clear h3 h5
  go_enter Tryz.func246,Tryz.ntmps246
  go_wp2_with (go_at_call 253;refine(Tryz.internal_strconv_numDigits u h4 h0 _ (Lib.tabIs_alloc h2 _)).mono ?_;rintro e w' ⟨rfl,rfl⟩)
  go_at_call 254
  refine h1.mono ?_
  rintro e w' ⟨rfl,k,v',dk,rfl,hF⟩
  have hcv:(convert 160 9 (.slice (some ⟨w.heap.size,0,none⟩) (Lib.nDigits u) 24)).run Tryz.prog ((putRow (fun(b:UInt8)=>Value.int .u8 (b.toNat:Int)) (w.alloc (.cells Lib.zeros24 324)) w.heap.size 0 dk).drewN k)=.ok (.string ⟨(Lib.decDigits u).toArray⟩) ((putRow (fun(b:UInt8)=>Value.int .u8 (b.toNat:Int)) (w.alloc (.cells Lib.zeros24 324)) w.heap.size 0 dk).drewN k):=by
   have h:=run_convert_bytes_back (P:=Tryz.prog) ((putRow (fun(b:UInt8)=>Value.int .u8 (b.toNat:Int)) (w.alloc (.cells Lib.zeros24 324)) w.heap.size 0 dk).drewN k) 160 9 5 ⟨w.heap.size,0,none⟩ 24 (Lib.decDigits u) Tryz.underlying160 Tryz.underlying5 Tryz.underlying9 (fun j hj=>by
    rw[Lib.row_is_numeral hF j hj,Lib.add_plain,World.cell?_drewN]
    rw[show 0+j=0+j from rfl]
    exact cell?_putRow (fun(b:UInt8)=>Value.int .u8 (b.toNat:Int)) _ w.heap.size 0 _ dk HH0.out (by rw[hF.size,Array.size_replicate]) j (by rw[hF.size];rw[Lib.decDigits_length]at hj;exact hj))
   rw[Lib.decDigits_length]at h
   exact h
  go_wp2
  go_ret
  obtain⟨os,eo⟩:=acp w (.cells Lib.zeros24 324) dk k
  exact⟨rfl,k,os,eo⟩
open Go.RowKit
open Go.Lib in
theorem So:∀{f u:Nat},u<10^(f+1)->Lib.decDigits u=Eo (f+1) u
 |0,u,h=>by rw[Lib.decDigits,Eo,dif_pos (by simpa using h),ad3 (by simpa using h)]
 |f+1,u,h=>by
  rw[Lib.decDigits,Eo]
  by_cases g:u<10
  ·rw[dif_pos g,ad3 g]
  ·rw[dif_neg g,ad1 g,So (f:=f) (u:=u/10) (by rw[Nat.pow_succ]at h;omega)]
abbrev dSt(u:Nat):ByteArray:=⟨(Eo 20 u).toArray⟩
theorem acj{u:Nat}(hu:u<18446744073709551616):d8 Tryz.prog 246 [.v (.int .u64 (u:Int)),.v (.int .i64 10)] (.v (.string (dSt u))):=by
 intro T w vals ⟨h2,hv⟩ hT
 have h0:=(hv 0 (by simp) (by simp at h2;omega)).v_inv
 have h1:=(hv 1 (by simp) (by simp at h2;omega)).v_inv
 have h3:vals=#[.int .u64 (u:Int),.int .i64 10]:=by
  have e0:vals[0]'(by simp at h2;omega)=.int .u64 (u:Int):=h0
  have e1:vals[1]'(by simp at h2;omega)=.int .i64 10:=h1
  apply Array.ext
  ·simpa using h2.symm
  ·intro i hi h4
   have:i=0\/i=1:=by simp at h4;omega
   rcases this with rfl|rfl
   ·exact e0
   ·exact e1
 rw[h3]
 refine(aci u hu w (Wy hT)).mono ?_
 rintro e w' ⟨rfl,k,os,rfl⟩
 have hb:Below w.heap.size w (Go.Sort.grow (w.drewN k) os):=⟨rfl,rfl,rfl,by rw[Go.Sort.size_grow];exact Nat.le_add_right _ _,fun j hj=>Go.Sort.heap_grow_old (w.drewN k) os hj⟩
 have e20:Lib.decDigits u=Eo 20 u:=So (f:=19) (Nat.lt_trans hu (by decide))
 rw[e20]
 exact⟨_,T,rfl,.v _,fun _ h=>h,fun _ h=>.inl h,fun b hb'=>Nat.lt_of_lt_of_le (hT b hb') hb.size,hb⟩
abbrev BY(b:Bool)(y:Int):GBig:=⟨b,[y]⟩
theorem shY{y:Int}(h1:1<=y)(h2:y<=65535):shN 1000000000 [y] 1=([0],y):=by
 have e:y/1000000000=0:=Int.ediv_eq_zero_of_lt (by omega) (by omega)
 have e2:y%1000000000=y:=Int.emod_eq_of_lt (by omega) (by omega)
 simp[shN,e,e2]
theorem ab1{b:Bool}{y:Int}(h1:1<=y)(h2:y<=65535):PRet Tryz.prog 83 [.agg (bgA (BY b y))] (fun q=>q=.agg (bgA (BY b y))):=by
 have:=wh (BY b y) ⟨dp (show 1<=5000 by decide)⟩ (show 1<=1000 by decide)
 have e:nmB b [y]=BY b y:=by unfold nmB;rw[show dtr [y]=[y]by rw[<-qk h1,kp]];rfl
 rwa [show nmB (BY b y).b_ (BY b y).a_=BY b y from e]at this
def dK(y:Int):Nat->List Int
 |0=>[y]
 |_+1=>[]
theorem shoY{y:Int}{k:Nat}(hk:k=0)(h1:1<=y)(h2:y<=65535):PRet Tryz.prog 230 [.tree 1 ((dK y k).map co),.v (.int .u32 1000000000)] (fun q=>q=.tup [.tree 1 (([0]:List Int).map co),.v (.int .u32 y)]):=by
 subst hk
 have:=Jj [y] (dp (show 1<=5000 by decide)) 1000000000 ⟨by decide,by decide⟩ (fun z hz=>by rw[ady.1 hz];exact⟨by omega,by omega⟩) (show 1<=1000 by decide)
 rwa [show shN 1000000000 [y] [y].length=([0],y)from shY h1 h2]at this
theorem aao:PRet Tryz.prog 158 [.tree 1 (([0]:List Int).map co)] (fun q=>q=.tree 1 (([]:List Int).map co)):=
 xy [0] (dp (show 1<=5000 by decide)) (show 1<=1000 by decide)
theorem ac5{y:Int}{k:Nat}(h:(((dK y k).length:Nat):Int)>0):k=0:=by
 cases k with
 |zero=>rfl
 |succ k=>exact absurd h (Int.lt_irrefl 0)
theorem ac6{y:Int}{k:Nat}(h:¬(((dK y k).length:Nat):Int)>0):k≠0:=fun e=>by subst e;exact h (by show(0:Int)<1;decide)
theorem jn_1(a:ByteArray):Lib.join ([a].map (·.data.toList)) (⟨#[]⟩:ByteArray).data.toList=a.data.toList:=by simp[Lib.join,Lib.joinTail]
theorem jn_2(a b:ByteArray):Lib.join ([a,b].map (·.data.toList)) (⟨#[]⟩:ByteArray).data.toList=a.data.toList++b.data.toList:=by simp[Lib.join,Lib.joinTail]
def Z7:Prop:=∀(ss:List ByteArray) (sep:ByteArray),(Lib.join (ss.map (·.data.toList)) sep.data.toList).length<=140737488355328->d8 Tryz.prog 213 [.tree 1 (ss.map sA),.v (.string sep)] (.v (.string ⟨(Lib.join (ss.map (·.data.toList)) sep.data.toList).toArray⟩))
theorem Zf:b7 Tryz.prog 237=true:=by kernel_rfl
theorem S0:b7 Tryz.prog 239=true:=by kernel_rfl
theorem Ze:b7 Tryz.prog 246=true:=by kernel_rfl
theorem row9:d9 Tryz.prog 9=some none:=by kernel_rfl
theorem ack{u:Nat}(hu:u<18446744073709551616):PRet Tryz.prog 237 [.v (.int .u64 ((u:Nat):Int)),.v (.int .i64 10)] (fun q=>q=.v (.string (dSt u))):=by
 refine ovT [7] [] Tryz.func237 rfl rfl (OpG.lk (LOp.call Ze rfl (acj hu)) ?_)
 exact rV rfl rfl rfl
theorem Xd(a:ByteArray)(v:Nat):t8 Tryz.prog 239 [.sl 1000000 v 0 1] [(1000000,⟨v,rF sA [a],1,false⟩)] [(1000000,some (⟨v,rF sA [a],1,false⟩))] (fun q=>q=.tup []):=by
 refine t8.of_vc kh [5] [] Tryz.func239 rfl Tryz.ntmps239 rfl (by kernel_rfl) (OpG.lk (ck rfl Tryz.underlying112 rfl rfl rfl) ?_)
 refine⟨by omega,kc (ULp.step ?_)⟩
 refine cF ⟨.inl rfl,_,M0.of [] (a8 rfl .nil) rfl ⟨.same rfl (by decide),trivial⟩ .same,?_⟩
 rfl
theorem Xc(a b:ByteArray)(v:Nat):t8 Tryz.prog 239 [.sl 1000000 v 0 2] [(1000000,⟨v,rF sA [a,b],1,false⟩)] [(1000000,some (⟨v,rF sA [b,a],1,false⟩))] (fun q=>q=.tup []):=by
 refine t8.of_vc kh [5,20,21,24,25,26,27,100026,100027] [] Tryz.func239 rfl Tryz.ntmps239 rfl (by kernel_rfl) (OpG.lk (ck rfl Tryz.underlying112 rfl rfl rfl) ?_)
 refine⟨by omega,kc (ULp.step ?_)⟩
 refine cT (OpG.lk (az (k:=1) (n:=2) (id:=1000000) (ver:=v) (v:=1) (L:=[a,b]) cj Tryz.underlying112 sz9 rfl rfl rfl (by decide) rfl) ?_)
 refine OpG.lk (kx (k:=1) (o:=0) (L:=[a,b]) cj row9 rfl rfl (by simp) rfl) (OpG.lk (az (k:=0) (n:=2) (id:=1000000) (ver:=v) (v:=0) (L:=[a,b]) cj Tryz.underlying112 sz9 rfl rfl rfl (by decide) rfl) ?_)
 refine OpG.lk (kx (k:=0) (o:=0) (L:=[a,b]) cj row9 rfl rfl (by simp) rfl) (OpG.lk (az (k:=0) (n:=2) (id:=1000000) (ver:=v) (v:=0) (L:=[a,b]) cj Tryz.underlying112 sz9 rfl rfl rfl (by decide) rfl) ?_)
 refine OpG.wr (bj (k:=0) (o:=0) (v:=b) (L:=[a,b]) cj sz9 rfl rfl rfl rfl rfl rfl (by simp) (by decide) rfl) rfl (OpG.lk (az (k:=1) (n:=2) (id:=1000000) (ver:=v) (v:=1) (L:=[b,b]) cj Tryz.underlying112 sz9 rfl rfl rfl (by decide) rfl) ?_)
 refine OpG.wr (bj (k:=1) (o:=0) (v:=a) (L:=[b,b]) cj sz9 rfl rfl rfl rfl rfl rfl (by simp) (by decide) rfl) rfl ⟨by kernel_rfl,⟨by omega,?_⟩⟩
 refine⟨by omega,ULp.step ?_⟩
 refine cF ⟨.inl rfl,_,M0.of [] (a8 rfl .nil) rfl ⟨.same rfl (by decide),trivial⟩ .same,?_⟩
 rfl
theorem fmtY(hJ:Z7)(b:Bool)(y:Int)(DS:ByteArray)(h7:1<=y)(h8:y<=65535)(h9:DS=dSt y.toNat):PRet Tryz.prog 212 [.agg (bgA (BY b y))] (fun q=>q=.v (.string ⟨((if b then[45]else[])++DS.data.toList).toArray⟩)):=by
 obtain⟨_,rfl,hc⟩:PRet Tryz.prog 237 [.v (.int .u64 y),.v (.int .i64 10)] (fun q=>q=.v (.string DS)):=by
  have:=ack (u:=y.toNat) (by omega)
  rw[show((y.toNat:Nat):Int)=y by omega]at this;rw[h9];exact this
 have hyu:((y.toNat:Nat):Int)=y:=by omega
 have hd:DS.data.toList.length<=20:=by rw[h9];exact En
 obtain⟨_,rfl,h2⟩:=Xd DS 1
 obtain⟨_,rfl,h3⟩:=Xc DS (⟨#[45]⟩:ByteArray) 2
 have ha:=hJ [DS] ⟨#[]⟩ (by rw[jn_1];omega)
 have hb:=hJ [(⟨#[45]⟩:ByteArray),DS] ⟨#[]⟩ (by rw[jn_2];simp;simp at hd;omega)
 rw[jn_1]at ha
 rw[jn_2]at hb
 refine ovT [27,28,46,48,50] [13,16] Tryz.func212 rfl rfl (ArgG.mk (ab1 (b:=b) h7 h8) rfl ?_)
 rintro _ rfl
 refine LenG.of (cF ?_)
 refine LpG.via (fun _ h=>sc 3 1 rfl 2 rfl h) (LpG.on (fun k0:KL ByteArray=>(⟨fL [(1,.ptr 0 0 0),(3,.sl 1 k0.L.length 0 k0.L.length),(4,.tree 1 (((dK y k0.k)).map co))],hLz [(0,⟨0,bgA (BY b y),0,false⟩),(1,⟨k0.L.length,rF sA k0.L,1,Nat.beq k0.L.length 0⟩)],2⟩:St)) (fun k0=>(1-k0.k)) (fun k0=>(k0.k<=1/\(k0.L=[DS].take k0.k/\k0.k<=1))) (⟨0,[]⟩:KL ByteArray) (cO (.cons rfl rfl (.cons (by rfl) rfl (.cons rfl rfl .nil))) (.cons rfl rfl rfl (.cons (by rfl) rfl (aa cj _ _) .nil))) ⟨ad7 _,⟨rfl,ad7 _⟩⟩ ?_)
 rintro k0 h4
 obtain⟨hle_k0,h0⟩:=h4
 refine LenG.of (cD (fun h1=>?_) (fun h1=>?_))
 ·have h5:=ac5 h1
  have hll:k0.L.length=0:=by rw[h0.1,h5];rfl
  refine ArgG.mk (shoY (k:=k0.k) h5 h7 h8) rfl ?_
  rintro _ rfl
  refine ArgG.mk (aao) rfl ?_
  rintro _ rfl
  refine OpG.lk (jz Tryz.underlying192 Tryz.underlying154 rfl (by omega) (by omega)) (OpG.lk (LOp.call Zf rfl hc) ?_)
  refine LenG.of (cF ?_)
  refine OpG.mk _ _ _ 3 (b9 cj (a:=DS) Tryz.underlying112 sz9 zr9 by9 rfl rfl rfl (er rfl rfl rfl rfl) rfl (by omega) (by omega) (by unfold TV;omega)) rfl rfl ⟨(⟨k0.k+1,k0.L++[DS]⟩:KL ByteArray),(by show 1-(k0.k+1)<1-k0.k;omega),(cO (.cons rfl rfl (.cons (by(rw[adx];rfl)) rfl (.cons rfl rfl .nil))) (.cons rfl rfl rfl (.cons (by(rw[adx];rfl)) rfl (aa cj _ _) .nil))),⟨by show k0.k+1<=_;omega,?_⟩⟩
  exact⟨by rw[h0.1,h5];rfl,by show k0.k+1<=1;omega⟩
 have he:k0.k=1:=by have:=ac6 h1;have:=h0.2;omega
 have hL:k0.L=[DS]:=by rw[h0.1,he];rfl
 rw[hL]
 refine RegG.via (fun _ h=>c9 1 ⟨1,rF sA [DS],1,false⟩ rfl (rfl) h) (aw ?_)
 refine cB (fun h6=>?_) (fun h6=>?_)
 ·refine OpG.mk _ _ _ 3 (b9 cj (l:=[DS]) (a:=(⟨#[45]⟩:ByteArray)) Tryz.underlying112 sz9 zr9 by9 rfl rfl rfl (er rfl rfl rfl rfl) rfl (aeb rfl) (aeb rfl) (by show 2≠TV;decide)) rfl rfl (OpG.mk _ _ _ 3 (ba [(1000000,1)] S0 h3 rfl rfl rfl rfl ⟨sX cj,trivial⟩ ⟨au cj,trivial⟩ ⟨aq cj _ _,trivial⟩ rfl rfl rfl rfl rfl rfl) rfl rfl ?_)
  refine RegG.via (fun _ h=>bl [1] 3 (.tree 1 (([(⟨#[45]⟩:ByteArray),DS]:List ByteArray).map sA)) (bz cj (ady.2 rfl) rfl rfl) rfl h) (aw ?_)
  refine OpG.lk (LOp.call Ma rfl hb) (rV rfl rfl ?_)
  rw[ad3 ‹_›];rfl
 refine OpG.mk _ _ _ 2 (ba [(1000000,1)] S0 h2 rfl rfl rfl rfl ⟨sX cj,trivial⟩ ⟨au cj,trivial⟩ ⟨aq cj _ _,trivial⟩ rfl rfl rfl rfl rfl rfl) rfl rfl (RegG.via (fun _ h=>bl [1] 3 (.tree 1 (([DS]:List ByteArray).map sA)) (bz cj (ady.2 rfl) rfl rfl) rfl h) ?_)
 refine aw (OpG.lk (LOp.call Ma rfl ha) ?_)
 refine rV rfl rfl ?_
 rw[ad1 (by simp_all)];rfl
theorem acl:PRet Tryz.prog 212 [.agg (bI 0)] (fun q=>q=.v (.string (Ik 0))):=by
 refine ovT [] [] Tryz.func212 rfl rfl (ArgG.mk (zj (x:=0) ⟨by decide,by decide⟩) rfl ?_)
 rintro _ rfl
 refine LenG.of (cT ?_)
 exact rV rfl rfl rfl
set_option maxRecDepth 100000
theorem Kw:Z7:=by
 intro ss sep hl T w vals ⟨h4,hv⟩ hT
 have h0:=hv 0 (by simp) (by simp at h4;omega)
 have h1:=hv 1 (by simp) (by simp at h4;omega)
 have h6:=h1.v_inv
 simp only[List.getElem_cons_zero]at h0
 have h5:vals=#[vals[0]'(by simp at h4;omega),.string sep]:=by
  rw[<-h6]
  apply Array.ext
  ·simpa using h4.symm
  ·intro i hi ha
   have:i=0\/i=1:=by simp at ha;omega
   rcases this with rfl|rfl<;>rfl
 have give:∀w',Below w.heap.size w w'->Nd T w (.v (.string ⟨(Lib.join (ss.map (·.data.toList)) sep.data.toList).toArray⟩)) (.returned (.string ⟨(Lib.join (ss.map (·.data.toList)) sep.data.toList).toArray⟩)) w':=fun w' hb=>
  ⟨_,T,rfl,.v _,fun _ h=>h,fun _ h=>.inl h,fun b hb'=>Nat.lt_of_lt_of_le (hT b hb') hb.size,hb⟩
 rw[h5]
 generalize vals[0]'(by simp at h4;omega)=x0 at h0
 have h7:(ss.map sA).length=ss.length:=ad0 ..
 have h8:∀(j:Nat) (x:ByteArray),ss[j]? =some x->(ss.map sA)[j]? =some [AV.v (.string x)]:=fun j x h=>by rw[List.getElem?_map,h];rfl
 generalize ss.map sA=rows at h0 h7 h8
 cases h0 with
 |tree cell hb hc1 hc2 hc3 hc4 hd hf=>
  rename_i b off cap
  rw[h7]
  refine(Tryz.strings_Join b off cap ss sep w (fun j x hj=>?_) (hT _ hb) (by omega) (by omega) hl).mono ?_
  ·obtain⟨h9,he⟩:=aen.1 (h8 j x hj)
   have h2:=hd j 0 h9 (by omega)
   have h3:=hf j h9 0 (by rw[he];simp)
   simp only[he,List.getElem_cons_zero]at h3
   rw[h3.v_inv]at h2
   simpa using h2
  ·rintro e w' ⟨rfl,hg⟩
   exact give w' hg
 |tree0 hc=>
  have hh:ss=[]:=aem (by simpa using h7.symm)
  subst hh
  refine(Tryz.strings_Join_none _ _ sep w).mono ?_
  rintro e w' ⟨rfl,hw⟩
  subst hw
  exact give _ (Below.refl _ _)
theorem Uw:Ii:=fun ss h=>Kw ss ⟨#[32]⟩ h
theorem Ym:∀c,aZ c<=FM->Nt c:=fun c h=>by
 by_cases h0:c=0
 ·subst h0;exact acl
 ·have h1:1<=aZ c:=by unfold aZ;split<;>omega
  have e:bgI c=BY (decide (c<0)) (aZ c):=by
   have e1:(bgI c).a_=[aZ c]:=by rw[d7,qk h1]
   have e2:(bgI c).b_=decide (c<0):=bv c
   rw[show bgI c=⟨(bgI c).b_,(bgI c).a_⟩from rfl,e1,e2]
  have:=fmtY Kw (decide (c<0)) (aZ c) _ h1 h rfl
  unfold Nt
  show PRet _ _ [.agg (bgA (bgI c))] _
  rw[e]
  have e3:(aZ c).toNat=c.natAbs:=by rw[Mu];rfl
  rw[e3]at this
  have e4:(⟨((if decide (c<0)=true then[45]else[])++(dSt c.natAbs).data.toList).toArray⟩:ByteArray)=Ik c:=by
   unfold Ik Lc
   by_cases g:c<0
   ·rw[ad3 (decide_eq_true g),ad3 g];rfl
   ·rw[ad1 (by simp[g]),ad1 g];rfl
  rwa [e4]at this
abbrev i6(x:Int):AV:=.v (.int .i64 x)
abbrev v16(b:Bool):List AV:=[i6 1,i6 (-2147483648),i6 2147483647,i6 0,.v (.bool b)]
abbrev Lz(A B K:Int):List PCon:=[⟨⟨-2147483648,[⟨0,-1⟩]⟩,false⟩,⟨⟨-2147483647,[⟨0,1⟩]⟩,false⟩,⟨⟨-2147483648,[⟨1,-1⟩]⟩,false⟩,⟨⟨-2147483647,[⟨1,1⟩]⟩,false⟩,⟨⟨K,[⟨0,A⟩,⟨1,B⟩]⟩,true⟩]
abbrev lT:AV:=.tree 5 [v16 false,v16 true]
abbrev kT(A B K:Int):List AV:=[.v (.int .i64 K),.tree 2 [[i6 0,i6 A],[i6 1,i6 B]],.v (.bool true)]
abbrev c16(A B K:Int):List AV:=[oy,.tree 1 [[i6 0],[i6 1]],oy,.tree 3 [kT A B K],oy,oy,oy]
abbrev p16(A B K:Int):List AV:=lT::(c16 A B K++[oy])
abbrev rT:AV:=.tree 2 [[i6 0,i6 0],[i6 0,i6 0]]
noncomputable abbrev run0(f:Nat)(l:List AV):Option AV:=Oq Tryz.prog (fun _=>false) (fun _ _=>none) (i8 Tryz.prog) (fun _=>false) (fun _=>false) (fun g=>Nat.beq g f) 1000 20 f l
theorem x9{f:Nat}{l:List AV}{r:AV}(h:run0 f l=some r):PRet Tryz.prog f l (fun q=>q=r):=
 PRet.of_call (Fs (by kernel_rfl) (fun _ _ _ h=>by cases h) mm h)
section
variable(A B K:Int)
theorem aba:PRet Tryz.prog 36 [lT,.agg (c16 A B K),rT] (fun q=>q=.tup [i6 2,.tree 3 ((Lz A B K).map cnA)]):=x9 (by kernel_rfl)
theorem aa4:PRet Tryz.prog 75 [lT,.agg (c16 A B K),rT] (fun q=>q=.tup [.agg [oy,oy,oy,oy,oy],oy]):=x9 (by kernel_rfl)
theorem aan:PRet Tryz.prog 76 [.agg [oy,oy,oy,oy,oy]] (fun q=>q=.tup [.tree 1 [],.v (.bool true)]):=x9 (by kernel_rfl)
theorem aa5:PRet Tryz.prog 10 [lT] (fun q=>q=rT):=x9 (by kernel_rfl)
theorem abb:PRet Tryz.prog 24 [lT,.agg (c16 A B K),rT] (fun q=>q=.tree 3 ((Lz A B K).map cnA)):=x9 (by kernel_rfl)
theorem acb:PRet Tryz.prog 7 [.v (.bool true),i6 K,.tree 2 [[i6 0,i6 A],[i6 1,i6 B]]] (fun q=>q=.agg (kT A B K)):=x9 (by kernel_rfl)
end
abbrev rfA(S:List StS):List AV:=[i6 2,i6 0,i6 0]++pfA S++[oy]
abbrev PKR(A B K:Int):Prop:=((-65536<=A/\A<=65536)/\(-65536<=B/\B<=65536))/\(-65536<=K/\K<=65536)
section
variable{A B K:Int}
theorem Tl:Ba 2 (Lz A B K)=xg A B K:=by kernel_rfl
theorem V2{x:Int}(h:-2147483648<=x/\x<=2147483647):B1 x:=by omega
theorem Vo(h:PKR A B K):∀c∈Lz A B K,CnB c:=fun c hc=>by
 obtain⟨⟨hA,hB⟩,hK⟩:=h
 simp only[aek,List.not_mem_nil,or_false]at hc
 rcases hc with rfl|rfl|rfl|rfl|rfl<;>refine⟨V2 (by first|decide|(show -2147483648<=K/\K<=_;omega)),fun x hx=>?_,aeb rfl⟩<;>simp only[aek,List.not_mem_nil,or_false]at hx
 ·subst hx;exact V2 (by decide)
 ·subst hx;exact V2 (by decide)
 ·subst hx;exact V2 (by decide)
 ·subst hx;exact V2 (by decide)
 rcases hx with rfl|rfl
 ·exact V2 (by show -2147483648<=A/\A<=_;omega)
 exact V2 (by show -2147483648<=B/\B<=_;omega)
theorem Fu{k v n:Int}{e:Bool}(h:0<=v/\v<2):rgC ⟨⟨k,[⟨v,n⟩]⟩,e⟩ ((2:Nat):Int):=⟨fun j hj=>by
 have:j=0:=by have:j<1:=hj;omega
 subst this;exact h,fun j hj=>by have:j+1<1:=hj;omega,by decide,by decide⟩
theorem rg16:∀c∈Lz A B K,rgC c ((2:Nat):Int):=fun c hc=>by
 simp only[aek,List.not_mem_nil,or_false]at hc
 rcases hc with rfl|rfl|rfl|rfl|rfl
 ·exact Fu (by decide)
 ·exact Fu (by decide)
 ·exact Fu (by decide)
 ·exact Fu (by decide)
 refine⟨fun j hj=>?_,fun j hj=>?_,by decide,by decide⟩
 ·have:j=0\/j=1:=by have:j<2:=hj;omega
  rcases this with rfl|rfl
  ·show(0:Int)<=0/\(0:Int)<2;decide
  show(0:Int)<=1/\(1:Int)<2;decide
 have:j=0:=by have:j+1<2:=hj;omega
 subst this;show(0:Int)<1;decide
theorem Yr:iq (Lz A B K) (fun _=>True):=⟨aeb rfl,fun _ _=>trivial⟩
theorem abr{S:List StS}(h:PKR A B K)(hS:Nm 2 (xg A B K)=some S):PRet Tryz.prog 37 [i6 2,.tree 3 ((Lz A B K).map cnA)] (fun q=>q=.tup [oy,.agg (pfA S),.v (.bool false)]):=
 Tp (Lz A B K) Yr 2 S (by decide) (by decide) (Nat.zero_lt_succ _) (aeb rfl) (Vo h) rg16 Ym Uw (by rw[Tl];exact hS)
theorem aat(h:PKR A B K):PRet Tryz.prog 23 [.tree 3 ((Lz A B K).map cnA),i6 2] (fun q=>q=.tree 3 ((xg A B K).map iqA)):=by
 have:=I5 (Lz A B K) Yr 2 (by decide) (by decide) (aeb rfl) (Vo h) rg16
 rwa [Tl]at this
theorem aau(h:PKR A B K):SyN 2 (xg A B K):=by
 have:=Di (n:=2) (l:=Lz A B K) (Vo h)
 rw[Tl]at this;exact this
theorem ac9{S:List StS}{R:List IqS}(h:PKR A B K)(hl:S.length=3)(hu:∀s∈S,s.us.length<=2)(hR:qy 2 S (xg A B K)=some R)(hb:R.any (fun q=>Im q)=true):PRet Tryz.prog 22 [.tree 3 ((xg A B K).map iqA),.agg (pfA S)] (fun q=>q=.v (.bool true)):=by
 have:=Qi (xg A B K) ⟨aeb rfl,fun _ _=>trivial⟩ S 2 R (by decide) (by decide) (Nat.zero_lt_succ _) (by rw[hl];exact aeb rfl) (aau h) (fun s hs=>aec (hu s hs) (by decide)) hR
 rwa [hb]at this
end
theorem by62:(Tryz.prog.info? 62).map (·.bytes)=some 16:=by kernel_rfl
theorem Xa:d9 Tryz.prog 54=some (some 9):=by kernel_rfl
theorem aa6:d9 Tryz.prog 95=some (some 5):=by kernel_rfl
theorem sz62:ao Tryz.prog 62=some 2:=by kernel_rfl
theorem zr62:bh Tryz.prog 62=some (.agg #[.int .i64 0,.int .i64 0]):=by kernel_rfl
theorem I3(A B K:Int):PRet Tryz.prog 35 [.agg (p16 A B K),rT] (fun q=>q=.tup [.unk,.agg [oy,oy,oy,oy,oy],.v (.bool true)]):=by
 refine ovT [] [] Tryz.func35 rfl rfl (ArgG.mk (aa4 A B K) rfl ?_)
 rintro _ rfl
 refine ArgG.mk (aan) rfl ?_
 rintro _ rfl
 refine cF (OpG.nw (LOp.makeMap 3) rfl ?_)
 refine kc (ULp.step ?_)
 refine cF ⟨by kernel_rfl,⟨.inr rfl,_,fe rfl (Tb.tmp ⟨[],FzP.unk⟩) (Tb.cellN Tryz.f35 aa6 rfl rfl rfl rfl rfl ⟨[],FzP.pure rfl⟩) (Tb.tmp ⟨[],FzP.pure rfl⟩),?_⟩⟩
 rfl
theorem Je{A B K:Int}{S:List StS}(h:PKR A B K)(hS:Nm 2 (xg A B K)=some S):PRet Tryz.prog 18 [.agg (p16 A B K),rT] (fun q=>q=.tup [oy,.agg (rfA S),.v (.bool false)]):=by
 refine ovT [] [] Tryz.func18 rfl rfl (ArgG.mk (I3 A B K) rfl ?_)
 rintro _ rfl
 refine cF (ArgG.mk (aba A B K) rfl ?_)
 rintro _ rfl
 refine ArgG.mk (abr h hS) rfl ?_
 rintro _ rfl
 refine cT ⟨by kernel_rfl,⟨.inr rfl,_,fe rfl (Tb.tmp ⟨[],FzP.pure rfl⟩) (Tb.cellN Tryz.f18 Xa rfl rfl rfl rfl rfl ⟨[],FzP.pure rfl⟩) (Tb.tmp ⟨[],FzP.pure rfl⟩),?_⟩⟩
 rfl
theorem Ia{A B K:Int}{S:List StS}(h:PKR A B K)(hS:Nm 2 (xg A B K)=some S):PRet Tryz.prog 8 [lT,.agg (c16 A B K)] (fun q=>q=.tup [oy,.agg (rfA S),.v (.bool false)]):=by
 have hlen2:([false,true]:List Bool).length=2:=rfl
 refine ovT [67,68,70] [21] Tryz.func8 rfl rfl (kc (ULp.step ?_))
 refine cF (kc (ULp.step ?_))
 refine cF (OpG.lk (lTz (f:=v16) (l:=[false,true]) rfl Tryz.underlying26 rfl) ?_)
 refine OpG.nw (LOp.makeSlice 3 (len:=2) Tryz.underlying39 sz62 zr62 by62 rfl rfl rfl rfl rfl) rfl (OpG.lk (lTz (f:=v16) (l:=[false,true]) rfl Tryz.underlying26 rfl) ?_)
 refine kc (ULp.step ?_)
 refine cT ⟨(by first|assumption|omega|decide),cF ?_⟩
 refine⟨by omega,ULp.step ?_⟩
 refine cT ⟨(by first|assumption|omega|decide),cF ?_⟩
 refine⟨by omega,ULp.step ?_⟩
 refine cF (RegG.via (fun _ h=>bl [3] 12 rT (bi (f:=paA) (l:=[((0:Int),(0:Int)),(0,0)]) (ady.2 rfl) rfl rfl rfl rfl rfl rfl (fun a _=>⟨rfl,rfl⟩)) rfl h) ?_)
 refine aw (ArgG.mk (Je h hS) rfl ?_)
 rintro _ rfl
 refine⟨.inr rfl,_,fe rfl (Tb.tmp ⟨[],FzP.pure rfl⟩) (Tb.cellN Tryz.f8 Xa rfl rfl rfl rfl rfl ⟨[],FzP.pure rfl⟩) (Tb.tmp ⟨[],FzP.pure rfl⟩),?_⟩
 rfl
theorem T1{A B K:Int}{S:List StS}{R:List IqS}(h:PKR A B K)(hl:S.length=3)(hu:∀s∈S,s.us.length<=2)(hR:qy 2 S (xg A B K)=some R)(hb:R.any (fun q=>Im q)=true):PRet Tryz.prog 9 [lT,.agg (c16 A B K),.agg (rfA S),rT] (fun q=>q=.v (.bool true)):=by
 have hlen2:([false,true]:List Bool).length=2:=rfl
 refine ovT [58] [] Tryz.func9 rfl rfl (cF ?_)
 refine cF (cT ?_)
 refine ArgG.mk (abb A B K) rfl ?_
 rintro _ rfl
 refine OpG.lk (lTz (f:=v16) (l:=[false,true]) rfl Tryz.underlying26 rfl) ⟨by omega,ArgG.mk (aat h) rfl ?_⟩
 rintro _ rfl
 refine ArgG.mk (ac9 h hl hu hR hb) rfl ?_
 rintro _ rfl
 exact⟨by kernel_rfl,rV rfl rfl rfl⟩
theorem Jx{a b k:Int}(ha:-32768<=a/\a<=32767)(hb:-32768<=b/\b<=32767)(hk:-32768<=k/\k<=32767):PKR (2*a) (2*b) (2*k+1):=⟨⟨⟨by omega,by omega⟩,⟨by omega,by omega⟩⟩,⟨by omega,by omega⟩⟩
theorem sz32:ao Tryz.prog 32=some 3:=by kernel_rfl
theorem zr25:bh Tryz.prog 25=some (.agg #[.int .i64 0,.int .i64 0,.int .i64 0,.int .i64 0,.bool false]):=by kernel_rfl
theorem zr32:bh Tryz.prog 32=some (.agg #[.int .i64 0,.slice none 0 0,.bool false]):=by kernel_rfl
theorem zr35:bh Tryz.prog 35=some (.agg #[.int .i64 0,.int .i64 0]):=by kernel_rfl
theorem lawPar_p{a b k:Int}(ha:-32768<=a/\a<=32767)(hb:-32768<=b/\b<=32767)(hk:-32768<=k/\k<=32767)(h0:PRet Tryz.prog 6 [] (fun q=>q=.v (.bool true))):PRet Tryz.prog 3 [.v (.int .i16 a),.v (.int .i16 b),.v (.int .i16 k)] (fun q=>q=.v (.bool true)):=by
 refine ovT [25,26,28,29,30,32,33,36,37,39,41] [] Tryz.func3 rfl rfl (ArgG.mk (h0) rfl ?_)
 rintro _ rfl
 refine cF (OpG.lk (lP rfl (fun _ _=>nofun) (fun _=>rfl)) ?_)
 refine cE (fun h1=>?_) (fun h1=>?_)
 ·refine cT (ArgG.mk (h0) rfl ?_)
  rintro _ rfl
  exact rV rfl rfl rfl
 refine OpG.lk (lP rfl (fun _ _=>nofun) (fun _=>rfl)) (cE (fun h2=>?_) (fun h2=>?_))
 ·refine ArgG.mk (h0) rfl ?_
  rintro _ rfl
  exact rV rfl rfl rfl
 have hh:a≠0/\b≠0:=by simp_all
 obtain⟨S,R,hS,hl,hu,hR,h3⟩:=T6 ha hb hk hh.1 hh.2
 refine OpG.nw (cm (d4 Tryz.underlying26 sz25 zr25 rfl rfl rfl rfl) (fun η' h=>bi (f:=v16) (l:=[false,true]) (ady.2 rfl) h rfl rfl rfl rfl rfl (fun a _=>⟨rfl,rfl⟩))) rfl (OpG.nw (cm (d4 Tryz.underlying27 sz3 zr3 rfl rfl rfl rfl) (fun η' h=>bi (f:=(fun x:Int=>[i6 x])) (l:=[(0:Int),1]) (ady.2 rfl) h rfl rfl rfl rfl rfl (fun a _=>⟨rfl,rfl⟩))) rfl ?_)
 refine OpG.lk (cn (r:=k) Tryz.underlying22 Tryz.underlying2 rfl (by rw[IntKind.wrap_i64];omega)) (OpG.lk (mw (r:=2*k) rfl rfl (by rw[IntKind.wrap_i64];omega)) ?_)
 refine OpG.lk (my (r:=2*k+1) rfl rfl (by rw[IntKind.wrap_i64];omega)) (OpG.lk (cn (r:=a) Tryz.underlying22 Tryz.underlying2 rfl (by rw[IntKind.wrap_i64];omega)) ?_)
 refine OpG.lk (mw (r:=2*a) rfl rfl (by rw[IntKind.wrap_i64];omega)) (OpG.lk (cn (r:=b) Tryz.underlying22 Tryz.underlying2 rfl (by rw[IntKind.wrap_i64];omega)) ?_)
 refine OpG.lk (mw (r:=2*b) rfl rfl (by rw[IntKind.wrap_i64];omega)) (OpG.nw (cm (d4 Tryz.underlying28 sz35 zr35 rfl rfl rfl rfl) (fun η' h=>bi (f:=cfA) (l:=[(⟨0,2*a⟩:PCoef),⟨1,2*b⟩]) (ady.2 rfl) h rfl rfl rfl rfl rfl (fun a _=>⟨rfl,rfl⟩))) rfl ?_)
 refine ArgG.mk (acb (2*a) (2*b) (2*k+1)) rfl ?_
 rintro _ rfl
 refine OpG.nw (cm (d4 Tryz.underlying36 sz32 zr32 rfl rfl rfl rfl) (fun η' h=>bi (f:=(fun _:Unit=>kT (2*a) (2*b) (2*k+1))) (l:=[()]) (ady.2 rfl) h rfl rfl rfl rfl rfl (fun a _=>⟨rfl,rfl⟩))) rfl (ArgG.mk (Ia (A:=2*a) (B:=2*b) (K:=2*k+1) (Jx ha hb hk) hS) rfl ?_)
 rintro _ rfl
 refine cT (cT ?_)
 refine ArgG.mk (aa5) rfl ?_
 rintro _ rfl
 refine ArgG.mk (T1 (Jx ha hb hk) hl hu hR h3) rfl ?_
 rintro _ rfl
 exact⟨by kernel_rfl,rV rfl rfl rfl⟩
end Go.Proofs.YtbhhmbchdponjaaGreatDoor
