/- Texts of the claim. -/
import Derived.Lib.ItoaMem
import Derived.Lib.ItoaNum
import Derived.Lib.LaidTab
import Derived.Lib.Walk
import Derived.Lib.ItoaWalk
import Derived.WalkKit
import Derived.BigCall
import Derived.BigGuard
import Derived.Below
import Derived.KernelRfl
import Derived.Lib.Join
import Derived.Test.YtmbmbhkemgmhfaaGreatDoorA1
import Derived.Test.YtmbmbhkemgmhfaaGreatDoorShelf
import Derived.Test.YtmbmbhkemgmhfaaGreatDoorQ2
import Derived.Test.YtmbmbhkemgmhfaaGreatDoorT4
import Derived.Test.YtmbmbhkemgmhfaaGreatDoorE3
namespace Go.Proofs.YtmbmbhkemgmhfaaGreatDoor
set_option maxRecDepth 1000000
set_option maxHeartbeats 0
set_option linter.unusedVariables false
set_option linter.unusedSimpArgs false
open Go.RowKit Go.Lib Go.Shelf Go.Sort
abbrev L20:List Value:=[.int .u64 1,.int .u64 10,.int .u64 100,.int .u64 1000,.int .u64 10000,.int .u64 100000,.int .u64 1000000,.int .u64 10000000,.int .u64 100000000,.int .u64 1000000000,.int .u64 10000000000,.int .u64 100000000000,.int .u64 1000000000000,.int .u64 10000000000000,.int .u64 100000000000000,.int .u64 1000000000000000,.int .u64 10000000000000000,.int .u64 100000000000000000,.int .u64 1000000000000000000,.int .u64 10000000000000000000]
theorem Yp{T:Nat->Prop}{w:World}(h:TOk T w):Lib.TabIs Tryz.prog w "internal/strconv.uint64pow10" .u64 Lib.pow10Tab:=by
 have hg:Tryz.prog.globalNamed "internal/strconv.uint64pow10"=some 1:=by kernel_rfl
 obtain⟨-,hc,hn⟩:=h.glob _ (agy.2 rfl)
 have hc:∀j (h:j<L20.length),w.cell? ⟨1,j,none⟩=some L20[j]:=hc
 have hn:w.cell? ⟨1,20,none⟩=none:=hn
 have h0:=hc 0 (by decide)
 unfold Lib.TabIs World.var?
 rw[hg]
 simp only[ahq]
 cases hb:w.heap[1]? with
 |none=>simp[World.cell?,hb]at h0
 |some o=>
  cases o with
  |cells c e f=>
   simp only[World.cell?,hb,Option.isSome_none,Bool.false_eq_true,if_false]at hc hn
   simp only[agw]
   apply Array.ext_getElem?
   intro i
   have e20:(Lib.pow10Tab.map fun z=>Value.int .u64 z).toArray=L20.toArray:=by kernel_rfl
   rw[e20]
   rcases Nat.lt_or_ge i 20 with g|g
   ·rw[hc i g,List.getElem?_toArray,agu (show i<L20.length from g)]
   ·have hs:c.size<=20:=Array.getElem?_eq_none_iff.1 hn
    rw[Array.getElem?_eq_none (by omega),Array.getElem?_eq_none (by show 20<=i;exact g)]
  |_=>simp[World.cell?,hb]at h0
theorem aav(w:World)(T:TypeId)(nd:Nat)(hs:nd<=24):Holds (fun(b:UInt8)=>Value.int .u8 (b.toNat:Int)) (w.alloc (.cells Lib.zeros24 T)) w.heap.size 0 (Array.replicate nd (0:UInt8)):=fun j hj=>by
 have hj':j<nd:=by simpa using hj
 refine⟨?_,World.frozen?_alloc_new _ _ _ _⟩
 rw[World.cell?_alloc_new,Lib.zeros24_at _ (by omega),getElem!_pos _ j hj]
 simp
theorem afp(w:World)(o:Obj)(dk:Array UInt8)(k:Nat):∃os,(putRow (fun(b:UInt8)=>Value.int .u8 (b.toNat:Int)) (w.alloc o) w.heap.size 0 dk).drewN k=grow (w.drewN k) os:=by
 rw[alloc_eq_grow]
 obtain⟨os',_,e⟩:=putRow_grow_new (fun(b:UInt8)=>Value.int .u8 (b.toNat:Int)) w #[o] w.heap.size 0 dk (ag8 _)
 exact⟨os',by rw[e];rfl⟩
theorem afi(u:Nat)(h0:u<18446744073709551616)(w:World)(h2:Lib.TabIs Tryz.prog w "internal/strconv.uint64pow10" .u64 Lib.pow10Tab):
 Calls Tryz.prog 190 #[.int .u64 u,.int .i64 10] w fun e w'=>e=.returned (.string ⟨(Lib.decDigits u).toArray⟩)/\∃k os,w'=grow (w.drewN k) os:=by
 by_cases hs:u<100
 ·go_enter Tryz.func190,Tryz.ntmps190
  go_wp2_with (go_at_call 192;refine(Tryz.internal_strconv_small u hs _).mono ?_;rintro e w' ⟨rfl,rfl⟩)
  go_ret
  refine⟨rfl,0,#[],by simp[World.drewN_zero]⟩
 have h4:1<=u:=by omega
 have hnd20:Lib.nDigits u<=20:=by have:=Lib.numDigits_eq u h4 h0;split at this<;>omega
 have h5:Tryz.prog.arrayLen 304=24:=by kernel_rfl
 have hsl:∀W,(Instr.sliceAt 304 (.pointer (some ⟨w.heap.size,0,none⟩)) none (some (.int .i64 (Lib.nDigits u:Int))) none).run Tryz.prog W=.ok (.slice (some ⟨w.heap.size,0,none⟩) (Lib.nDigits u) 24) W:=fun W=>by
  rw[run_sliceAt_array_h W 304 ⟨w.heap.size,0,none⟩ (by kernel_rfl) .i64 (Lib.nDigits u:Int) (by omega) (by rw[h5];omega)]
  go_simp
 have h3:=aav w 304 (Lib.nDigits u) (by omega)
 have h1:=Tryz.internal_strconv_formatBase10 w.heap.size 0 24 u (Array.replicate (Lib.nDigits u) 0) (w.alloc (.cells Lib.zeros24 304)) h3 (by rw[Array.size_replicate];exact Lib.lt_pow_nDigits u) h0 (by rw[Array.size_replicate];omega)
 rw[Array.size_replicate]at h1
 have HH0:=Lib.hid h3
 clear h3 h5
 go_enter Tryz.func190,Tryz.ntmps190
 go_wp2_with (go_at_call 193;refine(Tryz.internal_strconv_numDigits u h4 h0 _ (Lib.tabIs_alloc h2 _)).mono ?_;rintro e w' ⟨rfl,rfl⟩)
 go_at_call 194
 refine h1.mono ?_
 rintro e w' ⟨rfl,k,v',dk,rfl,hF⟩
 have hcv:(convert 142 9 (.slice (some ⟨w.heap.size,0,none⟩) (Lib.nDigits u) 24)).run Tryz.prog ((putRow (fun(b:UInt8)=>Value.int .u8 (b.toNat:Int)) (w.alloc (.cells Lib.zeros24 304)) w.heap.size 0 dk).drewN k)=.ok (.string ⟨(Lib.decDigits u).toArray⟩) ((putRow (fun(b:UInt8)=>Value.int .u8 (b.toNat:Int)) (w.alloc (.cells Lib.zeros24 304)) w.heap.size 0 dk).drewN k):=by
  have h:=run_convert_bytes_back (P:=Tryz.prog) ((putRow (fun(b:UInt8)=>Value.int .u8 (b.toNat:Int)) (w.alloc (.cells Lib.zeros24 304)) w.heap.size 0 dk).drewN k) 142 9 5 ⟨w.heap.size,0,none⟩ 24 (Lib.decDigits u) Tryz.underlying142 Tryz.underlying5 Tryz.underlying9 (fun j hj=>by
   rw[Lib.row_is_numeral hF j hj,Lib.add_plain,World.cell?_drewN]
   rw[show 0+j=0+j from rfl]
   exact cell?_putRow (fun(b:UInt8)=>Value.int .u8 (b.toNat:Int)) _ w.heap.size 0 _ dk HH0.out (by rw[hF.size,Array.size_replicate]) j (by rw[hF.size];rw[Lib.decDigits_length]at hj;exact hj))
  rw[Lib.decDigits_length]at h
  exact h
 go_wp2
 go_ret
 obtain⟨os,eo⟩:=afp w (.cells Lib.zeros24 304) dk k
 exact⟨rfl,k,os,eo⟩
open Go.RowKit
section
variable{s s':OSt}{f k o:Nat}{x y:ItS}{R:Option (OSt×Int×Int×Bool×Bool)}
theorem Zq(hx:s.I[k]? =some x)(ho:wj s x.g=some o)(hk:¬o<k)(hy:s.I[o]? =some y)(hp:bnd s x+bnd s y=0):ly s (f+1) k=some (s,(k:Int),(o:Int),true,true):=by
 rw[ly,hx];simp only;rw[ho];simp only;rw[ag1 hk,hy];simp only;rw[hp];rfl
end
theorem afn(x:Int):flD x 1=x:=by rw[(Mr (by decide)).1,Int.ediv_one]
open Go.Lib in
theorem Tq:∀{f u:Nat},u<10^(f+1)->Lib.decDigits u=E4 (f+1) u
 |0,u,h=>by rw[Lib.decDigits,E4,dif_pos (by simpa using h),ag2 (by simpa using h)]
 |f+1,u,h=>by
  rw[Lib.decDigits,E4]
  by_cases g:u<10
  ·rw[dif_pos g,ag2 g]
  ·rw[dif_neg g,ag1 g,Tq (f:=f) (u:=u/10) (by rw[Nat.pow_succ]at h;omega)]
abbrev dSt(u:Nat):ByteArray:=⟨(E4 20 u).toArray⟩
theorem afj{u:Nat}(hu:u<18446744073709551616):eu Tryz.prog 190 [.v (.int .u64 (u:Int)),.v (.int .i64 10)] (.v (.string (dSt u))):=by
 intro T w vals ⟨h2,hv⟩ hT
 have h0:=(hv 0 (by simp) (by simp at h2;omega)).v_inv
 have h1:=(hv 1 (by simp) (by simp at h2;omega)).v_inv
 have h3:vals=#[.int .u64 (u:Int),.int .i64 10]:=by
  have e0:vals[0]'(by simp at h2;omega)=.int .u64 (u:Int):=h0
  have e1:vals[1]'(by simp at h2;omega)=.int .i64 10:=h1
  apply Array.ext
  ·simpa using h2.symm
  ·intro i hi h4
   have:i=0\/i=1:=by simp at h4;omega
   rcases this with rfl|rfl
   ·exact e0
   ·exact e1
 rw[h3]
 refine(afi u hu w (Yp hT)).mono ?_
 rintro e w' ⟨rfl,k,os,rfl⟩
 have hb:Below w.heap.size w (Go.Sort.grow (w.drewN k) os):=⟨rfl,rfl,rfl,by rw[Go.Sort.size_grow];exact Nat.le_add_right _ _,fun j hj=>Go.Sort.heap_grow_old (w.drewN k) os hj⟩
 have e20:Lib.decDigits u=E4 20 u:=Tq (f:=19) (Nat.lt_trans hu (by decide))
 rw[e20]
 exact⟨_,T,rfl,.v _,fun _ h=>h,fun _ h=>.inl h,fun b hb'=>Nat.lt_of_lt_of_le (hT b hb') hb.size,hb⟩
abbrev BY(b:Bool)(y:Int):GBig:=⟨b,[y]⟩
theorem shY{y:Int}(h1:1<=y)(h2:y<=65535):shN 1000000000 [y] 1=([0],y):=by
 have e:y/1000000000=0:=Int.ediv_eq_zero_of_lt (by omega) (by omega)
 have e2:y%1000000000=y:=Int.emod_eq_of_lt (by omega) (by omega)
 simp[shN,e,e2]
theorem aes{b:Bool}{y:Int}(h1:1<=y)(h2:y<=65535):PRet Tryz.prog 51 [.agg (bgA (BY b y))] (fun q=>q=.agg (bgA (BY b y))):=by
 have:=v6 (BY b y) ⟨jj (show 1<=5000 by decide)⟩ (show 1<=1000 by decide)
 have e:nmB b [y]=BY b y:=by unfold nmB;rw[show dtr [y]=[y]by rw[<-qd h1,ki]];rfl
 rwa [show nmB (BY b y).b_ (BY b y).a_=BY b y from e]at this
def dK(y:Int):Nat->List Int
 |0=>[y]
 |_+1=>[]
theorem shoY{y:Int}{k:Nat}(hk:k=0)(h1:1<=y)(h2:y<=65535):PRet Tryz.prog 182 [.tree 1 ((dK y k).map ct),.v (.int .u32 1000000000)] (fun q=>q=.tup [.tree 1 (([0]:List Int).map ct),.v (.int .u32 y)]):=by
 subst hk
 have:=Kk [y] (jj (show 1<=5000 by decide)) 1000000000 ⟨by decide,by decide⟩ (fun z hz=>by rw[agy.1 hz];exact⟨by omega,by omega⟩) (show 1<=1000 by decide)
 rwa [show shN 1000000000 [y] [y].length=([0],y)from shY h1 h2]at this
theorem adp:PRet Tryz.prog 107 [.tree 1 (([0]:List Int).map ct)] (fun q=>q=.tree 1 (([]:List Int).map ct)):=
 xw [0] (jj (show 1<=5000 by decide)) (show 1<=1000 by decide)
theorem af0{y:Int}{k:Nat}(h:(((dK y k).length:Nat):Int)>0):k=0:=by
 cases k with
 |zero=>rfl
 |succ k=>exact absurd h (Int.lt_irrefl 0)
theorem af1{y:Int}{k:Nat}(h:¬(((dK y k).length:Nat):Int)>0):k≠0:=fun e=>by subst e;exact h (by show(0:Int)<1;decide)
theorem jn_1(a:ByteArray):Lib.join ([a].map (·.data.toList)) (⟨#[]⟩:ByteArray).data.toList=a.data.toList:=by simp[Lib.join,Lib.joinTail]
theorem jn_2(a b:ByteArray):Lib.join ([a,b].map (·.data.toList)) (⟨#[]⟩:ByteArray).data.toList=a.data.toList++b.data.toList:=by simp[Lib.join,Lib.joinTail]
def acp:Prop:=∀(ss:List ByteArray) (sep:ByteArray),(Lib.join (ss.map (·.data.toList)) sep.data.toList).length<=140737488355328->eu Tryz.prog 157 [.tree 1 (ss.map sA),.v (.string sep)] (.v (.string ⟨(Lib.join (ss.map (·.data.toList)) sep.data.toList).toArray⟩))
theorem ab1:bv Tryz.prog 183=true:=by kernel_rfl
theorem Tw:bv Tryz.prog 184=true:=by kernel_rfl
theorem ab0:bv Tryz.prog 190=true:=by kernel_rfl
theorem ad1:c9 Tryz.prog 9=some none:=by kernel_rfl
theorem afl{u:Nat}(hu:u<18446744073709551616):PRet Tryz.prog 183 [.v (.int .u64 ((u:Nat):Int)),.v (.int .i64 10)] (fun q=>q=.v (.string (dSt u))):=by
 refine ovT [7] [] Tryz.func183 rfl rfl (OpG.lk (LOp.call ab0 rfl (afj hu)) ?_)
 exact rV rfl rfl rfl
theorem Ze(a:ByteArray)(v:Nat):o7 Tryz.prog 184 [.sl 1000000 v 0 1] [(1000000,⟨v,rF sA [a],1,false⟩)] [(1000000,some (⟨v,rF sA [a],1,false⟩))] (fun q=>q=.tup []):=by
 refine o7.of_vc ik [5] [] Tryz.func184 rfl Tryz.ntmps184 rfl (by kernel_rfl) (OpG.lk (bo rfl Tryz.underlying121 rfl rfl rfl) ?_)
 refine⟨by omega,w6 (ULp.step ?_)⟩
 refine cF ⟨.inl rfl,_,Fg.of [] (aw rfl .nil) rfl ⟨.same rfl (by decide),trivial⟩ .same,?_⟩
 rfl
theorem Zd(a b:ByteArray)(v:Nat):o7 Tryz.prog 184 [.sl 1000000 v 0 2] [(1000000,⟨v,rF sA [a,b],1,false⟩)] [(1000000,some (⟨v,rF sA [b,a],1,false⟩))] (fun q=>q=.tup []):=by
 refine o7.of_vc ik [5,20,21,24,25,26,27,100026,100027] [] Tryz.func184 rfl Tryz.ntmps184 rfl (by kernel_rfl) (OpG.lk (bo rfl Tryz.underlying121 rfl rfl rfl) ?_)
 refine⟨by omega,w6 (ULp.step ?_)⟩
 refine cT (OpG.lk (ak (k:=1) (n:=2) (id:=1000000) (ver:=v) (v:=1) (L:=[a,b]) bt Tryz.underlying121 sz9 rfl rfl rfl (by decide) rfl) ?_)
 refine OpG.lk (ca (k:=1) (o:=0) (L:=[a,b]) bt ad1 rfl rfl (by simp) rfl) (OpG.lk (ak (k:=0) (n:=2) (id:=1000000) (ver:=v) (v:=0) (L:=[a,b]) bt Tryz.underlying121 sz9 rfl rfl rfl (by decide) rfl) ?_)
 refine OpG.lk (ca (k:=0) (o:=0) (L:=[a,b]) bt ad1 rfl rfl (by simp) rfl) (OpG.lk (ak (k:=0) (n:=2) (id:=1000000) (ver:=v) (v:=0) (L:=[a,b]) bt Tryz.underlying121 sz9 rfl rfl rfl (by decide) rfl) ?_)
 refine OpG.wr (az (k:=0) (o:=0) (v:=b) (L:=[a,b]) bt sz9 rfl rfl rfl rfl rfl rfl (by simp) (by decide) rfl) rfl (OpG.lk (ak (k:=1) (n:=2) (id:=1000000) (ver:=v) (v:=1) (L:=[b,b]) bt Tryz.underlying121 sz9 rfl rfl rfl (by decide) rfl) ?_)
 refine OpG.wr (az (k:=1) (o:=0) (v:=a) (L:=[b,b]) bt sz9 rfl rfl rfl rfl rfl rfl (by simp) (by decide) rfl) rfl ⟨by kernel_rfl,⟨by omega,?_⟩⟩
 refine⟨by omega,ULp.step ?_⟩
 refine cF ⟨.inl rfl,_,Fg.of [] (aw rfl .nil) rfl ⟨.same rfl (by decide),trivial⟩ .same,?_⟩
 rfl
theorem fmtY(hJ:acp)(b:Bool)(y:Int)(DS:ByteArray)(h7:1<=y)(h8:y<=65535)(h9:DS=dSt y.toNat):PRet Tryz.prog 156 [.agg (bgA (BY b y))] (fun q=>q=.v (.string ⟨((if b then[45]else[])++DS.data.toList).toArray⟩)):=by
 obtain⟨_,rfl,hc⟩:PRet Tryz.prog 183 [.v (.int .u64 y),.v (.int .i64 10)] (fun q=>q=.v (.string DS)):=by
  have:=afl (u:=y.toNat) (by omega)
  rw[show((y.toNat:Nat):Int)=y by omega]at this;rw[h9];exact this
 have hyu:((y.toNat:Nat):Int)=y:=by omega
 have hd:DS.data.toList.length<=20:=by rw[h9];exact E3
 obtain⟨_,rfl,h2⟩:=Ze DS 1
 obtain⟨_,rfl,h3⟩:=Zd DS (⟨#[45]⟩:ByteArray) 2
 have ha:=hJ [DS] ⟨#[]⟩ (by rw[jn_1];omega)
 have hb:=hJ [(⟨#[45]⟩:ByteArray),DS] ⟨#[]⟩ (by rw[jn_2];simp;simp at hd;omega)
 rw[jn_1]at ha
 rw[jn_2]at hb
 refine ovT [27,28,46,48,50] [13,16] Tryz.func156 rfl rfl (ArgG.mk (aes (b:=b) h7 h8) rfl ?_)
 rintro _ rfl
 refine LenG.of (cF ?_)
 refine LpG.via (fun _ h=>ic 3 1 rfl 2 rfl h) (LpG.on (fun k0:KL ByteArray=>(⟨fL [(1,.ptr 0 0 0),(3,.sl 1 k0.L.length 0 k0.L.length),(4,.tree 1 (((dK y k0.k)).map ct))],hLz [(0,⟨0,bgA (BY b y),0,false⟩),(1,⟨k0.L.length,rF sA k0.L,1,Nat.beq k0.L.length 0⟩)],2⟩:St)) (fun k0=>(1-k0.k)) (fun k0=>(k0.k<=1/\(k0.L=[DS].take k0.k/\k0.k<=1))) (⟨0,[]⟩:KL ByteArray) (cO (.cons rfl rfl (.cons (by rfl) rfl (.cons rfl rfl .nil))) (.cons rfl rfl rfl (.cons (by rfl) rfl (aa bt _ _) .nil))) ⟨ag6 _,⟨rfl,ag6 _⟩⟩ ?_)
 rintro k0 h4
 obtain⟨hle_k0,h0⟩:=h4
 refine LenG.of (cD (fun h1=>?_) (fun h1=>?_))
 ·have h5:=af0 h1
  have hll:k0.L.length=0:=by rw[h0.1,h5];rfl
  refine ArgG.mk (shoY (k:=k0.k) h5 h7 h8) rfl ?_
  rintro _ rfl
  refine ArgG.mk (adp) rfl ?_
  rintro _ rfl
  refine OpG.lk (j8 Tryz.underlying177 Tryz.underlying134 rfl (by omega) (by omega)) (OpG.lk (LOp.call ab1 rfl hc) ?_)
  refine LenG.of (cF ?_)
  refine OpG.mk _ _ _ 3 (bh bt (a:=DS) Tryz.underlying121 sz9 zr9 by9 rfl rfl rfl (ce rfl rfl rfl rfl) rfl (by omega) (by omega) (by unfold TV;omega)) rfl rfl ⟨(⟨k0.k+1,k0.L++[DS]⟩:KL ByteArray),(by show 1-(k0.k+1)<1-k0.k;omega),(cO (.cons rfl rfl (.cons (by(rw[agx];rfl)) rfl (.cons rfl rfl .nil))) (.cons rfl rfl rfl (.cons (by(rw[agx];rfl)) rfl (aa bt _ _) .nil))),⟨by show k0.k+1<=_;omega,?_⟩⟩
  exact⟨by rw[h0.1,h5];rfl,by show k0.k+1<=1;omega⟩
 have he:k0.k=1:=by have:=af1 h1;have:=h0.2;omega
 have hL:k0.L=[DS]:=by rw[h0.1,he];rfl
 rw[hL]
 refine RegG.via (fun _ h=>cd 1 ⟨1,rF sA [DS],1,false⟩ rfl (rfl) h) (ba ?_)
 refine cB (fun h6=>?_) (fun h6=>?_)
 ·refine OpG.mk _ _ _ 3 (bh bt (l:=[DS]) (a:=(⟨#[45]⟩:ByteArray)) Tryz.underlying121 sz9 zr9 by9 rfl rfl rfl (ce rfl rfl rfl rfl) rfl (aha rfl) (aha rfl) (by show 2≠TV;decide)) rfl rfl (OpG.mk _ _ _ 3 (a8 [(1000000,1)] Tw h3 rfl rfl rfl rfl ⟨sX bt,trivial⟩ ⟨av bt,trivial⟩ ⟨au bt _ _,trivial⟩ rfl rfl rfl rfl rfl rfl) rfl rfl ?_)
  refine RegG.via (fun _ h=>br [1] 3 (.tree 1 (([(⟨#[45]⟩:ByteArray),DS]:List ByteArray).map sA)) (bn bt (agy.2 rfl) rfl rfl) rfl h) (ba ?_)
  refine OpG.lk (LOp.call Nw rfl hb) (rV rfl rfl ?_)
  rw[ag2 ‹_›];rfl
 refine OpG.mk _ _ _ 2 (a8 [(1000000,1)] Tw h2 rfl rfl rfl rfl ⟨sX bt,trivial⟩ ⟨av bt,trivial⟩ ⟨au bt _ _,trivial⟩ rfl rfl rfl rfl rfl rfl) rfl rfl (RegG.via (fun _ h=>br [1] 3 (.tree 1 (([DS]:List ByteArray).map sA)) (bn bt (agy.2 rfl) rfl rfl) rfl h) ?_)
 refine ba (OpG.lk (LOp.call Nw rfl ha) ?_)
 refine rV rfl rfl ?_
 rw[ag1 (by simp_all)];rfl
theorem afm:PRet Tryz.prog 156 [.agg (bI 0)] (fun q=>q=.v (.string (Jp 0))):=by
 refine ovT [] [] Tryz.func156 rfl rfl (ArgG.mk (v7 (x:=0) ⟨by decide,by decide⟩) rfl ?_)
 rintro _ rfl
 refine LenG.of (cT ?_)
 exact rV rfl rfl rfl
set_option maxRecDepth 100000
theorem L4:acp:=by
 intro ss sep hl T w vals ⟨h4,hv⟩ hT
 have h0:=hv 0 (by simp) (by simp at h4;omega)
 have h1:=hv 1 (by simp) (by simp at h4;omega)
 have h6:=h1.v_inv
 simp only[List.getElem_cons_zero]at h0
 have h5:vals=#[vals[0]'(by simp at h4;omega),.string sep]:=by
  rw[<-h6]
  apply Array.ext
  ·simpa using h4.symm
  ·intro i hi ha
   have:i=0\/i=1:=by simp at ha;omega
   rcases this with rfl|rfl<;>rfl
 have give:∀w',Below w.heap.size w w'->R4 T w (.v (.string ⟨(Lib.join (ss.map (·.data.toList)) sep.data.toList).toArray⟩)) (.returned (.string ⟨(Lib.join (ss.map (·.data.toList)) sep.data.toList).toArray⟩)) w':=fun w' hb=>
  ⟨_,T,rfl,.v _,fun _ h=>h,fun _ h=>.inl h,fun b hb'=>Nat.lt_of_lt_of_le (hT b hb') hb.size,hb⟩
 rw[h5]
 generalize vals[0]'(by simp at h4;omega)=x0 at h0
 have h7:(ss.map sA).length=ss.length:=ag0 ..
 have h8:∀(j:Nat) (x:ByteArray),ss[j]? =some x->(ss.map sA)[j]? =some [AV.v (.string x)]:=fun j x h=>by rw[List.getElem?_map,h];rfl
 generalize ss.map sA=rows at h0 h7 h8
 cases h0 with
 |tree cell hb hc1 hc2 hc3 hc4 hd hf=>
  rename_i b off cap
  rw[h7]
  refine(Tryz.strings_Join b off cap ss sep w (fun j x hj=>?_) (hT _ hb) (by omega) (by omega) hl).mono ?_
  ·obtain⟨h9,he⟩:=ahn.1 (h8 j x hj)
   have h2:=hd j 0 h9 (by omega)
   have h3:=hf j h9 0 (by rw[he];simp)
   simp only[he,List.getElem_cons_zero]at h3
   rw[h3.v_inv]at h2
   simpa using h2
  ·rintro e w' ⟨rfl,hg⟩
   exact give w' hg
 |tree0 hc=>
  have hh:ss=[]:=ahm (by simpa using h7.symm)
  subst hh
  refine(Tryz.strings_Join_none _ _ sep w).mono ?_
  rintro e w' ⟨rfl,hw⟩
  subst hw
  exact give _ (Below.refl _ _)
theorem V8:Jl:=fun ss h=>L4 ss ⟨#[32]⟩ h
theorem aa2:∀c,aZ c<=FM->O3 c:=fun c h=>by
 by_cases h0:c=0
 ·subst h0;exact afm
 ·have h1:1<=aZ c:=by unfold aZ;split<;>omega
  have e:bgI c=BY (decide (c<0)) (aZ c):=by
   have e1:(bgI c).a_=[aZ c]:=by rw[ef,qd h1]
   have e2:(bgI c).b_=decide (c<0):=dw c
   rw[show bgI c=⟨(bgI c).b_,(bgI c).a_⟩from rfl,e1,e2]
  have:=fmtY L4 (decide (c<0)) (aZ c) _ h1 h rfl
  unfold O3
  show PRet _ _ [.agg (bgA (bgI c))] _
  rw[e]
  have e3:(aZ c).toNat=c.natAbs:=by rw[Oa];rfl
  rw[e3]at this
  have e4:(⟨((if decide (c<0)=true then[45]else[])++(dSt c.natAbs).data.toList).toArray⟩:ByteArray)=Jp c:=by
   unfold Jp Mq
   by_cases g:c<0
   ·rw[ag2 (decide_eq_true g),ag2 g];rfl
   ·rw[ag1 (by simp[g]),ag1 g];rfl
  rwa [e4]at this
def upF(v:Nat)(l:List ItS):List ItS:=l.filter fun x=>decide (sgZ (x.g.getD v 0)=1)
def loF(v:Nat)(l:List ItS):List ItS:=l.filter fun x=>decide (sgZ (x.g.getD v 0)=-1)
structure KSd where
 k:Nat
 U:List ItS
 W:List ItS
theorem Jx{v:Nat}{l:List ItS}{k:Nat}(h:k<l.length):upF v (l.take (k+1))=upF v (l.take k)++if sgZ (l[k].g.getD v 0)=1 then[l[k]]else[]:=by
 unfold upF;rw[ag5 h,List.filter_append];congr 1
 by_cases g:sgZ (l[k].g.getD v 0)=1
 ·rw[ag2 g,List.filter_cons,ag2 (decide_eq_true g)];rfl
 rw[ag1 g,List.filter_cons,ag1 (by simpa using g)];rfl
theorem L0{v:Nat}{l:List ItS}{k:Nat}(h:k<l.length):loF v (l.take (k+1))=loF v (l.take k)++if sgZ (l[k].g.getD v 0)=-1 then[l[k]]else[]:=by
 unfold loF;rw[ag5 h,List.filter_append];congr 1
 by_cases g:sgZ (l[k].g.getD v 0)=-1
 ·rw[ag2 g,List.filter_cons,ag2 (decide_eq_true g)];rfl
 rw[ag1 g,List.filter_cons,ag1 (by simpa using g)];rfl
theorem Du{v:Nat}{l:List ItS}:(upF v l).length<=l.length:=List.length_filter_le _ _
theorem L1{v:Nat}{l:List ItS}:(loF v l).length<=l.length:=List.length_filter_le _ _
theorem Uv(s:OSt)(v:Nat)(ho:OOk s)(hv:v<s.n)(hl:s.I.length<=1000000):o7 Tryz.prog 129 [.ptr 1000000 0 0,.v (.int .i64 ((v:Nat):Int))] [(1000000,sB s),(1000001,s1 s),(1000002,s2 s),(1000003,s3 s),(1000004,s4 s),(1000005,s5 s),(1000006,s6 s),(1000007,s7 s)] [(1000000,some (sB s)),(1000001,some (s1 s)),(1000002,some (s2 s)),(1000003,some (s3 s)),(1000004,some (s4 s)),(1000005,some (s5 s)),(1000006,some (s6 s)),(1000007,some (s7 s))] (fun q=>q=.tup [.tree 2 ((upF v s.I).map itA),.tree 2 ((loF v s.I).map itA)]):=by
 refine o7.of_vc ik [12,15,16] [10] Tryz.func129 rfl Tryz.ntmps129 rfl (by kernel_rfl) (OpG.lk (bo rfl Tryz.underlying198 rfl rfl rfl) ?_)
 refine LpG.via (fun _ h=>ic 4 2 rfl 1 rfl h) (LpG.via (fun _ h=>ic 5 2 rfl 2 rfl h) ?_)
 refine LpG.on (fun k0:KSd=>(⟨fL [(1,.v (.int .i64 ((v:Nat):Int))),(4,.sl 0 k0.U.length 0 k0.U.length),(5,.sl 1 k0.W.length 0 k0.W.length),(11,.sl 1000006 s.vI 0 s.I.length),(12,.v (.int .i64 ((s.I.length:Nat):Int))),(13,.v (.int .i64 ((k0.k:Nat):Int)))],hLz [(0,⟨k0.U.length,rF itA k0.U,2,Nat.beq k0.U.length 0⟩),(1,⟨k0.W.length,rF itA k0.W,2,Nat.beq k0.W.length 0⟩),(1000000,sB s),(1000001,s1 s),(1000002,s2 s),(1000003,s3 s),(1000004,s4 s),(1000005,s5 s),(1000006,s6 s),(1000007,s7 s)],2⟩:St)) (fun k0=>(s.I.length-k0.k)) (fun k0=>(k0.k<=s.I.length/\(k0.U=upF v (s.I.take k0.k)/\k0.W=loF v (s.I.take k0.k)))) (⟨0,[],[]⟩:KSd) (cO (.cons rfl rfl (.cons (by rfl) rfl (.cons (by rfl) rfl (.cons rfl rfl (.cons rfl rfl (.cons rfl rfl .nil)))))) (.cons (by rfl) rfl (aa ae _ _) (.cons (by rfl) rfl (aa ae _ _) (.cons rfl rfl rfl (.cons rfl rfl (aa ag _ _) (.cons rfl rfl (aa ai _ _) (.cons rfl rfl (aa ah _ _) (.cons rfl rfl (aa ao _ _) (.cons rfl rfl (aa ab _ _) (.cons rfl rfl (aa ae _ _) (.cons rfl rfl (aa aj _ _) .nil))))))))))) ⟨ag6 _,⟨rfl,rfl⟩⟩ ?_
 rintro k0 h8
 obtain⟨hle_k0,h0⟩:=h8
 refine cL (fun h1=>?_) (fun hge14=>?_)
 ·have hb:=ho.I _ (agt h1)
  have h4:v<s.I[k0.k].g.length:=by rw[hb.2.1];exact hv
  have h6:s.I[k0.k].g.getD v 0=(s.I[k0.k].g[v]'h4):=by simp[List.getD,h4]
  have hlU:k0.U.length<=1000000:=by rw[h0.1];exact ahb Du (by simp;omega)
  have hlW:k0.W.length<=1000000:=by rw[h0.2];exact ahb L1 (by simp;omega)
  refine OpG.lk (bl (k:=k0.k) ae Tryz.underlying198 lg rfl rfl rfl h1 rfl h1) (OpG.lk (fu ae lp rfl rfl h1) ?_)
  refine IdxG.of ‹_› (ArgG.mk (lh (x:=(s.I[k0.k].g[v]'h4)) (hb.1 _ (agt _))) rfl ?_)
  rintro _ rfl
  refine cB (fun h2=>?_) (fun h2=>?_)
  ·have h9:((sgZ (s.I[k0.k].g[v]'h4)):Int)=(1:Int):=by simpa using h2
   have h7:sgZ (s.I[k0.k].g.getD v 0)=1:=by rw[h6];simpa using h2
   have h5:¬sgZ (s.I[k0.k].g.getD v 0)=-1:=by omega
   refine OpG.mk _ _ _ 4 (bh ae (a:=s.I[k0.k]) Tryz.underlying198 lg Ua W8 rfl rfl rfl (ce rfl rfl rfl rfl) rfl (by omega) (by omega) (by unfold TV;omega)) rfl rfl ⟨by omega,⟨(⟨k0.k+1,k0.U++[s.I[k0.k]],k0.W⟩:KSd),(by show s.I.length-(k0.k+1)<s.I.length-k0.k;omega),(cO (.cons rfl rfl (.cons (by(rw[agx];rfl)) rfl (.cons (by rfl) rfl (.cons rfl rfl (.cons rfl rfl (.cons rfl rfl .nil)))))) (.cons (by(rw[agx];rfl)) rfl (aa ae _ _) (.cons (by rfl) rfl (aa ae _ _) (.cons rfl rfl rfl (.cons rfl rfl (aa ag _ _) (.cons rfl rfl (aa ai _ _) (.cons rfl rfl (aa ah _ _) (.cons rfl rfl (aa ao _ _) (.cons rfl rfl (aa ab _ _) (.cons rfl rfl (aa ae _ _) (.cons rfl rfl (aa aj _ _) .nil))))))))))),?_⟩⟩
   refine⟨by show k0.k+1<=_;omega,⟨?_,?_⟩⟩
   ·show _=upF v (s.I.take (k0.k+1));rw[Jx h1,<-h0.1];(rw[ag2 h7];done)
   show _=loF v (s.I.take (k0.k+1));rw[L0 h1,<-h0.2];(rw[ag1 h5,List.append_nil];done)
  have h9:¬(((sgZ (s.I[k0.k].g[v]'h4)):Int)=(1:Int)):=by simpa using h2
  have h7:¬sgZ (s.I[k0.k].g.getD v 0)=1:=by rw[h6];simpa using h2
  refine cB (fun h3=>?_) (fun h3=>?_)
  ·have ha:((sgZ (s.I[k0.k].g[v]'h4)):Int)=((-1):Int):=by simpa using h3
   have h5:sgZ (s.I[k0.k].g.getD v 0)=-1:=by rw[h6];simpa using h3
   refine OpG.mk _ _ _ 4 (bh ae (a:=s.I[k0.k]) Tryz.underlying198 lg Ua W8 rfl rfl rfl (ce rfl rfl rfl rfl) rfl (by omega) (by omega) (by unfold TV;omega)) rfl rfl ⟨by omega,⟨(⟨k0.k+1,k0.U,k0.W++[s.I[k0.k]]⟩:KSd),(by show s.I.length-(k0.k+1)<s.I.length-k0.k;omega),(cO (.cons rfl rfl (.cons (by rfl) rfl (.cons (by(rw[agx];rfl)) rfl (.cons rfl rfl (.cons rfl rfl (.cons rfl rfl .nil)))))) (.cons (by rfl) rfl (aa ae _ _) (.cons (by(rw[agx];rfl)) rfl (aa ae _ _) (.cons rfl rfl rfl (.cons rfl rfl (aa ag _ _) (.cons rfl rfl (aa ai _ _) (.cons rfl rfl (aa ah _ _) (.cons rfl rfl (aa ao _ _) (.cons rfl rfl (aa ab _ _) (.cons rfl rfl (aa ae _ _) (.cons rfl rfl (aa aj _ _) .nil))))))))))),?_⟩⟩
   refine⟨by show k0.k+1<=_;omega,⟨?_,?_⟩⟩
   ·show _=upF v (s.I.take (k0.k+1));rw[Jx h1,<-h0.1];(rw[ag1 h7,List.append_nil];done)
   show _=loF v (s.I.take (k0.k+1));rw[L0 h1,<-h0.2];(rw[ag2 h5];done)
  have ha:¬(((sgZ (s.I[k0.k].g[v]'h4)):Int)=((-1):Int)):=by simpa using h3
  have h5:¬sgZ (s.I[k0.k].g.getD v 0)=-1:=by rw[h6];simpa using h3
  refine⟨by omega,⟨(⟨k0.k+1,k0.U,k0.W⟩:KSd),(by show s.I.length-(k0.k+1)<s.I.length-k0.k;omega),(cO (.cons rfl rfl (.cons (by rfl) rfl (.cons (by rfl) rfl (.cons rfl rfl (.cons rfl rfl (.cons rfl rfl .nil)))))) (.cons (by rfl) rfl (aa ae _ _) (.cons (by rfl) rfl (aa ae _ _) (.cons rfl rfl rfl (.cons rfl rfl (aa ag _ _) (.cons rfl rfl (aa ai _ _) (.cons rfl rfl (aa ah _ _) (.cons rfl rfl (aa ao _ _) (.cons rfl rfl (aa ab _ _) (.cons rfl rfl (aa ae _ _) (.cons rfl rfl (aa aj _ _) .nil))))))))))),?_⟩⟩
  refine⟨by show k0.k+1<=_;omega,⟨?_,?_⟩⟩
  ·show _=upF v (s.I.take (k0.k+1));rw[Jx h1,<-h0.1];(rw[ag1 h7,List.append_nil];done)
  show _=loF v (s.I.take (k0.k+1));rw[L0 h1,<-h0.2];(rw[ag1 h5,List.append_nil];done)
 have hU:k0.U=upF v s.I:=by rw[h0.1,ahl (by omega)]
 have hW:k0.W=loF v s.I:=by rw[h0.2,ahl (by omega)]
 refine RegG.via (fun _ h=>br [0] 4 (.tree 2 (k0.U.map itA)) (FzP.rows ae (agy.2 rfl) rfl) rfl h) (RegG.via (fun _ h=>br [1] 5 (.tree 2 (k0.W.map itA)) (FzP.rows ae (agy.2 rfl) rfl) rfl h) ?_)
 refine ba ⟨.inr rfl,_,Fg.of [] (aw rfl (.cons (acn.tmp rfl) (.cons (acn.tmp rfl) .nil))) rfl ⟨.same rfl (by decide),.same rfl (by decide),.same rfl (by decide),.same rfl (by decide),.same rfl (by decide),.same rfl (by decide),.same rfl (by decide),.same rfl (by decide),trivial⟩ .same,?_⟩
 rw[hU,hW];rfl
theorem sgZ_gt{x:Int}:sgZ x>0↔x>0:=by unfold sgZ;split<;>(try split)<;>omega
def mxF(v:Nat):List ItS->Int->Int
 |[],a=>a
 |x::r,a=>mxF v r (if x.g.getD v 0-a>0 then x.g.getD v 0 else a)
def adu(v:Nat)(low:ItS)(ups:List ItS)(a b:Int):Option Int:=if B1 (a*b)/\B1 (a*b-a)/\B1 (a*b-a-b)/\a≠0 then some (flD (a*b-a-b) a)else none
def acz(v:Nat)(low:ItS)(ups:List ItS):Option Int:=match ups with
 |[]=>none
 |x::r=>adu v low ups (mxF v (x::r) (x.g.getD v 0)) (-(low.g.getD v 0))
structure KMx where
 k:Nat
 a:Int
theorem aex{v k:Nat}{l:List ItS}{a A:Int}(h:k<l.length)(e:mxF v (l.drop k) a=A):mxF v (l.drop (k+1)) (if l[k].g.getD v 0-a>0 then l[k].g.getD v 0 else a)=A:=by
 rw[aho h]at e;exact e
theorem aey{v k:Nat}{l:List ItS}{a A:Int}(h:¬k<l.length)(e:mxF v (l.drop k) a=A):a=A:=by
 rw[List.drop_eq_nil_of_le (by omega)]at e;exact e
theorem Wg{l:List Int}{v:Nat}(h:v<l.length):l.getD v 0=l[v]:=by simp[List.getD,h]
theorem Uu(v:Nat)(low:ItS)(ups:List ItS)(k:Int)(hll:ups.length<=1000000)(hU:∀x∈ups,BL x.g/\v<x.g.length)(hL:BL low.g)(hv:v<low.g.length)(hs:acz v low ups=some k):PRet Tryz.prog 132 [.v (.int .i64 ((v:Nat):Int)),.agg (itA low),.tree 2 (ups.map itA)] (fun q=>q=.agg (bI k)):=by
 obtain⟨h0,A,hA,h9,ha,hb,hf,rfl⟩:∃h0:0<ups.length,∃A,mxF v ups (ups[0].g.getD v 0)=A/\B1 (A* -low.g[v])/\B1 (A* -low.g[v]-A)/\B1 (A* -low.g[v]-A- -low.g[v])/\A≠0/\flD (A* -low.g[v]-A- -low.g[v]) A=k:=by
  cases ups with
  |nil=>cases hs
  |cons x r=>
   refine⟨Nat.zero_lt_succ _,mxF v (x::r) (x.g.getD v 0),rfl,?_⟩
   have hs:adu v low (x::r) (mxF v (x::r) (x.g.getD v 0)) (-(low.g.getD v 0))=some k:=hs
   rw[Wg hv]at hs
   unfold adu at hs
   split at hs
   ·next g=>exact⟨g.1,g.2.1,g.2.2.1,g.2.2.2,Option.some.inj hs⟩
   ·cases hs
 have hc:=(hU _ (agt h0)).2
 rw[Wg hc]at hA
 have hd:B1 (-low.g[v]):=by have:=hL _ (agt hv);omega
 refine ovT [15] [] Tryz.func132 rfl rfl (OpG.lk (cn Tryz.underlying198 lg rfl rfl rfl h0) ?_)
 refine IdxG.of ‹_› (LenG.of ?_)
 refine LpG.on (fun k0:KMx=>(⟨fL [(0,.v (.int .i64 ((v:Nat):Int))),(4,.ptr 0 0 0),(6,.ptr 1 0 0),(7,.ptr 2 0 0),(21,.tree 2 (ups.map itA)),(22,.v (.int .i64 ((ups.length:Nat):Int))),(23,.v (.int .i64 ((k0.k:Nat):Int)))],hLz [(0,⟨0,itA low,0,false⟩),(1,⟨0,[.v (.bool false),.v (.slice none 0 0)],0,false⟩),(2,⟨0,bI k0.a,0,false⟩)],3⟩:St)) (fun k0=>(ups.length-k0.k)) (fun k0=>(k0.k<=ups.length/\(mxF v (ups.drop k0.k) k0.a=A/\B1 k0.a))) (⟨0,(ups[0].g[v]'hc)⟩:KMx) (cO (.cons rfl rfl (.cons rfl rfl (.cons rfl rfl (.cons rfl rfl (.cons rfl rfl (.cons rfl rfl (.cons rfl rfl .nil))))))) (.cons rfl rfl rfl (.cons rfl rfl rfl (.cons rfl rfl rfl .nil)))) ⟨ag6 _,⟨hA,((hU _ (agt h0)).1 _ (agt _))⟩⟩ ?_
 rintro k0 h6
 obtain⟨hle_k0,h1⟩:=h6
 refine cL (fun h2=>?_) (fun h4=>?_)
 ·have h7:=(hU _ (agt h2)).2
  have h5:=aex h2 h1.1
  rw[Wg h7]at h5
  refine IdxG.of ‹_› (IdxG.of ‹_› ?_)
  refine ArgG.mk (l9 (x:=(ups[k0.k].g[v]'h7)) (y:=k0.a) ((hU _ (agt h2)).1 _ (agt _)) h1.2) rfl ?_
  rintro _ rfl
  refine⟨by kernel_rfl,cD (fun h3=>?_) (fun h3=>?_)⟩
  ·rw[ag2 (sgZ_gt.1 h3)]at h5 -- y
   refine IdxG.of ‹_› ⟨by omega,⟨(⟨k0.k+1,(ups[k0.k].g[v]'h7)⟩:KMx),(by show ups.length-(k0.k+1)<ups.length-k0.k;omega),(cO (.cons rfl rfl (.cons rfl rfl (.cons rfl rfl (.cons rfl rfl (.cons rfl rfl (.cons rfl rfl (.cons rfl rfl .nil))))))) (.cons rfl rfl rfl (.cons rfl rfl rfl (.cons rfl rfl rfl .nil)))),?_⟩⟩
   exact⟨by show k0.k+1<=_;omega,⟨h5,((hU _ (agt h2)).1 _ (agt _))⟩⟩
  rw[ag1 (fun h=>h3 (sgZ_gt.2 h))]at h5
  refine⟨by omega,⟨(⟨k0.k+1,k0.a⟩:KMx),(by show ups.length-(k0.k+1)<ups.length-k0.k;omega),(cO (.cons rfl rfl (.cons rfl rfl (.cons rfl rfl (.cons rfl rfl (.cons rfl rfl (.cons rfl rfl (.cons rfl rfl .nil))))))) (.cons rfl rfl rfl (.cons rfl rfl rfl (.cons rfl rfl rfl .nil)))),?_⟩⟩
  exact⟨by show k0.k+1<=_;omega,⟨h5,h1.2⟩⟩
 have he:=aey h4 h1.1
 have h8:B1 A:=he▸h1.2
 rw[he]
 refine IdxG.of ‹_› (ArgG.mk (v8 (x:=low.g[v]) (hL _ (agt _))) rfl ?_)
 rintro _ rfl
 refine ArgG.mk (wa (x:=A) (y:=-low.g[v]) h8 hd h9) rfl ?_
 rintro _ rfl
 refine ArgG.mk (J7 (x:=(A* -low.g[v])) (y:=A) h9 h8 ha) rfl ?_
 rintro _ rfl
 refine ArgG.mk (J7 (x:=((A* -low.g[v])-A)) (y:=(-low.g[v])) ha hd hb) rfl ?_
 rintro _ rfl
 refine ArgG.mk (pm (x:=(((A* -low.g[v])-A)- -low.g[v])) (y:=A) hb h8 hf) rfl ?_
 rintro _ rfl
 refine⟨by kernel_rfl,⟨.inr rfl,_,Og.cell rfl fe rfl rfl rfl rfl rfl ⟨[],FzP.pure rfl⟩,?_⟩⟩
 rfl
theorem ado{fp:List Nat}{η:bf}{cs ds:List AV}(h:FzPL fp η cs ds):FzP fp η (.tup cs) (.tup ds):=FzP.tup h.at.1 h.at.2
def K1(v:Nat)(U:List ItS):List ItS->Int->Option Int
 |[],c=>some c
 |x::r,c=>match acz v x U with
  |none=>none
  |some k=>if B1 k then(if sgZ k≥0 then(if B1 (k+1000)/\B1 (c*(k+1000))then K1 v U r (c*(k+1000))else none)else K1 v U r c)else none
def Vb(s:OSt)(v:Nat):Option (Int×Bool):=
 if(upF v s.I).length+(loF v s.I).length=0 then some (0,false)
 else if(upF v s.I).length=0\/(loF v s.I).length=0 then some (0,true)
 else if B1 (((upF v s.I).length:Int)*((loF v s.I).length:Int))then(match K1 v (upF v s.I) (loF v s.I) (((upF v s.I).length:Int)*((loF v s.I).length:Int))with
  |none=>none
  |some c=>some (c,true))
 else none
theorem Zm{v k:Nat}{U l:List ItS}{c:Int}{R:Int}(h:k<l.length)(e:K1 v U (l.drop k) c=some R):∃q,acz v l[k] U=some q/\B1 q/\((sgZ q≥0/\B1 (q+1000)/\B1 (c*(q+1000))/\K1 v U (l.drop (k+1)) (c*(q+1000))=some R)\/(¬sgZ q≥0/\K1 v U (l.drop (k+1)) c=some R)):=by
 rw[aho h]at e
 unfold K1 at e
 cases hq:acz v l[k] U with
 |none=>rw[hq]at e;cases e
 |some q=>
  rw[hq]at e;simp only at e
  split at e
  ·next b=>
   split at e
   ·next g=>
    split at e
    ·next b2=>exact⟨q,rfl,b,.inl ⟨g,b2.1,b2.2,e⟩⟩
    ·cases e
   ·next g=>exact⟨q,rfl,b,.inr ⟨g,e⟩⟩
  ·cases e
theorem Zn{v k:Nat}{U l:List ItS}{c R:Int}(h:¬k<l.length)(e:K1 v U (l.drop k) c=some R):c=R:=by
 rw[List.drop_eq_nil_of_le (by omega)]at e;exact Option.some.inj e
theorem Yn{v:Nat}{l:List ItS}{x:ItS}(h:x∈upF v l):x∈l:=(List.mem_filter.1 h).1
theorem S8{v:Nat}{l:List ItS}{x:ItS}(h:x∈loF v l):x∈l:=(List.mem_filter.1 h).1
theorem ab5:bv Tryz.prog 129=true:=by kernel_rfl
theorem Va(s:OSt)(v:Nat)(R:Int×Bool)(ho:OOk s)(hv:v<s.n)(hl:s.I.length<=1000000)(h:Vb s v=some R):o7 Tryz.prog 125 [.ptr 1000000 0 0,.v (.int .i64 ((v:Nat):Int))] [(1000000,sB s),(1000001,s1 s),(1000002,s2 s),(1000003,s3 s),(1000004,s4 s),(1000005,s5 s),(1000006,s6 s),(1000007,s7 s)] [(1000000,some (sB s)),(1000001,some (s1 s)),(1000002,some (s2 s)),(1000003,some (s3 s)),(1000004,some (s4 s)),(1000005,some (s5 s)),(1000006,some (s6 s)),(1000007,some (s7 s))] (fun q=>q=.tup [.agg (bI R.1),.v (.bool R.2)]):=by
 obtain⟨_,rfl,hg⟩:=Uv s v ho hv hl
 have h7:∀x∈s.I,BL x.g/\v<x.g.length:=fun x hx=>⟨(ho.I x hx).1,by rw[(ho.I x hx).2.1];exact hv⟩
 have hlU:=ahb (@Du v s.I) hl
 have hlW:=ahb (@L1 v s.I) hl
 have hfU:fy (upF v s.I) (fun _=>True):=⟨by omega,fun _ _=>trivial⟩
 unfold Vb at h
 refine o7.of_vc ik [15,38] [] Tryz.func125 rfl Tryz.ntmps125 rfl (by kernel_rfl) (OpG.lk (cw (a8 [(1000000,1000000),(1000001,1000001),(1000002,1000002),(1000003,1000003),(1000004,1000004),(1000005,1000005),(1000006,1000006),(1000007,1000007)] ab5 hg rfl rfl rfl rfl ⟨rfl,sX ag,sX ai,sX ah,sX ao,sX ab,sX ae,sX aj,trivial⟩ ⟨⟨rfl,.inl rfl⟩,av ag,av ai,av ah,av ao,av ab,av ae,av aj,trivial⟩ ⟨rfl,au ag _ _,au ai _ _,au ah _ _,au ao _ _,au ab _ _,au ae _ _,au aj _ _,trivial⟩ rfl rfl rfl rfl rr rfl) ⟨⟨.head _,rfl,rfl⟩,⟨.tail _ (.head _),rfl,rfl⟩,⟨.tail _ (.tail _ (.head _)),rfl,rfl⟩,⟨.tail _ (.tail _ (.tail _ (.head _))),rfl,rfl⟩,⟨.tail _ (.tail _ (.tail _ (.tail _ (.head _)))),rfl,rfl⟩,⟨.tail _ (.tail _ (.tail _ (.tail _ (.tail _ (.head _))))),rfl,rfl⟩,⟨.tail _ (.tail _ (.tail _ (.tail _ (.tail _ (.tail _ (.head _)))))),rfl,rfl⟩,⟨.tail _ (.tail _ (.tail _ (.tail _ (.tail _ (.tail _ (.tail _ (.head _))))))),rfl,rfl⟩,trivial⟩) ?_)
 refine LenG.of (LenG.of ?_)
 refine⟨by omega,cB (fun h3=>?_) (fun h3=>?_)⟩
 ·have hz:(upF v s.I).length+(loF v s.I).length=0:=by simp at h3;omega
  rw[ag2 hz]at h
  cases h
  refine⟨.inr rfl,_,Fg.of [] (aw rfl (.cons (acn.cellN fe rfl rfl trivial rfl rfl rfl) (.cons (acn.tmp rfl) .nil))) rfl ⟨.same rfl (by decide),.same rfl (by decide),.same rfl (by decide),.same rfl (by decide),.same rfl (by decide),.same rfl (by decide),.same rfl (by decide),.same rfl (by decide),trivial⟩ (.fz (ado (.cons (ky (.cons (.pure rfl) (.cons (FzP.nil (n:=1)) .nil))) (.cons (.pure rfl) .nil)))),?_⟩
  rfl
 have hz:¬(upF v s.I).length+(loF v s.I).length=0:=by simp at h3;omega
 rw[ag1 hz]at h
 refine LenG.of (cE (fun h8=>?_) (fun h8=>?_))
 ·rw[ag2 (.inl (by omega))]at h
  cases h
  refine cT ⟨.inr rfl,_,Fg.of [] (aw rfl (.cons (acn.cellN fe rfl rfl trivial rfl rfl rfl) (.cons (acn.tmp rfl) .nil))) rfl ⟨.same rfl (by decide),.same rfl (by decide),.same rfl (by decide),.same rfl (by decide),.same rfl (by decide),.same rfl (by decide),.same rfl (by decide),.same rfl (by decide),trivial⟩ (.fz (ado (.cons (ky (.cons (.pure rfl) (.cons (FzP.nil (n:=1)) .nil))) (.cons (.pure rfl) .nil)))),?_⟩
  rfl
 refine LenG.of (cE (fun h9=>?_) (fun h9=>?_))
 ·rw[ag2 (.inr (by omega))]at h
  cases h
  refine⟨.inr rfl,_,Fg.of [] (aw rfl (.cons (acn.cellN fe rfl rfl trivial rfl rfl rfl) (.cons (acn.tmp rfl) .nil))) rfl ⟨.same rfl (by decide),.same rfl (by decide),.same rfl (by decide),.same rfl (by decide),.same rfl (by decide),.same rfl (by decide),.same rfl (by decide),.same rfl (by decide),trivial⟩ (.fz (ado (.cons (ky (.cons (.pure rfl) (.cons (FzP.nil (n:=1)) .nil))) (.cons (.pure rfl) .nil)))),?_⟩
  rfl
 rw[ag1 (by omega)]at h
 obtain⟨h6,c,hh,hR⟩:B1 ((((upF v s.I).length:Nat):Int)*(((loF v s.I).length:Nat):Int))/\∃c,K1 v (upF v s.I) (loF v s.I) ((((upF v s.I).length:Nat):Int)*(((loF v s.I).length:Nat):Int))=some c/\(c,true)=R:=by
  split at h
  ·next g=>
   cases e:K1 v (upF v s.I) (loF v s.I) ((((upF v s.I).length:Nat):Int)*(((loF v s.I).length:Nat):Int))with
   |none=>rw[e]at h;cases h
   |some c=>rw[e]at h;exact⟨g,c,rfl,Option.some.inj h⟩
  ·cases h
 refine LenG.of (LenG.of ?_)
 refine OpG.lk (Hy (r:=((((upF v s.I).length:Nat):Int)*(((loF v s.I).length:Nat):Int))) rfl rfl (by rw[IntKind.wrap_i64];have:=h6.1;have:=h6.2;omega)) (ArgG.mk (nq (n:=((((upF v s.I).length:Nat):Int)*(((loF v s.I).length:Nat):Int))) h6) rfl ?_)
 rintro _ rfl
 refine LenG.of (LpG.on (fun k0:KMx=>(⟨fL [(1,.v (.int .i64 ((v:Nat):Int))),(4,.ptr 0 0 0),(6,.tree 2 (((upF v s.I)).map itA)),(8,.ptr 1 0 0),(40,.tree 2 (((loF v s.I)).map itA)),(41,.v (.int .i64 (((loF v s.I).length:Nat):Int))),(42,.v (.int .i64 ((k0.k:Nat):Int)))],hLz [(0,⟨0,[.v (.bool false),.v (.slice none 0 0)],0,false⟩),(1,⟨0,bI k0.a,0,false⟩),(1000000,sB s),(1000001,s1 s),(1000002,s2 s),(1000003,s3 s),(1000004,s4 s),(1000005,s5 s),(1000006,s6 s),(1000007,s7 s)],2⟩:St)) (fun k0=>((loF v s.I).length-k0.k)) (fun k0=>(k0.k<=(loF v s.I).length/\(K1 v (upF v s.I) ((loF v s.I).drop k0.k) k0.a=some c/\B1 k0.a))) (⟨0,((((upF v s.I).length:Nat):Int)*(((loF v s.I).length:Nat):Int))⟩:KMx) (cO (.cons rfl rfl (.cons rfl rfl (.cons rfl rfl (.cons rfl rfl (.cons rfl rfl (.cons rfl rfl (.cons rfl rfl .nil))))))) (.cons rfl rfl rfl (.cons rfl rfl rfl (.cons rfl rfl rfl (.cons rfl rfl (aa ag _ _) (.cons rfl rfl (aa ai _ _) (.cons rfl rfl (aa ah _ _) (.cons rfl rfl (aa ao _ _) (.cons rfl rfl (aa ab _ _) (.cons rfl rfl (aa ae _ _) (.cons rfl rfl (aa aj _ _) .nil))))))))))) ⟨ag6 _,⟨hh,h6⟩⟩ ?_)
 rintro k0 ha
 obtain⟨hle_k0,h1⟩:=ha
 refine cL (fun h2=>?_) (fun h5=>?_)
 ·obtain⟨q,hi,hc,hd⟩:=Zm h2 h1.1
  refine IdxG.of ‹_› (ArgG.mk (Uu v (loF v s.I)[k0.k] (upF v s.I) q (ahb Du hl) (fun x hx=>h7 x (Yn hx)) (h7 _ (S8 (agt h2))).1 (h7 _ (S8 (agt h2))).2 hi) rfl ?_)
  rintro _ rfl
  refine ArgG.mk (lh (x:=q) hc) rfl ?_
  rintro _ rfl
  refine cD (fun h4=>?_) (fun h4=>?_)
  ·obtain⟨_,he,hf,hb⟩:=hd.resolve_right (fun k=>k.1 h4)
   refine ArgG.mk (nq (n:=1000) ⟨by decide,by decide⟩) rfl ?_
   rintro _ rfl
   refine ArgG.mk (ww (x:=q) (y:=1000) hc ⟨by decide,by decide⟩ he) rfl ?_
   rintro _ rfl
   refine ArgG.mk (wa (x:=k0.a) (y:=(q+1000)) h1.2 he hf) rfl ?_
   rintro _ rfl
   refine⟨by kernel_rfl,⟨by omega,?_⟩⟩
   refine⟨(⟨k0.k+1,k0.a*(q+1000)⟩:KMx),(by show(loF v s.I).length-(k0.k+1)<(loF v s.I).length-k0.k;omega),(cO (.cons rfl rfl (.cons rfl rfl (.cons rfl rfl (.cons rfl rfl (.cons rfl rfl (.cons rfl rfl (.cons rfl rfl .nil))))))) (.cons rfl rfl rfl (.cons rfl rfl rfl (.cons rfl rfl rfl (.cons rfl rfl (aa ag _ _) (.cons rfl rfl (aa ai _ _) (.cons rfl rfl (aa ah _ _) (.cons rfl rfl (aa ao _ _) (.cons rfl rfl (aa ab _ _) (.cons rfl rfl (aa ae _ _) (.cons rfl rfl (aa aj _ _) .nil))))))))))),⟨by show k0.k+1<=_;omega,?_⟩⟩
   exact⟨hb,hf⟩
  have hb:=(hd.resolve_left (fun k=>h4 k.1)).2
  refine⟨by omega,⟨(⟨k0.k+1,k0.a⟩:KMx),(by show(loF v s.I).length-(k0.k+1)<(loF v s.I).length-k0.k;omega),(cO (.cons rfl rfl (.cons rfl rfl (.cons rfl rfl (.cons rfl rfl (.cons rfl rfl (.cons rfl rfl (.cons rfl rfl .nil))))))) (.cons rfl rfl rfl (.cons rfl rfl rfl (.cons rfl rfl rfl (.cons rfl rfl (aa ag _ _) (.cons rfl rfl (aa ai _ _) (.cons rfl rfl (aa ah _ _) (.cons rfl rfl (aa ao _ _) (.cons rfl rfl (aa ab _ _) (.cons rfl rfl (aa ae _ _) (.cons rfl rfl (aa aj _ _) .nil))))))))))),?_⟩⟩
  exact⟨by show k0.k+1<=_;omega,⟨hb,h1.2⟩⟩
 have hj:=Zn h5 h1.1
 rw[hj]
 subst hR
 refine⟨.inr rfl,_,Fg.of [] (aw rfl (.cons (acn.cellN fe rfl rfl trivial rfl rfl rfl) (.cons (acn.tmp rfl) .nil))) rfl ⟨.same rfl (by decide),.same rfl (by decide),.same rfl (by decide),.same rfl (by decide),.same rfl (by decide),.same rfl (by decide),.same rfl (by decide),.same rfl (by decide),trivial⟩ .same,?_⟩
 rfl
structure KCh where
 k:Nat
 b:Nat
 c:Int
 f:Bool
def I0(s:OSt):Nat->Nat->Nat->Int->Bool->Option (Nat×Bool)
 |0,_,b,_,f=>some (b,f)
 |m+1,k,b,c,f=>if s.T.getD k 0≠0 then I0 s m (k+1) b c f else match Vb s k with
  |none=>none
  |some (p,ok)=>if B1 p then(if ok=true/\(f=false\/sgZ (p-c)<0)then I0 s m (k+1) k p true else I0 s m (k+1) b c f)else none
def ac9(s:OSt):Option (Nat×Bool):=I0 s (s.n-0) 0 0 0 false
theorem abw{s:OSt}{k b:Nat}{c:Int}{f:Bool}{R:Nat×Bool}(h:k<s.n)(e:I0 s (s.n-k) k b c f=some R):(s.T.getD k 0≠0/\I0 s (s.n-(k+1)) (k+1) b c f=some R)\/(s.T.getD k 0=0/\∃p ok,Vb s k=some (p,ok)/\B1 p/\(((ok=true/\(f=false\/sgZ (p-c)<0))/\I0 s (s.n-(k+1)) (k+1) k p true=some R)\/(¬(ok=true/\(f=false\/sgZ (p-c)<0))/\I0 s (s.n-(k+1)) (k+1) b c f=some R))):=by
 rw[show s.n-k=(s.n-(k+1))+1 by omega]at e
 unfold I0 at e
 split at e
 ·next g=>exact .inl ⟨g,e⟩
 next g=>
 refine .inr ⟨by omega,?_⟩
 cases hp:Vb s k with
 |none=>rw[hp]at e;cases e
 |some q=>
  obtain⟨p,ok⟩:=q
  rw[hp]at e;simp only at e
  split at e
  ·next b1=>
   split at e
   ·next g2=>exact⟨p,ok,rfl,b1,.inl ⟨g2,e⟩⟩
   ·next g2=>exact⟨p,ok,rfl,b1,.inr ⟨g2,e⟩⟩
  ·cases e
theorem abx{s:OSt}{k b:Nat}{c:Int}{f:Bool}{R:Nat×Bool}(h:¬k<s.n)(e:I0 s (s.n-k) k b c f=some R):(b,f)=R:=by
 rw[show s.n-k=0 by omega]at e;exact Option.some.inj e
theorem ab7:bv Tryz.prog 125=true:=by kernel_rfl
theorem Q7(s:OSt)(R:Nat×Bool)(ho:OOk s)(hl:s.I.length<=1000000)(h:ac9 s=some R):o7 Tryz.prog 100 [.ptr 1000000 0 0] [(1000000,sB s),(1000001,s1 s),(1000002,s2 s),(1000003,s3 s),(1000004,s4 s),(1000005,s5 s),(1000006,s6 s),(1000007,s7 s)] [(1000000,some (sB s)),(1000001,some (s1 s)),(1000002,some (s2 s)),(1000003,some (s3 s)),(1000004,some (s4 s)),(1000005,some (s5 s)),(1000006,some (s6 s)),(1000007,some (s7 s))] (fun q=>q=.tup [.v (.int .i64 ((R.1:Nat):Int)),.v (.bool R.2)]):=by
 have ht:=ho.T
 have hn2:=ho.n2
 refine o7.of_vc ik [22,23,28] [3] Tryz.func100 rfl Tryz.ntmps100 rfl (by kernel_rfl) (RegG.via (fun _ h=>b8 [] 0 0 0 [.v (.bool false),.v (.slice none 0 0)] (bI 0) rfl rfl (.keep (.fz (FzP.nil (n:=1)) (.same _))) rfl h) ?_)
 refine ba (LpG.on (fun k0:KCh=>(⟨fL [(0,.ptr 1000000 0 0),(4,.v (.int .i64 ((k0.b:Nat):Int))),(5,.v (.bool k0.f)),(6,.ptr 0 0 0),(13,.v (.int .i64 ((s.n:Nat):Int))),(14,.v (.int .i64 ((k0.k:Nat):Int)))],hLz [(0,⟨0,bI k0.c,0,false⟩),(1000000,sB s),(1000001,s1 s),(1000002,s2 s),(1000003,s3 s),(1000004,s4 s),(1000005,s5 s),(1000006,s6 s),(1000007,s7 s)],1⟩:St)) (fun k0=>(s.n-k0.k)) (fun k0=>(k0.k<=s.n/\(I0 s (s.n-k0.k) k0.k k0.b k0.c k0.f=some R/\B1 k0.c))) (⟨0,0,0,false⟩:KCh) (cO (.cons rfl rfl (.cons rfl rfl (.cons rfl rfl (.cons rfl rfl (.cons rfl rfl (.cons rfl rfl .nil)))))) (.cons rfl rfl rfl (.cons rfl rfl rfl (.cons rfl rfl (aa ag _ _) (.cons rfl rfl (aa ai _ _) (.cons rfl rfl (aa ah _ _) (.cons rfl rfl (aa ao _ _) (.cons rfl rfl (aa ab _ _) (.cons rfl rfl (aa ae _ _) (.cons rfl rfl (aa aj _ _) .nil)))))))))) ⟨ag6 _,⟨h,by decide,by decide⟩⟩ ?_)
 rintro k0 ha
 obtain⟨hle_k0,h0⟩:=ha
 refine cL (fun h6=>?_) (fun h7=>?_)
 ·have h5:k0.k<s.T.length:=by omega
  have hf:s.T.getD k0.k 0=(s.T[k0.k]'h5):=by simp[List.getD,h5]
  have hb:=abw h6 h0.1
  rw[hf]at hb
  refine OpG.lk (bl (k:=k0.k) ao Tryz.underlying58 sz3 rfl rfl rfl (by omega) rfl h5) (OpG.lk (LOp.cellN (k:=k0.k) (o:=0) ao Sq rfl rfl h5 rfl) ?_)
  refine cB (fun h2=>?_) (fun h2=>?_)
  ·have hc:¬(((s.T[k0.k]'h5):Int)=(0:Int)):=by simpa using h2
   have h3:=(hb.resolve_right (fun k=>by simp[k.1]at h2)).2
   refine⟨by omega,⟨(⟨k0.k+1,k0.b,k0.c,k0.f⟩:KCh),(by show s.n-(k0.k+1)<s.n-k0.k;omega),(cO (.cons rfl rfl (.cons rfl rfl (.cons rfl rfl (.cons rfl rfl (.cons rfl rfl (.cons rfl rfl .nil)))))) (.cons rfl rfl rfl (.cons rfl rfl rfl (.cons rfl rfl (aa ag _ _) (.cons rfl rfl (aa ai _ _) (.cons rfl rfl (aa ah _ _) (.cons rfl rfl (aa ao _ _) (.cons rfl rfl (aa ab _ _) (.cons rfl rfl (aa ae _ _) (.cons rfl rfl (aa aj _ _) .nil)))))))))),?_⟩⟩
   exact⟨by show k0.k+1<=_;omega,⟨h3,h0.2⟩⟩
  have hc:((s.T[k0.k]'h5):Int)=(0:Int):=by simpa using h2
  obtain⟨_,p,ok,hg,hd,h9⟩:=hb.resolve_left (fun k=>k.1 (by simpa using h2))
  obtain⟨_,rfl,hh⟩:=Va s k0.k (p,ok) ho (by omega) hl hg
  refine OpG.lk (cw (a8 [(1000000,1000000),(1000001,1000001),(1000002,1000002),(1000003,1000003),(1000004,1000004),(1000005,1000005),(1000006,1000006),(1000007,1000007)] ab7 hh rfl rfl rfl rfl ⟨rfl,sX ag,sX ai,sX ah,sX ao,sX ab,sX ae,sX aj,trivial⟩ ⟨⟨rfl,.inl rfl⟩,av ag,av ai,av ah,av ao,av ab,av ae,av aj,trivial⟩ ⟨rfl,au ag _ _,au ai _ _,au ah _ _,au ao _ _,au ab _ _,au ae _ _,au aj _ _,trivial⟩ rfl rfl rfl rfl rr rfl) ⟨⟨.head _,rfl,rfl⟩,⟨.tail _ (.head _),rfl,rfl⟩,⟨.tail _ (.tail _ (.head _)),rfl,rfl⟩,⟨.tail _ (.tail _ (.tail _ (.head _))),rfl,rfl⟩,⟨.tail _ (.tail _ (.tail _ (.tail _ (.head _)))),rfl,rfl⟩,⟨.tail _ (.tail _ (.tail _ (.tail _ (.tail _ (.head _))))),rfl,rfl⟩,⟨.tail _ (.tail _ (.tail _ (.tail _ (.tail _ (.tail _ (.head _)))))),rfl,rfl⟩,⟨.tail _ (.tail _ (.tail _ (.tail _ (.tail _ (.tail _ (.tail _ (.head _))))))),rfl,rfl⟩,trivial⟩) (cB (fun he=>?_) (fun he=>?_))
  ·refine cB (fun h4=>?_) (fun h4=>?_)
   ·have h3:=(h9.resolve_right (fun k=>k.1 (by simp_all))).2 -- y
    refine cT ⟨by kernel_rfl,⟨by omega,?_⟩⟩
    refine⟨(⟨k0.k+1,k0.k,p,true⟩:KCh),(by show s.n-(k0.k+1)<s.n-k0.k;omega),(cO (.cons rfl rfl (.cons rfl rfl (.cons rfl rfl (.cons rfl rfl (.cons rfl rfl (.cons rfl rfl .nil)))))) (.cons rfl rfl rfl (.cons rfl rfl rfl (.cons rfl rfl (aa ag _ _) (.cons rfl rfl (aa ai _ _) (.cons rfl rfl (aa ah _ _) (.cons rfl rfl (aa ao _ _) (.cons rfl rfl (aa ab _ _) (.cons rfl rfl (aa ae _ _) (.cons rfl rfl (aa aj _ _) .nil)))))))))),⟨by show k0.k+1<=_;omega,?_⟩⟩
    exact⟨h3,hd⟩
   refine ArgG.mk (l9 (x:=p) (y:=k0.c) hd h0.2) rfl ?_
   rintro _ rfl
   refine cD (fun h8=>?_) (fun h8=>?_)
   ·have h3:=(h9.resolve_right (fun k=>k.1 (by simp_all))).2 -- y
    refine⟨by kernel_rfl,⟨by omega,?_⟩⟩
    refine⟨(⟨k0.k+1,k0.k,p,true⟩:KCh),(by show s.n-(k0.k+1)<s.n-k0.k;omega),(cO (.cons rfl rfl (.cons rfl rfl (.cons rfl rfl (.cons rfl rfl (.cons rfl rfl (.cons rfl rfl .nil)))))) (.cons rfl rfl rfl (.cons rfl rfl rfl (.cons rfl rfl (aa ag _ _) (.cons rfl rfl (aa ai _ _) (.cons rfl rfl (aa ah _ _) (.cons rfl rfl (aa ao _ _) (.cons rfl rfl (aa ab _ _) (.cons rfl rfl (aa ae _ _) (.cons rfl rfl (aa aj _ _) .nil)))))))))),⟨by show k0.k+1<=_;omega,?_⟩⟩
    exact⟨h3,hd⟩
   have h3:=(h9.resolve_left (fun k=>by rcases k.1.2 with g|g;(rw[g]at h4;simp at h4);exact h8 g)).2
   refine⟨by omega,⟨(⟨k0.k+1,k0.b,k0.c,k0.f⟩:KCh),(by show s.n-(k0.k+1)<s.n-k0.k;omega),(cO (.cons rfl rfl (.cons rfl rfl (.cons rfl rfl (.cons rfl rfl (.cons rfl rfl (.cons rfl rfl .nil)))))) (.cons rfl rfl rfl (.cons rfl rfl rfl (.cons rfl rfl (aa ag _ _) (.cons rfl rfl (aa ai _ _) (.cons rfl rfl (aa ah _ _) (.cons rfl rfl (aa ao _ _) (.cons rfl rfl (aa ab _ _) (.cons rfl rfl (aa ae _ _) (.cons rfl rfl (aa aj _ _) .nil)))))))))),?_⟩⟩
   exact⟨by show k0.k+1<=_;omega,⟨h3,h0.2⟩⟩
  have h3:=(h9.resolve_left (fun k=>by simp_all)).2
  refine cF ⟨by omega,⟨(⟨k0.k+1,k0.b,k0.c,k0.f⟩:KCh),(by show s.n-(k0.k+1)<s.n-k0.k;omega),(cO (.cons rfl rfl (.cons rfl rfl (.cons rfl rfl (.cons rfl rfl (.cons rfl rfl (.cons rfl rfl .nil)))))) (.cons rfl rfl rfl (.cons rfl rfl rfl (.cons rfl rfl (aa ag _ _) (.cons rfl rfl (aa ai _ _) (.cons rfl rfl (aa ah _ _) (.cons rfl rfl (aa ao _ _) (.cons rfl rfl (aa ab _ _) (.cons rfl rfl (aa ae _ _) (.cons rfl rfl (aa aj _ _) .nil)))))))))),?_⟩⟩
  exact⟨by show k0.k+1<=_;omega,⟨h3,h0.2⟩⟩
 have hi:=abx h7 h0.1
 subst hi
 refine⟨.inr rfl,_,Fg.of [] (aw rfl (.cons (acn.tmp rfl) (.cons (acn.tmp rfl) .nil))) rfl ⟨.same rfl (by decide),.same rfl (by decide),.same rfl (by decide),.same rfl (by decide),.same rfl (by decide),.same rfl (by decide),.same rfl (by decide),.same rfl (by decide),trivial⟩ .same,?_⟩
 rfl
theorem Qp{α:Type}{l:List α}{v:Nat}{d:α}(h:v<l.length):l.getD v d=l[v]:=by simp[List.getD,h]
end Go.Proofs.YtmbmbhkemgmhfaaGreatDoor
