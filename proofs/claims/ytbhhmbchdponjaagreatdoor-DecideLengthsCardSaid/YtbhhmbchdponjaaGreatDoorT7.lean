/- Texts of the claim. -/
import Derived.Test.YtbhhmbchdponjaaGreatDoorT6
import Derived.Test.YtbhhmbchdponjaaGreatDoorQ2
namespace Go.Proofs.YtbhhmbchdponjaaGreatDoor
set_option maxRecDepth 1000000
set_option maxHeartbeats 0
set_option linter.unusedVariables false
set_option linter.unusedSimpArgs false
open Go.RowKit
noncomputable def runU(f:Nat)(ys:List AV):Option AV:=J2 Tryz.prog (fun _=>false) (fun _ _=>none) (ka Tryz.prog) (fun _=>false) 1000 20 f ys
theorem qz{f:Nat}{ys:List AV}{ret:AV}(h:runU f ys=some ret):PRet Tryz.prog f ys (fun q=>q=ret):=PRet.of_call (ze aee (fun _ _ _ h=>by cases h) ux h)
abbrev v20(m:Int):List AV:=[i6 2,i6 0,i6 0,i6 m,.v (.bool false)]
abbrev l20(m:Int):AV:=.tree 5 [v20 m,v20 m]
abbrev x20(i:Int):List AV:=[i6 0,ba,i6 0,i6 i]
abbrev k20(z:Int):List AV:=[i6 (-z),.tree 2 [[i6 2,i6 1],[i6 3,i6 1]],.v (.bool true)]
abbrev c20(z:Int):List AV:=[ba,.tree 1 [[i6 0],[i6 1]],.tree 4 [x20 0,x20 1],.tree 3 [k20 z],ba,.tree 2 [[i6 0,i6 1]],ba]
abbrev p20(m z:Int):List AV:=l20 m::(c20 z++[.unk])
abbrev r20(m:Int):AV:=.tree 2 [[i6 0,i6 m],[i6 0,i6 m]]
abbrev t20(m:Int):AV:=.agg [.tree 1 [[i6 0],[i6 0]],.tree 1 [[i6 m],[i6 m]],ba,.tree 2 [[i6 0,i6 1]],ba]
abbrev M3(m:Int):Prop:=m=0\/m=1\/m=2\/m=3
section
variable{m z:Int}(h:M3 m)
include h
theorem Yt:PRet Tryz.prog 36 [l20 m,.agg (c20 z),r20 m] (fun q=>q=.tup [i6 4,.tree 3 ((cs5 0 m 0 m z).map cnA)]):=by rcases h with rfl|rfl|rfl|rfl<;>exact qz (by kernel_rfl)
theorem acr:PRet Tryz.prog 35 [.agg (p20 m z),r20 m] (fun q=>q=.tup [.unk,t20 m,.v (.bool true)]):=by rcases h with rfl|rfl|rfl|rfl<;>exact qz (by kernel_rfl)
theorem adj:PRet Tryz.prog 24 [l20 m,.agg (c20 z),r20 m] (fun q=>q=.tree 3 ((cs5 0 m 0 m z).map cnA)):=by rcases h with rfl|rfl|rfl|rfl<;>exact qz (by kernel_rfl)
theorem Ym:PRet Tryz.prog 28 [l20 m,.agg (c20 z)] (fun q=>q=.v (.bool (decide (m<=2)))):=by rcases h with rfl|rfl|rfl|rfl<;>exact qz (by kernel_rfl)
end
section
variable{m z:Int}
theorem adf:PRet Tryz.prog 10 [l20 m] (fun q=>q=r20 m):=qz (by kernel_rfl)
theorem afj:PRet Tryz.prog 64 [l20 m] (fun q=>q=r20 m):=qz (by kernel_rfl)
theorem Vm:PRet Tryz.prog 7 [.v (.bool true),i6 (-z),.tree 2 [[i6 2,i6 1],[i6 3,i6 1]]] (fun q=>q=.agg (k20 z)):=qz (by kernel_rfl)
end
abbrev rfA(S:List StS):List AV:=[i6 2,i6 0,i6 0]++pfA S++[ba]
section
variable{m z:Int}
theorem Ow:x3 4 (cs5 0 m 0 m z)=nh m z:=by
 have e1:(- -m:Int)=m:=Int.neg_neg m
 have e2:(- -z:Int)=z:=Int.neg_neg z
 have:x3 4 (cs5 0 m 0 m z)=[⟨[0,0,-1,0],0⟩,⟨[0,0,1,0],- -m⟩,⟨[0,0,0,-1],0⟩,⟨[0,0,0,1],- -m⟩,⟨[0,0,1,1],- -z⟩,⟨[0,0,-1,-1],-z⟩]:=by kernel_rfl
 rw[this,e1,e2]
theorem aby(hm:M3 m)(hz:-40000<=z/\z<=40000):K5 0 m 0 m z:=by
 have:0<=m/\m<=100:=by rcases hm with rfl|rfl|rfl|rfl<;>decide
 exact⟨⟨⟨by decide,this⟩,⟨by decide,this⟩⟩,hz⟩
variable(hm:M3 m)(hz:-40000<=z/\z<=40000)
include hm hz
theorem adx{S:List StS}(hS:A0 4 (nh m z)=some S):PRet Tryz.prog 37 [i6 4,.tree 3 ((cs5 0 m 0 m z).map cnA)] (fun q=>q=.tup [ba,.agg (pfA S),.v (.bool false)]):=oso5 (aby hm hz) (by rw[Ow];exact hS)
theorem ac2:PRet Tryz.prog 82 [.tree 3 ((cs5 0 m 0 m z).map cnA),i6 4] (fun q=>q=.tree 3 ((nh m z).map iqA)):=by
 have:=Fq (cs5 0 m 0 m z) afg 4 (by decide) (ag9 rfl) (acd (aby hm hz)) rg5
 rwa [Ow]at this
theorem ac1:PRet Tryz.prog 23 [.tree 3 ((cs5 0 m 0 m z).map cnA),i6 4] (fun q=>q=.tree 3 ((nh m z).map iqA)):=by
 have:=Jm (cs5 0 m 0 m z) afg 4 (by decide) (by decide) (ag9 rfl) (acd (aby hm hz)) rg5
 rwa [Ow]at this
theorem Yc:SyN 4 (nh m z):=by
 have:=Df (n:=4) (l:=cs5 0 m 0 m z) (acd (aby hm hz))
 rw[Ow]at this;exact this
variable{S:List StS}{R:List IqS}(hl:S.length=3)(hu:∀s∈S,s.us.length=2)(hR:jn 4 S (nh m z)=some R)(hb:R.any (fun q=>uk q)=true)
include hl hu hR hb
theorem af5:PRet Tryz.prog 22 [.tree 3 ((nh m z).map iqA),.agg (pfA S)] (fun q=>q=.v (.bool true)):=by
 have:=Qu (nh m z) ⟨ag9 rfl,fun _ _=>trivial⟩ S 4 R (by decide) (by decide) (Nat.zero_lt_succ _) (by rw[hl];exact ag9 rfl) (Yc hm hz) (fun s hs=>by rw[hu s hs];decide) hR
 rwa [hb]at this
theorem af2:PRet Tryz.prog 101 [.tree 3 ((nh m z).map iqA),.agg (pfA S)] (fun q=>q=.v (.bool true)):=by
 have:=Mh (nh m z) ⟨ag9 rfl,fun _ _=>trivial⟩ S 4 R (by decide) (Nat.zero_lt_succ _) (by rw[hl];exact ag9 rfl) (Yc hm hz) (fun s hs=>by rw[hu s hs];decide) hR
 rwa [hb]at this
end
theorem Yl{m z:Int}(h:M3 m)(hs:m<=2):PRet Tryz.prog 28 [l20 m,.agg (c20 z)] (fun q=>q=.v (.bool true)):=by
 have:=Ym (z:=z) h;rwa [decide_eq_true hs]at this
theorem Yk{m z:Int}(h:M3 m)(hs:¬m<=2):PRet Tryz.prog 28 [l20 m,.agg (c20 z)] (fun q=>q=.v (.bool false)):=by
 have:=Ym (z:=z) h;rwa [decide_eq_false hs]at this
theorem Wv:PRet Tryz.prog 17 [.tree 1 (([]:List Int).map iA),.v (.int .i64 0)] (fun q=>q=.v (.bool false)):=qz (by kernel_rfl)
theorem Wu:PRet Tryz.prog 17 [.tree 1 (([0]:List Int).map iA),.v (.int .i64 1)] (fun q=>q=.v (.bool false)):=qz (by kernel_rfl)
theorem zf:RowF iA 1:=cz
theorem aa5:bw Tryz.prog 17=true:=by kernel_rfl
theorem by62:(Tryz.prog.info? 62).map (·.bytes)=some 16:=by kernel_rfl
theorem Yr:ej Tryz.prog 54=some (some 9):=by kernel_rfl
theorem abt:ao Tryz.prog 62=some 2:=by kernel_rfl
theorem abq:bj Tryz.prog 62=some (.agg #[.int .i64 0,.int .i64 0]):=by kernel_rfl
theorem Ju{m z:Int}{S:List StS}(hm:M3 m)(hz:-40000<=z/\z<=40000)(hS:A0 4 (nh m z)=some S):PRet Tryz.prog 18 [.agg (p20 m z),r20 m] (fun q=>q=.tup [ba,.agg (rfA S),.v (.bool false)]):=by
 refine ovT [] [] Tryz.func18 rfl rfl (ArgG.mk (acr hm) rfl ?_)
 rintro _ rfl
 refine cF (ArgG.mk (Yt hm) rfl ?_)
 rintro _ rfl
 refine ArgG.mk (adx hm hz hS) rfl ?_
 rintro _ rfl
 refine cT ⟨by kernel_rfl,⟨.inr rfl,_,ib rfl (Uc.tmp ⟨[],FzP.pure rfl⟩) (Uc.cellN Tryz.f18 Yr rfl rfl rfl rfl rfl ⟨[],FzP.pure rfl⟩) (Uc.tmp ⟨[],FzP.pure rfl⟩),?_⟩⟩
 rfl
theorem Iu{m z:Int}{S:List StS}(hm:M3 m)(hz:-40000<=z/\z<=40000)(hS:A0 4 (nh m z)=some S):PRet Tryz.prog 8 [l20 m,.agg (c20 z)] (fun q=>q=.tup [ba,.agg (rfA S),.v (.bool false)]):=by
 have hlen2:([m,m]:List Int).length=2:=rfl
 have hx0:0<[v20 m,v20 m].length:=Nat.zero_lt_succ _
 have hx1:1<[v20 m,v20 m].length:=Nat.lt_succ_self _
 refine ovT [42,55,63,67,68,70,84] [8,21] Tryz.func8 rfl rfl (k7 (ULp.step ?_))
 refine cF (RegG.via (fun _ h=>kf 2 8 1 rfl rfl rfl rfl rfl 4 rfl h) ?_)
 refine aw (OpG.lk (lT (f:=x20) (l:=[0,1]) rfl Tryz.underlying37 rfl) ?_)
 refine k7 (ULp.step ?_)
 refine cT ⟨(by first|assumption|omega|decide),cT ?_⟩
 obtain⟨_,rfl,ha⟩:=Wv
 refine OpG.lk (xa [3] aa5 rfl (fun i h h'=>match i,h with|0,_=>j6 (l:=([]:List Int)) zf (agx.2 rfl) rfl|1,_=>FzP.pure rfl) ha) (cT ?_)
 refine OpG.mk _ _ _ 6 (b9 zf (l:=([]:List Int)) (a:=0) Tryz.underlying27 sz3 zr3 by3 rfl rfl rfl (dv rfl rfl rfl rfl) rfl (by decide) (by decide) (by decide)) rfl rfl ⟨by omega,ULp.step ?_⟩
 refine cT ⟨(by first|assumption|omega|decide),cT ?_⟩
 obtain⟨_,rfl,hb⟩:=Wu
 refine OpG.lk (xa [3] aa5 rfl (fun i h h'=>match i,h with|0,_=>j6 (l:=([0]:List Int)) zf (agx.2 rfl) rfl|1,_=>FzP.pure rfl) hb) (cT ?_)
 refine OpG.mk _ _ _ 8 (b9 zf (l:=([0]:List Int)) (a:=1) Tryz.underlying27 sz3 zr3 by3 rfl rfl rfl (dv rfl rfl rfl rfl) rfl (by decide) (by decide) (by decide)) rfl rfl ⟨by omega,ULp.step ?_⟩
 refine cF (OpG.lk (lT (f:=v20) (l:=[m,m]) rfl Tryz.underlying26 rfl) ?_)
 refine OpG.nw (LOp.makeSlice 8 (len:=2) Tryz.underlying39 abt abq by62 rfl rfl rfl rfl rfl) rfl (OpG.lk (lT (f:=v20) (l:=[m,m]) rfl Tryz.underlying26 rfl) ?_)
 refine k7 (ULp.step ?_)
 refine cT ⟨(by first|assumption|omega|decide),cT ?_⟩
 refine⟨(by first|assumption|omega|decide),OpG.lk (ru Tryz.underlying62 sz3 rfl rfl rfl rfl rfl rfl) ?_⟩
 refine⟨by kernel_rfl,⟨by omega,?_⟩⟩
 refine ULp.step (cT ?_)
 refine⟨(by first|assumption|omega|decide),cT ?_⟩
 refine⟨(by first|assumption|omega|decide),OpG.lk (ru Tryz.underlying62 sz3 rfl rfl rfl rfl rfl rfl) ?_⟩
 refine⟨by kernel_rfl,⟨by omega,?_⟩⟩
 refine ULp.step (cF ?_)
 refine RegG.via (fun _ h=>bm [8] 12 (r20 m) (bc (f:=paA) (l:=[((0:Int),m),(0,m)]) (agx.2 rfl) rfl rfl rfl rfl rfl rfl (fun a _=>⟨rfl,rfl⟩)) rfl h) (RegG.via (fun _ h=>cm [] 2 0 0 (l20 m::(c20 z++[.sl 3 2 0 2])) (p20 m z) rfl rfl (.keep (.keep (.keep (.keep (.keep (.keep (.keep (.keep (.fz FzP.unk (.same _)))))))))) rfl h) ?_)
 refine aw (ArgG.mk (Ju hm hz hS) rfl ?_)
 rintro _ rfl
 refine⟨.inr rfl,_,ib rfl (Uc.tmp ⟨[],FzP.pure rfl⟩) (Uc.cellN Tryz.f8 Yr rfl rfl rfl rfl rfl ⟨[],FzP.pure rfl⟩) (Uc.tmp ⟨[],FzP.pure rfl⟩),?_⟩
 rfl
theorem Ww{m z:Int}{S:List StS}{R:List IqS}(hm:M3 m)(hz:-40000<=z/\z<=40000)(hl:S.length=3)(hu:∀s∈S,s.us.length=2)(hR:jn 4 S (nh m z)=some R)(hb:R.any (fun q=>uk q)=true):PRet Tryz.prog 63 [l20 m,.agg (c20 z),.agg (rfA S),r20 m] (fun q=>q=.v (.bool true)):=by
 refine ovT [] [] Tryz.func63 rfl rfl (cF ?_)
 refine cF (cT ?_)
 refine ArgG.mk (Yt hm) rfl ?_
 rintro _ rfl
 refine ArgG.mk (ac2 hm hz) rfl ?_
 rintro _ rfl
 refine ArgG.mk (af2 hm hz hl hu hR hb) rfl ?_
 rintro _ rfl
 exact⟨by kernel_rfl,rV rfl rfl rfl⟩
theorem Mi{m z:Int}{S:List StS}{R:List IqS}(hm:M3 m)(hz:-40000<=z/\z<=40000)(hl:S.length=3)(hu:∀s∈S,s.us.length=2)(hR:jn 4 S (nh m z)=some R)(hb:R.any (fun q=>uk q)=true):PRet Tryz.prog 27 [l20 m,.agg (c20 z),.agg (rfA S)] (fun q=>q=.v (.bool true)):=by
 refine ovT [] [] Tryz.func27 rfl rfl (ArgG.mk (afj) rfl ?_)
 rintro _ rfl
 refine ArgG.mk (Ww hm hz hl hu hR hb) rfl ?_
 rintro _ rfl
 exact⟨by kernel_rfl,rV rfl rfl rfl⟩
theorem U1{m z:Int}{S:List StS}{R:List IqS}(hm:M3 m)(hz:-40000<=z/\z<=40000)(hl:S.length=3)(hu:∀s∈S,s.us.length=2)(hR:jn 4 S (nh m z)=some R)(hb:R.any (fun q=>uk q)=true):PRet Tryz.prog 9 [l20 m,.agg (c20 z),.agg (rfA S),r20 m] (fun q=>q=.v (.bool true)):=by
 have hlen2:([m,m]:List Int).length=2:=rfl
 have hlx2:([0,1]:List Int).length=2:=rfl
 refine ovT [58,61] [] Tryz.func9 rfl rfl (cF ?_)
 refine cF (cT ?_)
 refine ArgG.mk (adj hm) rfl ?_
 rintro _ rfl
 refine OpG.lk (lT (f:=v20) (l:=[m,m]) rfl Tryz.underlying26 rfl) (OpG.lk (lT (f:=x20) (l:=[0,1]) rfl Tryz.underlying37 rfl) ?_)
 refine⟨by omega,ArgG.mk (ac1 hm hz) rfl ?_⟩
 rintro _ rfl
 refine ArgG.mk (af5 hm hz hl hu hR hb) rfl ?_
 rintro _ rfl
 exact⟨by kernel_rfl,rV rfl rfl rfl⟩
theorem J6{m z:Int}{S:List StS}{R:List IqS}(hm:M3 m)(hz:-40000<=z/\z<=40000)(hl:S.length=3)(hu:∀s∈S,s.us.length=2)(hR:jn 4 S (nh m z)=some R)(hb:R.any (fun q=>uk q)=true)(hs:m<=2):PRet Tryz.prog 12 [l20 m,.agg (c20 z),.agg (rfA S)] (fun q=>q=.v (.bool true)):=by
 refine ovT [] [] Tryz.func12 rfl rfl (ArgG.mk (Mi hm hz hl hu hR hb) rfl ?_)
 rintro _ rfl
 refine cF (ArgG.mk ((Yl hm hs)) rfl ?_)
 rintro _ rfl
 refine cF (ArgG.mk (adf) rfl ?_)
 rintro _ rfl
 refine ArgG.mk (U1 hm hz hl hu hR hb) rfl ?_
 rintro _ rfl
 exact⟨by kernel_rfl,rV rfl rfl rfl⟩
theorem J5{m z:Int}{S:List StS}{R:List IqS}(hm:M3 m)(hz:-40000<=z/\z<=40000)(hl:S.length=3)(hu:∀s∈S,s.us.length=2)(hR:jn 4 S (nh m z)=some R)(hb:R.any (fun q=>uk q)=true)(hs:¬m<=2):PRet Tryz.prog 12 [l20 m,.agg (c20 z),.agg (rfA S)] (fun q=>q=.v (.bool true)):=by
 refine ovT [] [] Tryz.func12 rfl rfl (ArgG.mk (Mi hm hz hl hu hR hb) rfl ?_)
 rintro _ rfl
 refine cF (ArgG.mk ((Yk hm hs)) rfl ?_)
 rintro _ rfl
 exact cT ⟨by kernel_rfl,rV rfl rfl rfl⟩
theorem O9{m z:Int}{S:List StS}{R:List IqS}(hm:M3 m)(hz:-40000<=z/\z<=40000)(hl:S.length=3)(hu:∀s∈S,s.us.length=2)(hR:jn 4 S (nh m z)=some R)(hb:R.any (fun q=>uk q)=true):PRet Tryz.prog 12 [l20 m,.agg (c20 z),.agg (rfA S)] (fun q=>q=.v (.bool true)):=by
 by_cases hs:m<=2
 ·exact J6 hm hz hl hu hR hb hs
 exact J5 hm hz hl hu hR hb hs
theorem acz:ao Tryz.prog 32=some 3:=by kernel_rfl
theorem acy:ao Tryz.prog 61=some 4:=by kernel_rfl
theorem acm:bj Tryz.prog 25=some (.agg #[.int .i64 0,.int .i64 0,.int .i64 0,.int .i64 0,.bool false]):=by kernel_rfl
theorem acl:bj Tryz.prog 32=some (.agg #[.int .i64 0,.slice none 0 0,.bool false]):=by kernel_rfl
theorem ack:bj Tryz.prog 35=some (.agg #[.int .i64 0,.int .i64 0]):=by kernel_rfl
theorem acj:bj Tryz.prog 61=some (.agg #[.int .i64 0,.slice none 0 0,.int .i64 0,.int .i64 0]):=by kernel_rfl
theorem fw{m z:Int}{rw:List (List AV)}(hm:0<=m/\m<=255)(hz:-32768<=z/\z<=32767)(hb:PRet Tryz.prog 6 [] (fun q=>q=.v (.bool true)))(hokL:(z≥0/\z%2=0/\z<=2*m))(hc:m<=3->PRet Tryz.prog 8 [l20 m,.agg (c20 z)] (fun q=>q=.tup [.tree 3 rw,.agg [i6 0,i6 0,i6 0,ba,ba,.v (.bool false),ba,ba,ba],.v (.bool true)]))(hi:m<=3->PRet Tryz.prog 11 [l20 m,.agg (c20 z),.tree 3 rw] (fun q=>q=.v (.bool true))):PRet Tryz.prog 4 [.v (.int .u8 m),.v (.int .i16 z)] (fun q=>q=.v (.bool true)):=by
 refine ovT [18,21,23,24,27,29,30,33,35,37,48,51,52,56,58,59] [] Tryz.func4 rfl rfl (ArgG.mk (hb) rfl ?_)
 rintro _ rfl
 refine cB (fun hd=>?_) (fun hd=>?_)
 ·refine cT (ArgG.mk (hb) rfl ?_)
  rintro _ rfl
  exact rV rfl rfl rfl
 refine cD (fun he=>?_) (fun he=>?_)
 ·refine ArgG.mk (hb) rfl ?_
  rintro _ rfl
  exact rV rfl rfl rfl
 have hh:m<=3:=by simp_all
 have hj:=hc hh
 have hT:=hi hh
 refine OpG.lk (bn (r:=m) Tryz.underlying5 Tryz.underlying3 rfl (by rw[IntKind.wrap_i64];omega)) (OpG.lk (bn (r:=m) Tryz.underlying5 Tryz.underlying3 rfl (by rw[IntKind.wrap_i64];omega)) ?_)
 refine OpG.nw (bq (cj Tryz.underlying26 ac0 acm rfl rfl rfl rfl) (fun η' h=>bc (f:=v20) (l:=[m,m]) (agx.2 rfl) h rfl rfl rfl rfl rfl (fun a _=>⟨rfl,rfl⟩))) rfl (OpG.nw (bq (cj Tryz.underlying27 sz3 zr3 rfl rfl rfl rfl) (fun η' h=>bc (f:=(fun x:Int=>[i6 x])) (l:=[(0:Int),1]) (agx.2 rfl) h rfl rfl rfl rfl rfl (fun a _=>⟨rfl,rfl⟩))) rfl ?_)
 refine OpG.nw (bq (cj Tryz.underlying37 acy acj rfl rfl rfl rfl) (fun η' h=>bc (f:=x20) (l:=[(0:Int),1]) (agx.2 rfl) h rfl rfl rfl rfl rfl (fun a _=>⟨rfl,rfl⟩))) rfl (OpG.lk (bn (r:=z) Tryz.underlying22 Tryz.underlying2 rfl (by rw[IntKind.wrap_i64];omega)) ?_)
 refine OpG.lk (u5 (r:=-z) rfl (by rw[IntKind.wrap_i64];omega)) (OpG.nw (bq (cj Tryz.underlying28 abu ack rfl rfl rfl rfl) (fun η' h=>bc (f:=cfA) (l:=[(⟨2,1⟩:PCoef),⟨3,1⟩]) (agx.2 rfl) h rfl rfl rfl rfl rfl (fun a _=>⟨rfl,rfl⟩))) rfl ?_)
 refine ArgG.mk (Vm (z:=z)) rfl ?_
 rintro _ rfl
 refine OpG.nw (bq (cj Tryz.underlying36 acz acl rfl rfl rfl rfl) (fun η' h=>bc (f:=(fun _:Unit=>k20 z)) (l:=[()]) (agx.2 rfl) h rfl rfl rfl rfl rfl (fun a _=>⟨rfl,rfl⟩))) rfl (OpG.nw (bq (cj Tryz.underlying39 abt abq rfl rfl rfl rfl) (fun η' h=>bc (f:=paA) (l:=[((0:Int),(1:Int))]) (agx.2 rfl) h rfl rfl rfl rfl rfl (fun a _=>⟨rfl,rfl⟩))) rfl ?_)
 refine ArgG.mk (hj) rfl ?_
 rintro _ rfl
 refine OpG.lk (LOp.cmpI (v:=decide (z≥0)) rfl rfl (by rfl)) (cD (fun hf=>?_) (fun hf=>?_))
 ·refine OpG.lk (fm rfl rfl (by simp_all) (by decide)) (OpG.lk (LOp.cmpI (v:=(z%2==0)) rfl rfl (by rfl)) ?_)
  refine cE (fun hg=>?_) (fun hg=>?_)
  ·refine OpG.lk (bn (r:=z) Tryz.underlying22 Tryz.underlying3 rfl (by rw[IntKind.wrap_i64];omega)) (OpG.lk (bn (r:=m) Tryz.underlying5 Tryz.underlying3 rfl (by rw[IntKind.wrap_i64];omega)) ?_)
   refine OpG.lk (m4 (r:=2*m) rfl rfl (by rw[IntKind.wrap_i64];omega)) (cB (fun ha=>?_) (fun ha=>?_))
   ·refine rV rfl rfl ?_
    (exfalso;first|omega|(simp at ha;done)|(simp at ha;omega))
   refine cT (ArgG.mk (hT) rfl ?_)
   rintro _ rfl
   exact rV rfl rfl rfl
  refine cB (fun ha=>?_) (fun ha=>?_)
  ·refine rV rfl rfl ?_
   (exfalso;first|omega|(simp at ha;done)|(simp at ha;omega))
  refine cT (ArgG.mk (hT) rfl ?_)
  rintro _ rfl
  exact rV rfl rfl rfl
 refine cF (cB (fun ha=>?_) (fun ha=>?_))
 ·refine rV rfl rfl ?_
  (exfalso;first|omega|(simp at ha;done)|(simp at ha;omega))
 refine cT (ArgG.mk (hT) rfl ?_)
 rintro _ rfl
 exact rV rfl rfl rfl
theorem B3{m z:Int}{rw:List (List AV)}(hm:0<=m/\m<=255)(hz:-32768<=z/\z<=32767)(hb:PRet Tryz.prog 6 [] (fun q=>q=.v (.bool true)))(hokL:¬(z≥0/\z%2=0/\z<=2*m))(hc:m<=3->PRet Tryz.prog 8 [l20 m,.agg (c20 z)] (fun q=>q=.tup [ba,.agg [i6 2,i6 0,i6 0,.tree 3 rw,ba,.v (.bool false),ba,ba,ba],.v (.bool false)]))(hi:m<=3->PRet Tryz.prog 12 [l20 m,.agg (c20 z),.agg [i6 2,i6 0,i6 0,.tree 3 rw,ba,.v (.bool false),ba,ba,ba]] (fun q=>q=.v (.bool true))):PRet Tryz.prog 4 [.v (.int .u8 m),.v (.int .i16 z)] (fun q=>q=.v (.bool true)):=by
 refine ovT [18,21,23,24,27,29,30,33,35,37,48,51,52,56,58,59] [] Tryz.func4 rfl rfl (ArgG.mk (hb) rfl ?_)
 rintro _ rfl
 refine cB (fun hd=>?_) (fun hd=>?_)
 ·refine cT (ArgG.mk (hb) rfl ?_)
  rintro _ rfl
  exact rV rfl rfl rfl
 refine cD (fun he=>?_) (fun he=>?_)
 ·refine ArgG.mk (hb) rfl ?_
  rintro _ rfl
  exact rV rfl rfl rfl
 have hh:m<=3:=by simp_all
 have hj:=hc hh
 have hF:=hi hh
 refine OpG.lk (bn (r:=m) Tryz.underlying5 Tryz.underlying3 rfl (by rw[IntKind.wrap_i64];omega)) (OpG.lk (bn (r:=m) Tryz.underlying5 Tryz.underlying3 rfl (by rw[IntKind.wrap_i64];omega)) ?_)
 refine OpG.nw (bq (cj Tryz.underlying26 ac0 acm rfl rfl rfl rfl) (fun η' h=>bc (f:=v20) (l:=[m,m]) (agx.2 rfl) h rfl rfl rfl rfl rfl (fun a _=>⟨rfl,rfl⟩))) rfl (OpG.nw (bq (cj Tryz.underlying27 sz3 zr3 rfl rfl rfl rfl) (fun η' h=>bc (f:=(fun x:Int=>[i6 x])) (l:=[(0:Int),1]) (agx.2 rfl) h rfl rfl rfl rfl rfl (fun a _=>⟨rfl,rfl⟩))) rfl ?_)
 refine OpG.nw (bq (cj Tryz.underlying37 acy acj rfl rfl rfl rfl) (fun η' h=>bc (f:=x20) (l:=[(0:Int),1]) (agx.2 rfl) h rfl rfl rfl rfl rfl (fun a _=>⟨rfl,rfl⟩))) rfl (OpG.lk (bn (r:=z) Tryz.underlying22 Tryz.underlying2 rfl (by rw[IntKind.wrap_i64];omega)) ?_)
 refine OpG.lk (u5 (r:=-z) rfl (by rw[IntKind.wrap_i64];omega)) (OpG.nw (bq (cj Tryz.underlying28 abu ack rfl rfl rfl rfl) (fun η' h=>bc (f:=cfA) (l:=[(⟨2,1⟩:PCoef),⟨3,1⟩]) (agx.2 rfl) h rfl rfl rfl rfl rfl (fun a _=>⟨rfl,rfl⟩))) rfl ?_)
 refine ArgG.mk (Vm (z:=z)) rfl ?_
 rintro _ rfl
 refine OpG.nw (bq (cj Tryz.underlying36 acz acl rfl rfl rfl rfl) (fun η' h=>bc (f:=(fun _:Unit=>k20 z)) (l:=[()]) (agx.2 rfl) h rfl rfl rfl rfl rfl (fun a _=>⟨rfl,rfl⟩))) rfl (OpG.nw (bq (cj Tryz.underlying39 abt abq rfl rfl rfl rfl) (fun η' h=>bc (f:=paA) (l:=[((0:Int),(1:Int))]) (agx.2 rfl) h rfl rfl rfl rfl rfl (fun a _=>⟨rfl,rfl⟩))) rfl ?_)
 refine ArgG.mk (hj) rfl ?_
 rintro _ rfl
 refine OpG.lk (LOp.cmpI (v:=decide (z≥0)) rfl rfl (by rfl)) (cD (fun hf=>?_) (fun hf=>?_))
 ·refine OpG.lk (fm rfl rfl (by simp_all) (by decide)) (OpG.lk (LOp.cmpI (v:=(z%2==0)) rfl rfl (by rfl)) ?_)
  refine cE (fun hg=>?_) (fun hg=>?_)
  ·refine OpG.lk (bn (r:=z) Tryz.underlying22 Tryz.underlying3 rfl (by rw[IntKind.wrap_i64];omega)) (OpG.lk (bn (r:=m) Tryz.underlying5 Tryz.underlying3 rfl (by rw[IntKind.wrap_i64];omega)) ?_)
   refine OpG.lk (m4 (r:=2*m) rfl rfl (by rw[IntKind.wrap_i64];omega)) (cB (fun ha=>?_) (fun ha=>?_))
   ·refine rV rfl rfl ?_
    (exfalso;first|omega|(simp at ha;done)|(simp at ha;omega))
   refine cF (ArgG.mk (hF) rfl ?_)
   rintro _ rfl
   exact rV rfl rfl rfl
  refine cB (fun ha=>?_) (fun ha=>?_)
  ·refine rV rfl rfl ?_
   (exfalso;first|omega|(simp at ha;done)|(simp at ha;omega))
  refine cF (ArgG.mk (hF) rfl ?_)
  rintro _ rfl
  exact rV rfl rfl rfl
 refine cF (cB (fun ha=>?_) (fun ha=>?_))
 ·refine rV rfl rfl ?_
  (exfalso;first|omega|(simp at ha;done)|(simp at ha;omega))
 refine cF (ArgG.mk (hF) rfl ?_)
 rintro _ rfl
 exact rV rfl rfl rfl
theorem l7{m z:Int}{rw:List (List AV)}{v a:Int}(hm:0<=m/\m<=255)(hz:-32768<=z/\z<=32767)(hb:PRet Tryz.prog 6 [] (fun q=>q=.v (.bool true)))(hokL:¬(z≥0/\z%2=0/\z<=2*m))(hc:m<=3->PRet Tryz.prog 8 [l20 m,.agg (c20 z)] (fun q=>q=.tup [ba,.agg [i6 3,i6 v,i6 a,ba,ba,.v (.bool false),ba,ba,.tree 9 rw],.v (.bool false)]))(hi:m<=3->PRet Tryz.prog 12 [l20 m,.agg (c20 z),.agg [i6 3,i6 v,i6 a,ba,ba,.v (.bool false),ba,ba,.tree 9 rw]] (fun q=>q=.v (.bool true))):PRet Tryz.prog 4 [.v (.int .u8 m),.v (.int .i16 z)] (fun q=>q=.v (.bool true)):=by
 refine ovT [18,21,23,24,27,29,30,33,35,37,48,51,52,56,58,59] [] Tryz.func4 rfl rfl (ArgG.mk (hb) rfl ?_)
 rintro _ rfl
 refine cB (fun hd=>?_) (fun hd=>?_)
 ·refine cT (ArgG.mk (hb) rfl ?_)
  rintro _ rfl
  exact rV rfl rfl rfl
 refine cD (fun he=>?_) (fun he=>?_)
 ·refine ArgG.mk (hb) rfl ?_
  rintro _ rfl
  exact rV rfl rfl rfl
 have hh:m<=3:=by simp_all
 have hj:=hc hh
 have hF:=hi hh
 refine OpG.lk (bn (r:=m) Tryz.underlying5 Tryz.underlying3 rfl (by rw[IntKind.wrap_i64];omega)) (OpG.lk (bn (r:=m) Tryz.underlying5 Tryz.underlying3 rfl (by rw[IntKind.wrap_i64];omega)) ?_)
 refine OpG.nw (bq (cj Tryz.underlying26 ac0 acm rfl rfl rfl rfl) (fun η' h=>bc (f:=v20) (l:=[m,m]) (agx.2 rfl) h rfl rfl rfl rfl rfl (fun a _=>⟨rfl,rfl⟩))) rfl (OpG.nw (bq (cj Tryz.underlying27 sz3 zr3 rfl rfl rfl rfl) (fun η' h=>bc (f:=(fun x:Int=>[i6 x])) (l:=[(0:Int),1]) (agx.2 rfl) h rfl rfl rfl rfl rfl (fun a _=>⟨rfl,rfl⟩))) rfl ?_)
 refine OpG.nw (bq (cj Tryz.underlying37 acy acj rfl rfl rfl rfl) (fun η' h=>bc (f:=x20) (l:=[(0:Int),1]) (agx.2 rfl) h rfl rfl rfl rfl rfl (fun a _=>⟨rfl,rfl⟩))) rfl (OpG.lk (bn (r:=z) Tryz.underlying22 Tryz.underlying2 rfl (by rw[IntKind.wrap_i64];omega)) ?_)
 refine OpG.lk (u5 (r:=-z) rfl (by rw[IntKind.wrap_i64];omega)) (OpG.nw (bq (cj Tryz.underlying28 abu ack rfl rfl rfl rfl) (fun η' h=>bc (f:=cfA) (l:=[(⟨2,1⟩:PCoef),⟨3,1⟩]) (agx.2 rfl) h rfl rfl rfl rfl rfl (fun a _=>⟨rfl,rfl⟩))) rfl ?_)
 refine ArgG.mk (Vm (z:=z)) rfl ?_
 rintro _ rfl
 refine OpG.nw (bq (cj Tryz.underlying36 acz acl rfl rfl rfl rfl) (fun η' h=>bc (f:=(fun _:Unit=>k20 z)) (l:=[()]) (agx.2 rfl) h rfl rfl rfl rfl rfl (fun a _=>⟨rfl,rfl⟩))) rfl (OpG.nw (bq (cj Tryz.underlying39 abt abq rfl rfl rfl rfl) (fun η' h=>bc (f:=paA) (l:=[((0:Int),(1:Int))]) (agx.2 rfl) h rfl rfl rfl rfl rfl (fun a _=>⟨rfl,rfl⟩))) rfl ?_)
 refine ArgG.mk (hj) rfl ?_
 rintro _ rfl
 refine OpG.lk (LOp.cmpI (v:=decide (z≥0)) rfl rfl (by rfl)) (cD (fun hf=>?_) (fun hf=>?_))
 ·refine OpG.lk (fm rfl rfl (by simp_all) (by decide)) (OpG.lk (LOp.cmpI (v:=(z%2==0)) rfl rfl (by rfl)) ?_)
  refine cE (fun hg=>?_) (fun hg=>?_)
  ·refine OpG.lk (bn (r:=z) Tryz.underlying22 Tryz.underlying3 rfl (by rw[IntKind.wrap_i64];omega)) (OpG.lk (bn (r:=m) Tryz.underlying5 Tryz.underlying3 rfl (by rw[IntKind.wrap_i64];omega)) ?_)
   refine OpG.lk (m4 (r:=2*m) rfl rfl (by rw[IntKind.wrap_i64];omega)) (cB (fun ha=>?_) (fun ha=>?_))
   ·refine rV rfl rfl ?_
    (exfalso;first|omega|(simp at ha;done)|(simp at ha;omega))
   refine cF (ArgG.mk (hF) rfl ?_)
   rintro _ rfl
   exact rV rfl rfl rfl
  refine cB (fun ha=>?_) (fun ha=>?_)
  ·refine rV rfl rfl ?_
   (exfalso;first|omega|(simp at ha;done)|(simp at ha;omega))
  refine cF (ArgG.mk (hF) rfl ?_)
  rintro _ rfl
  exact rV rfl rfl rfl
 refine cF (cB (fun ha=>?_) (fun ha=>?_))
 ·refine rV rfl rfl ?_
  (exfalso;first|omega|(simp at ha;done)|(simp at ha;omega))
 refine cF (ArgG.mk (hF) rfl ?_)
 rintro _ rfl
 exact rV rfl rfl rfl
end Go.Proofs.YtbhhmbchdponjaaGreatDoor
