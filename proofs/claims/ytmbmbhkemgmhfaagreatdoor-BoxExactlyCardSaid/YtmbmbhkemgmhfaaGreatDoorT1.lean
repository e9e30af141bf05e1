/- Texts of the claim. -/
import Derived.Test.YtmbmbhkemgmhfaaGreatDoorM3
import Derived.Test.YtmbmbhkemgmhfaaGreatDoorQ2
namespace Go.Proofs.YtmbmbhkemgmhfaaGreatDoor
set_option maxRecDepth 1000000
set_option maxHeartbeats 0
set_option linter.unusedVariables false
set_option linter.unusedSimpArgs false
open Go.RowKit
structure UsS where
 i:Int
 n:Int
abbrev usA(u:UsS):List AV:=.v (.int .i64 u.i)::bI u.n
structure StS where
 us:List UsS
 d:Int
abbrev stA(s:StS):List AV:=.tree 3 (s.us.map usA)::bI s.d
theorem ai:RowF stA 3:=⟨fun _=>rfl,fun _=>rfl,fun _ _=>rfl,fun _ _=>rfl,fun _ _=>rfl,fun _=>rfl⟩
structure ItS where
 a:Int
 g:List Int
abbrev itA(x:ItS):List AV:=[.v (.int .i64 x.a),.tree 2 (x.g.map bI)]
theorem ae:RowF itA 2:=⟨fun _=>rfl,fun _=>rfl,fun _ _=>rfl,fun _ _=>rfl,fun _ _=>rfl,fun _=>rfl⟩
structure ElS where
 v:Int
 its:List Int
 tr:Bool
abbrev elA(e:ElS):List AV:=[.v (.int .i64 e.v),.tree 1 (e.its.map iA),.v (.bool e.tr)]
theorem aj:RowF elA 3:=⟨fun _=>rfl,fun _=>rfl,fun _ _=>rfl,fun _ _=>rfl,fun _ _=>rfl,fun _=>rfl⟩
abbrev rlA(l:List Int):List AV:=[.tree 2 (l.map bI)]
theorem ah:RowF rlA 1:=⟨fun _=>rfl,fun _=>rfl,fun _ _=>rfl,fun _ _=>rfl,fun _ _=>rfl,fun _=>rfl⟩
instance:Inhabited UsS:=⟨⟨0,0⟩⟩
instance:Inhabited StS:=⟨⟨[],0⟩⟩
instance:Inhabited ItS:=⟨⟨0,[]⟩⟩
instance:Inhabited ElS:=⟨⟨0,[],false⟩⟩
structure OSt where
 n:Nat
 K:List IqS
 vK:Nat
 S:List StS
 vS:Nat
 U:List (List Int)
 vU:Nat
 T:List Int
 V:List Int
 I:List ItS
 vI:Nat
 E:List ElS
 vE:Nat
instance:Inhabited OSt:=⟨⟨0,[],0,[],0,[],0,[],[],[],0,[],0⟩⟩
def wb(n:Int):List Int->List Int->Option (List Int)
 |[],_=>some []
 |_::_,[]=>none
 |c::cs,x::xs=>if B1 (n*x)/\B1 (c+n*x)then(wb n cs xs).map (fun r=>(c+n*x)::r)else none
def Ya(q:IqS)(n:Int)(k:IqS):Option IqS:=match wb n q.cs k.cs with
 |none=>none
 |some cs=>if B1 (n*k.b)/\B1 (q.b+n*k.b)then some ⟨cs,q.b+n*k.b⟩else none
def Jo(K:List IqS):List UsS->IqS->Option IqS
 |[],q=>some q
 |u::us,q=>if 0<=u.i then match K[u.i.toNat]? with
  |none=>none
  |some k=>match Ya q u.n k with
   |none=>none
   |some q'=>Jo K us q'
  else none
def ac7(q:IqS)(d:Int):IqS:=⟨q.cs.map (flD · d),flD q.b d⟩
def X2(n:Nat)(K:List IqS)(us:List UsS)(d:Int):Option IqS:=(Jo K us ⟨List.replicate n 0,0⟩).map (ac7 · d)
def Eo:List Int->Int->Int
 |[],d=>d
 |x::l,d=>Eo l ((Int.gcd d x:Nat):Int)
abbrev ku(l:List Int):Int:=Eo l 0
section
variable{n:Int}{q:IqS}
theorem qs:∀{cs xs r:List Int} (_:wb n cs xs=some r),r.length=cs.length/\cs.length<=xs.length/\∀i (h:i<cs.length) (h1:i<xs.length) (h2:i<r.length),B1 (n*xs[i])/\B1 (cs[i]+n*xs[i])/\r[i]=cs[i]+n*xs[i]
 |[],_,_,h=>by cases h;exact⟨rfl,ag6 _,fun i h=>absurd h (ag7 i)⟩
 |c::cs,[],_,h=>by cases h
 |c::cs,x::xs,r,h=>by
  unfold wb at h
  split at h
  ·next hb=>
   cases e:wb n cs xs with
   |none=>rw[e]at h;cases h
   |some r'=>
    rw[e]at h;cases h
    obtain⟨h1,h2,h3⟩:=qs e
    refine⟨by simp[h1],by simp;omega,fun i hi hj hk=>?_⟩
    cases i with
    |zero=>exact⟨hb.1,hb.2,rfl⟩
    |succ i=>exact h3 i (by simpa using hi) (by simpa using hj) (by simpa using hk)
  ·cases h
theorem bw{α:Type}{r cs:List α}{k:Nat}(hr:r.length=cs.length):(r.take k++cs.drop k).length=cs.length:=by simp;omega
theorem k7{α:Type}{r cs:List α}{k:Nat}(hr:r.length=cs.length)(h:k<cs.length)(h':k<(r.take k++cs.drop k).length):(r.take k++cs.drop k)[k]'h'=cs[k]:=by
 have e:(r.take k).length=k:=List.length_take_of_le (by omega)
 rw[List.getElem_append_right (by omega)]
 simp[e]
theorem Ub{α:Type}{r cs:List α}{k:Nat}(hr:r.length=cs.length)(h:k<cs.length)(h':k<r.length):(r.take k++cs.drop k).set k r[k]=r.take (k+1)++cs.drop (k+1):=by
 have e:(r.take k).length=k:=List.length_take_of_le (by omega)
 rw[List.set_append_right _ _ (by omega),ag5 h',aho h,e,Nat.sub_self,List.append_assoc];rfl
theorem R9{α:Type}{r cs:List α}{k:Nat}(hr:r.length=cs.length)(h:k<cs.length):(r.take k++cs.drop k)[k]? =some cs[k]:=by
 rw[agu (by rw[bw hr];exact h),k7 hr h]
theorem el{α:Type}{r cs:List α}{k:Nat}{v:α}(hr:r.length=cs.length)(h:k<cs.length)(hv:∀h':k<r.length,v=r[k]):(r.take k++cs.drop k).set k v=r.take (k+1)++cs.drop (k+1):=by
 rw[hv (by omega)];exact Ub hr h _
theorem dq{α:Type}{r cs:List α}{k:Nat}(hr:r.length=cs.length)(h:¬k<cs.length):r.take k++cs.drop k=r:=by
 rw[ahl (by omega),List.drop_of_length_le (by omega),List.append_nil]
theorem aa5{x d:Int}(hx:B1 x)(hd:0<d):B1 (flD x d):=by
 rw[(Mr hd).1]
 have h1:=Int.ediv_le_self (a:=x) d
 constructor
 ·have:-4294967295*d<=x:=by
   have:=Int.mul_le_mul_of_nonneg_left (show(1:Int)<=d by omega) (show(0:Int)<=4294967295 by decide)
   omega
  exact(Int.le_ediv_iff_mul_le hd).2 this
 ·by_cases h:0<=x
  ·exact Int.le_trans (h1 h) hx.2
  ·have:=Int.ediv_neg_of_neg_of_pos (show x<0 by omega) hd;omega
theorem Tz{l:List Int}{d:Int}(hl:BL l)(hd:0<d):BL (l.map (flD · d)):=fun x hx=>by
 obtain⟨y,hy,rfl⟩:=ahj.1 hx;exact aa5 (hl y hy) hd
theorem Bz{cs xs r:List Int}(h:wb n cs xs=some r):BL r:=fun x hx=>by
 obtain⟨h1,h2,h3⟩:=qs h
 obtain⟨i,hi,rfl⟩:=ahe hx
 obtain⟨_,h4,h5⟩:=h3 i (by omega) (by omega) hi
 rw[h5];exact h4
theorem wx{k r:IqS}(h:Ya q n k=some r):wb n q.cs k.cs=some r.cs/\B1 (n*k.b)/\B1 (q.b+n*k.b)/\r.b=q.b+n*k.b:=by
 unfold Ya at h
 split at h
 ·cases h
 ·next cs e=>
  split at h
  ·next hb=>cases h;exact⟨e,hb.1,hb.2,rfl⟩
  ·cases h
theorem Xl{k r:IqS}(h:Ya q n k=some r):BQ r:=by
 obtain⟨h1,_,h3,h4⟩:=wx h
 exact⟨Bz h1,by rw[h4];exact h3⟩
theorem Ro{k r:IqS}(h:Ya q n k=some r):r.cs.length=q.cs.length:=(qs (wx h).1).1
theorem u6{K:List IqS}{us:List UsS}{r:IqS}{j:Nat}(hj:j<us.length)(h:Jo K (us.drop j) q=some r):∃i:Nat,us[j].i=(i:Int)/\∃hi:i<K.length,∃q',Ya q us[j].n K[i]=some q'/\Jo K (us.drop (j+1)) q'=some r:=by
 rw[aho hj]at h
 unfold Jo at h
 split at h
 ·next h0=>
  split at h
  ·cases h
  ·next k e=>
   obtain⟨hi,rfl⟩:=ahn.1 e
   split at h
   ·cases h
   ·next q' e'=>exact⟨_,(Int.toNat_of_nonneg h0).symm,hi,q',e',h⟩
 ·cases h
theorem yy{K:List IqS}{r:IqS}:∀{us:List UsS} {q:IqS} (_:Jo K us q=some r),r.cs.length=q.cs.length
 |[],q,h=>by cases h;rfl
 |u::us,q,h=>by
  obtain⟨i,_,hi,q',e,h'⟩:=u6 (us:=u::us) (j:=0) (by simp) h
  rw[yy (us:=us) h',Ro e]
theorem Dy{K:List IqS}{r:IqS}:∀{us:List UsS} {q:IqS} (_:BQ q) (_:Jo K us q=some r),BQ r
 |[],q,hq,h=>by cases h;exact hq
 |u::us,q,hq,h=>by
  obtain⟨i,_,hi,q',e,h'⟩:=u6 (us:=u::us) (j:=0) (by simp) h
  exact Dy (us:=us) (Xl e) h'
theorem tl(n:Nat):BL (List.replicate n 0):=fun x hx=>by rw[(List.mem_replicate.1 hx).2];exact⟨by decide,by decide⟩
theorem J6{n:Nat}{K:List IqS}{us:List UsS}{d:Int}{r:IqS}(hd:0<d)(h:X2 n K us d=some r):BQ r/\r.cs.length=n:=by
 unfold X2 at h
 cases e:Jo K us ⟨List.replicate n 0,0⟩with
 |none=>rw[e]at h;cases h
 |some q=>
  rw[e]at h;cases h
  have hb:=Dy (q:=⟨List.replicate n 0,0⟩) ⟨tl n,⟨by show -4294967295<=(0:Int);decide,by show(0:Int)<=4294967295;decide⟩⟩ e
  have hl:=yy e
  exact⟨⟨Tz hb.c hd,aa5 hb.b hd⟩,by show(List.map _ _).length=n;rw[ag0,hl];simp⟩
theorem aay{x y:Int}(hx:B1 x)(hy:B1 y):B1 ((Int.gcd x y:Nat):Int):=by
 by_cases h:x=0
 ·subst h;rw[Int.gcd_zero_left];omega
 ·have:=Int.gcd_le_natAbs_left y h;omega
theorem Td:∀{l:List Int} {d:Int} (_:BL l) (_:B1 d) (_:0<=d),B1 (Eo l d)/\0<=Eo l d
 |[],d,_,hd,h0=>⟨hd,h0⟩
 |x::l,d,hl,hd,h0=>Td (l:=l) (fun y hy=>hl y (List.mem_cons_of_mem _ hy)) (aay hd (hl x (List.mem_cons_self ..))) (Int.natCast_nonneg _)
theorem Mj{l:List Int}(h:BL l):B1 (ku l)/\0<=ku l:=Td h ⟨by decide,by decide⟩ (by decide)
end
structure KD where
 k:Nat
 d:Int
theorem Wi{l:List Int}{k:Nat}{d:Int}(h:k<l.length):Eo (l.drop k) d=Eo (l.drop (k+1)) ((Int.gcd d l[k]:Nat):Int):=by rw[aho h];rfl
theorem Wj{l:List Int}{k:Nat}{d:Int}(h:¬k<l.length):Eo (l.drop k) d=d:=by rw[List.drop_of_length_le (by omega)];rfl
structure KQ where
 k:Nat
 q:IqS
theorem Ur{K:List IqS}{l:List UsS}{k:Nat}{q r:IqS}(h:¬k<l.length)(e:Jo K (l.drop k) q=some r):q=r:=by rw[List.drop_of_length_le (by omega)]at e;cases e;rfl
theorem pv{f:Int->Int}{l:List Int}{i:Nat}(h:i<l.length)(h':i<(l.map f).length):(l.map f)[i]'h'=f l[i]:=by simp
theorem abb{a b:List Int}{k:Nat}(ha:k<a.length)(hb:k<b.length)(h:¬sgZ (a[k]-b[k])=0):a≠b:=fun e=>by subst e;exact h (sgZ_0.2 (by omega))
theorem ab4:bv Tryz.prog 155=true:=by kernel_rfl
theorem Tc(l:List Int)(hl:fy l (fun y=>True))(hb:BL l)(hs:l.length<=1000000):PRet Tryz.prog 151 [.tree 2 (l.map bI)] (fun r=>r=.agg (bI (ku l))):=by
 refine ovT [] [2] Tryz.func151 rfl rfl (RegG.via (fun _ h=>b8 [] 1 0 0 [.v (.bool false),.v (.slice none 0 0)] (bI 0) rfl rfl (.keep (.fz (FzP.nil (n:=1)) (.same _))) rfl h) ?_)
 refine ba (LenG.of ?_)
 refine LpG.on (fun k0:KD=>(⟨fL [(2,.ptr 0 0 0),(3,.ptr 1 0 0),(6,.tree 2 (l.map bI)),(7,.v (.int .i64 ((l.length:Nat):Int))),(8,.v (.int .i64 ((k0.k:Nat):Int)))],hLz [(0,⟨0,[.v (.bool false),.v (.slice none 0 0)],0,false⟩),(1,⟨0,bI k0.d,0,false⟩)],2⟩:St)) (fun k0=>(l.length-k0.k)) (fun k0=>(k0.k<=l.length/\(Eo (l.drop k0.k) k0.d=ku l/\B1 k0.d/\0<=k0.d))) (⟨0,0⟩:KD) (cO (.cons rfl rfl (.cons rfl rfl (.cons rfl rfl (.cons rfl rfl (.cons rfl rfl .nil))))) (.cons rfl rfl rfl (.cons rfl rfl rfl .nil))) ⟨ag6 _,⟨rfl,⟨by decide,by decide⟩,by decide⟩⟩ ?_
 rintro k0 h2
 have hgr_k0:l.length<=140737488355328:=hl.1
 obtain⟨hle_k0,h0⟩:=h2
 refine cL (fun h1=>?_) (fun h3=>?_)
 ·refine IdxG.of ‹_› (ArgG.mk (aaz (x:=k0.d) (y:=l[k0.k]) h0.2.1 (hb _ (agt ‹_›))) rfl ?_)
  rintro _ rfl
  refine⟨by omega,⟨(⟨k0.k+1,((Int.gcd k0.d l[k0.k]:Nat):Int)⟩:KD),(by show l.length-(k0.k+1)<l.length-k0.k;omega),(cO (.cons rfl rfl (.cons rfl rfl (.cons rfl rfl (.cons rfl rfl (.cons rfl rfl .nil))))) (.cons rfl rfl rfl (.cons rfl rfl rfl .nil))),?_⟩⟩
  exact⟨by show k0.k+1<=_;omega,⟨by rw[<-Wi h1];exact h0.1,aay h0.2.1 (hb _ (agt h1)),Int.natCast_nonneg _⟩⟩
 refine⟨.inr rfl,_,Og.cell rfl fe rfl rfl rfl rfl rfl ⟨[],FzP.pure rfl⟩,?_⟩
 have e:=h0.1
 rw[Wj h3]at e
 rw[e]
theorem Xn{x y:Int}(hx:B1 x)(hy:B1 y):PRet Tryz.prog 155 [.agg (bI x),.agg (bI y)] (fun r=>r=.v (.bool (decide (sgZ (x-y)=0)))):=by
 refine ovT [] [] Tryz.func155 rfl rfl (ArgG.mk (l9 (x:=x) (y:=y) hx hy) rfl ?_)
 rintro _ rfl
 exact rV rfl rfl rfl
theorem Qy(a:List Int)(ha:fy a (fun y=>True))(b:List Int)(hb:fy b (fun y=>True))(hA:BL a)(hB:BL b)(hs:a.length<=1000000):PRet Tryz.prog 154 [.tree 2 (a.map bI),.tree 2 (b.map bI),.clo 155 []] (fun r=>r=.v (.bool (decide (a=b)))):=by
 refine ovT [29] [] Tryz.func154 rfl rfl (LenG.of ?_)
 refine LenG.of (cB (fun h0=>?_) (fun h0=>?_))
 ·have h7:¬(((a.length:Nat):Int)=((b.length:Nat):Int)):=by simpa using h0
  refine rV rfl rfl ?_
  rw[decide_eq_false (fun e=>by subst e;simp at h0)];rfl
 have h7:((a.length:Nat):Int)=((b.length:Nat):Int):=by simpa using h0
 have h9:a.length=b.length:=by have h:=h0;simp at h;omega
 refine LenG.of (LpG.on (fun k0:Nat=>(⟨fL [(1,.tree 2 (b.map bI)),(2,.clo 155 []),(15,.tree 2 (a.map bI)),(16,.v (.int .i64 ((a.length:Nat):Int))),(17,.v (.int .i64 ((k0:Nat):Int)))],hLz [],0⟩:St)) (fun k0=>(a.length-k0)) (fun k0=>(k0<=a.length/\∀j (hl:j<a.length),j<k0->∀h2:j<b.length,a[j]=b[j])) 0 (cO (.cons rfl rfl (.cons rfl rfl (.cons rfl rfl (.cons rfl rfl (.cons rfl rfl .nil))))) .nil) ⟨ag6 _,fun j _ h=>absurd h (ag7 j)⟩ ?_)
 rintro k0 h8
 have hgr_k0:a.length<=140737488355328:=ha.1
 obtain⟨hle_k0,h3⟩:=h8
 refine cL (fun h4=>?_) (fun hge18=>?_)
 ·obtain⟨_,rfl,h6⟩:=Xn (hA _ (agt h4)) (hB (b[k0]'(by omega)) (agt (by omega)))
  refine IdxG.of ‹_› (IdxG.of (by omega) ?_)
  refine OpG.lk (jo ab4 rfl rfl rfl h6) (cB (fun h5=>?_) (fun h5=>?_))
  ·refine rV rfl rfl ?_
   rw[decide_eq_false (abb h4 (by omega) (by simpa using h5))];rfl
  refine⟨by omega,⟨(k0+1),by omega,(cO (.cons rfl rfl (.cons rfl rfl (.cons rfl rfl (.cons rfl rfl (.cons rfl rfl .nil))))) .nil),?_⟩⟩
  refine⟨by omega,fun j hl h=>?_⟩
  rcases ag9.1 h with h|rfl
  ·exact h3 j hl h
  exact fun _=>by have h:=sgZ_0.1 (ag4 (by simpa using h5));omega
 refine rV rfl rfl ?_
 rw[decide_eq_true (List.ext_getElem h9 (fun i h1 h2=>h3 i h1 (by omega) h2))];rfl
theorem sX{α:Type}{f:α->List AV}{q:Nat}(h:RowF f q){g:Nat->Nat}{v:Nat}{l:List α}{n:Bool}:some (⟨v,rF f l,q,n⟩:Blk)=some ((Blk.mk v (rF f l) q n).ren g):=by rw[cv h]
theorem ao:RowF iA 1:=ck
abbrev sB(s:OSt):Blk:=⟨0,[.v (.int .i64 ((s.n:Nat):Int)),.sl 1000001 s.vK 0 s.K.length,.sl 1000002 s.vS 0 s.S.length,.sl 1000003 s.vU 0 s.U.length,.sl 1000004 0 0 s.T.length,.sl 1000005 0 0 s.V.length,.sl 1000006 s.vI 0 s.I.length,.sl 1000007 s.vE 0 s.E.length],0,false⟩
abbrev s1(s:OSt):Blk:=⟨s.vK,rF iqA s.K,3,Nat.beq s.K.length 0⟩
abbrev s2(s:OSt):Blk:=⟨s.vS,rF stA s.S,3,Nat.beq s.S.length 0⟩
abbrev s3(s:OSt):Blk:=⟨s.vU,rF rlA s.U,1,Nat.beq s.U.length 0⟩
abbrev s4(s:OSt):Blk:=⟨0,rF iA s.T,1,Nat.beq s.T.length 0⟩
abbrev s5(s:OSt):Blk:=⟨0,rF bI s.V,2,Nat.beq s.V.length 0⟩
abbrev s6(s:OSt):Blk:=⟨s.vI,rF itA s.I,2,Nat.beq s.I.length 0⟩
abbrev s7(s:OSt):Blk:=⟨s.vE,rF elA s.E,3,Nat.beq s.E.length 0⟩
theorem aggQ{η:bf}{fp:List Nat}{id n:Nat}{q:IqS}(h0:id∈fp)(hb:η id=some ⟨0,rF bI q.cs,2,false⟩)(hn:n=q.cs.length):FzP fp η (.agg (.sl id 0 0 n::bI q.b)) (.agg (iqA q)):=
 ky (.cons (bn ab h0 hb hn) (.cons (.pure rfl) (.cons (.pure rfl) .nil)))
theorem Do:B1 0:=⟨by decide,by decide⟩
theorem Wp:cp Tryz.prog 196 1=some (1,2):=by kernel_rfl
theorem xh:ap Tryz.prog 196=some 3:=by kernel_rfl
theorem As(s:OSt)(x:ItS)(j:Nat)(kq:IqS)(hx:x.a=((j:Nat):Int))(hq:s.K[j]? =some kq):o7 Tryz.prog 123 [.ptr 1000000 0 0,.agg (itA x)] [(1000000,sB s),(1000001,s1 s),(1000002,s2 s),(1000003,s3 s),(1000004,s4 s),(1000005,s5 s),(1000006,s6 s),(1000007,s7 s)] [(1000000,some (sB s)),(1000001,some (s1 s)),(1000002,some (s2 s)),(1000003,some (s3 s)),(1000004,some (s4 s)),(1000005,some (s5 s)),(1000006,some (s6 s)),(1000007,some (s7 s))] (fun q=>q=.agg (bI kq.b)):=by
 obtain⟨hj,rfl⟩:=ahn.1 hq
 refine o7.of_vc ik [11,12,13] [] Tryz.func123 rfl Tryz.ntmps123 rfl (by kernel_rfl) (OpG.lk (bl (k:=j) ag Tryz.underlying131 xh rfl rfl hx hj rfl hj) ?_)
 refine OpG.lk (fv Wp rfl rfl rfl hj) (OpG.lk (Oh (k:=j) (o:=1) ag fe rfl rfl hj (by decide) rfl) ?_)
 refine⟨by kernel_rfl,⟨.inr rfl,_,Fg.of [] (aw rfl (.cons (acn.cellN fe rfl rfl trivial rfl rfl rfl) .nil)) rfl ⟨.same rfl (by decide),.same rfl (by decide),.same rfl (by decide),.same rfl (by decide),.same rfl (by decide),.same rfl (by decide),.same rfl (by decide),.same rfl (by decide),trivial⟩ .same,?_⟩⟩
 rfl
theorem Ph(us:List UsS)(hc:fy us (fun y=>True))(s:OSt)(d:Int)(R:IqS)(hd:0<d)(h9:B1 d)(hn1:s.n<=1000)(hu:∀u∈us,B1 u.n)(hK:∀q∈s.K,BQ q)(h1:X2 s.n s.K us d=some R):o7 Tryz.prog 152 [.ptr 1000000 0 0,.tree 3 (us.map usA),.agg (bI d)] [(1000000,sB s),(1000001,s1 s),(1000002,s2 s),(1000003,s3 s),(1000004,s4 s),(1000005,s5 s),(1000006,s6 s),(1000007,s7 s)] [(1000000,some (sB s)),(1000001,some (s1 s)),(1000002,some (s2 s)),(1000003,some (s3 s)),(1000004,some (s4 s)),(1000005,some (s5 s)),(1000006,some (s6 s)),(1000007,some (s7 s))] (fun q=>q=.agg (iqA R)):=by
 obtain⟨Q,hQ,rfl⟩:∃Q,Jo s.K us ⟨List.replicate s.n 0,0⟩=some Q/\ac7 Q d=R:=by
  unfold X2 at h1
  cases e:Jo s.K us ⟨List.replicate s.n 0,0⟩with
  |none=>rw[e]at h1;cases h1
  |some Q=>rw[e]at h1;cases h1;exact⟨Q,rfl,rfl⟩
 have ha:=Dy (q:=⟨List.replicate s.n 0,0⟩) ⟨tl s.n,Do⟩ hQ
 have hQl:Q.cs.length=s.n:=by rw[yy hQ];simp
 refine o7.of_vc ik [17,31,32,45,46,56,81,82,88,100056,100088] [2,11,13,18] Tryz.func152 rfl Tryz.ntmps152 rfl (by kernel_rfl) (OpG.nw (cq 2 (len:=s.n) Tryz.underlying66 jf Dj E6 rfl rfl rfl (by omega)) rfl ?_)
 refine RegG.via (fun _ h=>b8 [] 3 0 0 [.sl 2 0 0 s.n,.v (.bool false),.v (.slice none 0 0)] (.sl 2 0 0 s.n::bI 0) rfl rfl (.keep (.keep (.fz (FzP.nil (n:=1)) (.same _)))) rfl h) (ba ?_)
 refine LenG.of (LpG.on (fun k0:KQ=>(⟨fL [(0,.ptr 1000000 0 0),(5,.ptr 0 0 0),(6,.ptr 1 0 0),(7,.ptr 3 0 0),(19,.tree 3 (us.map usA)),(20,.v (.int .i64 ((us.length:Nat):Int))),(21,.v (.int .i64 ((k0.k:Nat):Int)))],hLz [(0,⟨0,bI d,0,false⟩),(1,⟨0,[.v (.slice none 0 0),.v (.bool false),.v (.slice none 0 0)],0,false⟩),(2,⟨0,rF bI k0.q.cs,2,false⟩),(3,⟨0,.sl 2 0 0 s.n::bI k0.q.b,0,false⟩),(1000000,sB s),(1000001,s1 s),(1000002,s2 s),(1000003,s3 s),(1000004,s4 s),(1000005,s5 s),(1000006,s6 s),(1000007,s7 s)],4⟩:St)) (fun k0=>(us.length-k0.k)) (fun k0=>(k0.k<=us.length/\(Jo s.K (us.drop k0.k) k0.q=some Q/\BQ k0.q/\k0.q.cs.length=s.n))) (⟨0,⟨List.replicate s.n 0,0⟩⟩:KQ) (cO (.cons rfl rfl (.cons rfl rfl (.cons rfl rfl (.cons rfl rfl (.cons rfl rfl (.cons rfl rfl (.cons rfl rfl .nil))))))) (.cons rfl rfl rfl (.cons rfl rfl rfl (.cons rfl rfl (aa ab _ _) (.cons (by rfl) rfl rfl (.cons rfl rfl rfl (.cons rfl rfl (aa ag _ _) (.cons rfl rfl (aa ai _ _) (.cons rfl rfl (aa ah _ _) (.cons rfl rfl (aa ao _ _) (.cons rfl rfl (aa ab _ _) (.cons rfl rfl (aa ae _ _) (.cons rfl rfl (aa aj _ _) .nil))))))))))))) ⟨ag6 _,⟨hQ,⟨tl s.n,Do⟩,by simp⟩⟩ ?_)
 rintro k0 h2
 have hgr_k0:us.length<=140737488355328:=hc.1
 obtain⟨hle_k0,h0⟩:=h2
 refine cL (fun h3=>?_) (fun h6=>?_)
 ·obtain⟨j,he,hj,q1,h4,h7⟩:=u6 h3 h0.1
  replace h4:=wx h4
  have h5:=qs h4.1
  refine IdxG.of ‹_› (OpG.lk (bl (k:=j) ag Tryz.underlying131 xh rfl rfl he hj rfl hj) ?_)
  refine OpG.lk (fu ag Kq rfl rfl hj) ⟨by kernel_rfl,LpG.on (fun k2:Nat=>(⟨fL [(0,.ptr 1000000 0 0),(5,.ptr 0 0 0),(6,.ptr 1 0 0),(7,.ptr 3 0 0),(9,.ptr 4 0 0),(10,.ptr 5 0 0),(19,.tree 3 (us.map usA)),(20,.v (.int .i64 ((us.length:Nat):Int))),(21,.v (.int .i64 ((k0.k:Nat):Int))),(35,.v (.int .i64 ((s.n:Nat):Int))),(36,.v (.int .i64 ((k2:Nat):Int)))],hLz [(0,⟨0,bI d,0,false⟩),(1,⟨0,[.v (.slice none 0 0),.v (.bool false),.v (.slice none 0 0)],0,false⟩),(2,⟨0,rF bI (q1.cs.take k2++k0.q.cs.drop k2),2,false⟩),(3,⟨0,.sl 2 0 0 s.n::bI k0.q.b,0,false⟩),(4,⟨0,usA us[k0.k],0,false⟩),(5,⟨0,iqA s.K[j],0,false⟩),(1000000,sB s),(1000001,s1 s),(1000002,s2 s),(1000003,s3 s),(1000004,s4 s),(1000005,s5 s),(1000006,s6 s),(1000007,s7 s)],6⟩:St)) (fun k2=>(s.n-k2)) (fun k2=>(k2<=s.n)) 0 (cO (.cons rfl rfl (.cons rfl rfl (.cons rfl rfl (.cons rfl rfl (.cons rfl rfl (.cons rfl rfl (.cons rfl rfl (.cons rfl rfl (.cons rfl rfl (.cons rfl rfl (.cons rfl rfl .nil))))))))))) (.cons rfl rfl rfl (.cons rfl rfl rfl (.cons (by rfl) rfl (aa ab _ _) (.cons rfl rfl rfl (.cons rfl rfl rfl (.cons rfl rfl rfl (.cons rfl rfl rfl (.cons rfl rfl (aa ag _ _) (.cons rfl rfl (aa ai _ _) (.cons rfl rfl (aa ah _ _) (.cons rfl rfl (aa ao _ _) (.cons rfl rfl (aa ab _ _) (.cons rfl rfl (aa ae _ _) (.cons rfl rfl (aa aj _ _) .nil))))))))))))))) (ag6 _) ?_⟩
  rintro k2 h2
  have hle_k2:=h2
  refine cL (fun hlt37=>?_) (fun hge37=>?_)
  ·have h8:=h5.2.2 k2 (by omega) (by have:=h5.2.1;omega) (by have:=h5.1;omega)
   have hf:k2<s.K[j].cs.length:=by have:=h5.2.1;omega
   refine OpG.lk (ak (k:=k2) ab Tryz.underlying66 jf rfl rfl rfl (by omega) rfl) (OpG.lk (o5 ab fe rfl rfl (R9 h5.1 (by omega))) ?_)
   refine IdxG.of ‹_› (ArgG.mk (wa (x:=us[k0.k].n) (y:=s.K[j].cs[k2]) (hu _ (agt h3)) ((hK _ (agt hj)).c _ (agt _)) h8.1) rfl ?_)
   rintro _ rfl
   refine ArgG.mk (ww (x:=k0.q.cs[k2]) (y:=(us[k0.k].n*s.K[j].cs[k2])) (h0.2.1.c _ (agt _)) h8.1 h8.2.1) rfl ?_
   rintro _ rfl
   refine OpG.lk (ak (k:=k2) ab Tryz.underlying66 jf rfl rfl rfl (by omega) rfl) (OpG.wr (az (k:=k2) (o:=0) (v:=k0.q.cs[k2]+us[k0.k].n*s.K[j].cs[k2]) ab jf rfl rfl rfl rfl rfl rfl (by rw[bw h5.1];omega) (by decide) rfl) rfl ?_)
   refine⟨by kernel_rfl,⟨by omega,?_⟩⟩
   refine⟨(k2+1),by omega,(cO (.cons rfl rfl (.cons rfl rfl (.cons rfl rfl (.cons rfl rfl (.cons rfl rfl (.cons rfl rfl (.cons rfl rfl (.cons rfl rfl (.cons rfl rfl (.cons rfl rfl (.cons rfl rfl .nil))))))))))) (.cons rfl rfl rfl (.cons rfl rfl rfl (.cons (by(rw[el h5.1 (by omega) (fun h=>(h5.2.2 k2 (by omega) hf h).2.2.symm)];rfl)) rfl (aa ab _ _) (.cons rfl rfl rfl (.cons rfl rfl rfl (.cons rfl rfl rfl (.cons rfl rfl rfl (.cons rfl rfl (aa ag _ _) (.cons rfl rfl (aa ai _ _) (.cons rfl rfl (aa ah _ _) (.cons rfl rfl (aa ao _ _) (.cons rfl rfl (aa ab _ _) (.cons rfl rfl (aa ae _ _) (.cons rfl rfl (aa aj _ _) .nil))))))))))))))),?_⟩
   omega
  refine RegG.via (fun _ h=>cd 2 ⟨0,rF bI q1.cs,2,false⟩ rfl (by rw[dq h5.1 (by omega)]) h) (ba ?_)
  refine ArgG.mk (wa (x:=us[k0.k].n) (y:=s.K[j].b) (hu _ (agt h3)) (hK _ (agt hj)).b h4.2.1) rfl ?_
  rintro _ rfl
  refine ArgG.mk (ww (x:=k0.q.b) (y:=(us[k0.k].n*s.K[j].b)) h0.2.1.b h4.2.1 h4.2.2.1) rfl ?_
  rintro _ rfl
  refine⟨by kernel_rfl,⟨by omega,?_⟩⟩
  refine⟨(⟨k0.k+1,q1⟩:KQ),(by show us.length-(k0.k+1)<us.length-k0.k;omega),(cO (.cons rfl rfl (.cons rfl rfl (.cons rfl rfl (.cons rfl rfl (.cons rfl rfl (.cons rfl rfl (.cons rfl rfl .nil))))))) (.cons rfl rfl rfl (.cons rfl rfl rfl (.cons rfl rfl (aa ab _ _) (.cons (by(rw[h4.2.2.2];rfl)) rfl rfl (.cons rfl rfl rfl (.cons rfl rfl (aa ag _ _) (.cons rfl rfl (aa ai _ _) (.cons rfl rfl (aa ah _ _) (.cons rfl rfl (aa ao _ _) (.cons rfl rfl (aa ab _ _) (.cons rfl rfl (aa ae _ _) (.cons rfl rfl (aa aj _ _) .nil))))))))))))),⟨by show k0.k+1<=_;omega,?_⟩⟩
  exact⟨h7,⟨Bz h4.1,by rw[h4.2.2.2];exact h4.2.2.1⟩,by show q1.cs.length=s.n;rw[h5.1];exact h0.2.2⟩
 have hb:=Ur h6 h0.1
 refine RegG.via (fun _ h=>cd 2 ⟨0,rF bI Q.cs,2,false⟩ rfl (by rw[hb]) h) (RegG.via (fun _ h=>cd 3 ⟨0,.sl 2 0 0 s.n::bI Q.b,0,false⟩ rfl (by rw[hb]) h) ?_)
 refine ba ?_
 try refine LenG.of ?_
 refine LpG.on (fun k4:Nat=>(⟨fL [(5,.ptr 0 0 0),(6,.ptr 1 0 0),(7,.ptr 3 0 0),(70,.v (.int .i64 ((s.n:Nat):Int))),(71,.v (.int .i64 ((k4:Nat):Int)))],hLz [(0,⟨0,bI d,0,false⟩),(1,⟨0,[.v (.slice none 0 0),.v (.bool false),.v (.slice none 0 0)],0,false⟩),(2,⟨0,rF bI ((Q.cs.map (flD · d)).take k4++Q.cs.drop k4),2,false⟩),(3,⟨0,.sl 2 0 0 s.n::bI Q.b,0,false⟩),(1000000,sB s),(1000001,s1 s),(1000002,s2 s),(1000003,s3 s),(1000004,s4 s),(1000005,s5 s),(1000006,s6 s),(1000007,s7 s)],4⟩:St)) (fun k4=>(s.n-k4)) (fun k4=>(k4<=s.n)) 0 (cO (.cons rfl rfl (.cons rfl rfl (.cons rfl rfl (.cons rfl rfl (.cons rfl rfl .nil))))) (.cons rfl rfl rfl (.cons rfl rfl rfl (.cons (by rfl) rfl (aa ab _ _) (.cons rfl rfl rfl (.cons rfl rfl rfl (.cons rfl rfl (aa ag _ _) (.cons rfl rfl (aa ai _ _) (.cons rfl rfl (aa ah _ _) (.cons rfl rfl (aa ao _ _) (.cons rfl rfl (aa ab _ _) (.cons rfl rfl (aa ae _ _) (.cons rfl rfl (aa aj _ _) .nil))))))))))))) (ag6 _) ?_
 rintro k4 h2
 have hle_k4:=h2
 refine cL (fun hlt72=>?_) (fun hge72=>?_)
 ·refine OpG.lk (ak (k:=k4) ab Tryz.underlying66 jf rfl rfl rfl (by omega) rfl) (OpG.lk (o5 ab fe rfl rfl (R9 (by simp) (by omega))) ?_)
  refine ArgG.mk (pm (x:=Q.cs[k4]) (y:=d) (ha.c _ (agt _)) h9 (by omega)) rfl ?_
  rintro _ rfl
  refine OpG.lk (ak (k:=k4) ab Tryz.underlying66 jf rfl rfl rfl (by omega) rfl) (OpG.wr (az (k:=k4) (o:=0) (v:=flD Q.cs[k4] d) ab jf rfl rfl rfl rfl rfl rfl (by rw[bw (by simp)];omega) (by decide) rfl) rfl ?_)
  refine⟨by kernel_rfl,⟨by omega,?_⟩⟩
  refine⟨(k4+1),by omega,(cO (.cons rfl rfl (.cons rfl rfl (.cons rfl rfl (.cons rfl rfl (.cons rfl rfl .nil))))) (.cons rfl rfl rfl (.cons rfl rfl rfl (.cons (by(rw[el (r:=Q.cs.map (flD · d)) (by simp) (by omega) (fun h=>(pv (by omega) h).symm)];rfl)) rfl (aa ab _ _) (.cons rfl rfl rfl (.cons rfl rfl rfl (.cons rfl rfl (aa ag _ _) (.cons rfl rfl (aa ai _ _) (.cons rfl rfl (aa ah _ _) (.cons rfl rfl (aa ao _ _) (.cons rfl rfl (aa ab _ _) (.cons rfl rfl (aa ae _ _) (.cons rfl rfl (aa aj _ _) .nil))))))))))))),?_⟩
  omega
 refine RegG.via (fun _ h=>cd 2 ⟨0,rF bI (Q.cs.map (flD · d)),2,false⟩ rfl (by rw[dq (by simp) (by omega)]) h) (ba ?_)
 refine ArgG.mk (pm (x:=Q.b) (y:=d) ha.b h9 (by omega)) rfl ?_
 rintro _ rfl
 refine⟨.inr rfl,_,Fg.of [2] (aw rfl (.cons (acn.cellN Kq rfl rfl trivial rfl rfl rfl) .nil)) rfl ⟨.same rfl (by decide),.same rfl (by decide),.same rfl (by decide),.same rfl (by decide),.same rfl (by decide),.same rfl (by decide),.same rfl (by decide),.same rfl (by decide),trivial⟩ (.fz (aggQ (q:=ac7 Q d) (by simp) rfl (by simp[ac7];omega))),?_⟩
 rfl
abbrev SzS(s:OSt):Prop:=s.K.length<=1000000/\s.vK<=1000000/\s.S.length<=1000000/\s.vS<=1000000/\s.I.length<=1000000/\s.vI<=1000000/\s.E.length<=1000000/\s.vE<=1000000
def dOf(g:List Int):Int:=if ku g=0 then 1 else ku g
def Iw(s:OSt)(g:List Int)(us:List UsS):Option (OSt×ItS×Bool×Bool):=
 if 1<us.length\/dOf g≠1 then
  if SzS s then match X2 s.n s.K us (dOf g)with
   |none=>none
   |some q=>some ({s with S:=s.S++[⟨us,dOf g⟩],vS:=s.vS+1,K:=s.K++[q],vK:=s.vK+1},⟨(s.K.length:Int),g.map (flD · (dOf g))⟩,decide (ku g≠0),decide (ku g≠0)||decide (0<=q.b))
  else none
 else match us with
  |[u]=>if 0<=u.i then match s.K[u.i.toNat]? with
   |none=>none
   |some k=>some (s,⟨u.i,g.map (flD · (dOf g))⟩,decide (ku g≠0),decide (ku g≠0)||decide (0<=k.b))
   else none
  |_=>none
section
variable{s s':OSt}{g:List Int}{us:List UsS}{x:ItS}{sm ok:Bool}
theorem afz(h:ku g=0):dOf g=1:=ag2 h
theorem afy(h:¬ku g=0):dOf g=ku g:=ag1 h
theorem jk(h:BL g):B1 (dOf g)/\0<dOf g:=by
 obtain⟨h1,h2⟩:=Mj h
 unfold dOf;split
 ·exact⟨⟨by decide,by decide⟩,by decide⟩
 ·exact⟨h1,by omega⟩
theorem Ap(h:Iw s g us=some (s',x,sm,ok))(hc:1<us.length\/dOf g≠1):SzS s/\∃q,X2 s.n s.K us (dOf g)=some q/\s'={s with S:=s.S++[⟨us,dOf g⟩],vS:=s.vS+1,K:=s.K++[q],vK:=s.vK+1}/\x=⟨(s.K.length:Int),g.map (flD · (dOf g))⟩/\sm=decide (ku g≠0)/\ok=(decide (ku g≠0)||decide (0<=q.b)):=by
 unfold Iw at h
 rw[ag2 hc]at h
 split at h
 ·next hs=>
  split at h
  ·cases h
  ·next q e=>cases h;exact⟨hs,q,e,rfl,rfl,rfl,rfl⟩
 ·cases h
theorem E0(h0:0<us.length)(h:Iw s g us=some (s',x,sm,ok))(hc:¬(1<us.length\/dOf g≠1)):∃(j:Nat) (hj:j<s.K.length),us[0].i=(j:Int)/\s=s'/\x=⟨us[0].i,g.map (flD · (dOf g))⟩/\sm=decide (ku g≠0)/\ok=(decide (ku g≠0)||decide (0<=s.K[j].b)):=by
 unfold Iw at h
 rw[ag1 hc]at h
 split at h
 ·next u=>
  split at h
  ·next h0=>
   split at h
   ·cases h
   ·next k e=>
    obtain⟨hj,rfl⟩:=ahn.1 e
    cases h
    exact⟨u.i.toNat,hj,(Int.toNat_of_nonneg h0).symm,rfl,rfl,rfl,rfl⟩
  ·cases h
 ·cases h
end
theorem rr{s:OSt}:d6 [(1000000,1000000),(1000001,1000001),(1000002,1000002),(1000003,1000003),(1000004,1000004),(1000005,1000005),(1000006,1000006),(1000007,1000007)] [(1000000,some (sB s)),(1000001,some (s1 s)),(1000002,some (s2 s)),(1000003,some (s3 s)),(1000004,some (s4 s)),(1000005,some (s5 s)),(1000006,some (s6 s)),(1000007,some (s7 s))]=[(1000000,some (sB s)),(1000001,some (s1 s)),(1000002,some (s2 s)),(1000003,some (s3 s)),(1000004,some (s4 s)),(1000005,some (s5 s)),(1000006,some (s6 s)),(1000007,some (s7 s))]:=by
 simp only[d6,ahh,List.map_nil,ahp,cv ag,cv ai,cv ah,cv ao,cv ab,cv ae,cv aj]
 rfl
theorem A5{g:List Int}{d:Int}{n:Nat}(h:g.length=n):(g.map (flD · d)).length=(List.replicate n 0:List Int).length:=by simp[h]
theorem blk0{g:List Int}(h:sgZ (ku g)=0):(⟨0,bI 1,0,false⟩:Blk)=⟨0,bI (dOf g),0,false⟩:=by rw[afz (sgZ_0.1 h)]
theorem blkN{g:List Int}(h:¬sgZ (ku g)=0):(⟨0,bI (ku g),0,false⟩:Blk)=⟨0,bI (dOf g),0,false⟩:=by rw[afy (fun e=>h (sgZ_0.2 e))]
theorem U0{x:Int}:0<=sgZ x↔0<=x:=by unfold sgZ;split<;>(try split)<;>omega
theorem lf0{X:AV}{g:List Int}{b:Int}(h:sgZ (ku g)=0):(.tup [X,.v (.bool (sgZ (ku g) !=0)),.v (.bool (decide (sgZ b≥0)))]:AV)=.tup [X,.v (.bool (decide (ku g≠0))),.v (.bool (decide (ku g≠0)||decide (0<=b)))]:=by
 have e:=sgZ_0.1 h
 rw[h,decide_eq_false (show¬ku g≠0 from fun k=>k e),Bool.false_or,show decide (sgZ b≥0)=decide (0<=b)from decide_eq_decide.2 U0];rfl
theorem lfN{X:AV}{g:List Int}{b:Int}(h:¬sgZ (ku g)=0):(.tup [X,.v (.bool (sgZ (ku g) !=0)),.v (.bool true)]:AV)=.tup [X,.v (.bool (decide (ku g≠0))),.v (.bool (decide (ku g≠0)||decide (0<=b)))]:=by
 have e:ku g≠0:=fun k=>h (sgZ_0.2 k)
 rw[show(sgZ (ku g) !=0)=true from bne_iff_ne.2 h,decide_eq_true e];rfl
theorem F4{K:List IqS}{q:IqS}(h:K.length<=1000000):IntKind.i64.wrap ((((K++[q]).length:Nat):Int)-1)=((K.length:Nat):Int):=by
 rw[agx];show IntKind.i64.wrap (((K.length+1:Nat):Int)-1)=_
 rw[show((K.length+1:Nat):Int)-1=(K.length:Int)by omega]
 exact IntWalk.i64_in _ ⟨by omega,by omega⟩
theorem tk:bv Tryz.prog 123=true:=by kernel_rfl
theorem Hm:bv Tryz.prog 152=true:=by kernel_rfl
theorem Nr:(Tryz.prog.info? 196).map (·.bytes)=some 56:=by kernel_rfl
theorem Re:(Tryz.prog.info? 269).map (·.bytes)=some 56:=by kernel_rfl
theorem lp:c9 Tryz.prog 230=some (some 2):=by kernel_rfl
theorem Pd:ap Tryz.prog 269=some 3:=by kernel_rfl
theorem Dq:bi Tryz.prog 196=some (.agg #[.slice none 0 0,.bool false,.slice none 0 0]):=by kernel_rfl
theorem O4:bi Tryz.prog 269=some (.agg #[.slice none 0 0,.bool false,.slice none 0 0]):=by kernel_rfl
theorem abm(g:List Int)(hg:fy g (fun y=>True))(us:List UsS)(hm:fy us (fun y=>True))(s:OSt)(x:ItS)(sm ok:Bool)(s':OSt)(hn:s.n<=1000)(h8:g.length=s.n)(h5:BL g)(hu:∀u∈us,B1 u.n)(hK:∀q∈s.K,BQ q)(hul:us.length<100000)(h0:0<us.length)(h1:us.length=1->us[0].n=1)(h:Iw s g us=some (s',x,sm,ok))(hc:1<us.length\/dOf g≠1):o7 Tryz.prog 117 [.ptr 1000000 0 0,.tree 2 (g.map bI),.tree 3 (us.map usA)] [(1000000,sB s),(1000001,s1 s),(1000002,s2 s),(1000003,s3 s),(1000004,s4 s),(1000005,s5 s),(1000006,s6 s),(1000007,s7 s)] [(1000000,some (sB s')),(1000001,some (s1 s')),(1000002,some (s2 s')),(1000003,some (s3 s')),(1000004,some (s4 s')),(1000005,some (s5 s')),(1000006,some (s6 s')),(1000007,some (s7 s'))] (fun q=>q=.tup [.agg (itA x),.v (.bool sm),.v (.bool ok)]):=by
 obtain⟨⟨z1,z2,z3,z4,z5,z6,z7,z8⟩,q,hq,rfl,rfl,rfl,rfl⟩:=Ap h hc
 have ht:=(J6 (jk h5).2 hq).1
 have hr:({s with S:=s.S++[⟨us,dOf g⟩],vS:=s.vS+1,K:=s.K++[q],vK:=s.vK+1:OSt}).K[s.K.length]? =some q:=by simp
 have hs:=ht.b
 refine o7.of_vc ik [50,61,63,70,71,83,103,111,100103] [5,8,16] Tryz.func117 rfl Tryz.ntmps117 rfl (by kernel_rfl) ?_
 refine ArgG.mk (Tc g hg h5 (by omega)) rfl ?_
 rintro _ rfl
 refine ArgG.mk (lh (x:=(ku g)) (Mj h5).1) rfl ?_
 rintro _ rfl
 refine cB (fun hi=>?_) (fun hi=>?_)
 ·have h6:((sgZ ((ku g))):Int)=(0:Int):=by simpa using hi
  refine ArgG.mk (nq (n:=1) ⟨by decide,by decide⟩) rfl ?_
  rintro _ rfl
  refine RegG.via (fun _ h=>cd 1 ⟨0,bI (dOf g),0,false⟩ rfl (by exact blk0 h6) h) ?_
  refine ba ?_
  refine ArgG.mk (nq (n:=1) ⟨by decide,by decide⟩) rfl ?_
  rintro _ rfl
  refine LenG.of (cB (fun h9=>?_) (fun h9=>?_))
  ·have hj:((us.length:Nat):Int)>(1:Int):=ag4 h9
   refine cT ⟨by kernel_rfl,cT ?_⟩
   refine OpG.mk _ _ _ 4 (bh ai (l:=s.S) (a:=(⟨us,dOf g⟩:StS)) Tryz.underlying65 Pd O4 Re rfl rfl rfl (ce rfl rfl rfl rfl) rfl (by omega) (by omega) (by unfold TV;omega)) rfl rfl ?_
   refine⟨by kernel_rfl,?_⟩
   obtain⟨_,rfl,hk⟩:=Ph us hm {s with S:=s.S++[⟨us,dOf g⟩],vS:=s.vS+1:OSt} (dOf g) q (jk h5).2 (jk h5).1 hn hu hK hq
   refine ba ?_
   refine OpG.lk (cw (a8 [(1000000,1000000),(1000001,1000001),(1000002,1000002),(1000003,1000003),(1000004,1000004),(1000005,1000005),(1000006,1000006),(1000007,1000007)] Hm hk rfl rfl rfl rfl ⟨rfl,sX ag,sX ai,sX ah,sX ao,sX ab,sX ae,sX aj,trivial⟩ ⟨⟨rfl,.inl rfl⟩,av ag,av ai,av ah,av ao,av ab,av ae,av aj,trivial⟩ ⟨rfl,au ag _ _,au ai _ _,au ah _ _,au ao _ _,au ab _ _,au ae _ _,au aj _ _,trivial⟩ rfl rfl rfl rfl rr rfl) ⟨⟨.head _,rfl,rfl⟩,⟨.tail _ (.head _),rfl,rfl⟩,⟨.tail _ (.tail _ (.head _)),rfl,rfl⟩,⟨.tail _ (.tail _ (.tail _ (.head _))),rfl,rfl⟩,⟨.tail _ (.tail _ (.tail _ (.tail _ (.head _)))),rfl,rfl⟩,⟨.tail _ (.tail _ (.tail _ (.tail _ (.tail _ (.head _))))),rfl,rfl⟩,⟨.tail _ (.tail _ (.tail _ (.tail _ (.tail _ (.tail _ (.head _)))))),rfl,rfl⟩,⟨.tail _ (.tail _ (.tail _ (.tail _ (.tail _ (.tail _ (.tail _ (.head _))))))),rfl,rfl⟩,trivial⟩) ?_
   refine OpG.mk _ _ _ 5 (bh ag (l:=s.K) (a:=q) Tryz.underlying131 xh Dq Nr rfl rfl rfl (ce rfl rfl rfl rfl) rfl (by omega) (by omega) (by unfold TV;omega)) rfl rfl ?_
   refine⟨by kernel_rfl,?_⟩
   refine OpG.lk (bo rfl Tryz.underlying131 rfl rfl rfl) ?_
   refine OpG.lk (mu (r:=((s.K.length:Nat):Int)) rfl rfl (F4 z1)) ?_
   refine⟨by kernel_rfl,?_⟩
   refine⟨(by first|assumption|omega|decide),?_⟩
   refine OpG.nw (cq 6 (len:=s.n) Tryz.underlying66 jf Dj E6 rfl rfl rfl (by omega)) rfl ?_
   refine⟨by kernel_rfl,?_⟩
   refine LenG.of (LpG.on (fun k0:Nat=>(⟨fL [(0,.ptr 1000000 0 0),(1,.tree 2 (g.map bI)),(6,.ptr 0 0 0),(9,.ptr 1 0 0),(10,.v (.bool (!decide (sgZ (ku g)=0)))),(12,.ptr 7 0 0),(86,.v (.int .i64 ((g.length:Nat):Int))),(87,.v (.int .i64 ((k0:Nat):Int)))],hLz [(0,⟨0,[.v (.int .i64 0),.v (.slice none 0 0)],0,false⟩),(1,⟨0,bI (dOf g),0,false⟩),(6,⟨0,rF bI ((g.map (flD · (dOf g))).take k0++(List.replicate s.n 0).drop k0),2,false⟩),(7,⟨0,[.v (.int .i64 ((s.K.length:Nat):Int)),.sl 6 0 0 s.n],0,false⟩),(1000000,sB {s with S:=s.S++[⟨us,dOf g⟩],vS:=s.vS+1,K:=s.K++[q],vK:=s.vK+1:OSt}),(1000001,s1 {s with S:=s.S++[⟨us,dOf g⟩],vS:=s.vS+1,K:=s.K++[q],vK:=s.vK+1:OSt}),(1000002,s2 {s with S:=s.S++[⟨us,dOf g⟩],vS:=s.vS+1,K:=s.K++[q],vK:=s.vK+1:OSt}),(1000003,s3 {s with S:=s.S++[⟨us,dOf g⟩],vS:=s.vS+1,K:=s.K++[q],vK:=s.vK+1:OSt}),(1000004,s4 {s with S:=s.S++[⟨us,dOf g⟩],vS:=s.vS+1,K:=s.K++[q],vK:=s.vK+1:OSt}),(1000005,s5 {s with S:=s.S++[⟨us,dOf g⟩],vS:=s.vS+1,K:=s.K++[q],vK:=s.vK+1:OSt}),(1000006,s6 {s with S:=s.S++[⟨us,dOf g⟩],vS:=s.vS+1,K:=s.K++[q],vK:=s.vK+1:OSt}),(1000007,s7 {s with S:=s.S++[⟨us,dOf g⟩],vS:=s.vS+1,K:=s.K++[q],vK:=s.vK+1:OSt})],8⟩:St)) (fun k0=>(g.length-k0)) (fun k0=>(k0<=g.length)) 0 (cO (.cons rfl rfl (.cons rfl rfl (.cons rfl rfl (.cons rfl rfl (.cons rfl rfl (.cons rfl rfl (.cons rfl rfl (.cons rfl rfl .nil)))))))) (.cons rfl rfl rfl (.cons rfl rfl rfl (.cons (by rfl) rfl (aa ab _ _) (.cons rfl rfl rfl (.cons rfl rfl rfl (.cons rfl rfl (aa ag _ _) (.cons rfl rfl (aa ai _ _) (.cons rfl rfl (aa ah _ _) (.cons rfl rfl (aa ao _ _) (.cons rfl rfl (aa ab _ _) (.cons rfl rfl (aa ae _ _) (.cons rfl rfl (aa aj _ _) .nil))))))))))))) (ag6 _) ?_)
   rintro k0 ha
   have hb:g.length<=140737488355328:=hg.1
   have hd:=ha
   refine cB (fun h4=>?_) (fun h4=>?_)
   ·have hf:k0<g.length:=Int.ofNat_lt.1 (ag4 h4)
    refine IdxG.of ‹_› (ArgG.mk (pm (x:=g[k0]) (y:=dOf g) (h5 _ (agt _)) (jk h5).1 (by have:=(jk h5).2;omega)) rfl ?_)
    rintro _ rfl
    refine OpG.lk (ak (k:=k0) ab Tryz.underlying66 jf rfl rfl rfl (by omega) rfl) ?_
    refine OpG.wr (az (k:=k0) (o:=0) (v:=flD g[k0] (dOf g)) ab jf rfl rfl rfl rfl rfl rfl (by rw[bw (A5 h8)];simp;omega) (by decide) rfl) rfl ?_
    refine⟨by kernel_rfl,?_⟩
    refine⟨by omega,?_⟩
    refine⟨(k0+1),by omega,(cO (.cons rfl rfl (.cons rfl rfl (.cons rfl rfl (.cons rfl rfl (.cons rfl rfl (.cons rfl rfl (.cons rfl rfl (.cons rfl rfl .nil)))))))) (.cons rfl rfl rfl (.cons rfl rfl rfl (.cons (by(rw[el (A5 h8) (by simp;omega) (fun h=>(pv (by omega) h).symm)];rfl)) rfl (aa ab _ _) (.cons rfl rfl rfl (.cons rfl rfl rfl (.cons rfl rfl (aa ag _ _) (.cons rfl rfl (aa ai _ _) (.cons rfl rfl (aa ah _ _) (.cons rfl rfl (aa ao _ _) (.cons rfl rfl (aa ab _ _) (.cons rfl rfl (aa ae _ _) (.cons rfl rfl (aa aj _ _) .nil))))))))))))),?_⟩
    omega
   have hh:¬k0<g.length:=fun h=>ag3 h4 (Int.ofNat_lt.2 h)
   refine RegG.via (fun _ h=>cd 6 ⟨0,rF bI (g.map (flD · (dOf g))),2,false⟩ rfl (by rw[dq (A5 h8) (by simp;omega)]) h) ?_
   refine RegG.via (fun _ h=>b8 [6] 7 0 0 [.v (.int .i64 ((s.K.length:Nat):Int)),.sl 6 0 0 s.n] (itA (⟨((s.K.length:Nat):Int),(g.map (flD · (dOf g)))⟩:ItS)) rfl rfl (.keep (.fz (bn ab (agy.2 rfl) rfl (by simp[h8])) (.same _))) rfl h) ?_
   refine ba ?_
   refine cB (fun h3=>?_) (fun h3=>?_)
   ·exfalso;simp[h6]at h3
   obtain⟨_,rfl,ho⟩:=As {s with S:=s.S++[⟨us,dOf g⟩],vS:=s.vS+1,K:=s.K++[q],vK:=s.vK+1:OSt} (⟨((s.K.length:Nat):Int),(g.map (flD · (dOf g)))⟩:ItS) s.K.length q rfl hr
   refine OpG.lk (cw (a8 [(1000000,1000000),(1000001,1000001),(1000002,1000002),(1000003,1000003),(1000004,1000004),(1000005,1000005),(1000006,1000006),(1000007,1000007)] tk ho rfl rfl rfl rfl ⟨rfl,sX ag,sX ai,sX ah,sX ao,sX ab,sX ae,sX aj,trivial⟩ ⟨⟨rfl,.inl rfl⟩,av ag,av ai,av ah,av ao,av ab,av ae,av aj,trivial⟩ ⟨rfl,au ag _ _,au ai _ _,au ah _ _,au ao _ _,au ab _ _,au ae _ _,au aj _ _,trivial⟩ rfl rfl rfl rfl rr rfl) ⟨⟨.head _,rfl,rfl⟩,⟨.tail _ (.head _),rfl,rfl⟩,⟨.tail _ (.tail _ (.head _)),rfl,rfl⟩,⟨.tail _ (.tail _ (.tail _ (.head _))),rfl,rfl⟩,⟨.tail _ (.tail _ (.tail _ (.tail _ (.head _)))),rfl,rfl⟩,⟨.tail _ (.tail _ (.tail _ (.tail _ (.tail _ (.head _))))),rfl,rfl⟩,⟨.tail _ (.tail _ (.tail _ (.tail _ (.tail _ (.tail _ (.head _)))))),rfl,rfl⟩,⟨.tail _ (.tail _ (.tail _ (.tail _ (.tail _ (.tail _ (.tail _ (.head _))))))),rfl,rfl⟩,trivial⟩) ?_
   refine ArgG.mk (lh (x:=q.b) hs) rfl ?_
   rintro _ rfl
   refine⟨by kernel_rfl,?_⟩
   refine⟨.inr rfl,_,Fg.of [] (aw rfl (.cons (acn.cellN lp rfl rfl trivial rfl rfl rfl) (.cons (acn.tmp rfl) (.cons (acn.tmp rfl) .nil)))) rfl ⟨.same rfl (by decide),.same rfl (by decide),.same rfl (by decide),.same rfl (by decide),.same rfl (by decide),.same rfl (by decide),.same rfl (by decide),.same rfl (by decide),trivial⟩ .same,?_⟩
   exact lf0 h6
  have hj:¬(((us.length:Nat):Int)>(1:Int)):=ag3 h9
  refine IdxG.of (j:=0) ‹_› (ArgG.mk (l9 (x:=us[0].n) (y:=1) (hu _ (agt _)) ⟨by decide,by decide⟩) rfl ?_)
  rintro _ rfl
  refine cB (fun h7=>?_) (fun h7=>?_)
  ·have hl:¬(((sgZ (us[0].n-1)):Int)=(0:Int)):=by simpa using h7
   exact absurd (h1 (by omega)) (fun e=>by rw[e]at h7;simp[sgZ]at h7)
  have hl:((sgZ (us[0].n-1)):Int)=(0:Int):=by simpa using h7
  refine ArgG.mk (l9 (x:=(dOf g)) (y:=1) (jk h5).1 ⟨by decide,by decide⟩) rfl ?_
  rintro _ rfl
  refine⟨by kernel_rfl,?_⟩
  refine cB (fun he=>?_) (fun he=>?_)
  ·have hp:¬(((sgZ ((dOf g)-1)):Int)=(0:Int)):=by simpa using he
   refine OpG.mk _ _ _ 4 (bh ai (l:=s.S) (a:=(⟨us,dOf g⟩:StS)) Tryz.underlying65 Pd O4 Re rfl rfl rfl (ce rfl rfl rfl rfl) rfl (by omega) (by omega) (by unfold TV;omega)) rfl rfl ?_
   refine⟨by kernel_rfl,?_⟩
   obtain⟨_,rfl,hk⟩:=Ph us hm {s with S:=s.S++[⟨us,dOf g⟩],vS:=s.vS+1:OSt} (dOf g) q (jk h5).2 (jk h5).1 hn hu hK hq
   refine ba ?_
   refine OpG.lk (cw (a8 [(1000000,1000000),(1000001,1000001),(1000002,1000002),(1000003,1000003),(1000004,1000004),(1000005,1000005),(1000006,1000006),(1000007,1000007)] Hm hk rfl rfl rfl rfl ⟨rfl,sX ag,sX ai,sX ah,sX ao,sX ab,sX ae,sX aj,trivial⟩ ⟨⟨rfl,.inl rfl⟩,av ag,av ai,av ah,av ao,av ab,av ae,av aj,trivial⟩ ⟨rfl,au ag _ _,au ai _ _,au ah _ _,au ao _ _,au ab _ _,au ae _ _,au aj _ _,trivial⟩ rfl rfl rfl rfl rr rfl) ⟨⟨.head _,rfl,rfl⟩,⟨.tail _ (.head _),rfl,rfl⟩,⟨.tail _ (.tail _ (.head _)),rfl,rfl⟩,⟨.tail _ (.tail _ (.tail _ (.head _))),rfl,rfl⟩,⟨.tail _ (.tail _ (.tail _ (.tail _ (.head _)))),rfl,rfl⟩,⟨.tail _ (.tail _ (.tail _ (.tail _ (.tail _ (.head _))))),rfl,rfl⟩,⟨.tail _ (.tail _ (.tail _ (.tail _ (.tail _ (.tail _ (.head _)))))),rfl,rfl⟩,⟨.tail _ (.tail _ (.tail _ (.tail _ (.tail _ (.tail _ (.tail _ (.head _))))))),rfl,rfl⟩,trivial⟩) ?_
   refine OpG.mk _ _ _ 5 (bh ag (l:=s.K) (a:=q) Tryz.underlying131 xh Dq Nr rfl rfl rfl (ce rfl rfl rfl rfl) rfl (by omega) (by omega) (by unfold TV;omega)) rfl rfl ?_
   refine⟨by kernel_rfl,?_⟩
   refine OpG.lk (bo rfl Tryz.underlying131 rfl rfl rfl) ?_
   refine OpG.lk (mu (r:=((s.K.length:Nat):Int)) rfl rfl (F4 z1)) ?_
   refine⟨by kernel_rfl,?_⟩
   refine⟨(by first|assumption|omega|decide),?_⟩
   refine OpG.nw (cq 6 (len:=s.n) Tryz.underlying66 jf Dj E6 rfl rfl rfl (by omega)) rfl ?_
   refine⟨by kernel_rfl,?_⟩
   refine LenG.of (LpG.on (fun k0:Nat=>(⟨fL [(0,.ptr 1000000 0 0),(1,.tree 2 (g.map bI)),(6,.ptr 0 0 0),(9,.ptr 1 0 0),(10,.v (.bool (!decide (sgZ (ku g)=0)))),(12,.ptr 7 0 0),(86,.v (.int .i64 ((g.length:Nat):Int))),(87,.v (.int .i64 ((k0:Nat):Int)))],hLz [(0,⟨0,[.v (.int .i64 0),.v (.slice none 0 0)],0,false⟩),(1,⟨0,bI (dOf g),0,false⟩),(6,⟨0,rF bI ((g.map (flD · (dOf g))).take k0++(List.replicate s.n 0).drop k0),2,false⟩),(7,⟨0,[.v (.int .i64 ((s.K.length:Nat):Int)),.sl 6 0 0 s.n],0,false⟩),(1000000,sB {s with S:=s.S++[⟨us,dOf g⟩],vS:=s.vS+1,K:=s.K++[q],vK:=s.vK+1:OSt}),(1000001,s1 {s with S:=s.S++[⟨us,dOf g⟩],vS:=s.vS+1,K:=s.K++[q],vK:=s.vK+1:OSt}),(1000002,s2 {s with S:=s.S++[⟨us,dOf g⟩],vS:=s.vS+1,K:=s.K++[q],vK:=s.vK+1:OSt}),(1000003,s3 {s with S:=s.S++[⟨us,dOf g⟩],vS:=s.vS+1,K:=s.K++[q],vK:=s.vK+1:OSt}),(1000004,s4 {s with S:=s.S++[⟨us,dOf g⟩],vS:=s.vS+1,K:=s.K++[q],vK:=s.vK+1:OSt}),(1000005,s5 {s with S:=s.S++[⟨us,dOf g⟩],vS:=s.vS+1,K:=s.K++[q],vK:=s.vK+1:OSt}),(1000006,s6 {s with S:=s.S++[⟨us,dOf g⟩],vS:=s.vS+1,K:=s.K++[q],vK:=s.vK+1:OSt}),(1000007,s7 {s with S:=s.S++[⟨us,dOf g⟩],vS:=s.vS+1,K:=s.K++[q],vK:=s.vK+1:OSt})],8⟩:St)) (fun k0=>(g.length-k0)) (fun k0=>(k0<=g.length)) 0 (cO (.cons rfl rfl (.cons rfl rfl (.cons rfl rfl (.cons rfl rfl (.cons rfl rfl (.cons rfl rfl (.cons rfl rfl (.cons rfl rfl .nil)))))))) (.cons rfl rfl rfl (.cons rfl rfl rfl (.cons (by rfl) rfl (aa ab _ _) (.cons rfl rfl rfl (.cons rfl rfl rfl (.cons rfl rfl (aa ag _ _) (.cons rfl rfl (aa ai _ _) (.cons rfl rfl (aa ah _ _) (.cons rfl rfl (aa ao _ _) (.cons rfl rfl (aa ab _ _) (.cons rfl rfl (aa ae _ _) (.cons rfl rfl (aa aj _ _) .nil))))))))))))) (ag6 _) ?_)
   rintro k0 ha
   have hb:g.length<=140737488355328:=hg.1
   have hd:=ha
   refine cB (fun h4=>?_) (fun h4=>?_)
   ·have hf:k0<g.length:=Int.ofNat_lt.1 (ag4 h4)
    refine IdxG.of ‹_› (ArgG.mk (pm (x:=g[k0]) (y:=dOf g) (h5 _ (agt _)) (jk h5).1 (by have:=(jk h5).2;omega)) rfl ?_)
    rintro _ rfl
    refine OpG.lk (ak (k:=k0) ab Tryz.underlying66 jf rfl rfl rfl (by omega) rfl) ?_
    refine OpG.wr (az (k:=k0) (o:=0) (v:=flD g[k0] (dOf g)) ab jf rfl rfl rfl rfl rfl rfl (by rw[bw (A5 h8)];simp;omega) (by decide) rfl) rfl ?_
    refine⟨by kernel_rfl,?_⟩
    refine⟨by omega,?_⟩
    refine⟨(k0+1),by omega,(cO (.cons rfl rfl (.cons rfl rfl (.cons rfl rfl (.cons rfl rfl (.cons rfl rfl (.cons rfl rfl (.cons rfl rfl (.cons rfl rfl .nil)))))))) (.cons rfl rfl rfl (.cons rfl rfl rfl (.cons (by(rw[el (A5 h8) (by simp;omega) (fun h=>(pv (by omega) h).symm)];rfl)) rfl (aa ab _ _) (.cons rfl rfl rfl (.cons rfl rfl rfl (.cons rfl rfl (aa ag _ _) (.cons rfl rfl (aa ai _ _) (.cons rfl rfl (aa ah _ _) (.cons rfl rfl (aa ao _ _) (.cons rfl rfl (aa ab _ _) (.cons rfl rfl (aa ae _ _) (.cons rfl rfl (aa aj _ _) .nil))))))))))))),?_⟩
    omega
   have hh:¬k0<g.length:=fun h=>ag3 h4 (Int.ofNat_lt.2 h)
   refine RegG.via (fun _ h=>cd 6 ⟨0,rF bI (g.map (flD · (dOf g))),2,false⟩ rfl (by rw[dq (A5 h8) (by simp;omega)]) h) ?_
   refine RegG.via (fun _ h=>b8 [6] 7 0 0 [.v (.int .i64 ((s.K.length:Nat):Int)),.sl 6 0 0 s.n] (itA (⟨((s.K.length:Nat):Int),(g.map (flD · (dOf g)))⟩:ItS)) rfl rfl (.keep (.fz (bn ab (agy.2 rfl) rfl (by simp[h8])) (.same _))) rfl h) ?_
   refine ba ?_
   refine cB (fun h3=>?_) (fun h3=>?_)
   ·exfalso;simp[h6]at h3
   obtain⟨_,rfl,ho⟩:=As {s with S:=s.S++[⟨us,dOf g⟩],vS:=s.vS+1,K:=s.K++[q],vK:=s.vK+1:OSt} (⟨((s.K.length:Nat):Int),(g.map (flD · (dOf g)))⟩:ItS) s.K.length q rfl hr
   refine OpG.lk (cw (a8 [(1000000,1000000),(1000001,1000001),(1000002,1000002),(1000003,1000003),(1000004,1000004),(1000005,1000005),(1000006,1000006),(1000007,1000007)] tk ho rfl rfl rfl rfl ⟨rfl,sX ag,sX ai,sX ah,sX ao,sX ab,sX ae,sX aj,trivial⟩ ⟨⟨rfl,.inl rfl⟩,av ag,av ai,av ah,av ao,av ab,av ae,av aj,trivial⟩ ⟨rfl,au ag _ _,au ai _ _,au ah _ _,au ao _ _,au ab _ _,au ae _ _,au aj _ _,trivial⟩ rfl rfl rfl rfl rr rfl) ⟨⟨.head _,rfl,rfl⟩,⟨.tail _ (.head _),rfl,rfl⟩,⟨.tail _ (.tail _ (.head _)),rfl,rfl⟩,⟨.tail _ (.tail _ (.tail _ (.head _))),rfl,rfl⟩,⟨.tail _ (.tail _ (.tail _ (.tail _ (.head _)))),rfl,rfl⟩,⟨.tail _ (.tail _ (.tail _ (.tail _ (.tail _ (.head _))))),rfl,rfl⟩,⟨.tail _ (.tail _ (.tail _ (.tail _ (.tail _ (.tail _ (.head _)))))),rfl,rfl⟩,⟨.tail _ (.tail _ (.tail _ (.tail _ (.tail _ (.tail _ (.tail _ (.head _))))))),rfl,rfl⟩,trivial⟩) ?_
   refine ArgG.mk (lh (x:=q.b) hs) rfl ?_
   rintro _ rfl
   refine⟨by kernel_rfl,?_⟩
   refine⟨.inr rfl,_,Fg.of [] (aw rfl (.cons (acn.cellN lp rfl rfl trivial rfl rfl rfl) (.cons (acn.tmp rfl) (.cons (acn.tmp rfl) .nil)))) rfl ⟨.same rfl (by decide),.same rfl (by decide),.same rfl (by decide),.same rfl (by decide),.same rfl (by decide),.same rfl (by decide),.same rfl (by decide),.same rfl (by decide),trivial⟩ .same,?_⟩
   exact lf0 h6
  exfalso;have:=sgZ_0.1 (by simpa using he:sgZ (dOf g-1)=0);omega
 have h6:¬(((sgZ ((ku g))):Int)=(0:Int)):=by simpa using hi
 refine RegG.via (fun _ h=>cd 1 ⟨0,bI (dOf g),0,false⟩ rfl (by exact blkN h6) h) ?_
 refine ba ?_
 refine ArgG.mk (nq (n:=1) ⟨by decide,by decide⟩) rfl ?_
 rintro _ rfl
 refine LenG.of (cB (fun h9=>?_) (fun h9=>?_))
 ·have hj:((us.length:Nat):Int)>(1:Int):=ag4 h9
  refine cT ⟨by kernel_rfl,cT ?_⟩
  refine OpG.mk _ _ _ 4 (bh ai (l:=s.S) (a:=(⟨us,dOf g⟩:StS)) Tryz.underlying65 Pd O4 Re rfl rfl rfl (ce rfl rfl rfl rfl) rfl (by omega) (by omega) (by unfold TV;omega)) rfl rfl ?_
  refine⟨by kernel_rfl,?_⟩
  obtain⟨_,rfl,hk⟩:=Ph us hm {s with S:=s.S++[⟨us,dOf g⟩],vS:=s.vS+1:OSt} (dOf g) q (jk h5).2 (jk h5).1 hn hu hK hq
  refine ba ?_
  refine OpG.lk (cw (a8 [(1000000,1000000),(1000001,1000001),(1000002,1000002),(1000003,1000003),(1000004,1000004),(1000005,1000005),(1000006,1000006),(1000007,1000007)] Hm hk rfl rfl rfl rfl ⟨rfl,sX ag,sX ai,sX ah,sX ao,sX ab,sX ae,sX aj,trivial⟩ ⟨⟨rfl,.inl rfl⟩,av ag,av ai,av ah,av ao,av ab,av ae,av aj,trivial⟩ ⟨rfl,au ag _ _,au ai _ _,au ah _ _,au ao _ _,au ab _ _,au ae _ _,au aj _ _,trivial⟩ rfl rfl rfl rfl rr rfl) ⟨⟨.head _,rfl,rfl⟩,⟨.tail _ (.head _),rfl,rfl⟩,⟨.tail _ (.tail _ (.head _)),rfl,rfl⟩,⟨.tail _ (.tail _ (.tail _ (.head _))),rfl,rfl⟩,⟨.tail _ (.tail _ (.tail _ (.tail _ (.head _)))),rfl,rfl⟩,⟨.tail _ (.tail _ (.tail _ (.tail _ (.tail _ (.head _))))),rfl,rfl⟩,⟨.tail _ (.tail _ (.tail _ (.tail _ (.tail _ (.tail _ (.head _)))))),rfl,rfl⟩,⟨.tail _ (.tail _ (.tail _ (.tail _ (.tail _ (.tail _ (.tail _ (.head _))))))),rfl,rfl⟩,trivial⟩) ?_
  refine OpG.mk _ _ _ 5 (bh ag (l:=s.K) (a:=q) Tryz.underlying131 xh Dq Nr rfl rfl rfl (ce rfl rfl rfl rfl) rfl (by omega) (by omega) (by unfold TV;omega)) rfl rfl ?_
  refine⟨by kernel_rfl,?_⟩
  refine OpG.lk (bo rfl Tryz.underlying131 rfl rfl rfl) ?_
  refine OpG.lk (mu (r:=((s.K.length:Nat):Int)) rfl rfl (F4 z1)) ?_
  refine⟨by kernel_rfl,?_⟩
  refine⟨(by first|assumption|omega|decide),?_⟩
  refine OpG.nw (cq 6 (len:=s.n) Tryz.underlying66 jf Dj E6 rfl rfl rfl (by omega)) rfl ?_
  refine⟨by kernel_rfl,?_⟩
  refine LenG.of (LpG.on (fun k0:Nat=>(⟨fL [(0,.ptr 1000000 0 0),(1,.tree 2 (g.map bI)),(6,.ptr 0 0 0),(9,.ptr 1 0 0),(10,.v (.bool (!decide (sgZ (ku g)=0)))),(12,.ptr 7 0 0),(86,.v (.int .i64 ((g.length:Nat):Int))),(87,.v (.int .i64 ((k0:Nat):Int)))],hLz [(0,⟨0,[.v (.int .i64 0),.v (.slice none 0 0)],0,false⟩),(1,⟨0,bI (dOf g),0,false⟩),(6,⟨0,rF bI ((g.map (flD · (dOf g))).take k0++(List.replicate s.n 0).drop k0),2,false⟩),(7,⟨0,[.v (.int .i64 ((s.K.length:Nat):Int)),.sl 6 0 0 s.n],0,false⟩),(1000000,sB {s with S:=s.S++[⟨us,dOf g⟩],vS:=s.vS+1,K:=s.K++[q],vK:=s.vK+1:OSt}),(1000001,s1 {s with S:=s.S++[⟨us,dOf g⟩],vS:=s.vS+1,K:=s.K++[q],vK:=s.vK+1:OSt}),(1000002,s2 {s with S:=s.S++[⟨us,dOf g⟩],vS:=s.vS+1,K:=s.K++[q],vK:=s.vK+1:OSt}),(1000003,s3 {s with S:=s.S++[⟨us,dOf g⟩],vS:=s.vS+1,K:=s.K++[q],vK:=s.vK+1:OSt}),(1000004,s4 {s with S:=s.S++[⟨us,dOf g⟩],vS:=s.vS+1,K:=s.K++[q],vK:=s.vK+1:OSt}),(1000005,s5 {s with S:=s.S++[⟨us,dOf g⟩],vS:=s.vS+1,K:=s.K++[q],vK:=s.vK+1:OSt}),(1000006,s6 {s with S:=s.S++[⟨us,dOf g⟩],vS:=s.vS+1,K:=s.K++[q],vK:=s.vK+1:OSt}),(1000007,s7 {s with S:=s.S++[⟨us,dOf g⟩],vS:=s.vS+1,K:=s.K++[q],vK:=s.vK+1:OSt})],8⟩:St)) (fun k0=>(g.length-k0)) (fun k0=>(k0<=g.length)) 0 (cO (.cons rfl rfl (.cons rfl rfl (.cons rfl rfl (.cons rfl rfl (.cons rfl rfl (.cons rfl rfl (.cons rfl rfl (.cons rfl rfl .nil)))))))) (.cons rfl rfl rfl (.cons rfl rfl rfl (.cons (by rfl) rfl (aa ab _ _) (.cons rfl rfl rfl (.cons rfl rfl rfl (.cons rfl rfl (aa ag _ _) (.cons rfl rfl (aa ai _ _) (.cons rfl rfl (aa ah _ _) (.cons rfl rfl (aa ao _ _) (.cons rfl rfl (aa ab _ _) (.cons rfl rfl (aa ae _ _) (.cons rfl rfl (aa aj _ _) .nil))))))))))))) (ag6 _) ?_)
  rintro k0 ha
  have hb:g.length<=140737488355328:=hg.1
  have hd:=ha
  refine cB (fun h4=>?_) (fun h4=>?_)
  ·have hf:k0<g.length:=Int.ofNat_lt.1 (ag4 h4)
   refine IdxG.of ‹_› (ArgG.mk (pm (x:=g[k0]) (y:=dOf g) (h5 _ (agt _)) (jk h5).1 (by have:=(jk h5).2;omega)) rfl ?_)
   rintro _ rfl
   refine OpG.lk (ak (k:=k0) ab Tryz.underlying66 jf rfl rfl rfl (by omega) rfl) ?_
   refine OpG.wr (az (k:=k0) (o:=0) (v:=flD g[k0] (dOf g)) ab jf rfl rfl rfl rfl rfl rfl (by rw[bw (A5 h8)];simp;omega) (by decide) rfl) rfl ?_
   refine⟨by kernel_rfl,?_⟩
   refine⟨by omega,?_⟩
   refine⟨(k0+1),by omega,(cO (.cons rfl rfl (.cons rfl rfl (.cons rfl rfl (.cons rfl rfl (.cons rfl rfl (.cons rfl rfl (.cons rfl rfl (.cons rfl rfl .nil)))))))) (.cons rfl rfl rfl (.cons rfl rfl rfl (.cons (by(rw[el (A5 h8) (by simp;omega) (fun h=>(pv (by omega) h).symm)];rfl)) rfl (aa ab _ _) (.cons rfl rfl rfl (.cons rfl rfl rfl (.cons rfl rfl (aa ag _ _) (.cons rfl rfl (aa ai _ _) (.cons rfl rfl (aa ah _ _) (.cons rfl rfl (aa ao _ _) (.cons rfl rfl (aa ab _ _) (.cons rfl rfl (aa ae _ _) (.cons rfl rfl (aa aj _ _) .nil))))))))))))),?_⟩
   omega
  have hh:¬k0<g.length:=fun h=>ag3 h4 (Int.ofNat_lt.2 h)
  refine RegG.via (fun _ h=>cd 6 ⟨0,rF bI (g.map (flD · (dOf g))),2,false⟩ rfl (by rw[dq (A5 h8) (by simp;omega)]) h) ?_
  refine RegG.via (fun _ h=>b8 [6] 7 0 0 [.v (.int .i64 ((s.K.length:Nat):Int)),.sl 6 0 0 s.n] (itA (⟨((s.K.length:Nat):Int),(g.map (flD · (dOf g)))⟩:ItS)) rfl rfl (.keep (.fz (bn ab (agy.2 rfl) rfl (by simp[h8])) (.same _))) rfl h) ?_
  refine ba ?_
  refine cB (fun h3=>?_) (fun h3=>?_)
  ·refine⟨by kernel_rfl,?_⟩
   refine⟨.inr rfl,_,Fg.of [] (aw rfl (.cons (acn.cellN lp rfl rfl trivial rfl rfl rfl) (.cons (acn.tmp rfl) (.cons (acn.tmp rfl) .nil)))) rfl ⟨.same rfl (by decide),.same rfl (by decide),.same rfl (by decide),.same rfl (by decide),.same rfl (by decide),.same rfl (by decide),.same rfl (by decide),.same rfl (by decide),trivial⟩ .same,?_⟩
   exact lfN h6
  exfalso;simp[h6]at h3
 have hj:¬(((us.length:Nat):Int)>(1:Int)):=ag3 h9
 refine IdxG.of (j:=0) ‹_› (ArgG.mk (l9 (x:=us[0].n) (y:=1) (hu _ (agt _)) ⟨by decide,by decide⟩) rfl ?_)
 rintro _ rfl
 refine cB (fun h7=>?_) (fun h7=>?_)
 ·have hl:¬(((sgZ (us[0].n-1)):Int)=(0:Int)):=by simpa using h7
  exact absurd (h1 (by omega)) (fun e=>by rw[e]at h7;simp[sgZ]at h7)
 have hl:((sgZ (us[0].n-1)):Int)=(0:Int):=by simpa using h7
 refine ArgG.mk (l9 (x:=(dOf g)) (y:=1) (jk h5).1 ⟨by decide,by decide⟩) rfl ?_
 rintro _ rfl
 refine⟨by kernel_rfl,?_⟩
 refine cB (fun he=>?_) (fun he=>?_)
 ·have hp:¬(((sgZ ((dOf g)-1)):Int)=(0:Int)):=by simpa using he
  refine OpG.mk _ _ _ 4 (bh ai (l:=s.S) (a:=(⟨us,dOf g⟩:StS)) Tryz.underlying65 Pd O4 Re rfl rfl rfl (ce rfl rfl rfl rfl) rfl (by omega) (by omega) (by unfold TV;omega)) rfl rfl ?_
  refine⟨by kernel_rfl,?_⟩
  obtain⟨_,rfl,hk⟩:=Ph us hm {s with S:=s.S++[⟨us,dOf g⟩],vS:=s.vS+1:OSt} (dOf g) q (jk h5).2 (jk h5).1 hn hu hK hq
  refine ba ?_
  refine OpG.lk (cw (a8 [(1000000,1000000),(1000001,1000001),(1000002,1000002),(1000003,1000003),(1000004,1000004),(1000005,1000005),(1000006,1000006),(1000007,1000007)] Hm hk rfl rfl rfl rfl ⟨rfl,sX ag,sX ai,sX ah,sX ao,sX ab,sX ae,sX aj,trivial⟩ ⟨⟨rfl,.inl rfl⟩,av ag,av ai,av ah,av ao,av ab,av ae,av aj,trivial⟩ ⟨rfl,au ag _ _,au ai _ _,au ah _ _,au ao _ _,au ab _ _,au ae _ _,au aj _ _,trivial⟩ rfl rfl rfl rfl rr rfl) ⟨⟨.head _,rfl,rfl⟩,⟨.tail _ (.head _),rfl,rfl⟩,⟨.tail _ (.tail _ (.head _)),rfl,rfl⟩,⟨.tail _ (.tail _ (.tail _ (.head _))),rfl,rfl⟩,⟨.tail _ (.tail _ (.tail _ (.tail _ (.head _)))),rfl,rfl⟩,⟨.tail _ (.tail _ (.tail _ (.tail _ (.tail _ (.head _))))),rfl,rfl⟩,⟨.tail _ (.tail _ (.tail _ (.tail _ (.tail _ (.tail _ (.head _)))))),rfl,rfl⟩,⟨.tail _ (.tail _ (.tail _ (.tail _ (.tail _ (.tail _ (.tail _ (.head _))))))),rfl,rfl⟩,trivial⟩) ?_
  refine OpG.mk _ _ _ 5 (bh ag (l:=s.K) (a:=q) Tryz.underlying131 xh Dq Nr rfl rfl rfl (ce rfl rfl rfl rfl) rfl (by omega) (by omega) (by unfold TV;omega)) rfl rfl ?_
  refine⟨by kernel_rfl,?_⟩
  refine OpG.lk (bo rfl Tryz.underlying131 rfl rfl rfl) ?_
  refine OpG.lk (mu (r:=((s.K.length:Nat):Int)) rfl rfl (F4 z1)) ?_
  refine⟨by kernel_rfl,?_⟩
  refine⟨(by first|assumption|omega|decide),?_⟩
  refine OpG.nw (cq 6 (len:=s.n) Tryz.underlying66 jf Dj E6 rfl rfl rfl (by omega)) rfl ?_
  refine⟨by kernel_rfl,?_⟩
  refine LenG.of (LpG.on (fun k0:Nat=>(⟨fL [(0,.ptr 1000000 0 0),(1,.tree 2 (g.map bI)),(6,.ptr 0 0 0),(9,.ptr 1 0 0),(10,.v (.bool (!decide (sgZ (ku g)=0)))),(12,.ptr 7 0 0),(86,.v (.int .i64 ((g.length:Nat):Int))),(87,.v (.int .i64 ((k0:Nat):Int)))],hLz [(0,⟨0,[.v (.int .i64 0),.v (.slice none 0 0)],0,false⟩),(1,⟨0,bI (dOf g),0,false⟩),(6,⟨0,rF bI ((g.map (flD · (dOf g))).take k0++(List.replicate s.n 0).drop k0),2,false⟩),(7,⟨0,[.v (.int .i64 ((s.K.length:Nat):Int)),.sl 6 0 0 s.n],0,false⟩),(1000000,sB {s with S:=s.S++[⟨us,dOf g⟩],vS:=s.vS+1,K:=s.K++[q],vK:=s.vK+1:OSt}),(1000001,s1 {s with S:=s.S++[⟨us,dOf g⟩],vS:=s.vS+1,K:=s.K++[q],vK:=s.vK+1:OSt}),(1000002,s2 {s with S:=s.S++[⟨us,dOf g⟩],vS:=s.vS+1,K:=s.K++[q],vK:=s.vK+1:OSt}),(1000003,s3 {s with S:=s.S++[⟨us,dOf g⟩],vS:=s.vS+1,K:=s.K++[q],vK:=s.vK+1:OSt}),(1000004,s4 {s with S:=s.S++[⟨us,dOf g⟩],vS:=s.vS+1,K:=s.K++[q],vK:=s.vK+1:OSt}),(1000005,s5 {s with S:=s.S++[⟨us,dOf g⟩],vS:=s.vS+1,K:=s.K++[q],vK:=s.vK+1:OSt}),(1000006,s6 {s with S:=s.S++[⟨us,dOf g⟩],vS:=s.vS+1,K:=s.K++[q],vK:=s.vK+1:OSt}),(1000007,s7 {s with S:=s.S++[⟨us,dOf g⟩],vS:=s.vS+1,K:=s.K++[q],vK:=s.vK+1:OSt})],8⟩:St)) (fun k0=>(g.length-k0)) (fun k0=>(k0<=g.length)) 0 (cO (.cons rfl rfl (.cons rfl rfl (.cons rfl rfl (.cons rfl rfl (.cons rfl rfl (.cons rfl rfl (.cons rfl rfl (.cons rfl rfl .nil)))))))) (.cons rfl rfl rfl (.cons rfl rfl rfl (.cons (by rfl) rfl (aa ab _ _) (.cons rfl rfl rfl (.cons rfl rfl rfl (.cons rfl rfl (aa ag _ _) (.cons rfl rfl (aa ai _ _) (.cons rfl rfl (aa ah _ _) (.cons rfl rfl (aa ao _ _) (.cons rfl rfl (aa ab _ _) (.cons rfl rfl (aa ae _ _) (.cons rfl rfl (aa aj _ _) .nil))))))))))))) (ag6 _) ?_)
  rintro k0 ha
  have hb:g.length<=140737488355328:=hg.1
  have hd:=ha
  refine cB (fun h4=>?_) (fun h4=>?_)
  ·have hf:k0<g.length:=Int.ofNat_lt.1 (ag4 h4)
   refine IdxG.of ‹_› (ArgG.mk (pm (x:=g[k0]) (y:=dOf g) (h5 _ (agt _)) (jk h5).1 (by have:=(jk h5).2;omega)) rfl ?_)
   rintro _ rfl
   refine OpG.lk (ak (k:=k0) ab Tryz.underlying66 jf rfl rfl rfl (by omega) rfl) ?_
   refine OpG.wr (az (k:=k0) (o:=0) (v:=flD g[k0] (dOf g)) ab jf rfl rfl rfl rfl rfl rfl (by rw[bw (A5 h8)];simp;omega) (by decide) rfl) rfl ?_
   refine⟨by kernel_rfl,?_⟩
   refine⟨by omega,?_⟩
   refine⟨(k0+1),by omega,(cO (.cons rfl rfl (.cons rfl rfl (.cons rfl rfl (.cons rfl rfl (.cons rfl rfl (.cons rfl rfl (.cons rfl rfl (.cons rfl rfl .nil)))))))) (.cons rfl rfl rfl (.cons rfl rfl rfl (.cons (by(rw[el (A5 h8) (by simp;omega) (fun h=>(pv (by omega) h).symm)];rfl)) rfl (aa ab _ _) (.cons rfl rfl rfl (.cons rfl rfl rfl (.cons rfl rfl (aa ag _ _) (.cons rfl rfl (aa ai _ _) (.cons rfl rfl (aa ah _ _) (.cons rfl rfl (aa ao _ _) (.cons rfl rfl (aa ab _ _) (.cons rfl rfl (aa ae _ _) (.cons rfl rfl (aa aj _ _) .nil))))))))))))),?_⟩
   omega
  have hh:¬k0<g.length:=fun h=>ag3 h4 (Int.ofNat_lt.2 h)
  refine RegG.via (fun _ h=>cd 6 ⟨0,rF bI (g.map (flD · (dOf g))),2,false⟩ rfl (by rw[dq (A5 h8) (by simp;omega)]) h) ?_
  refine RegG.via (fun _ h=>b8 [6] 7 0 0 [.v (.int .i64 ((s.K.length:Nat):Int)),.sl 6 0 0 s.n] (itA (⟨((s.K.length:Nat):Int),(g.map (flD · (dOf g)))⟩:ItS)) rfl rfl (.keep (.fz (bn ab (agy.2 rfl) rfl (by simp[h8])) (.same _))) rfl h) ?_
  refine ba ?_
  refine cB (fun h3=>?_) (fun h3=>?_)
  ·refine⟨by kernel_rfl,?_⟩
   refine⟨.inr rfl,_,Fg.of [] (aw rfl (.cons (acn.cellN lp rfl rfl trivial rfl rfl rfl) (.cons (acn.tmp rfl) (.cons (acn.tmp rfl) .nil)))) rfl ⟨.same rfl (by decide),.same rfl (by decide),.same rfl (by decide),.same rfl (by decide),.same rfl (by decide),.same rfl (by decide),.same rfl (by decide),.same rfl (by decide),trivial⟩ .same,?_⟩
   exact lfN h6
  exfalso;simp[h6]at h3
 exfalso;have:=sgZ_0.1 (by simpa using he:sgZ (dOf g-1)=0);omega
theorem abo(g:List Int)(hg:fy g (fun y=>True))(us:List UsS)(hus:fy us (fun y=>True))(s:OSt)(x:ItS)(sm ok:Bool)(s':OSt)(hn1:s.n<=1000)(ha:g.length=s.n)(h9:BL g)(hu:∀u∈us,B1 u.n)(hK:∀q∈s.K,BQ q)(hul:us.length<100000)(h0:0<us.length)(h1:us.length=1->us[0].n=1)(h:Iw s g us=some (s',x,sm,ok))(hc:¬(1<us.length\/dOf g≠1)):o7 Tryz.prog 117 [.ptr 1000000 0 0,.tree 2 (g.map bI),.tree 3 (us.map usA)] [(1000000,sB s),(1000001,s1 s),(1000002,s2 s),(1000003,s3 s),(1000004,s4 s),(1000005,s5 s),(1000006,s6 s),(1000007,s7 s)] [(1000000,some (sB s')),(1000001,some (s1 s')),(1000002,some (s2 s')),(1000003,some (s3 s')),(1000004,some (s4 s')),(1000005,some (s5 s')),(1000006,some (s6 s')),(1000007,some (s7 s'))] (fun q=>q=.tup [.agg (itA x),.v (.bool sm),.v (.bool ok)]):=by
 obtain⟨j,hj,ho,rfl,rfl,rfl,rfl⟩:=E0 h0 h hc
 have hp:=hK _ (agt hj)
 have hn:dOf g=1:=by rcases Int.lt_trichotomy (dOf g) 1 with h|h|h<;>first|exact h|exact absurd (.inr (by omega)) hc
 have hq:=hp.b
 refine o7.of_vc ik [83,103,111,100103] [5,16] Tryz.func117 rfl Tryz.ntmps117 rfl (by kernel_rfl) ?_
 refine ArgG.mk (Tc g hg h9 (by omega)) rfl ?_
 rintro _ rfl
 refine ArgG.mk (lh (x:=(ku g)) (Mj h9).1) rfl ?_
 rintro _ rfl
 refine cB (fun hb=>?_) (fun hb=>?_)
 ·have h5:((sgZ ((ku g))):Int)=(0:Int):=by simpa using hb
  refine ArgG.mk (nq (n:=1) ⟨by decide,by decide⟩) rfl ?_
  rintro _ rfl
  refine RegG.via (fun _ h=>cd 1 ⟨0,bI (dOf g),0,false⟩ rfl (by exact blk0 h5) h) ?_
  refine ba ?_
  refine ArgG.mk (nq (n:=1) ⟨by decide,by decide⟩) rfl ?_
  rintro _ rfl
  refine LenG.of (cB (fun h6=>?_) (fun h6=>?_))
  ·have hd:((us.length:Nat):Int)>(1:Int):=ag4 h6
   exact absurd (Or.inl (by omega)) hc
  have hd:¬(((us.length:Nat):Int)>(1:Int)):=ag3 h6
  refine IdxG.of (j:=0) ‹_› (ArgG.mk (l9 (x:=us[0].n) (y:=1) (hu _ (agt _)) ⟨by decide,by decide⟩) rfl ?_)
  rintro _ rfl
  refine cB (fun h2=>?_) (fun h2=>?_)
  ·have he:¬(((sgZ (us[0].n-1)):Int)=(0:Int)):=by simpa using h2
   exact absurd (h1 (by omega)) (fun e=>by rw[e]at h2;simp[sgZ]at h2)
  have he:((sgZ (us[0].n-1)):Int)=(0:Int):=by simpa using h2
  refine ArgG.mk (l9 (x:=(dOf g)) (y:=1) (jk h9).1 ⟨by decide,by decide⟩) rfl ?_
  rintro _ rfl
  refine⟨by kernel_rfl,?_⟩
  refine cB (fun h3=>?_) (fun h3=>?_)
  ·exfalso;rw[hn]at h3;simp[sgZ]at h3
  have hm:((sgZ ((dOf g)-1)):Int)=(0:Int):=by simpa using h3
  refine IdxG.of (j:=0) ‹_› (OpG.nw (cq 3 (len:=s.n) Tryz.underlying66 jf Dj E6 rfl rfl rfl (by omega)) rfl ?_)
  refine⟨by kernel_rfl,?_⟩
  refine LenG.of (LpG.on (fun k0:Nat=>(⟨fL [(0,.ptr 1000000 0 0),(1,.tree 2 (g.map bI)),(6,.ptr 0 0 0),(9,.ptr 1 0 0),(10,.v (.bool (!decide (sgZ (ku g)=0)))),(12,.ptr 4 0 0),(86,.v (.int .i64 ((g.length:Nat):Int))),(87,.v (.int .i64 ((k0:Nat):Int)))],hLz [(0,⟨0,[.v (.int .i64 0),.v (.slice none 0 0)],0,false⟩),(1,⟨0,bI (dOf g),0,false⟩),(3,⟨0,rF bI ((g.map (flD · (dOf g))).take k0++(List.replicate s.n 0).drop k0),2,false⟩),(4,⟨0,[.v (.int .i64 us[0].i),.sl 3 0 0 s.n],0,false⟩),(1000000,sB s),(1000001,s1 s),(1000002,s2 s),(1000003,s3 s),(1000004,s4 s),(1000005,s5 s),(1000006,s6 s),(1000007,s7 s)],5⟩:St)) (fun k0=>(g.length-k0)) (fun k0=>(k0<=g.length)) 0 (cO (.cons rfl rfl (.cons rfl rfl (.cons rfl rfl (.cons rfl rfl (.cons rfl rfl (.cons rfl rfl (.cons rfl rfl (.cons rfl rfl .nil)))))))) (.cons rfl rfl rfl (.cons rfl rfl rfl (.cons (by rfl) rfl (aa ab _ _) (.cons rfl rfl rfl (.cons rfl rfl rfl (.cons rfl rfl (aa ag _ _) (.cons rfl rfl (aa ai _ _) (.cons rfl rfl (aa ah _ _) (.cons rfl rfl (aa ao _ _) (.cons rfl rfl (aa ab _ _) (.cons rfl rfl (aa ae _ _) (.cons rfl rfl (aa aj _ _) .nil))))))))))))) (ag6 _) ?_)
  rintro k0 hf
  have hh:g.length<=140737488355328:=hg.1
  have hi:=hf
  refine cB (fun h7=>?_) (fun h7=>?_)
  ·have hk:k0<g.length:=Int.ofNat_lt.1 (ag4 h7)
   refine IdxG.of ‹_› (ArgG.mk (pm (x:=g[k0]) (y:=dOf g) (h9 _ (agt _)) (jk h9).1 (by have:=(jk h9).2;omega)) rfl ?_)
   rintro _ rfl
   refine OpG.lk (ak (k:=k0) ab Tryz.underlying66 jf rfl rfl rfl (by omega) rfl) ?_
   refine OpG.wr (az (k:=k0) (o:=0) (v:=flD g[k0] (dOf g)) ab jf rfl rfl rfl rfl rfl rfl (by rw[bw (A5 ha)];simp;omega) (by decide) rfl) rfl ?_
   refine⟨by kernel_rfl,?_⟩
   refine⟨by omega,?_⟩
   refine⟨(k0+1),by omega,(cO (.cons rfl rfl (.cons rfl rfl (.cons rfl rfl (.cons rfl rfl (.cons rfl rfl (.cons rfl rfl (.cons rfl rfl (.cons rfl rfl .nil)))))))) (.cons rfl rfl rfl (.cons rfl rfl rfl (.cons (by(rw[el (A5 ha) (by simp;omega) (fun h=>(pv (by omega) h).symm)];rfl)) rfl (aa ab _ _) (.cons rfl rfl rfl (.cons rfl rfl rfl (.cons rfl rfl (aa ag _ _) (.cons rfl rfl (aa ai _ _) (.cons rfl rfl (aa ah _ _) (.cons rfl rfl (aa ao _ _) (.cons rfl rfl (aa ab _ _) (.cons rfl rfl (aa ae _ _) (.cons rfl rfl (aa aj _ _) .nil))))))))))))),?_⟩
   omega
  have hl:¬k0<g.length:=fun h=>ag3 h7 (Int.ofNat_lt.2 h)
  refine RegG.via (fun _ h=>cd 3 ⟨0,rF bI (g.map (flD · (dOf g))),2,false⟩ rfl (by rw[dq (A5 ha) (by simp;omega)]) h) ?_
  refine RegG.via (fun _ h=>b8 [3] 4 0 0 [.v (.int .i64 us[0].i),.sl 3 0 0 s.n] (itA (⟨us[0].i,(g.map (flD · (dOf g)))⟩:ItS)) rfl rfl (.keep (.fz (bn ab (agy.2 rfl) rfl (by simp[ha])) (.same _))) rfl h) ?_
  refine ba ?_
  refine cB (fun h4=>?_) (fun h4=>?_)
  ·exfalso;simp[h5]at h4
  obtain⟨_,rfl,hr⟩:=As s (⟨us[0].i,(g.map (flD · (dOf g)))⟩:ItS) j s.K[j] ho (agu hj)
  refine OpG.lk (cw (a8 [(1000000,1000000),(1000001,1000001),(1000002,1000002),(1000003,1000003),(1000004,1000004),(1000005,1000005),(1000006,1000006),(1000007,1000007)] tk hr rfl rfl rfl rfl ⟨rfl,sX ag,sX ai,sX ah,sX ao,sX ab,sX ae,sX aj,trivial⟩ ⟨⟨rfl,.inl rfl⟩,av ag,av ai,av ah,av ao,av ab,av ae,av aj,trivial⟩ ⟨rfl,au ag _ _,au ai _ _,au ah _ _,au ao _ _,au ab _ _,au ae _ _,au aj _ _,trivial⟩ rfl rfl rfl rfl rr rfl) ⟨⟨.head _,rfl,rfl⟩,⟨.tail _ (.head _),rfl,rfl⟩,⟨.tail _ (.tail _ (.head _)),rfl,rfl⟩,⟨.tail _ (.tail _ (.tail _ (.head _))),rfl,rfl⟩,⟨.tail _ (.tail _ (.tail _ (.tail _ (.head _)))),rfl,rfl⟩,⟨.tail _ (.tail _ (.tail _ (.tail _ (.tail _ (.head _))))),rfl,rfl⟩,⟨.tail _ (.tail _ (.tail _ (.tail _ (.tail _ (.tail _ (.head _)))))),rfl,rfl⟩,⟨.tail _ (.tail _ (.tail _ (.tail _ (.tail _ (.tail _ (.tail _ (.head _))))))),rfl,rfl⟩,trivial⟩) ?_
  refine ArgG.mk (lh (x:=s.K[j].b) hq) rfl ?_
  rintro _ rfl
  refine⟨by kernel_rfl,?_⟩
  refine⟨.inr rfl,_,Fg.of [] (aw rfl (.cons (acn.cellN lp rfl rfl trivial rfl rfl rfl) (.cons (acn.tmp rfl) (.cons (acn.tmp rfl) .nil)))) rfl ⟨.same rfl (by decide),.same rfl (by decide),.same rfl (by decide),.same rfl (by decide),.same rfl (by decide),.same rfl (by decide),.same rfl (by decide),.same rfl (by decide),trivial⟩ .same,?_⟩
  exact lf0 h5
 have h5:¬(((sgZ ((ku g))):Int)=(0:Int)):=by simpa using hb
 refine RegG.via (fun _ h=>cd 1 ⟨0,bI (dOf g),0,false⟩ rfl (by exact blkN h5) h) ?_
 refine ba ?_
 refine ArgG.mk (nq (n:=1) ⟨by decide,by decide⟩) rfl ?_
 rintro _ rfl
 refine LenG.of (cB (fun h6=>?_) (fun h6=>?_))
 ·have hd:((us.length:Nat):Int)>(1:Int):=ag4 h6
  exact absurd (Or.inl (by omega)) hc
 have hd:¬(((us.length:Nat):Int)>(1:Int)):=ag3 h6
 refine IdxG.of (j:=0) ‹_› (ArgG.mk (l9 (x:=us[0].n) (y:=1) (hu _ (agt _)) ⟨by decide,by decide⟩) rfl ?_)
 rintro _ rfl
 refine cB (fun h2=>?_) (fun h2=>?_)
 ·have he:¬(((sgZ (us[0].n-1)):Int)=(0:Int)):=by simpa using h2
  exact absurd (h1 (by omega)) (fun e=>by rw[e]at h2;simp[sgZ]at h2)
 have he:((sgZ (us[0].n-1)):Int)=(0:Int):=by simpa using h2
 refine ArgG.mk (l9 (x:=(dOf g)) (y:=1) (jk h9).1 ⟨by decide,by decide⟩) rfl ?_
 rintro _ rfl
 refine⟨by kernel_rfl,?_⟩
 refine cB (fun h3=>?_) (fun h3=>?_)
 ·exfalso;rw[hn]at h3;simp[sgZ]at h3
 have hm:((sgZ ((dOf g)-1)):Int)=(0:Int):=by simpa using h3
 refine IdxG.of (j:=0) ‹_› (OpG.nw (cq 3 (len:=s.n) Tryz.underlying66 jf Dj E6 rfl rfl rfl (by omega)) rfl ?_)
 refine⟨by kernel_rfl,?_⟩
 refine LenG.of (LpG.on (fun k0:Nat=>(⟨fL [(0,.ptr 1000000 0 0),(1,.tree 2 (g.map bI)),(6,.ptr 0 0 0),(9,.ptr 1 0 0),(10,.v (.bool (!decide (sgZ (ku g)=0)))),(12,.ptr 4 0 0),(86,.v (.int .i64 ((g.length:Nat):Int))),(87,.v (.int .i64 ((k0:Nat):Int)))],hLz [(0,⟨0,[.v (.int .i64 0),.v (.slice none 0 0)],0,false⟩),(1,⟨0,bI (dOf g),0,false⟩),(3,⟨0,rF bI ((g.map (flD · (dOf g))).take k0++(List.replicate s.n 0).drop k0),2,false⟩),(4,⟨0,[.v (.int .i64 us[0].i),.sl 3 0 0 s.n],0,false⟩),(1000000,sB s),(1000001,s1 s),(1000002,s2 s),(1000003,s3 s),(1000004,s4 s),(1000005,s5 s),(1000006,s6 s),(1000007,s7 s)],5⟩:St)) (fun k0=>(g.length-k0)) (fun k0=>(k0<=g.length)) 0 (cO (.cons rfl rfl (.cons rfl rfl (.cons rfl rfl (.cons rfl rfl (.cons rfl rfl (.cons rfl rfl (.cons rfl rfl (.cons rfl rfl .nil)))))))) (.cons rfl rfl rfl (.cons rfl rfl rfl (.cons (by rfl) rfl (aa ab _ _) (.cons rfl rfl rfl (.cons rfl rfl rfl (.cons rfl rfl (aa ag _ _) (.cons rfl rfl (aa ai _ _) (.cons rfl rfl (aa ah _ _) (.cons rfl rfl (aa ao _ _) (.cons rfl rfl (aa ab _ _) (.cons rfl rfl (aa ae _ _) (.cons rfl rfl (aa aj _ _) .nil))))))))))))) (ag6 _) ?_)
 rintro k0 hf
 have hh:g.length<=140737488355328:=hg.1
 have hi:=hf
 refine cB (fun h7=>?_) (fun h7=>?_)
 ·have hk:k0<g.length:=Int.ofNat_lt.1 (ag4 h7)
  refine IdxG.of ‹_› (ArgG.mk (pm (x:=g[k0]) (y:=dOf g) (h9 _ (agt _)) (jk h9).1 (by have:=(jk h9).2;omega)) rfl ?_)
  rintro _ rfl
  refine OpG.lk (ak (k:=k0) ab Tryz.underlying66 jf rfl rfl rfl (by omega) rfl) ?_
  refine OpG.wr (az (k:=k0) (o:=0) (v:=flD g[k0] (dOf g)) ab jf rfl rfl rfl rfl rfl rfl (by rw[bw (A5 ha)];simp;omega) (by decide) rfl) rfl ?_
  refine⟨by kernel_rfl,?_⟩
  refine⟨by omega,?_⟩
  refine⟨(k0+1),by omega,(cO (.cons rfl rfl (.cons rfl rfl (.cons rfl rfl (.cons rfl rfl (.cons rfl rfl (.cons rfl rfl (.cons rfl rfl (.cons rfl rfl .nil)))))))) (.cons rfl rfl rfl (.cons rfl rfl rfl (.cons (by(rw[el (A5 ha) (by simp;omega) (fun h=>(pv (by omega) h).symm)];rfl)) rfl (aa ab _ _) (.cons rfl rfl rfl (.cons rfl rfl rfl (.cons rfl rfl (aa ag _ _) (.cons rfl rfl (aa ai _ _) (.cons rfl rfl (aa ah _ _) (.cons rfl rfl (aa ao _ _) (.cons rfl rfl (aa ab _ _) (.cons rfl rfl (aa ae _ _) (.cons rfl rfl (aa aj _ _) .nil))))))))))))),?_⟩
  omega
 have hl:¬k0<g.length:=fun h=>ag3 h7 (Int.ofNat_lt.2 h)
 refine RegG.via (fun _ h=>cd 3 ⟨0,rF bI (g.map (flD · (dOf g))),2,false⟩ rfl (by rw[dq (A5 ha) (by simp;omega)]) h) ?_
 refine RegG.via (fun _ h=>b8 [3] 4 0 0 [.v (.int .i64 us[0].i),.sl 3 0 0 s.n] (itA (⟨us[0].i,(g.map (flD · (dOf g)))⟩:ItS)) rfl rfl (.keep (.fz (bn ab (agy.2 rfl) rfl (by simp[ha])) (.same _))) rfl h) ?_
 refine ba ?_
 refine cB (fun h4=>?_) (fun h4=>?_)
 ·refine⟨by kernel_rfl,?_⟩
  refine⟨.inr rfl,_,Fg.of [] (aw rfl (.cons (acn.cellN lp rfl rfl trivial rfl rfl rfl) (.cons (acn.tmp rfl) (.cons (acn.tmp rfl) .nil)))) rfl ⟨.same rfl (by decide),.same rfl (by decide),.same rfl (by decide),.same rfl (by decide),.same rfl (by decide),.same rfl (by decide),.same rfl (by decide),.same rfl (by decide),trivial⟩ .same,?_⟩
  exact lfN h5
 exfalso;simp[h5]at h4
def Jq(s:OSt)(x:ItS):Prop:=BL x.g/\x.g.length=s.n/\∃j:Nat,x.a=((j:Nat):Int)/\j<s.K.length
structure OOk(s:OSt):Prop where
 n1:1<=s.n
 n2:s.n<=1000
 K:∀q∈s.K,BQ q/\q.cs.length=s.n
 I:∀x∈s.I,Jq s x
 Ul:s.U.length=s.n
 U:∀r∈s.U,BL r/\r.length=s.n
 T:s.T.length=s.n
 Vl:s.V.length=s.n
 V:BL s.V
instance:Inhabited IqS:=⟨⟨[],0⟩⟩
def bnd(s:OSt)(x:ItS):Int:=(s.K.getD x.a.toNat ⟨[],0⟩).b
theorem Ho{s:OSt}{x:ItS}{j:Nat}(h:x.a=(j:Int))(hj:j<s.K.length):bnd s x=s.K[j].b:=by
 unfold bnd;rw[h,Int.toNat_natCast];simp[List.getD,hj]
theorem OOk.bB{s:OSt}{x:ItS}(h:OOk s)(hx:Jq s x):B1 (bnd s x):=by
 obtain⟨_,_,j,h1,h2⟩:=hx
 rw[Ho h1 h2];exact(h.K _ (agt h2)).1.b
def Cv(s:OSt)(x:ItS):Option OSt:=if SzS s then match s.I.findIdx? (fun y=>decide (x.g=y.g))with
 |some i=>some (if bnd s x<bnd s (s.I.getD i ⟨0,[]⟩)then{s with I:=s.I.set i x}else s)
 |none=>some {s with I:=s.I++[x],vI:=s.vI+1}
 else none
theorem Aw{s s':OSt}{x:ItS}(h:Cv s x=some s'):SzS s:=by
 unfold Cv at h
 split at h
 ·assumption
 ·cases h
section
variable{s s':OSt}{x:ItS}{k:Nat}
theorem Mt{p:ItS->Bool}:∀{l:List ItS} {k:Nat} (hk:k<l.length),p l[k]=true->(∀j (h:j<l.length),j<k->p l[j]=false)->l.findIdx? p=some k
 |a::l,0,_,h,_=>by have h:p a=true:=h;rw[List.findIdx?_cons,h];rfl
 |a::l,k+1,hk,h,hn=>by
  have h0:p a=false:=hn 0 (by simp) (Nat.succ_pos k)
  rw[List.findIdx?_cons,h0,Mt (l:=l) (k:=k) (by simpa using hk) (by simpa using h) fun j hj hl=>hn (j+1) (by simpa using hj) (by omega)];rfl
theorem Wm{p:ItS->Bool}{l:List ItS}(hn:∀j (h:j<l.length),p l[j]=false):l.findIdx? p=none:=List.findIdx?_eq_none_iff.2 fun y hy=>by
 obtain⟨j,hj,rfl⟩:=ahe hy;exact hn j hj
theorem Xm(h:Cv s x=some s')(hk:k<s.I.length)(he:x.g=s.I[k].g)(hn:∀j (hl:j<s.I.length),j<k->¬x.g=s.I[j].g):s'=if bnd s x<bnd s s.I[k]then{s with I:=s.I.set k x}else s:=by
 have hz:=Aw h
 unfold Cv at h
 rw[ag2 hz,Mt (p:=fun y=>decide (x.g=y.g)) hk (decide_eq_true he) fun j hl hj=>decide_eq_false (hn j hl hj)]at h
 simp only[List.getD,agu hk,Option.getD_some]at h
 cases h;rfl
theorem Rp(h:Cv s x=some s')(hn:∀j (hl:j<s.I.length),¬x.g=s.I[j].g):SzS s/\s'={s with I:=s.I++[x],vI:=s.vI+1}:=by
 have hz:=Aw h
 unfold Cv at h
 rw[ag2 hz,Wm (p:=fun y=>decide (x.g=y.g)) fun j hl=>decide_eq_false (hn j hl)]at h
 cases h;exact⟨hz,rfl⟩
theorem Fc(h:Cv s x=some s')(ho:OOk s)(hx:Jq s x):OOk s'/\s'.n=s.n/\s'.K=s.K:=by
 have hz:=Aw h
 unfold Cv at h
 rw[ag2 hz]at h
 split at h
 ·next i e=>
  cases h
  split
  ·refine⟨⟨ho.n1,ho.n2,ho.K,fun y hy=>?_,ho.Ul,ho.U,ho.T,ho.Vl,ho.V⟩,rfl,rfl⟩
   rcases List.mem_or_eq_of_mem_set hy with hy|rfl
   ·exact ho.I y hy
   ·exact hx
  ·exact⟨ho,rfl,rfl⟩
 ·cases h
  refine⟨⟨ho.n1,ho.n2,ho.K,fun y hy=>?_,ho.Ul,ho.U,ho.T,ho.Vl,ho.V⟩,rfl,rfl⟩
  rcases agz.1 hy with hy|hy
  ·exact ho.I y hy
  ·rw[agy.1 hy];exact hx
end
def Dk(s:OSt)(g:List Int)(us:List UsS):Option (OSt×Bool):=match Iw s g us with
 |none=>none
 |some (s1,x,sm,ok)=>if sm then match Cv s1 x with
  |none=>none
  |some s2=>some (s2,ok)
  else some (s1,ok)
section
variable{s s':OSt}{x:ItS}{g:List Int}{us:List UsS}{sm ok:Bool}
theorem Ez(h:Iw s g us=some (s',x,sm,ok))(ho:OOk s)(h0:0<us.length)(hg:BL g)(hl:g.length=s.n):OOk s'/\s'.n=s.n/\Jq s' x:=by
 have h3:BL (g.map (flD · (dOf g))):=Tz hg (jk hg).2
 by_cases hc:1<us.length\/dOf g≠1
 ·obtain⟨_,q,hq,rfl,rfl,rfl,rfl⟩:=Ap h hc
  obtain⟨h1,h2⟩:=J6 (jk hg).2 hq
  refine⟨⟨ho.n1,ho.n2,fun y hy=>?_,fun y hy=>?_,ho.Ul,ho.U,ho.T,ho.Vl,ho.V⟩,rfl,h3,by simpa using hl,s.K.length,rfl,by simp⟩
  ·rcases agz.1 hy with hy|hy
   ·exact ho.K y hy
   ·rw[agy.1 hy];exact⟨h1,h2⟩
  ·obtain⟨a,b,j,c,d⟩:=ho.I y hy
   exact⟨a,b,j,c,by simp;omega⟩
 ·obtain⟨j,hj,h4,rfl,rfl,rfl,rfl⟩:=E0 h0 h hc
  exact⟨ho,rfl,h3,by simpa using hl,j,h4,hj⟩
theorem D9{s':OSt}(h:Dk s g us=some (s',ok))(ho:OOk s)(h0:0<us.length)(hg:BL g)(hl:g.length=s.n):OOk s'/\s'.n=s.n:=by
 unfold Dk at h
 split at h
 ·cases h
 ·next s1 x sm ok1 e=>
  obtain⟨h1,h2,h3⟩:=Ez e ho h0 hg hl
  split at h
  ·split at h
   ·cases h
   ·next s2 e2=>
    cases h
    obtain⟨a,b,_⟩:=Fc e2 h1 h3
    exact⟨a,b.trans h2⟩
  ·cases h;exact⟨h1,h2⟩
end
def I4:Nat->Nat->OSt->Option (OSt×Bool)
 |0,_,s=>some (s,true)
 |f+1,k,s=>match s.K[k]? with
  |none=>none
  |some q=>match Dk s q.cs [⟨(k:Int),1⟩]with
   |none=>none
   |some (s',ok)=>if ok then I4 f (k+1) s' else some (s',false)
abbrev adb(s:OSt):Option (OSt×Bool):=I4 s.K.length 0 s
section
variable{s s':OSt}{g:List Int}{us:List UsS}{ok:Bool}{k m:Nat}
theorem Br(h:Dk s g us=some (s',ok)):∃s1 x sm,Iw s g us=some (s1,x,sm,ok)/\((sm=true/\Cv s1 x=some s')\/(sm=false/\s1=s')):=by
 unfold Dk at h
 split at h
 ·cases h
 ·next s1 x sm ok1 e=>
  split at h
  ·next hs=>
   split at h
   ·cases h
   ·next s2 e2=>cases h;exact⟨_,x,sm,e,.inl ⟨hs,e2⟩⟩
  ·next hs=>cases h;exact⟨_,x,sm,e,.inr ⟨by simpa using hs,rfl⟩⟩
theorem Xg(hk:k<m)(h:I4 (m-k) k s=some (s',ok)):∃h0:k<s.K.length,∃s1 ok1,Dk s s.K[k].cs [⟨(k:Int),1⟩]=some (s1,ok1)/\((ok1=true/\I4 (m-(k+1)) (k+1) s1=some (s',ok))\/(ok1=false/\s1=s'/\ok=false)):=by
 rw[show m-k=(m-(k+1))+1 by omega]at h
 unfold I4 at h
 split at h
 ·cases h
 ·next q e=>
  obtain⟨h0,rfl⟩:=ahn.1 e
  split at h
  ·cases h
  ·next s1 ok1 e1=>
   split at h
   ·next ho=>exact⟨h0,s1,ok1,e1,.inl ⟨ho,h⟩⟩
   ·next ho=>cases h;exact⟨h0,_,ok1,e1,.inr ⟨by simpa using ho,rfl,rfl⟩⟩
theorem Xh(hk:¬k<m)(h:I4 (m-k) k s=some (s',ok)):s=s'/\ok=true:=by
 rw[show m-k=0 by omega]at h
 unfold I4 at h
 cases h;exact⟨rfl,rfl⟩
end
structure KO where
 k:Nat
 s:OSt
end Go.Proofs.YtmbmbhkemgmhfaaGreatDoor
