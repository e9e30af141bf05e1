/- Texts of the claim. -/
import Derived.Test.YtbhhmbchdponjaaGreatDoorM3
import Derived.Test.YtbhhmbchdponjaaGreatDoorQ2
namespace Go.Proofs.YtbhhmbchdponjaaGreatDoor
set_option maxRecDepth 1000000
set_option maxHeartbeats 0
set_option linter.unusedVariables false
set_option linter.unusedSimpArgs false
open Go.RowKit
structure UsS where
 i:Int
 n:Int
abbrev usA(u:UsS):List AV:=.v (.int .i64 u.i)::bI u.n
structure StS where
 us:List UsS
 d:Int
abbrev stA(s:StS):List AV:=.tree 3 (s.us.map usA)::bI s.d
theorem ai:RowF stA 3:=⟨fun _=>rfl,fun _=>rfl,fun _ _=>rfl,fun _ _=>rfl,fun _ _=>rfl,fun _=>rfl⟩
structure ItS where
 a:Int
 g:List Int
abbrev itA(x:ItS):List AV:=[.v (.int .i64 x.a),.tree 2 (x.g.map bI)]
theorem ag:RowF itA 2:=⟨fun _=>rfl,fun _=>rfl,fun _ _=>rfl,fun _ _=>rfl,fun _ _=>rfl,fun _=>rfl⟩
structure ElS where
 v:Int
 its:List Int
 tr:Bool
abbrev elA(e:ElS):List AV:=[.v (.int .i64 e.v),.tree 1 (e.its.map iA),.v (.bool e.tr)]
theorem aj:RowF elA 3:=⟨fun _=>rfl,fun _=>rfl,fun _ _=>rfl,fun _ _=>rfl,fun _ _=>rfl,fun _=>rfl⟩
abbrev rlA(l:List Int):List AV:=[.tree 2 (l.map bI)]
theorem ah:RowF rlA 1:=⟨fun _=>rfl,fun _=>rfl,fun _ _=>rfl,fun _ _=>rfl,fun _ _=>rfl,fun _=>rfl⟩
instance:Inhabited UsS:=⟨⟨0,0⟩⟩
instance:Inhabited StS:=⟨⟨[],0⟩⟩
instance:Inhabited ItS:=⟨⟨0,[]⟩⟩
instance:Inhabited ElS:=⟨⟨0,[],false⟩⟩
structure OSt where
 n:Nat
 K:List IqS
 vK:Nat
 S:List StS
 vS:Nat
 U:List (List Int)
 vU:Nat
 T:List Int
 V:List Int
 I:List ItS
 vI:Nat
 E:List ElS
 vE:Nat
instance:Inhabited OSt:=⟨⟨0,[],0,[],0,[],0,[],[],[],0,[],0⟩⟩
def n8(n:Int):List Int->List Int->Option (List Int)
 |[],_=>some []
 |_::_,[]=>none
 |c::cs,x::xs=>if B1 (n*x)/\B1 (c+n*x)then(n8 n cs xs).map (fun r=>(c+n*x)::r)else none
def Hq(q:IqS)(n:Int)(k:IqS):Option IqS:=match n8 n q.cs k.cs with
 |none=>none
 |some cs=>if B1 (n*k.b)/\B1 (q.b+n*k.b)then some ⟨cs,q.b+n*k.b⟩else none
def um(K:List IqS):List UsS->IqS->Option IqS
 |[],q=>some q
 |u::us,q=>if 0<=u.i then match K[u.i.toNat]? with
  |none=>none
  |some k=>match Hq q u.n k with
   |none=>none
   |some q'=>um K us q'
  else none
def N3(q:IqS)(d:Int):IqS:=⟨q.cs.map (flD · d),flD q.b d⟩
def R2(n:Nat)(K:List IqS)(us:List UsS)(d:Int):Option IqS:=(um K us ⟨List.replicate n 0,0⟩).map (N3 · d)
def Tc:List Int->Int->Int
 |[],d=>d
 |x::l,d=>Tc l ((Int.gcd d x:Nat):Int)
abbrev k9(l:List Int):Int:=Tc l 0
section
variable{n:Int}{q:IqS}
theorem l3:∀{cs xs r:List Int} (_:n8 n cs xs=some r),r.length=cs.length/\cs.length<=xs.length/\∀i (h:i<cs.length) (h1:i<xs.length) (h2:i<r.length),B1 (n*xs[i])/\B1 (cs[i]+n*xs[i])/\r[i]=cs[i]+n*xs[i]
 |[],_,_,h=>by cases h;exact⟨rfl,ag5 _,fun i h=>absurd h (ag6 i)⟩
 |c::cs,[],_,h=>by cases h
 |c::cs,x::xs,r,h=>by
  unfold n8 at h
  split at h
  ·next hb=>
   cases e:n8 n cs xs with
   |none=>rw[e]at h;cases h
   |some r'=>
    rw[e]at h;cases h
    obtain⟨h1,h2,h3⟩:=l3 e
    refine⟨by simp[h1],by simp;omega,fun i hi hj hk=>?_⟩
    cases i with
    |zero=>exact⟨hb.1,hb.2,rfl⟩
    |succ i=>exact h3 i (by simpa using hi) (by simpa using hj) (by simpa using hk)
  ·cases h
theorem cb{α:Type}{r cs:List α}{k:Nat}(hr:r.length=cs.length):(r.take k++cs.drop k).length=cs.length:=by simp;omega
theorem r8{α:Type}{r cs:List α}{k:Nat}(hr:r.length=cs.length)(h:k<cs.length)(h':k<(r.take k++cs.drop k).length):(r.take k++cs.drop k)[k]'h'=cs[k]:=by
 have e:(r.take k).length=k:=List.length_take_of_le (by omega)
 rw[List.getElem_append_right (by omega)]
 simp[e]
theorem Ug{α:Type}{r cs:List α}{k:Nat}(hr:r.length=cs.length)(h:k<cs.length)(h':k<r.length):(r.take k++cs.drop k).set k r[k]=r.take (k+1)++cs.drop (k+1):=by
 have e:(r.take k).length=k:=List.length_take_of_le (by omega)
 rw[List.set_append_right _ _ (by omega),ag4 h',ahm h,e,Nat.sub_self,List.append_assoc];rfl
theorem xu{α:Type}{r cs:List α}{k:Nat}(hr:r.length=cs.length)(h:k<cs.length):(r.take k++cs.drop k)[k]? =some cs[k]:=by
 rw[agt (by rw[cb hr];exact h),r8 hr h]
theorem j7{α:Type}{r cs:List α}{k:Nat}{v:α}(hr:r.length=cs.length)(h:k<cs.length)(hv:∀h':k<r.length,v=r[k]):(r.take k++cs.drop k).set k v=r.take (k+1)++cs.drop (k+1):=by
 rw[hv (by omega)];exact Ug hr h _
theorem ig{α:Type}{r cs:List α}{k:Nat}(hr:r.length=cs.length)(h:¬k<cs.length):r.take k++cs.drop k=r:=by
 rw[ahj (by omega),List.drop_of_length_le (by omega),List.append_nil]
theorem V9{x d:Int}(hx:B1 x)(hd:0<d):B1 (flD x d):=by
 rw[(Lr hd).1]
 have h1:=Int.ediv_le_self (a:=x) d
 constructor
 ·have:-4294967295*d<=x:=by
   have:=Int.mul_le_mul_of_nonneg_left (show(1:Int)<=d by omega) (show(0:Int)<=4294967295 by decide)
   omega
  exact(Int.le_ediv_iff_mul_le hd).2 this
 ·by_cases h:0<=x
  ·exact Int.le_trans (h1 h) hx.2
  ·have:=Int.ediv_neg_of_neg_of_pos (show x<0 by omega) hd;omega
theorem Mt{l:List Int}{d:Int}(hl:BL l)(hd:0<d):BL (l.map (flD · d)):=fun x hx=>by
 obtain⟨y,hy,rfl⟩:=ahh.1 hx;exact V9 (hl y hy) hd
theorem ra{cs xs r:List Int}(h:n8 n cs xs=some r):BL r:=fun x hx=>by
 obtain⟨h1,h2,h3⟩:=l3 h
 obtain⟨i,hi,rfl⟩:=ahd hx
 obtain⟨_,h4,h5⟩:=h3 i (by omega) (by omega) hi
 rw[h5];exact h4
theorem oo{k r:IqS}(h:Hq q n k=some r):n8 n q.cs k.cs=some r.cs/\B1 (n*k.b)/\B1 (q.b+n*k.b)/\r.b=q.b+n*k.b:=by
 unfold Hq at h
 split at h
 ·cases h
 ·next cs e=>
  split at h
  ·next hb=>cases h;exact⟨e,hb.1,hb.2,rfl⟩
  ·cases h
theorem Xf{k r:IqS}(h:Hq q n k=some r):BQ r:=by
 obtain⟨h1,_,h3,h4⟩:=oo h
 exact⟨ra h1,by rw[h4];exact h3⟩
theorem Q9{k r:IqS}(h:Hq q n k=some r):r.cs.length=q.cs.length:=(l3 (oo h).1).1
theorem n0{K:List IqS}{us:List UsS}{r:IqS}{j:Nat}(hj:j<us.length)(h:um K (us.drop j) q=some r):∃i:Nat,us[j].i=(i:Int)/\∃hi:i<K.length,∃q',Hq q us[j].n K[i]=some q'/\um K (us.drop (j+1)) q'=some r:=by
 rw[ahm hj]at h
 unfold um at h
 split at h
 ·next h0=>
  split at h
  ·cases h
  ·next k e=>
   obtain⟨hi,rfl⟩:=ahl.1 e
   split at h
   ·cases h
   ·next q' e'=>exact⟨_,(Int.toNat_of_nonneg h0).symm,hi,q',e',h⟩
 ·cases h
theorem ox{K:List IqS}{r:IqS}:∀{us:List UsS} {q:IqS} (_:um K us q=some r),r.cs.length=q.cs.length
 |[],q,h=>by cases h;rfl
 |u::us,q,h=>by
  obtain⟨i,_,hi,q',e,h'⟩:=n0 (us:=u::us) (j:=0) (by simp) h
  rw[ox (us:=us) h',Q9 e]
theorem sf{K:List IqS}{r:IqS}:∀{us:List UsS} {q:IqS} (_:BQ q) (_:um K us q=some r),BQ r
 |[],q,hq,h=>by cases h;exact hq
 |u::us,q,hq,h=>by
  obtain⟨i,_,hi,q',e,h'⟩:=n0 (us:=u::us) (j:=0) (by simp) h
  exact sf (us:=us) (Xf e) h'
theorem me(n:Nat):BL (List.replicate n 0):=fun x hx=>by rw[(List.mem_replicate.1 hx).2];exact⟨by decide,by decide⟩
theorem Jn{n:Nat}{K:List IqS}{us:List UsS}{d:Int}{r:IqS}(hd:0<d)(h:R2 n K us d=some r):BQ r/\r.cs.length=n:=by
 unfold R2 at h
 cases e:um K us ⟨List.replicate n 0,0⟩with
 |none=>rw[e]at h;cases h
 |some q=>
  rw[e]at h;cases h
  have hb:=sf (q:=⟨List.replicate n 0,0⟩) ⟨me n,⟨by show -4294967295<=(0:Int);decide,by show(0:Int)<=4294967295;decide⟩⟩ e
  have hl:=ox e
  exact⟨⟨Mt hb.c hd,V9 hb.b hd⟩,by show(List.map _ _).length=n;rw[agz,hl];simp⟩
theorem Z6{x y:Int}(hx:B1 x)(hy:B1 y):B1 ((Int.gcd x y:Nat):Int):=by
 by_cases h:x=0
 ·subst h;rw[Int.gcd_zero_left];omega
 ·have:=Int.gcd_le_natAbs_left y h;omega
theorem Tb:∀{l:List Int} {d:Int} (_:BL l) (_:B1 d) (_:0<=d),B1 (Tc l d)/\0<=Tc l d
 |[],d,_,hd,h0=>⟨hd,h0⟩
 |x::l,d,hl,hd,h0=>Tb (l:=l) (fun y hy=>hl y (List.mem_cons_of_mem _ hy)) (Z6 hd (hl x (List.mem_cons_self ..))) (Int.natCast_nonneg _)
theorem Lj{l:List Int}(h:BL l):B1 (k9 l)/\0<=k9 l:=Tb h ⟨by decide,by decide⟩ (by decide)
end
structure KD where
 k:Nat
 d:Int
theorem V5{l:List Int}{k:Nat}{d:Int}(h:k<l.length):Tc (l.drop k) d=Tc (l.drop (k+1)) ((Int.gcd d l[k]:Nat):Int):=by rw[ahm h];rfl
theorem V6{l:List Int}{k:Nat}{d:Int}(h:¬k<l.length):Tc (l.drop k) d=d:=by rw[List.drop_of_length_le (by omega)];rfl
structure KQ where
 k:Nat
 q:IqS
theorem Di{K:List IqS}{l:List UsS}{k:Nat}{q r:IqS}(h:¬k<l.length)(e:um K (l.drop k) q=some r):q=r:=by rw[List.drop_of_length_le (by omega)]at e;cases e;rfl
theorem mv{f:Int->Int}{l:List Int}{i:Nat}(h:i<l.length)(h':i<(l.map f).length):(l.map f)[i]'h'=f l[i]:=by simp
theorem aai{a b:List Int}{k:Nat}(ha:k<a.length)(hb:k<b.length)(h:¬sgZ (a[k]-b[k])=0):a≠b:=fun e=>by subst e;exact h (sgZ_0.2 (by omega))
theorem aa1:bw Tryz.prog 211=true:=by kernel_rfl
theorem Ta(l:List Int)(hl:ip l (fun y=>True))(hb:BL l)(hs:l.length<=1000000):PRet Tryz.prog 208 [.tree 2 (l.map bI)] (fun r=>r=.agg (bI (k9 l))):=by
 refine ovT [] [2] Tryz.func208 rfl rfl (RegG.via (fun _ h=>cm [] 1 0 0 [.v (.bool false),.v (.slice none 0 0)] (bI 0) rfl rfl (.keep (.fz (FzP.nil (n:=1)) (.same _))) rfl h) ?_)
 refine aw (LenG.of ?_)
 refine LpG.on (fun k0:KD=>(⟨fL [(2,.ptr 0 0 0),(3,.ptr 1 0 0),(6,.tree 2 (l.map bI)),(7,.v (.int .i64 ((l.length:Nat):Int))),(8,.v (.int .i64 ((k0.k:Nat):Int)))],hLz [(0,⟨0,[.v (.bool false),.v (.slice none 0 0)],0,false⟩),(1,⟨0,bI k0.d,0,false⟩)],2⟩:St)) (fun k0=>(l.length-k0.k)) (fun k0=>(k0.k<=l.length/\(Tc (l.drop k0.k) k0.d=k9 l/\B1 k0.d/\0<=k0.d))) (⟨0,0⟩:KD) (cO (.cons rfl rfl (.cons rfl rfl (.cons rfl rfl (.cons rfl rfl (.cons rfl rfl .nil))))) (.cons rfl rfl rfl (.cons rfl rfl rfl .nil))) ⟨ag5 _,⟨rfl,⟨by decide,by decide⟩,by decide⟩⟩ ?_
 rintro k0 hd
 have hgr_k0:l.length<=140737488355328:=hl.1
 obtain⟨hle_k0,ha⟩:=hd
 refine cL (fun hc=>?_) (fun he=>?_)
 ·refine IdxG.of ‹_› (ArgG.mk (S9 (x:=k0.d) (y:=l[k0.k]) ha.2.1 (hb _ (ags ‹_›))) rfl ?_)
  rintro _ rfl
  refine⟨by omega,⟨(⟨k0.k+1,((Int.gcd k0.d l[k0.k]:Nat):Int)⟩:KD),(by show l.length-(k0.k+1)<l.length-k0.k;omega),(cO (.cons rfl rfl (.cons rfl rfl (.cons rfl rfl (.cons rfl rfl (.cons rfl rfl .nil))))) (.cons rfl rfl rfl (.cons rfl rfl rfl .nil))),?_⟩⟩
  exact⟨by show k0.k+1<=_;omega,⟨by rw[<-V5 hc];exact ha.1,Z6 ha.2.1 (hb _ (ags hc)),Int.natCast_nonneg _⟩⟩
 refine⟨.inr rfl,_,Ng.cell rfl db rfl rfl rfl rfl rfl ⟨[],FzP.pure rfl⟩,?_⟩
 have e:=ha.1
 rw[V6 he]at e
 rw[e]
theorem Xh{x y:Int}(hx:B1 x)(hy:B1 y):PRet Tryz.prog 211 [.agg (bI x),.agg (bI y)] (fun r=>r=.v (.bool (decide (sgZ (x-y)=0)))):=by
 refine ovT [] [] Tryz.func211 rfl rfl (ArgG.mk (nk (x:=x) (y:=y) hx hy) rfl ?_)
 rintro _ rfl
 exact rV rfl rfl rfl
theorem Gz(a:List Int)(ha:ip a (fun y=>True))(b:List Int)(hb:ip b (fun y=>True))(hA:BL a)(hB:BL b)(hs:a.length<=1000000):PRet Tryz.prog 210 [.tree 2 (a.map bI),.tree 2 (b.map bI),.clo 211 []] (fun r=>r=.v (.bool (decide (a=b)))):=by
 refine ovT [29] [] Tryz.func210 rfl rfl (LenG.of ?_)
 refine LenG.of (cB (fun hc=>?_) (fun hc=>?_))
 ·have hh:¬(((a.length:Nat):Int)=((b.length:Nat):Int)):=by simpa using hc
  refine rV rfl rfl ?_
  rw[decide_eq_false (fun e=>by subst e;simp at hc)];rfl
 have hh:((a.length:Nat):Int)=((b.length:Nat):Int):=by simpa using hc
 have hj:a.length=b.length:=by have h:=hc;simp at h;omega
 refine LenG.of (LpG.on (fun k0:Nat=>(⟨fL [(1,.tree 2 (b.map bI)),(2,.clo 211 []),(15,.tree 2 (a.map bI)),(16,.v (.int .i64 ((a.length:Nat):Int))),(17,.v (.int .i64 ((k0:Nat):Int)))],hLz [],0⟩:St)) (fun k0=>(a.length-k0)) (fun k0=>(k0<=a.length/\∀j (hl:j<a.length),j<k0->∀h2:j<b.length,a[j]=b[j])) 0 (cO (.cons rfl rfl (.cons rfl rfl (.cons rfl rfl (.cons rfl rfl (.cons rfl rfl .nil))))) .nil) ⟨ag5 _,fun j _ h=>absurd h (ag6 j)⟩ ?_)
 rintro k0 hi
 have hgr_k0:a.length<=140737488355328:=ha.1
 obtain⟨hle_k0,hd⟩:=hi
 refine cL (fun he=>?_) (fun hge18=>?_)
 ·obtain⟨_,rfl,hg⟩:=Xh (hA _ (ags he)) (hB (b[k0]'(by omega)) (ags (by omega)))
  refine IdxG.of ‹_› (IdxG.of (by omega) ?_)
  refine OpG.lk (fg aa1 rfl rfl rfl hg) (cB (fun hf=>?_) (fun hf=>?_))
  ·refine rV rfl rfl ?_
   rw[decide_eq_false (aai he (by omega) (by simpa using hf))];rfl
  refine⟨by omega,⟨(k0+1),by omega,(cO (.cons rfl rfl (.cons rfl rfl (.cons rfl rfl (.cons rfl rfl (.cons rfl rfl .nil))))) .nil),?_⟩⟩
  refine⟨by omega,fun j hl h=>?_⟩
  rcases ag8.1 h with h|rfl
  ·exact hd j hl h
  exact fun _=>by have h:=sgZ_0.1 (ag3 (by simpa using hf));omega
 refine rV rfl rfl ?_
 rw[decide_eq_true (List.ext_getElem hj (fun i h1 h2=>hd i h1 (by omega) h2))];rfl
theorem sX{α:Type}{f:α->List AV}{q:Nat}(h:RowF f q){g:Nat->Nat}{v:Nat}{l:List α}{n:Bool}:some (⟨v,rF f l,q,n⟩:Blk)=some ((Blk.mk v (rF f l) q n).ren g):=by rw[ci h]
theorem ap:RowF iA 1:=cz
abbrev sB(s:OSt):Blk:=⟨0,[.v (.int .i64 ((s.n:Nat):Int)),.sl 1000001 s.vK 0 s.K.length,.sl 1000002 s.vS 0 s.S.length,.sl 1000003 s.vU 0 s.U.length,.sl 1000004 0 0 s.T.length,.sl 1000005 0 0 s.V.length,.sl 1000006 s.vI 0 s.I.length,.sl 1000007 s.vE 0 s.E.length],0,false⟩
abbrev s1(s:OSt):Blk:=⟨s.vK,rF iqA s.K,3,Nat.beq s.K.length 0⟩
abbrev s2(s:OSt):Blk:=⟨s.vS,rF stA s.S,3,Nat.beq s.S.length 0⟩
abbrev s3(s:OSt):Blk:=⟨s.vU,rF rlA s.U,1,Nat.beq s.U.length 0⟩
abbrev s4(s:OSt):Blk:=⟨0,rF iA s.T,1,Nat.beq s.T.length 0⟩
abbrev s5(s:OSt):Blk:=⟨0,rF bI s.V,2,Nat.beq s.V.length 0⟩
abbrev s6(s:OSt):Blk:=⟨s.vI,rF itA s.I,2,Nat.beq s.I.length 0⟩
abbrev s7(s:OSt):Blk:=⟨s.vE,rF elA s.E,3,Nat.beq s.E.length 0⟩
theorem ago{η:bi}{fp:List Nat}{id n:Nat}{q:IqS}(ha:id∈fp)(hb:η id=some ⟨0,rF bI q.cs,2,false⟩)(hn:n=q.cs.length):FzP fp η (.agg (.sl id 0 0 n::bI q.b)) (.agg (iqA q)):=
 FzP.aggL (.cons (b7 ae ha hb hn) (.cons (.pure rfl) (.cons (.pure rfl) .nil)))
theorem Hm:B1 0:=⟨by decide,by decide⟩
theorem Wf:dx Tryz.prog 118 1=some (1,2):=by kernel_rfl
theorem jt:ao Tryz.prog 118=some 3:=by kernel_rfl
theorem An(s:OSt)(x:ItS)(j:Nat)(kq:IqS)(hx:x.a=((j:Nat):Int))(hq:s.K[j]? =some kq):qa Tryz.prog 178 [.ptr 1000000 0 0,.agg (itA x)] [(1000000,sB s),(1000001,s1 s),(1000002,s2 s),(1000003,s3 s),(1000004,s4 s),(1000005,s5 s),(1000006,s6 s),(1000007,s7 s)] [(1000000,some (sB s)),(1000001,some (s1 s)),(1000002,some (s2 s)),(1000003,some (s3 s)),(1000004,some (s4 s)),(1000005,some (s5 s)),(1000006,some (s6 s)),(1000007,some (s7 s))] (fun q=>q=.agg (bI kq.b)):=by
 obtain⟨hj,rfl⟩:=ahl.1 hq
 refine qa.of_vc jc [11,12,13] [] Tryz.func178 rfl Tryz.ntmps178 rfl (by kernel_rfl) (OpG.lk (br (k:=j) ab Tryz.underlying85 jt rfl rfl hx hj rfl hj) ?_)
 refine OpG.lk (ic Wf rfl rfl rfl hj) (OpG.lk (Nk (k:=j) (o:=1) ab db rfl rfl hj (by decide) rfl) ?_)
 refine⟨by kernel_rfl,⟨.inr rfl,_,Nf.of [] (az rfl (.cons (abn.cellN db rfl rfl trivial rfl rfl rfl) .nil)) rfl ⟨.same rfl (by decide),.same rfl (by decide),.same rfl (by decide),.same rfl (by decide),.same rfl (by decide),.same rfl (by decide),.same rfl (by decide),.same rfl (by decide),trivial⟩ .same,?_⟩⟩
 rfl
theorem Ox(us:List UsS)(ho:ip us (fun y=>True))(s:OSt)(d:Int)(R:IqS)(hd:0<d)(hl:B1 d)(hn1:s.n<=1000)(hu:∀u∈us,B1 u.n)(hK:∀q∈s.K,BQ q)(hb:R2 s.n s.K us d=some R):qa Tryz.prog 209 [.ptr 1000000 0 0,.tree 3 (us.map usA),.agg (bI d)] [(1000000,sB s),(1000001,s1 s),(1000002,s2 s),(1000003,s3 s),(1000004,s4 s),(1000005,s5 s),(1000006,s6 s),(1000007,s7 s)] [(1000000,some (sB s)),(1000001,some (s1 s)),(1000002,some (s2 s)),(1000003,some (s3 s)),(1000004,some (s4 s)),(1000005,some (s5 s)),(1000006,some (s6 s)),(1000007,some (s7 s))] (fun q=>q=.agg (iqA R)):=by
 obtain⟨Q,hQ,rfl⟩:∃Q,um s.K us ⟨List.replicate s.n 0,0⟩=some Q/\N3 Q d=R:=by
  unfold R2 at hb
  cases e:um s.K us ⟨List.replicate s.n 0,0⟩with
  |none=>rw[e]at hb;cases hb
  |some Q=>rw[e]at hb;cases hb;exact⟨Q,rfl,rfl⟩
 have hm:=sf (q:=⟨List.replicate s.n 0,0⟩) ⟨me s.n,Hm⟩ hQ
 have hQl:Q.cs.length=s.n:=by rw[ox hQ];simp
 refine qa.of_vc jc [17,31,32,45,46,56,81,82,88,100056,100088] [2,11,13,18] Tryz.func209 rfl Tryz.ntmps209 rfl (by kernel_rfl) (OpG.nw (cv 2 (len:=s.n) Tryz.underlying45 ik A4 Db rfl rfl rfl (by omega)) rfl ?_)
 refine RegG.via (fun _ h=>cm [] 3 0 0 [.sl 2 0 0 s.n,.v (.bool false),.v (.slice none 0 0)] (.sl 2 0 0 s.n::bI 0) rfl rfl (.keep (.keep (.fz (FzP.nil (n:=1)) (.same _)))) rfl h) (aw ?_)
 refine LenG.of (LpG.on (fun k0:KQ=>(⟨fL [(0,.ptr 1000000 0 0),(5,.ptr 0 0 0),(6,.ptr 1 0 0),(7,.ptr 3 0 0),(19,.tree 3 (us.map usA)),(20,.v (.int .i64 ((us.length:Nat):Int))),(21,.v (.int .i64 ((k0.k:Nat):Int)))],hLz [(0,⟨0,bI d,0,false⟩),(1,⟨0,[.v (.slice none 0 0),.v (.bool false),.v (.slice none 0 0)],0,false⟩),(2,⟨0,rF bI k0.q.cs,2,false⟩),(3,⟨0,.sl 2 0 0 s.n::bI k0.q.b,0,false⟩),(1000000,sB s),(1000001,s1 s),(1000002,s2 s),(1000003,s3 s),(1000004,s4 s),(1000005,s5 s),(1000006,s6 s),(1000007,s7 s)],4⟩:St)) (fun k0=>(us.length-k0.k)) (fun k0=>(k0.k<=us.length/\(um s.K (us.drop k0.k) k0.q=some Q/\BQ k0.q/\k0.q.cs.length=s.n))) (⟨0,⟨List.replicate s.n 0,0⟩⟩:KQ) (cO (.cons rfl rfl (.cons rfl rfl (.cons rfl rfl (.cons rfl rfl (.cons rfl rfl (.cons rfl rfl (.cons rfl rfl .nil))))))) (.cons rfl rfl rfl (.cons rfl rfl rfl (.cons rfl rfl (aa ae _ _) (.cons (by rfl) rfl rfl (.cons rfl rfl rfl (.cons rfl rfl (aa ab _ _) (.cons rfl rfl (aa ai _ _) (.cons rfl rfl (aa ah _ _) (.cons rfl rfl (aa ap _ _) (.cons rfl rfl (aa ae _ _) (.cons rfl rfl (aa ag _ _) (.cons rfl rfl (aa aj _ _) .nil))))))))))))) ⟨ag5 _,⟨hQ,⟨me s.n,Hm⟩,by simp⟩⟩ ?_)
 rintro k0 hc
 have hgr_k0:us.length<=140737488355328:=ho.1
 obtain⟨hle_k0,ha⟩:=hc
 refine cL (fun he=>?_) (fun hh=>?_)
 ·obtain⟨j,hp,hj,q1,hf,hi⟩:=n0 he ha.1
  replace hf:=oo hf
  have hg:=l3 hf.1
  refine IdxG.of ‹_› (OpG.lk (br (k:=j) ab Tryz.underlying85 jt rfl rfl hp hj rfl hj) ?_)
  refine OpG.lk (jz ab na rfl rfl hj) ⟨by kernel_rfl,LpG.on (fun k2:Nat=>(⟨fL [(0,.ptr 1000000 0 0),(5,.ptr 0 0 0),(6,.ptr 1 0 0),(7,.ptr 3 0 0),(9,.ptr 4 0 0),(10,.ptr 5 0 0),(19,.tree 3 (us.map usA)),(20,.v (.int .i64 ((us.length:Nat):Int))),(21,.v (.int .i64 ((k0.k:Nat):Int))),(35,.v (.int .i64 ((s.n:Nat):Int))),(36,.v (.int .i64 ((k2:Nat):Int)))],hLz [(0,⟨0,bI d,0,false⟩),(1,⟨0,[.v (.slice none 0 0),.v (.bool false),.v (.slice none 0 0)],0,false⟩),(2,⟨0,rF bI (q1.cs.take k2++k0.q.cs.drop k2),2,false⟩),(3,⟨0,.sl 2 0 0 s.n::bI k0.q.b,0,false⟩),(4,⟨0,usA us[k0.k],0,false⟩),(5,⟨0,iqA s.K[j],0,false⟩),(1000000,sB s),(1000001,s1 s),(1000002,s2 s),(1000003,s3 s),(1000004,s4 s),(1000005,s5 s),(1000006,s6 s),(1000007,s7 s)],6⟩:St)) (fun k2=>(s.n-k2)) (fun k2=>(k2<=s.n)) 0 (cO (.cons rfl rfl (.cons rfl rfl (.cons rfl rfl (.cons rfl rfl (.cons rfl rfl (.cons rfl rfl (.cons rfl rfl (.cons rfl rfl (.cons rfl rfl (.cons rfl rfl (.cons rfl rfl .nil))))))))))) (.cons rfl rfl rfl (.cons rfl rfl rfl (.cons (by rfl) rfl (aa ae _ _) (.cons rfl rfl rfl (.cons rfl rfl rfl (.cons rfl rfl rfl (.cons rfl rfl rfl (.cons rfl rfl (aa ab _ _) (.cons rfl rfl (aa ai _ _) (.cons rfl rfl (aa ah _ _) (.cons rfl rfl (aa ap _ _) (.cons rfl rfl (aa ae _ _) (.cons rfl rfl (aa ag _ _) (.cons rfl rfl (aa aj _ _) .nil))))))))))))))) (ag5 _) ?_⟩
  rintro k2 hc
  have hle_k2:=hc
  refine cL (fun hlt37=>?_) (fun hge37=>?_)
  ·have hk:=hg.2.2 k2 (by omega) (by have:=hg.2.1;omega) (by have:=hg.1;omega)
   have hq:k2<s.K[j].cs.length:=by have:=hg.2.1;omega
   refine OpG.lk (av (k:=k2) ae Tryz.underlying45 ik rfl rfl rfl (by omega) rfl) (OpG.lk (kv ae db rfl rfl (xu hg.1 (by omega))) ?_)
   refine IdxG.of ‹_› (ArgG.mk (yf (x:=us[k0.k].n) (y:=s.K[j].cs[k2]) (hu _ (ags he)) ((hK _ (ags hj)).c _ (ags _)) hk.1) rfl ?_)
   rintro _ rfl
   refine ArgG.mk (wz (x:=k0.q.cs[k2]) (y:=(us[k0.k].n*s.K[j].cs[k2])) (ha.2.1.c _ (ags _)) hk.1 hk.2.1) rfl ?_
   rintro _ rfl
   refine OpG.lk (av (k:=k2) ae Tryz.underlying45 ik rfl rfl rfl (by omega) rfl) (OpG.wr (bl (k:=k2) (o:=0) (v:=k0.q.cs[k2]+us[k0.k].n*s.K[j].cs[k2]) ae ik rfl rfl rfl rfl rfl rfl (by rw[cb hg.1];omega) (by decide) rfl) rfl ?_)
   refine⟨by kernel_rfl,⟨by omega,?_⟩⟩
   refine⟨(k2+1),by omega,(cO (.cons rfl rfl (.cons rfl rfl (.cons rfl rfl (.cons rfl rfl (.cons rfl rfl (.cons rfl rfl (.cons rfl rfl (.cons rfl rfl (.cons rfl rfl (.cons rfl rfl (.cons rfl rfl .nil))))))))))) (.cons rfl rfl rfl (.cons rfl rfl rfl (.cons (by(rw[j7 hg.1 (by omega) (fun h=>(hg.2.2 k2 (by omega) hq h).2.2.symm)];rfl)) rfl (aa ae _ _) (.cons rfl rfl rfl (.cons rfl rfl rfl (.cons rfl rfl rfl (.cons rfl rfl rfl (.cons rfl rfl (aa ab _ _) (.cons rfl rfl (aa ai _ _) (.cons rfl rfl (aa ah _ _) (.cons rfl rfl (aa ap _ _) (.cons rfl rfl (aa ae _ _) (.cons rfl rfl (aa ag _ _) (.cons rfl rfl (aa aj _ _) .nil))))))))))))))),?_⟩
   omega
  refine RegG.via (fun _ h=>ck 2 ⟨0,rF bI q1.cs,2,false⟩ rfl (by rw[ig hg.1 (by omega)]) h) (aw ?_)
  refine ArgG.mk (yf (x:=us[k0.k].n) (y:=s.K[j].b) (hu _ (ags he)) (hK _ (ags hj)).b hf.2.1) rfl ?_
  rintro _ rfl
  refine ArgG.mk (wz (x:=k0.q.b) (y:=(us[k0.k].n*s.K[j].b)) ha.2.1.b hf.2.1 hf.2.2.1) rfl ?_
  rintro _ rfl
  refine⟨by kernel_rfl,⟨by omega,?_⟩⟩
  refine⟨(⟨k0.k+1,q1⟩:KQ),(by show us.length-(k0.k+1)<us.length-k0.k;omega),(cO (.cons rfl rfl (.cons rfl rfl (.cons rfl rfl (.cons rfl rfl (.cons rfl rfl (.cons rfl rfl (.cons rfl rfl .nil))))))) (.cons rfl rfl rfl (.cons rfl rfl rfl (.cons rfl rfl (aa ae _ _) (.cons (by(rw[hf.2.2.2];rfl)) rfl rfl (.cons rfl rfl rfl (.cons rfl rfl (aa ab _ _) (.cons rfl rfl (aa ai _ _) (.cons rfl rfl (aa ah _ _) (.cons rfl rfl (aa ap _ _) (.cons rfl rfl (aa ae _ _) (.cons rfl rfl (aa ag _ _) (.cons rfl rfl (aa aj _ _) .nil))))))))))))),⟨by show k0.k+1<=_;omega,?_⟩⟩
  exact⟨hi,⟨ra hf.1,by rw[hf.2.2.2];exact hf.2.2.1⟩,by show q1.cs.length=s.n;rw[hg.1];exact ha.2.2⟩
 have hn:=Di hh ha.1
 refine RegG.via (fun _ h=>ck 2 ⟨0,rF bI Q.cs,2,false⟩ rfl (by rw[hn]) h) (RegG.via (fun _ h=>ck 3 ⟨0,.sl 2 0 0 s.n::bI Q.b,0,false⟩ rfl (by rw[hn]) h) ?_)
 refine aw ?_
 try refine LenG.of ?_
 refine LpG.on (fun k4:Nat=>(⟨fL [(5,.ptr 0 0 0),(6,.ptr 1 0 0),(7,.ptr 3 0 0),(70,.v (.int .i64 ((s.n:Nat):Int))),(71,.v (.int .i64 ((k4:Nat):Int)))],hLz [(0,⟨0,bI d,0,false⟩),(1,⟨0,[.v (.slice none 0 0),.v (.bool false),.v (.slice none 0 0)],0,false⟩),(2,⟨0,rF bI ((Q.cs.map (flD · d)).take k4++Q.cs.drop k4),2,false⟩),(3,⟨0,.sl 2 0 0 s.n::bI Q.b,0,false⟩),(1000000,sB s),(1000001,s1 s),(1000002,s2 s),(1000003,s3 s),(1000004,s4 s),(1000005,s5 s),(1000006,s6 s),(1000007,s7 s)],4⟩:St)) (fun k4=>(s.n-k4)) (fun k4=>(k4<=s.n)) 0 (cO (.cons rfl rfl (.cons rfl rfl (.cons rfl rfl (.cons rfl rfl (.cons rfl rfl .nil))))) (.cons rfl rfl rfl (.cons rfl rfl rfl (.cons (by rfl) rfl (aa ae _ _) (.cons rfl rfl rfl (.cons rfl rfl rfl (.cons rfl rfl (aa ab _ _) (.cons rfl rfl (aa ai _ _) (.cons rfl rfl (aa ah _ _) (.cons rfl rfl (aa ap _ _) (.cons rfl rfl (aa ae _ _) (.cons rfl rfl (aa ag _ _) (.cons rfl rfl (aa aj _ _) .nil))))))))))))) (ag5 _) ?_
 rintro k4 hc
 have hle_k4:=hc
 refine cL (fun hlt72=>?_) (fun hge72=>?_)
 ·refine OpG.lk (av (k:=k4) ae Tryz.underlying45 ik rfl rfl rfl (by omega) rfl) (OpG.lk (kv ae db rfl rfl (xu (by simp) (by omega))) ?_)
  refine ArgG.mk (nj (x:=Q.cs[k4]) (y:=d) (hm.c _ (ags _)) hl (by omega)) rfl ?_
  rintro _ rfl
  refine OpG.lk (av (k:=k4) ae Tryz.underlying45 ik rfl rfl rfl (by omega) rfl) (OpG.wr (bl (k:=k4) (o:=0) (v:=flD Q.cs[k4] d) ae ik rfl rfl rfl rfl rfl rfl (by rw[cb (by simp)];omega) (by decide) rfl) rfl ?_)
  refine⟨by kernel_rfl,⟨by omega,?_⟩⟩
  refine⟨(k4+1),by omega,(cO (.cons rfl rfl (.cons rfl rfl (.cons rfl rfl (.cons rfl rfl (.cons rfl rfl .nil))))) (.cons rfl rfl rfl (.cons rfl rfl rfl (.cons (by(rw[j7 (r:=Q.cs.map (flD · d)) (by simp) (by omega) (fun h=>(mv (by omega) h).symm)];rfl)) rfl (aa ae _ _) (.cons rfl rfl rfl (.cons rfl rfl rfl (.cons rfl rfl (aa ab _ _) (.cons rfl rfl (aa ai _ _) (.cons rfl rfl (aa ah _ _) (.cons rfl rfl (aa ap _ _) (.cons rfl rfl (aa ae _ _) (.cons rfl rfl (aa ag _ _) (.cons rfl rfl (aa aj _ _) .nil))))))))))))),?_⟩
  omega
 refine RegG.via (fun _ h=>ck 2 ⟨0,rF bI (Q.cs.map (flD · d)),2,false⟩ rfl (by rw[ig (by simp) (by omega)]) h) (aw ?_)
 refine ArgG.mk (nj (x:=Q.b) (y:=d) hm.b hl (by omega)) rfl ?_
 rintro _ rfl
 refine⟨.inr rfl,_,Nf.of [2] (az rfl (.cons (abn.cellN na rfl rfl trivial rfl rfl rfl) .nil)) rfl ⟨.same rfl (by decide),.same rfl (by decide),.same rfl (by decide),.same rfl (by decide),.same rfl (by decide),.same rfl (by decide),.same rfl (by decide),.same rfl (by decide),trivial⟩ (.fz (ago (q:=N3 Q d) (by simp) rfl (by simp[N3];omega))),?_⟩
 rfl
abbrev SzS(s:OSt):Prop:=s.K.length<=1000000/\s.vK<=1000000/\s.S.length<=1000000/\s.vS<=1000000/\s.I.length<=1000000/\s.vI<=1000000/\s.E.length<=1000000/\s.vE<=1000000
def dOf(g:List Int):Int:=if k9 g=0 then 1 else k9 g
def Cm(s:OSt)(g:List Int)(us:List UsS):Option (OSt×ItS×Bool×Bool):=
 if 1<us.length\/dOf g≠1 then
  if SzS s then match R2 s.n s.K us (dOf g)with
   |none=>none
   |some q=>some ({s with S:=s.S++[⟨us,dOf g⟩],vS:=s.vS+1,K:=s.K++[q],vK:=s.vK+1},⟨(s.K.length:Int),g.map (flD · (dOf g))⟩,decide (k9 g≠0),decide (k9 g≠0)||decide (0<=q.b))
  else none
 else match us with
  |[u]=>if 0<=u.i then match s.K[u.i.toNat]? with
   |none=>none
   |some k=>some (s,⟨u.i,g.map (flD · (dOf g))⟩,decide (k9 g≠0),decide (k9 g≠0)||decide (0<=k.b))
   else none
  |_=>none
section
variable{s s':OSt}{g:List Int}{us:List UsS}{x:ItS}{sm ok:Bool}
theorem afz(h:k9 g=0):dOf g=1:=ag1 h
theorem afy(h:¬k9 g=0):dOf g=k9 g:=ag0 h
theorem jv(h:BL g):B1 (dOf g)/\0<dOf g:=by
 obtain⟨h1,h2⟩:=Lj h
 unfold dOf;split
 ·exact⟨⟨by decide,by decide⟩,by decide⟩
 ·exact⟨h1,by omega⟩
theorem Ak(h:Cm s g us=some (s',x,sm,ok))(hc:1<us.length\/dOf g≠1):SzS s/\∃q,R2 s.n s.K us (dOf g)=some q/\s'={s with S:=s.S++[⟨us,dOf g⟩],vS:=s.vS+1,K:=s.K++[q],vK:=s.vK+1}/\x=⟨(s.K.length:Int),g.map (flD · (dOf g))⟩/\sm=decide (k9 g≠0)/\ok=(decide (k9 g≠0)||decide (0<=q.b)):=by
 unfold Cm at h
 rw[ag1 hc]at h
 split at h
 ·next hs=>
  split at h
  ·cases h
  ·next q e=>cases h;exact⟨hs,q,e,rfl,rfl,rfl,rfl⟩
 ·cases h
theorem Ei(h0:0<us.length)(h:Cm s g us=some (s',x,sm,ok))(hc:¬(1<us.length\/dOf g≠1)):∃(j:Nat) (hj:j<s.K.length),us[0].i=(j:Int)/\s=s'/\x=⟨us[0].i,g.map (flD · (dOf g))⟩/\sm=decide (k9 g≠0)/\ok=(decide (k9 g≠0)||decide (0<=s.K[j].b)):=by
 unfold Cm at h
 rw[ag0 hc]at h
 split at h
 ·next u=>
  split at h
  ·next h0=>
   split at h
   ·cases h
   ·next k e=>
    obtain⟨hj,rfl⟩:=ahl.1 e
    cases h
    exact⟨u.i.toNat,hj,(Int.toNat_of_nonneg h0).symm,rfl,rfl,rfl,rfl⟩
  ·cases h
 ·cases h
end
theorem uz{s:OSt}:fj [(1000000,1000000),(1000001,1000001),(1000002,1000002),(1000003,1000003),(1000004,1000004),(1000005,1000005),(1000006,1000006),(1000007,1000007)] [(1000000,some (sB s)),(1000001,some (s1 s)),(1000002,some (s2 s)),(1000003,some (s3 s)),(1000004,some (s4 s)),(1000005,some (s5 s)),(1000006,some (s6 s)),(1000007,some (s7 s))]=[(1000000,some (sB s)),(1000001,some (s1 s)),(1000002,some (s2 s)),(1000003,some (s3 s)),(1000004,some (s4 s)),(1000005,some (s5 s)),(1000006,some (s6 s)),(1000007,some (s7 s))]:=by
 simp only[fj,ahg,List.map_nil,ahn,ci ab,ci ai,ci ah,ci ap,ci ae,ci ag,ci aj]
 rfl
theorem Az{g:List Int}{d:Int}{n:Nat}(h:g.length=n):(g.map (flD · d)).length=(List.replicate n 0:List Int).length:=by simp[h]
theorem blk0{g:List Int}(h:sgZ (k9 g)=0):(⟨0,bI 1,0,false⟩:Blk)=⟨0,bI (dOf g),0,false⟩:=by rw[afz (sgZ_0.1 h)]
theorem blkN{g:List Int}(h:¬sgZ (k9 g)=0):(⟨0,bI (k9 g),0,false⟩:Blk)=⟨0,bI (dOf g),0,false⟩:=by rw[afy (fun e=>h (sgZ_0.2 e))]
theorem Us{x:Int}:0<=sgZ x↔0<=x:=by unfold sgZ;split<;>(try split)<;>omega
theorem lf0{X:AV}{g:List Int}{b:Int}(h:sgZ (k9 g)=0):(.tup [X,.v (.bool (sgZ (k9 g) !=0)),.v (.bool (decide (sgZ b≥0)))]:AV)=.tup [X,.v (.bool (decide (k9 g≠0))),.v (.bool (decide (k9 g≠0)||decide (0<=b)))]:=by
 have e:=sgZ_0.1 h
 rw[h,decide_eq_false (show¬k9 g≠0 from fun k=>k e),Bool.false_or,show decide (sgZ b≥0)=decide (0<=b)from decide_eq_decide.2 Us];rfl
theorem lfN{X:AV}{g:List Int}{b:Int}(h:¬sgZ (k9 g)=0):(.tup [X,.v (.bool (sgZ (k9 g) !=0)),.v (.bool true)]:AV)=.tup [X,.v (.bool (decide (k9 g≠0))),.v (.bool (decide (k9 g≠0)||decide (0<=b)))]:=by
 have e:k9 g≠0:=fun k=>h (sgZ_0.2 k)
 rw[show(sgZ (k9 g) !=0)=true from bne_iff_ne.2 h,decide_eq_true e];rfl
theorem Fs{K:List IqS}{q:IqS}(h:K.length<=1000000):IntKind.i64.wrap ((((K++[q]).length:Nat):Int)-1)=((K.length:Nat):Int):=by
 rw[agw];show IntKind.i64.wrap (((K.length+1:Nat):Int)-1)=_
 rw[show((K.length+1:Nat):Int)-1=(K.length:Int)by omega]
 exact IntWalk.i64_in _ ⟨by omega,by omega⟩
theorem t6:bw Tryz.prog 178=true:=by kernel_rfl
theorem Hh:bw Tryz.prog 209=true:=by kernel_rfl
theorem Al:(Tryz.prog.info? 118).map (·.bytes)=some 56:=by kernel_rfl
theorem Qx:(Tryz.prog.info? 123).map (·.bytes)=some 56:=by kernel_rfl
theorem m9:ej Tryz.prog 242=some (some 2):=by kernel_rfl
theorem Ov:ao Tryz.prog 123=some 3:=by kernel_rfl
theorem r6:bj Tryz.prog 118=some (.agg #[.slice none 0 0,.bool false,.slice none 0 0]):=by kernel_rfl
theorem N7:bj Tryz.prog 123=some (.agg #[.slice none 0 0,.bool false,.slice none 0 0]):=by kernel_rfl
theorem aaq(g:List Int)(hg:ip g (fun y=>True))(us:List UsS)(hw:ip us (fun y=>True))(s:OSt)(x:ItS)(sm ok:Bool)(s':OSt)(hx:s.n<=1000)(hi:g.length=s.n)(he:BL g)(hu:∀u∈us,B1 u.n)(hK:∀q∈s.K,BQ q)(hul:us.length<100000)(h0:0<us.length)(h1:us.length=1->us[0].n=1)(h:Cm s g us=some (s',x,sm,ok))(hc:1<us.length\/dOf g≠1):qa Tryz.prog 174 [.ptr 1000000 0 0,.tree 2 (g.map bI),.tree 3 (us.map usA)] [(1000000,sB s),(1000001,s1 s),(1000002,s2 s),(1000003,s3 s),(1000004,s4 s),(1000005,s5 s),(1000006,s6 s),(1000007,s7 s)] [(1000000,some (sB s')),(1000001,some (s1 s')),(1000002,some (s2 s')),(1000003,some (s3 s')),(1000004,some (s4 s')),(1000005,some (s5 s')),(1000006,some (s6 s')),(1000007,some (s7 s'))] (fun q=>q=.tup [.agg (itA x),.v (.bool sm),.v (.bool ok)]):=by
 obtain⟨⟨z1,z2,z3,z4,z5,z6,z7,z8⟩,q,hq,rfl,rfl,rfl,rfl⟩:=Ak h hc
 have g2:=(Jn (jv he).2 hq).1
 have g0:({s with S:=s.S++[⟨us,dOf g⟩],vS:=s.vS+1,K:=s.K++[q],vK:=s.vK+1:OSt}).K[s.K.length]? =some q:=by simp
 have g1:=g2.b
 refine qa.of_vc jc [50,61,63,70,71,83,103,111,100103] [5,8,16] Tryz.func174 rfl Tryz.ntmps174 rfl (by kernel_rfl) ?_
 refine ArgG.mk (Ta g hg he (by omega)) rfl ?_
 rintro _ rfl
 refine ArgG.mk (j8 (x:=(k9 g)) (Lj he).1) rfl ?_
 rintro _ rfl
 refine cB (fun hr=>?_) (fun hr=>?_)
 ·have hf:((sgZ ((k9 g))):Int)=(0:Int):=by simpa using hr
  refine ArgG.mk (pm (n:=1) ⟨by decide,by decide⟩) rfl ?_
  rintro _ rfl
  refine RegG.via (fun _ h=>ck 1 ⟨0,bI (dOf g),0,false⟩ rfl (by exact blk0 hf) h) ?_
  refine aw ?_
  refine ArgG.mk (pm (n:=1) ⟨by decide,by decide⟩) rfl ?_
  rintro _ rfl
  refine LenG.of (cB (fun hj=>?_) (fun hj=>?_))
  ·have hs:((us.length:Nat):Int)>(1:Int):=ag3 hj
   refine cT ⟨by kernel_rfl,cT ?_⟩
   refine OpG.mk _ _ _ 4 (b9 ai (l:=s.S) (a:=(⟨us,dOf g⟩:StS)) Tryz.underlying44 Ov N7 Qx rfl rfl rfl (dv rfl rfl rfl rfl) rfl (by omega) (by omega) (by unfold TV;omega)) rfl rfl ?_
   refine⟨by kernel_rfl,?_⟩
   obtain⟨_,rfl,ht⟩:=Ox us hw {s with S:=s.S++[⟨us,dOf g⟩],vS:=s.vS+1:OSt} (dOf g) q (jv he).2 (jv he).1 hx hu hK hq
   refine aw ?_
   refine OpG.lk (co (a8 [(1000000,1000000),(1000001,1000001),(1000002,1000002),(1000003,1000003),(1000004,1000004),(1000005,1000005),(1000006,1000006),(1000007,1000007)] Hh ht rfl rfl rfl rfl ⟨rfl,sX ab,sX ai,sX ah,sX ap,sX ae,sX ag,sX aj,trivial⟩ ⟨⟨rfl,.inl rfl⟩,au ab,au ai,au ah,au ap,au ae,au ag,au aj,trivial⟩ ⟨rfl,aq ab _ _,aq ai _ _,aq ah _ _,aq ap _ _,aq ae _ _,aq ag _ _,aq aj _ _,trivial⟩ rfl rfl rfl rfl uz rfl) ⟨⟨.head _,rfl,rfl⟩,⟨.tail _ (.head _),rfl,rfl⟩,⟨.tail _ (.tail _ (.head _)),rfl,rfl⟩,⟨.tail _ (.tail _ (.tail _ (.head _))),rfl,rfl⟩,⟨.tail _ (.tail _ (.tail _ (.tail _ (.head _)))),rfl,rfl⟩,⟨.tail _ (.tail _ (.tail _ (.tail _ (.tail _ (.head _))))),rfl,rfl⟩,⟨.tail _ (.tail _ (.tail _ (.tail _ (.tail _ (.tail _ (.head _)))))),rfl,rfl⟩,⟨.tail _ (.tail _ (.tail _ (.tail _ (.tail _ (.tail _ (.tail _ (.head _))))))),rfl,rfl⟩,trivial⟩) ?_
   refine OpG.mk _ _ _ 5 (b9 ab (l:=s.K) (a:=q) Tryz.underlying85 jt r6 Al rfl rfl rfl (dv rfl rfl rfl rfl) rfl (by omega) (by omega) (by unfold TV;omega)) rfl rfl ?_
   refine⟨by kernel_rfl,?_⟩
   refine OpG.lk (cd rfl Tryz.underlying85 rfl rfl rfl) ?_
   refine OpG.lk (pd (r:=((s.K.length:Nat):Int)) rfl rfl (Fs z1)) ?_
   refine⟨by kernel_rfl,?_⟩
   refine⟨(by first|assumption|omega|decide),?_⟩
   refine OpG.nw (cv 6 (len:=s.n) Tryz.underlying45 ik A4 Db rfl rfl rfl (by omega)) rfl ?_
   refine⟨by kernel_rfl,?_⟩
   refine LenG.of (LpG.on (fun k0:Nat=>(⟨fL [(0,.ptr 1000000 0 0),(1,.tree 2 (g.map bI)),(6,.ptr 0 0 0),(9,.ptr 1 0 0),(10,.v (.bool (!decide (sgZ (k9 g)=0)))),(12,.ptr 7 0 0),(86,.v (.int .i64 ((g.length:Nat):Int))),(87,.v (.int .i64 ((k0:Nat):Int)))],hLz [(0,⟨0,[.v (.int .i64 0),.v (.slice none 0 0)],0,false⟩),(1,⟨0,bI (dOf g),0,false⟩),(6,⟨0,rF bI ((g.map (flD · (dOf g))).take k0++(List.replicate s.n 0).drop k0),2,false⟩),(7,⟨0,[.v (.int .i64 ((s.K.length:Nat):Int)),.sl 6 0 0 s.n],0,false⟩),(1000000,sB {s with S:=s.S++[⟨us,dOf g⟩],vS:=s.vS+1,K:=s.K++[q],vK:=s.vK+1:OSt}),(1000001,s1 {s with S:=s.S++[⟨us,dOf g⟩],vS:=s.vS+1,K:=s.K++[q],vK:=s.vK+1:OSt}),(1000002,s2 {s with S:=s.S++[⟨us,dOf g⟩],vS:=s.vS+1,K:=s.K++[q],vK:=s.vK+1:OSt}),(1000003,s3 {s with S:=s.S++[⟨us,dOf g⟩],vS:=s.vS+1,K:=s.K++[q],vK:=s.vK+1:OSt}),(1000004,s4 {s with S:=s.S++[⟨us,dOf g⟩],vS:=s.vS+1,K:=s.K++[q],vK:=s.vK+1:OSt}),(1000005,s5 {s with S:=s.S++[⟨us,dOf g⟩],vS:=s.vS+1,K:=s.K++[q],vK:=s.vK+1:OSt}),(1000006,s6 {s with S:=s.S++[⟨us,dOf g⟩],vS:=s.vS+1,K:=s.K++[q],vK:=s.vK+1:OSt}),(1000007,s7 {s with S:=s.S++[⟨us,dOf g⟩],vS:=s.vS+1,K:=s.K++[q],vK:=s.vK+1:OSt})],8⟩:St)) (fun k0=>(g.length-k0)) (fun k0=>(k0<=g.length)) 0 (cO (.cons rfl rfl (.cons rfl rfl (.cons rfl rfl (.cons rfl rfl (.cons rfl rfl (.cons rfl rfl (.cons rfl rfl (.cons rfl rfl .nil)))))))) (.cons rfl rfl rfl (.cons rfl rfl rfl (.cons (by rfl) rfl (aa ae _ _) (.cons rfl rfl rfl (.cons rfl rfl rfl (.cons rfl rfl (aa ab _ _) (.cons rfl rfl (aa ai _ _) (.cons rfl rfl (aa ah _ _) (.cons rfl rfl (aa ap _ _) (.cons rfl rfl (aa ae _ _) (.cons rfl rfl (aa ag _ _) (.cons rfl rfl (aa aj _ _) .nil))))))))))))) (ag5 _) ?_)
   rintro k0 hk
   have hl:g.length<=140737488355328:=hg.1
   have hm:=hk
   refine cB (fun hd=>?_) (fun hd=>?_)
   ·have ho:k0<g.length:=Int.ofNat_lt.1 (ag3 hd)
    refine IdxG.of ‹_› (ArgG.mk (nj (x:=g[k0]) (y:=dOf g) (he _ (ags _)) (jv he).1 (by have:=(jv he).2;omega)) rfl ?_)
    rintro _ rfl
    refine OpG.lk (av (k:=k0) ae Tryz.underlying45 ik rfl rfl rfl (by omega) rfl) ?_
    refine OpG.wr (bl (k:=k0) (o:=0) (v:=flD g[k0] (dOf g)) ae ik rfl rfl rfl rfl rfl rfl (by rw[cb (Az hi)];simp;omega) (by decide) rfl) rfl ?_
    refine⟨by kernel_rfl,?_⟩
    refine⟨by omega,?_⟩
    refine⟨(k0+1),by omega,(cO (.cons rfl rfl (.cons rfl rfl (.cons rfl rfl (.cons rfl rfl (.cons rfl rfl (.cons rfl rfl (.cons rfl rfl (.cons rfl rfl .nil)))))))) (.cons rfl rfl rfl (.cons rfl rfl rfl (.cons (by(rw[j7 (Az hi) (by simp;omega) (fun h=>(mv (by omega) h).symm)];rfl)) rfl (aa ae _ _) (.cons rfl rfl rfl (.cons rfl rfl rfl (.cons rfl rfl (aa ab _ _) (.cons rfl rfl (aa ai _ _) (.cons rfl rfl (aa ah _ _) (.cons rfl rfl (aa ap _ _) (.cons rfl rfl (aa ae _ _) (.cons rfl rfl (aa ag _ _) (.cons rfl rfl (aa aj _ _) .nil))))))))))))),?_⟩
    omega
   have hp:¬k0<g.length:=fun h=>ag2 hd (Int.ofNat_lt.2 h)
   refine RegG.via (fun _ h=>ck 6 ⟨0,rF bI (g.map (flD · (dOf g))),2,false⟩ rfl (by rw[ig (Az hi) (by simp;omega)]) h) ?_
   refine RegG.via (fun _ h=>cm [6] 7 0 0 [.v (.int .i64 ((s.K.length:Nat):Int)),.sl 6 0 0 s.n] (itA (⟨((s.K.length:Nat):Int),(g.map (flD · (dOf g)))⟩:ItS)) rfl rfl (.keep (.fz (b7 ae (agx.2 rfl) rfl (by simp[hi])) (.same _))) rfl h) ?_
   refine aw ?_
   refine cB (fun hb=>?_) (fun hb=>?_)
   ·exfalso;simp[hf]at hb
   obtain⟨_,rfl,hy⟩:=An {s with S:=s.S++[⟨us,dOf g⟩],vS:=s.vS+1,K:=s.K++[q],vK:=s.vK+1:OSt} (⟨((s.K.length:Nat):Int),(g.map (flD · (dOf g)))⟩:ItS) s.K.length q rfl g0
   refine OpG.lk (co (a8 [(1000000,1000000),(1000001,1000001),(1000002,1000002),(1000003,1000003),(1000004,1000004),(1000005,1000005),(1000006,1000006),(1000007,1000007)] t6 hy rfl rfl rfl rfl ⟨rfl,sX ab,sX ai,sX ah,sX ap,sX ae,sX ag,sX aj,trivial⟩ ⟨⟨rfl,.inl rfl⟩,au ab,au ai,au ah,au ap,au ae,au ag,au aj,trivial⟩ ⟨rfl,aq ab _ _,aq ai _ _,aq ah _ _,aq ap _ _,aq ae _ _,aq ag _ _,aq aj _ _,trivial⟩ rfl rfl rfl rfl uz rfl) ⟨⟨.head _,rfl,rfl⟩,⟨.tail _ (.head _),rfl,rfl⟩,⟨.tail _ (.tail _ (.head _)),rfl,rfl⟩,⟨.tail _ (.tail _ (.tail _ (.head _))),rfl,rfl⟩,⟨.tail _ (.tail _ (.tail _ (.tail _ (.head _)))),rfl,rfl⟩,⟨.tail _ (.tail _ (.tail _ (.tail _ (.tail _ (.head _))))),rfl,rfl⟩,⟨.tail _ (.tail _ (.tail _ (.tail _ (.tail _ (.tail _ (.head _)))))),rfl,rfl⟩,⟨.tail _ (.tail _ (.tail _ (.tail _ (.tail _ (.tail _ (.tail _ (.head _))))))),rfl,rfl⟩,trivial⟩) ?_
   refine ArgG.mk (j8 (x:=q.b) g1) rfl ?_
   rintro _ rfl
   refine⟨by kernel_rfl,?_⟩
   refine⟨.inr rfl,_,Nf.of [] (az rfl (.cons (abn.cellN m9 rfl rfl trivial rfl rfl rfl) (.cons (abn.tmp rfl) (.cons (abn.tmp rfl) .nil)))) rfl ⟨.same rfl (by decide),.same rfl (by decide),.same rfl (by decide),.same rfl (by decide),.same rfl (by decide),.same rfl (by decide),.same rfl (by decide),.same rfl (by decide),trivial⟩ .same,?_⟩
   exact lf0 hf
  have hs:¬(((us.length:Nat):Int)>(1:Int)):=ag2 hj
  refine IdxG.of (j:=0) ‹_› (ArgG.mk (nk (x:=us[0].n) (y:=1) (hu _ (ags _)) ⟨by decide,by decide⟩) rfl ?_)
  rintro _ rfl
  refine cB (fun hh=>?_) (fun hh=>?_)
  ·have hv:¬(((sgZ (us[0].n-1)):Int)=(0:Int)):=by simpa using hh
   exact absurd (h1 (by omega)) (fun e=>by rw[e]at hh;simp[sgZ]at hh)
  have hv:((sgZ (us[0].n-1)):Int)=(0:Int):=by simpa using hh
  refine ArgG.mk (nk (x:=(dOf g)) (y:=1) (jv he).1 ⟨by decide,by decide⟩) rfl ?_
  rintro _ rfl
  refine⟨by kernel_rfl,?_⟩
  refine cB (fun hn=>?_) (fun hn=>?_)
  ·have hz:¬(((sgZ ((dOf g)-1)):Int)=(0:Int)):=by simpa using hn
   refine OpG.mk _ _ _ 4 (b9 ai (l:=s.S) (a:=(⟨us,dOf g⟩:StS)) Tryz.underlying44 Ov N7 Qx rfl rfl rfl (dv rfl rfl rfl rfl) rfl (by omega) (by omega) (by unfold TV;omega)) rfl rfl ?_
   refine⟨by kernel_rfl,?_⟩
   obtain⟨_,rfl,ht⟩:=Ox us hw {s with S:=s.S++[⟨us,dOf g⟩],vS:=s.vS+1:OSt} (dOf g) q (jv he).2 (jv he).1 hx hu hK hq
   refine aw ?_
   refine OpG.lk (co (a8 [(1000000,1000000),(1000001,1000001),(1000002,1000002),(1000003,1000003),(1000004,1000004),(1000005,1000005),(1000006,1000006),(1000007,1000007)] Hh ht rfl rfl rfl rfl ⟨rfl,sX ab,sX ai,sX ah,sX ap,sX ae,sX ag,sX aj,trivial⟩ ⟨⟨rfl,.inl rfl⟩,au ab,au ai,au ah,au ap,au ae,au ag,au aj,trivial⟩ ⟨rfl,aq ab _ _,aq ai _ _,aq ah _ _,aq ap _ _,aq ae _ _,aq ag _ _,aq aj _ _,trivial⟩ rfl rfl rfl rfl uz rfl) ⟨⟨.head _,rfl,rfl⟩,⟨.tail _ (.head _),rfl,rfl⟩,⟨.tail _ (.tail _ (.head _)),rfl,rfl⟩,⟨.tail _ (.tail _ (.tail _ (.head _))),rfl,rfl⟩,⟨.tail _ (.tail _ (.tail _ (.tail _ (.head _)))),rfl,rfl⟩,⟨.tail _ (.tail _ (.tail _ (.tail _ (.tail _ (.head _))))),rfl,rfl⟩,⟨.tail _ (.tail _ (.tail _ (.tail _ (.tail _ (.tail _ (.head _)))))),rfl,rfl⟩,⟨.tail _ (.tail _ (.tail _ (.tail _ (.tail _ (.tail _ (.tail _ (.head _))))))),rfl,rfl⟩,trivial⟩) ?_
   refine OpG.mk _ _ _ 5 (b9 ab (l:=s.K) (a:=q) Tryz.underlying85 jt r6 Al rfl rfl rfl (dv rfl rfl rfl rfl) rfl (by omega) (by omega) (by unfold TV;omega)) rfl rfl ?_
   refine⟨by kernel_rfl,?_⟩
   refine OpG.lk (cd rfl Tryz.underlying85 rfl rfl rfl) ?_
   refine OpG.lk (pd (r:=((s.K.length:Nat):Int)) rfl rfl (Fs z1)) ?_
   refine⟨by kernel_rfl,?_⟩
   refine⟨(by first|assumption|omega|decide),?_⟩
   refine OpG.nw (cv 6 (len:=s.n) Tryz.underlying45 ik A4 Db rfl rfl rfl (by omega)) rfl ?_
   refine⟨by kernel_rfl,?_⟩
   refine LenG.of (LpG.on (fun k0:Nat=>(⟨fL [(0,.ptr 1000000 0 0),(1,.tree 2 (g.map bI)),(6,.ptr 0 0 0),(9,.ptr 1 0 0),(10,.v (.bool (!decide (sgZ (k9 g)=0)))),(12,.ptr 7 0 0),(86,.v (.int .i64 ((g.length:Nat):Int))),(87,.v (.int .i64 ((k0:Nat):Int)))],hLz [(0,⟨0,[.v (.int .i64 0),.v (.slice none 0 0)],0,false⟩),(1,⟨0,bI (dOf g),0,false⟩),(6,⟨0,rF bI ((g.map (flD · (dOf g))).take k0++(List.replicate s.n 0).drop k0),2,false⟩),(7,⟨0,[.v (.int .i64 ((s.K.length:Nat):Int)),.sl 6 0 0 s.n],0,false⟩),(1000000,sB {s with S:=s.S++[⟨us,dOf g⟩],vS:=s.vS+1,K:=s.K++[q],vK:=s.vK+1:OSt}),(1000001,s1 {s with S:=s.S++[⟨us,dOf g⟩],vS:=s.vS+1,K:=s.K++[q],vK:=s.vK+1:OSt}),(1000002,s2 {s with S:=s.S++[⟨us,dOf g⟩],vS:=s.vS+1,K:=s.K++[q],vK:=s.vK+1:OSt}),(1000003,s3 {s with S:=s.S++[⟨us,dOf g⟩],vS:=s.vS+1,K:=s.K++[q],vK:=s.vK+1:OSt}),(1000004,s4 {s with S:=s.S++[⟨us,dOf g⟩],vS:=s.vS+1,K:=s.K++[q],vK:=s.vK+1:OSt}),(1000005,s5 {s with S:=s.S++[⟨us,dOf g⟩],vS:=s.vS+1,K:=s.K++[q],vK:=s.vK+1:OSt}),(1000006,s6 {s with S:=s.S++[⟨us,dOf g⟩],vS:=s.vS+1,K:=s.K++[q],vK:=s.vK+1:OSt}),(1000007,s7 {s with S:=s.S++[⟨us,dOf g⟩],vS:=s.vS+1,K:=s.K++[q],vK:=s.vK+1:OSt})],8⟩:St)) (fun k0=>(g.length-k0)) (fun k0=>(k0<=g.length)) 0 (cO (.cons rfl rfl (.cons rfl rfl (.cons rfl rfl (.cons rfl rfl (.cons rfl rfl (.cons rfl rfl (.cons rfl rfl (.cons rfl rfl .nil)))))))) (.cons rfl rfl rfl (.cons rfl rfl rfl (.cons (by rfl) rfl (aa ae _ _) (.cons rfl rfl rfl (.cons rfl rfl rfl (.cons rfl rfl (aa ab _ _) (.cons rfl rfl (aa ai _ _) (.cons rfl rfl (aa ah _ _) (.cons rfl rfl (aa ap _ _) (.cons rfl rfl (aa ae _ _) (.cons rfl rfl (aa ag _ _) (.cons rfl rfl (aa aj _ _) .nil))))))))))))) (ag5 _) ?_)
   rintro k0 hk
   have hl:g.length<=140737488355328:=hg.1
   have hm:=hk
   refine cB (fun hd=>?_) (fun hd=>?_)
   ·have ho:k0<g.length:=Int.ofNat_lt.1 (ag3 hd)
    refine IdxG.of ‹_› (ArgG.mk (nj (x:=g[k0]) (y:=dOf g) (he _ (ags _)) (jv he).1 (by have:=(jv he).2;omega)) rfl ?_)
    rintro _ rfl
    refine OpG.lk (av (k:=k0) ae Tryz.underlying45 ik rfl rfl rfl (by omega) rfl) ?_
    refine OpG.wr (bl (k:=k0) (o:=0) (v:=flD g[k0] (dOf g)) ae ik rfl rfl rfl rfl rfl rfl (by rw[cb (Az hi)];simp;omega) (by decide) rfl) rfl ?_
    refine⟨by kernel_rfl,?_⟩
    refine⟨by omega,?_⟩
    refine⟨(k0+1),by omega,(cO (.cons rfl rfl (.cons rfl rfl (.cons rfl rfl (.cons rfl rfl (.cons rfl rfl (.cons rfl rfl (.cons rfl rfl (.cons rfl rfl .nil)))))))) (.cons rfl rfl rfl (.cons rfl rfl rfl (.cons (by(rw[j7 (Az hi) (by simp;omega) (fun h=>(mv (by omega) h).symm)];rfl)) rfl (aa ae _ _) (.cons rfl rfl rfl (.cons rfl rfl rfl (.cons rfl rfl (aa ab _ _) (.cons rfl rfl (aa ai _ _) (.cons rfl rfl (aa ah _ _) (.cons rfl rfl (aa ap _ _) (.cons rfl rfl (aa ae _ _) (.cons rfl rfl (aa ag _ _) (.cons rfl rfl (aa aj _ _) .nil))))))))))))),?_⟩
    omega
   have hp:¬k0<g.length:=fun h=>ag2 hd (Int.ofNat_lt.2 h)
   refine RegG.via (fun _ h=>ck 6 ⟨0,rF bI (g.map (flD · (dOf g))),2,false⟩ rfl (by rw[ig (Az hi) (by simp;omega)]) h) ?_
   refine RegG.via (fun _ h=>cm [6] 7 0 0 [.v (.int .i64 ((s.K.length:Nat):Int)),.sl 6 0 0 s.n] (itA (⟨((s.K.length:Nat):Int),(g.map (flD · (dOf g)))⟩:ItS)) rfl rfl (.keep (.fz (b7 ae (agx.2 rfl) rfl (by simp[hi])) (.same _))) rfl h) ?_
   refine aw ?_
   refine cB (fun hb=>?_) (fun hb=>?_)
   ·exfalso;simp[hf]at hb
   obtain⟨_,rfl,hy⟩:=An {s with S:=s.S++[⟨us,dOf g⟩],vS:=s.vS+1,K:=s.K++[q],vK:=s.vK+1:OSt} (⟨((s.K.length:Nat):Int),(g.map (flD · (dOf g)))⟩:ItS) s.K.length q rfl g0
   refine OpG.lk (co (a8 [(1000000,1000000),(1000001,1000001),(1000002,1000002),(1000003,1000003),(1000004,1000004),(1000005,1000005),(1000006,1000006),(1000007,1000007)] t6 hy rfl rfl rfl rfl ⟨rfl,sX ab,sX ai,sX ah,sX ap,sX ae,sX ag,sX aj,trivial⟩ ⟨⟨rfl,.inl rfl⟩,au ab,au ai,au ah,au ap,au ae,au ag,au aj,trivial⟩ ⟨rfl,aq ab _ _,aq ai _ _,aq ah _ _,aq ap _ _,aq ae _ _,aq ag _ _,aq aj _ _,trivial⟩ rfl rfl rfl rfl uz rfl) ⟨⟨.head _,rfl,rfl⟩,⟨.tail _ (.head _),rfl,rfl⟩,⟨.tail _ (.tail _ (.head _)),rfl,rfl⟩,⟨.tail _ (.tail _ (.tail _ (.head _))),rfl,rfl⟩,⟨.tail _ (.tail _ (.tail _ (.tail _ (.head _)))),rfl,rfl⟩,⟨.tail _ (.tail _ (.tail _ (.tail _ (.tail _ (.head _))))),rfl,rfl⟩,⟨.tail _ (.tail _ (.tail _ (.tail _ (.tail _ (.tail _ (.head _)))))),rfl,rfl⟩,⟨.tail _ (.tail _ (.tail _ (.tail _ (.tail _ (.tail _ (.tail _ (.head _))))))),rfl,rfl⟩,trivial⟩) ?_
   refine ArgG.mk (j8 (x:=q.b) g1) rfl ?_
   rintro _ rfl
   refine⟨by kernel_rfl,?_⟩
   refine⟨.inr rfl,_,Nf.of [] (az rfl (.cons (abn.cellN m9 rfl rfl trivial rfl rfl rfl) (.cons (abn.tmp rfl) (.cons (abn.tmp rfl) .nil)))) rfl ⟨.same rfl (by decide),.same rfl (by decide),.same rfl (by decide),.same rfl (by decide),.same rfl (by decide),.same rfl (by decide),.same rfl (by decide),.same rfl (by decide),trivial⟩ .same,?_⟩
   exact lf0 hf
  exfalso;have:=sgZ_0.1 (by simpa using hn:sgZ (dOf g-1)=0);omega
 have hf:¬(((sgZ ((k9 g))):Int)=(0:Int)):=by simpa using hr
 refine RegG.via (fun _ h=>ck 1 ⟨0,bI (dOf g),0,false⟩ rfl (by exact blkN hf) h) ?_
 refine aw ?_
 refine ArgG.mk (pm (n:=1) ⟨by decide,by decide⟩) rfl ?_
 rintro _ rfl
 refine LenG.of (cB (fun hj=>?_) (fun hj=>?_))
 ·have hs:((us.length:Nat):Int)>(1:Int):=ag3 hj
  refine cT ⟨by kernel_rfl,cT ?_⟩
  refine OpG.mk _ _ _ 4 (b9 ai (l:=s.S) (a:=(⟨us,dOf g⟩:StS)) Tryz.underlying44 Ov N7 Qx rfl rfl rfl (dv rfl rfl rfl rfl) rfl (by omega) (by omega) (by unfold TV;omega)) rfl rfl ?_
  refine⟨by kernel_rfl,?_⟩
  obtain⟨_,rfl,ht⟩:=Ox us hw {s with S:=s.S++[⟨us,dOf g⟩],vS:=s.vS+1:OSt} (dOf g) q (jv he).2 (jv he).1 hx hu hK hq
  refine aw ?_
  refine OpG.lk (co (a8 [(1000000,1000000),(1000001,1000001),(1000002,1000002),(1000003,1000003),(1000004,1000004),(1000005,1000005),(1000006,1000006),(1000007,1000007)] Hh ht rfl rfl rfl rfl ⟨rfl,sX ab,sX ai,sX ah,sX ap,sX ae,sX ag,sX aj,trivial⟩ ⟨⟨rfl,.inl rfl⟩,au ab,au ai,au ah,au ap,au ae,au ag,au aj,trivial⟩ ⟨rfl,aq ab _ _,aq ai _ _,aq ah _ _,aq ap _ _,aq ae _ _,aq ag _ _,aq aj _ _,trivial⟩ rfl rfl rfl rfl uz rfl) ⟨⟨.head _,rfl,rfl⟩,⟨.tail _ (.head _),rfl,rfl⟩,⟨.tail _ (.tail _ (.head _)),rfl,rfl⟩,⟨.tail _ (.tail _ (.tail _ (.head _))),rfl,rfl⟩,⟨.tail _ (.tail _ (.tail _ (.tail _ (.head _)))),rfl,rfl⟩,⟨.tail _ (.tail _ (.tail _ (.tail _ (.tail _ (.head _))))),rfl,rfl⟩,⟨.tail _ (.tail _ (.tail _ (.tail _ (.tail _ (.tail _ (.head _)))))),rfl,rfl⟩,⟨.tail _ (.tail _ (.tail _ (.tail _ (.tail _ (.tail _ (.tail _ (.head _))))))),rfl,rfl⟩,trivial⟩) ?_
  refine OpG.mk _ _ _ 5 (b9 ab (l:=s.K) (a:=q) Tryz.underlying85 jt r6 Al rfl rfl rfl (dv rfl rfl rfl rfl) rfl (by omega) (by omega) (by unfold TV;omega)) rfl rfl ?_
  refine⟨by kernel_rfl,?_⟩
  refine OpG.lk (cd rfl Tryz.underlying85 rfl rfl rfl) ?_
  refine OpG.lk (pd (r:=((s.K.length:Nat):Int)) rfl rfl (Fs z1)) ?_
  refine⟨by kernel_rfl,?_⟩
  refine⟨(by first|assumption|omega|decide),?_⟩
  refine OpG.nw (cv 6 (len:=s.n) Tryz.underlying45 ik A4 Db rfl rfl rfl (by omega)) rfl ?_
  refine⟨by kernel_rfl,?_⟩
  refine LenG.of (LpG.on (fun k0:Nat=>(⟨fL [(0,.ptr 1000000 0 0),(1,.tree 2 (g.map bI)),(6,.ptr 0 0 0),(9,.ptr 1 0 0),(10,.v (.bool (!decide (sgZ (k9 g)=0)))),(12,.ptr 7 0 0),(86,.v (.int .i64 ((g.length:Nat):Int))),(87,.v (.int .i64 ((k0:Nat):Int)))],hLz [(0,⟨0,[.v (.int .i64 0),.v (.slice none 0 0)],0,false⟩),(1,⟨0,bI (dOf g),0,false⟩),(6,⟨0,rF bI ((g.map (flD · (dOf g))).take k0++(List.replicate s.n 0).drop k0),2,false⟩),(7,⟨0,[.v (.int .i64 ((s.K.length:Nat):Int)),.sl 6 0 0 s.n],0,false⟩),(1000000,sB {s with S:=s.S++[⟨us,dOf g⟩],vS:=s.vS+1,K:=s.K++[q],vK:=s.vK+1:OSt}),(1000001,s1 {s with S:=s.S++[⟨us,dOf g⟩],vS:=s.vS+1,K:=s.K++[q],vK:=s.vK+1:OSt}),(1000002,s2 {s with S:=s.S++[⟨us,dOf g⟩],vS:=s.vS+1,K:=s.K++[q],vK:=s.vK+1:OSt}),(1000003,s3 {s with S:=s.S++[⟨us,dOf g⟩],vS:=s.vS+1,K:=s.K++[q],vK:=s.vK+1:OSt}),(1000004,s4 {s with S:=s.S++[⟨us,dOf g⟩],vS:=s.vS+1,K:=s.K++[q],vK:=s.vK+1:OSt}),(1000005,s5 {s with S:=s.S++[⟨us,dOf g⟩],vS:=s.vS+1,K:=s.K++[q],vK:=s.vK+1:OSt}),(1000006,s6 {s with S:=s.S++[⟨us,dOf g⟩],vS:=s.vS+1,K:=s.K++[q],vK:=s.vK+1:OSt}),(1000007,s7 {s with S:=s.S++[⟨us,dOf g⟩],vS:=s.vS+1,K:=s.K++[q],vK:=s.vK+1:OSt})],8⟩:St)) (fun k0=>(g.length-k0)) (fun k0=>(k0<=g.length)) 0 (cO (.cons rfl rfl (.cons rfl rfl (.cons rfl rfl (.cons rfl rfl (.cons rfl rfl (.cons rfl rfl (.cons rfl rfl (.cons rfl rfl .nil)))))))) (.cons rfl rfl rfl (.cons rfl rfl rfl (.cons (by rfl) rfl (aa ae _ _) (.cons rfl rfl rfl (.cons rfl rfl rfl (.cons rfl rfl (aa ab _ _) (.cons rfl rfl (aa ai _ _) (.cons rfl rfl (aa ah _ _) (.cons rfl rfl (aa ap _ _) (.cons rfl rfl (aa ae _ _) (.cons rfl rfl (aa ag _ _) (.cons rfl rfl (aa aj _ _) .nil))))))))))))) (ag5 _) ?_)
  rintro k0 hk
  have hl:g.length<=140737488355328:=hg.1
  have hm:=hk
  refine cB (fun hd=>?_) (fun hd=>?_)
  ·have ho:k0<g.length:=Int.ofNat_lt.1 (ag3 hd)
   refine IdxG.of ‹_› (ArgG.mk (nj (x:=g[k0]) (y:=dOf g) (he _ (ags _)) (jv he).1 (by have:=(jv he).2;omega)) rfl ?_)
   rintro _ rfl
   refine OpG.lk (av (k:=k0) ae Tryz.underlying45 ik rfl rfl rfl (by omega) rfl) ?_
   refine OpG.wr (bl (k:=k0) (o:=0) (v:=flD g[k0] (dOf g)) ae ik rfl rfl rfl rfl rfl rfl (by rw[cb (Az hi)];simp;omega) (by decide) rfl) rfl ?_
   refine⟨by kernel_rfl,?_⟩
   refine⟨by omega,?_⟩
   refine⟨(k0+1),by omega,(cO (.cons rfl rfl (.cons rfl rfl (.cons rfl rfl (.cons rfl rfl (.cons rfl rfl (.cons rfl rfl (.cons rfl rfl (.cons rfl rfl .nil)))))))) (.cons rfl rfl rfl (.cons rfl rfl rfl (.cons (by(rw[j7 (Az hi) (by simp;omega) (fun h=>(mv (by omega) h).symm)];rfl)) rfl (aa ae _ _) (.cons rfl rfl rfl (.cons rfl rfl rfl (.cons rfl rfl (aa ab _ _) (.cons rfl rfl (aa ai _ _) (.cons rfl rfl (aa ah _ _) (.cons rfl rfl (aa ap _ _) (.cons rfl rfl (aa ae _ _) (.cons rfl rfl (aa ag _ _) (.cons rfl rfl (aa aj _ _) .nil))))))))))))),?_⟩
   omega
  have hp:¬k0<g.length:=fun h=>ag2 hd (Int.ofNat_lt.2 h)
  refine RegG.via (fun _ h=>ck 6 ⟨0,rF bI (g.map (flD · (dOf g))),2,false⟩ rfl (by rw[ig (Az hi) (by simp;omega)]) h) ?_
  refine RegG.via (fun _ h=>cm [6] 7 0 0 [.v (.int .i64 ((s.K.length:Nat):Int)),.sl 6 0 0 s.n] (itA (⟨((s.K.length:Nat):Int),(g.map (flD · (dOf g)))⟩:ItS)) rfl rfl (.keep (.fz (b7 ae (agx.2 rfl) rfl (by simp[hi])) (.same _))) rfl h) ?_
  refine aw ?_
  refine cB (fun hb=>?_) (fun hb=>?_)
  ·refine⟨by kernel_rfl,?_⟩
   refine⟨.inr rfl,_,Nf.of [] (az rfl (.cons (abn.cellN m9 rfl rfl trivial rfl rfl rfl) (.cons (abn.tmp rfl) (.cons (abn.tmp rfl) .nil)))) rfl ⟨.same rfl (by decide),.same rfl (by decide),.same rfl (by decide),.same rfl (by decide),.same rfl (by decide),.same rfl (by decide),.same rfl (by decide),.same rfl (by decide),trivial⟩ .same,?_⟩
   exact lfN hf
  exfalso;simp[hf]at hb
 have hs:¬(((us.length:Nat):Int)>(1:Int)):=ag2 hj
 refine IdxG.of (j:=0) ‹_› (ArgG.mk (nk (x:=us[0].n) (y:=1) (hu _ (ags _)) ⟨by decide,by decide⟩) rfl ?_)
 rintro _ rfl
 refine cB (fun hh=>?_) (fun hh=>?_)
 ·have hv:¬(((sgZ (us[0].n-1)):Int)=(0:Int)):=by simpa using hh
  exact absurd (h1 (by omega)) (fun e=>by rw[e]at hh;simp[sgZ]at hh)
 have hv:((sgZ (us[0].n-1)):Int)=(0:Int):=by simpa using hh
 refine ArgG.mk (nk (x:=(dOf g)) (y:=1) (jv he).1 ⟨by decide,by decide⟩) rfl ?_
 rintro _ rfl
 refine⟨by kernel_rfl,?_⟩
 refine cB (fun hn=>?_) (fun hn=>?_)
 ·have hz:¬(((sgZ ((dOf g)-1)):Int)=(0:Int)):=by simpa using hn
  refine OpG.mk _ _ _ 4 (b9 ai (l:=s.S) (a:=(⟨us,dOf g⟩:StS)) Tryz.underlying44 Ov N7 Qx rfl rfl rfl (dv rfl rfl rfl rfl) rfl (by omega) (by omega) (by unfold TV;omega)) rfl rfl ?_
  refine⟨by kernel_rfl,?_⟩
  obtain⟨_,rfl,ht⟩:=Ox us hw {s with S:=s.S++[⟨us,dOf g⟩],vS:=s.vS+1:OSt} (dOf g) q (jv he).2 (jv he).1 hx hu hK hq
  refine aw ?_
  refine OpG.lk (co (a8 [(1000000,1000000),(1000001,1000001),(1000002,1000002),(1000003,1000003),(1000004,1000004),(1000005,1000005),(1000006,1000006),(1000007,1000007)] Hh ht rfl rfl rfl rfl ⟨rfl,sX ab,sX ai,sX ah,sX ap,sX ae,sX ag,sX aj,trivial⟩ ⟨⟨rfl,.inl rfl⟩,au ab,au ai,au ah,au ap,au ae,au ag,au aj,trivial⟩ ⟨rfl,aq ab _ _,aq ai _ _,aq ah _ _,aq ap _ _,aq ae _ _,aq ag _ _,aq aj _ _,trivial⟩ rfl rfl rfl rfl uz rfl) ⟨⟨.head _,rfl,rfl⟩,⟨.tail _ (.head _),rfl,rfl⟩,⟨.tail _ (.tail _ (.head _)),rfl,rfl⟩,⟨.tail _ (.tail _ (.tail _ (.head _))),rfl,rfl⟩,⟨.tail _ (.tail _ (.tail _ (.tail _ (.head _)))),rfl,rfl⟩,⟨.tail _ (.tail _ (.tail _ (.tail _ (.tail _ (.head _))))),rfl,rfl⟩,⟨.tail _ (.tail _ (.tail _ (.tail _ (.tail _ (.tail _ (.head _)))))),rfl,rfl⟩,⟨.tail _ (.tail _ (.tail _ (.tail _ (.tail _ (.tail _ (.tail _ (.head _))))))),rfl,rfl⟩,trivial⟩) ?_
  refine OpG.mk _ _ _ 5 (b9 ab (l:=s.K) (a:=q) Tryz.underlying85 jt r6 Al rfl rfl rfl (dv rfl rfl rfl rfl) rfl (by omega) (by omega) (by unfold TV;omega)) rfl rfl ?_
  refine⟨by kernel_rfl,?_⟩
  refine OpG.lk (cd rfl Tryz.underlying85 rfl rfl rfl) ?_
  refine OpG.lk (pd (r:=((s.K.length:Nat):Int)) rfl rfl (Fs z1)) ?_
  refine⟨by kernel_rfl,?_⟩
  refine⟨(by first|assumption|omega|decide),?_⟩
  refine OpG.nw (cv 6 (len:=s.n) Tryz.underlying45 ik A4 Db rfl rfl rfl (by omega)) rfl ?_
  refine⟨by kernel_rfl,?_⟩
  refine LenG.of (LpG.on (fun k0:Nat=>(⟨fL [(0,.ptr 1000000 0 0),(1,.tree 2 (g.map bI)),(6,.ptr 0 0 0),(9,.ptr 1 0 0),(10,.v (.bool (!decide (sgZ (k9 g)=0)))),(12,.ptr 7 0 0),(86,.v (.int .i64 ((g.length:Nat):Int))),(87,.v (.int .i64 ((k0:Nat):Int)))],hLz [(0,⟨0,[.v (.int .i64 0),.v (.slice none 0 0)],0,false⟩),(1,⟨0,bI (dOf g),0,false⟩),(6,⟨0,rF bI ((g.map (flD · (dOf g))).take k0++(List.replicate s.n 0).drop k0),2,false⟩),(7,⟨0,[.v (.int .i64 ((s.K.length:Nat):Int)),.sl 6 0 0 s.n],0,false⟩),(1000000,sB {s with S:=s.S++[⟨us,dOf g⟩],vS:=s.vS+1,K:=s.K++[q],vK:=s.vK+1:OSt}),(1000001,s1 {s with S:=s.S++[⟨us,dOf g⟩],vS:=s.vS+1,K:=s.K++[q],vK:=s.vK+1:OSt}),(1000002,s2 {s with S:=s.S++[⟨us,dOf g⟩],vS:=s.vS+1,K:=s.K++[q],vK:=s.vK+1:OSt}),(1000003,s3 {s with S:=s.S++[⟨us,dOf g⟩],vS:=s.vS+1,K:=s.K++[q],vK:=s.vK+1:OSt}),(1000004,s4 {s with S:=s.S++[⟨us,dOf g⟩],vS:=s.vS+1,K:=s.K++[q],vK:=s.vK+1:OSt}),(1000005,s5 {s with S:=s.S++[⟨us,dOf g⟩],vS:=s.vS+1,K:=s.K++[q],vK:=s.vK+1:OSt}),(1000006,s6 {s with S:=s.S++[⟨us,dOf g⟩],vS:=s.vS+1,K:=s.K++[q],vK:=s.vK+1:OSt}),(1000007,s7 {s with S:=s.S++[⟨us,dOf g⟩],vS:=s.vS+1,K:=s.K++[q],vK:=s.vK+1:OSt})],8⟩:St)) (fun k0=>(g.length-k0)) (fun k0=>(k0<=g.length)) 0 (cO (.cons rfl rfl (.cons rfl rfl (.cons rfl rfl (.cons rfl rfl (.cons rfl rfl (.cons rfl rfl (.cons rfl rfl (.cons rfl rfl .nil)))))))) (.cons rfl rfl rfl (.cons rfl rfl rfl (.cons (by rfl) rfl (aa ae _ _) (.cons rfl rfl rfl (.cons rfl rfl rfl (.cons rfl rfl (aa ab _ _) (.cons rfl rfl (aa ai _ _) (.cons rfl rfl (aa ah _ _) (.cons rfl rfl (aa ap _ _) (.cons rfl rfl (aa ae _ _) (.cons rfl rfl (aa ag _ _) (.cons rfl rfl (aa aj _ _) .nil))))))))))))) (ag5 _) ?_)
  rintro k0 hk
  have hl:g.length<=140737488355328:=hg.1
  have hm:=hk
  refine cB (fun hd=>?_) (fun hd=>?_)
  ·have ho:k0<g.length:=Int.ofNat_lt.1 (ag3 hd)
   refine IdxG.of ‹_› (ArgG.mk (nj (x:=g[k0]) (y:=dOf g) (he _ (ags _)) (jv he).1 (by have:=(jv he).2;omega)) rfl ?_)
   rintro _ rfl
   refine OpG.lk (av (k:=k0) ae Tryz.underlying45 ik rfl rfl rfl (by omega) rfl) ?_
   refine OpG.wr (bl (k:=k0) (o:=0) (v:=flD g[k0] (dOf g)) ae ik rfl rfl rfl rfl rfl rfl (by rw[cb (Az hi)];simp;omega) (by decide) rfl) rfl ?_
   refine⟨by kernel_rfl,?_⟩
   refine⟨by omega,?_⟩
   refine⟨(k0+1),by omega,(cO (.cons rfl rfl (.cons rfl rfl (.cons rfl rfl (.cons rfl rfl (.cons rfl rfl (.cons rfl rfl (.cons rfl rfl (.cons rfl rfl .nil)))))))) (.cons rfl rfl rfl (.cons rfl rfl rfl (.cons (by(rw[j7 (Az hi) (by simp;omega) (fun h=>(mv (by omega) h).symm)];rfl)) rfl (aa ae _ _) (.cons rfl rfl rfl (.cons rfl rfl rfl (.cons rfl rfl (aa ab _ _) (.cons rfl rfl (aa ai _ _) (.cons rfl rfl (aa ah _ _) (.cons rfl rfl (aa ap _ _) (.cons rfl rfl (aa ae _ _) (.cons rfl rfl (aa ag _ _) (.cons rfl rfl (aa aj _ _) .nil))))))))))))),?_⟩
   omega
  have hp:¬k0<g.length:=fun h=>ag2 hd (Int.ofNat_lt.2 h)
  refine RegG.via (fun _ h=>ck 6 ⟨0,rF bI (g.map (flD · (dOf g))),2,false⟩ rfl (by rw[ig (Az hi) (by simp;omega)]) h) ?_
  refine RegG.via (fun _ h=>cm [6] 7 0 0 [.v (.int .i64 ((s.K.length:Nat):Int)),.sl 6 0 0 s.n] (itA (⟨((s.K.length:Nat):Int),(g.map (flD · (dOf g)))⟩:ItS)) rfl rfl (.keep (.fz (b7 ae (agx.2 rfl) rfl (by simp[hi])) (.same _))) rfl h) ?_
  refine aw ?_
  refine cB (fun hb=>?_) (fun hb=>?_)
  ·refine⟨by kernel_rfl,?_⟩
   refine⟨.inr rfl,_,Nf.of [] (az rfl (.cons (abn.cellN m9 rfl rfl trivial rfl rfl rfl) (.cons (abn.tmp rfl) (.cons (abn.tmp rfl) .nil)))) rfl ⟨.same rfl (by decide),.same rfl (by decide),.same rfl (by decide),.same rfl (by decide),.same rfl (by decide),.same rfl (by decide),.same rfl (by decide),.same rfl (by decide),trivial⟩ .same,?_⟩
   exact lfN hf
  exfalso;simp[hf]at hb
 exfalso;have:=sgZ_0.1 (by simpa using hn:sgZ (dOf g-1)=0);omega
theorem aas(g:List Int)(hg:ip g (fun y=>True))(us:List UsS)(hus:ip us (fun y=>True))(s:OSt)(x:ItS)(sm ok:Bool)(s':OSt)(hn1:s.n<=1000)(hl:g.length=s.n)(hk:BL g)(hu:∀u∈us,B1 u.n)(hK:∀q∈s.K,BQ q)(hul:us.length<100000)(h0:0<us.length)(h1:us.length=1->us[0].n=1)(h:Cm s g us=some (s',x,sm,ok))(hc:¬(1<us.length\/dOf g≠1)):qa Tryz.prog 174 [.ptr 1000000 0 0,.tree 2 (g.map bI),.tree 3 (us.map usA)] [(1000000,sB s),(1000001,s1 s),(1000002,s2 s),(1000003,s3 s),(1000004,s4 s),(1000005,s5 s),(1000006,s6 s),(1000007,s7 s)] [(1000000,some (sB s')),(1000001,some (s1 s')),(1000002,some (s2 s')),(1000003,some (s3 s')),(1000004,some (s4 s')),(1000005,some (s5 s')),(1000006,some (s6 s')),(1000007,some (s7 s'))] (fun q=>q=.tup [.agg (itA x),.v (.bool sm),.v (.bool ok)]):=by
 obtain⟨j,hj,hx,rfl,rfl,rfl,rfl⟩:=Ei h0 h hc
 have hy:=hK _ (ags hj)
 have hw:dOf g=1:=by rcases Int.lt_trichotomy (dOf g) 1 with h|h|h<;>first|exact h|exact absurd (.inr (by omega)) hc
 have hz:=hy.b
 refine qa.of_vc jc [83,103,111,100103] [5,16] Tryz.func174 rfl Tryz.ntmps174 rfl (by kernel_rfl) ?_
 refine ArgG.mk (Ta g hg hk (by omega)) rfl ?_
 rintro _ rfl
 refine ArgG.mk (j8 (x:=(k9 g)) (Lj hk).1) rfl ?_
 rintro _ rfl
 refine cB (fun hm=>?_) (fun hm=>?_)
 ·have he:((sgZ ((k9 g))):Int)=(0:Int):=by simpa using hm
  refine ArgG.mk (pm (n:=1) ⟨by decide,by decide⟩) rfl ?_
  rintro _ rfl
  refine RegG.via (fun _ h=>ck 1 ⟨0,bI (dOf g),0,false⟩ rfl (by exact blk0 he) h) ?_
  refine aw ?_
  refine ArgG.mk (pm (n:=1) ⟨by decide,by decide⟩) rfl ?_
  rintro _ rfl
  refine LenG.of (cB (fun hf=>?_) (fun hf=>?_))
  ·have hn:((us.length:Nat):Int)>(1:Int):=ag3 hf
   exact absurd (Or.inl (by omega)) hc
  have hn:¬(((us.length:Nat):Int)>(1:Int)):=ag2 hf
  refine IdxG.of (j:=0) ‹_› (ArgG.mk (nk (x:=us[0].n) (y:=1) (hu _ (ags _)) ⟨by decide,by decide⟩) rfl ?_)
  rintro _ rfl
  refine cB (fun ha=>?_) (fun ha=>?_)
  ·have ho:¬(((sgZ (us[0].n-1)):Int)=(0:Int)):=by simpa using ha
   exact absurd (h1 (by omega)) (fun e=>by rw[e]at ha;simp[sgZ]at ha)
  have ho:((sgZ (us[0].n-1)):Int)=(0:Int):=by simpa using ha
  refine ArgG.mk (nk (x:=(dOf g)) (y:=1) (jv hk).1 ⟨by decide,by decide⟩) rfl ?_
  rintro _ rfl
  refine⟨by kernel_rfl,?_⟩
  refine cB (fun hb=>?_) (fun hb=>?_)
  ·exfalso;rw[hw]at hb;simp[sgZ]at hb
  have hv:((sgZ ((dOf g)-1)):Int)=(0:Int):=by simpa using hb
  refine IdxG.of (j:=0) ‹_› (OpG.nw (cv 3 (len:=s.n) Tryz.underlying45 ik A4 Db rfl rfl rfl (by omega)) rfl ?_)
  refine⟨by kernel_rfl,?_⟩
  refine LenG.of (LpG.on (fun k0:Nat=>(⟨fL [(0,.ptr 1000000 0 0),(1,.tree 2 (g.map bI)),(6,.ptr 0 0 0),(9,.ptr 1 0 0),(10,.v (.bool (!decide (sgZ (k9 g)=0)))),(12,.ptr 4 0 0),(86,.v (.int .i64 ((g.length:Nat):Int))),(87,.v (.int .i64 ((k0:Nat):Int)))],hLz [(0,⟨0,[.v (.int .i64 0),.v (.slice none 0 0)],0,false⟩),(1,⟨0,bI (dOf g),0,false⟩),(3,⟨0,rF bI ((g.map (flD · (dOf g))).take k0++(List.replicate s.n 0).drop k0),2,false⟩),(4,⟨0,[.v (.int .i64 us[0].i),.sl 3 0 0 s.n],0,false⟩),(1000000,sB s),(1000001,s1 s),(1000002,s2 s),(1000003,s3 s),(1000004,s4 s),(1000005,s5 s),(1000006,s6 s),(1000007,s7 s)],5⟩:St)) (fun k0=>(g.length-k0)) (fun k0=>(k0<=g.length)) 0 (cO (.cons rfl rfl (.cons rfl rfl (.cons rfl rfl (.cons rfl rfl (.cons rfl rfl (.cons rfl rfl (.cons rfl rfl (.cons rfl rfl .nil)))))))) (.cons rfl rfl rfl (.cons rfl rfl rfl (.cons (by rfl) rfl (aa ae _ _) (.cons rfl rfl rfl (.cons rfl rfl rfl (.cons rfl rfl (aa ab _ _) (.cons rfl rfl (aa ai _ _) (.cons rfl rfl (aa ah _ _) (.cons rfl rfl (aa ap _ _) (.cons rfl rfl (aa ae _ _) (.cons rfl rfl (aa ag _ _) (.cons rfl rfl (aa aj _ _) .nil))))))))))))) (ag5 _) ?_)
  rintro k0 hp
  have hq:g.length<=140737488355328:=hg.1
  have hr:=hp
  refine cB (fun hh=>?_) (fun hh=>?_)
  ·have hs:k0<g.length:=Int.ofNat_lt.1 (ag3 hh)
   refine IdxG.of ‹_› (ArgG.mk (nj (x:=g[k0]) (y:=dOf g) (hk _ (ags _)) (jv hk).1 (by have:=(jv hk).2;omega)) rfl ?_)
   rintro _ rfl
   refine OpG.lk (av (k:=k0) ae Tryz.underlying45 ik rfl rfl rfl (by omega) rfl) ?_
   refine OpG.wr (bl (k:=k0) (o:=0) (v:=flD g[k0] (dOf g)) ae ik rfl rfl rfl rfl rfl rfl (by rw[cb (Az hl)];simp;omega) (by decide) rfl) rfl ?_
   refine⟨by kernel_rfl,?_⟩
   refine⟨by omega,?_⟩
   refine⟨(k0+1),by omega,(cO (.cons rfl rfl (.cons rfl rfl (.cons rfl rfl (.cons rfl rfl (.cons rfl rfl (.cons rfl rfl (.cons rfl rfl (.cons rfl rfl .nil)))))))) (.cons rfl rfl rfl (.cons rfl rfl rfl (.cons (by(rw[j7 (Az hl) (by simp;omega) (fun h=>(mv (by omega) h).symm)];rfl)) rfl (aa ae _ _) (.cons rfl rfl rfl (.cons rfl rfl rfl (.cons rfl rfl (aa ab _ _) (.cons rfl rfl (aa ai _ _) (.cons rfl rfl (aa ah _ _) (.cons rfl rfl (aa ap _ _) (.cons rfl rfl (aa ae _ _) (.cons rfl rfl (aa ag _ _) (.cons rfl rfl (aa aj _ _) .nil))))))))))))),?_⟩
   omega
  have ht:¬k0<g.length:=fun h=>ag2 hh (Int.ofNat_lt.2 h)
  refine RegG.via (fun _ h=>ck 3 ⟨0,rF bI (g.map (flD · (dOf g))),2,false⟩ rfl (by rw[ig (Az hl) (by simp;omega)]) h) ?_
  refine RegG.via (fun _ h=>cm [3] 4 0 0 [.v (.int .i64 us[0].i),.sl 3 0 0 s.n] (itA (⟨us[0].i,(g.map (flD · (dOf g)))⟩:ItS)) rfl rfl (.keep (.fz (b7 ae (agx.2 rfl) rfl (by simp[hl])) (.same _))) rfl h) ?_
  refine aw ?_
  refine cB (fun hd=>?_) (fun hd=>?_)
  ·exfalso;simp[he]at hd
  obtain⟨_,rfl,g0⟩:=An s (⟨us[0].i,(g.map (flD · (dOf g)))⟩:ItS) j s.K[j] hx (agt hj)
  refine OpG.lk (co (a8 [(1000000,1000000),(1000001,1000001),(1000002,1000002),(1000003,1000003),(1000004,1000004),(1000005,1000005),(1000006,1000006),(1000007,1000007)] t6 g0 rfl rfl rfl rfl ⟨rfl,sX ab,sX ai,sX ah,sX ap,sX ae,sX ag,sX aj,trivial⟩ ⟨⟨rfl,.inl rfl⟩,au ab,au ai,au ah,au ap,au ae,au ag,au aj,trivial⟩ ⟨rfl,aq ab _ _,aq ai _ _,aq ah _ _,aq ap _ _,aq ae _ _,aq ag _ _,aq aj _ _,trivial⟩ rfl rfl rfl rfl uz rfl) ⟨⟨.head _,rfl,rfl⟩,⟨.tail _ (.head _),rfl,rfl⟩,⟨.tail _ (.tail _ (.head _)),rfl,rfl⟩,⟨.tail _ (.tail _ (.tail _ (.head _))),rfl,rfl⟩,⟨.tail _ (.tail _ (.tail _ (.tail _ (.head _)))),rfl,rfl⟩,⟨.tail _ (.tail _ (.tail _ (.tail _ (.tail _ (.head _))))),rfl,rfl⟩,⟨.tail _ (.tail _ (.tail _ (.tail _ (.tail _ (.tail _ (.head _)))))),rfl,rfl⟩,⟨.tail _ (.tail _ (.tail _ (.tail _ (.tail _ (.tail _ (.tail _ (.head _))))))),rfl,rfl⟩,trivial⟩) ?_
  refine ArgG.mk (j8 (x:=s.K[j].b) hz) rfl ?_
  rintro _ rfl
  refine⟨by kernel_rfl,?_⟩
  refine⟨.inr rfl,_,Nf.of [] (az rfl (.cons (abn.cellN m9 rfl rfl trivial rfl rfl rfl) (.cons (abn.tmp rfl) (.cons (abn.tmp rfl) .nil)))) rfl ⟨.same rfl (by decide),.same rfl (by decide),.same rfl (by decide),.same rfl (by decide),.same rfl (by decide),.same rfl (by decide),.same rfl (by decide),.same rfl (by decide),trivial⟩ .same,?_⟩
  exact lf0 he
 have he:¬(((sgZ ((k9 g))):Int)=(0:Int)):=by simpa using hm
 refine RegG.via (fun _ h=>ck 1 ⟨0,bI (dOf g),0,false⟩ rfl (by exact blkN he) h) ?_
 refine aw ?_
 refine ArgG.mk (pm (n:=1) ⟨by decide,by decide⟩) rfl ?_
 rintro _ rfl
 refine LenG.of (cB (fun hf=>?_) (fun hf=>?_))
 ·have hn:((us.length:Nat):Int)>(1:Int):=ag3 hf
  exact absurd (Or.inl (by omega)) hc
 have hn:¬(((us.length:Nat):Int)>(1:Int)):=ag2 hf
 refine IdxG.of (j:=0) ‹_› (ArgG.mk (nk (x:=us[0].n) (y:=1) (hu _ (ags _)) ⟨by decide,by decide⟩) rfl ?_)
 rintro _ rfl
 refine cB (fun ha=>?_) (fun ha=>?_)
 ·have ho:¬(((sgZ (us[0].n-1)):Int)=(0:Int)):=by simpa using ha
  exact absurd (h1 (by omega)) (fun e=>by rw[e]at ha;simp[sgZ]at ha)
 have ho:((sgZ (us[0].n-1)):Int)=(0:Int):=by simpa using ha
 refine ArgG.mk (nk (x:=(dOf g)) (y:=1) (jv hk).1 ⟨by decide,by decide⟩) rfl ?_
 rintro _ rfl
 refine⟨by kernel_rfl,?_⟩
 refine cB (fun hb=>?_) (fun hb=>?_)
 ·exfalso;rw[hw]at hb;simp[sgZ]at hb
 have hv:((sgZ ((dOf g)-1)):Int)=(0:Int):=by simpa using hb
 refine IdxG.of (j:=0) ‹_› (OpG.nw (cv 3 (len:=s.n) Tryz.underlying45 ik A4 Db rfl rfl rfl (by omega)) rfl ?_)
 refine⟨by kernel_rfl,?_⟩
 refine LenG.of (LpG.on (fun k0:Nat=>(⟨fL [(0,.ptr 1000000 0 0),(1,.tree 2 (g.map bI)),(6,.ptr 0 0 0),(9,.ptr 1 0 0),(10,.v (.bool (!decide (sgZ (k9 g)=0)))),(12,.ptr 4 0 0),(86,.v (.int .i64 ((g.length:Nat):Int))),(87,.v (.int .i64 ((k0:Nat):Int)))],hLz [(0,⟨0,[.v (.int .i64 0),.v (.slice none 0 0)],0,false⟩),(1,⟨0,bI (dOf g),0,false⟩),(3,⟨0,rF bI ((g.map (flD · (dOf g))).take k0++(List.replicate s.n 0).drop k0),2,false⟩),(4,⟨0,[.v (.int .i64 us[0].i),.sl 3 0 0 s.n],0,false⟩),(1000000,sB s),(1000001,s1 s),(1000002,s2 s),(1000003,s3 s),(1000004,s4 s),(1000005,s5 s),(1000006,s6 s),(1000007,s7 s)],5⟩:St)) (fun k0=>(g.length-k0)) (fun k0=>(k0<=g.length)) 0 (cO (.cons rfl rfl (.cons rfl rfl (.cons rfl rfl (.cons rfl rfl (.cons rfl rfl (.cons rfl rfl (.cons rfl rfl (.cons rfl rfl .nil)))))))) (.cons rfl rfl rfl (.cons rfl rfl rfl (.cons (by rfl) rfl (aa ae _ _) (.cons rfl rfl rfl (.cons rfl rfl rfl (.cons rfl rfl (aa ab _ _) (.cons rfl rfl (aa ai _ _) (.cons rfl rfl (aa ah _ _) (.cons rfl rfl (aa ap _ _) (.cons rfl rfl (aa ae _ _) (.cons rfl rfl (aa ag _ _) (.cons rfl rfl (aa aj _ _) .nil))))))))))))) (ag5 _) ?_)
 rintro k0 hp
 have hq:g.length<=140737488355328:=hg.1
 have hr:=hp
 refine cB (fun hh=>?_) (fun hh=>?_)
 ·have hs:k0<g.length:=Int.ofNat_lt.1 (ag3 hh)
  refine IdxG.of ‹_› (ArgG.mk (nj (x:=g[k0]) (y:=dOf g) (hk _ (ags _)) (jv hk).1 (by have:=(jv hk).2;omega)) rfl ?_)
  rintro _ rfl
  refine OpG.lk (av (k:=k0) ae Tryz.underlying45 ik rfl rfl rfl (by omega) rfl) ?_
  refine OpG.wr (bl (k:=k0) (o:=0) (v:=flD g[k0] (dOf g)) ae ik rfl rfl rfl rfl rfl rfl (by rw[cb (Az hl)];simp;omega) (by decide) rfl) rfl ?_
  refine⟨by kernel_rfl,?_⟩
  refine⟨by omega,?_⟩
  refine⟨(k0+1),by omega,(cO (.cons rfl rfl (.cons rfl rfl (.cons rfl rfl (.cons rfl rfl (.cons rfl rfl (.cons rfl rfl (.cons rfl rfl (.cons rfl rfl .nil)))))))) (.cons rfl rfl rfl (.cons rfl rfl rfl (.cons (by(rw[j7 (Az hl) (by simp;omega) (fun h=>(mv (by omega) h).symm)];rfl)) rfl (aa ae _ _) (.cons rfl rfl rfl (.cons rfl rfl rfl (.cons rfl rfl (aa ab _ _) (.cons rfl rfl (aa ai _ _) (.cons rfl rfl (aa ah _ _) (.cons rfl rfl (aa ap _ _) (.cons rfl rfl (aa ae _ _) (.cons rfl rfl (aa ag _ _) (.cons rfl rfl (aa aj _ _) .nil))))))))))))),?_⟩
  omega
 have ht:¬k0<g.length:=fun h=>ag2 hh (Int.ofNat_lt.2 h)
 refine RegG.via (fun _ h=>ck 3 ⟨0,rF bI (g.map (flD · (dOf g))),2,false⟩ rfl (by rw[ig (Az hl) (by simp;omega)]) h) ?_
 refine RegG.via (fun _ h=>cm [3] 4 0 0 [.v (.int .i64 us[0].i),.sl 3 0 0 s.n] (itA (⟨us[0].i,(g.map (flD · (dOf g)))⟩:ItS)) rfl rfl (.keep (.fz (b7 ae (agx.2 rfl) rfl (by simp[hl])) (.same _))) rfl h) ?_
 refine aw ?_
 refine cB (fun hd=>?_) (fun hd=>?_)
 ·refine⟨by kernel_rfl,?_⟩
  refine⟨.inr rfl,_,Nf.of [] (az rfl (.cons (abn.cellN m9 rfl rfl trivial rfl rfl rfl) (.cons (abn.tmp rfl) (.cons (abn.tmp rfl) .nil)))) rfl ⟨.same rfl (by decide),.same rfl (by decide),.same rfl (by decide),.same rfl (by decide),.same rfl (by decide),.same rfl (by decide),.same rfl (by decide),.same rfl (by decide),trivial⟩ .same,?_⟩
  exact lfN he
 exfalso;simp[he]at hd
def I7(s:OSt)(x:ItS):Prop:=BL x.g/\x.g.length=s.n/\∃j:Nat,x.a=((j:Nat):Int)/\j<s.K.length
structure OOk(s:OSt):Prop where
 n1:1<=s.n
 n2:s.n<=1000
 K:∀q∈s.K,BQ q/\q.cs.length=s.n
 I:∀x∈s.I,I7 s x
 Ul:s.U.length=s.n
 U:∀r∈s.U,BL r/\r.length=s.n
 T:s.T.length=s.n
 Vl:s.V.length=s.n
 V:BL s.V
instance:Inhabited IqS:=⟨⟨[],0⟩⟩
def bnd(s:OSt)(x:ItS):Int:=(s.K.getD x.a.toNat ⟨[],0⟩).b
theorem T5{s:OSt}{x:ItS}{j:Nat}(h:x.a=(j:Int))(hj:j<s.K.length):bnd s x=s.K[j].b:=by
 unfold bnd;rw[h,Int.toNat_natCast];simp[List.getD,hj]
theorem OOk.bB{s:OSt}{x:ItS}(h:OOk s)(hx:I7 s x):B1 (bnd s x):=by
 obtain⟨_,_,j,h1,h2⟩:=hx
 rw[T5 h1 h2];exact(h.K _ (ags h2)).1.b
def xg(s:OSt)(x:ItS):Option OSt:=if SzS s then match s.I.findIdx? (fun y=>decide (x.g=y.g))with
 |some i=>some (if bnd s x<bnd s (s.I.getD i ⟨0,[]⟩)then{s with I:=s.I.set i x}else s)
 |none=>some {s with I:=s.I++[x],vI:=s.vI+1}
 else none
theorem Ar{s s':OSt}{x:ItS}(h:xg s x=some s'):SzS s:=by
 unfold xg at h
 split at h
 ·assumption
 ·cases h
section
variable{s s':OSt}{x:ItS}{k:Nat}
theorem Ls{p:ItS->Bool}:∀{l:List ItS} {k:Nat} (hk:k<l.length),p l[k]=true->(∀j (h:j<l.length),j<k->p l[j]=false)->l.findIdx? p=some k
 |a::l,0,_,h,_=>by have h:p a=true:=h;rw[List.findIdx?_cons,h];rfl
 |a::l,k+1,hk,h,hn=>by
  have h0:p a=false:=hn 0 (by simp) (Nat.succ_pos k)
  rw[List.findIdx?_cons,h0,Ls (l:=l) (k:=k) (by simpa using hk) (by simpa using h) fun j hj hl=>hn (j+1) (by simpa using hj) (by omega)];rfl
theorem Wc{p:ItS->Bool}{l:List ItS}(hn:∀j (h:j<l.length),p l[j]=false):l.findIdx? p=none:=List.findIdx?_eq_none_iff.2 fun y hy=>by
 obtain⟨j,hj,rfl⟩:=ahd hy;exact hn j hj
theorem Xg(h:xg s x=some s')(hk:k<s.I.length)(he:x.g=s.I[k].g)(hn:∀j (hl:j<s.I.length),j<k->¬x.g=s.I[j].g):s'=if bnd s x<bnd s s.I[k]then{s with I:=s.I.set k x}else s:=by
 have hz:=Ar h
 unfold xg at h
 rw[ag1 hz,Ls (p:=fun y=>decide (x.g=y.g)) hk (decide_eq_true he) fun j hl hj=>decide_eq_false (hn j hl hj)]at h
 simp only[List.getD,agt hk,Option.getD_some]at h
 cases h;rfl
theorem Ra(h:xg s x=some s')(hn:∀j (hl:j<s.I.length),¬x.g=s.I[j].g):SzS s/\s'={s with I:=s.I++[x],vI:=s.vI+1}:=by
 have hz:=Ar h
 unfold xg at h
 rw[ag1 hz,Wc (p:=fun y=>decide (x.g=y.g)) fun j hl=>decide_eq_false (hn j hl)]at h
 cases h;exact⟨hz,rfl⟩
theorem Eu(h:xg s x=some s')(ho:OOk s)(hx:I7 s x):OOk s'/\s'.n=s.n/\s'.K=s.K:=by
 have hz:=Ar h
 unfold xg at h
 rw[ag1 hz]at h
 split at h
 ·next i e=>
  cases h
  split
  ·refine⟨⟨ho.n1,ho.n2,ho.K,fun y hy=>?_,ho.Ul,ho.U,ho.T,ho.Vl,ho.V⟩,rfl,rfl⟩
   rcases List.mem_or_eq_of_mem_set hy with hy|rfl
   ·exact ho.I y hy
   ·exact hx
  ·exact⟨ho,rfl,rfl⟩
 ·cases h
  refine⟨⟨ho.n1,ho.n2,ho.K,fun y hy=>?_,ho.Ul,ho.U,ho.T,ho.Vl,ho.V⟩,rfl,rfl⟩
  rcases agy.1 hy with hy|hy
  ·exact ho.I y hy
  ·rw[agx.1 hy];exact hx
end
def xf(s:OSt)(g:List Int)(us:List UsS):Option (OSt×Bool):=match Cm s g us with
 |none=>none
 |some (s1,x,sm,ok)=>if sm then match xg s1 x with
  |none=>none
  |some s2=>some (s2,ok)
  else some (s1,ok)
section
variable{s s':OSt}{x:ItS}{g:List Int}{us:List UsS}{sm ok:Bool}
theorem Eh(h:Cm s g us=some (s',x,sm,ok))(ho:OOk s)(h0:0<us.length)(hg:BL g)(hl:g.length=s.n):OOk s'/\s'.n=s.n/\I7 s' x:=by
 have ha:BL (g.map (flD · (dOf g))):=Mt hg (jv hg).2
 by_cases hc:1<us.length\/dOf g≠1
 ·obtain⟨_,q,hq,rfl,rfl,rfl,rfl⟩:=Ak h hc
  obtain⟨h1,h2⟩:=Jn (jv hg).2 hq
  refine⟨⟨ho.n1,ho.n2,fun y hy=>?_,fun y hy=>?_,ho.Ul,ho.U,ho.T,ho.Vl,ho.V⟩,rfl,ha,by simpa using hl,s.K.length,rfl,by simp⟩
  ·rcases agy.1 hy with hy|hy
   ·exact ho.K y hy
   ·rw[agx.1 hy];exact⟨h1,h2⟩
  ·obtain⟨a,b,j,c,d⟩:=ho.I y hy
   exact⟨a,b,j,c,by simp;omega⟩
 ·obtain⟨j,hj,hb,rfl,rfl,rfl,rfl⟩:=Ei h0 h hc
  exact⟨ho,rfl,ha,by simpa using hl,j,hb,hj⟩
theorem Dr{s':OSt}(h:xf s g us=some (s',ok))(ho:OOk s)(h0:0<us.length)(hg:BL g)(hl:g.length=s.n):OOk s'/\s'.n=s.n:=by
 unfold xf at h
 split at h
 ·cases h
 ·next s1 x sm ok1 e=>
  obtain⟨h1,h2,h3⟩:=Eh e ho h0 hg hl
  split at h
  ·split at h
   ·cases h
   ·next s2 e2=>
    cases h
    obtain⟨a,b,_⟩:=Eu e2 h1 h3
    exact⟨a,b.trans h2⟩
  ·cases h;exact⟨h1,h2⟩
end
def Mv:Nat->Nat->OSt->Option (OSt×Bool)
 |0,_,s=>some (s,true)
 |f+1,k,s=>match s.K[k]? with
  |none=>none
  |some q=>match xf s q.cs [⟨(k:Int),1⟩]with
   |none=>none
   |some (s',ok)=>if ok then Mv f (k+1) s' else some (s',false)
abbrev acg(s:OSt):Option (OSt×Bool):=Mv s.K.length 0 s
section
variable{s s':OSt}{g:List Int}{us:List UsS}{ok:Bool}{k m:Nat}
theorem Br(h:xf s g us=some (s',ok)):∃s1 x sm,Cm s g us=some (s1,x,sm,ok)/\((sm=true/\xg s1 x=some s')\/(sm=false/\s1=s')):=by
 unfold xf at h
 split at h
 ·cases h
 ·next s1 x sm ok1 e=>
  split at h
  ·next hs=>
   split at h
   ·cases h
   ·next s2 e2=>cases h;exact⟨_,x,sm,e,.inl ⟨hs,e2⟩⟩
  ·next hs=>cases h;exact⟨_,x,sm,e,.inr ⟨by simpa using hs,rfl⟩⟩
theorem Xc(hk:k<m)(h:Mv (m-k) k s=some (s',ok)):∃ha:k<s.K.length,∃s1 ok1,xf s s.K[k].cs [⟨(k:Int),1⟩]=some (s1,ok1)/\((ok1=true/\Mv (m-(k+1)) (k+1) s1=some (s',ok))\/(ok1=false/\s1=s'/\ok=false)):=by
 rw[show m-k=(m-(k+1))+1 by omega]at h
 unfold Mv at h
 split at h
 ·cases h
 ·next q e=>
  obtain⟨ha,rfl⟩:=ahl.1 e
  split at h
  ·cases h
  ·next s1 ok1 e1=>
   split at h
   ·next ho=>exact⟨ha,s1,ok1,e1,.inl ⟨ho,h⟩⟩
   ·next ho=>cases h;exact⟨ha,_,ok1,e1,.inr ⟨by simpa using ho,rfl,rfl⟩⟩
theorem Xd(hk:¬k<m)(h:Mv (m-k) k s=some (s',ok)):s=s'/\ok=true:=by
 rw[show m-k=0 by omega]at h
 unfold Mv at h
 cases h;exact⟨rfl,rfl⟩
end
structure KO where
 k:Nat
 s:OSt
end Go.Proofs.YtbhhmbchdponjaaGreatDoor
