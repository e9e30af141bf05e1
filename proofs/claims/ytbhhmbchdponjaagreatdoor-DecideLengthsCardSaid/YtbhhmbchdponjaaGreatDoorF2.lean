/- Texts of the claim. -/
import Derived.Test.YtbhhmbchdponjaaGreatDoorF1
import Derived.Test.YtbhhmbchdponjaaGreatDoorQ2
import Derived.Test.YtbhhmbchdponjaaGreatDoorInf
namespace Go.Proofs.YtbhhmbchdponjaaGreatDoor
set_option maxRecDepth 1000000
set_option maxHeartbeats 0
set_option linter.unusedVariables false
set_option linter.unusedSimpArgs false
open Go.RowKit
structure Pat(t:GTst) where
 S:List Int
 n:Int->Int->Int
 f:Int->Bool
 s0:Int
 ok:Prop
 i0:ok->s0∈S
 h0:ok->PRet Tryz.prog 206 [.agg (tsA t)] (fun q=>q=.v (.int .u32 s0))
 hn:ok->∀s∈S,∀k:Nat,k<95->PRet Tryz.prog 205 [.agg (tsA t),.v (.int .u32 s),.v (.int .u8 (32+(k:Int)))] (fun q=>q=.v (.int .u32 (n s (32+(k:Int)))))/\n s (32+(k:Int))∈S
 hf:ok->∀s∈S,PRet Tryz.prog 203 [.agg (tsA t),.v (.int .u32 s)] (fun q=>q=.v (.bool (f s)))
def Pat.none(t:GTst):Pat t:=⟨[],fun s _=>s,fun _=>false,0,False,fun h=>h.elim,fun h=>h.elim,fun h=>h.elim,fun h=>h.elim⟩
section
variable(M:(t:GTst)->Pat t)
def nxS:List GTst->List Int->Int->List Int
 |t::ts,s::l,c=>(M t).n s c::nxS ts l c
 |_,_,_=>[]
def okS:List GTst->List Int->Bool
 |t::ts,s::l=>(M t).f s&&okS ts l
 |_,_=>true
structure InT(ts:List GTst)(l:List Int):Prop where
 len:l.length=ts.length
 mem:∀k (h:k<ts.length) (h':k<l.length),l[k]∈(M ts[k]).S
def WS(ts:List GTst):Nat->List Int->List (List UInt8)
 |0,l=>bif okS M ts l then[[]]else[]
 |n+1,l=>(List.range 95).flatMap fun(k:Nat)=>(WS ts n (nxS M ts l (32+(k:Int)))).map (UInt8.ofNat (32+k)::·)
def WP(ts:List GTst)(n:Nat)(l:List Int)(k:Nat):List (List UInt8):=(List.range k).flatMap fun(k:Nat)=>(WS M ts n (nxS M ts l (32+(k:Int)))).map (UInt8.ofNat (32+k)::·)
end
section
variable{M:(t:GTst)->Pat t}{ts:List GTst}{l:List Int}{c:Int}{n k:Nat}
theorem qe:∀{ts:List GTst} {l:List Int},l.length=ts.length->(nxS M ts l c).length=ts.length
 |[],[],_=>rfl
 |[],_::_,h=>by simp at h
 |_::_,[],h=>by simp at h
 |t::ts,s::l,h=>by simp[nxS,qe (ts:=ts) (l:=l) (by simpa using h)]
theorem Dw:∀{ts:List GTst} {l:List Int} {k:Nat} (h:k<ts.length) (h':k<l.length) (h2:k<(nxS M ts l c).length),(nxS M ts l c)[k]=(M ts[k]).n l[k] c
 |[],_,_,h,_,_=>absurd h (by simp)
 |_::_,[],_,_,h,_=>absurd h (by simp)
 |t::ts,s::l,0,_,_,_=>rfl
 |t::ts,s::l,k+1,h,h',h2=>by
  have:=Dw (ts:=ts) (l:=l) (k:=k) (by simpa using h) (by simpa using h') (by simpa[nxS]using h2)
  simpa[nxS]using this
theorem InT.nx(h:InT M ts l)(ha:∀t∈ts,(M t).ok)(hk:k<95):InT M ts (nxS M ts l (32+(k:Int))):=by
 refine⟨qe h.len,fun j h1 h2=>?_⟩
 have h3:j<l.length:=by rw[h.len];exact h1
 rw[Dw h1 h3]
 exact((M ts[j]).hn (ha _ (ags h1)) _ (h.mem j h1 h3) k hk).2
theorem Ns(ha:∀t∈ts,(M t).ok):InT M ts (ts.map fun t=>(M t).s0):=⟨by simp,fun k h h'=>by simpa using(M ts[k]).i0 (ha _ (ags h))⟩
theorem v7:∀{ts:List GTst} {l:List Int} {k:Nat} (h:k<ts.length) (h':k<l.length),(M ts[k]).f l[k]=false->okS M ts l=false
 |[],_,_,h,_,_=>absurd h (by simp)
 |_::_,[],_,_,h,_=>absurd h (by simp)
 |t::ts,s::l,0,_,_,e=>by
  have e:(M t).f s=false:=e
  simp[okS,e]
 |t::ts,s::l,k+1,h,h',e=>by
  have:=v7 (ts:=ts) (l:=l) (k:=k) (by simpa using h) (by simpa using h') (by simpa using e)
  simp[okS,this]
theorem v8:∀{ts:List GTst} {l:List Int},(∀k (h:k<ts.length) (h':k<l.length),(M ts[k]).f l[k]=true)->okS M ts l=true
 |[],_,_=>rfl
 |_::_,[],_=>rfl
 |t::ts,s::l,e=>by
  have e0:(M t).f s=true:=e 0 (by simp) (by simp)
  have:=v8 (ts:=ts) (l:=l) (fun k h h'=>e (k+1) (by simpa using h) (by simpa using h'))
  simp[okS,e0,this]
theorem Xk:WS M ts (n+1) l=WP M ts n l 95:=rfl
theorem Ex:WP M ts n l (k+1)=WP M ts n l k++(WS M ts n (nxS M ts l (32+(k:Int)))).map (UInt8.ofNat (32+k)::·):=by
 unfold WP;rw[List.range_succ,List.flatMap_append];simp
theorem Ua:∀{j:Nat},k<=j->∃r,WP M ts n l j=WP M ts n l k++r
 |0,h=>⟨[],by rw[show k=0 by omega];simp⟩
 |j+1,h=>by
  by_cases e:k=j+1
  ·exact⟨[],by rw[e];simp⟩
  ·obtain⟨r,hr⟩:=Ua (j:=j) (by omega)
   exact⟨r++(WS M ts n (nxS M ts l (32+(j:Int)))).map (UInt8.ofNat (32+j)::·),by rw[Ex,hr,List.append_assoc]⟩
end
def txB(T w:List UInt8):ByteArray:=⟨(T++w).toArray⟩
def ee(most:Nat)(O:List ByteArray)(T:List UInt8)(ws:List (List UInt8)):List ByteArray:=O++(ws.take (most-O.length)).map (txB T)
theorem u3{most:Nat}{O:List ByteArray}{T:List UInt8}:ee most O T []=O:=by simp[ee]
theorem Hs{most:Nat}{O:List ByteArray}{T:List UInt8}{ws:List (List UInt8)}:(ee most O T ws).length=O.length+min (most-O.length) ws.length:=by simp[ee]
theorem M9{most:Nat}{O:List ByteArray}{T:List UInt8}{c:UInt8}{ws vs:List (List UInt8)}:ee most (ee most O T ws) (T++[c]) vs=ee most O T (ws++vs.map (c::·)):=by
 have e:=Hs (most:=most) (O:=O) (T:=T) (ws:=ws)
 unfold ee at e ⊢
 rw[e,List.take_append,List.map_append,List.append_assoc]
 congr 2
 rw[<-List.map_take,List.map_map]
 have e2:most-(O.length+min (most-O.length) ws.length)=most-O.length-ws.length:=by omega
 rw[e2]
 refine List.map_congr_left fun w _=>?_
 simp[txB,Function.comp]
theorem Na{most:Nat}{O:List ByteArray}{T:List UInt8}{ws r:List (List UInt8)}(h0:O.length<most)(h:¬(ee most O T ws).length<most):ee most O T ws=ee most O T (ws++r)/\ws≠[]:=by
 rw[Hs]at h
 have h1:most-O.length<=ws.length:=by omega
 refine⟨by unfold ee;rw[List.take_append_of_le_length h1],fun e=>by subst e;simp at h1;omega⟩
structure Keys(M:(t:GTst)->Pat t)(ts:List GTst)(L:Nat) where
 kF:List Int->Nat->ByteArray
 hk:∀l n,InT M ts l->1<=n->n<=L->PRet Tryz.prog 204 [.tree 1 (l.map cx),.v (.int .i64 ((n:Nat):Int))] (fun q=>q=.v (.string (kF l n)))
 inj:∀l l' n n',InT M ts l->InT M ts l'->1<=n->n<=L->1<=n'->n'<=L->kF l n=kF l' n'->l=l'/\n=n'
def pr{M:(t:GTst)->Pat t}{ts:List GTst}{L:Nat}(K:Keys M ts L)(D:List ByteArray):Prop:=∀d∈D,∃l n,InT M ts l/\1<=n/\n<=L/\d=K.kF l n/\WS M ts n l=[]
section
variable{M:(t:GTst)->Pat t}{ts:List GTst}{L:Nat}{K:Keys M ts L}{D:List ByteArray}{l:List Int}{n:Nat}
theorem pr.hit(h:pr K D)(hl:InT M ts l)(h1:1<=n)(h2:n<=L)(hh:hasS D (K.kF l n)=true):WS M ts n l=[]:=by
 obtain⟨l',n',g1,g2,g3,g4,g5⟩:=h _ (Qa hh)
 obtain⟨rfl,rfl⟩:=K.inj l l' n n' hl g1 h1 h2 g2 g3 g4
 exact g5
theorem pr.add(h:pr K D)(hl:InT M ts l)(h1:1<=n)(h2:n<=L)(hw:WS M ts n l=[]):pr K (D++[K.kF l n]):=fun d hd=>by
 rcases agy.1 hd with hd|hd
 ·exact h d hd
 exact⟨l,n,hl,h1,h2,agx.1 hd,hw⟩
end
abbrev fnB(ts:List GTst)(most:Nat)(O:List ByteArray):Blk:=⟨0,[.tree 4 (ts.map tsA),.v (.int .i64 ((most:Nat):Int)),.sl 1000001 O.length 0 O.length,.mp 1000002 0],0,false⟩
abbrev ouB(O:List ByteArray):Blk:=⟨O.length,rF sA O,1,Nat.beq O.length 0⟩
def cI(c:UInt8):Int:=Int.ofNat c.toNat
abbrev txK(T:List UInt8):Blk:=⟨0,rF uA (T.map cI),1,false⟩
theorem Rw:∀T:List UInt8,u8s (rF uA (T.map cI))=some T
 |[]=>rfl
 |c::T=>by
  have ih:=Rw T
  have e:rF uA ((c::T).map cI)=.v (.int .u8 (.ofNat c.toNat))::rF uA (T.map cI):=kh
  have h:Nat.blt c.toNat 256=true:=by simpa[Nat.blt_eq]using c.toNat_lt
  rw[e]
  unfold u8s
  rw[h,ih]
  simp
structure FitTs(ts:List GTst):Prop where
 len:ts.length<=1000
 fit:∀t∈ts,FitTst t
theorem uj:(Tryz.prog.info? 192).map (·.bytes)=some 4:=by kernel_rfl
theorem dz:ao Tryz.prog 192=some 1:=by kernel_rfl
theorem lw:bj Tryz.prog 192=some (.int .u32 0):=by kernel_rfl
theorem Qi(M:(t:GTst)->Pat t)(ts:List GTst)(hd:FitTs ts)(he:∀t∈ts,(M t).ok)(most:Nat)(O D:List ByteArray):qa Tryz.prog 170 [.ptr 1000000 0 0] [(1000000,fnB ts most O),(1000001,ouB O),(1000002,jq D)] [(1000000,some (fnB ts most O)),(1000001,some (ouB O)),(1000002,some (jq D))] (fun q=>q=.tree 1 ((ts.map fun t=>(M t).s0).map cx)):=by
 have hts1:=hd.len
 refine qa.of_vc jc [] [7] Tryz.func170 rfl Tryz.ntmps170 rfl (by kernel_rfl) (LenG.of ?_)
 refine LpG.via (fun _ h=>ry 3 1 rfl 1 rfl h) (LpG.on (fun k0:KL Int=>(⟨fL [(3,.sl 0 k0.L.length 0 k0.L.length),(9,.tree 4 (ts.map tsA)),(10,.v (.int .i64 ((ts.length:Nat):Int))),(11,.v (.int .i64 ((k0.k:Nat):Int)))],hLz [(0,⟨k0.L.length,rF cx k0.L,1,Nat.beq k0.L.length 0⟩),(1000000,fnB ts most O),(1000001,ouB O),(1000002,jq D)],1⟩:St)) (fun k0=>(ts.length-k0.k)) (fun k0=>(k0.k<=ts.length/\k0.L=(ts.take k0.k).map fun t=>(M t).s0)) (⟨0,[]⟩:KL Int) (cO (.cons (by rfl) rfl (.cons rfl rfl (.cons rfl rfl (.cons rfl rfl .nil)))) (.cons (by rfl) rfl (aa bz _ _) (.cons rfl rfl rfl (.cons rfl rfl (aa cr _ _) (.cons rfl rfl (df _ _) .nil))))) ⟨ag5 _,rfl⟩ ?_)
 rintro k0 hc
 obtain⟨hle_k0,ha⟩:=hc
 refine cL (fun hb=>?_) (fun hge12=>?_)
 ·have hkl:k0.L.length<=1000:=by rw[ha,agz,List.length_take];omega
  refine IdxG.of ‹_› (ArgG.mk ((M ts[k0.k]).h0 (he _ (ags ‹_›))) rfl ?_)
  rintro _ rfl
  refine OpG.mk _ _ _ 3 (b9 bz (a:=(M ts[k0.k]).s0) Tryz.underlying46 dz lw uj rfl rfl rfl (dv rfl rfl rfl rfl) rfl (by omega) (by omega) (by unfold TV;omega)) rfl rfl ⟨by omega,⟨(⟨k0.k+1,k0.L++[(M ts[k0.k]).s0]⟩:KL Int),(by show ts.length-(k0.k+1)<ts.length-k0.k;omega),(cO (.cons (by(rw[agw];rfl)) rfl (.cons rfl rfl (.cons rfl rfl (.cons rfl rfl .nil)))) (.cons (by(rw[agw];rfl)) rfl (aa bz _ _) (.cons rfl rfl rfl (.cons rfl rfl (aa cr _ _) (.cons rfl rfl (df _ _) .nil))))),?_⟩⟩
  refine⟨by show k0.k+1<=_;omega,?_⟩
  show _++[_]=_
  rw[ha,ag4 hb,List.map_append];rfl
 refine RegG.via (fun _ h=>bm [0] 3 (.tree 1 (k0.L.map cx)) (j6 bz (agx.2 rfl) rfl) rfl h) (aw ?_)
 refine⟨.inr rfl,_,Nf.of [] (az rfl (.cons (abn.tmp rfl) .nil)) rfl ⟨.same rfl (by decide),.same rfl (by decide),.same rfl (by decide),trivial⟩ .same,?_⟩
 rw[ha,ahj (by omega)];rfl
theorem sd(T:List UInt8):T.length=(rF uA (T.map cI)).length:=by rw[jp la];simp
theorem acs{T:List UInt8}{c:UInt8}:txK T=⟨0,(rF uA ((T++[c]).map cI)).take T.length,1,false⟩:=by
 rw[List.map_append,ya,List.take_append_of_le_length (by rw[<-sd];exact ag7 _),ahj (by rw[<-sd];exact ag7 _)]
section
variable{m:List (Nat×Nat)}{η:bi}{i:Nat}{ts:List GTst}{most:Nat}{O D:List ByteArray}{T:List UInt8}{n:Int}{c:UInt8}{g:Nat->Nat}
theorem adm(h:η i=some (ouB O)):η i=some ((ouB O).ren g):=by rw[h,ci cr]
theorem adl(h:η i=some (jq D)):η i=some ((jq D).ren g):=by rw[h,zq]
theorem adk(h:η i=some (txK T)):η i=some ((txK T).ren g):=by rw[h,ci la]
theorem txcA(h:uA n=uA (cI c)):(⟨0,bg (rF uA (T.map cI)) (T.length*1) (uA n),1,false⟩:Blk)=txK (T++[c]):=by
 have e:bg (rF uA (T.map cI)) (T.length*1) (uA n)=rF uA (T.map cI)++uA n:=by
  unfold bg
  rw[Nat.mul_one,ahj (by rw[<-sd];exact ag7 _),List.drop_of_length_le (by rw[<-sd];simp)];simp
 rw[e,h,<-vw];simp[txK]
theorem txcB(h:uA n=uA (cI c)):(⟨0,(rF uA (T.map cI)).take (T.length*1)++uA n,1,false⟩:Blk)=txK (T++[c]):=by
 rw[Nat.mul_one,ahj (by rw[<-sd];exact ag7 _),h,<-vw];simp[txK]
theorem txcN(h:uA n=uA (cI c)):(⟨0,uA n,1,false⟩:Blk)=txK ([]++[c]):=by rw[h];rfl
theorem ad3{K:List Nat}(h:[1000001,1000002].all K.contains=true):Dc (fun p:Nat×Blk=>Bw K p.2) [(1000000,fnB ts most O),(1000001,ouB O),(1000002,jq D),(1000003,txK T)]:=by
 simp only[List.all_cons,List.all_nil,Bool.and_true,ahq]at h
 exact⟨⟨by show(true&&(true&&(K.contains _&&(K.contains _&&true))))=true;rw[h.1,h.2];rfl,.inl rfl⟩,au cr,Kj,⟨aq la _ _,.inl rfl⟩,trivial⟩
theorem ad1{K:List Nat}(h:[1000001,1000002].all K.contains=true):Dc (fun p:Nat×Option Blk=>okO K p.2) [(1000000,some (fnB ts most O)),(1000001,some (ouB O)),(1000002,some (jq D)),(1000003,some (txK T))]:=by
 simp only[List.all_cons,List.all_nil,Bool.and_true,ahq]at h
 exact⟨by show(true&&(true&&(K.contains _&&(K.contains _&&true))))=true;rw[h.1,h.2];rfl,aq cr _ _,Dy _ _ _,aq la _ _,trivial⟩
theorem L9:fj [(1000000,1000000),(1000001,1000001),(1000002,1000002),(1000003,i)] [(1000000,some (fnB ts most O)),(1000001,some (ouB O)),(1000002,some (jq D)),(1000003,some (txK T))]=[(1000000,some (fnB ts most O)),(1000001,some (ouB O)),(1000002,some (jq D)),(i,some (txK T))]:=by
 simp only[fj,ahg,List.map_nil,ahn,ci cr,ci la,zq]
 rfl
theorem agn{a b a' b' x x' y:AV}(h:a=a')(k:b=b')(e:x=x'):[a,b,x,y]=[a',b',x',y]:=by rw[h,k,e]
theorem slL{i:Nat}:AV.sl i 0 0 (T.length+1)=.sl i 0 0 (T++[c]).length:=by simp
theorem nTV:(0:Nat)≠TV:=by decide
end
theorem Hi:bw Tryz.prog 169=true:=by kernel_rfl
theorem by5:(Tryz.prog.info? 5).map (·.bytes)=some 1:=by kernel_rfl
theorem sz5:ao Tryz.prog 5=some 1:=by kernel_rfl
theorem zr5:bj Tryz.prog 5=some (.int .u8 0):=by kernel_rfl
theorem Yx{ts:List GTst}{most:Nat}{l more:List Int}{T:List UInt8}{n n' k:Nat}{O O1 D D1:List ByteArray}{r b:Bool}{key:ByteArray}{τ:Nat->AV}{η:bi}{y0 y1 y2 y3 y4 y5 y6 y7 y8 y9:TypeId}{p0 p1 p2 p3 p4 p5 p6 p7 p8 p9:String}{e0 e1 e2 e3 e4 e5 e6 e7 e8 e9:Array Edge}{ats:Array TypeId}
 (t0:τ 0=.ptr 1000000 0 0)(t1:τ 1=.tree 1 (l.map cx))(t2:τ 2=.sl 1000003 0 0 T.length)(t3:τ 3=.v (.int .i64 ((n':Nat):Int)))(t11:τ 11=.v (.string key))(t12:τ 12=.v (.bool b))(t13:τ 13=.v (.int .i32 (32+(k:Int))))(t14:τ 14=.tree 1 (more.map cx))
 (h0:η 1000000=some (fnB ts most O))(h1:η 1000001=some (ouB O))(h2:η 1000002=some (jq D))(h3:η 1000003=some (txK T))(hT:T≠[])(hTl:T.length<=100)(hk:k<95)(hd:n'=n+1)(hn:n<=100)
 (hc:Ax Tryz.prog 169 [.ptr 1000000 0 0,.tree 1 (more.map cx),.sl 1000003 0 0 (T++[UInt8.ofNat (32+k)]).length,.v (.int .i64 ((n:Nat):Int))] [(1000000,fnB ts most O),(1000001,ouB O),(1000002,jq D),(1000003,txK (T++[UInt8.ofNat (32+k)]))] [(1000000,some (fnB ts most O1)),(1000001,some (ouB O1)),(1000002,some (jq D1)),(1000003,some (txK (T++[UInt8.ofNat (32+k)])))] (.v (.bool r))):
 AWP Tryz.prog 116 (.region 23 [⟨some 98,.move (.tmp 0),y0,p0,e0,none⟩,⟨some 99,.move (.tmp 14),y1,p1,e1,none⟩,⟨some 100,.move (.tmp 2),y2,p2,e2,none⟩,⟨some 101,.move (.tmp 13),y3,p3,e3,none⟩,⟨some 102,.convert 21 5 (.tmp 101),y4,p4,e4,none⟩,⟨some 103,.buildSlice 160 1 #[(0,.tmp 102)],y5,p5,e5,none⟩,⟨some 104,.call {callee:=.builtin .append,args:=#[.tmp 100,.tmp 103],argTypes:=#[160,160]},y6,p6,e6,none⟩,⟨some 105,.move (.tmp 3),y7,p7,e7,none⟩,⟨some 106,.binOp .sub 3 (.tmp 105) (.const (.int .i64 1)) 3,y8,p8,e8,none⟩,⟨some 107,.call {callee:=.value (.func 169),args:=#[.tmp 98,.tmp 99,.tmp 104,.tmp 106],argTypes:=ats},y9,p9,e9,none⟩].toArray false) (fun e1 s0=>e1=.normal/\WkS s0 ⟨fL [(107,.v (.bool r)),(0,.ptr 1000000 0 0),(1,.tree 1 (l.map cx)),(2,.sl 1000003 0 0 T.length),(3,.v (.int .i64 ((n':Nat):Int))),(11,.v (.string key)),(12,.v (.bool b)),(13,.v (.int .i32 (32+(k:Int))))],hLz [(1000000,fnB ts most O1),(1000001,ouB O1),(1000002,jq D1),(1000003,txK T)],0⟩) ⟨τ,η,1⟩:=by
 subst hd
 have ha:uA (32+(k:Int))=uA (cI (UInt8.ofNat (32+k))):=by
  unfold cI;rw[UInt8.toNat_ofNat',Nat.mod_eq_of_lt (by omega)];simp
 have hb:((n+1:Nat):Int)-1=((n:Nat):Int):=by omega
 refine wR (oL (LOp.move _) rfl rfl ?_)
 refine oL (LOp.move _) rfl rfl (oL (LOp.move _) rfl rfl ?_)
 refine oL (LOp.move _) rfl rfl (oL (rv (m:=32+(k:Int)) Tryz.underlying21 Tryz.underlying5 t13 (by omega) (by omega)) rfl rfl ?_)
 refine oW (cj (u:=1) Tryz.underlying160 sz5 zr5 rfl rfl rfl rfl) rfl rfl 2 rfl (C7 (u:=2) (m:=1) (news:=uA (32+(k:Int))) Tryz.underlying160 sz5 zr5 by5 rfl t2 h3 rfl rfl rfl (by decide) (by rw[Nat.mul_one];exact Nat.le_of_eq (sd T)) (List.length_pos_iff.2 hT) (Src.sl rfl rfl rfl rfl rfl) (by decide) rfl rfl (by omega) (by omega) rfl rfl rfl ?_ ?_)
 ·refine oL (LOp.move _) rfl rfl (oL (u4 (m:=((n+1:Nat):Int)) (n:=1) t3 rfl (by omega) (by omega)) rfl rfl ?_)
  rw[hb]
  refine Ay (a8 [(1000000,1000000),(1000001,1000001),(1000002,1000002),(1000003,1000003)] Hi hc rfl rfl rfl rfl ⟨h0,adm h1,adl h2,adk (congrArg some (txcA ha)),trivial⟩ (ad3 rfl) (ad1 rfl) rfl rfl (agn t0 t14 (slL (T:=T))) rfl L9 rfl) rfl rfl 2 rfl rfl (oN ⟨rfl,WkS.trans (Xj (id:=1000003) T.length rfl rfl nTV (b':=txK T) acs)<|xd (cO (.cons rfl rfl (.cons t0 rfl (.cons t1 rfl (.cons t2 rfl (.cons t3 rfl (.cons t11 rfl (.cons t12 rfl (.cons t13 rfl (.nil))))))))) (.cons rfl rfl rfl (.cons rfl rfl (aa cr _ _) (.cons rfl rfl (df _ _) (.cons rfl rfl (aa la _ _) .nil)))))⟩)
 refine oL (LOp.move _) rfl rfl (oL (u4 (m:=((n+1:Nat):Int)) (n:=1) t3 rfl (by omega) (by omega)) rfl rfl ?_)
 rw[hb]
 refine Ay (a8 [(1000000,1000000),(1000001,1000001),(1000002,1000002),(1000003,2)] Hi hc rfl rfl rfl rfl ⟨h0,adm h1,adl h2,adk (congrArg some (txcB ha)),trivial⟩ (ad3 rfl) (ad1 rfl) rfl rfl (agn t0 t14 (slL (T:=T))) rfl L9 rfl) rfl rfl 3 rfl rfl (oN ⟨rfl,xd (cO (.cons rfl rfl (.cons t0 rfl (.cons t1 rfl (.cons t2 rfl (.cons t3 rfl (.cons t11 rfl (.cons t12 rfl (.cons t13 rfl (.nil))))))))) (.cons rfl rfl rfl (.cons rfl rfl (aa cr _ _) (.cons rfl rfl (df _ _) (.cons h3 rfl (aa la _ _) .nil)))))⟩)
theorem Yw{ts:List GTst}{most:Nat}{l more:List Int}{n n' k:Nat}{O O1 D D1:List ByteArray}{r b:Bool}{key:ByteArray}{τ:Nat->AV}{η:bi}{y0 y1 y2 y3 y4 y5 y6 y7 y8 y9:TypeId}{p0 p1 p2 p3 p4 p5 p6 p7 p8 p9:String}{e0 e1 e2 e3 e4 e5 e6 e7 e8 e9:Array Edge}{ats:Array TypeId}
 (t0:τ 0=.ptr 1000000 0 0)(t1:τ 1=.tree 1 (l.map cx))(t2:τ 2=.v (.slice none 0 0))(t3:τ 3=.v (.int .i64 ((n':Nat):Int)))(t11:τ 11=.v (.string key))(t12:τ 12=.v (.bool b))(t13:τ 13=.v (.int .i32 (32+(k:Int))))(t14:τ 14=.tree 1 (more.map cx))
 (h0:η 1000000=some (fnB ts most O))(h1:η 1000001=some (ouB O))(h2:η 1000002=some (jq D))(hk:k<95)(ha:n'=n+1)(hn:n<=100)
 (hc:Ax Tryz.prog 169 [.ptr 1000000 0 0,.tree 1 (more.map cx),.sl 1000003 0 0 (([]:List UInt8)++[UInt8.ofNat (32+k)]).length,.v (.int .i64 ((n:Nat):Int))] [(1000000,fnB ts most O),(1000001,ouB O),(1000002,jq D),(1000003,txK (([]:List UInt8)++[UInt8.ofNat (32+k)]))] [(1000000,some (fnB ts most O1)),(1000001,some (ouB O1)),(1000002,some (jq D1)),(1000003,some (txK (([]:List UInt8)++[UInt8.ofNat (32+k)])))] (.v (.bool r))):
 AWP Tryz.prog 116 (.region 23 [⟨some 98,.move (.tmp 0),y0,p0,e0,none⟩,⟨some 99,.move (.tmp 14),y1,p1,e1,none⟩,⟨some 100,.move (.tmp 2),y2,p2,e2,none⟩,⟨some 101,.move (.tmp 13),y3,p3,e3,none⟩,⟨some 102,.convert 21 5 (.tmp 101),y4,p4,e4,none⟩,⟨some 103,.buildSlice 160 1 #[(0,.tmp 102)],y5,p5,e5,none⟩,⟨some 104,.call {callee:=.builtin .append,args:=#[.tmp 100,.tmp 103],argTypes:=#[160,160]},y6,p6,e6,none⟩,⟨some 105,.move (.tmp 3),y7,p7,e7,none⟩,⟨some 106,.binOp .sub 3 (.tmp 105) (.const (.int .i64 1)) 3,y8,p8,e8,none⟩,⟨some 107,.call {callee:=.value (.func 169),args:=#[.tmp 98,.tmp 99,.tmp 104,.tmp 106],argTypes:=ats},y9,p9,e9,none⟩].toArray false) (fun e1 s0=>e1=.normal/\WkS s0 ⟨fL [(107,.v (.bool r)),(0,.ptr 1000000 0 0),(1,.tree 1 (l.map cx)),(2,.v (.slice none 0 0)),(3,.v (.int .i64 ((n':Nat):Int))),(11,.v (.string key)),(12,.v (.bool b)),(13,.v (.int .i32 (32+(k:Int))))],hLz [(1000000,fnB ts most O1),(1000001,ouB O1),(1000002,jq D1)],0⟩) ⟨τ,η,1⟩:=by
 subst ha
 have hb:uA (32+(k:Int))=uA (cI (UInt8.ofNat (32+k))):=by
  unfold cI;rw[UInt8.toNat_ofNat',Nat.mod_eq_of_lt (by omega)];simp
 have hd:((n+1:Nat):Int)-1=((n:Nat):Int):=by omega
 refine wR (oL (LOp.move _) rfl rfl ?_)
 refine oL (LOp.move _) rfl rfl (oL (LOp.move _) rfl rfl ?_)
 refine oL (LOp.move _) rfl rfl (oL (rv (m:=32+(k:Int)) Tryz.underlying21 Tryz.underlying5 t13 (by omega) (by omega)) rfl rfl ?_)
 refine oW (cj (u:=1) Tryz.underlying160 sz5 zr5 rfl rfl rfl rfl) rfl rfl 2 rfl (Ay (j2 (u:=2) (m:=1) (news:=uA (32+(k:Int))) Tryz.underlying160 sz5 zr5 by5 rfl t2 (by decide) (Src.sl rfl rfl rfl rfl rfl) (by decide) rfl (by decide) (by decide)) rfl rfl 3 rfl rfl ?_)
 refine oL (LOp.move _) rfl rfl (oL (u4 (m:=((n+1:Nat):Int)) (n:=1) t3 rfl (by omega) (by omega)) rfl rfl ?_)
 rw[hd]
 refine Ay (a8 [(1000000,1000000),(1000001,1000001),(1000002,1000002),(1000003,2)] Hi hc rfl rfl rfl rfl ⟨h0,adm h1,adl h2,adk (congrArg some (txcN hb)),trivial⟩ (ad3 rfl) (ad1 rfl) rfl rfl (agn t0 t14 (slL (T:=([]:List UInt8)))) rfl L9 rfl) rfl rfl 3 rfl rfl (oN ⟨rfl,xd (cO (.cons rfl rfl (.cons t0 rfl (.cons t1 rfl (.cons t2 rfl (.cons t3 rfl (.cons t11 rfl (.cons t12 rfl (.cons t13 rfl (.nil))))))))) (.cons rfl rfl rfl (.cons rfl rfl (aa cr _ _) (.cons rfl rfl (df _ _) (.nil)))))⟩)
def Nu(M:(t:GTst)->Pat t)(ts:List GTst)(most:Nat){L:Nat}(K:Keys M ts L)(n:Nat):Prop:=∀(l:List Int) (T:List UInt8) (O D:List ByteArray),InT M ts l->T≠[]->T.length+n<=100->O.length<most->pr K D->
 Rm Tryz.prog 169 [.ptr 1000000 0 0,.tree 1 (l.map cx),.sl 1000003 0 0 T.length,.v (.int .i64 ((n:Nat):Int))] [(1000000,fnB ts most O),(1000001,ouB O),(1000002,jq D),(1000003,txK T)] (fun q ha=>∃D2,pr K D2/\q=.v (.bool (!(WS M ts n l).isEmpty))/\ha=[(1000000,some (fnB ts most (ee most O T (WS M ts n l)))),(1000001,some (ouB (ee most O T (WS M ts n l)))),(1000002,some (jq D2)),(1000003,some (txK T))])
theorem R1{O:List ByteArray}{x:ByteArray}:O.length+1=(O++[x]).length:=by simp
theorem svO{O:List ByteArray}{x:ByteArray}:some (⟨O.length+1,rF sA (O++[x]),1,Nat.beq (O++[x]).length 0⟩:Blk)=some (ouB (O++[x])):=by rw[R1 (x:=x)]
theorem svF{ts:List GTst}{most:Nat}{O:List ByteArray}{x:ByteArray}:some (⟨0,[.tree 4 (ts.map tsA),.v (.int .i64 ((most:Nat):Int)),.sl 1000001 (O.length+1) 0 (O++[x]).length,.mp 1000002 0],0,false⟩:Blk)=some (fnB ts most (O++[x])):=by rw[R1 (x:=x)]
theorem acx(T:List UInt8):cy 0 (rF uA (T.map cI)).length (rF uA (T.map cI))=some (rF uA (T.map cI)):=by
 have:∀l:List AV,cy 0 l.length l=some l:=fun l=>by
  induction l with
  |nil=>rfl
  |cons a r ih=>exact xz _
 exact this _
theorem Cz{α:Type}{f:α->List AV}{q:Nat}(h:RowF f q){fp:List Nat}{η:bi}{id v n:Nat}{l:List α}(ha:id∈fp)(hb:η id=some ⟨v,rF f l,q,false⟩)(hn:n=l.length):FzP fp η (.sl id v 0 n) (.tree q (l.map f)):=by subst hn;exact fx h ha hb
structure KFd where
 k:Nat
 b:Bool
 O:List ByteArray
 D:List ByteArray
theorem Hr{most:Nat}{O:List ByteArray}{T:List UInt8}(h:O.length<most):ee most O T [[]]=O++[(⟨T.toArray⟩:ByteArray)]:=by
 unfold ee
 rw[show most-O.length=(most-O.length-1)+1 by omega]
 simp[txB]
section
variable{M:(t:GTst)->Pat t}{ts:List GTst}{l:List Int}{c:Int}{n n1 k most L:Nat}{X:List Int}{T:List UInt8}{O O1 D D1:List ByteArray}{K:Keys M ts L}{b:Bool}
theorem Gh(hk:k<ts.length)(ha:InT M ts l):k<((nxS M ts l c).take k++List.replicate (l.length-k) 0).length:=by
 have:=qe (M:=M) (c:=c) ha.len
 have:=ha.len
 simp;omega
theorem Bz(ha:InT M ts l)(h:X=(nxS M ts l c).take k++List.replicate (l.length-k) 0)(hk:k<ts.length){h':k<l.length}:X.set k ((M ts[k]).n l[k] c)=(nxS M ts l c).take (k+1)++List.replicate (l.length-(k+1)) 0:=by
 have e1:=qe (M:=M) (c:=c) ha.len
 have h2:k<(nxS M ts l c).length:=by omega
 have e3:((nxS M ts l c).take k).length=k:=by rw[List.length_take];omega
 rw[h,List.set_append_right _ _ (by omega),e3,show l.length-k=(l.length-(k+1))+1 by omega,List.replicate_succ,Nat.sub_self,List.set_cons_zero,ag4 h2,Dw hk h' h2]
 simp
theorem Gi(ha:InT M ts l)(h:X=(nxS M ts l c).take k++List.replicate (l.length-k) 0)(h1:k<=ts.length)(h2:¬k<ts.length):X=nxS M ts l c:=by
 have e1:=qe (M:=M) (c:=c) ha.len
 have:=ha.len
 rw[h,ahj (by omega),show l.length-k=0 by omega];simp
theorem L4{α:Type}(a b:List α):(a++b).isEmpty=(a.isEmpty&&b.isEmpty):=by cases a<;>rfl
theorem Wo{α β:Type}(f:α->β)(a:List α):(a.map f).isEmpty=a.isEmpty:=by cases a<;>rfl
theorem Ce(hn:n=n1+1)(hb:b=!(WP M ts n1 l k).isEmpty)(hO:O1=ee most O T (WP M ts n1 l k))(hk:¬k<95)(hk2:k<=95):b=!(WS M ts n l).isEmpty/\O1=ee most O T (WS M ts n l):=by
 obtain rfl:k=95:=by omega
 subst hn;exact⟨hb,hO⟩
theorem Cd(h0:O.length<most)(hn:n=n1+1)(hb:b=!(WP M ts n1 l k).isEmpty)(hO:O1=ee most O T (WP M ts n1 l k))(hm:¬O1.length<most)(ha:k<=95):b=!(WS M ts n l).isEmpty/\O1=ee most O T (WS M ts n l):=by
 obtain⟨r,hr⟩:=Ua (M:=M) (ts:=ts) (n:=n1) (l:=l) ha
 subst hn hO
 obtain⟨e1,e2⟩:=Na (r:=r) h0 hm
 rw[Xk,hr,<-e1]
 refine⟨?_,rfl⟩
 rw[hb,L4]
 cases h:WP M ts n1 l k with
 |nil=>exact absurd h e2
 |cons a q=>rfl
theorem rm(hb:b=!(WP M ts n1 l k).isEmpty)(hO:O1=ee most O T (WP M ts n1 l k))(hD:pr K D1){v:Bool}(hv:(!(WS M ts n1 (nxS M ts l (32+(k:Int)))).isEmpty)=v):
 (bif v then true else b)=!(WP M ts n1 l (k+1)).isEmpty/\ee most O1 (T++[UInt8.ofNat (32+k)]) (WS M ts n1 (nxS M ts l (32+(k:Int))))=ee most O T (WP M ts n1 l (k+1))/\pr K D1:=by
 refine⟨?_,by rw[hO,M9,Ex],hD⟩
 rw[Ex,L4,Wo,<-hv,hb]
 cases(WP M ts n1 l k).isEmpty<;>cases(WS M ts n1 (nxS M ts l (32+(k:Int)))).isEmpty<;>rfl
theorem pr.ins(h:pr K D)(hl:InT M ts l)(h1:1<=n)(h2:n<=L)(hw:WS M ts n l=[]):pr K (Lc D (K.kF l n)):=by
 unfold Lc
 cases hasS D (K.kF l n)
 ·exact h.add hl h1 h2 hw
 exact h
end
theorem by9:(Tryz.prog.info? 9).map (·.bytes)=some 16:=by kernel_rfl
theorem sz9:ao Tryz.prog 9=some 1:=by kernel_rfl
theorem zr4:bj Tryz.prog 4=some (.bool false):=by kernel_rfl
theorem zr9:bj Tryz.prog 9=some (.string ⟨#[]⟩):=by kernel_rfl
theorem Lu(M:(t:GTst)->Pat t)(ts:List GTst)(g7:FitTs ts)(g2:∀t∈ts,(M t).ok)(most:Nat)(g8:ts≠[]){L:Nat}(K:Keys M ts L)(n:Nat)(l:List Int)(T:List UInt8)(g5:T≠[])(hTl:T.length+n<=100)(O D:List ByteArray)(hd:InT M ts l)(hu:n<=L)(hL:L<=99)(hO:O.length<most)(hmo:most<=1000000)(hD:pr K D)(IH:∀m,m+1=n->Nu M ts most K m):Rm Tryz.prog 169 [.ptr 1000000 0 0,.tree 1 (l.map cx),.sl 1000003 0 0 T.length,.v (.int .i64 ((n:Nat):Int))] [(1000000,fnB ts most O),(1000001,ouB O),(1000002,jq D),(1000003,txK T)] (fun q g9=>∃D2,pr K D2/\q=.v (.bool (!(WS M ts n l).isEmpty))/\g9=[(1000000,some (fnB ts most (ee most O T (WS M ts n l)))),(1000001,some (ouB (ee most O T (WS M ts n l)))),(1000002,some (jq D2)),(1000003,some (txK T))]):=by
 have hts1:=g7.len
 have hll:=hd.len
 have ga:l.length≠0:=fun e=>g8 (ahk (by omega))
 have hT0:0<T.length:=List.length_pos_iff.2 g5
 refine Rm.of_vc jc [43,45,56,58,64,72,75,94,96,100096] [23] Tryz.func169 rfl Tryz.ntmps169 rfl (by kernel_rfl) (cE (fun g3=>?_) (fun g3=>?_))
 ·obtain rfl:n=0:=by omega
  refine LenG.of (LpG.on (fun k0:Nat=>(⟨fL [(0,.ptr 1000000 0 0),(1,.tree 1 (l.map cx)),(2,.sl 1000003 0 0 T.length),(22,.tree 4 (ts.map tsA)),(23,.v (.int .i64 ((ts.length:Nat):Int))),(24,.v (.int .i64 ((k0:Nat):Int)))],hLz [(1000000,fnB ts most O),(1000001,ouB O),(1000002,jq D),(1000003,txK T)],0⟩:St)) (fun k0=>(ts.length-k0)) (fun k0=>(k0<=ts.length/\∀j (hl:j<ts.length),j<k0->∀h2:j<l.length,(M ts[j]).f l[j]=true)) 0 (cO (.cons rfl rfl (.cons rfl rfl (.cons rfl rfl (.cons rfl rfl (.cons rfl rfl (.cons rfl rfl .nil)))))) (.cons rfl rfl rfl (.cons rfl rfl (aa cr _ _) (.cons rfl rfl (df _ _) (.cons rfl rfl (aa la _ _) .nil))))) ⟨ag5 _,fun j _ h=>absurd h (ag6 j)⟩ ?_)
  rintro k0 he
  obtain⟨hle_k0,hg⟩:=he
  refine cL (fun ho=>?_) (fun hge25=>?_)
  ·refine IdxG.of ‹_› (IdxG.of (by omega) ?_)
   refine ArgG.mk ((M ts[k0]).hf (g2 _ (ags ‹_›)) _ (hd.mem k0 ‹_› (by omega))) rfl ?_
   rintro _ rfl
   refine⟨by kernel_rfl,cB (fun hq=>?_) (fun hq=>?_)⟩
   ·have hv:(M ts[k0]).f l[k0]=false:=by simpa using hq
    exact⟨.inr rfl,_,_,Nf.of (hb':=[(1000000,some (fnB ts most O)),(1000001,some (ouB O)),(1000002,some (jq D)),(1000003,some (txK T))]) [] (az rfl (.cons (abn.tmp rfl) .nil)) rfl ⟨.same rfl (by decide),.same rfl (by decide),.same rfl (by decide),.same rfl (by decide),trivial⟩ .same,⟨D,hD,by rw[show WS M ts 0 l=[]from by unfold WS;rw[v7 ho (by omega) hv];rfl];rfl,by rw[show WS M ts 0 l=[]from by unfold WS;rw[v7 ho (by omega) hv];rfl,u3]⟩⟩
   refine⟨by omega,⟨(k0+1),by omega,(cO (.cons rfl rfl (.cons rfl rfl (.cons rfl rfl (.cons rfl rfl (.cons rfl rfl (.cons rfl rfl .nil)))))) (.cons rfl rfl rfl (.cons rfl rfl (aa cr _ _) (.cons rfl rfl (df _ _) (.cons rfl rfl (aa la _ _) .nil))))),?_⟩⟩
   refine⟨by omega,fun j hl h=>?_⟩
   rcases ag8.1 h with h|rfl
   ·exact hg j hl h
   exact fun _=>by simpa using hq
  refine OpG.lk (tf (l:=T) Tryz.underlying160 Tryz.underlying5 Tryz.underlying9 (Src.sl rfl rfl rfl (mf (by omega)) (acx T)) (Rw T) rfl) (OpG.mk _ _ _ 1 (b9 cr (l:=O) (a:=(⟨T.toArray⟩:ByteArray)) Tryz.underlying112 sz9 zr9 by9 rfl rfl rfl (dv rfl rfl rfl rfl) rfl (by omega) (by omega) (by unfold TV;omega)) rfl rfl ?_)
  refine⟨by kernel_rfl,⟨.inr rfl,_,_,Nf.of (hb':=[(1000000,some (fnB ts most (O++[(⟨T.toArray⟩:ByteArray)]))),(1000001,some (ouB (O++[(⟨T.toArray⟩:ByteArray)]))),(1000002,some (jq D)),(1000003,some (txK T))]) [] (az rfl (.cons (abn.tmp rfl) .nil)) rfl ⟨.same svF (by decide),.same svO (by decide),.same rfl (by decide),.same rfl (by decide),trivial⟩ .same,?_⟩⟩
  exact⟨D,hD,by rw[show WS M ts 0 l=[[]]from by unfold WS;rw[v8 (fun k h h'=>hg k h (by omega) h')];rfl];rfl,by rw[show WS M ts 0 l=[[]]from by unfold WS;rw[v8 (fun k h h'=>hg k h (by omega) h')];rfl,Hr hO]⟩
 obtain⟨n1,g1⟩:∃m,n=m+1:=⟨n-1,by omega⟩
 refine ArgG.mk (K.hk l n hd (by omega) hu) rfl ?_
 rintro _ rfl
 refine OpG.lk (LOp.hasS (L:=D) (k:=K.kF l n) Tryz.underlying233 Tryz.underlying9 zr4 rfl rfl rfl) (cB (fun hr=>?_) (fun hr=>?_))
 ·exact⟨.inr rfl,_,_,Nf.of (hb':=[(1000000,some (fnB ts most O)),(1000001,some (ouB O)),(1000002,some (jq D)),(1000003,some (txK T))]) [] (az rfl (.cons (abn.tmp rfl) .nil)) rfl ⟨.same rfl (by decide),.same rfl (by decide),.same rfl (by decide),.same rfl (by decide),trivial⟩ .same,⟨D,hD,by rw[hD.hit hd (by omega) hu hr];rfl,by rw[hD.hit hd (by omega) hu hr,u3]⟩⟩
 refine LpG.on (fun k2:KFd=>(⟨fL [(0,.ptr 1000000 0 0),(1,.tree 1 (l.map cx)),(2,.sl 1000003 0 0 T.length),(3,.v (.int .i64 ((n:Nat):Int))),(11,.v (.string (K.kF l n))),(12,.v (.bool k2.b)),(13,.v (.int .i32 (32+(k2.k:Int))))],hLz [(1000000,fnB ts most k2.O),(1000001,ouB k2.O),(1000002,jq k2.D),(1000003,txK T)],0⟩:St)) (fun k2=>(95-k2.k)) (fun k2=>(k2.k<=95/\(k2.b=!(WP M ts n1 l k2.k).isEmpty/\k2.O=ee most O T (WP M ts n1 l k2.k)/\pr K k2.D))) (⟨0,false,O,D⟩:KFd) (cO (.cons rfl rfl (.cons rfl rfl (.cons rfl rfl (.cons rfl rfl (.cons rfl rfl (.cons rfl rfl (.cons rfl rfl .nil))))))) (.cons rfl rfl rfl (.cons rfl rfl (aa cr _ _) (.cons rfl rfl (df _ _) (.cons rfl rfl (aa la _ _) .nil))))) ⟨ag5 _,⟨rfl,u3.symm,hD⟩⟩ ?_
 rintro k2 he
 obtain⟨hh,ha⟩:=he
 refine OpG.lk (LOp.cmpI rfl rfl rfl) (cB (fun hs=>?_) (fun hs=>?_))
 ·have hi:k2.k<95:=by have h:=ag3 hs;omega
  refine OpG.lk (cd rfl Tryz.underlying112 rfl rfl rfl) ⟨by kernel_rfl,cL (fun hx=>?_) (fun hy=>?_)⟩
  ·refine LenG.of (OpG.nw (ot (len:=l.length) bz 0 Tryz.underlying46 dz lw uj rfl rfl rfl rfl rfl (by omega) (by omega) ga) rfl ?_)
   refine LenG.of (LpG.on (fun k4:KL Int=>(⟨fL [(0,.ptr 1000000 0 0),(1,.tree 1 (l.map cx)),(2,.sl 1000003 0 0 T.length),(3,.v (.int .i64 ((n:Nat):Int))),(11,.v (.string (K.kF l n))),(12,.v (.bool k2.b)),(13,.v (.int .i32 (32+(k2.k:Int)))),(14,.sl 0 0 0 l.length),(79,.tree 4 (ts.map tsA)),(80,.v (.int .i64 ((ts.length:Nat):Int))),(81,.v (.int .i64 ((k4.k:Nat):Int)))],hLz [(0,⟨0,rF cx k4.L,1,false⟩),(1000000,fnB ts most k2.O),(1000001,ouB k2.O),(1000002,jq k2.D),(1000003,txK T)],1⟩:St)) (fun k4=>(ts.length-k4.k)) (fun k4=>(k4.k<=ts.length/\k4.L=((nxS M ts l (32+(k2.k:Int)))).take k4.k++List.replicate (l.length-k4.k) 0)) (⟨0,List.replicate l.length 0⟩:KL Int) (cO (.cons rfl rfl (.cons rfl rfl (.cons rfl rfl (.cons rfl rfl (.cons rfl rfl (.cons rfl rfl (.cons rfl rfl (.cons rfl rfl (.cons rfl rfl (.cons rfl rfl (.cons rfl rfl .nil))))))))))) (.cons rfl rfl (aa bz _ _) (.cons rfl rfl rfl (.cons rfl rfl (aa cr _ _) (.cons rfl rfl (df _ _) (.cons rfl rfl (aa la _ _) .nil)))))) ⟨ag5 _,by simp⟩ ?_)
   rintro k4 he
   obtain⟨ht,hj⟩:=he
   refine cL (fun hz=>?_) (fun g0=>?_)
   ·have hk4l:k4.k<l.length:=by omega
    refine IdxG.of ‹_› (IdxG.of ‹_› ?_)
    refine OpG.lk (rv (m:=32+(k2.k:Int)) Tryz.underlying21 Tryz.underlying5 rfl (by omega) (by omega)) (ArgG.mk (((M ts[k4.k]).hn (g2 _ (ags ‹_›)) _ (hd.mem k4.k ‹_› (by omega)) k2.k hi).1) rfl ?_)
    rintro _ rfl
    refine OpG.lk (de (i:=k4.k) Tryz.underlying46 dz rfl rfl rfl (by omega) rfl) (OpG.wr (er bz dz rfl rfl rfl rfl rfl rfl (by rw[hj];exact Gh (by omega) hd)) rfl ?_)
    refine⟨by kernel_rfl,⟨by omega,?_⟩⟩
    refine⟨(⟨k4.k+1,k4.L.set k4.k ((M ts[k4.k]).n l[k4.k] (32+(k2.k:Int)))⟩:KL Int),(by show ts.length-(k4.k+1)<ts.length-k4.k;omega),(cO (.cons rfl rfl (.cons rfl rfl (.cons rfl rfl (.cons rfl rfl (.cons rfl rfl (.cons rfl rfl (.cons rfl rfl (.cons rfl rfl (.cons rfl rfl (.cons rfl rfl (.cons rfl rfl .nil))))))))))) (.cons rfl rfl (aa bz _ _) (.cons rfl rfl rfl (.cons rfl rfl (aa cr _ _) (.cons rfl rfl (df _ _) (.cons rfl rfl (aa la _ _) .nil)))))),⟨by show k4.k+1<=_;omega,?_⟩⟩
    exact Bz hd hj hz
   have hp:k4.L=(nxS M ts l (32+(k2.k:Int))):=Gi hd hj ht g0
   refine RegG.via (fun _ h=>bm [0] 14 (.tree 1 (k4.L.map cx)) (Cz bz (agx.2 rfl) rfl (by rw[hp,qe hd.len,hd.len])) rfl h) ?_
   rw[hp]
   obtain⟨_,_,⟨D1,g6,rfl,rfl⟩,gc⟩:=IH n1 g1.symm (nxS M ts l (32+(k2.k:Int))) (T++[UInt8.ofNat (32+k2.k)]) k2.O k2.D (hd.nx g2 hi) (by simp) (by simp;omega) hx ha.2.2
   refine Ne (Yx (k:=k2.k) (b:=k2.b) (key:=K.kF l n) (l:=l) rfl rfl rfl rfl rfl rfl rfl rfl rfl rfl rfl rfl g5 (by omega) hi g1 (by omega) gc) (cB (fun hm=>?_) (fun hm=>?_))
   ·refine OpG.lk (pi (m:=32+(k2.k:Int)) (n:=1) rfl rfl (by omega) (by omega)) ⟨(⟨k2.k+1,true,ee most k2.O (T++[UInt8.ofNat (32+k2.k)]) (WS M ts n1 (nxS M ts l (32+(k2.k:Int)))),D1⟩:KFd),(by show 95-(k2.k+1)<95-k2.k;omega),(cO (.cons rfl rfl (.cons rfl rfl (.cons rfl rfl (.cons rfl rfl (.cons rfl rfl (.cons rfl rfl (.cons rfl rfl .nil))))))) (.cons rfl rfl rfl (.cons rfl rfl (aa cr _ _) (.cons rfl rfl (df _ _) (.cons rfl rfl (aa la _ _) .nil))))),⟨by show k2.k+1<=_;omega,?_⟩⟩
    exact rm ha.1 ha.2.1 g6 hm
   refine OpG.lk (pi (m:=32+(k2.k:Int)) (n:=1) rfl rfl (by omega) (by omega)) ⟨(⟨k2.k+1,k2.b,ee most k2.O (T++[UInt8.ofNat (32+k2.k)]) (WS M ts n1 (nxS M ts l (32+(k2.k:Int)))),D1⟩:KFd),(by show 95-(k2.k+1)<95-k2.k;omega),(cO (.cons rfl rfl (.cons rfl rfl (.cons rfl rfl (.cons rfl rfl (.cons rfl rfl (.cons rfl rfl (.cons rfl rfl .nil))))))) (.cons rfl rfl rfl (.cons rfl rfl (aa cr _ _) (.cons rfl rfl (df _ _) (.cons rfl rfl (aa la _ _) .nil))))),⟨by show k2.k+1<=_;omega,?_⟩⟩
   exact rm ha.1 ha.2.1 g6 hm
  have hb:=Cd hO g1 ha.1 ha.2.1 hy hh
  refine cB (fun hc=>?_) (fun hc=>?_)
  ·refine OpG.wr (u6 (k:=K.kF l n) (L:=k2.D) Tryz.underlying233 Tryz.underlying9 rfl rfl rfl rfl) rfl ⟨.inr rfl,_,_,Nf.of (hb':=[(1000000,some (fnB ts most k2.O)),(1000001,some (ouB k2.O)),(1000002,some (jq (Lc k2.D (K.kF l n)))),(1000003,some (txK T))]) [] (az rfl (.cons (abn.tmp rfl) .nil)) rfl ⟨.same rfl (by decide),.same rfl (by decide),.same rfl (by decide),.same rfl (by decide),trivial⟩ .same,?_⟩
   have g4:k2.b=false:=by simpa using hc
   have hw:WS M ts n l=[]:=by have h:=hb.1;rw[g4]at h;exact List.isEmpty_iff.1 (by simpa using h.symm)
   exact⟨_,ha.2.2.ins hd (by omega) hu hw,congrArg (fun z=>AV.v (.bool z)) hb.1,by rw[<-hb.2]⟩
  exact⟨.inr rfl,_,_,Nf.of (hb':=[(1000000,some (fnB ts most k2.O)),(1000001,some (ouB k2.O)),(1000002,some (jq k2.D)),(1000003,some (txK T))]) [] (az rfl (.cons (abn.tmp rfl) .nil)) rfl ⟨.same rfl (by decide),.same rfl (by decide),.same rfl (by decide),.same rfl (by decide),trivial⟩ .same,⟨_,ha.2.2,congrArg (fun z=>AV.v (.bool z)) hb.1,by rw[<-hb.2]⟩⟩
 have hi:¬k2.k<95:=by have h:=ag2 hs;omega
 have hb:=Ce g1 ha.1 ha.2.1 hi hh
 refine⟨by kernel_rfl,cF ?_⟩
 refine cB (fun hc=>?_) (fun hc=>?_)
 ·refine OpG.wr (u6 (k:=K.kF l n) (L:=k2.D) Tryz.underlying233 Tryz.underlying9 rfl rfl rfl rfl) rfl ⟨.inr rfl,_,_,Nf.of (hb':=[(1000000,some (fnB ts most k2.O)),(1000001,some (ouB k2.O)),(1000002,some (jq (Lc k2.D (K.kF l n)))),(1000003,some (txK T))]) [] (az rfl (.cons (abn.tmp rfl) .nil)) rfl ⟨.same rfl (by decide),.same rfl (by decide),.same rfl (by decide),.same rfl (by decide),trivial⟩ .same,?_⟩
  have g4:k2.b=false:=by simpa using hc
  have hw:WS M ts n l=[]:=by have h:=hb.1;rw[g4]at h;exact List.isEmpty_iff.1 (by simpa using h.symm)
  exact⟨_,ha.2.2.ins hd (by omega) hu hw,congrArg (fun z=>AV.v (.bool z)) hb.1,by rw[<-hb.2]⟩
 exact⟨.inr rfl,_,_,Nf.of (hb':=[(1000000,some (fnB ts most k2.O)),(1000001,some (ouB k2.O)),(1000002,some (jq k2.D)),(1000003,some (txK T))]) [] (az rfl (.cons (abn.tmp rfl) .nil)) rfl ⟨.same rfl (by decide),.same rfl (by decide),.same rfl (by decide),.same rfl (by decide),trivial⟩ .same,⟨_,ha.2.2,congrArg (fun z=>AV.v (.bool z)) hb.1,by rw[<-hb.2]⟩⟩
theorem Wd(M:(t:GTst)->Pat t)(ts:List GTst)(g6:FitTs ts)(g2:∀t∈ts,(M t).ok)(most:Nat)(g7:ts≠[]){L:Nat}(K:Keys M ts L)(n:Nat)(l:List Int)(O D:List ByteArray)(hd:InT M ts l)(hu:n<=L)(hL:L<=99)(hO:O.length<most)(hmo:most<=1000000)(hD:pr K D)(IH:∀m,m+1=n->Nu M ts most K m):Rm Tryz.prog 169 [.ptr 1000000 0 0,.tree 1 (l.map cx),.v (.slice none 0 0),.v (.int .i64 ((n:Nat):Int))] [(1000000,fnB ts most O),(1000001,ouB O),(1000002,jq D)] (fun q g8=>∃D2,pr K D2/\q=.v (.bool (!(WS M ts n l).isEmpty))/\g8=[(1000000,some (fnB ts most (ee most O ([]:List UInt8) (WS M ts n l)))),(1000001,some (ouB (ee most O ([]:List UInt8) (WS M ts n l)))),(1000002,some (jq D2))]):=by
 have hts1:=g6.len
 have hll:=hd.len
 have g9:l.length≠0:=fun e=>g7 (ahk (by omega))
 refine Rm.of_vc jc [43,45,56,58,64,72,75,94,96,100096] [23] Tryz.func169 rfl Tryz.ntmps169 rfl (by kernel_rfl) (cE (fun g3=>?_) (fun g3=>?_))
 ·obtain rfl:n=0:=by omega
  refine LenG.of (LpG.on (fun k0:Nat=>(⟨fL [(0,.ptr 1000000 0 0),(1,.tree 1 (l.map cx)),(2,.v (.slice none 0 0)),(22,.tree 4 (ts.map tsA)),(23,.v (.int .i64 ((ts.length:Nat):Int))),(24,.v (.int .i64 ((k0:Nat):Int)))],hLz [(1000000,fnB ts most O),(1000001,ouB O),(1000002,jq D)],0⟩:St)) (fun k0=>(ts.length-k0)) (fun k0=>(k0<=ts.length/\∀j (hl:j<ts.length),j<k0->∀h2:j<l.length,(M ts[j]).f l[j]=true)) 0 (cO (.cons rfl rfl (.cons rfl rfl (.cons rfl rfl (.cons rfl rfl (.cons rfl rfl (.cons rfl rfl .nil)))))) (.cons rfl rfl rfl (.cons rfl rfl (aa cr _ _) (.cons rfl rfl (df _ _) .nil)))) ⟨ag5 _,fun j _ h=>absurd h (ag6 j)⟩ ?_)
  rintro k0 he
  obtain⟨hle_k0,hg⟩:=he
  refine cL (fun ho=>?_) (fun hge25=>?_)
  ·refine IdxG.of ‹_› (IdxG.of (by omega) ?_)
   refine ArgG.mk ((M ts[k0]).hf (g2 _ (ags ‹_›)) _ (hd.mem k0 ‹_› (by omega))) rfl ?_
   rintro _ rfl
   refine⟨by kernel_rfl,cB (fun hq=>?_) (fun hq=>?_)⟩
   ·have hv:(M ts[k0]).f l[k0]=false:=by simpa using hq
    exact⟨.inr rfl,_,_,Nf.of (hb':=[(1000000,some (fnB ts most O)),(1000001,some (ouB O)),(1000002,some (jq D))]) [] (az rfl (.cons (abn.tmp rfl) .nil)) rfl ⟨.same rfl (by decide),.same rfl (by decide),.same rfl (by decide),trivial⟩ .same,⟨D,hD,by rw[show WS M ts 0 l=[]from by unfold WS;rw[v7 ho (by omega) hv];rfl];rfl,by rw[show WS M ts 0 l=[]from by unfold WS;rw[v7 ho (by omega) hv];rfl,u3]⟩⟩
   refine⟨by omega,⟨(k0+1),by omega,(cO (.cons rfl rfl (.cons rfl rfl (.cons rfl rfl (.cons rfl rfl (.cons rfl rfl (.cons rfl rfl .nil)))))) (.cons rfl rfl rfl (.cons rfl rfl (aa cr _ _) (.cons rfl rfl (df _ _) .nil)))),?_⟩⟩
   refine⟨by omega,fun j hl h=>?_⟩
   rcases ag8.1 h with h|rfl
   ·exact hg j hl h
   exact fun _=>by simpa using hq
  refine OpG.lk (lP rfl (fun _ _ h=>by cases h) (fun w=>rfl)) (OpG.mk _ _ _ 1 (b9 cr (l:=O) (a:=(⟨([]:List UInt8).toArray⟩:ByteArray)) Tryz.underlying112 sz9 zr9 by9 rfl rfl rfl (dv rfl rfl rfl rfl) rfl (by omega) (by omega) (by unfold TV;omega)) rfl rfl ?_)
  refine⟨by kernel_rfl,⟨.inr rfl,_,_,Nf.of (hb':=[(1000000,some (fnB ts most (O++[(⟨([]:List UInt8).toArray⟩:ByteArray)]))),(1000001,some (ouB (O++[(⟨([]:List UInt8).toArray⟩:ByteArray)]))),(1000002,some (jq D))]) [] (az rfl (.cons (abn.tmp rfl) .nil)) rfl ⟨.same svF (by decide),.same svO (by decide),.same rfl (by decide),trivial⟩ .same,?_⟩⟩
  exact⟨D,hD,by rw[show WS M ts 0 l=[[]]from by unfold WS;rw[v8 (fun k h h'=>hg k h (by omega) h')];rfl];rfl,by rw[show WS M ts 0 l=[[]]from by unfold WS;rw[v8 (fun k h h'=>hg k h (by omega) h')];rfl,Hr hO]⟩
 obtain⟨n1,g1⟩:∃m,n=m+1:=⟨n-1,by omega⟩
 refine ArgG.mk (K.hk l n hd (by omega) hu) rfl ?_
 rintro _ rfl
 refine OpG.lk (LOp.hasS (L:=D) (k:=K.kF l n) Tryz.underlying233 Tryz.underlying9 zr4 rfl rfl rfl) (cB (fun hr=>?_) (fun hr=>?_))
 ·exact⟨.inr rfl,_,_,Nf.of (hb':=[(1000000,some (fnB ts most O)),(1000001,some (ouB O)),(1000002,some (jq D))]) [] (az rfl (.cons (abn.tmp rfl) .nil)) rfl ⟨.same rfl (by decide),.same rfl (by decide),.same rfl (by decide),trivial⟩ .same,⟨D,hD,by rw[hD.hit hd (by omega) hu hr];rfl,by rw[hD.hit hd (by omega) hu hr,u3]⟩⟩
 refine LpG.on (fun k2:KFd=>(⟨fL [(0,.ptr 1000000 0 0),(1,.tree 1 (l.map cx)),(2,.v (.slice none 0 0)),(3,.v (.int .i64 ((n:Nat):Int))),(11,.v (.string (K.kF l n))),(12,.v (.bool k2.b)),(13,.v (.int .i32 (32+(k2.k:Int))))],hLz [(1000000,fnB ts most k2.O),(1000001,ouB k2.O),(1000002,jq k2.D)],0⟩:St)) (fun k2=>(95-k2.k)) (fun k2=>(k2.k<=95/\(k2.b=!(WP M ts n1 l k2.k).isEmpty/\k2.O=ee most O ([]:List UInt8) (WP M ts n1 l k2.k)/\pr K k2.D))) (⟨0,false,O,D⟩:KFd) (cO (.cons rfl rfl (.cons rfl rfl (.cons rfl rfl (.cons rfl rfl (.cons rfl rfl (.cons rfl rfl (.cons rfl rfl .nil))))))) (.cons rfl rfl rfl (.cons rfl rfl (aa cr _ _) (.cons rfl rfl (df _ _) .nil)))) ⟨ag5 _,⟨rfl,u3.symm,hD⟩⟩ ?_
 rintro k2 he
 obtain⟨hh,ha⟩:=he
 refine OpG.lk (LOp.cmpI rfl rfl rfl) (cB (fun hs=>?_) (fun hs=>?_))
 ·have hi:k2.k<95:=by have h:=ag3 hs;omega
  refine OpG.lk (cd rfl Tryz.underlying112 rfl rfl rfl) ⟨by kernel_rfl,cL (fun hx=>?_) (fun hy=>?_)⟩
  ·refine LenG.of (OpG.nw (ot (len:=l.length) bz 0 Tryz.underlying46 dz lw uj rfl rfl rfl rfl rfl (by omega) (by omega) g9) rfl ?_)
   refine LenG.of (LpG.on (fun k4:KL Int=>(⟨fL [(0,.ptr 1000000 0 0),(1,.tree 1 (l.map cx)),(2,.v (.slice none 0 0)),(3,.v (.int .i64 ((n:Nat):Int))),(11,.v (.string (K.kF l n))),(12,.v (.bool k2.b)),(13,.v (.int .i32 (32+(k2.k:Int)))),(14,.sl 0 0 0 l.length),(79,.tree 4 (ts.map tsA)),(80,.v (.int .i64 ((ts.length:Nat):Int))),(81,.v (.int .i64 ((k4.k:Nat):Int)))],hLz [(0,⟨0,rF cx k4.L,1,false⟩),(1000000,fnB ts most k2.O),(1000001,ouB k2.O),(1000002,jq k2.D)],1⟩:St)) (fun k4=>(ts.length-k4.k)) (fun k4=>(k4.k<=ts.length/\k4.L=((nxS M ts l (32+(k2.k:Int)))).take k4.k++List.replicate (l.length-k4.k) 0)) (⟨0,List.replicate l.length 0⟩:KL Int) (cO (.cons rfl rfl (.cons rfl rfl (.cons rfl rfl (.cons rfl rfl (.cons rfl rfl (.cons rfl rfl (.cons rfl rfl (.cons rfl rfl (.cons rfl rfl (.cons rfl rfl (.cons rfl rfl .nil))))))))))) (.cons rfl rfl (aa bz _ _) (.cons rfl rfl rfl (.cons rfl rfl (aa cr _ _) (.cons rfl rfl (df _ _) .nil))))) ⟨ag5 _,by simp⟩ ?_)
   rintro k4 he
   obtain⟨ht,hj⟩:=he
   refine cL (fun hz=>?_) (fun g0=>?_)
   ·have hk4l:k4.k<l.length:=by omega
    refine IdxG.of ‹_› (IdxG.of ‹_› ?_)
    refine OpG.lk (rv (m:=32+(k2.k:Int)) Tryz.underlying21 Tryz.underlying5 rfl (by omega) (by omega)) (ArgG.mk (((M ts[k4.k]).hn (g2 _ (ags ‹_›)) _ (hd.mem k4.k ‹_› (by omega)) k2.k hi).1) rfl ?_)
    rintro _ rfl
    refine OpG.lk (de (i:=k4.k) Tryz.underlying46 dz rfl rfl rfl (by omega) rfl) (OpG.wr (er bz dz rfl rfl rfl rfl rfl rfl (by rw[hj];exact Gh (by omega) hd)) rfl ?_)
    refine⟨by kernel_rfl,⟨by omega,?_⟩⟩
    refine⟨(⟨k4.k+1,k4.L.set k4.k ((M ts[k4.k]).n l[k4.k] (32+(k2.k:Int)))⟩:KL Int),(by show ts.length-(k4.k+1)<ts.length-k4.k;omega),(cO (.cons rfl rfl (.cons rfl rfl (.cons rfl rfl (.cons rfl rfl (.cons rfl rfl (.cons rfl rfl (.cons rfl rfl (.cons rfl rfl (.cons rfl rfl (.cons rfl rfl (.cons rfl rfl .nil))))))))))) (.cons rfl rfl (aa bz _ _) (.cons rfl rfl rfl (.cons rfl rfl (aa cr _ _) (.cons rfl rfl (df _ _) .nil))))),⟨by show k4.k+1<=_;omega,?_⟩⟩
    exact Bz hd hj hz
   have hp:k4.L=(nxS M ts l (32+(k2.k:Int))):=Gi hd hj ht g0
   refine RegG.via (fun _ h=>bm [0] 14 (.tree 1 (k4.L.map cx)) (Cz bz (agx.2 rfl) rfl (by rw[hp,qe hd.len,hd.len])) rfl h) ?_
   rw[hp]
   obtain⟨_,_,⟨D1,g5,rfl,rfl⟩,gb⟩:=IH n1 g1.symm (nxS M ts l (32+(k2.k:Int))) (([]:List UInt8)++[UInt8.ofNat (32+k2.k)]) k2.O k2.D (hd.nx g2 hi) (by simp) (by simp;omega) hx ha.2.2
   refine Ne (Yw (k:=k2.k) (b:=k2.b) (key:=K.kF l n) (l:=l) rfl rfl rfl rfl rfl rfl rfl rfl rfl rfl rfl hi g1 (by omega) gb) (cB (fun hm=>?_) (fun hm=>?_))
   ·refine OpG.lk (pi (m:=32+(k2.k:Int)) (n:=1) rfl rfl (by omega) (by omega)) ⟨(⟨k2.k+1,true,ee most k2.O (([]:List UInt8)++[UInt8.ofNat (32+k2.k)]) (WS M ts n1 (nxS M ts l (32+(k2.k:Int)))),D1⟩:KFd),(by show 95-(k2.k+1)<95-k2.k;omega),(cO (.cons rfl rfl (.cons rfl rfl (.cons rfl rfl (.cons rfl rfl (.cons rfl rfl (.cons rfl rfl (.cons rfl rfl .nil))))))) (.cons rfl rfl rfl (.cons rfl rfl (aa cr _ _) (.cons rfl rfl (df _ _) .nil)))),⟨by show k2.k+1<=_;omega,?_⟩⟩
    exact rm ha.1 ha.2.1 g5 hm
   refine OpG.lk (pi (m:=32+(k2.k:Int)) (n:=1) rfl rfl (by omega) (by omega)) ⟨(⟨k2.k+1,k2.b,ee most k2.O (([]:List UInt8)++[UInt8.ofNat (32+k2.k)]) (WS M ts n1 (nxS M ts l (32+(k2.k:Int)))),D1⟩:KFd),(by show 95-(k2.k+1)<95-k2.k;omega),(cO (.cons rfl rfl (.cons rfl rfl (.cons rfl rfl (.cons rfl rfl (.cons rfl rfl (.cons rfl rfl (.cons rfl rfl .nil))))))) (.cons rfl rfl rfl (.cons rfl rfl (aa cr _ _) (.cons rfl rfl (df _ _) .nil)))),⟨by show k2.k+1<=_;omega,?_⟩⟩
   exact rm ha.1 ha.2.1 g5 hm
  have hb:=Cd hO g1 ha.1 ha.2.1 hy hh
  refine cB (fun hc=>?_) (fun hc=>?_)
  ·refine OpG.wr (u6 (k:=K.kF l n) (L:=k2.D) Tryz.underlying233 Tryz.underlying9 rfl rfl rfl rfl) rfl ⟨.inr rfl,_,_,Nf.of (hb':=[(1000000,some (fnB ts most k2.O)),(1000001,some (ouB k2.O)),(1000002,some (jq (Lc k2.D (K.kF l n))))]) [] (az rfl (.cons (abn.tmp rfl) .nil)) rfl ⟨.same rfl (by decide),.same rfl (by decide),.same rfl (by decide),trivial⟩ .same,?_⟩
   have g4:k2.b=false:=by simpa using hc
   have hw:WS M ts n l=[]:=by have h:=hb.1;rw[g4]at h;exact List.isEmpty_iff.1 (by simpa using h.symm)
   exact⟨_,ha.2.2.ins hd (by omega) hu hw,congrArg (fun z=>AV.v (.bool z)) hb.1,by rw[<-hb.2]⟩
  exact⟨.inr rfl,_,_,Nf.of (hb':=[(1000000,some (fnB ts most k2.O)),(1000001,some (ouB k2.O)),(1000002,some (jq k2.D))]) [] (az rfl (.cons (abn.tmp rfl) .nil)) rfl ⟨.same rfl (by decide),.same rfl (by decide),.same rfl (by decide),trivial⟩ .same,⟨_,ha.2.2,congrArg (fun z=>AV.v (.bool z)) hb.1,by rw[<-hb.2]⟩⟩
 have hi:¬k2.k<95:=by have h:=ag2 hs;omega
 have hb:=Ce g1 ha.1 ha.2.1 hi hh
 refine⟨by kernel_rfl,cF ?_⟩
 refine cB (fun hc=>?_) (fun hc=>?_)
 ·refine OpG.wr (u6 (k:=K.kF l n) (L:=k2.D) Tryz.underlying233 Tryz.underlying9 rfl rfl rfl rfl) rfl ⟨.inr rfl,_,_,Nf.of (hb':=[(1000000,some (fnB ts most k2.O)),(1000001,some (ouB k2.O)),(1000002,some (jq (Lc k2.D (K.kF l n))))]) [] (az rfl (.cons (abn.tmp rfl) .nil)) rfl ⟨.same rfl (by decide),.same rfl (by decide),.same rfl (by decide),trivial⟩ .same,?_⟩
  have g4:k2.b=false:=by simpa using hc
  have hw:WS M ts n l=[]:=by have h:=hb.1;rw[g4]at h;exact List.isEmpty_iff.1 (by simpa using h.symm)
  exact⟨_,ha.2.2.ins hd (by omega) hu hw,congrArg (fun z=>AV.v (.bool z)) hb.1,by rw[<-hb.2]⟩
 exact⟨.inr rfl,_,_,Nf.of (hb':=[(1000000,some (fnB ts most k2.O)),(1000001,some (ouB k2.O)),(1000002,some (jq k2.D))]) [] (az rfl (.cons (abn.tmp rfl) .nil)) rfl ⟨.same rfl (by decide),.same rfl (by decide),.same rfl (by decide),trivial⟩ .same,⟨_,ha.2.2,congrArg (fun z=>AV.v (.bool z)) hb.1,by rw[<-hb.2]⟩⟩
section
variable{ts:List GTst}{most:Nat}{O D:List ByteArray}
theorem okB3:Dc (fun p:Nat×Blk=>Bw [1000000,1000001,1000002] p.2) [(1000000,fnB ts most O),(1000001,ouB O),(1000002,jq D)]:=⟨⟨rfl,.inl rfl⟩,au cr,Kj,trivial⟩
theorem okO3:Dc (fun p:Nat×Option Blk=>okO [1000000,1000001,1000002] p.2) [(1000000,some (fnB ts most O)),(1000001,some (ouB O)),(1000002,some (jq D))]:=⟨rfl,aq cr _ _,Dy _ _ _,trivial⟩
theorem To:fj [(1000000,1),(1000001,2),(1000002,0)] [(1000000,some (fnB ts most O)),(1000001,some (ouB O)),(1000002,some (jq D))]=[(1,some ⟨0,[.tree 4 (ts.map tsA),.v (.int .i64 ((most:Nat):Int)),.sl 2 (O).length 0 (O).length,.mp 0 0],0,false⟩),(2,some (ouB O)),(0,some (jq D))]:=by
 simp only[fj,ahg,List.map_nil,ahn,ci cr,zq]
 rfl
end
theorem Gw(M:(t:GTst)->Pat t)(ts:List GTst)(ha:FitTs ts)(hb:∀t∈ts,(M t).ok)(most:Nat)(hc:ts≠[]){L:Nat}(K:Keys M ts L)(hL:L<=99)(hd:most<=1000000):∀n,n<=L->Nu M ts most K n
 |0,hn=>fun l T O D he hT hl hO hD=>Lu M ts ha hb most hc K 0 l T hT hl O D he hn hL hO hd hD (fun m h=>absurd h (Nat.succ_ne_zero m))
 |n+1,hn=>fun l T O D he hT hl hO hD=>Lu M ts ha hb most hc K (n+1) l T hT hl O D he hn hL hO hd hD (fun m h=>by
  obtain rfl:m=n:=by omega
  exact Gw M ts ha hb most hc K hL hd m (by omega))
theorem afx{M:(t:GTst)->Pat t}{ts:List GTst}{L:Nat}{K:Keys M ts L}:pr K []:=fun _ h=>absurd h (by simp)
theorem aa4:bw Tryz.prog 170=true:=by kernel_rfl
theorem r9(M:(t:GTst)->Pat t)(ts:List GTst)(hc:FitTs ts)(hb:∀t∈ts,(M t).ok)(n most:Nat)(hg:ts≠[]){L:Nat}(K:Keys M ts L)(hL:L<=99)(hh:most<=1000000)(hm1:1<=most)(hi:n<=L):PRet Tryz.prog 145 [.tree 4 (ts.map tsA),.v (.int .i64 ((n:Nat):Int)),.v (.int .i64 ((most:Nat):Int))] (fun q=>q=.tree 1 ((ee most [] [] (WS M ts n (ts.map fun t=>(M t).s0))).map sA)):=by
 refine ovT [16,21,23] [4] Tryz.func145 rfl rfl (cB (fun ha=>?_) (fun ha=>?_))
 ·have hlt10:n<0:=Int.ofNat_lt.1 (ag3 ha)
  exfalso;have h:=ag3 ha;omega
 have hge10:¬n<0:=fun h=>ag2 ha (Int.ofNat_lt.2 h)
 refine cD (fun hd=>?_) (fun hd=>?_)
 ·exfalso;omega
 refine OpG.nw (LOp.makeMap 0) rfl (RegG.via (fun _ h=>kf 1 2 1 rfl rfl rfl rfl rfl 3 rfl h) ?_)
 refine aw ?_
 obtain⟨_,rfl,he⟩:=Qi M ts hc hb most [] []
 refine OpG.mk _ _ _ 3 (a8 [(1000000,1),(1000001,2),(1000002,0)] aa4 he rfl rfl rfl rfl ⟨rfl,rfl,rfl,trivial⟩ okB3 okO3 rfl rfl rfl rfl To rfl) rfl rfl ?_
 obtain⟨_,_,⟨D2,hD2,rfl,rfl⟩,hf⟩:=Wd M ts hc hb most hg K n (ts.map fun t=>(M t).s0) [] [] (Ns hb) hi hL (by show 0<most;omega) hh afx (fun m h=>Gw M ts hc hb most hg K hL hh m (by omega))
 refine OpG.mk _ _ _ 3 (a8 [(1000000,1),(1000001,2),(1000002,0)] Hi hf rfl rfl rfl rfl ⟨rfl,rfl,rfl,trivial⟩ okB3 okO3 rfl rfl rfl rfl To rfl) rfl rfl ⟨.inr rfl,_,Ng.tmp rfl ⟨[2],j6 cr (agx.2 rfl) rfl⟩,?_⟩
 rfl
end Go.Proofs.YtbhhmbchdponjaaGreatDoor
