/- Texts of the claim. -/
import Derived.Test.YtmbmbhkemgmhfaaGreatDoorF1
import Derived.Test.YtmbmbhkemgmhfaaGreatDoorE3
import Derived.Test.YtmbmbhkemgmhfaaGreatDoorQ2
import Derived.Test.YtmbmbhkemgmhfaaGreatDoorInf
namespace Go.Proofs.YtmbmbhkemgmhfaaGreatDoor
set_option maxRecDepth 1000000
set_option maxHeartbeats 0
set_option linter.unusedVariables false
set_option linter.unusedSimpArgs false
open Go.RowKit
theorem Vv:Tryz.prog.follows .mixedOrders=true:=by kernel_rfl
theorem Bu{f:FuncId}{ys:List AV}{ret:AV}(h:zh Tryz.prog (fun _=>false) (fun _ _=>none) (kh Tryz.prog) 1000 20 f ys=some ret):PRet Tryz.prog f ys (fun q=>q=ret):=PRet.of_call (U5 Vv (fun _ _ _ h=>by cases h) q8 h)
structure Pat(t:GTst) where
 S:List Int
 n:Int->Int->Int
 f:Int->Bool
 s0:Int
 ok:Prop
 i0:ok->s0∈S
 h0:ok->PRet Tryz.prog 149 [.agg (tsA t)] (fun q=>q=.v (.int .u32 s0))
 hn:ok->∀s∈S,∀k:Nat,k<95->PRet Tryz.prog 148 [.agg (tsA t),.v (.int .u32 s),.v (.int .u8 (32+(k:Int)))] (fun q=>q=.v (.int .u32 (n s (32+(k:Int)))))/\n s (32+(k:Int))∈S
 hf:ok->∀s∈S,PRet Tryz.prog 146 [.agg (tsA t),.v (.int .u32 s)] (fun q=>q=.v (.bool (f s)))
section
variable(M:(t:GTst)->Pat t)
def nxS:List GTst->List Int->Int->List Int
 |t::ts,s::l,c=>(M t).n s c::nxS ts l c
 |_,_,_=>[]
def okS:List GTst->List Int->Bool
 |t::ts,s::l=>(M t).f s&&okS ts l
 |_,_=>true
structure InT(ts:List GTst)(l:List Int):Prop where
 len:l.length=ts.length
 mem:∀k (h:k<ts.length) (h':k<l.length),l[k]∈(M ts[k]).S
def WS(ts:List GTst):Nat->List Int->List (List UInt8)
 |0,l=>bif okS M ts l then[[]]else[]
 |n+1,l=>(List.range 95).flatMap fun(k:Nat)=>(WS ts n (nxS M ts l (32+(k:Int)))).map (UInt8.ofNat (32+k)::·)
def WP(ts:List GTst)(n:Nat)(l:List Int)(k:Nat):List (List UInt8):=(List.range k).flatMap fun(k:Nat)=>(WS M ts n (nxS M ts l (32+(k:Int)))).map (UInt8.ofNat (32+k)::·)
end
section
variable{M:(t:GTst)->Pat t}{ts:List GTst}{l:List Int}{c:Int}{n k:Nat}
theorem pu:∀{ts:List GTst} {l:List Int},l.length=ts.length->(nxS M ts l c).length=ts.length
 |[],[],_=>rfl
 |[],_::_,h=>by simp at h
 |_::_,[],h=>by simp at h
 |t::ts,s::l,h=>by simp[nxS,pu (ts:=ts) (l:=l) (by simpa using h)]
theorem Ed:∀{ts:List GTst} {l:List Int} {k:Nat} (h:k<ts.length) (h':k<l.length) (h2:k<(nxS M ts l c).length),(nxS M ts l c)[k]=(M ts[k]).n l[k] c
 |[],_,_,h,_,_=>absurd h (by simp)
 |_::_,[],_,_,h,_=>absurd h (by simp)
 |t::ts,s::l,0,_,_,_=>rfl
 |t::ts,s::l,k+1,h,h',h2=>by
  have:=Ed (ts:=ts) (l:=l) (k:=k) (by simpa using h) (by simpa using h') (by simpa[nxS]using h2)
  simpa[nxS]using this
theorem InT.nx(h:InT M ts l)(h0:∀t∈ts,(M t).ok)(hk:k<95):InT M ts (nxS M ts l (32+(k:Int))):=by
 refine⟨pu h.len,fun j h1 h2=>?_⟩
 have h3:j<l.length:=by rw[h.len];exact h1
 rw[Ed h1 h3]
 exact((M ts[j]).hn (h0 _ (agt h1)) _ (h.mem j h1 h3) k hk).2
theorem Ot(h0:∀t∈ts,(M t).ok):InT M ts (ts.map fun t=>(M t).s0):=⟨by simp,fun k h h'=>by simpa using(M ts[k]).i0 (h0 _ (agt h))⟩
theorem vy:∀{ts:List GTst} {l:List Int} {k:Nat} (h:k<ts.length) (h':k<l.length),(M ts[k]).f l[k]=false->okS M ts l=false
 |[],_,_,h,_,_=>absurd h (by simp)
 |_::_,[],_,_,h,_=>absurd h (by simp)
 |t::ts,s::l,0,_,_,e=>by
  have e:(M t).f s=false:=e
  simp[okS,e]
 |t::ts,s::l,k+1,h,h',e=>by
  have:=vy (ts:=ts) (l:=l) (k:=k) (by simpa using h) (by simpa using h') (by simpa using e)
  simp[okS,this]
theorem vz:∀{ts:List GTst} {l:List Int},(∀k (h:k<ts.length) (h':k<l.length),(M ts[k]).f l[k]=true)->okS M ts l=true
 |[],_,_=>rfl
 |_::_,[],_=>rfl
 |t::ts,s::l,e=>by
  have e0:(M t).f s=true:=e 0 (by simp) (by simp)
  have:=vz (ts:=ts) (l:=l) (fun k h h'=>e (k+1) (by simpa using h) (by simpa using h'))
  simp[okS,e0,this]
theorem Xq:WS M ts (n+1) l=WP M ts n l 95:=rfl
theorem Fe:WP M ts n l (k+1)=WP M ts n l k++(WS M ts n (nxS M ts l (32+(k:Int)))).map (UInt8.ofNat (32+k)::·):=by
 unfold WP;rw[List.range_succ,List.flatMap_append];simp
theorem T5:∀{j:Nat},k<=j->∃r,WP M ts n l j=WP M ts n l k++r
 |0,h=>⟨[],by rw[show k=0 by omega];simp⟩
 |j+1,h=>by
  by_cases e:k=j+1
  ·exact⟨[],by rw[e];simp⟩
  ·obtain⟨r,hr⟩:=T5 (j:=j) (by omega)
   exact⟨r++(WS M ts n (nxS M ts l (32+(j:Int)))).map (UInt8.ofNat (32+j)::·),by rw[Fe,hr,List.append_assoc]⟩
end
def txB(T w:List UInt8):ByteArray:=⟨(T++w).toArray⟩
def fg(most:Nat)(O:List ByteArray)(T:List UInt8)(ws:List (List UInt8)):List ByteArray:=O++(ws.take (most-O.length)).map (txB T)
theorem um{most:Nat}{O:List ByteArray}{T:List UInt8}:fg most O T []=O:=by simp[fg]
theorem uo{most:Nat}{O:List ByteArray}{T:List UInt8}{ws:List (List UInt8)}:(fg most O T ws).length=O.length+min (most-O.length) ws.length:=by simp[fg]
theorem N8{most:Nat}{O:List ByteArray}{T:List UInt8}{c:UInt8}{ws vs:List (List UInt8)}:fg most (fg most O T ws) (T++[c]) vs=fg most O T (ws++vs.map (c::·)):=by
 have e:=uo (most:=most) (O:=O) (T:=T) (ws:=ws)
 unfold fg at e ⊢
 rw[e,List.take_append,ahi,List.append_assoc]
 congr 2
 rw[<-List.map_take,List.map_map]
 have e2:most-(O.length+min (most-O.length) ws.length)=most-O.length-ws.length:=by omega
 rw[e2]
 refine List.map_congr_left fun w _=>?_
 simp[txB,Function.comp]
theorem N9{most:Nat}{O:List ByteArray}{T:List UInt8}{ws r:List (List UInt8)}(h0:O.length<most)(h:¬(fg most O T ws).length<most):fg most O T ws=fg most O T (ws++r)/\ws≠[]:=by
 rw[uo]at h
 have h1:most-O.length<=ws.length:=by omega
 refine⟨by unfold fg;rw[List.take_append_of_le_length h1],fun e=>by subst e;simp at h1;omega⟩
structure Keys(M:(t:GTst)->Pat t)(ts:List GTst)(L:Nat) where
 kF:List Int->Nat->ByteArray
 hk:∀l n,InT M ts l->1<=n->n<=L->PRet Tryz.prog 147 [.tree 1 (l.map ct),.v (.int .i64 ((n:Nat):Int))] (fun q=>q=.v (.string (kF l n)))
 inj:∀l l' n n',InT M ts l->InT M ts l'->1<=n->n<=L->1<=n'->n'<=L->kF l n=kF l' n'->l=l'/\n=n'
def pi{M:(t:GTst)->Pat t}{ts:List GTst}{L:Nat}(K:Keys M ts L)(D:List ByteArray):Prop:=∀d∈D,∃l n,InT M ts l/\1<=n/\n<=L/\d=K.kF l n/\WS M ts n l=[]
section
variable{M:(t:GTst)->Pat t}{ts:List GTst}{L:Nat}{K:Keys M ts L}{D:List ByteArray}{l:List Int}{n:Nat}
theorem pi.hit(h:pi K D)(hl:InT M ts l)(h1:1<=n)(h2:n<=L)(hh:hasS D (K.kF l n)=true):WS M ts n l=[]:=by
 obtain⟨l',n',g1,g2,g3,g4,g5⟩:=h _ (Qm hh)
 obtain⟨rfl,rfl⟩:=K.inj l l' n n' hl g1 h1 h2 g2 g3 g4
 exact g5
theorem pi.add(h:pi K D)(hl:InT M ts l)(h1:1<=n)(h2:n<=L)(hw:WS M ts n l=[]):pi K (D++[K.kF l n]):=fun d hd=>by
 rcases agz.1 hd with hd|hd
 ·exact h d hd
 exact⟨l,n,hl,h1,h2,agy.1 hd,hw⟩
end
abbrev fnB(ts:List GTst)(most:Nat)(O:List ByteArray):Blk:=⟨0,[.tree 4 (ts.map tsA),.v (.int .i64 ((most:Nat):Int)),.sl 1000001 O.length 0 O.length,.mp 1000002 0],0,false⟩
abbrev ouB(O:List ByteArray):Blk:=⟨O.length,rF sA O,1,Nat.beq O.length 0⟩
def cI(c:UInt8):Int:=Int.ofNat c.toNat
abbrev txK(T:List UInt8):Blk:=⟨0,rF uA (T.map cI),1,false⟩
theorem Sc:∀T:List UInt8,u8s (rF uA (T.map cI))=some T
 |[]=>rfl
 |c::T=>by
  have ih:=Sc T
  have e:rF uA ((c::T).map cI)=.v (.int .u8 (.ofNat c.toNat))::rF uA (T.map cI):=j0
  have h:Nat.blt c.toNat 256=true:=by simpa[Nat.blt_eq]using c.toNat_lt
  rw[e]
  unfold u8s
  rw[h,ih]
  simp
structure FitTs(ts:List GTst):Prop where
 len:ts.length<=1000
 fit:∀t∈ts,FitTst t
theorem Ct:(Tryz.prog.info? 177).map (·.bytes)=some 4:=by kernel_rfl
theorem fa:ap Tryz.prog 177=some 1:=by kernel_rfl
theorem tt:bi Tryz.prog 177=some (.int .u32 0):=by kernel_rfl
theorem Qu(M:(t:GTst)->Pat t)(ts:List GTst)(h4:FitTs ts)(h5:∀t∈ts,(M t).ok)(most:Nat)(O D:List ByteArray):o7 Tryz.prog 113 [.ptr 1000000 0 0] [(1000000,fnB ts most O),(1000001,ouB O),(1000002,jh D)] [(1000000,some (fnB ts most O)),(1000001,some (ouB O)),(1000002,some (jh D))] (fun q=>q=.tree 1 ((ts.map fun t=>(M t).s0).map ct)):=by
 have hts1:=h4.len
 refine o7.of_vc ik [] [7] Tryz.func113 rfl Tryz.ntmps113 rfl (by kernel_rfl) (LenG.of ?_)
 refine LpG.via (fun _ h=>ic 3 1 rfl 1 rfl h) (LpG.on (fun k0:KL Int=>(⟨fL [(3,.sl 0 k0.L.length 0 k0.L.length),(9,.tree 4 (ts.map tsA)),(10,.v (.int .i64 ((ts.length:Nat):Int))),(11,.v (.int .i64 ((k0.k:Nat):Int)))],hLz [(0,⟨k0.L.length,rF ct k0.L,1,Nat.beq k0.L.length 0⟩),(1000000,fnB ts most O),(1000001,ouB O),(1000002,jh D)],1⟩:St)) (fun k0=>(ts.length-k0.k)) (fun k0=>(k0.k<=ts.length/\k0.L=(ts.take k0.k).map fun t=>(M t).s0)) (⟨0,[]⟩:KL Int) (cO (.cons (by rfl) rfl (.cons rfl rfl (.cons rfl rfl (.cons rfl rfl .nil)))) (.cons (by rfl) rfl (aa bz _ _) (.cons rfl rfl rfl (.cons rfl rfl (aa bt _ _) (.cons rfl rfl (de _ _) .nil))))) ⟨ag6 _,rfl⟩ ?_)
 rintro k0 h3
 obtain⟨hle_k0,h1⟩:=h3
 refine cL (fun h2=>?_) (fun hge12=>?_)
 ·have hkl:k0.L.length<=1000:=by rw[h1,ag0,List.length_take];omega
  refine IdxG.of ‹_› (ArgG.mk ((M ts[k0.k]).h0 (h5 _ (agt ‹_›))) rfl ?_)
  rintro _ rfl
  refine OpG.mk _ _ _ 3 (bh bz (a:=(M ts[k0.k]).s0) Tryz.underlying67 fa tt Ct rfl rfl rfl (ce rfl rfl rfl rfl) rfl (by omega) (by omega) (by unfold TV;omega)) rfl rfl ⟨by omega,⟨(⟨k0.k+1,k0.L++[(M ts[k0.k]).s0]⟩:KL Int),(by show ts.length-(k0.k+1)<ts.length-k0.k;omega),(cO (.cons (by(rw[agx];rfl)) rfl (.cons rfl rfl (.cons rfl rfl (.cons rfl rfl .nil)))) (.cons (by(rw[agx];rfl)) rfl (aa bz _ _) (.cons rfl rfl rfl (.cons rfl rfl (aa bt _ _) (.cons rfl rfl (de _ _) .nil))))),?_⟩⟩
  refine⟨by show k0.k+1<=_;omega,?_⟩
  show _++[_]=_
  rw[h1,ag5 h2,ahi];rfl
 refine RegG.via (fun _ h=>br [0] 3 (.tree 1 (k0.L.map ct)) (FzP.rows bz (agy.2 rfl) rfl) rfl h) (ba ?_)
 refine⟨.inr rfl,_,Fg.of [] (aw rfl (.cons (acn.tmp rfl) .nil)) rfl ⟨.same rfl (by decide),.same rfl (by decide),.same rfl (by decide),trivial⟩ .same,?_⟩
 rw[h1,ahl (by omega)];rfl
theorem ru(T:List UInt8):T.length=(rF uA (T.map cI)).length:=by rw[ib kp];simp
theorem adn{T:List UInt8}{c:UInt8}:txK T=⟨0,(rF uA ((T++[c]).map cI)).take T.length,1,false⟩:=by
 rw[ahi,x9,List.take_append_of_le_length (by rw[<-ru];exact ag8 _),ahl (by rw[<-ru];exact ag8 _)]
section
variable{m:List (Nat×Nat)}{η:bf}{i:Nat}{ts:List GTst}{most:Nat}{O D:List ByteArray}{T:List UInt8}{n:Int}{c:UInt8}{g:Nat->Nat}
theorem ad8(h:η i=some (ouB O)):η i=some ((ouB O).ren g):=by rw[h,cv bt]
theorem ad7(h:η i=some (jh D)):η i=some ((jh D).ren g):=by rw[h,zv]
theorem ad6(h:η i=some (txK T)):η i=some ((txK T).ren g):=by rw[h,cv kp]
theorem txcA(h:uA n=uA (cI c)):(⟨0,bg (rF uA (T.map cI)) (T.length*1) (uA n),1,false⟩:Blk)=txK (T++[c]):=by
 have e:bg (rF uA (T.map cI)) (T.length*1) (uA n)=rF uA (T.map cI)++uA n:=by
  unfold bg
  rw[Nat.mul_one,ahl (by rw[<-ru];exact ag8 _),List.drop_of_length_le (by rw[<-ru];simp)];simp
 rw[e,h,<-D5];simp[txK]
theorem txcB(h:uA n=uA (cI c)):(⟨0,(rF uA (T.map cI)).take (T.length*1)++uA n,1,false⟩:Blk)=txK (T++[c]):=by
 rw[Nat.mul_one,ahl (by rw[<-ru];exact ag8 _),h,<-D5];simp[txK]
theorem txcN(h:uA n=uA (cI c)):(⟨0,uA n,1,false⟩:Blk)=txK ([]++[c]):=by rw[h];rfl
theorem aei{K:List Nat}(h:[1000001,1000002].all K.contains=true):Dp (fun p:Nat×Blk=>zq K p.2) [(1000000,fnB ts most O),(1000001,ouB O),(1000002,jh D),(1000003,txK T)]:=by
 simp only[List.all_cons,List.all_nil,Bool.and_true,ahs]at h
 exact⟨⟨by show(true&&(true&&(K.contains _&&(K.contains _&&true))))=true;rw[h.1,h.2];rfl,.inl rfl⟩,av bt,K9,⟨au kp _ _,.inl rfl⟩,trivial⟩
theorem aeh{K:List Nat}(h:[1000001,1000002].all K.contains=true):Dp (fun p:Nat×Option Blk=>okO K p.2) [(1000000,some (fnB ts most O)),(1000001,some (ouB O)),(1000002,some (jh D)),(1000003,some (txK T))]:=by
 simp only[List.all_cons,List.all_nil,Bool.and_true,ahs]at h
 exact⟨by show(true&&(true&&(K.contains _&&(K.contains _&&true))))=true;rw[h.1,h.2];rfl,au bt _ _,Ei _ _ _,au kp _ _,trivial⟩
theorem Ng:d6 [(1000000,1000000),(1000001,1000001),(1000002,1000002),(1000003,i)] [(1000000,some (fnB ts most O)),(1000001,some (ouB O)),(1000002,some (jh D)),(1000003,some (txK T))]=[(1000000,some (fnB ts most O)),(1000001,some (ouB O)),(1000002,some (jh D)),(i,some (txK T))]:=by
 simp only[d6,ahh,List.map_nil,ahp,cv bt,cv kp,zv]
 rfl
theorem ago{a b a' b' x x' y:AV}(h:a=a')(k:b=b')(e:x=x'):[a,b,x,y]=[a',b',x',y]:=by rw[h,k,e]
theorem slL{i:Nat}:AV.sl i 0 0 (T.length+1)=.sl i 0 0 (T++[c]).length:=by simp
theorem nTV:(0:Nat)≠TV:=by decide
end
theorem Hn:bv Tryz.prog 112=true:=by kernel_rfl
theorem by5:(Tryz.prog.info? 5).map (·.bytes)=some 1:=by kernel_rfl
theorem sz5:ap Tryz.prog 5=some 1:=by kernel_rfl
theorem zr5:bi Tryz.prog 5=some (.int .u8 0):=by kernel_rfl
theorem Zh{ts:List GTst}{most:Nat}{l more:List Int}{T:List UInt8}{n n' k:Nat}{O O1 D D1:List ByteArray}{r b:Bool}{key:ByteArray}{τ:Nat->AV}{η:bf}{y0 y1 y2 y3 y4 y5 y6 y7 y8 y9:TypeId}{p0 p1 p2 p3 p4 p5 p6 p7 p8 p9:String}{e0 e1 e2 e3 e4 e5 e6 e7 e8 e9:Array Edge}{ats:Array TypeId}
 (t0:τ 0=.ptr 1000000 0 0)(t1:τ 1=.tree 1 (l.map ct))(t2:τ 2=.sl 1000003 0 0 T.length)(t3:τ 3=.v (.int .i64 ((n':Nat):Int)))(t11:τ 11=.v (.string key))(t12:τ 12=.v (.bool b))(t13:τ 13=.v (.int .i32 (32+(k:Int))))(t14:τ 14=.tree 1 (more.map ct))
 (h0:η 1000000=some (fnB ts most O))(h1:η 1000001=some (ouB O))(h2:η 1000002=some (jh D))(h3:η 1000003=some (txK T))(hT:T≠[])(hTl:T.length<=100)(hk:k<95)(h6:n'=n+1)(hn:n<=100)
 (hc:xt Tryz.prog 112 [.ptr 1000000 0 0,.tree 1 (more.map ct),.sl 1000003 0 0 (T++[UInt8.ofNat (32+k)]).length,.v (.int .i64 ((n:Nat):Int))] [(1000000,fnB ts most O),(1000001,ouB O),(1000002,jh D),(1000003,txK (T++[UInt8.ofNat (32+k)]))] [(1000000,some (fnB ts most O1)),(1000001,some (ouB O1)),(1000002,some (jh D1)),(1000003,some (txK (T++[UInt8.ofNat (32+k)])))] (.v (.bool r))):
 AWP Tryz.prog 116 (.region 23 [⟨some 98,.move (.tmp 0),y0,p0,e0,none⟩,⟨some 99,.move (.tmp 14),y1,p1,e1,none⟩,⟨some 100,.move (.tmp 2),y2,p2,e2,none⟩,⟨some 101,.move (.tmp 13),y3,p3,e3,none⟩,⟨some 102,.convert 21 5 (.tmp 101),y4,p4,e4,none⟩,⟨some 103,.buildSlice 142 1 #[(0,.tmp 102)],y5,p5,e5,none⟩,⟨some 104,.call {callee:=.builtin .append,args:=#[.tmp 100,.tmp 103],argTypes:=#[142,142]},y6,p6,e6,none⟩,⟨some 105,.move (.tmp 3),y7,p7,e7,none⟩,⟨some 106,.binOp .sub 3 (.tmp 105) (.const (.int .i64 1)) 3,y8,p8,e8,none⟩,⟨some 107,.call {callee:=.value (.func 112),args:=#[.tmp 98,.tmp 99,.tmp 104,.tmp 106],argTypes:=ats},y9,p9,e9,none⟩].toArray false) (fun e1 s0=>e1=.normal/\WkS s0 ⟨fL [(107,.v (.bool r)),(0,.ptr 1000000 0 0),(1,.tree 1 (l.map ct)),(2,.sl 1000003 0 0 T.length),(3,.v (.int .i64 ((n':Nat):Int))),(11,.v (.string key)),(12,.v (.bool b)),(13,.v (.int .i32 (32+(k:Int))))],hLz [(1000000,fnB ts most O1),(1000001,ouB O1),(1000002,jh D1),(1000003,txK T)],0⟩) ⟨τ,η,1⟩:=by
 subst h6
 have h4:uA (32+(k:Int))=uA (cI (UInt8.ofNat (32+k))):=by
  unfold cI;rw[UInt8.toNat_ofNat',Nat.mod_eq_of_lt (by omega)];simp
 have h5:((n+1:Nat):Int)-1=((n:Nat):Int):=by omega
 refine wR (oL (LOp.move _) rfl rfl ?_)
 refine oL (LOp.move _) rfl rfl (oL (LOp.move _) rfl rfl ?_)
 refine oL (LOp.move _) rfl rfl (oL (ut (m:=32+(k:Int)) Tryz.underlying21 Tryz.underlying5 t13 (by omega) (by omega)) rfl rfl ?_)
 refine oW (je (u:=1) Tryz.underlying142 sz5 zr5 rfl rfl rfl rfl) rfl rfl 2 rfl (Di (u:=2) (m:=1) (news:=uA (32+(k:Int))) Tryz.underlying142 sz5 zr5 by5 rfl t2 h3 rfl rfl rfl (by decide) (by rw[Nat.mul_one];exact Nat.le_of_eq (ru T)) (List.length_pos_iff.2 hT) (Src.sl rfl rfl rfl rfl rfl) (by decide) rfl rfl (by omega) (by omega) rfl rfl rfl ?_ ?_)
 ·refine oL (LOp.move _) rfl rfl (oL (ur (m:=((n+1:Nat):Int)) (n:=1) t3 rfl (by omega) (by omega)) rfl rfl ?_)
  rw[h5]
  refine A4 (a8 [(1000000,1000000),(1000001,1000001),(1000002,1000002),(1000003,1000003)] Hn hc rfl rfl rfl rfl ⟨h0,ad8 h1,ad7 h2,ad6 (congrArg some (txcA h4)),trivial⟩ (aei rfl) (aeh rfl) rfl rfl (ago t0 t14 (slL (T:=T))) rfl Ng rfl) rfl rfl 2 rfl rfl (oN ⟨rfl,WkS.trans (Xp (id:=1000003) T.length rfl rfl nTV (b':=txK T) adn)<|xd (cO (.cons rfl rfl (.cons t0 rfl (.cons t1 rfl (.cons t2 rfl (.cons t3 rfl (.cons t11 rfl (.cons t12 rfl (.cons t13 rfl (.nil))))))))) (.cons rfl rfl rfl (.cons rfl rfl (aa bt _ _) (.cons rfl rfl (de _ _) (.cons rfl rfl (aa kp _ _) .nil)))))⟩)
 refine oL (LOp.move _) rfl rfl (oL (ur (m:=((n+1:Nat):Int)) (n:=1) t3 rfl (by omega) (by omega)) rfl rfl ?_)
 rw[h5]
 refine A4 (a8 [(1000000,1000000),(1000001,1000001),(1000002,1000002),(1000003,2)] Hn hc rfl rfl rfl rfl ⟨h0,ad8 h1,ad7 h2,ad6 (congrArg some (txcB h4)),trivial⟩ (aei rfl) (aeh rfl) rfl rfl (ago t0 t14 (slL (T:=T))) rfl Ng rfl) rfl rfl 3 rfl rfl (oN ⟨rfl,xd (cO (.cons rfl rfl (.cons t0 rfl (.cons t1 rfl (.cons t2 rfl (.cons t3 rfl (.cons t11 rfl (.cons t12 rfl (.cons t13 rfl (.nil))))))))) (.cons rfl rfl rfl (.cons rfl rfl (aa bt _ _) (.cons rfl rfl (de _ _) (.cons h3 rfl (aa kp _ _) .nil)))))⟩)
theorem Zg{ts:List GTst}{most:Nat}{l more:List Int}{n n' k:Nat}{O O1 D D1:List ByteArray}{r b:Bool}{key:ByteArray}{τ:Nat->AV}{η:bf}{y0 y1 y2 y3 y4 y5 y6 y7 y8 y9:TypeId}{p0 p1 p2 p3 p4 p5 p6 p7 p8 p9:String}{e0 e1 e2 e3 e4 e5 e6 e7 e8 e9:Array Edge}{ats:Array TypeId}
 (t0:τ 0=.ptr 1000000 0 0)(t1:τ 1=.tree 1 (l.map ct))(t2:τ 2=.v (.slice none 0 0))(t3:τ 3=.v (.int .i64 ((n':Nat):Int)))(t11:τ 11=.v (.string key))(t12:τ 12=.v (.bool b))(t13:τ 13=.v (.int .i32 (32+(k:Int))))(t14:τ 14=.tree 1 (more.map ct))
 (h0:η 1000000=some (fnB ts most O))(h1:η 1000001=some (ouB O))(h2:η 1000002=some (jh D))(hk:k<95)(h3:n'=n+1)(hn:n<=100)
 (hc:xt Tryz.prog 112 [.ptr 1000000 0 0,.tree 1 (more.map ct),.sl 1000003 0 0 (([]:List UInt8)++[UInt8.ofNat (32+k)]).length,.v (.int .i64 ((n:Nat):Int))] [(1000000,fnB ts most O),(1000001,ouB O),(1000002,jh D),(1000003,txK (([]:List UInt8)++[UInt8.ofNat (32+k)]))] [(1000000,some (fnB ts most O1)),(1000001,some (ouB O1)),(1000002,some (jh D1)),(1000003,some (txK (([]:List UInt8)++[UInt8.ofNat (32+k)])))] (.v (.bool r))):
 AWP Tryz.prog 116 (.region 23 [⟨some 98,.move (.tmp 0),y0,p0,e0,none⟩,⟨some 99,.move (.tmp 14),y1,p1,e1,none⟩,⟨some 100,.move (.tmp 2),y2,p2,e2,none⟩,⟨some 101,.move (.tmp 13),y3,p3,e3,none⟩,⟨some 102,.convert 21 5 (.tmp 101),y4,p4,e4,none⟩,⟨some 103,.buildSlice 142 1 #[(0,.tmp 102)],y5,p5,e5,none⟩,⟨some 104,.call {callee:=.builtin .append,args:=#[.tmp 100,.tmp 103],argTypes:=#[142,142]},y6,p6,e6,none⟩,⟨some 105,.move (.tmp 3),y7,p7,e7,none⟩,⟨some 106,.binOp .sub 3 (.tmp 105) (.const (.int .i64 1)) 3,y8,p8,e8,none⟩,⟨some 107,.call {callee:=.value (.func 112),args:=#[.tmp 98,.tmp 99,.tmp 104,.tmp 106],argTypes:=ats},y9,p9,e9,none⟩].toArray false) (fun e1 s0=>e1=.normal/\WkS s0 ⟨fL [(107,.v (.bool r)),(0,.ptr 1000000 0 0),(1,.tree 1 (l.map ct)),(2,.v (.slice none 0 0)),(3,.v (.int .i64 ((n':Nat):Int))),(11,.v (.string key)),(12,.v (.bool b)),(13,.v (.int .i32 (32+(k:Int))))],hLz [(1000000,fnB ts most O1),(1000001,ouB O1),(1000002,jh D1)],0⟩) ⟨τ,η,1⟩:=by
 subst h3
 have h4:uA (32+(k:Int))=uA (cI (UInt8.ofNat (32+k))):=by
  unfold cI;rw[UInt8.toNat_ofNat',Nat.mod_eq_of_lt (by omega)];simp
 have h5:((n+1:Nat):Int)-1=((n:Nat):Int):=by omega
 refine wR (oL (LOp.move _) rfl rfl ?_)
 refine oL (LOp.move _) rfl rfl (oL (LOp.move _) rfl rfl ?_)
 refine oL (LOp.move _) rfl rfl (oL (ut (m:=32+(k:Int)) Tryz.underlying21 Tryz.underlying5 t13 (by omega) (by omega)) rfl rfl ?_)
 refine oW (je (u:=1) Tryz.underlying142 sz5 zr5 rfl rfl rfl rfl) rfl rfl 2 rfl (A4 (kl (u:=2) (m:=1) (news:=uA (32+(k:Int))) Tryz.underlying142 sz5 zr5 by5 rfl t2 (by decide) (Src.sl rfl rfl rfl rfl rfl) (by decide) rfl (by decide) (by decide)) rfl rfl 3 rfl rfl ?_)
 refine oL (LOp.move _) rfl rfl (oL (ur (m:=((n+1:Nat):Int)) (n:=1) t3 rfl (by omega) (by omega)) rfl rfl ?_)
 rw[h5]
 refine A4 (a8 [(1000000,1000000),(1000001,1000001),(1000002,1000002),(1000003,2)] Hn hc rfl rfl rfl rfl ⟨h0,ad8 h1,ad7 h2,ad6 (congrArg some (txcN h4)),trivial⟩ (aei rfl) (aeh rfl) rfl rfl (ago t0 t14 (slL (T:=([]:List UInt8)))) rfl Ng rfl) rfl rfl 3 rfl rfl (oN ⟨rfl,xd (cO (.cons rfl rfl (.cons t0 rfl (.cons t1 rfl (.cons t2 rfl (.cons t3 rfl (.cons t11 rfl (.cons t12 rfl (.cons t13 rfl (.nil))))))))) (.cons rfl rfl rfl (.cons rfl rfl (aa bt _ _) (.cons rfl rfl (de _ _) (.nil)))))⟩)
def Ou(M:(t:GTst)->Pat t)(ts:List GTst)(most:Nat){L:Nat}(K:Keys M ts L)(n:Nat):Prop:=∀(l:List Int) (T:List UInt8) (O D:List ByteArray),InT M ts l->T≠[]->T.length+n<=100->O.length<most->pi K D->
 Jm Tryz.prog 112 [.ptr 1000000 0 0,.tree 1 (l.map ct),.sl 1000003 0 0 T.length,.v (.int .i64 ((n:Nat):Int))] [(1000000,fnB ts most O),(1000001,ouB O),(1000002,jh D),(1000003,txK T)] (fun q h0=>∃D2,pi K D2/\q=.v (.bool (!(WS M ts n l).isEmpty))/\h0=[(1000000,some (fnB ts most (fg most O T (WS M ts n l)))),(1000001,some (ouB (fg most O T (WS M ts n l)))),(1000002,some (jh D2)),(1000003,some (txK T))])
theorem Si{O:List ByteArray}{x:ByteArray}:O.length+1=(O++[x]).length:=by simp
theorem svO{O:List ByteArray}{x:ByteArray}:some (⟨O.length+1,rF sA (O++[x]),1,Nat.beq (O++[x]).length 0⟩:Blk)=some (ouB (O++[x])):=by rw[Si (x:=x)]
theorem svF{ts:List GTst}{most:Nat}{O:List ByteArray}{x:ByteArray}:some (⟨0,[.tree 4 (ts.map tsA),.v (.int .i64 ((most:Nat):Int)),.sl 1000001 (O.length+1) 0 (O++[x]).length,.mp 1000002 0],0,false⟩:Blk)=some (fnB ts most (O++[x])):=by rw[Si (x:=x)]
theorem adq(T:List UInt8):co 0 (rF uA (T.map cI)).length (rF uA (T.map cI))=some (rF uA (T.map cI)):=by
 have:∀l:List AV,co 0 l.length l=some l:=fun l=>by
  induction l with
  |nil=>rfl
  |cons a r ih=>exact ry _
 exact this _
theorem Db{α:Type}{f:α->List AV}{q:Nat}(h:RowF f q){fp:List Nat}{η:bf}{id v n:Nat}{l:List α}(h0:id∈fp)(hb:η id=some ⟨v,rF f l,q,false⟩)(hn:n=l.length):FzP fp η (.sl id v 0 n) (.tree q (l.map f)):=by subst hn;exact FzP.rowsF h h0 hb
structure KFd where
 k:Nat
 b:Bool
 O:List ByteArray
 D:List ByteArray
theorem Ht{most:Nat}{O:List ByteArray}{T:List UInt8}(h:O.length<most):fg most O T [[]]=O++[(⟨T.toArray⟩:ByteArray)]:=by
 unfold fg
 rw[show most-O.length=(most-O.length-1)+1 by omega]
 simp[txB]
section
variable{M:(t:GTst)->Pat t}{ts:List GTst}{l:List Int}{c:Int}{n n1 k most L:Nat}{X:List Int}{T:List UInt8}{O O1 D D1:List ByteArray}{K:Keys M ts L}{b:Bool}
theorem Gl(hk:k<ts.length)(h0:InT M ts l):k<((nxS M ts l c).take k++List.replicate (l.length-k) 0).length:=by
 have:=pu (M:=M) (c:=c) h0.len
 have:=h0.len
 simp;omega
theorem B0(h0:InT M ts l)(h:X=(nxS M ts l c).take k++List.replicate (l.length-k) 0)(hk:k<ts.length){h':k<l.length}:X.set k ((M ts[k]).n l[k] c)=(nxS M ts l c).take (k+1)++List.replicate (l.length-(k+1)) 0:=by
 have e1:=pu (M:=M) (c:=c) h0.len
 have h2:k<(nxS M ts l c).length:=by omega
 have e3:((nxS M ts l c).take k).length=k:=by rw[List.length_take];omega
 rw[h,List.set_append_right _ _ (by omega),e3,show l.length-k=(l.length-(k+1))+1 by omega,List.replicate_succ,Nat.sub_self,List.set_cons_zero,ag5 h2,Ed hk h' h2]
 simp
theorem Gm(h0:InT M ts l)(h:X=(nxS M ts l c).take k++List.replicate (l.length-k) 0)(h1:k<=ts.length)(h2:¬k<ts.length):X=nxS M ts l c:=by
 have e1:=pu (M:=M) (c:=c) h0.len
 have:=h0.len
 rw[h,ahl (by omega),show l.length-k=0 by omega];simp
theorem Nc{α:Type}(a b:List α):(a++b).isEmpty=(a.isEmpty&&b.isEmpty):=by cases a<;>rfl
theorem Wz{α β:Type}(f:α->β)(a:List α):(a.map f).isEmpty=a.isEmpty:=by cases a<;>rfl
theorem Cg(hn:n=n1+1)(hb:b=!(WP M ts n1 l k).isEmpty)(hO:O1=fg most O T (WP M ts n1 l k))(hk:¬k<95)(hk2:k<=95):b=!(WS M ts n l).isEmpty/\O1=fg most O T (WS M ts n l):=by
 obtain rfl:k=95:=by omega
 subst hn;exact⟨hb,hO⟩
theorem Cf(h0:O.length<most)(hn:n=n1+1)(hb:b=!(WP M ts n1 l k).isEmpty)(hO:O1=fg most O T (WP M ts n1 l k))(hm:¬O1.length<most)(h1:k<=95):b=!(WS M ts n l).isEmpty/\O1=fg most O T (WS M ts n l):=by
 obtain⟨r,hr⟩:=T5 (M:=M) (ts:=ts) (n:=n1) (l:=l) h1
 subst hn hO
 obtain⟨e1,e2⟩:=N9 (r:=r) h0 hm
 rw[Xq,hr,<-e1]
 refine⟨?_,rfl⟩
 rw[hb,Nc]
 cases h:WP M ts n1 l k with
 |nil=>exact absurd h e2
 |cons a q=>rfl
theorem qy(hb:b=!(WP M ts n1 l k).isEmpty)(hO:O1=fg most O T (WP M ts n1 l k))(hD:pi K D1){v:Bool}(hv:(!(WS M ts n1 (nxS M ts l (32+(k:Int)))).isEmpty)=v):
 (bif v then true else b)=!(WP M ts n1 l (k+1)).isEmpty/\fg most O1 (T++[UInt8.ofNat (32+k)]) (WS M ts n1 (nxS M ts l (32+(k:Int))))=fg most O T (WP M ts n1 l (k+1))/\pi K D1:=by
 refine⟨?_,by rw[hO,N8,Fe],hD⟩
 rw[Fe,Nc,Wz,<-hv,hb]
 cases(WP M ts n1 l k).isEmpty<;>cases(WS M ts n1 (nxS M ts l (32+(k:Int)))).isEmpty<;>rfl
theorem pi.ins(h:pi K D)(hl:InT M ts l)(h1:1<=n)(h2:n<=L)(hw:WS M ts n l=[]):pi K (Ma D (K.kF l n)):=by
 unfold Ma
 cases hasS D (K.kF l n)
 ·exact h.add hl h1 h2 hw
 exact h
end
theorem by9:(Tryz.prog.info? 9).map (·.bytes)=some 16:=by kernel_rfl
theorem sz9:ap Tryz.prog 9=some 1:=by kernel_rfl
theorem zr4:bi Tryz.prog 4=some (.bool false):=by kernel_rfl
theorem zr9:bi Tryz.prog 9=some (.string ⟨#[]⟩):=by kernel_rfl
theorem Mv(M:(t:GTst)->Pat t)(ts:List GTst)(hy:FitTs ts)(hs:∀t∈ts,(M t).ok)(most:Nat)(hz:ts≠[]){L:Nat}(K:Keys M ts L)(n:Nat)(l:List Int)(T:List UInt8)(hv:T≠[])(hTl:T.length+n<=100)(O D:List ByteArray)(h4:InT M ts l)(hi:n<=L)(hL:L<=99)(hO:O.length<most)(hmo:most<=1000000)(hD:pi K D)(IH:∀m,m+1=n->Ou M ts most K m):Jm Tryz.prog 112 [.ptr 1000000 0 0,.tree 1 (l.map ct),.sl 1000003 0 0 T.length,.v (.int .i64 ((n:Nat):Int))] [(1000000,fnB ts most O),(1000001,ouB O),(1000002,jh D),(1000003,txK T)] (fun q g0=>∃D2,pi K D2/\q=.v (.bool (!(WS M ts n l).isEmpty))/\g0=[(1000000,some (fnB ts most (fg most O T (WS M ts n l)))),(1000001,some (ouB (fg most O T (WS M ts n l)))),(1000002,some (jh D2)),(1000003,some (txK T))]):=by
 have hts1:=hy.len
 have hll:=h4.len
 have g1:l.length≠0:=fun e=>hz (ahm (by omega))
 have hT0:0<T.length:=List.length_pos_iff.2 hv
 refine Jm.of_vc ik [43,45,56,58,64,72,75,94,96,100096] [23] Tryz.func112 rfl Tryz.ntmps112 rfl (by kernel_rfl) (cE (fun ht=>?_) (fun ht=>?_))
 ·obtain rfl:n=0:=by omega
  refine LenG.of (LpG.on (fun k0:Nat=>(⟨fL [(0,.ptr 1000000 0 0),(1,.tree 1 (l.map ct)),(2,.sl 1000003 0 0 T.length),(22,.tree 4 (ts.map tsA)),(23,.v (.int .i64 ((ts.length:Nat):Int))),(24,.v (.int .i64 ((k0:Nat):Int)))],hLz [(1000000,fnB ts most O),(1000001,ouB O),(1000002,jh D),(1000003,txK T)],0⟩:St)) (fun k0=>(ts.length-k0)) (fun k0=>(k0<=ts.length/\∀j (hl:j<ts.length),j<k0->∀h2:j<l.length,(M ts[j]).f l[j]=true)) 0 (cO (.cons rfl rfl (.cons rfl rfl (.cons rfl rfl (.cons rfl rfl (.cons rfl rfl (.cons rfl rfl .nil)))))) (.cons rfl rfl rfl (.cons rfl rfl (aa bt _ _) (.cons rfl rfl (de _ _) (.cons rfl rfl (aa kp _ _) .nil))))) ⟨ag6 _,fun j _ h=>absurd h (ag7 j)⟩ ?_)
  rintro k0 h5
  obtain⟨hle_k0,h6⟩:=h5
  refine cL (fun hb=>?_) (fun hge25=>?_)
  ·refine IdxG.of ‹_› (IdxG.of (by omega) ?_)
   refine ArgG.mk ((M ts[k0]).hf (hs _ (agt ‹_›)) _ (h4.mem k0 ‹_› (by omega))) rfl ?_
   rintro _ rfl
   refine⟨by kernel_rfl,cB (fun hd=>?_) (fun hd=>?_)⟩
   ·have hj:(M ts[k0]).f l[k0]=false:=by simpa using hd
    exact⟨.inr rfl,_,_,Fg.of (hb':=[(1000000,some (fnB ts most O)),(1000001,some (ouB O)),(1000002,some (jh D)),(1000003,some (txK T))]) [] (aw rfl (.cons (acn.tmp rfl) .nil)) rfl ⟨.same rfl (by decide),.same rfl (by decide),.same rfl (by decide),.same rfl (by decide),trivial⟩ .same,⟨D,hD,by rw[show WS M ts 0 l=[]from by unfold WS;rw[vy hb (by omega) hj];rfl];rfl,by rw[show WS M ts 0 l=[]from by unfold WS;rw[vy hb (by omega) hj];rfl,um]⟩⟩
   refine⟨by omega,⟨(k0+1),by omega,(cO (.cons rfl rfl (.cons rfl rfl (.cons rfl rfl (.cons rfl rfl (.cons rfl rfl (.cons rfl rfl .nil)))))) (.cons rfl rfl rfl (.cons rfl rfl (aa bt _ _) (.cons rfl rfl (de _ _) (.cons rfl rfl (aa kp _ _) .nil))))),?_⟩⟩
   refine⟨by omega,fun j hl h=>?_⟩
   rcases ag9.1 h with h|rfl
   ·exact h6 j hl h
   exact fun _=>by simpa using hd
  refine OpG.lk (yr (l:=T) Tryz.underlying142 Tryz.underlying5 Tryz.underlying9 (Src.sl rfl rfl rfl (jv (by omega)) (adq T)) (Sc T) rfl) (OpG.mk _ _ _ 1 (bh bt (l:=O) (a:=(⟨T.toArray⟩:ByteArray)) Tryz.underlying121 sz9 zr9 by9 rfl rfl rfl (ce rfl rfl rfl rfl) rfl (by omega) (by omega) (by unfold TV;omega)) rfl rfl ?_)
  refine⟨by kernel_rfl,⟨.inr rfl,_,_,Fg.of (hb':=[(1000000,some (fnB ts most (O++[(⟨T.toArray⟩:ByteArray)]))),(1000001,some (ouB (O++[(⟨T.toArray⟩:ByteArray)]))),(1000002,some (jh D)),(1000003,some (txK T))]) [] (aw rfl (.cons (acn.tmp rfl) .nil)) rfl ⟨.same svF (by decide),.same svO (by decide),.same rfl (by decide),.same rfl (by decide),trivial⟩ .same,?_⟩⟩
  exact⟨D,hD,by rw[show WS M ts 0 l=[[]]from by unfold WS;rw[vz (fun k h h'=>h6 k h (by omega) h')];rfl];rfl,by rw[show WS M ts 0 l=[[]]from by unfold WS;rw[vz (fun k h h'=>h6 k h (by omega) h')];rfl,Ht hO]⟩
 obtain⟨n1,hr⟩:∃m,n=m+1:=⟨n-1,by omega⟩
 refine ArgG.mk (K.hk l n h4 (by omega) hi) rfl ?_
 rintro _ rfl
 refine OpG.lk (LOp.hasS (L:=D) (k:=K.kF l n) Tryz.underlying220 Tryz.underlying9 zr4 rfl rfl rfl) (cB (fun he=>?_) (fun he=>?_))
 ·exact⟨.inr rfl,_,_,Fg.of (hb':=[(1000000,some (fnB ts most O)),(1000001,some (ouB O)),(1000002,some (jh D)),(1000003,some (txK T))]) [] (aw rfl (.cons (acn.tmp rfl) .nil)) rfl ⟨.same rfl (by decide),.same rfl (by decide),.same rfl (by decide),.same rfl (by decide),trivial⟩ .same,⟨D,hD,by rw[hD.hit h4 (by omega) hi he];rfl,by rw[hD.hit h4 (by omega) hi he,um]⟩⟩
 refine LpG.on (fun k2:KFd=>(⟨fL [(0,.ptr 1000000 0 0),(1,.tree 1 (l.map ct)),(2,.sl 1000003 0 0 T.length),(3,.v (.int .i64 ((n:Nat):Int))),(11,.v (.string (K.kF l n))),(12,.v (.bool k2.b)),(13,.v (.int .i32 (32+(k2.k:Int))))],hLz [(1000000,fnB ts most k2.O),(1000001,ouB k2.O),(1000002,jh k2.D),(1000003,txK T)],0⟩:St)) (fun k2=>(95-k2.k)) (fun k2=>(k2.k<=95/\(k2.b=!(WP M ts n1 l k2.k).isEmpty/\k2.O=fg most O T (WP M ts n1 l k2.k)/\pi K k2.D))) (⟨0,false,O,D⟩:KFd) (cO (.cons rfl rfl (.cons rfl rfl (.cons rfl rfl (.cons rfl rfl (.cons rfl rfl (.cons rfl rfl (.cons rfl rfl .nil))))))) (.cons rfl rfl rfl (.cons rfl rfl (aa bt _ _) (.cons rfl rfl (de _ _) (.cons rfl rfl (aa kp _ _) .nil))))) ⟨ag6 _,⟨rfl,um.symm,hD⟩⟩ ?_
 rintro k2 h5
 obtain⟨h7,h0⟩:=h5
 refine OpG.lk (LOp.cmpI rfl rfl rfl) (cB (fun hg=>?_) (fun hg=>?_))
 ·have h8:k2.k<95:=by have h:=ag4 hg;omega
  refine OpG.lk (bo rfl Tryz.underlying121 rfl rfl rfl) ⟨by kernel_rfl,cL (fun hm=>?_) (fun ho=>?_)⟩
  ·refine LenG.of (OpG.nw (oc (len:=l.length) bz 0 Tryz.underlying67 fa tt Ct rfl rfl rfl rfl rfl (by omega) (by omega) g1) rfl ?_)
   refine LenG.of (LpG.on (fun k4:KL Int=>(⟨fL [(0,.ptr 1000000 0 0),(1,.tree 1 (l.map ct)),(2,.sl 1000003 0 0 T.length),(3,.v (.int .i64 ((n:Nat):Int))),(11,.v (.string (K.kF l n))),(12,.v (.bool k2.b)),(13,.v (.int .i32 (32+(k2.k:Int)))),(14,.sl 0 0 0 l.length),(79,.tree 4 (ts.map tsA)),(80,.v (.int .i64 ((ts.length:Nat):Int))),(81,.v (.int .i64 ((k4.k:Nat):Int)))],hLz [(0,⟨0,rF ct k4.L,1,false⟩),(1000000,fnB ts most k2.O),(1000001,ouB k2.O),(1000002,jh k2.D),(1000003,txK T)],1⟩:St)) (fun k4=>(ts.length-k4.k)) (fun k4=>(k4.k<=ts.length/\k4.L=((nxS M ts l (32+(k2.k:Int)))).take k4.k++List.replicate (l.length-k4.k) 0)) (⟨0,List.replicate l.length 0⟩:KL Int) (cO (.cons rfl rfl (.cons rfl rfl (.cons rfl rfl (.cons rfl rfl (.cons rfl rfl (.cons rfl rfl (.cons rfl rfl (.cons rfl rfl (.cons rfl rfl (.cons rfl rfl (.cons rfl rfl .nil))))))))))) (.cons rfl rfl (aa bz _ _) (.cons rfl rfl rfl (.cons rfl rfl (aa bt _ _) (.cons rfl rfl (de _ _) (.cons rfl rfl (aa kp _ _) .nil)))))) ⟨ag6 _,by simp⟩ ?_)
   rintro k4 h5
   obtain⟨hh,h9⟩:=h5
   refine cL (fun hp=>?_) (fun hq=>?_)
   ·have hk4l:k4.k<l.length:=by omega
    refine IdxG.of ‹_› (IdxG.of ‹_› ?_)
    refine OpG.lk (ut (m:=32+(k2.k:Int)) Tryz.underlying21 Tryz.underlying5 rfl (by omega) (by omega)) (ArgG.mk (((M ts[k4.k]).hn (hs _ (agt ‹_›)) _ (h4.mem k4.k ‹_› (by omega)) k2.k h8).1) rfl ?_)
    rintro _ rfl
    refine OpG.lk (fh (i:=k4.k) Tryz.underlying67 fa rfl rfl rfl (by omega) rfl) (OpG.wr (iq bz fa rfl rfl rfl rfl rfl rfl (by rw[h9];exact Gl (by omega) h4)) rfl ?_)
    refine⟨by kernel_rfl,⟨by omega,?_⟩⟩
    refine⟨(⟨k4.k+1,k4.L.set k4.k ((M ts[k4.k]).n l[k4.k] (32+(k2.k:Int)))⟩:KL Int),(by show ts.length-(k4.k+1)<ts.length-k4.k;omega),(cO (.cons rfl rfl (.cons rfl rfl (.cons rfl rfl (.cons rfl rfl (.cons rfl rfl (.cons rfl rfl (.cons rfl rfl (.cons rfl rfl (.cons rfl rfl (.cons rfl rfl (.cons rfl rfl .nil))))))))))) (.cons rfl rfl (aa bz _ _) (.cons rfl rfl rfl (.cons rfl rfl (aa bt _ _) (.cons rfl rfl (de _ _) (.cons rfl rfl (aa kp _ _) .nil)))))),⟨by show k4.k+1<=_;omega,?_⟩⟩
    exact B0 h4 h9 hp
   have hc:k4.L=(nxS M ts l (32+(k2.k:Int))):=Gm h4 h9 hh hq
   refine RegG.via (fun _ h=>br [0] 14 (.tree 1 (k4.L.map ct)) (Db bz (agy.2 rfl) rfl (by rw[hc,pu h4.len,h4.len])) rfl h) ?_
   rw[hc]
   obtain⟨_,_,⟨D1,hx,rfl,rfl⟩,g3⟩:=IH n1 hr.symm (nxS M ts l (32+(k2.k:Int))) (T++[UInt8.ofNat (32+k2.k)]) k2.O k2.D (h4.nx hs h8) (by simp) (by simp;omega) hm h0.2.2
   refine Oe (Zh (k:=k2.k) (b:=k2.b) (key:=K.kF l n) (l:=l) rfl rfl rfl rfl rfl rfl rfl rfl rfl rfl rfl rfl hv (by omega) h8 hr (by omega) g3) (cB (fun ha=>?_) (fun ha=>?_))
   ·refine OpG.lk (o6 (m:=32+(k2.k:Int)) (n:=1) rfl rfl (by omega) (by omega)) ⟨(⟨k2.k+1,true,fg most k2.O (T++[UInt8.ofNat (32+k2.k)]) (WS M ts n1 (nxS M ts l (32+(k2.k:Int)))),D1⟩:KFd),(by show 95-(k2.k+1)<95-k2.k;omega),(cO (.cons rfl rfl (.cons rfl rfl (.cons rfl rfl (.cons rfl rfl (.cons rfl rfl (.cons rfl rfl (.cons rfl rfl .nil))))))) (.cons rfl rfl rfl (.cons rfl rfl (aa bt _ _) (.cons rfl rfl (de _ _) (.cons rfl rfl (aa kp _ _) .nil))))),⟨by show k2.k+1<=_;omega,?_⟩⟩
    exact qy h0.1 h0.2.1 hx ha
   refine OpG.lk (o6 (m:=32+(k2.k:Int)) (n:=1) rfl rfl (by omega) (by omega)) ⟨(⟨k2.k+1,k2.b,fg most k2.O (T++[UInt8.ofNat (32+k2.k)]) (WS M ts n1 (nxS M ts l (32+(k2.k:Int)))),D1⟩:KFd),(by show 95-(k2.k+1)<95-k2.k;omega),(cO (.cons rfl rfl (.cons rfl rfl (.cons rfl rfl (.cons rfl rfl (.cons rfl rfl (.cons rfl rfl (.cons rfl rfl .nil))))))) (.cons rfl rfl rfl (.cons rfl rfl (aa bt _ _) (.cons rfl rfl (de _ _) (.cons rfl rfl (aa kp _ _) .nil))))),⟨by show k2.k+1<=_;omega,?_⟩⟩
   exact qy h0.1 h0.2.1 hx ha
  have h1:=Cf hO hr h0.1 h0.2.1 ho h7
  refine cB (fun h3=>?_) (fun h3=>?_)
  ·refine OpG.wr (uu (k:=K.kF l n) (L:=k2.D) Tryz.underlying220 Tryz.underlying9 rfl rfl rfl rfl) rfl ⟨.inr rfl,_,_,Fg.of (hb':=[(1000000,some (fnB ts most k2.O)),(1000001,some (ouB k2.O)),(1000002,some (jh (Ma k2.D (K.kF l n)))),(1000003,some (txK T))]) [] (aw rfl (.cons (acn.tmp rfl) .nil)) rfl ⟨.same rfl (by decide),.same rfl (by decide),.same rfl (by decide),.same rfl (by decide),trivial⟩ .same,?_⟩
   have hu:k2.b=false:=by simpa using h3
   have hw:WS M ts n l=[]:=by have h:=h1.1;rw[hu]at h;exact List.isEmpty_iff.1 (by simpa using h.symm)
   exact⟨_,h0.2.2.ins h4 (by omega) hi hw,congrArg (fun z=>AV.v (.bool z)) h1.1,by rw[<-h1.2]⟩
  exact⟨.inr rfl,_,_,Fg.of (hb':=[(1000000,some (fnB ts most k2.O)),(1000001,some (ouB k2.O)),(1000002,some (jh k2.D)),(1000003,some (txK T))]) [] (aw rfl (.cons (acn.tmp rfl) .nil)) rfl ⟨.same rfl (by decide),.same rfl (by decide),.same rfl (by decide),.same rfl (by decide),trivial⟩ .same,⟨_,h0.2.2,congrArg (fun z=>AV.v (.bool z)) h1.1,by rw[<-h1.2]⟩⟩
 have h8:¬k2.k<95:=by have h:=ag3 hg;omega
 have h1:=Cg hr h0.1 h0.2.1 h8 h7
 refine⟨by kernel_rfl,cF ?_⟩
 refine cB (fun h3=>?_) (fun h3=>?_)
 ·refine OpG.wr (uu (k:=K.kF l n) (L:=k2.D) Tryz.underlying220 Tryz.underlying9 rfl rfl rfl rfl) rfl ⟨.inr rfl,_,_,Fg.of (hb':=[(1000000,some (fnB ts most k2.O)),(1000001,some (ouB k2.O)),(1000002,some (jh (Ma k2.D (K.kF l n)))),(1000003,some (txK T))]) [] (aw rfl (.cons (acn.tmp rfl) .nil)) rfl ⟨.same rfl (by decide),.same rfl (by decide),.same rfl (by decide),.same rfl (by decide),trivial⟩ .same,?_⟩
  have hu:k2.b=false:=by simpa using h3
  have hw:WS M ts n l=[]:=by have h:=h1.1;rw[hu]at h;exact List.isEmpty_iff.1 (by simpa using h.symm)
  exact⟨_,h0.2.2.ins h4 (by omega) hi hw,congrArg (fun z=>AV.v (.bool z)) h1.1,by rw[<-h1.2]⟩
 exact⟨.inr rfl,_,_,Fg.of (hb':=[(1000000,some (fnB ts most k2.O)),(1000001,some (ouB k2.O)),(1000002,some (jh k2.D)),(1000003,some (txK T))]) [] (aw rfl (.cons (acn.tmp rfl) .nil)) rfl ⟨.same rfl (by decide),.same rfl (by decide),.same rfl (by decide),.same rfl (by decide),trivial⟩ .same,⟨_,h0.2.2,congrArg (fun z=>AV.v (.bool z)) h1.1,by rw[<-h1.2]⟩⟩
theorem Wn(M:(t:GTst)->Pat t)(ts:List GTst)(hx:FitTs ts)(hs:∀t∈ts,(M t).ok)(most:Nat)(hy:ts≠[]){L:Nat}(K:Keys M ts L)(n:Nat)(l:List Int)(O D:List ByteArray)(h4:InT M ts l)(hi:n<=L)(hL:L<=99)(hO:O.length<most)(hmo:most<=1000000)(hD:pi K D)(IH:∀m,m+1=n->Ou M ts most K m):Jm Tryz.prog 112 [.ptr 1000000 0 0,.tree 1 (l.map ct),.v (.slice none 0 0),.v (.int .i64 ((n:Nat):Int))] [(1000000,fnB ts most O),(1000001,ouB O),(1000002,jh D)] (fun q hz=>∃D2,pi K D2/\q=.v (.bool (!(WS M ts n l).isEmpty))/\hz=[(1000000,some (fnB ts most (fg most O ([]:List UInt8) (WS M ts n l)))),(1000001,some (ouB (fg most O ([]:List UInt8) (WS M ts n l)))),(1000002,some (jh D2))]):=by
 have hts1:=hx.len
 have hll:=h4.len
 have g0:l.length≠0:=fun e=>hy (ahm (by omega))
 refine Jm.of_vc ik [43,45,56,58,64,72,75,94,96,100096] [23] Tryz.func112 rfl Tryz.ntmps112 rfl (by kernel_rfl) (cE (fun ht=>?_) (fun ht=>?_))
 ·obtain rfl:n=0:=by omega
  refine LenG.of (LpG.on (fun k0:Nat=>(⟨fL [(0,.ptr 1000000 0 0),(1,.tree 1 (l.map ct)),(2,.v (.slice none 0 0)),(22,.tree 4 (ts.map tsA)),(23,.v (.int .i64 ((ts.length:Nat):Int))),(24,.v (.int .i64 ((k0:Nat):Int)))],hLz [(1000000,fnB ts most O),(1000001,ouB O),(1000002,jh D)],0⟩:St)) (fun k0=>(ts.length-k0)) (fun k0=>(k0<=ts.length/\∀j (hl:j<ts.length),j<k0->∀h2:j<l.length,(M ts[j]).f l[j]=true)) 0 (cO (.cons rfl rfl (.cons rfl rfl (.cons rfl rfl (.cons rfl rfl (.cons rfl rfl (.cons rfl rfl .nil)))))) (.cons rfl rfl rfl (.cons rfl rfl (aa bt _ _) (.cons rfl rfl (de _ _) .nil)))) ⟨ag6 _,fun j _ h=>absurd h (ag7 j)⟩ ?_)
  rintro k0 h5
  obtain⟨hle_k0,h6⟩:=h5
  refine cL (fun hb=>?_) (fun hge25=>?_)
  ·refine IdxG.of ‹_› (IdxG.of (by omega) ?_)
   refine ArgG.mk ((M ts[k0]).hf (hs _ (agt ‹_›)) _ (h4.mem k0 ‹_› (by omega))) rfl ?_
   rintro _ rfl
   refine⟨by kernel_rfl,cB (fun hd=>?_) (fun hd=>?_)⟩
   ·have hj:(M ts[k0]).f l[k0]=false:=by simpa using hd
    exact⟨.inr rfl,_,_,Fg.of (hb':=[(1000000,some (fnB ts most O)),(1000001,some (ouB O)),(1000002,some (jh D))]) [] (aw rfl (.cons (acn.tmp rfl) .nil)) rfl ⟨.same rfl (by decide),.same rfl (by decide),.same rfl (by decide),trivial⟩ .same,⟨D,hD,by rw[show WS M ts 0 l=[]from by unfold WS;rw[vy hb (by omega) hj];rfl];rfl,by rw[show WS M ts 0 l=[]from by unfold WS;rw[vy hb (by omega) hj];rfl,um]⟩⟩
   refine⟨by omega,⟨(k0+1),by omega,(cO (.cons rfl rfl (.cons rfl rfl (.cons rfl rfl (.cons rfl rfl (.cons rfl rfl (.cons rfl rfl .nil)))))) (.cons rfl rfl rfl (.cons rfl rfl (aa bt _ _) (.cons rfl rfl (de _ _) .nil)))),?_⟩⟩
   refine⟨by omega,fun j hl h=>?_⟩
   rcases ag9.1 h with h|rfl
   ·exact h6 j hl h
   exact fun _=>by simpa using hd
  refine OpG.lk (lP rfl (fun _ _ h=>by cases h) (fun w=>rfl)) (OpG.mk _ _ _ 1 (bh bt (l:=O) (a:=(⟨([]:List UInt8).toArray⟩:ByteArray)) Tryz.underlying121 sz9 zr9 by9 rfl rfl rfl (ce rfl rfl rfl rfl) rfl (by omega) (by omega) (by unfold TV;omega)) rfl rfl ?_)
  refine⟨by kernel_rfl,⟨.inr rfl,_,_,Fg.of (hb':=[(1000000,some (fnB ts most (O++[(⟨([]:List UInt8).toArray⟩:ByteArray)]))),(1000001,some (ouB (O++[(⟨([]:List UInt8).toArray⟩:ByteArray)]))),(1000002,some (jh D))]) [] (aw rfl (.cons (acn.tmp rfl) .nil)) rfl ⟨.same svF (by decide),.same svO (by decide),.same rfl (by decide),trivial⟩ .same,?_⟩⟩
  exact⟨D,hD,by rw[show WS M ts 0 l=[[]]from by unfold WS;rw[vz (fun k h h'=>h6 k h (by omega) h')];rfl];rfl,by rw[show WS M ts 0 l=[[]]from by unfold WS;rw[vz (fun k h h'=>h6 k h (by omega) h')];rfl,Ht hO]⟩
 obtain⟨n1,hr⟩:∃m,n=m+1:=⟨n-1,by omega⟩
 refine ArgG.mk (K.hk l n h4 (by omega) hi) rfl ?_
 rintro _ rfl
 refine OpG.lk (LOp.hasS (L:=D) (k:=K.kF l n) Tryz.underlying220 Tryz.underlying9 zr4 rfl rfl rfl) (cB (fun he=>?_) (fun he=>?_))
 ·exact⟨.inr rfl,_,_,Fg.of (hb':=[(1000000,some (fnB ts most O)),(1000001,some (ouB O)),(1000002,some (jh D))]) [] (aw rfl (.cons (acn.tmp rfl) .nil)) rfl ⟨.same rfl (by decide),.same rfl (by decide),.same rfl (by decide),trivial⟩ .same,⟨D,hD,by rw[hD.hit h4 (by omega) hi he];rfl,by rw[hD.hit h4 (by omega) hi he,um]⟩⟩
 refine LpG.on (fun k2:KFd=>(⟨fL [(0,.ptr 1000000 0 0),(1,.tree 1 (l.map ct)),(2,.v (.slice none 0 0)),(3,.v (.int .i64 ((n:Nat):Int))),(11,.v (.string (K.kF l n))),(12,.v (.bool k2.b)),(13,.v (.int .i32 (32+(k2.k:Int))))],hLz [(1000000,fnB ts most k2.O),(1000001,ouB k2.O),(1000002,jh k2.D)],0⟩:St)) (fun k2=>(95-k2.k)) (fun k2=>(k2.k<=95/\(k2.b=!(WP M ts n1 l k2.k).isEmpty/\k2.O=fg most O ([]:List UInt8) (WP M ts n1 l k2.k)/\pi K k2.D))) (⟨0,false,O,D⟩:KFd) (cO (.cons rfl rfl (.cons rfl rfl (.cons rfl rfl (.cons rfl rfl (.cons rfl rfl (.cons rfl rfl (.cons rfl rfl .nil))))))) (.cons rfl rfl rfl (.cons rfl rfl (aa bt _ _) (.cons rfl rfl (de _ _) .nil)))) ⟨ag6 _,⟨rfl,um.symm,hD⟩⟩ ?_
 rintro k2 h5
 obtain⟨h7,h0⟩:=h5
 refine OpG.lk (LOp.cmpI rfl rfl rfl) (cB (fun hg=>?_) (fun hg=>?_))
 ·have h8:k2.k<95:=by have h:=ag4 hg;omega
  refine OpG.lk (bo rfl Tryz.underlying121 rfl rfl rfl) ⟨by kernel_rfl,cL (fun hm=>?_) (fun ho=>?_)⟩
  ·refine LenG.of (OpG.nw (oc (len:=l.length) bz 0 Tryz.underlying67 fa tt Ct rfl rfl rfl rfl rfl (by omega) (by omega) g0) rfl ?_)
   refine LenG.of (LpG.on (fun k4:KL Int=>(⟨fL [(0,.ptr 1000000 0 0),(1,.tree 1 (l.map ct)),(2,.v (.slice none 0 0)),(3,.v (.int .i64 ((n:Nat):Int))),(11,.v (.string (K.kF l n))),(12,.v (.bool k2.b)),(13,.v (.int .i32 (32+(k2.k:Int)))),(14,.sl 0 0 0 l.length),(79,.tree 4 (ts.map tsA)),(80,.v (.int .i64 ((ts.length:Nat):Int))),(81,.v (.int .i64 ((k4.k:Nat):Int)))],hLz [(0,⟨0,rF ct k4.L,1,false⟩),(1000000,fnB ts most k2.O),(1000001,ouB k2.O),(1000002,jh k2.D)],1⟩:St)) (fun k4=>(ts.length-k4.k)) (fun k4=>(k4.k<=ts.length/\k4.L=((nxS M ts l (32+(k2.k:Int)))).take k4.k++List.replicate (l.length-k4.k) 0)) (⟨0,List.replicate l.length 0⟩:KL Int) (cO (.cons rfl rfl (.cons rfl rfl (.cons rfl rfl (.cons rfl rfl (.cons rfl rfl (.cons rfl rfl (.cons rfl rfl (.cons rfl rfl (.cons rfl rfl (.cons rfl rfl (.cons rfl rfl .nil))))))))))) (.cons rfl rfl (aa bz _ _) (.cons rfl rfl rfl (.cons rfl rfl (aa bt _ _) (.cons rfl rfl (de _ _) .nil))))) ⟨ag6 _,by simp⟩ ?_)
   rintro k4 h5
   obtain⟨hh,h9⟩:=h5
   refine cL (fun hp=>?_) (fun hq=>?_)
   ·have hk4l:k4.k<l.length:=by omega
    refine IdxG.of ‹_› (IdxG.of ‹_› ?_)
    refine OpG.lk (ut (m:=32+(k2.k:Int)) Tryz.underlying21 Tryz.underlying5 rfl (by omega) (by omega)) (ArgG.mk (((M ts[k4.k]).hn (hs _ (agt ‹_›)) _ (h4.mem k4.k ‹_› (by omega)) k2.k h8).1) rfl ?_)
    rintro _ rfl
    refine OpG.lk (fh (i:=k4.k) Tryz.underlying67 fa rfl rfl rfl (by omega) rfl) (OpG.wr (iq bz fa rfl rfl rfl rfl rfl rfl (by rw[h9];exact Gl (by omega) h4)) rfl ?_)
    refine⟨by kernel_rfl,⟨by omega,?_⟩⟩
    refine⟨(⟨k4.k+1,k4.L.set k4.k ((M ts[k4.k]).n l[k4.k] (32+(k2.k:Int)))⟩:KL Int),(by show ts.length-(k4.k+1)<ts.length-k4.k;omega),(cO (.cons rfl rfl (.cons rfl rfl (.cons rfl rfl (.cons rfl rfl (.cons rfl rfl (.cons rfl rfl (.cons rfl rfl (.cons rfl rfl (.cons rfl rfl (.cons rfl rfl (.cons rfl rfl .nil))))))))))) (.cons rfl rfl (aa bz _ _) (.cons rfl rfl rfl (.cons rfl rfl (aa bt _ _) (.cons rfl rfl (de _ _) .nil))))),⟨by show k4.k+1<=_;omega,?_⟩⟩
    exact B0 h4 h9 hp
   have hc:k4.L=(nxS M ts l (32+(k2.k:Int))):=Gm h4 h9 hh hq
   refine RegG.via (fun _ h=>br [0] 14 (.tree 1 (k4.L.map ct)) (Db bz (agy.2 rfl) rfl (by rw[hc,pu h4.len,h4.len])) rfl h) ?_
   rw[hc]
   obtain⟨_,_,⟨D1,hv,rfl,rfl⟩,g2⟩:=IH n1 hr.symm (nxS M ts l (32+(k2.k:Int))) (([]:List UInt8)++[UInt8.ofNat (32+k2.k)]) k2.O k2.D (h4.nx hs h8) (by simp) (by simp;omega) hm h0.2.2
   refine Oe (Zg (k:=k2.k) (b:=k2.b) (key:=K.kF l n) (l:=l) rfl rfl rfl rfl rfl rfl rfl rfl rfl rfl rfl h8 hr (by omega) g2) (cB (fun ha=>?_) (fun ha=>?_))
   ·refine OpG.lk (o6 (m:=32+(k2.k:Int)) (n:=1) rfl rfl (by omega) (by omega)) ⟨(⟨k2.k+1,true,fg most k2.O (([]:List UInt8)++[UInt8.ofNat (32+k2.k)]) (WS M ts n1 (nxS M ts l (32+(k2.k:Int)))),D1⟩:KFd),(by show 95-(k2.k+1)<95-k2.k;omega),(cO (.cons rfl rfl (.cons rfl rfl (.cons rfl rfl (.cons rfl rfl (.cons rfl rfl (.cons rfl rfl (.cons rfl rfl .nil))))))) (.cons rfl rfl rfl (.cons rfl rfl (aa bt _ _) (.cons rfl rfl (de _ _) .nil)))),⟨by show k2.k+1<=_;omega,?_⟩⟩
    exact qy h0.1 h0.2.1 hv ha
   refine OpG.lk (o6 (m:=32+(k2.k:Int)) (n:=1) rfl rfl (by omega) (by omega)) ⟨(⟨k2.k+1,k2.b,fg most k2.O (([]:List UInt8)++[UInt8.ofNat (32+k2.k)]) (WS M ts n1 (nxS M ts l (32+(k2.k:Int)))),D1⟩:KFd),(by show 95-(k2.k+1)<95-k2.k;omega),(cO (.cons rfl rfl (.cons rfl rfl (.cons rfl rfl (.cons rfl rfl (.cons rfl rfl (.cons rfl rfl (.cons rfl rfl .nil))))))) (.cons rfl rfl rfl (.cons rfl rfl (aa bt _ _) (.cons rfl rfl (de _ _) .nil)))),⟨by show k2.k+1<=_;omega,?_⟩⟩
   exact qy h0.1 h0.2.1 hv ha
  have h1:=Cf hO hr h0.1 h0.2.1 ho h7
  refine cB (fun h3=>?_) (fun h3=>?_)
  ·refine OpG.wr (uu (k:=K.kF l n) (L:=k2.D) Tryz.underlying220 Tryz.underlying9 rfl rfl rfl rfl) rfl ⟨.inr rfl,_,_,Fg.of (hb':=[(1000000,some (fnB ts most k2.O)),(1000001,some (ouB k2.O)),(1000002,some (jh (Ma k2.D (K.kF l n))))]) [] (aw rfl (.cons (acn.tmp rfl) .nil)) rfl ⟨.same rfl (by decide),.same rfl (by decide),.same rfl (by decide),trivial⟩ .same,?_⟩
   have hu:k2.b=false:=by simpa using h3
   have hw:WS M ts n l=[]:=by have h:=h1.1;rw[hu]at h;exact List.isEmpty_iff.1 (by simpa using h.symm)
   exact⟨_,h0.2.2.ins h4 (by omega) hi hw,congrArg (fun z=>AV.v (.bool z)) h1.1,by rw[<-h1.2]⟩
  exact⟨.inr rfl,_,_,Fg.of (hb':=[(1000000,some (fnB ts most k2.O)),(1000001,some (ouB k2.O)),(1000002,some (jh k2.D))]) [] (aw rfl (.cons (acn.tmp rfl) .nil)) rfl ⟨.same rfl (by decide),.same rfl (by decide),.same rfl (by decide),trivial⟩ .same,⟨_,h0.2.2,congrArg (fun z=>AV.v (.bool z)) h1.1,by rw[<-h1.2]⟩⟩
 have h8:¬k2.k<95:=by have h:=ag3 hg;omega
 have h1:=Cg hr h0.1 h0.2.1 h8 h7
 refine⟨by kernel_rfl,cF ?_⟩
 refine cB (fun h3=>?_) (fun h3=>?_)
 ·refine OpG.wr (uu (k:=K.kF l n) (L:=k2.D) Tryz.underlying220 Tryz.underlying9 rfl rfl rfl rfl) rfl ⟨.inr rfl,_,_,Fg.of (hb':=[(1000000,some (fnB ts most k2.O)),(1000001,some (ouB k2.O)),(1000002,some (jh (Ma k2.D (K.kF l n))))]) [] (aw rfl (.cons (acn.tmp rfl) .nil)) rfl ⟨.same rfl (by decide),.same rfl (by decide),.same rfl (by decide),trivial⟩ .same,?_⟩
  have hu:k2.b=false:=by simpa using h3
  have hw:WS M ts n l=[]:=by have h:=h1.1;rw[hu]at h;exact List.isEmpty_iff.1 (by simpa using h.symm)
  exact⟨_,h0.2.2.ins h4 (by omega) hi hw,congrArg (fun z=>AV.v (.bool z)) h1.1,by rw[<-h1.2]⟩
 exact⟨.inr rfl,_,_,Fg.of (hb':=[(1000000,some (fnB ts most k2.O)),(1000001,some (ouB k2.O)),(1000002,some (jh k2.D))]) [] (aw rfl (.cons (acn.tmp rfl) .nil)) rfl ⟨.same rfl (by decide),.same rfl (by decide),.same rfl (by decide),trivial⟩ .same,⟨_,h0.2.2,congrArg (fun z=>AV.v (.bool z)) h1.1,by rw[<-h1.2]⟩⟩
section
variable{ts:List GTst}{most:Nat}{O D:List ByteArray}
theorem okB3:Dp (fun p:Nat×Blk=>zq [1000000,1000001,1000002] p.2) [(1000000,fnB ts most O),(1000001,ouB O),(1000002,jh D)]:=⟨⟨rfl,.inl rfl⟩,av bt,K9,trivial⟩
theorem okO3:Dp (fun p:Nat×Option Blk=>okO [1000000,1000001,1000002] p.2) [(1000000,some (fnB ts most O)),(1000001,some (ouB O)),(1000002,some (jh D))]:=⟨rfl,au bt _ _,Ei _ _ _,trivial⟩
theorem Tp:d6 [(1000000,1),(1000001,2),(1000002,0)] [(1000000,some (fnB ts most O)),(1000001,some (ouB O)),(1000002,some (jh D))]=[(1,some ⟨0,[.tree 4 (ts.map tsA),.v (.int .i64 ((most:Nat):Int)),.sl 2 (O).length 0 (O).length,.mp 0 0],0,false⟩),(2,some (ouB O)),(0,some (jh D))]:=by
 simp only[d6,ahh,List.map_nil,ahp,cv bt,zv]
 rfl
end
theorem G2(M:(t:GTst)->Pat t)(ts:List GTst)(h0:FitTs ts)(h1:∀t∈ts,(M t).ok)(most:Nat)(h2:ts≠[]){L:Nat}(K:Keys M ts L)(hL:L<=99)(h3:most<=1000000):∀n,n<=L->Ou M ts most K n
 |0,hn=>fun l T O D h4 hT hl hO hD=>Mv M ts h0 h1 most h2 K 0 l T hT hl O D h4 hn hL hO h3 hD (fun m h=>absurd h (Nat.succ_ne_zero m))
 |n+1,hn=>fun l T O D h4 hT hl hO hD=>Mv M ts h0 h1 most h2 K (n+1) l T hT hl O D h4 hn hL hO h3 hD (fun m h=>by
  obtain rfl:m=n:=by omega
  exact G2 M ts h0 h1 most h2 K hL h3 m (by omega))
theorem afx{M:(t:GTst)->Pat t}{ts:List GTst}{L:Nat}{K:Keys M ts L}:pi K []:=fun _ h=>absurd h (by simp)
theorem aca:bv Tryz.prog 113=true:=by kernel_rfl
theorem Ue(M:(t:GTst)->Pat t)(ts:List GTst)(h2:FitTs ts)(h1:∀t∈ts,(M t).ok)(n most:Nat)(h6:ts≠[]){L:Nat}(K:Keys M ts L)(hL:L<=99)(h7:most<=1000000)(hm1:1<=most)(h8:n<=L):PRet Tryz.prog 90 [.tree 4 (ts.map tsA),.v (.int .i64 ((n:Nat):Int)),.v (.int .i64 ((most:Nat):Int))] (fun q=>q=.tree 1 ((fg most [] [] (WS M ts n (ts.map fun t=>(M t).s0))).map sA)):=by
 refine ovT [16,21,23] [4] Tryz.func90 rfl rfl (cB (fun h0=>?_) (fun h0=>?_))
 ·have hlt10:n<0:=Int.ofNat_lt.1 (ag4 h0)
  exfalso;have h:=ag4 h0;omega
 have hge10:¬n<0:=fun h=>ag3 h0 (Int.ofNat_lt.2 h)
 refine cD (fun h3=>?_) (fun h3=>?_)
 ·exfalso;omega
 refine OpG.nw (LOp.makeMap 0) rfl (RegG.via (fun _ h=>dc 1 2 1 rfl rfl rfl rfl rfl 3 rfl h) ?_)
 refine ba ?_
 obtain⟨_,rfl,h4⟩:=Qu M ts h2 h1 most [] []
 refine OpG.mk _ _ _ 3 (a8 [(1000000,1),(1000001,2),(1000002,0)] aca h4 rfl rfl rfl rfl ⟨rfl,rfl,rfl,trivial⟩ okB3 okO3 rfl rfl rfl rfl Tp rfl) rfl rfl ?_
 obtain⟨_,_,⟨D2,hD2,rfl,rfl⟩,h5⟩:=Wn M ts h2 h1 most h6 K n (ts.map fun t=>(M t).s0) [] [] (Ot h1) h8 hL (by show 0<most;omega) h7 afx (fun m h=>G2 M ts h2 h1 most h6 K hL h7 m (by omega))
 refine OpG.mk _ _ _ 3 (a8 [(1000000,1),(1000001,2),(1000002,0)] Hn h5 rfl rfl rfl rfl ⟨rfl,rfl,rfl,trivial⟩ okB3 okO3 rfl rfl rfl rfl Tp rfl) rfl rfl ⟨.inr rfl,_,Og.tmp rfl ⟨[2],FzP.rows bt (agy.2 rfl) rfl⟩,?_⟩
 rfl
end Go.Proofs.YtmbmbhkemgmhfaaGreatDoor
