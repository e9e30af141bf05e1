/- Texts of the claim. -/
import Derived.Test.YtmbmbhkemgmhfaaGreatDoorGG
import Derived.Test.YtmbmbhkemgmhfaaGreatDoorT8
import Derived.Test.YtmbmbhkemgmhfaaGreatDoorT6
import Derived.Test.YtmbmbhkemgmhfaaGreatDoorQ2
namespace Go.Proofs.YtmbmbhkemgmhfaaGreatDoor
set_option maxRecDepth 1000000
set_option maxHeartbeats 0
set_option linter.unusedVariables false
set_option linter.unusedSimpArgs false
open Go.RowKit
theorem mixB:Tryz.prog.follows .mixedOrders=true:=by kernel_rfl
noncomputable def runB(f:Nat)(ys:List AV):Option AV:=Ps Tryz.prog (fun _=>false) (fun _ _=>none) (kh Tryz.prog) (fun _=>false) 1000 20 f ys
theorem ll{f:Nat}{ys:List AV}{ret:AV}(h:runB f ys=some ret):PRet Tryz.prog f ys (fun q=>q=ret):=PRet.of_call (F9 mixB (fun _ _ _ h=>by cases h) q8 h)
structure GQ where
 h:Nat
 v:Int
 w:ByteArray
abbrev mnQ(q:List GQ):List Int:=q.map fun _=>0
abbrev mxQ(q:List GQ):List Int:=q.map fun x=>((x.h:Nat):Int)
abbrev tsQ(q:List GQ):List GTst:=q.map fun x=>tE x.v x.w
abbrev rgQ(n:Nat):List Int:=(List.range n).map fun k=>((k:Nat):Int)
abbrev pbQ(q:List GQ):List AV:=[.tree 1 ((mnQ q).map iA),.tree 1 ((mxQ q).map iA),.tree 4 ((tsQ q).map tsA),xf,xf]
structure KCl where
 h:Int
 t:List GTst
 w:List ByteArray
def tlA:List GTst->AV
 |[]=>.v (.slice none 0 0)
 |a::r=>.tree 4 ((a::r).map tsA)
def wlA:List ByteArray->AV
 |[]=>.v (.slice none 0 0)
 |a::r=>.tree 1 ((a::r).map sA)
abbrev kcR(c:KCl):List AV:=[.v (.int .i64 0),.v (.int .i64 c.h),tlA c.t,wlA c.w,.v (.slice none 0 0)]
theorem bm:RowF kcR 5:=⟨fun _=>rfl,fun⟨_,t,w⟩=>by cases t<;>cases w<;>rfl,fun _ ⟨_,t,w⟩=>by cases t<;>cases w<;>rfl,fun _ ⟨_,t,w⟩=>by cases t<;>cases w<;>rfl,fun _ ⟨_,t,w⟩=>by cases t<;>cases w<;>rfl,fun⟨_,t,w⟩=>by cases t<;>cases w<;>rfl⟩
abbrev kz0:KCl:=⟨0,[],[]⟩
abbrev kz1:KCl:=⟨16,[],[]⟩
abbrev Z2(q:List GQ):List KCl:=q.map fun x=>⟨((x.h:Nat):Int),[],[]⟩
abbrev Z3(q:List GQ):List KCl:=q.map fun x=>⟨((x.h:Nat):Int),[tE x.v x.w],[]⟩
theorem Rz{P:Program}{τ:Nat->AV}{η:bf}{d:Option Tmp}{ty:TypeId}{pos:String}{af:Array Edge}{g:Option (Nat×Bool)}{x y:Operand}{a b r:Int}{ats:Array TypeId}(hx:aev τ x=.v (.int .i64 a))(hy:aev τ y=.v (.int .i64 b))(hr:min a b=r):
 LOp P ⟨d,.call {callee:=.builtin .min,args:=#[x,y],argTypes:=ats},ty,pos,af,g⟩ τ η [] [] (.v (.int .i64 r)):=by subst hr;exact rl hx hy
theorem Hz{P:Program}{τ:Nat->AV}{η:bf}{d:Option Tmp}{ty:TypeId}{pos:String}{af:Array Edge}{g:Option (Nat×Bool)}{x y:Operand}{a b r:Int}{ats:Array TypeId}(hx:aev τ x=.v (.int .i64 a))(hy:aev τ y=.v (.int .i64 b))(hr:max a b=r):
 LOp P ⟨d,.call {callee:=.builtin .max,args:=#[x,y],argTypes:=ats},ty,pos,af,g⟩ τ η [] [] (.v (.int .i64 r)):=by subst hr;exact Ay hx hy
theorem Jc{P:Program}{τ:Nat->AV}{η:bf}{d:Option Tmp}{ty:TypeId}{pos:String}{af:Array Edge}{g:Option (Nat×Bool)}{t:Nat}{x y:Operand}(u:Nat){e len:Nat}{v:Int}(he:P.underlying t=some (.slice e))(hs:ap P e=some 5)(hz:bi P e=some (.agg #[.int .i64 0,.int .i64 0,.slice none 0 0,.slice none 0 0,.slice none 0 0]))(h3:(P.info? e).map (·.bytes)=some 88)
 (hx:aev τ x=.v (.int .i64 v))(hy:aev τ y=.v (.int .i64 v))(hv:v=((len:Nat):Int))(hl:len<=1000000)(h0:len≠0):
 LOp P ⟨d,.makeSlice t x y,ty,pos,af,g⟩ τ η [] [(u,some ⟨0,rF kcR (List.replicate len kz0),5,false⟩)] (.sl u 0 0 len):=by
 refine od u he hs hz h3 hx hy hv (by omega) (by omega) h0 (by decide) (by rw[ib bm];simp) fun i h T w=>?_
 obtain⟨h1,e1⟩:=x8 bm h
 rw[e1]
 show TR T w _ ((#[.int .i64 0,.int .i64 0,.slice none 0 0,.slice none 0 0,.slice none 0 0]:Array Value)[i%5]!)
 have h2:i%5=0\/i%5=1\/i%5=2\/i%5=3\/i%5=4:=by omega
 rcases h2 with h2|h2|h2|h2|h2<;>simp only[h2]<;>exact .v _
theorem zl{α:Type}{Y Z:List α}{k m:Nat}(hy:Y.length=m)(hz:Z.length=m):(Y.take k++Z.drop k).length=m:=by rw[bw (hy.trans hz.symm)];exact hz
theorem zg{α:Type}{Y Z:List α}{k m:Nat}{z:α}(hy:Y.length=m)(hz:Z.length=m)(h:k<m)(e:∀h:k<Z.length,Z[k]=z)(h':k<(Y.take k++Z.drop k).length):(Y.take k++Z.drop k)[k]=z:=(k7 (hy.trans hz.symm) (by omega) h').trans (e _)
theorem zj{n:Nat}:(rgQ n).length=n:=by simp
theorem Kv{n k:Nat}(h:k<(rgQ n).length):(rgQ n)[k]=((k:Nat):Int):=by simp
theorem af4:∀(q:List GQ),q.length<=8->PRet Tryz.prog 88 [.agg (pbQ q)] (fun r=>r=.tup [.tree 1 ((rgQ q.length).map iA),.v (.int .i64 ((q.length:Nat):Int))])
 |[],_=>ll (by kernel_rfl)
 |[_],_=>ll (by kernel_rfl)
 |[_,_],_=>ll (by kernel_rfl)
 |[_,_,_],_=>ll (by kernel_rfl)
 |[_,_,_,_],_=>ll (by kernel_rfl)
 |[_,_,_,_,_],_=>ll (by kernel_rfl)
 |[_,_,_,_,_,_],_=>ll (by kernel_rfl)
 |[_,_,_,_,_,_,_],_=>ll (by kernel_rfl)
 |[_,_,_,_,_,_,_,_],_=>ll (by kernel_rfl)
 |_::_::_::_::_::_::_::_::_::_,h=>absurd h (by simp)
theorem af8:(Tryz.prog.info? 164).map (·.bytes)=some 88:=by kernel_rfl
theorem af6:(Tryz.prog.info? 89).map (·.bytes)=some 40:=by kernel_rfl
theorem M3:cp Tryz.prog 164 0=some (0,1):=by kernel_rfl
theorem Et:cp Tryz.prog 164 1=some (1,1):=by kernel_rfl
theorem M2:cp Tryz.prog 164 2=some (2,1):=by kernel_rfl
theorem ad4:c9 Tryz.prog 61=some none:=by kernel_rfl
theorem ni:ap Tryz.prog 164=some 5:=by kernel_rfl
theorem sz61:ap Tryz.prog 61=some 1:=by kernel_rfl
theorem acv:ap Tryz.prog 89=some 4:=by kernel_rfl
theorem adf:bi Tryz.prog 164=some (.agg #[.int .i64 0,.int .i64 0,.slice none 0 0,.slice none 0 0,.slice none 0 0]):=by kernel_rfl
theorem acq:bi Tryz.prog 89=some (.agg #[.int .i64 0,.int .i64 0,.bool false,.string ⟨#[]⟩]):=by kernel_rfl
theorem Ij(q:List GQ)(h1:1<=q.length)(h8:q.length<=8)(hh:∀x∈q,x.h<=16)(hv:∀k (h:k<q.length),q[k].v=((k:Nat):Int)):o7 Tryz.prog 65 [.agg (pbQ q)] [] [(1,some (⟨0,rF kcR (Z3 q),5,false⟩))] (fun r=>r=.tup [.sl 1 0 0 q.length,.tree 1 ((rgQ q.length).map iA),.v (.bool true)]):=by
 have l0:(List.replicate q.length kz0).length=q.length:=by simp
 have l1:(List.replicate q.length kz1).length=q.length:=by simp
 have l2:(Z2 q).length=q.length:=by simp
 have l3:(Z3 q).length=q.length:=by simp
 have lm:(mnQ q).length=q.length:=by simp
 have lx:(mxQ q).length=q.length:=by simp
 have lt:(tsQ q).length=q.length:=by simp
 have lr:=@zj q.length
 refine o7.of_vc ik [24,26,32,33,48,49,50,56,59,60,61,67,68,69,70,71,83,89,90,91,93,94,95,96,100033,100069,100071,100096] [8,13,19] Tryz.func65 rfl Tryz.ntmps65 rfl (by kernel_rfl) (ArgG.mk (af4 q h8) rfl ?_)
 rintro _ rfl
 refine OpG.nw (Jc 1 (len:=q.length) Tryz.underlying160 ni adf af8 rfl rfl rfl (by omega) (by omega)) rfl (OpG.lk (bo rfl Tryz.underlying160 rfl rfl rfl) ?_)
 refine LpG.on (fun k0:Nat=>(⟨fL [(1,.ptr 0 0 0),(5,.tree 1 (((rgQ q.length)).map iA)),(7,.sl 1 0 0 q.length),(26,.v (.int .i64 ((q.length:Nat):Int))),(27,.v (.int .i64 ((k0:Nat):Int)))],hLz [(0,⟨0,pbQ q,0,false⟩),(1,⟨0,rF kcR (((List.replicate q.length kz1)).take k0++((List.replicate q.length kz0)).drop k0),5,false⟩)],2⟩:St)) (fun k0=>(q.length-k0)) (fun k0=>(k0<=q.length)) 0 (cO (.cons rfl rfl (.cons rfl rfl (.cons rfl rfl (.cons rfl rfl (.cons rfl rfl .nil))))) (.cons rfl rfl rfl (.cons (by rfl) rfl (aa bm _ _) .nil))) (ag6 _) ?_
 rintro k0 h0
 have hle_k0:=h0
 refine cL (fun hlt28=>?_) (fun hge28=>?_)
 ·have h4:k0<(((List.replicate q.length kz1)).take k0++((List.replicate q.length kz0)).drop k0).length:=by rw[zl l1 l0];omega
  have eL0:(((List.replicate q.length kz1)).take k0++((List.replicate q.length kz0)).drop k0)[k0]=kz0:=zg l1 l0 (by omega) (fun h=>by simp) h4
  refine OpG.lk (ak (k:=k0) bm Tryz.underlying160 ni rfl rfl rfl (by omega) rfl) (OpG.lk (cg Et (by decide) rfl rfl) ?_)
  refine OpG.wr (az (k:=k0) (o:=1) (v:=kz1) bm sz3 rfl rfl rfl rfl rfl rfl h4 (by decide) (by rw[eL0];rfl)) rfl ⟨by omega,⟨(k0+1),by omega,(cO (.cons rfl rfl (.cons rfl rfl (.cons rfl rfl (.cons rfl rfl (.cons rfl rfl .nil))))) (.cons rfl rfl rfl (.cons (by(rw[el (l1.trans l0.symm) (by omega) (fun h=>by simp)];rfl)) rfl (aa bm _ _) .nil))),?_⟩⟩
  omega
 refine RegG.via (fun _ h=>cd 1 ⟨0,rF kcR (List.replicate q.length kz1),5,false⟩ rfl (by rw[dq (l1.trans l0.symm) (by omega)]) h) (ba ?_)
 refine LenG.of (LpG.on (fun k2:Nat=>(⟨fL [(1,.ptr 0 0 0),(5,.tree 1 (((rgQ q.length)).map iA)),(7,.sl 1 0 0 q.length),(35,.tree 1 (((rgQ q.length)).map iA)),(36,.v (.int .i64 (((rgQ q.length).length:Nat):Int))),(37,.v (.int .i64 ((k2:Nat):Int)))],hLz [(0,⟨0,pbQ q,0,false⟩),(1,⟨0,rF kcR ((Z2 q).take k2++((List.replicate q.length kz1)).drop k2),5,false⟩)],2⟩:St)) (fun k2=>((rgQ q.length).length-k2)) (fun k2=>(k2<=(rgQ q.length).length)) 0 (cO (.cons rfl rfl (.cons rfl rfl (.cons rfl rfl (.cons rfl rfl (.cons rfl rfl (.cons rfl rfl .nil)))))) (.cons rfl rfl rfl (.cons (by rfl) rfl (aa bm _ _) .nil))) (ag6 _) ?_)
 rintro k2 h0
 have hle_k2:=h0
 refine cL (fun hlt38=>?_) (fun hge38=>?_)
 ·have h2:k2<((Z2 q).take k2++((List.replicate q.length kz1)).drop k2).length:=by rw[zl l2 l1];omega
  have eL2:((Z2 q).take k2++((List.replicate q.length kz1)).drop k2)[k2]=kz1:=zg l2 l1 (by omega) (fun h=>by simp) h2
  have h5:k2<(rgQ q.length).length:=by omega
  have er2:=Kv h5
  have eS2:(((Z2 q).take k2++((List.replicate q.length kz1)).drop k2).set k2 kz1)[k2]'(by rw[List.length_set];exact h2)=kz1:=by simp
  have hx2:k2<(mxQ q).length:=by omega
  have em2:min 16 (mxQ q)[k2]=((q[k2].h:Nat):Int):=by have:=hh q[k2] (agt _);simp;omega
  refine IdxG.of ‹_› (OpG.lk (ak (k:=k2) bm Tryz.underlying160 ni rfl rfl er2 (by omega) rfl) ?_)
  refine OpG.lk (cg M3 (by decide) rfl rfl) (OpG.lk (ca (k:=k2) (o:=0) bm Sq rfl rfl h2 (by rw[eL2];rfl)) ?_)
  refine IdxG.of (by omega) (OpG.lk (Hz (r:=0) rfl rfl (by simp)) ?_)
  refine OpG.lk (ak (k:=k2) bm Tryz.underlying160 ni rfl rfl er2 (by omega) rfl) (OpG.lk (cg Et (by decide) rfl rfl) ?_)
  refine OpG.lk (ca (k:=k2) (o:=1) bm Sq rfl rfl h2 (by rw[eL2];rfl)) (IdxG.of ‹_› ?_)
  refine OpG.lk (Rz (r:=((q[k2].h:Nat):Int)) rfl rfl em2) (OpG.lk (ak (k:=k2) bm Tryz.underlying160 ni rfl rfl er2 (by omega) rfl) ?_)
  refine OpG.lk (cg M3 (by decide) rfl rfl) (OpG.wr (az (k:=k2) (o:=0) (v:=kz1) bm sz3 rfl rfl rfl rfl rfl rfl h2 (by decide) (by rw[eL2];rfl)) rfl ?_)
  refine OpG.lk (ak (k:=k2) bm Tryz.underlying160 ni rfl rfl er2 (by omega) rfl) (OpG.lk (cg Et (by decide) rfl rfl) ?_)
  refine OpG.wr (az (k:=k2) (o:=1) (v:=⟨((q[k2].h:Nat):Int),[],[]⟩) bm sz3 rfl rfl rfl rfl rfl rfl (by rw[List.length_set];exact h2) (by decide) (by rw[eS2];rfl)) rfl ⟨by kernel_rfl,⟨by omega,?_⟩⟩
  refine⟨(k2+1),by omega,(cO (.cons rfl rfl (.cons rfl rfl (.cons rfl rfl (.cons rfl rfl (.cons rfl rfl (.cons rfl rfl .nil)))))) (.cons rfl rfl rfl (.cons (by(rw[List.set_set,el (v:=⟨((q[k2].h:Nat):Int),[],[]⟩) (l2.trans l1.symm) (by omega) (fun h=>by simp)];rfl)) rfl (aa bm _ _) .nil))),?_⟩
  omega
 refine RegG.via (fun _ h=>cd 1 ⟨0,rF kcR (Z2 q),5,false⟩ rfl (by rw[dq (l2.trans l1.symm) (by omega)]) h) (ba ?_)
 refine LenG.of (LpG.on (fun k4:Nat=>(⟨fL [(1,.ptr 0 0 0),(5,.tree 1 (((rgQ q.length)).map iA)),(7,.sl 1 0 0 q.length),(74,.tree 4 (((tsQ q)).map tsA)),(75,.v (.int .i64 (((tsQ q).length:Nat):Int))),(76,.v (.int .i64 ((k4:Nat):Int)))],hLz [(0,⟨0,pbQ q,0,false⟩),(1,⟨0,rF kcR ((Z3 q).take k4++(Z2 q).drop k4),5,false⟩)],2⟩:St)) (fun k4=>((tsQ q).length-k4)) (fun k4=>(k4<=(tsQ q).length)) 0 (cO (.cons rfl rfl (.cons rfl rfl (.cons rfl rfl (.cons rfl rfl (.cons rfl rfl (.cons rfl rfl .nil)))))) (.cons rfl rfl rfl (.cons (by rfl) rfl (aa bm _ _) .nil))) (ag6 _) ?_)
 rintro k4 h0
 have hle_k4:=h0
 refine cL (fun hlt77=>?_) (fun hge77=>?_)
 ·have h3:k4<((Z3 q).take k4++(Z2 q).drop k4).length:=by rw[zl l3 l2];omega
  have eL4:((Z3 q).take k4++(Z2 q).drop k4)[k4]=⟨((q[k4].h:Nat):Int),[],[]⟩:=zg l3 l2 (by omega) (fun h=>by simp) h3
  have h6:k4<(rgQ q.length).length:=by omega
  have er4:=Kv h6
  have ht4:k4<(tsQ q).length:=by omega
  have ev4:(tsQ q)[k4].h_=((k4:Nat):Int):=by simp[hv k4 (by omega)]
  have et4:(tsQ q)[k4]=(tE q[k4].v q[k4].w):=by simp
  refine IdxG.of ‹_› (OpG.lk (cn Tryz.underlying58 sz3 rfl rfl ev4 (by omega)) ?_)
  refine OpG.lk (ak (k:=k4) bm Tryz.underlying160 ni rfl rfl er4 (by omega) rfl) (OpG.lk (cg M2 (by decide) rfl rfl) ?_)
  refine OpG.lk (ca (k:=k4) (o:=2) bm ad4 rfl rfl h3 (by rw[eL4];rfl)) (OpG.nw (fx (je Tryz.underlying61 acv acq rfl rfl rfl rfl) (fun η' h=>cx (f:=tsA) (l:=[(tsQ q)[k4]]) (agy.2 rfl) h rfl rfl rfl rfl rfl (fun a _=>⟨rfl,rfl⟩))) rfl ?_)
  refine OpG.nw (Fl (kl (u:=4) (m:=1) (news:=tsA (tsQ q)[k4]) Tryz.underlying61 acv acq af6 rfl rfl (by simp) (Src.tree (n:=4) (xs:=[tsA (tsQ q)[k4]])) (by decide) rfl (by decide) (by decide)) (fun η' h=>cx (f:=tsA) (l:=[(tsQ q)[k4]]) (agy.2 rfl) h rfl rfl rfl rfl rfl (fun a _=>⟨rfl,rfl⟩))) rfl (OpG.lk (ak (k:=k4) bm Tryz.underlying160 ni rfl rfl er4 (by omega) rfl) ?_)
  refine OpG.lk (cg M2 (by decide) rfl rfl) (OpG.wr (az (k:=k4) (o:=2) (v:=⟨((q[k4].h:Nat):Int),[(tsQ q)[k4]],[]⟩) bm sz61 rfl rfl rfl rfl rfl rfl h3 (by decide) (by rw[eL4];rfl)) rfl ?_)
  refine⟨by kernel_rfl,⟨by omega,?_⟩⟩
  refine⟨(k4+1),by omega,(cO (.cons rfl rfl (.cons rfl rfl (.cons rfl rfl (.cons rfl rfl (.cons rfl rfl (.cons rfl rfl .nil)))))) (.cons rfl rfl rfl (.cons (by(rw[el (v:=⟨((q[k4].h:Nat):Int),[(tsQ q)[k4]],[]⟩) (l3.trans l2.symm) (by omega) (fun h=>by simp;exact et4)];rfl)) rfl (aa bm _ _) .nil))),?_⟩
  omega
 refine RegG.via (fun _ h=>cd 1 ⟨0,rF kcR (Z3 q),5,false⟩ rfl (by rw[dq (l3.trans l2.symm) (by omega)]) h) (ba ?_)
 refine LpG.exit (cF ?_)
 refine⟨.inr rfl,_,Fg.of [] (aw rfl (.cons (acn.tmp rfl) (.cons (acn.tmp rfl) (.cons (acn.tmp rfl) .nil)))) rfl ⟨.same rfl (by decide),trivial⟩ .same,?_⟩
 rfl
abbrev boA(b:Bool):List AV:=[.v (.bool b)]
theorem dy:RowF boA 1:=⟨fun _=>rfl,fun _=>rfl,fun _ _=>rfl,fun _ _=>rfl,fun _ _=>rfl,fun _=>rfl⟩
theorem af2:PRet Tryz.prog 92 [xf,.unk] (fun q=>q=.v (.bool false)):=ll (by kernel_rfl)
theorem adt:PRet Tryz.prog 67 [xf,.unk] (fun q=>q=.tup []):=ll (by kernel_rfl)
theorem C5{P:Program}{τ:Nat->AV}{η:bf}{d:Option Tmp}{ty:TypeId}{pos:String}{af:Array Edge}{g:Option (Nat×Bool)}{f:FuncId}{caps:Array Operand}:LOp P ⟨d,.makeFunc (.func f) #[] caps,ty,pos,af,g⟩ τ η [] [] .unk:=
 .look [] fun C a hg hx _=>⟨.func (.func f) #[] (caps.map a.eval),by simp[execOp,Instr.makeFunc],.imm (.unk _)⟩
theorem ym{α β:Type}{f:α->List AV}{h:β->List AV}{q q':Nat}(hf:RowF f q)(hh:RowF h q'){m:List (Nat×Nat)}{i k v i' k' v':Nat}{r:List α}{r':List β}{n n':Bool}(e:gOf m i=k)(e':gOf m i'=k'):d6 m [(i,some ⟨v,rF f r,q,n⟩),(i',some ⟨v',rF h r',q',n'⟩)]=[(k,some ⟨v,rF f r,q,n⟩),(k',some ⟨v',rF h r',q',n'⟩)]:=by
 simp only[d6,ahh,List.map_nil,e,e',ahp,cv hf,cv hh]
def chF(xs:List ByteArray):List Int->List ByteArray->List ByteArray
 |[],W=>W
 |k::r,W=>chF xs r (W.set k.toNat (xs.getD k.toNat ⟨#[]⟩))
def chB:List Int->List Bool->List Bool
 |[],W=>W
 |k::r,W=>chB r (W.set k.toNat true)
theorem Nq{xs:List ByteArray}:∀{o:List Int} {W:List ByteArray},(chF xs o W).length=W.length
 |[],_=>rfl
 |k::r,W=>by unfold chF;rw[Nq,List.length_set]
theorem adi{cl:List KCl}{xs:List ByteArray}{k:Nat}(h:k<cl.length)(hw:cl[k].w=[xs.getD k ⟨#[]⟩]):(kcR cl[k])[3]? =some (.tree 1 ([xs.getD k ⟨#[]⟩].map sA)):=by
 show some (wlA cl[k].w)=_
 rw[hw];rfl
structure KRv where
 k:Nat
 L:List Int
theorem avi{a b:Int}(h:a=b):AV.v (.int .i64 a)=AV.v (.int .i64 b):=by rw[h]
theorem Yx{L:List Int}{n i j:Nat}{M:Int}{a b:Int}(h:L.length=n/\∀x∈L,0<=x/\x<M)(ha:a∈L)(hb:b∈L):((L.set i a).set j b).length=n/\∀x∈(L.set i a).set j b,0<=x/\x<M:=by
 refine⟨by simp[h.1],fun x hx=>?_⟩
 rcases List.mem_or_eq_of_mem_set hx with hx|rfl
 ·rcases List.mem_or_eq_of_mem_set hx with hx|rfl
  ·exact h.2 _ hx
  exact h.2 _ ha
 exact h.2 _ hb
theorem abz:bv Tryz.prog 70=true:=by kernel_rfl
theorem Ks:c9 Tryz.prog 121=some none:=by kernel_rfl
theorem sz4:ap Tryz.prog 4=some 1:=by kernel_rfl
theorem Q8{cl:List KCl}{xs W:List ByteArray}{B:List Bool}{m:Nat}:o7 Tryz.prog 70 [.tree 5 (cl.map kcR),.tree 1 ((([]:List Int)).map iA),.sl 1000000 0 0 m,.sl 1000001 0 0 m] [(1000000,⟨0,rF sA W,1,false⟩),(1000001,⟨0,rF boA B,1,false⟩)] [(1000000,some (⟨0,rF sA (chF xs [] W),1,false⟩)),(1000001,some (⟨0,rF boA (chB [] B),1,false⟩))] (fun q=>q=.tup [.sl 1000000 0 0 m,.v (.bool true)]):=by
 refine o7.of_vc ik [] [] Tryz.func70 rfl Tryz.ntmps70 rfl (by kernel_rfl) (LenG.of ?_)
 refine cT ⟨.inr rfl,_,Fg.of [] (aw rfl (.cons (acn.tmp rfl) (.cons (acn.tmp rfl) .nil))) rfl ⟨.same rfl (by decide),.same rfl (by decide),trivial⟩ .same,?_⟩
 rfl
theorem Np{cl:List KCl}{xs W:List ByteArray}{B:List Bool}{m k:Nat}{r:List Int}(hk:k<m)(hc:cl.length=m)(hw:∀j (h:j<cl.length),cl[j].w=[xs.getD j ⟨#[]⟩])(hW:W.length=m)(hB:B.length=m)(hm:m<=100)
 (ih:o7 Tryz.prog 70 [.tree 5 (cl.map kcR),.tree 1 (r.map iA),.sl 1000000 0 0 m,.sl 1000001 0 0 m] [(1000000,⟨0,rF sA (W.set k (xs.getD k ⟨#[]⟩)),1,false⟩),(1000001,⟨0,rF boA (B.set k true),1,false⟩)] [(1000000,some ⟨0,rF sA (chF xs r (W.set k (xs.getD k ⟨#[]⟩))),1,false⟩),(1000001,some ⟨0,rF boA (chB r (B.set k true)),1,false⟩)] (fun q=>q=.tup [.sl 1000000 0 0 m,.v (.bool true)])):o7 Tryz.prog 70 [.tree 5 (cl.map kcR),.tree 1 (((((k:Nat):Int)::r)).map iA),.sl 1000000 0 0 m,.sl 1000001 0 0 m] [(1000000,⟨0,rF sA W,1,false⟩),(1000001,⟨0,rF boA B,1,false⟩)] [(1000000,some (⟨0,rF sA (chF xs (((k:Nat):Int)::r) W),1,false⟩)),(1000001,some (⟨0,rF boA (chB (((k:Nat):Int)::r) B),1,false⟩))] (fun q=>q=.tup [.sl 1000000 0 0 m,.v (.bool true)]):=by
 obtain⟨_,rfl,h2⟩:=ih
 have h1:k<cl.length:=by omega
 have h0r:0<(((k:Nat):Int)::r).length:=Nat.zero_lt_succ _
 have h0x:0<[xs.getD k ⟨#[]⟩].length:=Nat.zero_lt_succ _
 have h3:=adi h1 (hw k h1)
 refine o7.of_vc ik [24,27,29,30,37,40,45,49,52,100024,100045] [] Tryz.func70 rfl Tryz.ntmps70 rfl (by kernel_rfl) ?_
 refine LenG.of (cB (fun h0=>?_) (fun h0=>?_))
 ·exfalso;have h:=h0;simp at h;omega
 have hq17:¬((((((k:Nat):Int)::r).length:Nat):Int)=(0:Int)):=by simpa using h0
 refine IdxG.of (j:=0) ‹_› (OpG.lk (ak (k:=k) dy Tryz.underlying166 sz4 rfl rfl rfl hk rfl) ?_)
 refine OpG.wr (az (k:=k) (o:=0) (v:=true) dy sz4 rfl rfl rfl rfl rfl rfl (by omega) (by decide) rfl) rfl ?_
 refine OpG.lk (lI (j:=k) Tryz.underlying160 ni rfl rfl h1) ?_
 refine OpG.lk (lE Ks rfl h3) ?_
 refine OpG.lk (lT (f:=sA) (l:=[xs.getD k ⟨#[]⟩]) rfl Tryz.underlying121 rfl) ?_
 refine w6 (ULp.step ?_)
 refine cT (IdxG.of (j:=0) ‹_› ?_)
 refine OpG.lk (lI (j:=k) Tryz.underlying160 ni rfl rfl h1) ?_
 refine OpG.lk (C5) ?_
 refine ArgG.mk (af2) rfl ?_
 rintro _ rfl
 refine cF (OpG.lk (ak (k:=k) bt Tryz.underlying121 sz9 rfl rfl rfl hk rfl) ?_)
 refine OpG.wr (az (k:=k) (o:=0) (v:=(xs.getD k ⟨#[]⟩)) bt sz9 rfl rfl rfl rfl rfl rfl (by omega) (by decide) rfl) rfl ?_
 refine OpG.lk (Ji (n:=1) (f:=iA) (l:=(((k:Nat):Int)::r)) Tryz.underlying58 sz3 rfl rfl rfl h0r) ?_
 refine OpG.mk _ _ _ 3 (a8 [(1000000,1000000),(1000001,1000001)] abz h2 rfl rfl rfl rfl ⟨sX bt,sX dy,trivial⟩ ⟨okB bt (fun h=>by cases h),okB dy (fun h=>by cases h),trivial⟩ ⟨au bt _ _,au dy _ _,trivial⟩ rfl rfl rfl rfl (ym bt dy rfl rfl) rfl) rfl rfl ?_
 refine⟨by kernel_rfl,?_⟩
 refine cT ⟨.inr rfl,_,Fg.of [] (aw rfl (.cons (acn.tmp rfl) (.cons (acn.tmp rfl) .nil))) rfl ⟨.same rfl (by decide),.same rfl (by decide),trivial⟩ .same,?_⟩
 rfl
theorem Hh{cl:List KCl}{xs:List ByteArray}{m:Nat}(hc:cl.length=m)(hw:∀j (h:j<cl.length),cl[j].w=[xs.getD j ⟨#[]⟩])(hm:m<=100):∀(o:List Int) (W:List ByteArray) (B:List Bool),W.length=m->B.length=m->(∀x∈o,0<=x/\x<((m:Nat):Int))->o7 Tryz.prog 70 [.tree 5 (cl.map kcR),.tree 1 (o.map iA),.sl 1000000 0 0 m,.sl 1000001 0 0 m] [(1000000,⟨0,rF sA W,1,false⟩),(1000001,⟨0,rF boA B,1,false⟩)] [(1000000,some ⟨0,rF sA (chF xs o W),1,false⟩),(1000001,some ⟨0,rF boA (chB o B),1,false⟩)] (fun q=>q=.tup [.sl 1000000 0 0 m,.v (.bool true)])
 |[],W,B,_,_,_=>Q8
 |x::r,W,B,hW,hB,ho=>by
  obtain⟨h1,h2⟩:=ho x (List.mem_cons_self ..)
  obtain⟨k,rfl⟩:=Int.eq_ofNat_of_zero_le h1
  exact Np (by omega) hc hw hW hB hm (Hh hc hw hm r _ _ (by simp[hW]) (by simp[hB]) (fun y hy=>ho y (List.mem_cons_of_mem _ hy)))
theorem Zc(L:List Int)(v:Nat)(M:Int)(hL:1<=L.length)(h8:L.length<=1000)(hM:∀x∈L,0<=x/\x<M):Jm Tryz.prog 69 [.sl 1000000 v 0 L.length] [(1000000,⟨v,rF iA L,1,false⟩)] (fun q hb'=>q=.tup []/\∃L':List Int,hb'=[(1000000,some ⟨v,rF iA L',1,false⟩)]/\L'.length=L.length/\∀x∈L',0<=x/\x<M):=by
 refine Jm.of_vc ik [5,20,21,24,25,26,27,100026,100027] [] Tryz.func69 rfl Tryz.ntmps69 rfl (by kernel_rfl) (OpG.lk (bo rfl Tryz.underlying58 rfl rfl rfl) ?_)
 refine⟨by omega,LpG.on (fun k0:KRv=>(⟨fL [(0,.sl 1000000 v 0 L.length),(2,.v (.int .i64 ((k0.k:Nat):Int))),(3,.v (.int .i64 (((L.length:Nat):Int)-1-((k0.k:Nat):Int))))],hLz [(1000000,⟨v,rF iA k0.L,1,false⟩)],0⟩:St)) (fun k0=>(L.length-k0.k)) (fun k0=>(k0.k<=L.length/\(k0.L.length=L.length/\∀x∈k0.L,0<=x/\x<M))) (⟨0,L⟩:KRv) (cO (.cons rfl rfl (.cons rfl rfl (.cons (avi (by(simp;done))) rfl .nil))) (.cons rfl rfl (aa ck _ _) .nil)) ⟨ag6 _,⟨rfl,hM⟩⟩ ?_⟩
 rintro k0 h1
 obtain⟨hle_k0,h0⟩:=h1
 refine cB (fun h2=>?_) (fun h2=>?_)
 ·have hlen:=h0.1
  have hq9:=ag4 h2
  have hj:(L.length-1-k0.k)<k0.L.length:=by omega
  have hi:k0.k<k0.L.length:=by omega
  have ej:(((L.length:Nat):Int)-1-((k0.k:Nat):Int))=(((L.length-1-k0.k):Nat):Int):=by omega
  refine OpG.lk (ak (k:=(L.length-1-k0.k)) ck Tryz.underlying58 sz3 rfl rfl ej (by omega) rfl) (OpG.lk (ca (k:=(L.length-1-k0.k)) (o:=0) ck Sq rfl rfl hj rfl) ?_)
  refine OpG.lk (ak (k:=k0.k) ck Tryz.underlying58 sz3 rfl rfl rfl (by omega) rfl) (OpG.lk (ca (k:=k0.k) (o:=0) ck Sq rfl rfl hi rfl) ?_)
  refine OpG.lk (ak (k:=k0.k) ck Tryz.underlying58 sz3 rfl rfl rfl (by omega) rfl) (OpG.wr (az (k:=k0.k) (o:=0) (v:=k0.L[(L.length-1-k0.k)]'hj) ck sz3 rfl rfl rfl rfl rfl rfl hi (by decide) rfl) rfl ?_)
  refine OpG.lk (ak (k:=(L.length-1-k0.k)) ck Tryz.underlying58 sz3 rfl rfl ej (by omega) rfl) (OpG.wr (az (k:=(L.length-1-k0.k)) (o:=0) (v:=k0.L[k0.k]'hi) ck sz3 rfl rfl rfl rfl rfl rfl (by rw[List.length_set];exact hj) (by decide) rfl) rfl ?_)
  refine⟨by kernel_rfl,⟨by omega,?_⟩⟩
  refine⟨by omega,⟨(⟨k0.k+1,((k0.L.set k0.k (k0.L[(L.length-1-k0.k)]'hj)).set (L.length-1-k0.k) (k0.L[k0.k]'hi))⟩:KRv),(by show L.length-(k0.k+1)<L.length-k0.k;omega),(cO (.cons rfl rfl (.cons rfl rfl (.cons (avi (by(simp;omega))) rfl .nil))) (.cons rfl rfl (aa ck _ _) .nil)),?_⟩⟩
  exact⟨by show k0.k+1<=_;omega,Yx h0 (agt hj) (agt hi)⟩
 exact⟨.inl rfl,_,_,Fg.of (hb':=[(1000000,some ⟨v,rF iA k0.L,1,false⟩)]) [] (aw rfl .nil) rfl ⟨.same rfl (by decide),trivial⟩ .same,⟨rfl,_,rfl,h0⟩⟩
theorem oe{P:Program}{τ:Nat->AV}{η:bf}{d:Option Tmp}{ty:TypeId}{pos:String}{af:Array Edge}{g:Option (Nat×Bool)}{t:Nat}{x y:Operand}{α:Type}{f:α->List AV}(hf:RowF f 1)(a0:α)(u:Nat){e len by_:Nat}{z:Value}{v:Int}(he:P.underlying t=some (.slice e))(hs:ap P e=some 1)(hz:bi P e=some z)(h2:(P.info? e).map (·.bytes)=some by_)(h3:z.cells=#[z])(h0f:f a0=[.v z])
 (hx:aev τ x=.v (.int .i64 v))(hy:aev τ y=.v (.int .i64 v))(hv:v=((len:Nat):Int))(hl:by_*len<=140737488355328)(h4:len<=140737488355328)(h0:len≠0):
 LOp P ⟨d,.makeSlice t x y,ty,pos,af,g⟩ τ η [] [(u,some ⟨0,rF f (List.replicate len a0),1,false⟩)] (.sl u 0 0 len):=by
 refine od u he hs hz h2 hx hy hv hl h4 h0 (by decide) (by rw[ib hf];simp) fun i h T w=>?_
 obtain⟨h1,e1⟩:=x8 hf h
 rw[e1]
 have e2:z.cells[i%z.cells.size]! =z:=by rw[h3];simp[Nat.mod_one]
 rw[e2]
 have e3:(f a0)[i%1]=.v z:=by simp[h0f,Nat.mod_one]
 rw[e3];exact .v _
theorem C7{P:Program}{τ:Nat->AV}{η:bf}{d:Option Tmp}{ty:TypeId}{pos:String}{af:Array Edge}{g:Option (Nat×Bool)}{α:Type}{f:α->List AV}{q k:Nat}{L:List α}(hf:RowF f q){t:Nat}{x:Operand}{id ver:Nat}{v:α}(ht:c9 P t=some (some q))(hx:aev τ x=.ptr id ver (k*q))(hb:η id=some ⟨ver,rF f L,q,false⟩)(hk:k<L.length)(he:L[k]=v):
 LOp P ⟨d,.load t x,ty,pos,af,g⟩ τ η [id] [] (.agg (f v)):=by subst he;exact jn hf ht hx hb hk
theorem Src.rowsF{α:Type}{f:α->List AV}{q:Nat}(hf:RowF f q){η:bf}{id v n:Nat}{l:List α}(hb:η id=some ⟨v,rF f l,q,false⟩)(hn:n=l.length)(h0:0<n):Src η [id] (.sl id v 0 n) n (rF f l):=by
 subst hn
 exact Src.rows hf (by rw[hb,jv (show l.length≠0 by omega)])
abbrev Z4(q:List GQ)(xs:List ByteArray):List KCl:=List.zipWith (fun(x:GQ) (s:ByteArray)=>(⟨((x.h:Nat):Int),[tE x.v x.w],[s]⟩:KCl)) q xs
abbrev z4k(x:GQ)(s:ByteArray):KCl:=⟨((x.h:Nat):Int),[tE x.v x.w],[s]⟩
theorem Js{q:List GQ}{xs:List ByteArray}(hx:xs.length=q.length){k:Nat}(h:k<q.length)(h':k<(Z4 q xs).length):(Z4 q xs)[k]=z4k q[k] (xs.getD k ⟨#[]⟩):=by
 simp[List.getD,agu (show k<xs.length by omega)]
theorem Pv{n:Nat}:rgQ n++[((n:Nat):Int)]=rgQ (n+1):=by simp[rgQ,List.range_succ]
theorem U8{n:Nat}{x:Int}(h:x∈rgQ n):0<=x/\x<((n:Nat):Int):=by
 obtain⟨j,hj,rfl⟩:=ahj.1 h
 have:=List.mem_range.1 hj
 exact⟨by omega,by omega⟩
theorem Ft{q:List GQ}:(Z3 q).length=q.length:=by simp
theorem mz{q:List GQ}{xs:List ByteArray}(hx:xs.length=q.length):(Z4 q xs).length=q.length:=by simp;omega
theorem j2{α:Type}{n:Nat}{a:α}:(List.replicate n a).length=n:=by simp
theorem Zf{α:Type}{n k:Nat}{a:α}:(List.replicate n a).set k a=List.replicate n a:=by
 apply List.ext_getElem (by simp)
 intro i h1 h2
 simp[List.getElem_set]
theorem V3{q:List GQ}{W:List ByteArray}(h:W.length=q.length):∃V:List ByteArray,V.length=q.length/\AV.tup [.tree 1 (W.map sA),.v (.bool true)]=.tup [.tree 1 (V.map sA),.v (.bool true)]:=⟨W,h,rfl⟩
theorem agh:bv Tryz.prog 65=true:=by kernel_rfl
theorem agf:bv Tryz.prog 69=true:=by kernel_rfl
theorem by4:(Tryz.prog.info? 4).map (·.bytes)=some 1:=by kernel_rfl
theorem Es:cp Tryz.prog 164 3=some (3,1):=by kernel_rfl
theorem Er:cp Tryz.prog 164 4=some (4,1):=by kernel_rfl
theorem Za:c9 Tryz.prog 164=some (some 5):=by kernel_rfl
theorem ac0:c9 Tryz.prog 4=some none:=by kernel_rfl
theorem U6:c9 Tryz.prog 58=some none:=by kernel_rfl
theorem ads:ap Tryz.prog 121=some 1:=by kernel_rfl
theorem Po(q:List GQ)(xs:List ByteArray)(h1:1<=q.length)(h8:q.length<=8)(hh:∀x∈q,x.h<=16)(hv:∀k (h:k<q.length),q[k].v=((k:Nat):Int))(hx:xs.length=q.length)
 (hX:∀k (h:k<q.length),PRet Tryz.prog 66 [.agg (kcR ⟨((q[k].h:Nat):Int),[tE q[k].v q[k].w],[]⟩),.v (.int .i64 1)] (fun r=>r=.tree 1 ([xs.getD k ⟨#[]⟩].map sA))):PRet Tryz.prog 44 [.agg (pbQ q)] (fun r=>∃V:List ByteArray,V.length=q.length/\r=.tup [.tree 1 (V.map sA),.v (.bool true)]):=by
 obtain⟨_,rfl,hf⟩:=Ij q h1 h8 hh hv
 refine ovT [25,32,40,41,44,45,46,50,51,54,55,56,61,62,64,65,67,75,76,77,79,83,89,90,95,96,97,101,102,107,114,115,116,131,137,138,146,149,154,157,160,161,168,180,181,182,100051,100079,100107,100182] [11,22,41,43,52] Tryz.func44 rfl rfl ?_
 refine OpG.mk _ _ _ 2 (a8 [(1,1)] agh hf rfl rfl rfl rfl trivial trivial ⟨au bm _ _,trivial⟩ rfl rfl rfl rfl (l7 bm rfl) rfl) rfl rfl ?_
 refine cF (OpG.lk (bo rfl Tryz.underlying160 rfl rfl rfl) ?_)
 refine LpG.on (fun k0:Nat=>(⟨fL [(4,.ptr 2 0 0),(5,.tree 1 (((rgQ q.length)).map iA)),(32,.v (.int .i64 ((q.length:Nat):Int))),(33,.v (.int .i64 ((k0:Nat):Int)))],hLz [(1,⟨0,rF kcR (((Z4 q xs)).take k0++(Z3 q).drop k0),5,false⟩),(2,⟨0,[.sl 1 0 0 q.length],0,false⟩)],3⟩:St)) (fun k0=>(q.length-k0)) (fun k0=>(k0<=q.length)) 0 (cO (.cons rfl rfl (.cons rfl rfl (.cons rfl rfl (.cons rfl rfl .nil)))) (.cons (by rfl) rfl (aa bm _ _) (.cons rfl rfl rfl .nil))) (ag6 _) ?_
 rintro k0 h0
 have hle_k0:=h0
 refine cL (fun hlt34=>?_) (fun hge34=>?_)
 ·have h7:k0<(((Z4 q xs)).take k0++(Z3 q).drop k0).length:=by rw[zl (mz hx) Ft];omega
  have eL0:(((Z4 q xs)).take k0++(Z3 q).drop k0)[k0]=⟨((q[k0].h:Nat):Int),[tE q[k0].v q[k0].w],[]⟩:=zg (mz hx) Ft (by omega) (fun h=>by simp) h7
  refine OpG.lk (ak (k:=k0) bm Tryz.underlying160 ni rfl rfl rfl (by omega) rfl) ?_
  refine OpG.lk (C7 bm Za rfl rfl h7 eL0) ?_
  refine OpG.lk (ak (k:=k0) bm Tryz.underlying160 ni rfl rfl rfl (by omega) rfl) ?_
  refine OpG.lk (cg Er (by decide) rfl rfl) ?_
  refine OpG.lk (ca (k:=k0) (o:=4) bm U6 rfl rfl h7 (by rw[eL0];rfl)) ?_
  refine⟨by omega,?_⟩
  refine ArgG.mk (hX k0 (by omega)) rfl ?_
  rintro _ rfl
  refine OpG.lk (ak (k:=k0) bm Tryz.underlying160 ni rfl rfl rfl (by omega) rfl) ?_
  refine OpG.lk (cg Es (by decide) rfl rfl) ?_
  refine OpG.wr (az (k:=k0) (o:=3) (v:=(z4k q[k0] (xs.getD k0 ⟨#[]⟩))) bm ads rfl rfl rfl rfl rfl rfl h7 (by decide) (by rw[eL0];rfl)) rfl ?_
  refine⟨by kernel_rfl,?_⟩
  refine OpG.lk (ak (k:=k0) bm Tryz.underlying160 ni rfl rfl rfl (by omega) rfl) ?_
  refine OpG.lk (cg Es (by decide) rfl rfl) ?_
  refine OpG.lk (ca (k:=k0) (o:=3) (v:=.tree 1 ([xs.getD k0 ⟨#[]⟩].map sA)) bm Ks rfl rfl (by rw[List.length_set];exact h7) (by rw[List.getElem_set_self];rfl)) ?_
  refine LenG.of (cF ?_)
  refine⟨by omega,?_⟩
  refine⟨(k0+1),by omega,(cO (.cons rfl rfl (.cons rfl rfl (.cons rfl rfl (.cons rfl rfl .nil)))) (.cons (by(rw[el (v:=(z4k q[k0] (xs.getD k0 ⟨#[]⟩))) ((mz hx).trans Ft.symm) (by rw[Ft];omega) (fun h=>(Js hx (by omega) _).symm)];rfl)) rfl (aa bm _ _) (.cons rfl rfl rfl .nil))),?_⟩
  omega
 refine RegG.via (fun _ h=>cd 1 ⟨0,rF kcR (Z4 q xs),5,false⟩ rfl (by rw[dq ((mz hx).trans Ft.symm) (by rw[Ft];omega)]) h) ?_
 refine ba ?_
 refine OpG.lk (bo rfl Tryz.underlying160 rfl rfl rfl) ?_
 refine OpG.nw (oe ck 0 3 (len:=q.length) Tryz.underlying58 sz3 zr3 by3 rfl rfl rfl rfl rfl (by omega) (by omega) (by omega)) rfl ?_
 refine OpG.lk (bo rfl Tryz.underlying160 rfl rfl rfl) ?_
 refine OpG.nw (oe dy false 4 (len:=q.length) Tryz.underlying166 sz4 zr4 by4 rfl rfl rfl rfl rfl (by omega) (by omega) (by omega)) rfl ?_
 refine OpG.lk (bo rfl Tryz.underlying160 rfl rfl rfl) ?_
 refine LpG.on (fun k2:Nat=>(⟨fL [(4,.ptr 2 0 0),(5,.tree 1 (((rgQ q.length)).map iA)),(8,.v (.slice none 0 0)),(9,.sl 3 0 0 q.length),(10,.sl 4 0 0 q.length),(67,.v (.int .i64 ((q.length:Nat):Int))),(68,.v (.int .i64 ((k2:Nat):Int)))],hLz [(1,⟨0,rF kcR (Z4 q xs),5,false⟩),(2,⟨0,[.sl 1 0 0 q.length],0,false⟩),(3,⟨0,rF iA (List.replicate q.length (0:Int)),1,false⟩),(4,⟨0,rF boA (List.replicate q.length false),1,false⟩)],5⟩:St)) (fun k2=>(q.length-k2)) (fun k2=>(k2<=q.length)) 0 (cO (.cons rfl rfl (.cons rfl rfl (.cons rfl rfl (.cons rfl rfl (.cons rfl rfl (.cons rfl rfl (.cons rfl rfl .nil))))))) (.cons rfl rfl (aa bm _ _) (.cons rfl rfl rfl (.cons (by rfl) rfl (aa ck _ _) (.cons rfl rfl (aa dy _ _) .nil))))) (ag6 _) ?_
 rintro k2 h0
 have hle_k2:=h0
 refine cL (fun hlt69=>?_) (fun hge69=>?_)
 ·refine OpG.lk (ak (k:=k2) bm Tryz.underlying160 ni rfl rfl rfl (by omega) rfl) ?_
  refine OpG.lk (cg Er (by decide) rfl rfl) ?_
  refine OpG.lk (ca (k:=k2) (o:=4) bm U6 rfl rfl (by rw[mz hx];omega) (by rw[Js hx (by omega)];rfl)) ?_
  refine OpG.lk (ak (k:=k2) ck Tryz.underlying58 sz3 rfl rfl rfl (by omega) rfl) ?_
  refine OpG.wr (az (k:=k2) (o:=0) (v:=0) ck sz3 rfl rfl rfl rfl rfl rfl (by rw[j2];omega) (by decide) rfl) rfl ?_
  refine⟨by omega,?_⟩
  refine⟨(k2+1),by omega,(cO (.cons rfl rfl (.cons rfl rfl (.cons rfl rfl (.cons rfl rfl (.cons rfl rfl (.cons rfl rfl (.cons rfl rfl .nil))))))) (.cons rfl rfl (aa bm _ _) (.cons rfl rfl rfl (.cons (by(rw[Zf];rfl)) rfl (aa ck _ _) (.cons rfl rfl (aa dy _ _) .nil))))),?_⟩
  omega
 refine w6 (ULp.step ?_)
 refine cT ?_
 skip
 refine ba ?_
 refine OpG.lk (bo rfl Tryz.underlying160 rfl rfl rfl) ?_
 refine LpG.via (fun _ h=>ic 8 1 rfl 6 rfl h) ?_
 refine LpG.on (fun k6:KL Int=>(⟨fL [(4,.ptr 2 0 0),(5,.tree 1 (((rgQ q.length)).map iA)),(8,.sl 5 k6.L.length 0 k6.L.length),(9,.sl 3 0 0 q.length),(10,.sl 4 0 0 q.length),(12,.v (.bool (Nat.blt 0 k6.k))),(83,.v (.int .i64 ((q.length:Nat):Int))),(84,.v (.int .i64 ((k6.k:Nat):Int)))],hLz [(1,⟨0,rF kcR (Z4 q xs),5,false⟩),(2,⟨0,[.sl 1 0 0 q.length],0,false⟩),(3,⟨0,rF iA (List.replicate q.length (0:Int)),1,false⟩),(4,⟨0,rF boA (((List.replicate q.length true)).take k6.k++((List.replicate q.length false)).drop k6.k),1,false⟩),(5,⟨k6.L.length,rF iA k6.L,1,Nat.beq k6.L.length 0⟩)],6⟩:St)) (fun k6=>(q.length-k6.k)) (fun k6=>(k6.k<=q.length/\(k6.L=rgQ k6.k))) (⟨0,[]⟩:KL Int) (cO (.cons rfl rfl (.cons rfl rfl (.cons (by rfl) rfl (.cons rfl rfl (.cons rfl rfl (.cons rfl rfl (.cons rfl rfl (.cons rfl rfl .nil)))))))) (.cons rfl rfl (aa bm _ _) (.cons rfl rfl rfl (.cons rfl rfl (aa ck _ _) (.cons (by rfl) rfl (aa dy _ _) (.cons (by rfl) rfl (aa ck _ _) .nil)))))) ⟨ag6 _,rfl⟩ ?_
 rintro k6 h0
 obtain⟨hle_k6,h2⟩:=h0
 refine cB (fun h5=>?_) (fun h5=>?_)
 ·have h9:k6.k<q.length:=Int.ofNat_lt.1 (ag4 h5)
  have hk6:k6.k<q.length:=by omega
  have hl6:k6.L.length=k6.k:=by rw[h2];simp
  have hc:k6.k<(((List.replicate q.length true)).take k6.k++((List.replicate q.length false)).drop k6.k).length:=by rw[zl j2 j2];omega
  have eb6:(((List.replicate q.length true)).take k6.k++((List.replicate q.length false)).drop k6.k)[k6.k]=false:=zg j2 j2 (by omega) (fun h=>by simp) hc
  refine OpG.lk (ak (k:=k6.k) dy Tryz.underlying166 sz4 rfl rfl rfl (by omega) rfl) ?_
  refine OpG.lk (ca (k:=k6.k) (o:=0) dy ac0 rfl rfl hc (by rw[eb6];rfl)) ?_
  refine cT (OpG.lk (ak (k:=k6.k) bm Tryz.underlying160 ni rfl rfl rfl (by omega) rfl) ?_)
  refine OpG.lk (cg Es (by decide) rfl rfl) ?_
  refine OpG.lk (ca (k:=k6.k) (o:=3) (v:=.tree 1 ([xs.getD k6.k ⟨#[]⟩].map sA)) bm Ks rfl rfl (by rw[mz hx];omega) (by rw[Js hx (by omega)];rfl)) ?_
  refine LenG.of (OpG.lk (ak (k:=k6.k) ck Tryz.underlying58 sz3 rfl rfl rfl (by omega) rfl) ?_)
  refine OpG.lk (ca (k:=k6.k) (o:=0) (v:=.v (.int .i64 0)) ck Sq rfl rfl (by rw[j2];omega) (by rw[List.getElem_replicate];rfl)) ?_
  refine⟨by kernel_rfl,?_⟩
  refine cT (OpG.lk (ak (k:=k6.k) dy Tryz.underlying166 sz4 rfl rfl rfl (by omega) rfl) ?_)
  refine OpG.wr (az (k:=k6.k) (o:=0) (v:=true) dy sz4 rfl rfl rfl rfl rfl rfl hc (by decide) rfl) rfl ?_
  refine OpG.mk _ _ _ 7 (bh ck (a:=((k6.k:Nat):Int)) Tryz.underlying58 sz3 zr3 by3 rfl rfl rfl (ce rfl rfl rfl rfl) rfl (by omega) (by omega) (by unfold TV;omega)) rfl rfl ?_
  refine OpG.lk (ak (k:=k6.k) bm Tryz.underlying160 ni rfl rfl rfl (by omega) rfl) ?_
  refine OpG.lk (cg Er (by decide) rfl rfl) ?_
  refine OpG.lk (ca (k:=k6.k) (o:=4) bm U6 rfl rfl (by rw[mz hx];omega) (by rw[Js hx (by omega)];rfl)) ?_
  refine LpG.exit ?_
  refine cF ⟨by omega,⟨(⟨k6.k+1,k6.L++[((k6.k:Nat):Int)]⟩:KL Int),(by show q.length-(k6.k+1)<q.length-k6.k;omega),(cO (.cons rfl rfl (.cons rfl rfl (.cons (by(rw[agx];rfl)) rfl (.cons rfl rfl (.cons rfl rfl (.cons rfl rfl (.cons rfl rfl (.cons rfl rfl .nil)))))))) (.cons rfl rfl (aa bm _ _) (.cons rfl rfl rfl (.cons rfl rfl (aa ck _ _) (.cons (by(rw[el (j2.trans j2.symm) (by rw[j2];omega) (fun h=>by simp)];rfl)) rfl (aa dy _ _) (.cons (by(rw[agx];rfl)) rfl (aa ck _ _) .nil)))))),?_⟩⟩
  refine⟨by show k6.k+1<=_;omega,?_⟩
  show k6.L++_=_
  rw[h2];exact Pv
 have ha:¬k6.k<q.length:=fun h=>ag3 h5 (Int.ofNat_lt.2 h)
 refine ULp.step ?_
 refine cB (fun hb=>?_) (fun hb=>?_)
 ·refine RegG.via (fun _ h=>cd 4 ⟨0,rF boA (List.replicate q.length true),1,false⟩ rfl (by rw[dq (j2.trans j2.symm) (by rw[j2];omega)]) h) ?_
  refine ba ?_
  refine OpG.lk (bo rfl Tryz.underlying160 rfl rfl rfl) ?_
  refine LpG.on (fun k6b:Nat=>(⟨fL [(4,.ptr 2 0 0),(5,.tree 1 (((rgQ q.length)).map iA)),(8,.sl 5 k6.L.length 0 k6.L.length),(9,.sl 3 0 0 q.length),(10,.sl 4 0 0 q.length),(12,.v (.bool false)),(83,.v (.int .i64 ((q.length:Nat):Int))),(84,.v (.int .i64 ((k6b:Nat):Int)))],hLz [(1,⟨0,rF kcR (Z4 q xs),5,false⟩),(2,⟨0,[.sl 1 0 0 q.length],0,false⟩),(3,⟨0,rF iA (List.replicate q.length (0:Int)),1,false⟩),(4,⟨0,rF boA (List.replicate q.length true),1,false⟩),(5,⟨k6.L.length,rF iA k6.L,1,Nat.beq k6.L.length 0⟩)],6⟩:St)) (fun k6b=>(q.length-k6b)) (fun k6b=>(k6b<=q.length)) 0 (cO (.cons rfl rfl (.cons rfl rfl (.cons rfl rfl (.cons rfl rfl (.cons rfl rfl (.cons rfl rfl (.cons rfl rfl (.cons rfl rfl .nil)))))))) (.cons rfl rfl (aa bm _ _) (.cons rfl rfl rfl (.cons rfl rfl (aa ck _ _) (.cons rfl rfl (aa dy _ _) (.cons rfl rfl (aa ck _ _) .nil)))))) (ag6 _) ?_
  rintro k6b h0
  have hle_k6b:=h0
  refine cL (fun h9=>?_) (fun ha=>?_)
  ·have hg:k6b<(List.replicate q.length true).length:=by rw[j2];omega
   have ec6:(List.replicate q.length true)[k6b]=true:=List.getElem_replicate ..
   refine OpG.lk (ak (k:=k6b) dy Tryz.underlying166 sz4 rfl rfl rfl (by omega) rfl) ?_
   refine OpG.lk (ca (k:=k6b) (o:=0) dy ac0 rfl rfl hg (by rw[ec6];rfl)) ?_
   refine cF ⟨by kernel_rfl,cF ?_⟩
   refine⟨by omega,?_⟩
   refine⟨(k6b+1),by omega,(cO (.cons rfl rfl (.cons rfl rfl (.cons rfl rfl (.cons rfl rfl (.cons rfl rfl (.cons rfl rfl (.cons rfl rfl (.cons rfl rfl .nil)))))))) (.cons rfl rfl (aa bm _ _) (.cons rfl rfl rfl (.cons rfl rfl (aa ck _ _) (.cons rfl rfl (aa dy _ _) (.cons rfl rfl (aa ck _ _) .nil)))))),?_⟩
   omega
  refine ULp.step ?_
  refine cF (OpG.lk (bo rfl Tryz.underlying160 rfl rfl rfl) ?_)
  refine LpG.on (fun k10:Nat=>(⟨fL [(4,.ptr 2 0 0),(5,.tree 1 (((rgQ q.length)).map iA)),(8,.sl 5 k6.L.length 0 k6.L.length),(10,.sl 4 0 0 q.length),(16,xf),(131,.v (.int .i64 ((q.length:Nat):Int))),(132,.v (.int .i64 ((k10:Nat):Int)))],hLz [(1,⟨0,rF kcR (Z4 q xs),5,false⟩),(2,⟨0,[.sl 1 0 0 q.length],0,false⟩),(4,⟨0,rF boA (List.replicate q.length true),1,false⟩),(5,⟨k6.L.length,rF iA k6.L,1,Nat.beq k6.L.length 0⟩)],6⟩:St)) (fun k10=>(q.length-k10)) (fun k10=>(k10<=q.length)) 0 (cO (.cons rfl rfl (.cons rfl rfl (.cons rfl rfl (.cons rfl rfl (.cons rfl rfl (.cons rfl rfl (.cons rfl rfl .nil))))))) (.cons rfl rfl (aa bm _ _) (.cons rfl rfl rfl (.cons rfl rfl (aa dy _ _) (.cons rfl rfl (aa ck _ _) .nil))))) (ag6 _) ?_
  rintro k10 h0
  have hle_k10:=h0
  refine cL (fun hlt133=>?_) (fun hge133=>?_)
  ·refine OpG.lk (ak (k:=k10) dy Tryz.underlying166 sz4 rfl rfl rfl (by omega) rfl) ?_
   refine OpG.lk (ca (k:=k10) (o:=0) (v:=.v (.bool true)) dy ac0 rfl rfl (by rw[j2];omega) (by rw[List.getElem_replicate];rfl)) ?_
   refine cF ⟨by omega,⟨(k10+1),by omega,(cO (.cons rfl rfl (.cons rfl rfl (.cons rfl rfl (.cons rfl rfl (.cons rfl rfl (.cons rfl rfl (.cons rfl rfl .nil))))))) (.cons rfl rfl (aa bm _ _) (.cons rfl rfl rfl (.cons rfl rfl (aa dy _ _) (.cons rfl rfl (aa ck _ _) .nil))))),?_⟩⟩
   omega
  have hL6:k6.L.length=q.length:=by rw[h2];simp;omega
  have hi:∀x∈k6.L,0<=x/\x<((q.length:Nat):Int):=fun x hx=>by rw[h2]at hx;have:=U8 hx;omega
  refine RegG.via (fun _ h=>cd 5 ⟨k6.L.length,rF iA k6.L,1,false⟩ rfl (by rw[jv (show k6.L.length≠0 by omega)]) h) ?_
  obtain⟨_,_,⟨rfl,L9,rfl,he,hj⟩,hk⟩:=Zc k6.L k6.L.length ((q.length:Nat):Int) (by omega) (by omega) hi
  refine ba ?_
  refine OpG.lk (C5) ?_
  refine ArgG.mk (adt) rfl ?_
  rintro _ rfl
  refine OpG.mk _ _ _ 6 (a8 [(1000000,5)] agf hk rfl rfl rfl rfl ⟨sX ck,trivial⟩ ⟨okB ck (fun h=>by cases h),trivial⟩ ⟨au ck _ _,trivial⟩ rfl rfl rfl rfl (l7 ck rfl) rfl) rfl rfl ?_
  refine RegG.via (fun _ h=>b8 [1] 2 0 0 [.sl 1 0 0 q.length] [.tree 5 ((Z4 q xs).map kcR)] rfl rfl (.fz (bn bm (agy.2 rfl) rfl (mz hx).symm) (.same [])) rfl h) ?_
  obtain⟨_,rfl,hl⟩:=Hh (cl:=(Z4 q xs)) (xs:=xs) (mz hx) (fun j h=>by rw[Js hx (by rw[mz hx]at h;exact h)]) (by omega) L9 (List.replicate q.length (⟨#[]⟩:ByteArray)) (List.replicate q.length false) j2 j2 hj
  have lW:(chF xs L9 (List.replicate q.length (⟨#[]⟩:ByteArray))).length=q.length:=by rw[Nq];exact j2
  refine ba ?_
  refine OpG.mk _ _ _ 7 (Fl (kl (u:=6) (m:=k6.L.length) (news:=rF iA L9) Tryz.underlying58 sz3 zr3 by3 rfl rfl (by simp) (Src.rowsF ck rfl he.symm (by omega)) (by omega) (by rw[ib ck];omega) (by omega) (by omega)) (fun η' h=>bn ck (l:=L9) (agy.2 rfl) h he.symm)) rfl rfl ?_
  refine LenG.of (OpG.nw (oe bt ⟨#[]⟩ 7 (len:=q.length) Tryz.underlying121 sz9 zr9 by9 rfl rfl rfl rfl (by rw[(mz hx)]) (by omega) (by omega) (by omega)) rfl ?_)
  refine LenG.of (OpG.nw (oe dy false 8 (len:=q.length) Tryz.underlying166 sz4 zr4 by4 rfl rfl rfl rfl (by rw[(mz hx)]) (by omega) (by omega) (by omega)) rfl ?_)
  refine OpG.mk _ _ _ 9 (a8 [(1000000,7),(1000001,8)] abz hl rfl rfl rfl rfl ⟨sX bt,sX dy,trivial⟩ ⟨okB bt (fun h=>by cases h),okB dy (fun h=>by cases h),trivial⟩ ⟨au bt _ _,au dy _ _,trivial⟩ rfl rfl rfl rfl (ym bt dy rfl rfl) rfl) rfl rfl ?_
  refine⟨by kernel_rfl,?_⟩
  refine cF (LenG.of ?_)
  refine OpG.nw (oe bt ⟨#[]⟩ 9 (len:=q.length) Tryz.underlying121 sz9 zr9 by9 rfl rfl rfl rfl (by rw[zj]) (by omega) (by omega) (by omega)) rfl ?_
  refine LenG.of (LpG.on (fun k12:Nat=>(⟨fL [(18,.sl 7 0 0 q.length),(20,.sl 9 0 0 q.length),(169,.tree 1 (((rgQ q.length)).map iA)),(170,.v (.int .i64 (((rgQ q.length).length:Nat):Int))),(171,.v (.int .i64 ((k12:Nat):Int)))],hLz [(7,⟨0,rF sA (chF xs L9 (List.replicate q.length (⟨#[]⟩:ByteArray))),1,false⟩),(9,⟨0,rF sA (((chF xs L9 (List.replicate q.length (⟨#[]⟩:ByteArray)))).take k12++((List.replicate q.length (⟨#[]⟩:ByteArray))).drop k12),1,false⟩)],10⟩:St)) (fun k12=>((rgQ q.length).length-k12)) (fun k12=>(k12<=(rgQ q.length).length)) 0 (cO (.cons rfl rfl (.cons rfl rfl (.cons rfl rfl (.cons rfl rfl (.cons rfl rfl .nil))))) (.cons rfl rfl (aa bt _ _) (.cons (by rfl) rfl (aa bt _ _) .nil))) (ag6 _) ?_)
  rintro k12 h0
  have hle_k12:=h0
  refine cL (fun hlt172=>?_) (fun h3=>?_)
  ·have h6:k12<(rgQ q.length).length:=by omega
   have h4:k12<q.length:=by rw[zj]at h6;exact h6
   have er12:=Kv h6
   have hd:k12<(chF xs L9 (List.replicate q.length (⟨#[]⟩:ByteArray))).length:=by rw[lW];exact h4
   refine IdxG.of ‹_› (OpG.lk (ak (k:=k12) bt Tryz.underlying121 sz9 rfl rfl er12 h4 rfl) ?_)
   refine OpG.lk (ca (k:=k12) (o:=0) bt ad1 rfl rfl hd rfl) ?_
   refine OpG.lk (ak (k:=k12) bt Tryz.underlying121 sz9 rfl rfl rfl h4 rfl) ?_
   refine OpG.wr (az (k:=k12) (o:=0) (v:=(chF xs L9 (List.replicate q.length (⟨#[]⟩:ByteArray)))[k12]) bt sz9 rfl rfl rfl rfl rfl rfl (by rw[zl lW j2];exact h4) (by decide) rfl) rfl ?_
   refine⟨by omega,?_⟩
   refine⟨(k12+1),by omega,(cO (.cons rfl rfl (.cons rfl rfl (.cons rfl rfl (.cons rfl rfl (.cons rfl rfl .nil))))) (.cons rfl rfl (aa bt _ _) (.cons (by(rw[el (v:=(chF xs L9 (List.replicate q.length (⟨#[]⟩:ByteArray)))[k12]) (lW.trans j2.symm) (by rw[j2];exact h4) (fun h=>rfl)];rfl)) rfl (aa bt _ _) .nil))),?_⟩
   omega
  refine RegG.via (fun _ h=>cd 9 ⟨0,rF sA (chF xs L9 (List.replicate q.length (⟨#[]⟩:ByteArray))),1,false⟩ rfl (by rw[dq (lW.trans j2.symm) (by rw[j2];rw[zj]at h3;exact h3)]) h) ?_
  refine ba ?_
  refine⟨.inr rfl,_,Og.two rfl (T7.tmp ⟨[9],bn bt (agy.2 rfl) rfl lW.symm⟩) (T7.tmp ⟨[],FzP.pure rfl⟩),?_⟩
  exact V3 lW
 exact absurd (hb.symm.trans (Nat.ble_eq_true_of_le (show 1<=k6.k by omega))) ahr
end Go.Proofs.YtmbmbhkemgmhfaaGreatDoor
