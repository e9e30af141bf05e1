/- Texts of the claim. -/
import Derived.Test.YtbhhmbchdponjaaGreatDoorF1
import Derived.Test.YtbhhmbchdponjaaGreatDoorQ2
import Derived.Test.YtbhhmbchdponjaaGreatDoorInf
namespace Go.Proofs.YtbhhmbchdponjaaGreatDoor
set_option linter.unusedVariables false
set_option linter.unusedSimpArgs false
open Go.RowKit
structure Pat (t:GTst) where
 S:List Int
 n:Int→Int→Int
 f:Int→Bool
 s0:Int
 ok:Prop
 i0:ok→s0∈S
 h0:ok→PRet Tryz.prog 206 [.agg (tsA t)] (fun q=>q=.v (.int .u32 s0))
 hn:ok→∀ s∈S,∀ k:Nat,k < 95→PRet Tryz.prog 205 [.agg (tsA t),.v (.int .u32 s),.v (.int .u8 (32+(k:Int)))] (fun q=>q=.v (.int .u32 (n s (32+(k:Int)))))∧n s (32+(k:Int))∈S
 hf:ok→∀ s∈S,PRet Tryz.prog 203 [.agg (tsA t),.v (.int .u32 s)] (fun q=>q=.v (.bool (f s)))
def Pat.none (t:GTst):Pat t:=⟨[],fun s _=>s,fun _=>false,0,False,fun h=>h.elim,fun h=>h.elim,fun h=>h.elim,fun h=>h.elim⟩
section
variable (M:(t:GTst)→Pat t)
def nxS:List GTst→List Int→Int→List Int
 | t :: ts,s :: l,c=>(M t).n s c :: nxS ts l c
 | _,_,_=>[]
def okS:List GTst→List Int→Bool
 | t :: ts,s :: l=>(M t).f s&&okS ts l
 | _,_=>true
structure InT (ts:List GTst) (l:List Int):Prop where
 len:l.length=ts.length
 mem:∀ k (h:k < ts.length) (h':k < l.length),l[k]∈(M ts[k]).S
def WS (ts:List GTst):Nat→List Int→List (List UInt8)
 | 0,l=>bif okS M ts l then [[]] else []
 | n+1,l=>(List.range 95).flatMap fun (k:Nat)=>(WS ts n (nxS M ts l (32+(k:Int)))).map (UInt8.ofNat (32+k) :: ·)
def WP (ts:List GTst) (n:Nat) (l:List Int) (k:Nat):List (List UInt8):=(List.range k).flatMap fun (k:Nat)=>(WS M ts n (nxS M ts l (32+(k:Int)))).map (UInt8.ofNat (32+k) :: ·)
end
section
variable {M:(t:GTst)→Pat t} {ts:List GTst} {l:List Int} {c:Int} {n k:Nat}
theorem nxS_len:∀ {ts:List GTst} {l:List Int},l.length=ts.length→(nxS M ts l c).length=ts.length
 | [],[],_=>rfl
 | [],_ :: _,h=>by simp at h
 | _ :: _,[],h=>by simp at h
 | t :: ts,s :: l,h=>by simp [nxS,nxS_len (ts:=ts) (l:=l) (by simpa using h)]
theorem nxS_get:∀ {ts:List GTst} {l:List Int} {k:Nat} (h:k < ts.length) (h':k < l.length) (h2:k < (nxS M ts l c).length),(nxS M ts l c)[k]=(M ts[k]).n l[k] c
 | [],_,_,h,_,_=>absurd h (by simp)
 | _ :: _,[],_,_,h,_=>absurd h (by simp)
 | t :: ts,s :: l,0,_,_,_=>rfl
 | t :: ts,s :: l,k+1,h,h',h2=>by
  have:=nxS_get (ts:=ts) (l:=l) (k:=k) (by simpa using h) (by simpa using h') (by simpa [nxS] using h2)
  simpa [nxS] using this
theorem InT.nx (h:InT M ts l) (hok:∀ t∈ts,(M t).ok) (hk:k < 95):InT M ts (nxS M ts l (32+(k:Int))):=by
 refine ⟨nxS_len h.len,fun j h1 h2=>?_⟩
 have h3:j < l.length:=by rw [h.len]; exact h1
 rw [nxS_get h1 h3]
 exact ((M ts[j]).hn (hok _ (List.getElem_mem h1)) _ (h.mem j h1 h3) k hk).2
theorem InT.start (hok:∀ t∈ts,(M t).ok):InT M ts (ts.map fun t=>(M t).s0):=⟨by simp,fun k h h'=>by simpa using (M ts[k]).i0 (hok _ (List.getElem_mem h))⟩
theorem okS_cut:∀ {ts:List GTst} {l:List Int} {k:Nat} (h:k < ts.length) (h':k < l.length),(M ts[k]).f l[k]=false→okS M ts l=false
 | [],_,_,h,_,_=>absurd h (by simp)
 | _ :: _,[],_,_,h,_=>absurd h (by simp)
 | t :: ts,s :: l,0,_,_,e=>by
  have e:(M t).f s=false:=e
  simp [okS,e]
 | t :: ts,s :: l,k+1,h,h',e=>by
  have:=okS_cut (ts:=ts) (l:=l) (k:=k) (by simpa using h) (by simpa using h') (by simpa using e)
  simp [okS,this]
theorem okS_all:∀ {ts:List GTst} {l:List Int},(∀ k (h:k < ts.length) (h':k < l.length),(M ts[k]).f l[k]=true)→okS M ts l=true
 | [],_,_=>rfl
 | _ :: _,[],_=>rfl
 | t :: ts,s :: l,e=>by
  have e0:(M t).f s=true:=e 0 (by simp) (by simp)
  have:=okS_all (ts:=ts) (l:=l) (fun k h h'=>e (k+1) (by simpa using h) (by simpa using h'))
  simp [okS,e0,this]
theorem WS_succ:WS M ts (n+1) l=WP M ts n l 95:=rfl
theorem WP_succ:WP M ts n l (k+1)=WP M ts n l k++(WS M ts n (nxS M ts l (32+(k:Int)))).map (UInt8.ofNat (32+k) :: ·):=by
 unfold WP; rw [List.range_succ,List.flatMap_append]; simp
theorem WP_pre:∀ {j:Nat},k≤j→∃ r,WP M ts n l j=WP M ts n l k++r
 | 0,h=>⟨[],by rw [show k=0 by omega]; simp⟩
 | j+1,h=>by
  by_cases e:k=j+1
  ·exact ⟨[],by rw [e]; simp⟩
  ·obtain ⟨r,hr⟩:=WP_pre (j:=j) (by omega)
   exact ⟨r++(WS M ts n (nxS M ts l (32+(j:Int)))).map (UInt8.ofNat (32+j) :: ·),by rw [WP_succ,hr,List.append_assoc]⟩
end
def txB (T w:List UInt8):ByteArray:=⟨(T++w).toArray⟩
def addO (most:Nat) (O:List ByteArray) (T:List UInt8) (ws:List (List UInt8)):List ByteArray:=O++(ws.take (most - O.length)).map (txB T)
theorem addO_nil {most:Nat} {O:List ByteArray} {T:List UInt8}:addO most O T []=O:=by simp [addO]
theorem addO_len {most:Nat} {O:List ByteArray} {T:List UInt8} {ws:List (List UInt8)}:(addO most O T ws).length=O.length+min (most - O.length) ws.length:=by simp [addO]
theorem addO_step {most:Nat} {O:List ByteArray} {T:List UInt8} {c:UInt8} {ws vs:List (List UInt8)}:addO most (addO most O T ws) (T++[c]) vs=addO most O T (ws++vs.map (c :: ·)):=by
 have e:=addO_len (most:=most) (O:=O) (T:=T) (ws:=ws)
 unfold addO at e ⊢
 rw [e,List.take_append,List.map_append,List.append_assoc]
 congr 2
 rw [← List.map_take,List.map_map]
 have e2:most - (O.length+min (most - O.length) ws.length)=most - O.length - ws.length:=by omega
 rw [e2]
 refine List.map_congr_left fun w _=>?_
 simp [txB,Function.comp]
theorem addO_more {most:Nat} {O:List ByteArray} {T:List UInt8} {ws r:List (List UInt8)} (h0:O.length < most) (h:¬ (addO most O T ws).length < most):addO most O T ws=addO most O T (ws++r)∧ws≠[]:=by
 rw [addO_len] at h
 have h1:most - O.length≤ws.length:=by omega
 refine ⟨by unfold addO; rw [List.take_append_of_le_length h1],fun e=>by subst e; simp at h1; omega⟩
structure Keys (M:(t:GTst)→Pat t) (ts:List GTst) (L:Nat) where
 kF:List Int→Nat→ByteArray
 hk:∀ l n,InT M ts l→1≤n→n≤L→PRet Tryz.prog 204 [.tree 1 (l.map uA32),.v (.int .i64 ((n:Nat):Int))] (fun q=>q=.v (.string (kF l n)))
 inj:∀ l l' n n',InT M ts l→InT M ts l'→1≤n→n≤L→1≤n'→n'≤L→kF l n=kF l' n'→l=l'∧n=n'
def DeadI {M:(t:GTst)→Pat t} {ts:List GTst} {L:Nat} (K:Keys M ts L) (D:List ByteArray):Prop:=∀ d∈D,∃ l n,InT M ts l∧1≤n∧n≤L∧d=K.kF l n∧WS M ts n l=[]
section
variable {M:(t:GTst)→Pat t} {ts:List GTst} {L:Nat} {K:Keys M ts L} {D:List ByteArray} {l:List Int} {n:Nat}
theorem DeadI.hit (h:DeadI K D) (hl:InT M ts l) (h1:1≤n) (h2:n≤L) (hh:hasS D (K.kF l n)=true):WS M ts n l=[]:=by
 obtain ⟨l',n',g1,g2,g3,g4,g5⟩:=h _ (hasS_mem hh)
 obtain ⟨rfl,rfl⟩:=K.inj l l' n n' hl g1 h1 h2 g2 g3 g4
 exact g5
theorem DeadI.add (h:DeadI K D) (hl:InT M ts l) (h1:1≤n) (h2:n≤L) (hw:WS M ts n l=[]):DeadI K (D++[K.kF l n]):=fun d hd=>by
 rcases List.mem_append.1 hd with hd | hd
 ·exact h d hd
 exact ⟨l,n,hl,h1,h2,List.mem_singleton.1 hd,hw⟩
end
abbrev fnB (ts:List GTst) (most:Nat) (O:List ByteArray):Blk:=⟨0,[.tree 4 (ts.map tsA),.v (.int .i64 ((most:Nat):Int)),.sl 1000001 O.length 0 O.length,.mp 1000002 0],0,false⟩
abbrev ouB (O:List ByteArray):Blk:=⟨O.length,rF sA O,1,Nat.beq O.length 0⟩
def cI (c:UInt8):Int:=Int.ofNat c.toNat
abbrev txK (T:List UInt8):Blk:=⟨0,rF uA (T.map cI),1,false⟩
theorem u8s_rF:∀ T:List UInt8,u8s (rF uA (T.map cI))=some T
 | []=>rfl
 | c :: T=>by
  have ih:=u8s_rF T
  have e:rF uA ((c :: T).map cI)=.v (.int .u8 (.ofNat c.toNat)) :: rF uA (T.map cI):=rF_cons
  have h:Nat.blt c.toNat 256=true:=by simpa [Nat.blt_eq] using c.toNat_lt
  rw [e]
  unfold u8s
  rw [h,ih]
  simp
structure FitTs (ts:List GTst):Prop where
 len:ts.length≤1000
 fit:∀ t∈ts,FitTst t
theorem by192:(Tryz.prog.info? 192).map (·.bytes)=some 4:=by kernel_rfl
theorem sz192:sizeInfo Tryz.prog 192=some 1:=by kernel_rfl
theorem zr192:zeroOf Tryz.prog 192=some (.int .u32 0):=by kernel_rfl
set_option maxRecDepth 100000 in
set_option maxHeartbeats 4000000 in
theorem fbegin_p (M:(t:GTst)→Pat t) (ts:List GTst) (hts:FitTs ts) (hok:∀ t∈ts,(M t).ok) (most:Nat) (O D:List ByteArray):HRet Tryz.prog 170 [.ptr 1000000 0 0] [(1000000,fnB ts most O),(1000001,ouB O),(1000002,mapS D)] [(1000000,some (fnB ts most O)),(1000001,some (ouB O)),(1000002,some (mapS D))] (fun q=>q=.tree 1 ((ts.map fun t=>(M t).s0).map uA32)):=by
 have hts1:=hts.len
 refine HRet.of_vc infOk [] [7] Tryz.func170 rfl Tryz.ntmps170 rfl (by kernel_rfl) (LenG.of ?_)
 refine LpG.via (fun _ h=>AWP.lazyT 3 1 rfl 1 rfl h) (LpG.on (fun k0:KL Int=>(⟨fL [(3,.sl 0 k0.L.length 0 k0.L.length),(9,.tree 4 (ts.map tsA)),(10,.v (.int .i64 ((ts.length:Nat):Int))),(11,.v (.int .i64 ((k0.k:Nat):Int)))],hLz [(0,⟨k0.L.length,rF uA32 k0.L,1,Nat.beq k0.L.length 0⟩),(1000000,fnB ts most O),(1000001,ouB O),(1000002,mapS D)],1⟩:St)) (fun k0=>(ts.length - k0.k)) (fun k0=>(k0.k≤ts.length∧k0.L=(ts.take k0.k).map fun t=>(M t).s0)) (⟨0,[]⟩:KL Int) (cO (.cons (by rfl) rfl (.cons rfl rfl (.cons rfl rfl (.cons rfl rfl .nil)))) (.cons (by rfl) rfl (rF_low row_u32 _ _) (.cons rfl rfl rfl (.cons rfl rfl (rF_low row_s _ _) (.cons rfl rfl (mapS_low _ _) .nil))))) ⟨Nat.zero_le _,rfl⟩ ?_)
 rintro k0 hinv
 obtain ⟨hle_k0,hi_k0⟩:=hinv
 refine cL (fun hlt12=>?_) (fun hge12=>?_)
 ·have hkl:k0.L.length≤1000:=by rw [hi_k0,List.length_map,List.length_take]; omega
  refine IdxG.of (by assumption) (ArgG.mk ((M ts[k0.k]).h0 (hok _ (List.getElem_mem (by assumption)))) rfl ?_)
  rintro _ rfl
  refine OpG.mk _ _ _ 3 (LOp.appRow row_u32 (a:=(M ts[k0.k]).s0) Tryz.underlying46 sz192 zr192 by192 rfl rfl rfl (Src.slB rfl rfl rfl rfl) rfl (by omega) (by omega) (by unfold TV; omega)) rfl rfl ⟨by omega,⟨(⟨k0.k+1,k0.L++[(M ts[k0.k]).s0]⟩:KL Int),(by show ts.length - (k0.k+1) < ts.length - k0.k; omega),(cO (.cons (by (rw [List.length_append]; rfl)) rfl (.cons rfl rfl (.cons rfl rfl (.cons rfl rfl .nil)))) (.cons (by (rw [List.length_append]; rfl)) rfl (rF_low row_u32 _ _) (.cons rfl rfl rfl (.cons rfl rfl (rF_low row_s _ _) (.cons rfl rfl (mapS_low _ _) .nil))))),?_⟩⟩
  refine ⟨by show k0.k+1≤_; omega,?_⟩
  show _++[_]=_
  rw [hi_k0,List.take_succ_eq_append_getElem hlt12,List.map_append]; rfl
 refine RegG.via (fun _ h=>AWP.freeze [0] 3 (.tree 1 (k0.L.map uA32)) (FzP.rows row_u32 (List.mem_singleton.2 rfl) rfl) rfl h) (RegG.go ?_)
 refine ⟨.inr rfl,_,OutsH.of [] (ResIs.res Tryz.results170 (.cons (OutX.tmp rfl) .nil)) rfl ⟨.same rfl (by decide),.same rfl (by decide),.same rfl (by decide),trivial⟩ .same,?_⟩
 rw [hi_k0,List.take_of_length_le (by omega)]; rfl
end Go.Proofs.YtbhhmbchdponjaaGreatDoor
namespace Go.Proofs.YtbhhmbchdponjaaGreatDoor
set_option linter.unusedVariables false
set_option linter.unusedSimpArgs false
open Go.RowKit
theorem txK_len (T:List UInt8):T.length=(rF uA (T.map cI)).length:=by rw [rF_len row_u8]; simp
theorem txCut {T:List UInt8} {c:UInt8}:txK T=⟨0,(rF uA ((T++[c]).map cI)).take T.length,1,false⟩:=by
 rw [List.map_append,rF_app,List.take_append_of_le_length (by rw [← txK_len]; exact Nat.le_refl _),List.take_of_length_le (by rw [← txK_len]; exact Nat.le_refl _)]
section
variable {m:List (Nat×Nat)} {η:Heap} {i:Nat} {ts:List GTst} {most:Nat} {O D:List ByteArray} {T:List UInt8} {n:Int} {c:UInt8} {g:Nat→Nat}
theorem ren1 (h:η i=some (ouB O)):η i=some ((ouB O).ren g):=by rw [h,rF_blk row_s]
theorem ren2 (h:η i=some (mapS D)):η i=some ((mapS D).ren g):=by rw [h,mapS_ren]
theorem ren3 (h:η i=some (txK T)):η i=some ((txK T).ren g):=by rw [h,rF_blk row_u8]
theorem txcA (h:uA n=uA (cI c)):(⟨0,setRange (rF uA (T.map cI)) (T.length * 1) (uA n),1,false⟩:Blk)=txK (T++[c]):=by
 have e:setRange (rF uA (T.map cI)) (T.length * 1) (uA n)=rF uA (T.map cI)++uA n:=by
  unfold setRange
  rw [Nat.mul_one,List.take_of_length_le (by rw [← txK_len]; exact Nat.le_refl _),List.drop_of_length_le (by rw [← txK_len]; simp)]; simp
 rw [e,h,← rF_snoc]; simp [txK]
theorem txcB (h:uA n=uA (cI c)):(⟨0,(rF uA (T.map cI)).take (T.length * 1)++uA n,1,false⟩:Blk)=txK (T++[c]):=by
 rw [Nat.mul_one,List.take_of_length_le (by rw [← txK_len]; exact Nat.le_refl _),h,← rF_snoc]; simp [txK]
theorem txcN (h:uA n=uA (cI c)):(⟨0,uA n,1,false⟩:Blk)=txK ([]++[c]):=by rw [h]; rfl
theorem okB4 {K:List Nat} (h:[1000001,1000002].all K.contains=true):allP (fun p:Nat×Blk=>okBlk K p.2) [(1000000,fnB ts most O),(1000001,ouB O),(1000002,mapS D),(1000003,txK T)]:=by
 simp only [List.all_cons,List.all_nil,Bool.and_true,Bool.and_eq_true] at h
 exact ⟨⟨by show (true&&(true&&(K.contains _&&(K.contains _&&true))))=true; rw [h.1,h.2]; rfl,.inl rfl⟩,rF_ok row_s,ok_mapS,⟨rF_in row_u8 _ _,.inl rfl⟩,trivial⟩
theorem okO4 {K:List Nat} (h:[1000001,1000002].all K.contains=true):allP (fun p:Nat×Option Blk=>okO K p.2) [(1000000,some (fnB ts most O)),(1000001,some (ouB O)),(1000002,some (mapS D)),(1000003,some (txK T))]:=by
 simp only [List.all_cons,List.all_nil,Bool.and_true,Bool.and_eq_true] at h
 exact ⟨by show (true&&(true&&(K.contains _&&(K.contains _&&true))))=true; rw [h.1,h.2]; rfl,rF_in row_s _ _,mapS_in _ _ _,rF_in row_u8 _ _,trivial⟩
theorem delta4:deltaH [(1000000,1000000),(1000001,1000001),(1000002,1000002),(1000003,i)] [(1000000,some (fnB ts most O)),(1000001,some (ouB O)),(1000002,some (mapS D)),(1000003,some (txK T))]=[(1000000,some (fnB ts most O)),(1000001,some (ouB O)),(1000002,some (mapS D)),(i,some (txK T))]:=by
 simp only [deltaH,List.map_cons,List.map_nil,Option.map_some,rF_blk row_s,rF_blk row_u8,mapS_ren]
 rfl
theorem arg4 {a b a' b' x x' y:AV} (h:a=a') (k:b=b') (e:x=x'):[a,b,x,y]=[a',b',x',y]:=by rw [h,k,e]
theorem slL {i:Nat}:AV.sl i 0 0 (T.length+1)=.sl i 0 0 (T++[c]).length:=by simp
theorem nTV:(0:Nat)≠TV:=by decide
end
theorem bod169:bodied Tryz.prog 169=true:=by kernel_rfl
theorem by5:(Tryz.prog.info? 5).map (·.bytes)=some 1:=by kernel_rfl
theorem sz5:sizeInfo Tryz.prog 5=some 1:=by kernel_rfl
theorem zr5:zeroOf Tryz.prog 5=some (.int .u8 0):=by kernel_rfl
set_option maxRecDepth 100000 in
set_option maxHeartbeats 4000000 in
theorem reg23B {ts:List GTst} {most:Nat} {l more:List Int} {T:List UInt8} {n n' k:Nat} {O O1 D D1:List ByteArray} {r b:Bool} {key:ByteArray} {τ:Nat→AV} {η:Heap} {y0 y1 y2 y3 y4 y5 y6 y7 y8 y9:TypeId} {p0 p1 p2 p3 p4 p5 p6 p7 p8 p9:String} {e0 e1 e2 e3 e4 e5 e6 e7 e8 e9:Array Edge} {ats:Array TypeId}
 (t0:τ 0=.ptr 1000000 0 0) (t1:τ 1=.tree 1 (l.map uA32)) (t2:τ 2=.sl 1000003 0 0 T.length) (t3:τ 3=.v (.int .i64 ((n':Nat):Int))) (t11:τ 11=.v (.string key)) (t12:τ 12=.v (.bool b)) (t13:τ 13=.v (.int .i32 (32+(k:Int)))) (t14:τ 14=.tree 1 (more.map uA32))
 (h0:η 1000000=some (fnB ts most O)) (h1:η 1000001=some (ouB O)) (h2:η 1000002=some (mapS D)) (h3:η 1000003=some (txK T)) (hT:T≠[]) (hTl:T.length≤100) (hk:k < 95) (hn':n'=n+1) (hn:n≤100)
 (hc:HCall Tryz.prog 169 [.ptr 1000000 0 0,.tree 1 (more.map uA32),.sl 1000003 0 0 (T++[UInt8.ofNat (32+k)]).length,.v (.int .i64 ((n:Nat):Int))] [(1000000,fnB ts most O),(1000001,ouB O),(1000002,mapS D),(1000003,txK (T++[UInt8.ofNat (32+k)]))] [(1000000,some (fnB ts most O1)),(1000001,some (ouB O1)),(1000002,some (mapS D1)),(1000003,some (txK (T++[UInt8.ofNat (32+k)])))] (.v (.bool r))) :
 AWP Tryz.prog 116 (.region 23 [⟨some 98,.move (.tmp 0),y0,p0,e0,none⟩,⟨some 99,.move (.tmp 14),y1,p1,e1,none⟩,⟨some 100,.move (.tmp 2),y2,p2,e2,none⟩,⟨some 101,.move (.tmp 13),y3,p3,e3,none⟩,⟨some 102,.convert 21 5 (.tmp 101),y4,p4,e4,none⟩,⟨some 103,.buildSlice 160 1 #[(0,.tmp 102)],y5,p5,e5,none⟩,⟨some 104,.call { callee:=.builtin .append,args:=#[.tmp 100,.tmp 103],argTypes:=#[160,160] },y6,p6,e6,none⟩,⟨some 105,.move (.tmp 3),y7,p7,e7,none⟩,⟨some 106,.binOp .sub 3 (.tmp 105) (.const (.int .i64 1)) 3,y8,p8,e8,none⟩,⟨some 107,.call { callee:=.value (.func 169),args:=#[.tmp 98,.tmp 99,.tmp 104,.tmp 106],argTypes:=ats },y9,p9,e9,none⟩].toArray false) (fun e1 s0=>e1=.normal∧WkS s0 ⟨fL [(107,.v (.bool r)),(0,.ptr 1000000 0 0),(1,.tree 1 (l.map uA32)),(2,.sl 1000003 0 0 T.length),(3,.v (.int .i64 ((n':Nat):Int))),(11,.v (.string key)),(12,.v (.bool b)),(13,.v (.int .i32 (32+(k:Int))))],hLz [(1000000,fnB ts most O1),(1000001,ouB O1),(1000002,mapS D1),(1000003,txK T)],0⟩) ⟨τ,η,1⟩:=by
 subst hn'
 have hcv:uA (32+(k:Int))=uA (cI (UInt8.ofNat (32+k))):=by
  unfold cI; rw [UInt8.toNat_ofNat',Nat.mod_eq_of_lt (by omega)]; simp
 have hex:((n+1:Nat):Int) - 1=((n:Nat):Int):=by omega
 refine wR (oL (LOp.move _) rfl rfl ?_)
 refine oL (LOp.move _) rfl rfl (oL (LOp.move _) rfl rfl ?_)
 refine oL (LOp.move _) rfl rfl (oL (LOp.cvtB (m:=32+(k:Int)) Tryz.underlying21 Tryz.underlying5 t13 (by omega) (by omega)) rfl rfl ?_)
 refine oW (LOp.bs (u:=1) Tryz.underlying160 sz5 zr5 rfl rfl rfl rfl) rfl rfl 2 rfl (AOps.append2 (u:=2) (m:=1) (news:=uA (32+(k:Int))) Tryz.underlying160 sz5 zr5 by5 rfl t2 h3 rfl rfl rfl (by decide) (by rw [Nat.mul_one]; exact Nat.le_of_eq (txK_len T)) (List.length_pos_iff.2 hT) (Src.sl rfl rfl rfl rfl rfl) (by decide) rfl rfl (by omega) (by omega) rfl rfl rfl ?_ ?_)
 ·refine oL (LOp.move _) rfl rfl (oL (LOp.subI (m:=((n+1:Nat):Int)) (n:=1) t3 rfl (by omega) (by omega)) rfl rfl ?_)
  rw [hex]
  refine AOps.gv (LOp.callH [(1000000,1000000),(1000001,1000001),(1000002,1000002),(1000003,1000003)] bod169 hc rfl rfl rfl rfl ⟨h0,ren1 h1,ren2 h2,ren3 (congrArg some (txcA hcv)),trivial⟩ (okB4 rfl) (okO4 rfl) rfl rfl (arg4 t0 t14 (slL (T:=T))) rfl delta4 rfl) rfl rfl 2 rfl rfl (oN ⟨rfl,WkS.trans (WkS.cut (id:=1000003) T.length rfl rfl nTV (b':=txK T) txCut) <| Canon.wks (cO (.cons rfl rfl (.cons t0 rfl (.cons t1 rfl (.cons t2 rfl (.cons t3 rfl (.cons t11 rfl (.cons t12 rfl (.cons t13 rfl (.nil))))))))) (.cons rfl rfl rfl (.cons rfl rfl (rF_low row_s _ _) (.cons rfl rfl (mapS_low _ _) (.cons rfl rfl (rF_low row_u8 _ _) .nil)))))⟩)
 refine oL (LOp.move _) rfl rfl (oL (LOp.subI (m:=((n+1:Nat):Int)) (n:=1) t3 rfl (by omega) (by omega)) rfl rfl ?_)
 rw [hex]
 refine AOps.gv (LOp.callH [(1000000,1000000),(1000001,1000001),(1000002,1000002),(1000003,2)] bod169 hc rfl rfl rfl rfl ⟨h0,ren1 h1,ren2 h2,ren3 (congrArg some (txcB hcv)),trivial⟩ (okB4 rfl) (okO4 rfl) rfl rfl (arg4 t0 t14 (slL (T:=T))) rfl delta4 rfl) rfl rfl 3 rfl rfl (oN ⟨rfl,Canon.wks (cO (.cons rfl rfl (.cons t0 rfl (.cons t1 rfl (.cons t2 rfl (.cons t3 rfl (.cons t11 rfl (.cons t12 rfl (.cons t13 rfl (.nil))))))))) (.cons rfl rfl rfl (.cons rfl rfl (rF_low row_s _ _) (.cons rfl rfl (mapS_low _ _) (.cons h3 rfl (rF_low row_u8 _ _) .nil)))))⟩)
set_option maxRecDepth 100000 in
set_option maxHeartbeats 4000000 in
theorem reg23N {ts:List GTst} {most:Nat} {l more:List Int} {n n' k:Nat} {O O1 D D1:List ByteArray} {r b:Bool} {key:ByteArray} {τ:Nat→AV} {η:Heap} {y0 y1 y2 y3 y4 y5 y6 y7 y8 y9:TypeId} {p0 p1 p2 p3 p4 p5 p6 p7 p8 p9:String} {e0 e1 e2 e3 e4 e5 e6 e7 e8 e9:Array Edge} {ats:Array TypeId}
 (t0:τ 0=.ptr 1000000 0 0) (t1:τ 1=.tree 1 (l.map uA32)) (t2:τ 2=.v (.slice none 0 0)) (t3:τ 3=.v (.int .i64 ((n':Nat):Int))) (t11:τ 11=.v (.string key)) (t12:τ 12=.v (.bool b)) (t13:τ 13=.v (.int .i32 (32+(k:Int)))) (t14:τ 14=.tree 1 (more.map uA32))
 (h0:η 1000000=some (fnB ts most O)) (h1:η 1000001=some (ouB O)) (h2:η 1000002=some (mapS D)) (hk:k < 95) (hn':n'=n+1) (hn:n≤100)
 (hc:HCall Tryz.prog 169 [.ptr 1000000 0 0,.tree 1 (more.map uA32),.sl 1000003 0 0 (([]:List UInt8)++[UInt8.ofNat (32+k)]).length,.v (.int .i64 ((n:Nat):Int))] [(1000000,fnB ts most O),(1000001,ouB O),(1000002,mapS D),(1000003,txK (([]:List UInt8)++[UInt8.ofNat (32+k)]))] [(1000000,some (fnB ts most O1)),(1000001,some (ouB O1)),(1000002,some (mapS D1)),(1000003,some (txK (([]:List UInt8)++[UInt8.ofNat (32+k)])))] (.v (.bool r))) :
 AWP Tryz.prog 116 (.region 23 [⟨some 98,.move (.tmp 0),y0,p0,e0,none⟩,⟨some 99,.move (.tmp 14),y1,p1,e1,none⟩,⟨some 100,.move (.tmp 2),y2,p2,e2,none⟩,⟨some 101,.move (.tmp 13),y3,p3,e3,none⟩,⟨some 102,.convert 21 5 (.tmp 101),y4,p4,e4,none⟩,⟨some 103,.buildSlice 160 1 #[(0,.tmp 102)],y5,p5,e5,none⟩,⟨some 104,.call { callee:=.builtin .append,args:=#[.tmp 100,.tmp 103],argTypes:=#[160,160] },y6,p6,e6,none⟩,⟨some 105,.move (.tmp 3),y7,p7,e7,none⟩,⟨some 106,.binOp .sub 3 (.tmp 105) (.const (.int .i64 1)) 3,y8,p8,e8,none⟩,⟨some 107,.call { callee:=.value (.func 169),args:=#[.tmp 98,.tmp 99,.tmp 104,.tmp 106],argTypes:=ats },y9,p9,e9,none⟩].toArray false) (fun e1 s0=>e1=.normal∧WkS s0 ⟨fL [(107,.v (.bool r)),(0,.ptr 1000000 0 0),(1,.tree 1 (l.map uA32)),(2,.v (.slice none 0 0)),(3,.v (.int .i64 ((n':Nat):Int))),(11,.v (.string key)),(12,.v (.bool b)),(13,.v (.int .i32 (32+(k:Int))))],hLz [(1000000,fnB ts most O1),(1000001,ouB O1),(1000002,mapS D1)],0⟩) ⟨τ,η,1⟩:=by
 subst hn'
 have hcv:uA (32+(k:Int))=uA (cI (UInt8.ofNat (32+k))):=by
  unfold cI; rw [UInt8.toNat_ofNat',Nat.mod_eq_of_lt (by omega)]; simp
 have hex:((n+1:Nat):Int) - 1=((n:Nat):Int):=by omega
 refine wR (oL (LOp.move _) rfl rfl ?_)
 refine oL (LOp.move _) rfl rfl (oL (LOp.move _) rfl rfl ?_)
 refine oL (LOp.move _) rfl rfl (oL (LOp.cvtB (m:=32+(k:Int)) Tryz.underlying21 Tryz.underlying5 t13 (by omega) (by omega)) rfl rfl ?_)
 refine oW (LOp.bs (u:=1) Tryz.underlying160 sz5 zr5 rfl rfl rfl rfl) rfl rfl 2 rfl (AOps.gv (LOp.appendN (u:=2) (m:=1) (news:=uA (32+(k:Int))) Tryz.underlying160 sz5 zr5 by5 rfl t2 (by decide) (Src.sl rfl rfl rfl rfl rfl) (by decide) rfl (by decide) (by decide)) rfl rfl 3 rfl rfl ?_)
 refine oL (LOp.move _) rfl rfl (oL (LOp.subI (m:=((n+1:Nat):Int)) (n:=1) t3 rfl (by omega) (by omega)) rfl rfl ?_)
 rw [hex]
 refine AOps.gv (LOp.callH [(1000000,1000000),(1000001,1000001),(1000002,1000002),(1000003,2)] bod169 hc rfl rfl rfl rfl ⟨h0,ren1 h1,ren2 h2,ren3 (congrArg some (txcN hcv)),trivial⟩ (okB4 rfl) (okO4 rfl) rfl rfl (arg4 t0 t14 (slL (T:=([]:List UInt8)))) rfl delta4 rfl) rfl rfl 3 rfl rfl (oN ⟨rfl,Canon.wks (cO (.cons rfl rfl (.cons t0 rfl (.cons t1 rfl (.cons t2 rfl (.cons t3 rfl (.cons t11 rfl (.cons t12 rfl (.cons t13 rfl (.nil))))))))) (.cons rfl rfl rfl (.cons rfl rfl (rF_low row_s _ _) (.cons rfl rfl (mapS_low _ _) (.nil)))))⟩)
end Go.Proofs.YtbhhmbchdponjaaGreatDoor
namespace Go.Proofs.YtbhhmbchdponjaaGreatDoor
set_option linter.unusedVariables false
set_option linter.unusedSimpArgs false
open Go.RowKit
def FindOK (M:(t:GTst)→Pat t) (ts:List GTst) (most:Nat) {L:Nat} (K:Keys M ts L) (n:Nat):Prop:=∀ (l:List Int) (T:List UInt8) (O D:List ByteArray),InT M ts l→T≠[]→T.length+n≤100→O.length < most→DeadI K D →
 HRetX Tryz.prog 169 [.ptr 1000000 0 0,.tree 1 (l.map uA32),.sl 1000003 0 0 T.length,.v (.int .i64 ((n:Nat):Int))] [(1000000,fnB ts most O),(1000001,ouB O),(1000002,mapS D),(1000003,txK T)] (fun q hb2=>∃ D2,DeadI K D2∧q=.v (.bool (!(WS M ts n l).isEmpty))∧hb2=[(1000000,some (fnB ts most (addO most O T (WS M ts n l)))),(1000001,some (ouB (addO most O T (WS M ts n l)))),(1000002,some (mapS D2)),(1000003,some (txK T))])
theorem sv_len {O:List ByteArray} {x:ByteArray}:O.length+1=(O++[x]).length:=by simp
theorem svO {O:List ByteArray} {x:ByteArray}:some (⟨O.length+1,rF sA (O++[x]),1,Nat.beq (O++[x]).length 0⟩:Blk)=some (ouB (O++[x])):=by rw [sv_len (x:=x)]
theorem svF {ts:List GTst} {most:Nat} {O:List ByteArray} {x:ByteArray}:some (⟨0,[.tree 4 (ts.map tsA),.v (.int .i64 ((most:Nat):Int)),.sl 1000001 (O.length+1) 0 (O++[x]).length,.mp 1000002 0],0,false⟩:Blk)=some (fnB ts most (O++[x])):=by rw [sv_len (x:=x)]
theorem takeK (T:List UInt8):takeFrom 0 (rF uA (T.map cI)).length (rF uA (T.map cI))=some (rF uA (T.map cI)):=by
 have:∀ l:List AV,takeFrom 0 l.length l=some l:=fun l=>by
  induction l with
  | nil=>rfl
  | cons a r ih=>exact takeN_self _
 exact this _
theorem FzP.rowsG {α:Type} {f:α→List AV} {q:Nat} (h:RowF f q) {fp:List Nat} {η:Heap} {id v n:Nat} {l:List α} (hid:id∈fp) (hb:η id=some ⟨v,rF f l,q,false⟩) (hn:n=l.length):FzP fp η (.sl id v 0 n) (.tree q (l.map f)):=by subst hn; exact FzP.rowsF h hid hb
structure KFd where
 k:Nat
 b:Bool
 O:List ByteArray
 D:List ByteArray
theorem addO_one {most:Nat} {O:List ByteArray} {T:List UInt8} (h:O.length < most):addO most O T [[]]=O++[(⟨T.toArray⟩:ByteArray)]:=by
 unfold addO
 rw [show most - O.length=(most - O.length - 1)+1 by omega]
 simp [txB]
section
variable {M:(t:GTst)→Pat t} {ts:List GTst} {l:List Int} {c:Int} {n n1 k most L:Nat} {X:List Int} {T:List UInt8} {O O1 D D1:List ByteArray} {K:Keys M ts L} {b:Bool}
theorem more_len (hk:k < ts.length) (hin:InT M ts l):k < ((nxS M ts l c).take k++List.replicate (l.length - k) 0).length:=by
 have:=nxS_len (M:=M) (c:=c) hin.len
 have:=hin.len
 simp; omega
theorem more_next (hin:InT M ts l) (h:X=(nxS M ts l c).take k++List.replicate (l.length - k) 0) (hk:k < ts.length) {h':k < l.length}:X.set k ((M ts[k]).n l[k] c)=(nxS M ts l c).take (k+1)++List.replicate (l.length - (k+1)) 0:=by
 have e1:=nxS_len (M:=M) (c:=c) hin.len
 have h2:k < (nxS M ts l c).length:=by omega
 have e3:((nxS M ts l c).take k).length=k:=by rw [List.length_take]; omega
 rw [h,List.set_append_right _ _ (by omega),e3,show l.length - k=(l.length - (k+1))+1 by omega,List.replicate_succ,Nat.sub_self,List.set_cons_zero,List.take_succ_eq_append_getElem h2,nxS_get hk h' h2]
 simp
theorem more_end (hin:InT M ts l) (h:X=(nxS M ts l c).take k++List.replicate (l.length - k) 0) (h1:k≤ts.length) (h2:¬ k < ts.length):X=nxS M ts l c:=by
 have e1:=nxS_len (M:=M) (c:=c) hin.len
 have:=hin.len
 rw [h,List.take_of_length_le (by omega),show l.length - k=0 by omega]; simp
theorem emp_app {α:Type} (a b:List α):(a++b).isEmpty=(a.isEmpty&&b.isEmpty):=by cases a <;> rfl
theorem emp_map {α β:Type} (f:α→β) (a:List α):(a.map f).isEmpty=a.isEmpty:=by cases a <;> rfl
theorem find_end1 (hn:n=n1+1) (hb:b=!(WP M ts n1 l k).isEmpty) (hO:O1=addO most O T (WP M ts n1 l k)) (hk:¬ k < 95) (hk2:k≤95):b=!(WS M ts n l).isEmpty∧O1=addO most O T (WS M ts n l):=by
 obtain rfl:k=95:=by omega
 subst hn; exact ⟨hb,hO⟩
theorem find_end2 (h0:O.length < most) (hn:n=n1+1) (hb:b=!(WP M ts n1 l k).isEmpty) (hO:O1=addO most O T (WP M ts n1 l k)) (hm:¬ O1.length < most) (hk2:k≤95):b=!(WS M ts n l).isEmpty∧O1=addO most O T (WS M ts n l):=by
 obtain ⟨r,hr⟩:=WP_pre (M:=M) (ts:=ts) (n:=n1) (l:=l) hk2
 subst hn hO
 obtain ⟨e1,e2⟩:=addO_more (r:=r) h0 hm
 rw [WS_succ,hr,← e1]
 refine ⟨?_,rfl⟩
 rw [hb,emp_app]
 cases h:WP M ts n1 l k with
 | nil=>exact absurd h e2
 | cons a q=>rfl
theorem find_next (hb:b=!(WP M ts n1 l k).isEmpty) (hO:O1=addO most O T (WP M ts n1 l k)) (hD:DeadI K D1) {v:Bool} (hv:(!(WS M ts n1 (nxS M ts l (32+(k:Int)))).isEmpty)=v) :
 (bif v then true else b)=!(WP M ts n1 l (k+1)).isEmpty∧addO most O1 (T++[UInt8.ofNat (32+k)]) (WS M ts n1 (nxS M ts l (32+(k:Int))))=addO most O T (WP M ts n1 l (k+1))∧DeadI K D1:=by
 refine ⟨?_,by rw [hO,addO_step,WP_succ],hD⟩
 rw [WP_succ,emp_app,emp_map,← hv,hb]
 cases (WP M ts n1 l k).isEmpty <;> cases (WS M ts n1 (nxS M ts l (32+(k:Int)))).isEmpty <;> rfl
theorem DeadI.ins (h:DeadI K D) (hl:InT M ts l) (h1:1≤n) (h2:n≤L) (hw:WS M ts n l=[]):DeadI K (insS D (K.kF l n)):=by
 unfold insS
 cases hasS D (K.kF l n)
 ·exact h.add hl h1 h2 hw
 exact h
end
theorem by9:(Tryz.prog.info? 9).map (·.bytes)=some 16:=by kernel_rfl
theorem sz9:sizeInfo Tryz.prog 9=some 1:=by kernel_rfl
theorem zr4:zeroOf Tryz.prog 4=some (.bool false):=by kernel_rfl
theorem zr9:zeroOf Tryz.prog 9=some (.string ⟨#[]⟩):=by kernel_rfl
set_option maxRecDepth 100000 in
set_option maxHeartbeats 4000000 in
theorem findB_w (M:(t:GTst)→Pat t) (ts:List GTst) (hts:FitTs ts) (hok:∀ t∈ts,(M t).ok) (most:Nat) (hne:ts≠[]) {L:Nat} (K:Keys M ts L) (n:Nat) (l:List Int) (T:List UInt8) (hTn:T≠[]) (hTl:T.length+n≤100) (O D:List ByteArray) (hin:InT M ts l) (hnL:n≤L) (hL:L≤99) (hO:O.length < most) (hmo:most≤1000000) (hD:DeadI K D) (IH:∀ m,m+1=n→FindOK M ts most K m):HRetX Tryz.prog 169 [.ptr 1000000 0 0,.tree 1 (l.map uA32),.sl 1000003 0 0 T.length,.v (.int .i64 ((n:Nat):Int))] [(1000000,fnB ts most O),(1000001,ouB O),(1000002,mapS D),(1000003,txK T)] (fun q hb2=>∃ D2,DeadI K D2∧q=.v (.bool (!(WS M ts n l).isEmpty))∧hb2=[(1000000,some (fnB ts most (addO most O T (WS M ts n l)))),(1000001,some (ouB (addO most O T (WS M ts n l)))),(1000002,some (mapS D2)),(1000003,some (txK T))]):=by
 have hts1:=hts.len
 have hll:=hin.len
 have hl0:l.length≠0:=fun e=>hne (List.eq_nil_of_length_eq_zero (by omega))
 have hT0:0 < T.length:=List.length_pos_iff.2 hTn
 refine HRetX.of_vc infOk [43,45,56,58,64,72,75,94,96,100096] [23] Tryz.func169 rfl Tryz.ntmps169 rfl (by kernel_rfl) (cE (fun hq18=>?_) (fun hq18=>?_))
 ·obtain rfl:n=0:=by omega
  refine LenG.of (LpG.on (fun k0:Nat=>(⟨fL [(0,.ptr 1000000 0 0),(1,.tree 1 (l.map uA32)),(2,.sl 1000003 0 0 T.length),(22,.tree 4 (ts.map tsA)),(23,.v (.int .i64 ((ts.length:Nat):Int))),(24,.v (.int .i64 ((k0:Nat):Int)))],hLz [(1000000,fnB ts most O),(1000001,ouB O),(1000002,mapS D),(1000003,txK T)],0⟩:St)) (fun k0=>(ts.length - k0)) (fun k0=>(k0≤ts.length∧∀ j (hl:j < ts.length),j < k0→∀ h2:j < l.length,(M ts[j]).f l[j]=true)) 0 (cO (.cons rfl rfl (.cons rfl rfl (.cons rfl rfl (.cons rfl rfl (.cons rfl rfl (.cons rfl rfl .nil)))))) (.cons rfl rfl rfl (.cons rfl rfl (rF_low row_s _ _) (.cons rfl rfl (mapS_low _ _) (.cons rfl rfl (rF_low row_u8 _ _) .nil))))) ⟨Nat.zero_le _,fun j _ h=>absurd h (Nat.not_lt_zero j)⟩ ?_)
  rintro k0 hinv
  obtain ⟨hle_k0,hj_k0⟩:=hinv
  refine cL (fun hlt25=>?_) (fun hge25=>?_)
  ·refine IdxG.of (by assumption) (IdxG.of (by omega) ?_)
   refine ArgG.mk ((M ts[k0]).hf (hok _ (List.getElem_mem (by assumption))) _ (hin.mem k0 (by assumption) (by omega))) rfl ?_
   rintro _ rfl
   refine ⟨by kernel_rfl,cB (fun hc35=>?_) (fun hc35=>?_)⟩
   ·have hf35:(M ts[k0]).f l[k0]=false:=by simpa using hc35
    exact ⟨.inr rfl,_,_,OutsH.of (hb':=[(1000000,some (fnB ts most O)),(1000001,some (ouB O)),(1000002,some (mapS D)),(1000003,some (txK T))]) [] (ResIs.res Tryz.results169 (.cons (OutX.tmp rfl) .nil)) rfl ⟨.same rfl (by decide),.same rfl (by decide),.same rfl (by decide),.same rfl (by decide),trivial⟩ .same,⟨D,hD,by rw [show WS M ts 0 l=[] from by unfold WS; rw [okS_cut hlt25 (by omega) hf35]; rfl]; rfl,by rw [show WS M ts 0 l=[] from by unfold WS; rw [okS_cut hlt25 (by omega) hf35]; rfl,addO_nil]⟩⟩
   refine ⟨by omega,⟨(k0+1),by omega,(cO (.cons rfl rfl (.cons rfl rfl (.cons rfl rfl (.cons rfl rfl (.cons rfl rfl (.cons rfl rfl .nil)))))) (.cons rfl rfl rfl (.cons rfl rfl (rF_low row_s _ _) (.cons rfl rfl (mapS_low _ _) (.cons rfl rfl (rF_low row_u8 _ _) .nil))))),?_⟩⟩
   refine ⟨by omega,fun j hl h=>?_⟩
   rcases Nat.lt_succ_iff_lt_or_eq.1 h with h | rfl
   ·exact hj_k0 j hl h
   exact fun _=>by simpa using hc35
  refine OpG.lk (LOp.convBS (l:=T) Tryz.underlying160 Tryz.underlying5 Tryz.underlying9 (Src.sl rfl rfl rfl (beq_ne (by omega)) (takeK T)) (u8s_rF T) rfl) (OpG.mk _ _ _ 1 (LOp.appRow row_s (l:=O) (a:=(⟨T.toArray⟩:ByteArray)) Tryz.underlying112 sz9 zr9 by9 rfl rfl rfl (Src.slB rfl rfl rfl rfl) rfl (by omega) (by omega) (by unfold TV; omega)) rfl rfl ?_)
  refine ⟨by kernel_rfl,⟨.inr rfl,_,_,OutsH.of (hb':=[(1000000,some (fnB ts most (O++[(⟨T.toArray⟩:ByteArray)]))),(1000001,some (ouB (O++[(⟨T.toArray⟩:ByteArray)]))),(1000002,some (mapS D)),(1000003,some (txK T))]) [] (ResIs.res Tryz.results169 (.cons (OutX.tmp rfl) .nil)) rfl ⟨.same svF (by decide),.same svO (by decide),.same rfl (by decide),.same rfl (by decide),trivial⟩ .same,?_⟩⟩
  exact ⟨D,hD,by rw [show WS M ts 0 l=[[]] from by unfold WS; rw [okS_all (fun k h h'=>hj_k0 k h (by omega) h')]; rfl]; rfl,by rw [show WS M ts 0 l=[[]] from by unfold WS; rw [okS_all (fun k h h'=>hj_k0 k h (by omega) h')]; rfl,addO_one hO]⟩
 obtain ⟨n1,hn1⟩:∃ m,n=m+1:=⟨n - 1,by omega⟩
 refine ArgG.mk (K.hk l n hin (by omega) hnL) rfl ?_
 rintro _ rfl
 refine OpG.lk (LOp.hasS (L:=D) (k:=K.kF l n) Tryz.underlying233 Tryz.underlying9 zr4 rfl rfl rfl) (cB (fun hc56=>?_) (fun hc56=>?_))
 ·exact ⟨.inr rfl,_,_,OutsH.of (hb':=[(1000000,some (fnB ts most O)),(1000001,some (ouB O)),(1000002,some (mapS D)),(1000003,some (txK T))]) [] (ResIs.res Tryz.results169 (.cons (OutX.tmp rfl) .nil)) rfl ⟨.same rfl (by decide),.same rfl (by decide),.same rfl (by decide),.same rfl (by decide),trivial⟩ .same,⟨D,hD,by rw [hD.hit hin (by omega) hnL hc56]; rfl,by rw [hD.hit hin (by omega) hnL hc56,addO_nil]⟩⟩
 refine LpG.on (fun k2:KFd=>(⟨fL [(0,.ptr 1000000 0 0),(1,.tree 1 (l.map uA32)),(2,.sl 1000003 0 0 T.length),(3,.v (.int .i64 ((n:Nat):Int))),(11,.v (.string (K.kF l n))),(12,.v (.bool k2.b)),(13,.v (.int .i32 (32+(k2.k:Int))))],hLz [(1000000,fnB ts most k2.O),(1000001,ouB k2.O),(1000002,mapS k2.D),(1000003,txK T)],0⟩:St)) (fun k2=>(95 - k2.k)) (fun k2=>(k2.k≤95∧(k2.b=!(WP M ts n1 l k2.k).isEmpty∧k2.O=addO most O T (WP M ts n1 l k2.k)∧DeadI K k2.D))) (⟨0,false,O,D⟩:KFd) (cO (.cons rfl rfl (.cons rfl rfl (.cons rfl rfl (.cons rfl rfl (.cons rfl rfl (.cons rfl rfl (.cons rfl rfl .nil))))))) (.cons rfl rfl rfl (.cons rfl rfl (rF_low row_s _ _) (.cons rfl rfl (mapS_low _ _) (.cons rfl rfl (rF_low row_u8 _ _) .nil))))) ⟨Nat.zero_le _,⟨rfl,addO_nil.symm,hD⟩⟩ ?_
 rintro k2 hinv
 obtain ⟨hle_k2,hi_k2⟩:=hinv
 refine OpG.lk (LOp.cmpI rfl rfl rfl) (cB (fun hg59=>?_) (fun hg59=>?_))
 ·have hk95:k2.k < 95:=by have h:=of_decide_eq_true hg59; omega
  refine OpG.lk (LOp.lenS rfl Tryz.underlying112 rfl rfl rfl) ⟨by kernel_rfl,cL (fun hlt70=>?_) (fun hge70=>?_)⟩
  ·refine LenG.of (OpG.nw (LOp.makeZ (len:=l.length) row_u32 0 Tryz.underlying46 sz192 zr192 by192 rfl rfl rfl rfl rfl (by omega) (by omega) hl0) rfl ?_)
   refine LenG.of (LpG.on (fun k4:KL Int=>(⟨fL [(0,.ptr 1000000 0 0),(1,.tree 1 (l.map uA32)),(2,.sl 1000003 0 0 T.length),(3,.v (.int .i64 ((n:Nat):Int))),(11,.v (.string (K.kF l n))),(12,.v (.bool k2.b)),(13,.v (.int .i32 (32+(k2.k:Int)))),(14,.sl 0 0 0 l.length),(79,.tree 4 (ts.map tsA)),(80,.v (.int .i64 ((ts.length:Nat):Int))),(81,.v (.int .i64 ((k4.k:Nat):Int)))],hLz [(0,⟨0,rF uA32 k4.L,1,false⟩),(1000000,fnB ts most k2.O),(1000001,ouB k2.O),(1000002,mapS k2.D),(1000003,txK T)],1⟩:St)) (fun k4=>(ts.length - k4.k)) (fun k4=>(k4.k≤ts.length∧k4.L=((nxS M ts l (32+(k2.k:Int)))).take k4.k++List.replicate (l.length - k4.k) 0)) (⟨0,List.replicate l.length 0⟩:KL Int) (cO (.cons rfl rfl (.cons rfl rfl (.cons rfl rfl (.cons rfl rfl (.cons rfl rfl (.cons rfl rfl (.cons rfl rfl (.cons rfl rfl (.cons rfl rfl (.cons rfl rfl (.cons rfl rfl .nil))))))))))) (.cons rfl rfl (rF_low row_u32 _ _) (.cons rfl rfl rfl (.cons rfl rfl (rF_low row_s _ _) (.cons rfl rfl (mapS_low _ _) (.cons rfl rfl (rF_low row_u8 _ _) .nil)))))) ⟨Nat.zero_le _,by simp⟩ ?_)
   rintro k4 hinv
   obtain ⟨hle_k4,hi_k4⟩:=hinv
   refine cL (fun hlt82=>?_) (fun hge82=>?_)
   ·have hk4l:k4.k < l.length:=by omega
    refine IdxG.of (by assumption) (IdxG.of (by assumption) ?_)
    refine OpG.lk (LOp.cvtB (m:=32+(k2.k:Int)) Tryz.underlying21 Tryz.underlying5 rfl (by omega) (by omega)) (ArgG.mk (((M ts[k4.k]).hn (hok _ (List.getElem_mem (by assumption))) _ (hin.mem k4.k (by assumption) (by omega)) k2.k hk95).1) rfl ?_)
    rintro _ rfl
    refine OpG.lk (LOp.indexV1 (i:=k4.k) Tryz.underlying46 sz192 rfl rfl rfl (by omega) rfl) (OpG.wr (LOp.storeV1 row_u32 sz192 rfl rfl rfl rfl rfl rfl (by rw [hi_k4]; exact more_len (by omega) hin)) rfl ?_)
    refine ⟨by kernel_rfl,⟨by omega,?_⟩⟩
    refine ⟨(⟨k4.k+1,k4.L.set k4.k ((M ts[k4.k]).n l[k4.k] (32+(k2.k:Int)))⟩:KL Int),(by show ts.length - (k4.k+1) < ts.length - k4.k; omega),(cO (.cons rfl rfl (.cons rfl rfl (.cons rfl rfl (.cons rfl rfl (.cons rfl rfl (.cons rfl rfl (.cons rfl rfl (.cons rfl rfl (.cons rfl rfl (.cons rfl rfl (.cons rfl rfl .nil))))))))))) (.cons rfl rfl (rF_low row_u32 _ _) (.cons rfl rfl rfl (.cons rfl rfl (rF_low row_s _ _) (.cons rfl rfl (mapS_low _ _) (.cons rfl rfl (rF_low row_u8 _ _) .nil)))))),⟨by show k4.k+1≤_; omega,?_⟩⟩
    exact more_next hin hi_k4 hlt82
   have hmore:k4.L=(nxS M ts l (32+(k2.k:Int))):=more_end hin hi_k4 hle_k4 hge82
   refine RegG.via (fun _ h=>AWP.freeze [0] 14 (.tree 1 (k4.L.map uA32)) (FzP.rowsG row_u32 (List.mem_singleton.2 rfl) rfl (by rw [hmore,nxS_len hin.len,hin.len])) rfl h) ?_
   rw [hmore]
   obtain ⟨_,_,⟨D1,hD1,rfl,rfl⟩,hcl⟩:=IH n1 hn1.symm (nxS M ts l (32+(k2.k:Int))) (T++[UInt8.ofNat (32+k2.k)]) k2.O k2.D (hin.nx hok hk95) (by simp) (by simp; omega) hlt70 hi_k2.2.2
   refine RegG.dn (reg23B (k:=k2.k) (b:=k2.b) (key:=K.kF l n) (l:=l) rfl rfl rfl rfl rfl rfl rfl rfl rfl rfl rfl rfl hTn (by omega) hk95 hn1 (by omega) hcl) (cB (fun hc107=>?_) (fun hc107=>?_))
   ·refine OpG.lk (LOp.addI32 (m:=32+(k2.k:Int)) (n:=1) rfl rfl (by omega) (by omega)) ⟨(⟨k2.k+1,true,addO most k2.O (T++[UInt8.ofNat (32+k2.k)]) (WS M ts n1 (nxS M ts l (32+(k2.k:Int)))),D1⟩:KFd),(by show 95 - (k2.k+1) < 95 - k2.k; omega),(cO (.cons rfl rfl (.cons rfl rfl (.cons rfl rfl (.cons rfl rfl (.cons rfl rfl (.cons rfl rfl (.cons rfl rfl .nil))))))) (.cons rfl rfl rfl (.cons rfl rfl (rF_low row_s _ _) (.cons rfl rfl (mapS_low _ _) (.cons rfl rfl (rF_low row_u8 _ _) .nil))))),⟨by show k2.k+1≤_; omega,?_⟩⟩
    exact find_next hi_k2.1 hi_k2.2.1 hD1 hc107
   refine OpG.lk (LOp.addI32 (m:=32+(k2.k:Int)) (n:=1) rfl rfl (by omega) (by omega)) ⟨(⟨k2.k+1,k2.b,addO most k2.O (T++[UInt8.ofNat (32+k2.k)]) (WS M ts n1 (nxS M ts l (32+(k2.k:Int)))),D1⟩:KFd),(by show 95 - (k2.k+1) < 95 - k2.k; omega),(cO (.cons rfl rfl (.cons rfl rfl (.cons rfl rfl (.cons rfl rfl (.cons rfl rfl (.cons rfl rfl (.cons rfl rfl .nil))))))) (.cons rfl rfl rfl (.cons rfl rfl (rF_low row_s _ _) (.cons rfl rfl (mapS_low _ _) (.cons rfl rfl (rF_low row_u8 _ _) .nil))))),⟨by show k2.k+1≤_; omega,?_⟩⟩
   exact find_next hi_k2.1 hi_k2.2.1 hD1 hc107
  have hfin:=find_end2 hO hn1 hi_k2.1 hi_k2.2.1 hge70 hle_k2
  refine cB (fun hc109=>?_) (fun hc109=>?_)
  ·refine OpG.wr (LOp.addS (k:=K.kF l n) (L:=k2.D) Tryz.underlying233 Tryz.underlying9 rfl rfl rfl rfl) rfl ⟨.inr rfl,_,_,OutsH.of (hb':=[(1000000,some (fnB ts most k2.O)),(1000001,some (ouB k2.O)),(1000002,some (mapS (insS k2.D (K.kF l n)))),(1000003,some (txK T))]) [] (ResIs.res Tryz.results169 (.cons (OutX.tmp rfl) .nil)) rfl ⟨.same rfl (by decide),.same rfl (by decide),.same rfl (by decide),.same rfl (by decide),trivial⟩ .same,?_⟩
   have hb0:k2.b=false:=by simpa using hc109
   have hw:WS M ts n l=[]:=by have h:=hfin.1; rw [hb0] at h; exact List.isEmpty_iff.1 (by simpa using h.symm)
   exact ⟨_,hi_k2.2.2.ins hin (by omega) hnL hw,congrArg (fun z=>AV.v (.bool z)) hfin.1,by rw [← hfin.2]⟩
  exact ⟨.inr rfl,_,_,OutsH.of (hb':=[(1000000,some (fnB ts most k2.O)),(1000001,some (ouB k2.O)),(1000002,some (mapS k2.D)),(1000003,some (txK T))]) [] (ResIs.res Tryz.results169 (.cons (OutX.tmp rfl) .nil)) rfl ⟨.same rfl (by decide),.same rfl (by decide),.same rfl (by decide),.same rfl (by decide),trivial⟩ .same,⟨_,hi_k2.2.2,congrArg (fun z=>AV.v (.bool z)) hfin.1,by rw [← hfin.2]⟩⟩
 have hk95:¬ k2.k < 95:=by have h:=of_decide_eq_false hg59; omega
 have hfin:=find_end1 hn1 hi_k2.1 hi_k2.2.1 hk95 hle_k2
 refine ⟨by kernel_rfl,cF ?_⟩
 refine cB (fun hc109=>?_) (fun hc109=>?_)
 ·refine OpG.wr (LOp.addS (k:=K.kF l n) (L:=k2.D) Tryz.underlying233 Tryz.underlying9 rfl rfl rfl rfl) rfl ⟨.inr rfl,_,_,OutsH.of (hb':=[(1000000,some (fnB ts most k2.O)),(1000001,some (ouB k2.O)),(1000002,some (mapS (insS k2.D (K.kF l n)))),(1000003,some (txK T))]) [] (ResIs.res Tryz.results169 (.cons (OutX.tmp rfl) .nil)) rfl ⟨.same rfl (by decide),.same rfl (by decide),.same rfl (by decide),.same rfl (by decide),trivial⟩ .same,?_⟩
  have hb0:k2.b=false:=by simpa using hc109
  have hw:WS M ts n l=[]:=by have h:=hfin.1; rw [hb0] at h; exact List.isEmpty_iff.1 (by simpa using h.symm)
  exact ⟨_,hi_k2.2.2.ins hin (by omega) hnL hw,congrArg (fun z=>AV.v (.bool z)) hfin.1,by rw [← hfin.2]⟩
 exact ⟨.inr rfl,_,_,OutsH.of (hb':=[(1000000,some (fnB ts most k2.O)),(1000001,some (ouB k2.O)),(1000002,some (mapS k2.D)),(1000003,some (txK T))]) [] (ResIs.res Tryz.results169 (.cons (OutX.tmp rfl) .nil)) rfl ⟨.same rfl (by decide),.same rfl (by decide),.same rfl (by decide),.same rfl (by decide),trivial⟩ .same,⟨_,hi_k2.2.2,congrArg (fun z=>AV.v (.bool z)) hfin.1,by rw [← hfin.2]⟩⟩
set_option maxRecDepth 100000 in
set_option maxHeartbeats 4000000 in
theorem findN_w (M:(t:GTst)→Pat t) (ts:List GTst) (hts:FitTs ts) (hok:∀ t∈ts,(M t).ok) (most:Nat) (hne:ts≠[]) {L:Nat} (K:Keys M ts L) (n:Nat) (l:List Int) (O D:List ByteArray) (hin:InT M ts l) (hnL:n≤L) (hL:L≤99) (hO:O.length < most) (hmo:most≤1000000) (hD:DeadI K D) (IH:∀ m,m+1=n→FindOK M ts most K m):HRetX Tryz.prog 169 [.ptr 1000000 0 0,.tree 1 (l.map uA32),.v (.slice none 0 0),.v (.int .i64 ((n:Nat):Int))] [(1000000,fnB ts most O),(1000001,ouB O),(1000002,mapS D)] (fun q hb2=>∃ D2,DeadI K D2∧q=.v (.bool (!(WS M ts n l).isEmpty))∧hb2=[(1000000,some (fnB ts most (addO most O ([]:List UInt8) (WS M ts n l)))),(1000001,some (ouB (addO most O ([]:List UInt8) (WS M ts n l)))),(1000002,some (mapS D2))]):=by
 have hts1:=hts.len
 have hll:=hin.len
 have hl0:l.length≠0:=fun e=>hne (List.eq_nil_of_length_eq_zero (by omega))
 refine HRetX.of_vc infOk [43,45,56,58,64,72,75,94,96,100096] [23] Tryz.func169 rfl Tryz.ntmps169 rfl (by kernel_rfl) (cE (fun hq18=>?_) (fun hq18=>?_))
 ·obtain rfl:n=0:=by omega
  refine LenG.of (LpG.on (fun k0:Nat=>(⟨fL [(0,.ptr 1000000 0 0),(1,.tree 1 (l.map uA32)),(2,.v (.slice none 0 0)),(22,.tree 4 (ts.map tsA)),(23,.v (.int .i64 ((ts.length:Nat):Int))),(24,.v (.int .i64 ((k0:Nat):Int)))],hLz [(1000000,fnB ts most O),(1000001,ouB O),(1000002,mapS D)],0⟩:St)) (fun k0=>(ts.length - k0)) (fun k0=>(k0≤ts.length∧∀ j (hl:j < ts.length),j < k0→∀ h2:j < l.length,(M ts[j]).f l[j]=true)) 0 (cO (.cons rfl rfl (.cons rfl rfl (.cons rfl rfl (.cons rfl rfl (.cons rfl rfl (.cons rfl rfl .nil)))))) (.cons rfl rfl rfl (.cons rfl rfl (rF_low row_s _ _) (.cons rfl rfl (mapS_low _ _) .nil)))) ⟨Nat.zero_le _,fun j _ h=>absurd h (Nat.not_lt_zero j)⟩ ?_)
  rintro k0 hinv
  obtain ⟨hle_k0,hj_k0⟩:=hinv
  refine cL (fun hlt25=>?_) (fun hge25=>?_)
  ·refine IdxG.of (by assumption) (IdxG.of (by omega) ?_)
   refine ArgG.mk ((M ts[k0]).hf (hok _ (List.getElem_mem (by assumption))) _ (hin.mem k0 (by assumption) (by omega))) rfl ?_
   rintro _ rfl
   refine ⟨by kernel_rfl,cB (fun hc35=>?_) (fun hc35=>?_)⟩
   ·have hf35:(M ts[k0]).f l[k0]=false:=by simpa using hc35
    exact ⟨.inr rfl,_,_,OutsH.of (hb':=[(1000000,some (fnB ts most O)),(1000001,some (ouB O)),(1000002,some (mapS D))]) [] (ResIs.res Tryz.results169 (.cons (OutX.tmp rfl) .nil)) rfl ⟨.same rfl (by decide),.same rfl (by decide),.same rfl (by decide),trivial⟩ .same,⟨D,hD,by rw [show WS M ts 0 l=[] from by unfold WS; rw [okS_cut hlt25 (by omega) hf35]; rfl]; rfl,by rw [show WS M ts 0 l=[] from by unfold WS; rw [okS_cut hlt25 (by omega) hf35]; rfl,addO_nil]⟩⟩
   refine ⟨by omega,⟨(k0+1),by omega,(cO (.cons rfl rfl (.cons rfl rfl (.cons rfl rfl (.cons rfl rfl (.cons rfl rfl (.cons rfl rfl .nil)))))) (.cons rfl rfl rfl (.cons rfl rfl (rF_low row_s _ _) (.cons rfl rfl (mapS_low _ _) .nil)))),?_⟩⟩
   refine ⟨by omega,fun j hl h=>?_⟩
   rcases Nat.lt_succ_iff_lt_or_eq.1 h with h | rfl
   ·exact hj_k0 j hl h
   exact fun _=>by simpa using hc35
  refine OpG.lk (lP rfl (fun _ _ h=>by cases h) (fun w=>rfl)) (OpG.mk _ _ _ 1 (LOp.appRow row_s (l:=O) (a:=(⟨([]:List UInt8).toArray⟩:ByteArray)) Tryz.underlying112 sz9 zr9 by9 rfl rfl rfl (Src.slB rfl rfl rfl rfl) rfl (by omega) (by omega) (by unfold TV; omega)) rfl rfl ?_)
  refine ⟨by kernel_rfl,⟨.inr rfl,_,_,OutsH.of (hb':=[(1000000,some (fnB ts most (O++[(⟨([]:List UInt8).toArray⟩:ByteArray)]))),(1000001,some (ouB (O++[(⟨([]:List UInt8).toArray⟩:ByteArray)]))),(1000002,some (mapS D))]) [] (ResIs.res Tryz.results169 (.cons (OutX.tmp rfl) .nil)) rfl ⟨.same svF (by decide),.same svO (by decide),.same rfl (by decide),trivial⟩ .same,?_⟩⟩
  exact ⟨D,hD,by rw [show WS M ts 0 l=[[]] from by unfold WS; rw [okS_all (fun k h h'=>hj_k0 k h (by omega) h')]; rfl]; rfl,by rw [show WS M ts 0 l=[[]] from by unfold WS; rw [okS_all (fun k h h'=>hj_k0 k h (by omega) h')]; rfl,addO_one hO]⟩
 obtain ⟨n1,hn1⟩:∃ m,n=m+1:=⟨n - 1,by omega⟩
 refine ArgG.mk (K.hk l n hin (by omega) hnL) rfl ?_
 rintro _ rfl
 refine OpG.lk (LOp.hasS (L:=D) (k:=K.kF l n) Tryz.underlying233 Tryz.underlying9 zr4 rfl rfl rfl) (cB (fun hc56=>?_) (fun hc56=>?_))
 ·exact ⟨.inr rfl,_,_,OutsH.of (hb':=[(1000000,some (fnB ts most O)),(1000001,some (ouB O)),(1000002,some (mapS D))]) [] (ResIs.res Tryz.results169 (.cons (OutX.tmp rfl) .nil)) rfl ⟨.same rfl (by decide),.same rfl (by decide),.same rfl (by decide),trivial⟩ .same,⟨D,hD,by rw [hD.hit hin (by omega) hnL hc56]; rfl,by rw [hD.hit hin (by omega) hnL hc56,addO_nil]⟩⟩
 refine LpG.on (fun k2:KFd=>(⟨fL [(0,.ptr 1000000 0 0),(1,.tree 1 (l.map uA32)),(2,.v (.slice none 0 0)),(3,.v (.int .i64 ((n:Nat):Int))),(11,.v (.string (K.kF l n))),(12,.v (.bool k2.b)),(13,.v (.int .i32 (32+(k2.k:Int))))],hLz [(1000000,fnB ts most k2.O),(1000001,ouB k2.O),(1000002,mapS k2.D)],0⟩:St)) (fun k2=>(95 - k2.k)) (fun k2=>(k2.k≤95∧(k2.b=!(WP M ts n1 l k2.k).isEmpty∧k2.O=addO most O ([]:List UInt8) (WP M ts n1 l k2.k)∧DeadI K k2.D))) (⟨0,false,O,D⟩:KFd) (cO (.cons rfl rfl (.cons rfl rfl (.cons rfl rfl (.cons rfl rfl (.cons rfl rfl (.cons rfl rfl (.cons rfl rfl .nil))))))) (.cons rfl rfl rfl (.cons rfl rfl (rF_low row_s _ _) (.cons rfl rfl (mapS_low _ _) .nil)))) ⟨Nat.zero_le _,⟨rfl,addO_nil.symm,hD⟩⟩ ?_
 rintro k2 hinv
 obtain ⟨hle_k2,hi_k2⟩:=hinv
 refine OpG.lk (LOp.cmpI rfl rfl rfl) (cB (fun hg59=>?_) (fun hg59=>?_))
 ·have hk95:k2.k < 95:=by have h:=of_decide_eq_true hg59; omega
  refine OpG.lk (LOp.lenS rfl Tryz.underlying112 rfl rfl rfl) ⟨by kernel_rfl,cL (fun hlt70=>?_) (fun hge70=>?_)⟩
  ·refine LenG.of (OpG.nw (LOp.makeZ (len:=l.length) row_u32 0 Tryz.underlying46 sz192 zr192 by192 rfl rfl rfl rfl rfl (by omega) (by omega) hl0) rfl ?_)
   refine LenG.of (LpG.on (fun k4:KL Int=>(⟨fL [(0,.ptr 1000000 0 0),(1,.tree 1 (l.map uA32)),(2,.v (.slice none 0 0)),(3,.v (.int .i64 ((n:Nat):Int))),(11,.v (.string (K.kF l n))),(12,.v (.bool k2.b)),(13,.v (.int .i32 (32+(k2.k:Int)))),(14,.sl 0 0 0 l.length),(79,.tree 4 (ts.map tsA)),(80,.v (.int .i64 ((ts.length:Nat):Int))),(81,.v (.int .i64 ((k4.k:Nat):Int)))],hLz [(0,⟨0,rF uA32 k4.L,1,false⟩),(1000000,fnB ts most k2.O),(1000001,ouB k2.O),(1000002,mapS k2.D)],1⟩:St)) (fun k4=>(ts.length - k4.k)) (fun k4=>(k4.k≤ts.length∧k4.L=((nxS M ts l (32+(k2.k:Int)))).take k4.k++List.replicate (l.length - k4.k) 0)) (⟨0,List.replicate l.length 0⟩:KL Int) (cO (.cons rfl rfl (.cons rfl rfl (.cons rfl rfl (.cons rfl rfl (.cons rfl rfl (.cons rfl rfl (.cons rfl rfl (.cons rfl rfl (.cons rfl rfl (.cons rfl rfl (.cons rfl rfl .nil))))))))))) (.cons rfl rfl (rF_low row_u32 _ _) (.cons rfl rfl rfl (.cons rfl rfl (rF_low row_s _ _) (.cons rfl rfl (mapS_low _ _) .nil))))) ⟨Nat.zero_le _,by simp⟩ ?_)
   rintro k4 hinv
   obtain ⟨hle_k4,hi_k4⟩:=hinv
   refine cL (fun hlt82=>?_) (fun hge82=>?_)
   ·have hk4l:k4.k < l.length:=by omega
    refine IdxG.of (by assumption) (IdxG.of (by assumption) ?_)
    refine OpG.lk (LOp.cvtB (m:=32+(k2.k:Int)) Tryz.underlying21 Tryz.underlying5 rfl (by omega) (by omega)) (ArgG.mk (((M ts[k4.k]).hn (hok _ (List.getElem_mem (by assumption))) _ (hin.mem k4.k (by assumption) (by omega)) k2.k hk95).1) rfl ?_)
    rintro _ rfl
    refine OpG.lk (LOp.indexV1 (i:=k4.k) Tryz.underlying46 sz192 rfl rfl rfl (by omega) rfl) (OpG.wr (LOp.storeV1 row_u32 sz192 rfl rfl rfl rfl rfl rfl (by rw [hi_k4]; exact more_len (by omega) hin)) rfl ?_)
    refine ⟨by kernel_rfl,⟨by omega,?_⟩⟩
    refine ⟨(⟨k4.k+1,k4.L.set k4.k ((M ts[k4.k]).n l[k4.k] (32+(k2.k:Int)))⟩:KL Int),(by show ts.length - (k4.k+1) < ts.length - k4.k; omega),(cO (.cons rfl rfl (.cons rfl rfl (.cons rfl rfl (.cons rfl rfl (.cons rfl rfl (.cons rfl rfl (.cons rfl rfl (.cons rfl rfl (.cons rfl rfl (.cons rfl rfl (.cons rfl rfl .nil))))))))))) (.cons rfl rfl (rF_low row_u32 _ _) (.cons rfl rfl rfl (.cons rfl rfl (rF_low row_s _ _) (.cons rfl rfl (mapS_low _ _) .nil))))),⟨by show k4.k+1≤_; omega,?_⟩⟩
    exact more_next hin hi_k4 hlt82
   have hmore:k4.L=(nxS M ts l (32+(k2.k:Int))):=more_end hin hi_k4 hle_k4 hge82
   refine RegG.via (fun _ h=>AWP.freeze [0] 14 (.tree 1 (k4.L.map uA32)) (FzP.rowsG row_u32 (List.mem_singleton.2 rfl) rfl (by rw [hmore,nxS_len hin.len,hin.len])) rfl h) ?_
   rw [hmore]
   obtain ⟨_,_,⟨D1,hD1,rfl,rfl⟩,hcl⟩:=IH n1 hn1.symm (nxS M ts l (32+(k2.k:Int))) (([]:List UInt8)++[UInt8.ofNat (32+k2.k)]) k2.O k2.D (hin.nx hok hk95) (by simp) (by simp; omega) hlt70 hi_k2.2.2
   refine RegG.dn (reg23N (k:=k2.k) (b:=k2.b) (key:=K.kF l n) (l:=l) rfl rfl rfl rfl rfl rfl rfl rfl rfl rfl rfl hk95 hn1 (by omega) hcl) (cB (fun hc107=>?_) (fun hc107=>?_))
   ·refine OpG.lk (LOp.addI32 (m:=32+(k2.k:Int)) (n:=1) rfl rfl (by omega) (by omega)) ⟨(⟨k2.k+1,true,addO most k2.O (([]:List UInt8)++[UInt8.ofNat (32+k2.k)]) (WS M ts n1 (nxS M ts l (32+(k2.k:Int)))),D1⟩:KFd),(by show 95 - (k2.k+1) < 95 - k2.k; omega),(cO (.cons rfl rfl (.cons rfl rfl (.cons rfl rfl (.cons rfl rfl (.cons rfl rfl (.cons rfl rfl (.cons rfl rfl .nil))))))) (.cons rfl rfl rfl (.cons rfl rfl (rF_low row_s _ _) (.cons rfl rfl (mapS_low _ _) .nil)))),⟨by show k2.k+1≤_; omega,?_⟩⟩
    exact find_next hi_k2.1 hi_k2.2.1 hD1 hc107
   refine OpG.lk (LOp.addI32 (m:=32+(k2.k:Int)) (n:=1) rfl rfl (by omega) (by omega)) ⟨(⟨k2.k+1,k2.b,addO most k2.O (([]:List UInt8)++[UInt8.ofNat (32+k2.k)]) (WS M ts n1 (nxS M ts l (32+(k2.k:Int)))),D1⟩:KFd),(by show 95 - (k2.k+1) < 95 - k2.k; omega),(cO (.cons rfl rfl (.cons rfl rfl (.cons rfl rfl (.cons rfl rfl (.cons rfl rfl (.cons rfl rfl (.cons rfl rfl .nil))))))) (.cons rfl rfl rfl (.cons rfl rfl (rF_low row_s _ _) (.cons rfl rfl (mapS_low _ _) .nil)))),⟨by show k2.k+1≤_; omega,?_⟩⟩
   exact find_next hi_k2.1 hi_k2.2.1 hD1 hc107
  have hfin:=find_end2 hO hn1 hi_k2.1 hi_k2.2.1 hge70 hle_k2
  refine cB (fun hc109=>?_) (fun hc109=>?_)
  ·refine OpG.wr (LOp.addS (k:=K.kF l n) (L:=k2.D) Tryz.underlying233 Tryz.underlying9 rfl rfl rfl rfl) rfl ⟨.inr rfl,_,_,OutsH.of (hb':=[(1000000,some (fnB ts most k2.O)),(1000001,some (ouB k2.O)),(1000002,some (mapS (insS k2.D (K.kF l n))))]) [] (ResIs.res Tryz.results169 (.cons (OutX.tmp rfl) .nil)) rfl ⟨.same rfl (by decide),.same rfl (by decide),.same rfl (by decide),trivial⟩ .same,?_⟩
   have hb0:k2.b=false:=by simpa using hc109
   have hw:WS M ts n l=[]:=by have h:=hfin.1; rw [hb0] at h; exact List.isEmpty_iff.1 (by simpa using h.symm)
   exact ⟨_,hi_k2.2.2.ins hin (by omega) hnL hw,congrArg (fun z=>AV.v (.bool z)) hfin.1,by rw [← hfin.2]⟩
  exact ⟨.inr rfl,_,_,OutsH.of (hb':=[(1000000,some (fnB ts most k2.O)),(1000001,some (ouB k2.O)),(1000002,some (mapS k2.D))]) [] (ResIs.res Tryz.results169 (.cons (OutX.tmp rfl) .nil)) rfl ⟨.same rfl (by decide),.same rfl (by decide),.same rfl (by decide),trivial⟩ .same,⟨_,hi_k2.2.2,congrArg (fun z=>AV.v (.bool z)) hfin.1,by rw [← hfin.2]⟩⟩
 have hk95:¬ k2.k < 95:=by have h:=of_decide_eq_false hg59; omega
 have hfin:=find_end1 hn1 hi_k2.1 hi_k2.2.1 hk95 hle_k2
 refine ⟨by kernel_rfl,cF ?_⟩
 refine cB (fun hc109=>?_) (fun hc109=>?_)
 ·refine OpG.wr (LOp.addS (k:=K.kF l n) (L:=k2.D) Tryz.underlying233 Tryz.underlying9 rfl rfl rfl rfl) rfl ⟨.inr rfl,_,_,OutsH.of (hb':=[(1000000,some (fnB ts most k2.O)),(1000001,some (ouB k2.O)),(1000002,some (mapS (insS k2.D (K.kF l n))))]) [] (ResIs.res Tryz.results169 (.cons (OutX.tmp rfl) .nil)) rfl ⟨.same rfl (by decide),.same rfl (by decide),.same rfl (by decide),trivial⟩ .same,?_⟩
  have hb0:k2.b=false:=by simpa using hc109
  have hw:WS M ts n l=[]:=by have h:=hfin.1; rw [hb0] at h; exact List.isEmpty_iff.1 (by simpa using h.symm)
  exact ⟨_,hi_k2.2.2.ins hin (by omega) hnL hw,congrArg (fun z=>AV.v (.bool z)) hfin.1,by rw [← hfin.2]⟩
 exact ⟨.inr rfl,_,_,OutsH.of (hb':=[(1000000,some (fnB ts most k2.O)),(1000001,some (ouB k2.O)),(1000002,some (mapS k2.D))]) [] (ResIs.res Tryz.results169 (.cons (OutX.tmp rfl) .nil)) rfl ⟨.same rfl (by decide),.same rfl (by decide),.same rfl (by decide),trivial⟩ .same,⟨_,hi_k2.2.2,congrArg (fun z=>AV.v (.bool z)) hfin.1,by rw [← hfin.2]⟩⟩
end Go.Proofs.YtbhhmbchdponjaaGreatDoor
namespace Go.Proofs.YtbhhmbchdponjaaGreatDoor
set_option linter.unusedVariables false
set_option linter.unusedSimpArgs false
open Go.RowKit
section
variable {ts:List GTst} {most:Nat} {O D:List ByteArray}
theorem okB3:allP (fun p:Nat×Blk=>okBlk [1000000,1000001,1000002] p.2) [(1000000,fnB ts most O),(1000001,ouB O),(1000002,mapS D)]:=⟨⟨rfl,.inl rfl⟩,rF_ok row_s,ok_mapS,trivial⟩
theorem okO3:allP (fun p:Nat×Option Blk=>okO [1000000,1000001,1000002] p.2) [(1000000,some (fnB ts most O)),(1000001,some (ouB O)),(1000002,some (mapS D))]:=⟨rfl,rF_in row_s _ _,mapS_in _ _ _,trivial⟩
theorem delta3:deltaH [(1000000,1),(1000001,2),(1000002,0)] [(1000000,some (fnB ts most O)),(1000001,some (ouB O)),(1000002,some (mapS D))]=[(1,some ⟨0,[.tree 4 (ts.map tsA),.v (.int .i64 ((most:Nat):Int)),.sl 2 (O).length 0 (O).length,.mp 0 0],0,false⟩),(2,some (ouB O)),(0,some (mapS D))]:=by
 simp only [deltaH,List.map_cons,List.map_nil,Option.map_some,rF_blk row_s,mapS_ren]
 rfl
end
theorem find_all (M:(t:GTst)→Pat t) (ts:List GTst) (hts:FitTs ts) (hok:∀ t∈ts,(M t).ok) (most:Nat) (hne:ts≠[]) {L:Nat} (K:Keys M ts L) (hL:L≤99) (hmo:most≤1000000):∀ n,n≤L→FindOK M ts most K n
 | 0,hn=>fun l T O D hin hT hl hO hD=>findB_w M ts hts hok most hne K 0 l T hT hl O D hin hn hL hO hmo hD (fun m h=>absurd h (Nat.succ_ne_zero m))
 | n+1,hn=>fun l T O D hin hT hl hO hD=>findB_w M ts hts hok most hne K (n+1) l T hT hl O D hin hn hL hO hmo hD (fun m h=>by
  obtain rfl:m=n:=by omega
  exact find_all M ts hts hok most hne K hL hmo m (by omega))
theorem dead0 {M:(t:GTst)→Pat t} {ts:List GTst} {L:Nat} {K:Keys M ts L}:DeadI K []:=fun _ h=>absurd h (by simp)
theorem bod170:bodied Tryz.prog 170=true:=by kernel_rfl
set_option maxRecDepth 100000 in
set_option maxHeartbeats 4000000 in
theorem words_w (M:(t:GTst)→Pat t) (ts:List GTst) (hts:FitTs ts) (hok:∀ t∈ts,(M t).ok) (n most:Nat) (hne:ts≠[]) {L:Nat} (K:Keys M ts L) (hL:L≤99) (hmo:most≤1000000) (hm1:1≤most) (hnL:n≤L):PRet Tryz.prog 145 [.tree 4 (ts.map tsA),.v (.int .i64 ((n:Nat):Int)),.v (.int .i64 ((most:Nat):Int))] (fun q=>q=.tree 1 ((addO most [] [] (WS M ts n (ts.map fun t=>(M t).s0))).map sA)):=by
 refine ovT [16,21,23] [4] Tryz.func145 rfl rfl (cB (fun hg10=>?_) (fun hg10=>?_))
 ·have hlt10:n < 0:=Int.ofNat_lt.1 (of_decide_eq_true hg10)
  exfalso; have h:=of_decide_eq_true hg10; omega
 have hge10:¬ n < 0:=fun h=>of_decide_eq_false hg10 (Int.ofNat_lt.2 h)
 refine cD (fun hq13=>?_) (fun hq13=>?_)
 ·exfalso; omega
 refine OpG.nw (LOp.makeMap 0) rfl (RegG.via (fun _ h=>AWP.lazyC 1 2 1 rfl rfl rfl rfl rfl 3 rfl h) ?_)
 refine RegG.go ?_
 obtain ⟨_,rfl,hcl0⟩:=fbegin_p M ts hts hok most [] []
 refine OpG.mk _ _ _ 3 (LOp.callH [(1000000,1),(1000001,2),(1000002,0)] bod170 hcl0 rfl rfl rfl rfl ⟨rfl,rfl,rfl,trivial⟩ okB3 okO3 rfl rfl rfl rfl delta3 rfl) rfl rfl ?_
 obtain ⟨_,_,⟨D2,hD2,rfl,rfl⟩,hcl1⟩:=findN_w M ts hts hok most hne K n (ts.map fun t=>(M t).s0) [] [] (InT.start hok) hnL hL (by show 0 < most; omega) hmo dead0 (fun m h=>find_all M ts hts hok most hne K hL hmo m (by omega))
 refine OpG.mk _ _ _ 3 (LOp.callH [(1000000,1),(1000001,2),(1000002,0)] bod169 hcl1 rfl rfl rfl rfl ⟨rfl,rfl,rfl,trivial⟩ okB3 okO3 rfl rfl rfl rfl delta3 rfl) rfl rfl ⟨.inr rfl,_,Outs.tmp Tryz.results145 ⟨[2],FzP.rows row_s (List.mem_singleton.2 rfl) rfl⟩,?_⟩
 rfl
end Go.Proofs.YtbhhmbchdponjaaGreatDoor
