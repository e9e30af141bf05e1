/- Texts of the claim. -/
import Derived.KernelRfl
import Derived.Test.YtbhhmbchdponjaaGreatDoorFT
import Derived.Test.YtbhhmbchdponjaaGreatDoorE3
import Derived.Test.YtbhhmbchdponjaaGreatDoorF2
namespace Go.Proofs.YtbhhmbchdponjaaGreatDoor
set_option linter.unusedVariables false
set_option linter.unusedSimpArgs false
open Go.RowKit
set_option maxRecDepth 1000000
set_option maxHeartbeats 0
theorem Vh:Tryz.prog.follows .mixedOrders=true:=by kernel_rfl
theorem inS{L:List ByteArray}{y:ByteArray}(h:(L.any fun x=>decide (x=y))=true):y∈L:=by obtain⟨x,hx,e⟩:=List.any_eq_true.1 h;rw[<-ag3 e];exact hx
def tLk:GTst:=⟨0,1,false,⟨#[97,37]⟩⟩
def tAm:GTst:=⟨0,3,false,⟨#[97]⟩⟩
theorem uq{f:FuncId}{ys:List AV}{ret:AV}(h:vt Tryz.prog (fun _=>false) (fun _ _=>none) (ka Tryz.prog) 1000 20 f ys=some ret):PRet Tryz.prog f ys (fun q=>q=ret):=PRet.of_call (Ux Vh (fun _ _ _ h=>by cases h) ux h)
def nLk(s:ByteArray)(c:Int):ByteArray:=match s.data.toList with
 |[1,0,0]=>bif decide (c=97)then⟨#[0,1,1]⟩else⟨#[0,0,0]⟩
 |_=>s
def nAm(s:ByteArray)(c:Int):ByteArray:=match s.data.toList with
 |[61,0]=>bif decide (c=97)then⟨#[61,1]⟩else bif decide (c<97)then⟨#[60]⟩else⟨#[62]⟩
 |[61,1]=>⟨#[62]⟩
 |_=>s
def SLk:List ByteArray:=[⟨#[1,0,0]⟩,⟨#[0,1,1]⟩,⟨#[0,0,0]⟩]
def SAm:List ByteArray:=[⟨#[61,0]⟩,⟨#[61,1]⟩,⟨#[60]⟩,⟨#[62]⟩]
theorem c95{c:UInt8}(h1:32<=c)(h2:c<=126):∃k∈List.range 95,c.toNat=k+32:=⟨c.toNat-32,by rw[List.mem_range];have:=UInt8.le_iff_toNat_le.1 h1;have:=UInt8.le_iff_toNat_le.1 h2;simp at *;omega,by have:=UInt8.le_iff_toNat_le.1 h1;simp at *;omega⟩
theorem qw{F G:Nat->Option AV}(h:(List.range 95).map F=(List.range 95).map G){k:Nat}(hk:k∈List.range 95):F k=G k:=List.map_inj_left.1 h k hk
theorem tLk0:(List.range 95).map (fun c=>vt Tryz.prog (fun _=>false) (fun _ _=>none) (ka Tryz.prog) 1000 20 161 [.agg (tsA tLk),.v (.string (SLk[0])),.v (.int .u8 (Int.ofNat (c+32)))])=(List.range 95).map (fun c=>some (.v (.string (nLk SLk[0] (Int.ofNat (c+32)))))):=by kernel_rfl
theorem tLk1:(List.range 95).map (fun c=>vt Tryz.prog (fun _=>false) (fun _ _=>none) (ka Tryz.prog) 1000 20 161 [.agg (tsA tLk),.v (.string (SLk[1])),.v (.int .u8 (Int.ofNat (c+32)))])=(List.range 95).map (fun c=>some (.v (.string (nLk SLk[1] (Int.ofNat (c+32)))))):=by kernel_rfl
theorem tLk2:(List.range 95).map (fun c=>vt Tryz.prog (fun _=>false) (fun _ _=>none) (ka Tryz.prog) 1000 20 161 [.agg (tsA tLk),.v (.string (SLk[2])),.v (.int .u8 (Int.ofNat (c+32)))])=(List.range 95).map (fun c=>some (.v (.string (nLk SLk[2] (Int.ofNat (c+32)))))):=by kernel_rfl
def fLk(s:ByteArray):Bool:=match s.data.toList with|[0,1,1]=>true|_=>false
theorem afl:SLk.map (fun s=>vt Tryz.prog (fun _=>false) (fun _ _=>none) (ka Tryz.prog) 1000 20 162 [.agg (tsA tLk),.v (.string s)])=SLk.map (fun s=>some (.v (.bool (fLk s)))):=by kernel_rfl
theorem Zk:∀s∈SLk,∀k∈List.range 95,nLk s (Int.ofNat (k+32))∈SLk:=fun s hs k hk=>inS (List.all_eq_true.1 (List.all_eq_true.1 (show(SLk.all fun s=>(List.range 95).all fun k=>SLk.any fun x=>decide (x=nLk s (Int.ofNat (k+32))))=true by kernel_rfl) s hs) k hk)
def ALk:Aut tLk where
 S:=fun s=>s∈SLk
 n:=nLk
 f:=fLk
 s0:=SLk[0]
 ok:=True
 i0:=fun _=>ags _
 h0:=fun _=>uq (by kernel_rfl)
 hn:=fun _ s hs c h1 h2=>by
  obtain⟨k,hk,e⟩:=c95 h1 h2
  rw[e]
  have ha:=Zk s hs k hk
  simp only[SLk,ahi,List.not_mem_nil,or_false]at hs
  rcases hs with rfl|rfl|rfl
  ·exact(uq (qw tLk0 hk)).mono (fun q hq=>⟨hq,ha⟩)
  ·exact(uq (qw tLk1 hk)).mono (fun q hq=>⟨hq,ha⟩)
  ·exact(uq (qw tLk2 hk)).mono (fun q hq=>⟨hq,ha⟩)
 hf:=fun _ s hs=>uq (List.map_inj_left.1 afl s hs)
theorem tAm0:(List.range 95).map (fun c=>vt Tryz.prog (fun _=>false) (fun _ _=>none) (ka Tryz.prog) 1000 20 161 [.agg (tsA tAm),.v (.string (SAm[0])),.v (.int .u8 (Int.ofNat (c+32)))])=(List.range 95).map (fun c=>some (.v (.string (nAm SAm[0] (Int.ofNat (c+32)))))):=by kernel_rfl
theorem tAm1:(List.range 95).map (fun c=>vt Tryz.prog (fun _=>false) (fun _ _=>none) (ka Tryz.prog) 1000 20 161 [.agg (tsA tAm),.v (.string (SAm[1])),.v (.int .u8 (Int.ofNat (c+32)))])=(List.range 95).map (fun c=>some (.v (.string (nAm SAm[1] (Int.ofNat (c+32)))))):=by kernel_rfl
theorem tAm2:(List.range 95).map (fun c=>vt Tryz.prog (fun _=>false) (fun _ _=>none) (ka Tryz.prog) 1000 20 161 [.agg (tsA tAm),.v (.string (SAm[2])),.v (.int .u8 (Int.ofNat (c+32)))])=(List.range 95).map (fun c=>some (.v (.string (nAm SAm[2] (Int.ofNat (c+32)))))):=by kernel_rfl
theorem tAm3:(List.range 95).map (fun c=>vt Tryz.prog (fun _=>false) (fun _ _=>none) (ka Tryz.prog) 1000 20 161 [.agg (tsA tAm),.v (.string (SAm[3])),.v (.int .u8 (Int.ofNat (c+32)))])=(List.range 95).map (fun c=>some (.v (.string (nAm SAm[3] (Int.ofNat (c+32)))))):=by kernel_rfl
def fAm(s:ByteArray):Bool:=match s.data.toList with|[62]=>false|_=>true
theorem afm:SAm.map (fun s=>vt Tryz.prog (fun _=>false) (fun _ _=>none) (ka Tryz.prog) 1000 20 162 [.agg (tsA tAm),.v (.string s)])=SAm.map (fun s=>some (.v (.bool (fAm s)))):=by kernel_rfl
theorem Zl:∀s∈SAm,∀k∈List.range 95,nAm s (Int.ofNat (k+32))∈SAm:=fun s hs k hk=>inS (List.all_eq_true.1 (List.all_eq_true.1 (show(SAm.all fun s=>(List.range 95).all fun k=>SAm.any fun x=>decide (x=nAm s (Int.ofNat (k+32))))=true by kernel_rfl) s hs) k hk)
def AAm:Aut tAm where
 S:=fun s=>s∈SAm
 n:=nAm
 f:=fAm
 s0:=SAm[0]
 ok:=True
 i0:=fun _=>ags _
 h0:=fun _=>uq (by kernel_rfl)
 hn:=fun _ s hs c h1 h2=>by
  obtain⟨k,hk,e⟩:=c95 h1 h2
  rw[e]
  have ha:=Zl s hs k hk
  simp only[SAm,ahi,List.not_mem_nil,or_false]at hs
  rcases hs with rfl|rfl|rfl|rfl
  ·exact(uq (qw tAm0 hk)).mono (fun q hq=>⟨hq,ha⟩)
  ·exact(uq (qw tAm1 hk)).mono (fun q hq=>⟨hq,ha⟩)
  ·exact(uq (qw tAm2 hk)).mono (fun q hq=>⟨hq,ha⟩)
  ·exact(uq (qw tAm3 hk)).mono (fun q hq=>⟨hq,ha⟩)
 hf:=fun _ s hs=>uq (List.map_inj_left.1 afm s hs)
instance:DecidableEq GTst:=fun a b=>if h:a.g_=b.g_/\a.f_=b.f_/\a.c_=b.c_/\a.d_=b.d_ then .isTrue (by cases a;cases b;simp only at h;obtain⟨rfl,rfl,rfl,rfl⟩:=h;rfl)else .isFalse (fun e=>h (by subst e;exact⟨rfl,rfl,rfl,rfl⟩))
def Ud(t:GTst):Aut t:=if h:t=tLk then h▸ALk else if h:t=tAm then h▸AAm else Aut.none t
theorem Nh:Ud tLk=ALk:=by unfold Ud;rw[dif_pos rfl]
theorem Nj:Ud tAm=AAm:=by unfold Ud;rw[dif_neg (by decide),dif_pos rfl]
def pC:Pb:=⟨[2],[2],[tAm,tLk]⟩
theorem hokC:∀t∈pC.ts,(Ud t).ok:=fun t ht=>by
 simp only[pC,ahi,List.not_mem_nil,or_false]at ht
 rcases ht with rfl|rfl
 ·rw[Nj];trivial
 ·rw[Nh];trivial
theorem hNC:∀s,PrB s->¬∀v∈[(0:Int)],∀j:Nat,v=((j:Nat):Int)->WOk pC Ud s j:=fun s hs h=>by
 obtain⟨h1,h2,h3⟩:=h 0 (by simp) 0 rfl
 have e1:=h1 (by decide)
 have e2:=h2 (by decide)
 have e:s.data.toList.length=2:=by
  have e3:s.data.toList.length=s.size:=Array.length_toList
  change(2:Int)<=_ at e1
  change _<=(2:Int)at e2
  omega
 have a:=h3 tLk (by simp[pC]) rfl
 have b:=h3 tAm (by simp[pC]) rfl
 rw[Nh]at a
 rw[Nj]at b
 match hl:s.data.toList,e with
 |[x,y],_=>
  rw[hl]at a b
  simp only[Aut.run,List.foldl_cons,List.foldl_nil,ALk,AAm]at a b
  by_cases hx:(Int.ofNat x.toNat)=97
  ·rw[hx]at b;revert b;exact fun b=>by cases b
  ·rw[show nLk SLk[0] (Int.ofNat x.toNat)=⟨#[0,0,0]⟩from by show(bif decide _ then _ else _)=_;rw[decide_eq_false hx];rfl]at a;cases a
theorem WkL.refl:∀l:List AV,WkL l l
 |[]=>.nil
 |_::r=>.cons .rfl (WkL.refl r)
theorem Jc{p:Pb}{l:List AV}{R:AV->Prop}(a b:AV)(h:PRet Tryz.prog 46 (.agg (pbA p)::l) R):PRet Tryz.prog 46 (.agg [.tree 1 (p.mn.map iA),.tree 1 (p.mx.map iA),.tree 4 (p.ts.map tsA),a,b]::l) R:=by
 obtain⟨r,hr,h⟩:=h
 exact⟨r,hr,b8.wk (.cons (.aggL (.cons .rfl (.cons .rfl (.cons .rfl (.cons .unk (.cons .unk .nil)))))) (WkL.refl _)) h⟩
theorem Jd:PRet Tryz.prog 46 [.agg [.tree 1 (pC.mn.map iA),.tree 1 (pC.mx.map iA),.tree 4 (pC.ts.map tsA),.v (.slice none 0 0),.v (.slice none 0 0)],.tree 1 [[.v (.int .i64 0)]],.v (.int .i64 1)] (fun q=>q=.tup [.tree 1 [],.tree 1 []]):=Jc _ _<|
 A5 [0] ⟨by decide,fun _ _=>trivial⟩ 1 pC ⟨rfl,by decide,⟨by decide,fun t ht=>by simp only[pC,ahi,List.not_mem_nil,or_false]at ht;rcases ht with rfl|rfl<;>exact⟨by decide⟩⟩,by decide,fun v hv=>⟨0,by simpa using hv,by decide⟩⟩ Ud hokC hNC
def pLk(s c:Int):Int:=bif decide (s=1)then(bif decide (c=97)then 6 else 0)else s
def pAm(s c:Int):Int:=bif decide (s=0)then(bif decide (c=97)then 1 else bif decide (c<97)then 100 else 101)else bif decide (s=1)then 101 else s
def qLk(s:Int):Bool:=decide (s=6)
def qAm(s:Int):Bool:=!decide (s=101)
def QLk:List Int:=[1,6,0]
def QAm:List Int:=[0,1,100,101]
theorem inQ{L:List Int}{y:Int}(h:(L.any fun x=>decide (x=y))=true):y∈L:=by obtain⟨x,hx,e⟩:=List.any_eq_true.1 h;rw[<-ag3 e];exact hx
theorem pLk0:(List.range 95).map (fun(c:Nat)=>vt Tryz.prog (fun _=>false) (fun _ _=>none) (ka Tryz.prog) 1000 20 205 [.agg (tsA tLk),.v (.int .u32 1),.v (.int .u8 (32+(c:Int)))])=(List.range 95).map (fun(c:Nat)=>some (.v (.int .u32 (pLk 1 (32+(c:Int)))))):=by kernel_rfl
theorem pLk1:(List.range 95).map (fun(c:Nat)=>vt Tryz.prog (fun _=>false) (fun _ _=>none) (ka Tryz.prog) 1000 20 205 [.agg (tsA tLk),.v (.int .u32 6),.v (.int .u8 (32+(c:Int)))])=(List.range 95).map (fun(c:Nat)=>some (.v (.int .u32 (pLk 6 (32+(c:Int)))))):=by kernel_rfl
theorem pLk2:(List.range 95).map (fun(c:Nat)=>vt Tryz.prog (fun _=>false) (fun _ _=>none) (ka Tryz.prog) 1000 20 205 [.agg (tsA tLk),.v (.int .u32 0),.v (.int .u8 (32+(c:Int)))])=(List.range 95).map (fun(c:Nat)=>some (.v (.int .u32 (pLk 0 (32+(c:Int)))))):=by kernel_rfl
theorem ado:QLk.map (fun s=>vt Tryz.prog (fun _=>false) (fun _ _=>none) (ka Tryz.prog) 1000 20 203 [.agg (tsA tLk),.v (.int .u32 s)])=QLk.map (fun s=>some (.v (.bool (qLk s)))):=by kernel_rfl
theorem Y9:∀s∈QLk,∀k∈List.range 95,pLk s (32+(k:Int))∈QLk:=fun s hs k hk=>inQ (List.all_eq_true.1 (List.all_eq_true.1 (show(QLk.all fun s=>(List.range 95).all fun(k:Nat)=>QLk.any fun x=>decide (x=pLk s (32+(k:Int))))=true by kernel_rfl) s hs) k hk)
def PLk:Pat tLk where
 S:=QLk
 n:=pLk
 f:=qLk
 s0:=1
 ok:=True
 i0:=fun _=>List.mem_cons_self
 h0:=fun _=>uq (by kernel_rfl)
 hn:=fun _ s hs k hk=>by
  have hk:=List.mem_range.2 hk
  have ha:=Y9 s hs k hk
  simp only[QLk,ahi,List.not_mem_nil,or_false]at hs
  rcases hs with rfl|rfl|rfl
  ·exact⟨uq (qw pLk0 hk),ha⟩
  ·exact⟨uq (qw pLk1 hk),ha⟩
  ·exact⟨uq (qw pLk2 hk),ha⟩
 hf:=fun _ s hs=>uq (List.map_inj_left.1 ado s hs)
theorem pAm0:(List.range 95).map (fun(c:Nat)=>vt Tryz.prog (fun _=>false) (fun _ _=>none) (ka Tryz.prog) 1000 20 205 [.agg (tsA tAm),.v (.int .u32 0),.v (.int .u8 (32+(c:Int)))])=(List.range 95).map (fun(c:Nat)=>some (.v (.int .u32 (pAm 0 (32+(c:Int)))))):=by kernel_rfl
theorem pAm1:(List.range 95).map (fun(c:Nat)=>vt Tryz.prog (fun _=>false) (fun _ _=>none) (ka Tryz.prog) 1000 20 205 [.agg (tsA tAm),.v (.int .u32 1),.v (.int .u8 (32+(c:Int)))])=(List.range 95).map (fun(c:Nat)=>some (.v (.int .u32 (pAm 1 (32+(c:Int)))))):=by kernel_rfl
theorem pAm2:(List.range 95).map (fun(c:Nat)=>vt Tryz.prog (fun _=>false) (fun _ _=>none) (ka Tryz.prog) 1000 20 205 [.agg (tsA tAm),.v (.int .u32 100),.v (.int .u8 (32+(c:Int)))])=(List.range 95).map (fun(c:Nat)=>some (.v (.int .u32 (pAm 100 (32+(c:Int)))))):=by kernel_rfl
theorem pAm3:(List.range 95).map (fun(c:Nat)=>vt Tryz.prog (fun _=>false) (fun _ _=>none) (ka Tryz.prog) 1000 20 205 [.agg (tsA tAm),.v (.int .u32 101),.v (.int .u8 (32+(c:Int)))])=(List.range 95).map (fun(c:Nat)=>some (.v (.int .u32 (pAm 101 (32+(c:Int)))))):=by kernel_rfl
theorem adp:QAm.map (fun s=>vt Tryz.prog (fun _=>false) (fun _ _=>none) (ka Tryz.prog) 1000 20 203 [.agg (tsA tAm),.v (.int .u32 s)])=QAm.map (fun s=>some (.v (.bool (qAm s)))):=by kernel_rfl
theorem Za:∀s∈QAm,∀k∈List.range 95,pAm s (32+(k:Int))∈QAm:=fun s hs k hk=>inQ (List.all_eq_true.1 (List.all_eq_true.1 (show(QAm.all fun s=>(List.range 95).all fun(k:Nat)=>QAm.any fun x=>decide (x=pAm s (32+(k:Int))))=true by kernel_rfl) s hs) k hk)
def PAm:Pat tAm where
 S:=QAm
 n:=pAm
 f:=qAm
 s0:=0
 ok:=True
 i0:=fun _=>List.mem_cons_self
 h0:=fun _=>uq (by kernel_rfl)
 hn:=fun _ s hs k hk=>by
  have hk:=List.mem_range.2 hk
  have ha:=Za s hs k hk
  simp only[QAm,ahi,List.not_mem_nil,or_false]at hs
  rcases hs with rfl|rfl|rfl|rfl
  ·exact⟨uq (qw pAm0 hk),ha⟩
  ·exact⟨uq (qw pAm1 hk),ha⟩
  ·exact⟨uq (qw pAm2 hk),ha⟩
  ·exact⟨uq (qw pAm3 hk),ha⟩
 hf:=fun _ s hs=>uq (List.map_inj_left.1 adp s hs)
def tc(t:GTst):Pat t:=if h:t=tLk then h▸PLk else if h:t=tAm then h▸PAm else Pat.none t
theorem jl:tc tLk=PLk:=by unfold tc;rw[dif_pos rfl]
theorem qp:tc tAm=PAm:=by unfold tc;rw[dif_neg (by decide),dif_pos rfl]
def kB2(l:List Int)(n:Nat):ByteArray:=⟨(UInt8.ofNat n::l.flatMap fun s=>[UInt8.ofNat s.toNat,UInt8.ofNat (s.toNat/256),UInt8.ofNat (s.toNat/65536)]).toArray⟩
def Kq1:List (List Int×Nat):=QLk.flatMap fun a=>[([a],1),([a],2)]
def K2:List (List Int×Nat):=QAm.flatMap fun a=>QLk.flatMap fun b=>[([a,b],1),([a,b],2)]
theorem Zr:Kq1.map (fun p=>vt Tryz.prog (fun _=>false) (fun _ _=>none) (ka Tryz.prog) 1000 20 204 [.tree 1 (p.1.map cx),.v (.int .i64 ((p.2:Nat):Int))])=Kq1.map (fun p=>some (.v (.string (kB2 p.1 p.2)))):=by kernel_rfl
theorem P7:∀a∈Kq1,∀b∈Kq1,kB2 a.1 a.2=kB2 b.1 b.2->a=b:=by
 have h:(Kq1.all fun a=>Kq1.all fun b=>bif (kB2 a.1 a.2==kB2 b.1 b.2)then decide (a=b)else true)=true:=by kernel_rfl
 intro a ha b hb e
 have:=List.all_eq_true.1 (List.all_eq_true.1 h a ha) b hb
 rw[e,Ap]at this
 exact ag3 this
theorem Zq:K2.map (fun p=>vt Tryz.prog (fun _=>false) (fun _ _=>none) (ka Tryz.prog) 1000 20 204 [.tree 1 (p.1.map cx),.v (.int .i64 ((p.2:Nat):Int))])=K2.map (fun p=>some (.v (.string (kB2 p.1 p.2)))):=by kernel_rfl
theorem P6:∀a∈K2,∀b∈K2,kB2 a.1 a.2=kB2 b.1 b.2->a=b:=by
 have h:(K2.all fun a=>K2.all fun b=>bif (kB2 a.1 a.2==kB2 b.1 b.2)then decide (a=b)else true)=true:=by kernel_rfl
 intro a ha b hb e
 have:=List.all_eq_true.1 (List.all_eq_true.1 h a ha) b hb
 rw[e,Ap]at this
 exact ag3 this
theorem aem{l:List Int}(h:l.length=1):∃x,l=[x]:=match l,h with|[x],_=>⟨x,rfl⟩
theorem len2{l:List Int}(h:l.length=2):∃x y,l=[x,y]:=match l,h with|[x,y],_=>⟨x,y,rfl⟩
theorem n12{n:Nat}(h1:1<=n)(h2:n<=2):n=1\/n=2:=by omega
theorem in1{l:List Int}{n:Nat}(h:InT tc [tLk] l)(h1:1<=n)(h2:n<=2):(l,n)∈Kq1:=by
 obtain⟨x,rfl⟩:=aem h.len
 have hx:=h.mem 0 (by decide) (by simp)
 change x∈(tc tLk).S at hx
 rw[jl]at hx
 refine List.mem_flatMap.2 ⟨x,hx,?_⟩
 rcases n12 h1 h2 with rfl|rfl<;>simp
theorem in2{l:List Int}{n:Nat}(h:InT tc [tAm,tLk] l)(h1:1<=n)(h2:n<=2):(l,n)∈K2:=by
 obtain⟨x,y,rfl⟩:=len2 h.len
 have hx:=h.mem 0 (by decide) (by simp)
 have hy:=h.mem 1 (by decide) (by simp)
 change x∈(tc tAm).S at hx
 change y∈(tc tLk).S at hy
 rw[qp]at hx
 rw[jl]at hy
 refine List.mem_flatMap.2 ⟨x,hx,List.mem_flatMap.2 ⟨y,hy,?_⟩⟩
 rcases n12 h1 h2 with rfl|rfl<;>simp
def Xt:Keys tc [tLk] 2 where
 kF:=kB2
 hk:=fun l n h h1 h2=>uq (List.map_inj_left.1 Zr (l,n) (in1 h h1 h2))
 inj:=fun l l' n n' h h' h1 h2 h3 h4 e=>by
  have:=P7 _ (in1 h h1 h2) _ (in1 h' h3 h4) e
  exact⟨congrArg Prod.fst this,congrArg Prod.snd this⟩
theorem afi:FitTs [tLk]:=⟨by decide,fun t ht=>by
 simp only[ahi,List.not_mem_nil,or_false]at ht
 rcases ht with rfl<;>exact⟨by decide⟩⟩
theorem ok1:∀t∈[tLk],(tc t).ok:=fun t ht=>by
 simp only[ahi,List.not_mem_nil,or_false]at ht
 rcases ht with rfl
 ·rw[jl];trivial
def Xs:Keys tc [tAm,tLk] 2 where
 kF:=kB2
 hk:=fun l n h h1 h2=>uq (List.map_inj_left.1 Zq (l,n) (in2 h h1 h2))
 inj:=fun l l' n n' h h' h1 h2 h3 h4 e=>by
  have:=P6 _ (in2 h h1 h2) _ (in2 h' h3 h4) e
  exact⟨congrArg Prod.fst this,congrArg Prod.snd this⟩
theorem afh:FitTs [tAm,tLk]:=⟨by decide,fun t ht=>by
 simp only[ahi,List.not_mem_nil,or_false]at ht
 rcases ht with rfl|rfl<;>exact⟨by decide⟩⟩
theorem ok2:∀t∈[tAm,tLk],(tc t).ok:=fun t ht=>by
 simp only[ahi,List.not_mem_nil,or_false]at ht
 rcases ht with rfl|rfl
 ·rw[qp];trivial
 ·rw[jl];trivial
def WS1:Nat->Int->List (List UInt8)
 |0,l=>bif qLk l then[[]]else[]
 |n+1,l=>(List.range 95).flatMap fun(k:Nat)=>(WS1 n (pLk l (32+(k:Int)))).map (UInt8.ofNat (32+k)::·)
def WS2:Nat->Int->Int->List (List UInt8)
 |0,l,m=>bif qAm l&&qLk m then[[]]else[]
 |n+1,l,m=>(List.range 95).flatMap fun(k:Nat)=>(WS2 n (pAm l (32+(k:Int))) (pLk m (32+(k:Int)))).map (UInt8.ofNat (32+k)::·)
theorem yl{α β:Type}{f g:α->List β}{l:List α}(h:∀a,f a=g a):l.flatMap f=l.flatMap g:=by rw[show f=g from funext h]
theorem ws1:∀n l,WS tc [tLk] n [l]=WS1 n l
 |0,l=>by simp only[WS,okS,jl,WS1,Bool.and_true];rfl
 |n+1,l=>by simp only[WS,nxS,jl,WS1];exact yl fun k=>congrArg (List.map _) (ws1 n _)
theorem ws2:∀n l m,WS tc [tAm,tLk] n [l,m]=WS2 n l m
 |0,l,m=>by simp only[WS,okS,jl,qp,WS2,Bool.and_true];rfl
 |n+1,l,m=>by simp only[WS,nxS,jl,qp,WS2];exact yl fun k=>congrArg (List.map _) (ws2 n _ _)
theorem Oe:PRet Tryz.prog 145 [.tree 4 ([tLk].map tsA),.v (.int .i64 ((0:Nat):Int)),.v (.int .i64 ((1:Nat):Int))] (fun q=>q=.tree 1 (([]:List ByteArray).map sA)):=
 (r9 tc [tLk] afi ok1 0 1 (by simp) Xt (by decide) (by decide) (by decide) (by decide)).mono fun q hq=>by
  rw[hq,show([tLk].map fun t=>(tc t).s0)=[1]from by simp only[ahg,List.map_nil,jl];rfl,ws1,show ee 1 [] [] (WS1 0 1)=[]from by kernel_rfl]
theorem Od:PRet Tryz.prog 145 [.tree 4 ([tLk].map tsA),.v (.int .i64 ((1:Nat):Int)),.v (.int .i64 ((1:Nat):Int))] (fun q=>q=.tree 1 (([⟨#[97]⟩]:List ByteArray).map sA)):=
 (r9 tc [tLk] afi ok1 1 1 (by simp) Xt (by decide) (by decide) (by decide) (by decide)).mono fun q hq=>by
  rw[hq,show([tLk].map fun t=>(tc t).s0)=[1]from by simp only[ahg,List.map_nil,jl];rfl,ws1,show ee 1 [] [] (WS1 1 1)=[⟨#[97]⟩]from by kernel_rfl]
theorem Oc:PRet Tryz.prog 145 [.tree 4 ([tLk].map tsA),.v (.int .i64 ((2:Nat):Int)),.v (.int .i64 ((1:Nat):Int))] (fun q=>q=.tree 1 (([⟨#[97,32]⟩]:List ByteArray).map sA)):=
 (r9 tc [tLk] afi ok1 2 1 (by simp) Xt (by decide) (by decide) (by decide) (by decide)).mono fun q hq=>by
  rw[hq,show([tLk].map fun t=>(tc t).s0)=[1]from by simp only[ahg,List.map_nil,jl];rfl,ws1,show ee 1 [] [] (WS1 2 1)=[⟨#[97,32]⟩]from by kernel_rfl]
theorem Ob:PRet Tryz.prog 145 [.tree 4 ([tAm,tLk].map tsA),.v (.int .i64 ((0:Nat):Int)),.v (.int .i64 ((1:Nat):Int))] (fun q=>q=.tree 1 (([]:List ByteArray).map sA)):=
 (r9 tc [tAm,tLk] afh ok2 0 1 (by simp) Xs (by decide) (by decide) (by decide) (by decide)).mono fun q hq=>by
  rw[hq,show([tAm,tLk].map fun t=>(tc t).s0)=[0,1]from by simp only[ahg,List.map_nil,jl,qp];rfl,ws2,show ee 1 [] [] (WS2 0 0 1)=[]from by kernel_rfl]
theorem Oa:PRet Tryz.prog 145 [.tree 4 ([tAm,tLk].map tsA),.v (.int .i64 ((1:Nat):Int)),.v (.int .i64 ((1:Nat):Int))] (fun q=>q=.tree 1 (([⟨#[97]⟩]:List ByteArray).map sA)):=
 (r9 tc [tAm,tLk] afh ok2 1 1 (by simp) Xs (by decide) (by decide) (by decide) (by decide)).mono fun q hq=>by
  rw[hq,show([tAm,tLk].map fun t=>(tc t).s0)=[0,1]from by simp only[ahg,List.map_nil,jl,qp];rfl,ws2,show ee 1 [] [] (WS2 1 0 1)=[⟨#[97]⟩]from by kernel_rfl]
theorem N9:PRet Tryz.prog 145 [.tree 4 ([tAm,tLk].map tsA),.v (.int .i64 ((2:Nat):Int)),.v (.int .i64 ((1:Nat):Int))] (fun q=>q=.tree 1 (([]:List ByteArray).map sA)):=
 (r9 tc [tAm,tLk] afh ok2 2 1 (by simp) Xs (by decide) (by decide) (by decide) (by decide)).mono fun q hq=>by
  rw[hq,show([tAm,tLk].map fun t=>(tc t).s0)=[0,1]from by simp only[ahg,List.map_nil,jl,qp];rfl,ws2,show ee 1 [] [] (WS2 2 0 1)=[]from by kernel_rfl]
end Go.Proofs.YtbhhmbchdponjaaGreatDoor
