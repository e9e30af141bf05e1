/- Texts of the claim. -/
import Derived.IntWalk
import Derived.Test.YtfpfdfhlljjckaaGreatDoorCInf
import Derived.Test.YtfpfdfhlljjckaaGreatDoorCQ2
set_option linter.all false
namespace Go.Proofs.YtfpfdfhlljjckaaGreatDoor
open Tryz
set_option maxRecDepth 1000000
set_option maxHeartbeats 0
set_option linter.unusedVariables false
set_option linter.unusedSimpArgs false
open Go.RowKit
variable{nm:ByteArray}{a b c m n op:Int}{r:List AV}{M P:List AV->Prop}{k t':Nat}{y:Operand}{α:Type}
def hasP(l:List Int)(v:Int)(j:Nat):Bool:=!(l.getD j 0==v)
def atq(l:List Int)(v:Int):Bool:=!yq l.length (hasP l v)
def ascP(l:List Int)(n:Int)(j:Nat):Bool:=!(decide (l.getD j 0<0)||decide (l.getD j 0≥n)||(decide (0<j)&&decide (l.getD (j-1) 0≥l.getD j 0)))
def alf(l:List Int)(n:Int):Bool:=yq l.length (ascP l n)
def mixed:prog.follows .mixedOrders=true:=by kernel_rfl
structure PVar where
 (t lo hi mx:Int) (nl:Bool)
structure PCoef where
 (v n:Int)
structure PLin where
 (k:Int) (cs:List PCoef)
structure PAux where
 (of_:PLin) (by_ tx:Int)
structure PCon where
 (l:PLin) (eq:Bool)
structure PTest where
 (v kd:Int) (ng:Bool) (s:ByteArray)
structure PCl where
 (nul nn:List Int) (aux:List PAux) (ints:List PCon) (tests:List PTest) (same diff:List (Int×Int))
structure PPred where
 (tab cols:Int) (vars:List PVar) (cls:List PCl)
instance:Inhabited PVar:=⟨⟨0,0,0,0,false⟩⟩
instance:Inhabited PCoef:=⟨⟨0,0⟩⟩
instance:Inhabited PAux:=⟨⟨⟨0,[]⟩,0,0⟩⟩
instance:Inhabited PCon:=⟨⟨⟨0,[]⟩,false⟩⟩
instance:Inhabited PTest:=⟨⟨0,0,false,⟨#[]⟩⟩⟩
instance:Inhabited PCl:=⟨⟨[],[],[],[],[],[],[]⟩⟩
abbrev vA(x:PVar):List AV:=[.v (.int .i64 x.t),.v (.int .i64 x.lo),.v (.int .i64 x.hi),.v (.int .i64 x.mx),.v (.bool x.nl)]
abbrev cfA(x:PCoef):List AV:=[.v (.int .i64 x.v),.v (.int .i64 x.n)]
abbrev csA(l:List PCoef):AV:=.tree 2 (l.map cfA)
abbrev liA(x:PLin):List AV:=[.v (.int .i64 x.k),csA x.cs]
abbrev axA(x:PAux):List AV:=[.v (.int .i64 x.of_.k),csA x.of_.cs,.v (.int .i64 x.by_),.v (.int .i64 x.tx)]
abbrev cnA(x:PCon):List AV:=[.v (.int .i64 x.l.k),csA x.l.cs,.v (.bool x.eq)]
abbrev teA(x:PTest):List AV:=[.v (.int .i64 x.v),.v (.int .i64 x.kd),.v (.bool x.ng),.v (.string x.s)]
abbrev paA(x:Int×Int):List AV:=[.v (.int .i64 x.1),.v (.int .i64 x.2)]
abbrev vsA(l:List PVar):AV:=.tree 5 (l.map vA)
abbrev psA(l:List (Int×Int)):AV:=.tree 2 (l.map paA)
abbrev clA(c:PCl):List AV:=[isA c.nul,isA c.nn,.tree 4 (c.aux.map axA),.tree 3 (c.ints.map cnA),.tree 4 (c.tests.map teA),psA c.same,psA c.diff]
abbrev prA(p:PPred):List AV:=[.v (.int .i64 p.tab),.v (.int .i64 p.cols),vsA p.vars,.tree 7 (p.cls.map clA)]
def cq(n:Int):Int:=if n<0 then -n else n
def wiB(n lo hi:Int):Bool:=decide (n≥lo)&&decide (n<=hi)
def atn(x:PVar):Bool:=if x.t=1 then decide (x.lo≥-2147483648)&&decide (x.lo<=x.hi)&&decide (x.hi<=2147483647)&&x.mx==0
 else x.t==2&&decide (x.mx≥0)&&decide (x.mx<=16)&&x.lo==0&&x.hi==0
def aw5(l:List PVar)(j:Nat):Bool:=atn (l.getD j default)
def aw6(l:List PVar):Bool:=yq l.length (aw5 l)&&decide ((l.length:Int)<=64)
def af0(v:Int)(nn:List Int)(l:List PVar):Bool:=decide (v≥0)&&decide (v<l.length)&&(l.getD v.toNat default).t==2&&atq nn v
def R8(s:ByteArray)(j:Nat):Bool:=!(decide (((bAt s j).toNat:Int)<32)||decide (((bAt s j).toNat:Int)>126))
def af8(x:PTest):Bool:=yq x.s.size (R8 x.s)&&(decide (x.kd≥0)&&decide (x.kd<=3)&&decide ((x.s.size:Int)<=16))
def paiP(p:List (Int×Int))(nn:List Int)(l:List PVar)(j:Nat):Bool:=af0 (p.getD j default).1 nn l&&af0 (p.getD j default).2 nn l&&decide ((p.getD j default).1<(p.getD j default).2)
def ak9(p:List (Int×Int))(nn:List Int)(l:List PVar):Bool:=yq p.length (paiP p nn l)
def sz3:aj prog 3=some 1:=by kernel_rfl
def uw:aj prog 109=some 5:=by kernel_rfl
section
variable{P:Program}{τ:Nat->AV}{η:bm}{d:Option Tmp}{ty:TypeId}{pos:String}{af:Array Edge}{g:Option (Nat×Bool)}
def ki{t:Nat}{x:Operand}(hx:aev τ x=vI m)(hy:aev τ y=vI n)(h1:-9223372036854775808<=m*n)(h2:m*n<=9223372036854775807):
 LOp P ⟨d,.binOp .mul t x y t',ty,pos,af,g⟩ τ η [] [] (vI (m*n)):=
 .look [] fun C a _ h0 _=>by have e1:=h0 x (by simp[Op.operands]);have e2:=h0 y (by simp[Op.operands]);rw[hx]at e1;rw[hy]at e2;refine⟨.int .i64 (m*n),?_,VR.v C _⟩;rw[<-Go.IntWalk.i64_in (m*n) ⟨h1,h2⟩];simp only[execOp,e1.v_inv,e2.v_inv];rfl
end
def fB(f:PLin)(l:List PVar)(bs:List Int)(j:Nat):Int:=if(f.cs.getD j default).v≥l.length then bs.getD ((f.cs.getD j default).v-l.length).toNat 0 else 2147483648
def fS(f:PLin)(l:List PVar)(bs:List Int):Nat->Int
 |0=>cq f.k
 |j+1=>fS f l bs j+cq (f.cs.getD j default).n*fB f l bs j
def aww(f:PLin)(l:List PVar)(bs:List Int)(j:Nat):Bool:=
 decide ((f.cs.getD j default).v<0)||decide ((f.cs.getD j default).v≥(l.length:Int)+bs.length)||(decide (0<j)&&decide ((f.cs.getD (j-1) default).v≥(f.cs.getD j default).v))||(f.cs.getD j default).n==0||!wiB (f.cs.getD j default).n (-1048576) 1048576
def fTy(f:PLin)(nn:List Int)(l:List PVar)(j:Nat):Bool:=decide ((f.cs.getD j default).v<l.length)&&(!((l.getD (f.cs.getD j default).v.toNat default).t==1)||!atq nn (f.cs.getD j default).v)
def fOk(f:PLin)(nn:List Int)(l:List PVar)(bs:List Int)(j:Nat):Bool:=
 !aww f l bs j&&!fTy f nn l j&&decide (fB f l bs j<=1152921504606846977/cq (f.cs.getD j default).n)&&decide (fS f l bs (j+1)<=1152921504606846977)
def fV(f:PLin)(nn:List Int)(l:List PVar)(bs:List Int):Int:=if wiB f.k (-1099511627777) 1099511627777&&yq f.cs.length (fOk f nn l bs)then fS f l bs f.cs.length else -1
def oq(v:Int):0<=cq v:=by unfold cq;split<;>omega
def sz2:aj prog 2=some 1:=by kernel_rfl
def bV(c:PCl)(l:List PVar)(bs:List Int)(j:Nat):Int:=if(c.aux.getD j default).by_=0 then 16 else fV (c.aux.getD j default).of_ c.nn l bs/(c.aux.getD j default).by_+1
def s8(c:PCl)(l:List PVar):Nat->List Int
 |0=>[]
 |j+1=>s8 c l j++[bV c l (s8 c l j) j]
theorem v7(c:PCl)(l:List PVar):∀k,(s8 c l k).length=k
 |0=>rfl
 |k+1=>by simp[s8,v7 c l k]
def ayp(c:PCl)(l:List PVar)(j:Nat):Bool:=
 if(c.aux.getD j default).by_=0 then !(decide (0<((c.aux.getD j default).of_.cs.length:Int))||!((c.aux.getD j default).of_.k==0))&&af0 (c.aux.getD j default).tx c.nn l
 else wiB (c.aux.getD j default).by_ 1 1000&&(c.aux.getD j default).tx==0&&!decide (fV (c.aux.getD j default).of_ c.nn l (s8 c l j)<0)
def awk(c:PCl)(l:List PVar)(j:Nat):Bool:=!decide (fV (c.ints.getD j default).l c.nn l (s8 c l c.aux.length)<0)
def aum(c:PCl)(l:List PVar)(j:Nat):Bool:=af8 (c.tests.getD j default)&&af0 (c.tests.getD j default).v c.nn l
def clB(c:PCl)(l:List PVar):Bool:=alf c.nul l.length&&alf c.nn l.length&&yq c.aux.length (ayp c l)&&yq c.ints.length (awk c l)&&yq c.tests.length (aum c l)&&(ak9 c.same c.nn l&&ak9 c.diff c.nn l)
structure PCl.Ok(c:PCl):Prop where
 nul:c.nul.length<=1000000000
 nn:c.nn.length<=1000000000
 aux:c.aux.length<=1000000000
 ints:c.ints.length<=1000000000
 tests:c.tests.length<=1000000000
 same:c.same.length<=1000000000
 diff:c.diff.length<=1000000000
 auxc:∀a∈c.aux,a.of_.cs.length<=1000000000
 intc:∀a∈c.ints,a.l.cs.length<=1000000000
 tes:∀a∈c.tests,a.s.size<=1000000000
def am{η:bm}{id ver w z len:Nat}{cs news:List AV}(hb:η id=some ⟨w,cs,z,false⟩)(hv:w=ver)(h0:Nat.beq len 0=false)(hc:ij 0 news.length cs=some news):Src η [id] (.sl id ver 0 len) len news:=Src.sl hb hv rfl h0 hc
def by2:(prog.info? 2).map (·.bytes)=some 8:=by kernel_rfl
def zr2:bp prog 2=some (.int .i64 0):=by kernel_rfl
def axm(p:PPred)(j:Nat):Bool:=clB (p.cls.getD j default) p.vars
def ayc(p:PPred)(n:Int):Bool:=decide (p.tab<0)||p.cols !=n||decide (n<1)||decide (n>p.vars.length)||!aw6 p.vars||decide ((p.cls.length:Int)>256)
def refB(p:PPred)(n:Int):Bool:=!ayc p n&&yq p.cls.length (axm p)
structure PPred.Ok(p:PPred):Prop where
 vars:p.vars.length<=1000000000
 cls:p.cls.length<=1000000000
 each:∀c∈p.cls,c.Ok
abbrev rwA(r:List AV):List AV:=r
abbrev sA(s:ByteArray):List AV:=[.v (.string s)]
structure KL(α:Type) where
 k:Nat
 L:List α
theorem ai:RowF iA 1:=⟨fun _=>rfl,fun _=>rfl,fun _ _=>rfl,fun _ _=>rfl,fun _ _=>rfl,fun _=>rfl⟩
def Ga:RowF sA 1:=⟨fun _=>rfl,fun _=>rfl,fun _ _=>rfl,fun _ _=>rfl,fun _ _=>rfl,fun _=>rfl⟩
abbrev jw(s:ByteArray):Prop:=s.size<=140737488351232
abbrev bq(l:List α)(F:α->Prop):Prop:=l.length<=140737488355328/\∀x∈l,F x
structure GVal where
 c_:Int
 v_:Int
 l_:ByteArray
variable{v:GVal}
abbrev gvA(x:GVal):List AV:=[.v (.int .i64 x.c_),.v (.int .i64 x.v_),.v (.string x.l_)]
structure FitVal(x:GVal):Prop where
 l_:jw x.l_
instance:Inhabited GVal:=⟨⟨0,0,⟨#[]⟩⟩⟩
structure GEx where
 op_:Int
 n_:ByteArray
 q_:ByteArray
 j_:Int
 k_:GVal
 b_:List (List AV)
abbrev exA(x:GEx):List AV:=[.v (.int .i64 x.op_),.v (.string x.n_),.v (.string x.q_),.v (.int .i64 x.j_),.v (.int .i64 x.k_.c_),.v (.int .i64 x.k_.v_),.v (.string x.k_.l_),.tree 8 (x.b_.map rwA)]
inductive IsEx:List AV->Prop
 |mk (x:GEx) (hn:bq x.b_ (fun _=>True)) (h1:jw x.n_) (h2:jw x.q_) (h3:FitVal x.k_) (h:∀r∈x.b_,IsEx r):IsEx (exA x)
structure FitEx(x:GEx):Prop where
 b_:bq x.b_ (fun y=>IsEx y)
 n_:jw x.n_
 q_:jw x.q_
 k_:FitVal x.k_
theorem IsEx.ind(H:∀x,FitEx x->(∀r∈x.b_,M r)->M (exA x))(h:IsEx r):M r:=by
 induction h with
 |mk x hn h1 h2 h3 h ih=>exact H x ⟨⟨hn.1,h⟩,h1,h2,h3⟩ ih
theorem jd(h:IsEx r):ij 0 8 (rwA r)=some r:=by
 cases h with
 |mk x hn h1 h2 h3 h=>rfl
theorem kc(h:IsEx r):bz r=true:=by
 cases h with
 |mk x hn h1 h2 h3 h=>rfl
def ko{x:GEx}(h:FitEx x):IsEx (exA x):=.mk x ⟨h.b_.1,fun _ _=>trivial⟩ h.n_ h.q_ h.k_ h.b_.2
theorem IsEx.open_(h:IsEx r):∃x,r=exA x/\FitEx x:=by
 cases h with
 |mk x hn h1 h2 h3 h=>exact⟨x,rfl,⟨⟨hn.1,h⟩,h1,h2,h3⟩⟩
structure GCol where
 q_:ByteArray
 D_:Int
 H_:Int
 G_:Int
 I_:Int
 A_:Bool
variable{T:List GCol}
abbrev zh(x:GCol):List AV:=[.v (.string x.q_),.v (.int .i64 x.D_),.v (.int .i64 x.H_),.v (.int .i64 x.G_),.v (.int .i64 x.I_),.v (.bool x.A_)]
structure FitCol(x:GCol):Prop where
 q_:jw x.q_
instance:Inhabited GCol:=⟨⟨⟨#[]⟩,0,0,0,0,false⟩⟩
structure GFor where
 d_:List Int
 n_:Int
 M_:Int
abbrev aix(x:GFor):List AV:=[.tree 1 (x.d_.map iA),.v (.int .i64 x.n_),.v (.int .i64 x.M_)]
structure FitFor(x:GFor):Prop where
 d_:bq x.d_ (fun y=>True)
instance:Inhabited GFor:=⟨⟨[],0,0⟩⟩
structure GTab where
 q_:ByteArray
 d_:List GCol
 u_:List (List Int)
 m_:List GFor
 h_:List (List AV)
abbrev ic(x:GTab):List AV:=[.v (.string x.q_),.tree 6 (x.d_.map zh),.tree 1 (x.u_.map (fun l=>[.tree 1 (l.map iA)])),.tree 3 (x.m_.map aix),.tree 8 (x.h_.map rwA)]
structure FitTab(x:GTab):Prop where
 q_:jw x.q_
 d_:bq x.d_ (fun y=>FitCol y)
 u_:bq x.u_ (fun y=>bq y (fun y=>True))
 m_:bq x.m_ (fun y=>FitFor y)
 h_:bq x.h_ (fun y=>IsEx y)
instance:Inhabited GTab:=⟨⟨⟨#[]⟩,[],[],[],[]⟩⟩
structure GRef where
 d_:List ByteArray
 n_:ByteArray
 z_:List ByteArray
abbrev ane(x:GRef):List AV:=[.tree 1 (x.d_.map sA),.v (.string x.n_),.tree 1 (x.z_.map sA)]
structure FitRef(x:GRef):Prop where
 d_:bq x.d_ (fun y=>jw y)
 n_:jw x.n_
 z_:bq x.z_ (fun y=>jw y)
instance:Inhabited GRef:=⟨⟨[],⟨#[]⟩,[]⟩⟩
structure GDef where
 d_:List GCol
 u_:List (List ByteArray)
 m_:List GRef
 h_:List (List AV)
abbrev aje(x:GDef):List AV:=[.tree 6 (x.d_.map zh),.tree 1 (x.u_.map (fun l=>[.tree 1 (l.map sA)])),.tree 3 (x.m_.map ane),.tree 8 (x.h_.map rwA)]
structure FitDef(x:GDef):Prop where
 d_:bq x.d_ (fun y=>FitCol y)
 u_:bq x.u_ (fun y=>bq y (fun y=>jw y))
 m_:bq x.m_ (fun y=>FitRef y)
 h_:bq x.h_ (fun y=>IsEx y)
instance:Inhabited GDef:=⟨⟨[],[],[],[]⟩⟩
structure GSta where
 c_:Int
 n_:ByteArray
 g_:GDef
abbrev P4(x:GSta):List AV:=[.v (.int .i64 x.c_),.v (.string x.n_),.tree 6 (x.g_.d_.map zh),.tree 1 (x.g_.u_.map (fun l=>[.tree 1 (l.map sA)])),.tree 3 (x.g_.m_.map ane),.tree 8 (x.g_.h_.map rwA),.v (.slice none 0 0),.v (.slice none 0 0),.v (.slice none 0 0),.v (.slice none 0 0),.v (.int .i64 0),.v (.string ⟨#[]⟩),.v (.string ⟨#[]⟩),.v (.int .i64 0),.v (.int .i64 0),.v (.int .i64 0),.v (.string ⟨#[]⟩),.v (.slice none 0 0),.v (.slice none 0 0),.v (.slice none 0 0),.v (.int .i64 0),.v (.string ⟨#[]⟩)]
structure FitSta(x:GSta):Prop where
 n_:jw x.n_
 g_:FitDef x.g_
instance:Inhabited GSta:=⟨⟨0,⟨#[]⟩,default⟩⟩
structure GTbu where
 q_:ByteArray
 d_:List GCol
abbrev X0(x:GTbu):List AV:=[.v (.string x.q_),.tree 6 (x.d_.map zh),.unk,.unk,.unk]
structure FitTbu(x:GTbu):Prop where
 q_:jw x.q_
 d_:bq x.d_ (fun y=>FitCol y)
instance:Inhabited GTbu:=⟨⟨⟨#[]⟩,[]⟩⟩
structure GDfn where
 d_:List GCol
 h_:List (List AV)
abbrev dfnA(x:GDfn):List AV:=[.tree 6 (x.d_.map zh),.v (.slice none 0 0),.v (.slice none 0 0),.tree 8 (x.h_.map rwA)]
structure FitDfn(x:GDfn):Prop where
 d_:bq x.d_ (fun y=>FitCol y)
 h_:bq x.h_ (fun y=>IsEx y)
instance:Inhabited GDfn:=⟨⟨[],[]⟩⟩
structure GStn where
 n_:ByteArray
 g_:GDfn
abbrev ami(x:GStn):List AV:=[.v (.int .i64 0),.v (.string x.n_),.tree 6 (x.g_.d_.map zh),.v (.slice none 0 0),.v (.slice none 0 0),.tree 8 (x.g_.h_.map rwA),.v (.slice none 0 0),.v (.slice none 0 0),.v (.slice none 0 0),.v (.slice none 0 0),.v (.int .i64 0),.v (.string ⟨#[]⟩),.v (.string ⟨#[]⟩),.v (.int .i64 0),.v (.int .i64 0),.v (.int .i64 0),.v (.string ⟨#[]⟩),.v (.slice none 0 0),.v (.slice none 0 0),.v (.slice none 0 0),.v (.int .i64 0),.v (.string ⟨#[]⟩)]
structure FitStn(x:GStn):Prop where
 n_:jw x.n_
 g_:FitDfn x.g_
instance:Inhabited GStn:=⟨⟨⟨#[]⟩,default⟩⟩
structure KB where
 k:Nat
 b:Bool
def ac5{x:GEx}(hx:FitEx x)(j:Nat)(hj:j<x.b_.length):∃a,x.b_[j]=exA a/\FitEx a:=(hx.b_.2 _ (ay7 hj)).open_
def ap2(n:Int):PRet prog 54 [vI n,.v (.slice none 0 0)] (fun r=>∃b:Bool,r=vB b/\(b=true->n<=20)):=by
 refine ovT [] [] func54 rfl rfl (LpG.exit ?_);refine cF (cD (fun h0=>?_) (fun h0=>?_))
 ·refine rV rfl rfl ?_;(refine⟨_,rfl,fun hr=>?_⟩;simp_all;try omega;done)
 exact rV rfl rfl bF
def Mq(t:GTab)(ht:FitTab t)(l:List Int)(hl:bq l (fun y=>True)):PRet prog 55 [.agg (ic t),.tree 1 (l.map iA)] (fun r=>∃b:Bool,r=vB b/\(b=true->∀x∈l,0<=x/\x<t.d_.length)):=by refine ovT [] [] func55 rfl rfl (LpG.on (fun k0:Nat=>(⟨fL [(1,.tree 1 (l.map iA)),(2,.ptr 0 0 0),(5,vI k0)],hLz [(0,⟨0,ic t,0,false⟩)],1⟩:St)) (fun k0=>(l.length-k0)) (fun k0=>(k0<=l.length/\∀j (hl:j<l.length),j<k0->0<=l[j]/\l[j]<t.d_.length)) 0 (cnR rfl) ⟨azk _,fun j _ h=>absurd h (azl j)⟩ ?_);rintro k0 h1;have hgr_k0:l.length<=140737488355328:=hl.1;obtain⟨hle_k0,h0⟩:=h1;refine LenG.of (cL (fun hlt9=>?_) (fun hge9=>?_));refine IdxG.of ‹_› (cD (fun h2=>⟨by kernel_rfl,cT (rV rfl rfl bF)⟩) (fun h2=>IdxG.of ‹_› (LenG.of ⟨by kernel_rfl,cD (fun h3=>rV rfl rfl bF) (fun h3=>⟨by omega,⟨(k0+1),by omega,(cnR rfl),⟨by omega,fun j hl h=>?_⟩⟩⟩)⟩)));rcases azn.1 h with h|rfl;exact h0 j hl h;exact⟨by simp_all,by simp_all⟩;exact rV rfl rfl ⟨_,rfl,fun _ x hx=>by obtain⟨j,hj,rfl⟩:=azs hx;exact h0 j hj (by omega)⟩
def O6(s:ByteArray)(hs:jw s)(t:ByteArray)(ht:jw t):PRet prog 201 [.v (.string s),.v (.string t)] (fun r=>∃b:Bool,r=vB b):=by refine ovT [] [] func201 rfl rfl (LpG.on (fun k0:Nat=>(⟨fL [(0,.v (.string s)),(1,.v (.string t)),(5,vI k0)],hLz [],0⟩:St)) (fun k0=>((s.size+1)-k0)) (fun k0=>(k0<=(s.size+1))) 0 (cnR rfl) (azk _) ?_);rintro k0 h1;have hle_k0:=h1;exact⟨by omega,cB (fun h0=>by have hlt12:k0<s.size+1:=(by have:=azi h0;omega);have hq12:((k0:Nat):Int)+((t.size:Nat):Int)<=s.size:=azi h0;exact⟨by omega,OpG.lk (H8 underlying9 rfl rfl rfl (by omega) (by omega) (by omega)) (cB (fun h2=>rV rfl rfl ⟨_,rfl⟩) (fun h2=>⟨by omega,⟨(k0+1),by omega,(cnR rfl),by omega⟩⟩))⟩) (fun h0=>rV rfl rfl ⟨_,rfl⟩)⟩
def api:PRet prog 202 [] (fun r=>∃s:ByteArray,r=.v (.string s)/\s.size<=1000):=ovT [] [] func202 rfl rfl (rV rfl rfl ⟨_,rfl,by decide⟩)
def adc(s:ByteArray)(hs:jw s):PRet prog 159 [.v (.string s)] (fun r=>∃b:Bool,r=vB b):=by refine ovT [] [] func159 rfl rfl (cB (fun h5=>by have hlt7:s.size<1:=Int.ofNat_lt.1 (azi h5);exact cT (cT (cT (rV rfl rfl ⟨_,rfl⟩)))) (fun h5=>have hge7:¬s.size<1:=fun h=>azh h5 (Int.ofNat_lt.2 h);cB (fun h1=>by have h6:=azi h1;exact cT (cT (rV rfl rfl ⟨_,rfl⟩))) (fun h1=>have h6:=azh h1;⟨(by exact Nat.lt_of_lt_of_le Nat.zero_lt_one (by omega)),cB (fun h7=>cT (rV rfl rfl ⟨_,rfl⟩)) (fun h7=>⟨(by exact Nat.lt_of_lt_of_le Nat.zero_lt_one (by omega)),cB (fun h8=>rV rfl rfl ⟨_,rfl⟩) (fun h8=>LpG.on (fun k0:Nat=>(⟨fL [(0,.v (.string s)),(3,vI k0)],hLz [],0⟩:St)) (fun k0=>(s.size-k0)) (fun k0=>(k0<=s.size)) 0 (cnR rfl) (azk _) ?_)⟩)⟩)));rintro k0 h9;have hgr_k0:s.size<=140737488355328:=azp hs (by decide);have hle_k0:=h9;refine cB (fun h2=>by have hlt25:k0<s.size:=Int.ofNat_lt.1 (azi h2);exact⟨‹_›,cB (fun ha=>⟨‹_›,cB (fun hb=>cT (cF ⟨by omega,⟨(k0+1),by omega,(cnR rfl),by omega⟩⟩)) (fun hb=>⟨‹_›,cB (fun h3=>⟨‹_›,cB (fun h4=>cF ⟨by omega,⟨(k0+1),by omega,(cnR rfl),by omega⟩⟩) (fun h4=>⟨‹_›,cB (fun h0=>rV rfl rfl ⟨_,rfl⟩) (fun h0=>⟨by omega,⟨(k0+1),by omega,(cnR rfl),by omega⟩⟩)⟩)⟩) (fun h3=>cF ⟨‹_›,cB (fun h0=>rV rfl rfl ⟨_,rfl⟩) (fun h0=>⟨by omega,⟨(k0+1),by omega,(cnR rfl),by omega⟩⟩)⟩)⟩)⟩) (fun ha=>cF ⟨‹_›,cB (fun h3=>⟨‹_›,cB (fun h4=>cF ⟨by omega,⟨(k0+1),by omega,(cnR rfl),by omega⟩⟩) (fun h4=>⟨‹_›,cB (fun h0=>rV rfl rfl ⟨_,rfl⟩) (fun h0=>⟨by omega,⟨(k0+1),by omega,(cnR rfl),by omega⟩⟩)⟩)⟩) (fun h3=>cF ⟨‹_›,cB (fun h0=>rV rfl rfl ⟨_,rfl⟩) (fun h0=>⟨by omega,⟨(k0+1),by omega,(cnR rfl),by omega⟩⟩)⟩)⟩)⟩) (fun h2=>have hge25:¬k0<s.size:=fun h=>azh h2 (Int.ofNat_lt.2 h);ArgG.mk (api) rfl ?_);rintro _ ⟨s0,rfl,hs0⟩;refine⟨(by simp only[ByteArray.size_append,ahk];omega),⟨(by simp only[ByteArray.size_append,ahk];omega),ArgG.mk (O6 s0 (by show _<=_;omega) ((((⟨#[32]⟩:ByteArray)++s)++(⟨#[32]⟩:ByteArray))) (by show _<=_;simp only[ByteArray.size_append,ahk];omega)) rfl ?_⟩⟩;rintro _ ⟨b1,rfl⟩;exact rV rfl rfl ⟨_,rfl⟩
def aas(c:GCol)(hc:FitCol c):PRet prog 160 [.agg (zh c)] (fun r=>∃b:Bool,r=vB b/\(b=true->(c.D_=1/\-2147483648<=c.H_/\c.H_<=c.G_/\c.G_<=2147483647/\c.I_=0)\/(c.D_=2/\1<=c.I_/\c.I_<=16/\c.H_=0/\c.G_=0))):=by
 refine ovT [] [] func160 rfl rfl ?_;refine ArgG.mk (adc c.q_ hc.q_) rfl ?_;rintro _ ⟨b0,rfl⟩;apply cB<;>intro hc6;exact rV rfl rfl bF;apply cB<;>intro hf
 ·have hg:(c.D_:Int)=(1:Int):=by simpa using hf
  apply cB<;>intro h0
  ·have h7:=azi h0;apply cB<;>intro h1
   ·have h8:=azi h1;apply cB<;>intro h2
    ·have h9:=azi h2;refine rV rfl rfl ?_;(refine⟨_,rfl,fun hr=>?_⟩;simp_all;try omega;done)
    have h9:=azh h2;exact rV rfl rfl bF
   have h8:=azh h1;exact cF (rV rfl rfl bF)
  have h7:=azh h0;refine cF (cF ?_);exact rV rfl rfl bF
 have hg:¬((c.D_:Int)=(1:Int)):=by simpa using hf
 apply cB<;>intro h3
 ·have ha:(c.D_:Int)=(2:Int):=by simpa using h3
  apply cB<;>intro h4
  ·have hb:=azi h4;apply cB<;>intro h5
   ·have hd:=azi h5;apply cB<;>intro h6
    ·have he:(c.H_:Int)=(0:Int):=by simpa using h6
     refine rV rfl rfl ?_;(refine⟨_,rfl,fun hr=>?_⟩;simp_all;try omega;done)
    have he:¬((c.H_:Int)=(0:Int)):=by simpa using h6
    exact rV rfl rfl bF
   have hd:=azh h5;exact cF (rV rfl rfl bF)
  have hb:=azh h4;refine cF (cF ?_);exact rV rfl rfl bF
 have ha:¬((c.D_:Int)=(2:Int)):=by simpa using h3
 refine cF (cF ?_);exact cF (rV rfl rfl bF)
theorem toList_inj{a b:ByteArray}(h:a.toList=b.toList):a=b:=by rw[Go.ByteArray.toList_eq,Go.ByteArray.toList_eq]at h;exact ByteArray.ext (Array.toList_inj.1 h)
def Zk{l:List Int}{s:KL ByteArray}(h:s.L.length=s.k/\∀j,j<s.k->∃p:Nat,∃hp:p<T.length,l[j]? =some ((p:Nat):Int)/\s.L[j]? =some T[p].q_){p:Nat}(hp:p<T.length)(hl:l[s.k]? =some ((p:Nat):Int)):
 (s.L++[T[p].q_]).length=s.k+1/\∀j,j<s.k+1->∃p':Nat,∃hp:p'<T.length,l[j]? =some ((p':Nat):Int)/\(s.L++[T[p].q_])[j]? =some T[p'].q_:=by grind
def Zb{l:List ByteArray}{s:KL Int}(h:s.L.length=s.k/\∀j,j<s.k->∃p:Nat,∃hp:p<T.length,s.L[j]? =some ((p:Nat):Int)/\l[j]? =some T[p].q_){p:Nat}(hp:p<T.length)(hl:l[s.k]? =some T[p].q_):
 (s.L++[((p:Nat):Int)]).length=s.k+1/\∀j,j<s.k+1->∃p':Nat,∃hp:p'<T.length,(s.L++[((p:Nat):Int)])[j]? =some ((p':Nat):Int)/\l[j]? =some T[p'].q_:=by grind
def ate(T U:List GCol)(a b:List Int)(j:Nat):Prop:=∃p q:Nat,∃(hp:p<T.length) (hq:q<U.length),a[j]? =some ((p:Nat):Int)/\b[j]? =some ((q:Nat):Int)/\T[p].D_=U[q].D_
def att(T U:List GCol)(a b:List Int):Prop:=∀j,j<a.length->ate T U a b j
def P9(T:List GCol)(l:List Int)(L:List ByteArray):Prop:=∀j,j<l.length->∃p:Nat,∃hp:p<T.length,l[j]? =some ((p:Nat):Int)/\L[j]? =some T[p].q_
def Xv(l:List α)(f:α->ByteArray)(nm:ByteArray)(j:Nat)(b:Bool):Prop:=(∀h:j<l.length,b=true->f l[j]=nm)/\(b=false->∀x∈l,f x≠nm)
theorem Xv.yes{l:List α}{f:α->ByteArray}(h:k<l.length)(hc:((f l[k]).toList==nm.toList)=true):Xv l f nm k true:=⟨fun _ _=>toList_inj (beq_iff_eq.1 hc),fun h=>absurd h.symm az7⟩
theorem Xv.no{l:List α}{f:α->ByteArray}{j:Nat}(h:∀j (hl:j<l.length),j<k->f l[j]≠nm)(hk:¬k<l.length):Xv l f nm j false:=by grind[Xv,azs]
def auj{a b:ByteArray}(h:(a.toList==b.toList)=false):a≠b:=fun e=>by rw[e]at h;simp at h
def X4{β:Type}(f:α->β)(l:List α):Prop:=∀i j (hi:i<l.length) (hj:j<l.length),f l[i]=f l[j]->i=j
def X4.of{β:Type}{f:α->β}{l:List α}(h:∀i (hi:i<l.length),∀j (hj:j<l.length),j<i->f l[i]≠f l[j]):X4 f l:=by grind[X4]
def by3:(prog.info? 3).map (·.bytes)=some 8:=by kernel_rfl
def by9:(prog.info? 9).map (·.bytes)=some 16:=by kernel_rfl
def Yi:aj prog 100=some 6:=by kernel_rfl
def sz9:aj prog 9=some 1:=by kernel_rfl
def zr3:bp prog 3=some (.int .i64 0):=by kernel_rfl
def zr9:bp prog 9=some (.string ⟨#[]⟩):=by kernel_rfl
def Mz(s:List GTab)(hs:bq s (fun y=>FitTab y))(nm:ByteArray)(hnm:jw nm):PRet prog 161 [.tree 5 (s.map ic),.v (.string nm)] (fun r=>∃(j:Nat) (b:Bool),r=.tup [vI j,vB b]/\(b=true->j<s.length)/\Xv s (·.q_) nm j b):=by refine ovT [] [] func161 rfl rfl (LpG.on (fun k0:Nat=>(⟨fL [(0,.tree 5 (s.map ic)),(1,.v (.string nm)),(6,vI k0)],hLz [],0⟩:St)) (fun k0=>(s.length-k0)) (fun k0=>(k0<=s.length/\∀j (hl:j<s.length),j<k0->s[j].q_≠nm)) 0 (cnR rfl) ⟨azk _,fun j _ h=>absurd h (azl j)⟩ ?_);rintro k0 h1;have hgr_k0:s.length<=140737488355328:=hs.1;obtain⟨hle_k0,h0⟩:=h1;refine LenG.of (cL (fun hlt10=>?_) (fun hge10=>?_));refine IdxG.of ‹_› (cB (fun h2=>rtB rfl rfl ⟨_,_,rfl,fun _=>by assumption,Xv.yes ‹_› ‹_›⟩) (fun h2=>⟨by omega,⟨(k0+1),by omega,(cnR rfl),⟨by omega,fun j hl h=>?_⟩⟩⟩));rcases azn.1 h with h|rfl;exact h0 j hl h;exact auj ‹_›;exact rtB rfl rfl ⟨0,false,rfl,fun h=>absurd h az7,Xv.no h0 ‹_›⟩
def In(l:List ByteArray)(hl:bq l (fun y=>jw y)):PRet prog 162 [.tree 1 (l.map sA)] (fun r=>∃b:Bool,r=vB b/\(b=false->X4 id l)):=by refine ovT [] [] func162 rfl rfl (LpG.on (fun k0:Nat=>(⟨fL [(0,.tree 1 (l.map sA)),(3,vI k0)],hLz [],0⟩:St)) (fun k0=>(l.length-k0)) (fun k0=>(k0<=l.length/\∀i (hi:i<l.length),i<k0->∀j (hj:j<l.length),j<i->l[i]≠l[j])) 0 (cnR rfl) ⟨azk _,fun j _ h=>absurd h (azl j)⟩ ?_);rintro k0 h2;have hgr_k0:l.length<=140737488355328:=hl.1;obtain⟨hle_k0,h0⟩:=h2;refine LenG.of (cL (fun hlt8=>?_) (fun hge8=>?_));refine LpG.on (fun k2:Nat=>(⟨fL [(0,.tree 1 (l.map sA)),(3,vI k0),(4,vI k2)],hLz [],0⟩:St)) (fun k2=>(k0-k2)) (fun k2=>(k2<=k0/\∀j (hl:j<l.length),j<k2->l[k0]≠l[j])) 0 (cnR rfl) ⟨azk _,fun j _ h=>absurd h (azl j)⟩ ?_;rintro k2 h2;obtain⟨hle_k2,h1⟩:=h2;apply cL<;>intro hlt13;refine IdxG.of ‹_› (IdxG.of (by omega) ⟨by kernel_rfl,cB (fun h3=>rV rfl rfl ⟨_,rfl,fun h=>absurd h.symm az7⟩) (fun h3=>⟨by omega,⟨(k2+1),by omega,(cnR rfl),⟨by omega,fun j hl h=>?_⟩⟩⟩)⟩);rcases azn.1 h with h|rfl;exact h1 j hl h;exact auj ‹_›;refine⟨by omega,⟨(k0+1),by omega,(cnR rfl),⟨by omega,fun j hl h=>?_⟩⟩⟩;rcases azn.1 h with h|rfl;exact h0 j hl h;intro j hj hji;exact h1 j hj (by omega);exact rV rfl rfl ⟨_,rfl,fun _=>X4.of fun i hi j hj h=>h0 i hi (by omega) j hj h⟩
def af6(a:List ByteArray)(ha:bq a (fun y=>jw y))(b:List ByteArray)(hb:bq b (fun y=>jw y)):PRet prog 163 [.tree 1 (a.map sA),.tree 1 (b.map sA)] (fun r=>∃b:Bool,r=vB b):=by refine ovT [] [] func163 rfl rfl (LenG.of (LenG.of (cB (fun h0=>by have h1:¬(((a.length:Nat):Int)=((b.length:Nat):Int)):=(by simpa using h0);exact rV rfl rfl ⟨_,rfl⟩) (fun h0=>have h1:((a.length:Nat):Int)=((b.length:Nat):Int):=(by simpa using h0);have hab:a.length=b.length:=(by have h:=h0;simp at h;omega);LpG.on (fun k0:Nat=>(⟨fL [(0,.tree 1 (a.map sA)),(1,.tree 1 (b.map sA)),(5,vI k0)],hLz [],0⟩:St)) (fun k0=>(a.length-k0)) (fun k0=>(k0<=a.length)) 0 (cnR rfl) (azk _) ?_))));rintro k0 h2;have hgr_k0:a.length<=140737488355328:=ha.1;have hle_k0:=h2;exact LenG.of (cL (fun hlt14=>IdxG.of ‹_› (IdxG.of (by omega) ⟨by kernel_rfl,cB (fun h3=>rV rfl rfl ⟨_,rfl⟩) (fun h3=>⟨by omega,⟨(k0+1),by omega,(cnR rfl),by omega⟩⟩)⟩)) (fun hge14=>rV rfl rfl ⟨_,rfl⟩))
def apl(a:List Int)(ha:bq a (fun y=>True))(b:List Int)(hb:bq b (fun y=>True)):PRet prog 165 [.tree 1 (a.map iA),.tree 1 (b.map iA)] (fun r=>∃b:Bool,r=vB b):=by refine ovT [] [] func165 rfl rfl (LenG.of (LenG.of (cB (fun h0=>by have h1:¬(((a.length:Nat):Int)=((b.length:Nat):Int)):=(by simpa using h0);exact rV rfl rfl ⟨_,rfl⟩) (fun h0=>have h1:((a.length:Nat):Int)=((b.length:Nat):Int):=(by simpa using h0);have hab:a.length=b.length:=(by have h:=h0;simp at h;omega);LpG.on (fun k0:Nat=>(⟨fL [(0,.tree 1 (a.map iA)),(1,.tree 1 (b.map iA)),(5,vI k0)],hLz [],0⟩:St)) (fun k0=>(a.length-k0)) (fun k0=>(k0<=a.length)) 0 (cnR rfl) (azk _) ?_))));rintro k0 h2;have hgr_k0:a.length<=140737488355328:=ha.1;have hle_k0:=h2;exact LenG.of (cL (fun hlt14=>IdxG.of ‹_› (IdxG.of (by omega) ⟨by kernel_rfl,cN (fun h3=>rV rfl rfl ⟨_,rfl⟩) (fun h3=>⟨by omega,⟨(k0+1),by omega,(cnR rfl),by omega⟩⟩)⟩)) (fun hge14=>rV rfl rfl ⟨_,rfl⟩))
def J5(t:GTbu)(ht:FitTbu t)(nm:ByteArray)(hnm:jw nm):PRet prog 203 [.agg (X0 t),.v (.string nm)] (fun r=>∃(j:Nat) (b:Bool),r=.tup [vI j,vB b]/\(b=true->j<t.d_.length)/\Xv t.d_ (·.q_) nm j b):=by refine ovT [] [] func203 rfl rfl (LpG.on (fun k0:Nat=>(⟨fL [(1,.v (.string nm)),(2,.ptr 0 0 0),(6,vI k0)],hLz [(0,⟨0,X0 t,0,false⟩)],1⟩:St)) (fun k0=>(t.d_.length-k0)) (fun k0=>(k0<=t.d_.length/\∀j (hl:j<t.d_.length),j<k0->t.d_[j].q_≠nm)) 0 (cnR rfl) ⟨azk _,fun j _ h=>absurd h (azl j)⟩ ?_);rintro k0 h1;have hgr_k0:t.d_.length<=140737488355328:=ht.d_.1;obtain⟨hle_k0,h0⟩:=h1;refine LenG.of (cL (fun hlt11=>?_) (fun hge11=>?_));refine IdxG.of ‹_› (cB (fun h2=>rtB rfl rfl ⟨_,_,rfl,fun _=>by assumption,Xv.yes ‹_› ‹_›⟩) (fun h2=>⟨by omega,⟨(k0+1),by omega,(cnR rfl),⟨by omega,fun j hl h=>?_⟩⟩⟩));rcases azn.1 h with h|rfl;exact h0 j hl h;exact auj ‹_›;exact rtB rfl rfl ⟨0,false,rfl,fun h=>absurd h az7,Xv.no h0 ‹_›⟩
def Yd(t:GTbu)(ht:FitTbu t)(u:GTbu)(hu:FitTbu u)(a:List Int)(ha:bq a (fun y=>True))(b:List Int)(hb:bq b (fun y=>True))(h9:∀x∈a,0<=x/\x<t.d_.length)(hc:∀x∈b,0<=x/\x<u.d_.length)(hab:a.length=b.length):PRet prog 166 [.agg (X0 t),.agg (X0 u),.tree 1 (a.map iA),.tree 1 (b.map iA)] (fun r=>∃c:Bool,r=vB c/\(c=true->att t.d_ u.d_ a b)):=by refine ovT [22,31] [] func166 rfl rfl (LpG.on (fun k0:Nat=>(⟨fL [(2,.tree 1 (a.map iA)),(3,.tree 1 (b.map iA)),(4,.ptr 0 0 0),(5,.ptr 1 0 0),(9,vI k0)],hLz [(0,⟨0,X0 t,0,false⟩),(1,⟨0,X0 u,0,false⟩)],2⟩:St)) (fun k0=>(a.length-k0)) (fun k0=>(k0<=a.length/\∀j (hl:j<a.length),j<k0->ate t.d_ u.d_ a b j)) 0 (cnR rfl) ⟨azk _,fun j _ h=>absurd h (azl j)⟩ ?_);rintro k0 h6;have hgr_k0:a.length<=140737488355328:=ha.1;obtain⟨hle_k0,h0⟩:=h6;refine LenG.of (cL (fun h1=>?_) (fun hge13=>?_));have h7:k0<b.length:=(by omega);obtain⟨j1,h2,h3⟩:∃j:Nat,a[k0]=((j:Nat):Int)/\j<t.d_.length:=⟨(a[k0]).toNat,by have:=h9 _ (ay7 _:a[k0]∈_);omega,by have:=h9 _ (ay7 _:a[k0]∈_);omega⟩;obtain⟨j2,h4,h5⟩:∃j:Nat,b[k0]=((j:Nat):Int)/\j<u.d_.length:=⟨(b[k0]).toNat,by have:=hc _ (ay7 _:b[k0]∈_);omega,by have:=hc _ (ay7 _:b[k0]∈_);omega⟩;refine IdxG.of ‹_› (OpG.lk (ae underlying22 Yi rfl rfl h2 h3) ?_);refine IdxG.of ‹_› (OpG.lk (ae underlying22 Yi rfl rfl h4 h5) ?_);refine⟨by kernel_rfl,cN (fun h8=>rV rfl rfl bF) (fun h8=>⟨by omega,⟨(k0+1),by omega,(cnR rfl),⟨by omega,fun j hl h=>?_⟩⟩⟩)⟩;rcases azn.1 h with h|rfl;exact h0 j hl h;exact⟨j1,j2,h3,h5,(ay8 h1).trans (congrArg some h2),(ay8 h7).trans (congrArg some h4),by simp_all⟩;exact rV rfl rfl ⟨_,rfl,fun _ j hj=>h0 j hj (by omega)⟩
def Zj(t:GTbu)(ht:FitTbu t)(l:List Int)(hl:bq l (fun y=>True))(h8:∀x∈l,0<=x/\x<t.d_.length)(hl2:l.length<=1000):PRet prog 107 [.agg (X0 t),.tree 1 (l.map iA)] (fun r=>∃L:List ByteArray,r=.tree 1 (L.map sA)/\L.length=l.length/\bq L (fun y=>jw y)/\P9 t.d_ l L):=by refine ovT [20] [] func107 rfl rfl (LpG.via (fun _ h=>bl 5 1 rfl 2 rfl h) ?_);refine LpG.on (fun k0:KL ByteArray=>(⟨fL [(1,.tree 1 (l.map iA)),(2,.ptr 0 0 0),(5,.sl 1 k0.L.length 0 k0.L.length),(6,vI k0.k)],hLz [(0,⟨0,X0 t,0,false⟩),(1,⟨k0.L.length,rF sA k0.L,1,Nat.beq k0.L.length 0⟩)],2⟩:St)) (fun k0=>(l.length-k0.k)) (fun k0=>(k0.k<=l.length/\k0.L.length=k0.k/\(∀x∈k0.L,jw x)/\(k0.L.length=k0.k/\∀j,j<k0.k->∃p:Nat,∃hp:p<t.d_.length,l[j]? =some ((p:Nat):Int)/\k0.L[j]? =some t.d_[p].q_))) (⟨0,[]⟩:KL ByteArray) (cnS (by rfl) (hpR rfl (hpS (ab Ga _ _) (by rfl) trivial))) ⟨azk _,rfl,by simp,⟨rfl,fun j h=>absurd h (azl j)⟩⟩ ?_;rintro k0 h6;have hgr_k0:l.length<=140737488355328:=hl.1;obtain⟨hle_k0,h2,h0,h1⟩:=h6;refine LenG.of (cL (fun h3=>?_) (fun hge10=>?_));obtain⟨j1,h4,h5⟩:∃j:Nat,l[k0.k]=((j:Nat):Int)/\j<t.d_.length:=⟨(l[k0.k]).toNat,by have:=h8 _ (ay7 _:l[k0.k]∈_);omega,by have:=h8 _ (ay7 _:l[k0.k]∈_);omega⟩;refine IdxG.of ‹_› (OpG.lk (ae underlying22 Yi rfl rfl h4 h5) ?_);refine OpG.mk _ _ _ 3 (ah Ga (a:=(t.d_[j1].q_)) underlying207 sz9 zr9 by9 rfl rfl rfl (am rfl rfl rfl rfl) rfl (by omega) (by omega) (by unfold TV;omega)) rfl rfl ⟨by kernel_rfl,⟨by omega,?_⟩⟩;refine⟨(⟨k0.k+1,k0.L++[(t.d_[j1].q_)]⟩:KL ByteArray),(nsA ‹_›),(cO (.cons rfl rfl (.cons rfl rfl (.cons (by(rw[azb];rfl)) rfl (.cons rfl rfl .nil)))) (.cons rfl rfl rfl (.cons (by(rw[azb];rfl)) rfl (ab Ga _ _) .nil))),⟨‹_›,by show(_++[_]).length=k0.k+1;rw[azb,h2];rfl,fun y_ h7=>(azd.1 h7).elim (h0 y_) (fun h7=>by rw[azc.1 h7];exact(ht.d_.2 _ (ay7 _)).q_),?_⟩⟩;exact Zk h1 h5 ((ay8 h3).trans (congrArg some h4));exact rtA rfl ⟨[1],FzP.rows Ga (azc.2 rfl) rfl⟩ ⟨_,rfl,by omega,⟨by omega,h0⟩,fun j hj=>h1.2 j (by omega)⟩
def w9(t:GTbu)(ht:FitTbu t)(l:List ByteArray)(hl:bq l (fun y=>jw y))(hl2:l.length<=1000):PRet prog 164 [.agg (X0 t),.tree 1 (l.map sA)] (fun r=>∃(L:List Int) (b:Bool),r=.tup [.tree 1 (L.map iA),vB b]/\bq L (fun _=>True)/\(b=true->L.length=l.length/\∀x∈L,0<=x/\x<t.d_.length)/\(b=true->P9 t.d_ L l)):=by refine ovT [] [] func164 rfl rfl (LpG.via (fun _ h=>bl 6 1 rfl 2 rfl h) (LpG.on (fun k0:KL Int=>(⟨fL [(1,.tree 1 (l.map sA)),(2,.ptr 0 0 0),(6,.sl 1 k0.L.length 0 k0.L.length),(7,vI k0.k)],hLz [(0,⟨0,X0 t,0,false⟩),(1,⟨k0.L.length,rF iA k0.L,1,Nat.beq k0.L.length 0⟩)],2⟩:St)) (fun k0=>(l.length-k0.k)) (fun k0=>(k0.k<=l.length/\k0.L.length=k0.k/\(∀x∈k0.L,True)/\((∀x∈k0.L,0<=x/\x<t.d_.length)/\k0.L.length=k0.k/\∀j,j<k0.k->∃p:Nat,∃hp:p<t.d_.length,k0.L[j]? =some ((p:Nat):Int)/\l[j]? =some t.d_[p].q_))) (⟨0,[]⟩:KL Int) (cnS (by rfl) (hpR rfl (hpS (ab ai _ _) (by rfl) trivial))) ⟨azk _,rfl,by simp,⟨fun x hx=>absurd hx (by simp),rfl,fun j h=>absurd h (azl j)⟩⟩ ?_));rintro k0 h4;have hgr_k0:l.length<=140737488355328:=hl.1;obtain⟨hle_k0,h1,hf_k0,h0⟩:=h4;refine LenG.of (cL (fun h2=>?_) (fun hge13=>?_));refine IdxG.of ‹_› (ArgG.mk (J5 t ht (l[k0.k]) (hl.2 _ (ay7 _))) rfl ?_);rintro _ ⟨j0,b0,rfl,h7,h8⟩;refine⟨by kernel_rfl,cB (fun h3=>⟨.inr rfl,_,dh rfl (afe.tmp (ret:=.tree 1 []) ⟨[],FzP.nil⟩) (afe.tmp ⟨[],FzP.pure rfl⟩),⟨[],false,rfl,⟨by simp,fun _ _=>trivial⟩,fun h=>absurd h az7,fun h=>absurd h az7⟩⟩) (fun h3=>OpG.mk _ _ _ 3 (ah ai (a:=((j0:Nat):Int)) underlying53 sz3 zr3 by3 rfl rfl rfl (am rfl rfl rfl rfl) rfl (by omega) (by omega) (by unfold TV;omega)) rfl rfl ⟨by omega,⟨(⟨k0.k+1,k0.L++[((j0:Nat):Int)]⟩:KL Int),(nsA ‹_›),(cO (.cons rfl rfl (.cons rfl rfl (.cons (by(rw[azb];rfl)) rfl (.cons rfl rfl .nil)))) (.cons rfl rfl rfl (.cons (by(rw[azb];rfl)) rfl (ab ai _ _) .nil))),⟨‹_›,by show(_++[_]).length=k0.k+1;rw[azb,h1];rfl,fun _ _=>trivial,have h5:b0=true:=(by simpa using h3);have h6:=h7 h5;⟨fun x hx=>?_,Zb h0.2 h6 ((ay8 h2).trans (congrArg some (h8.1 h6 h5).symm))⟩⟩⟩⟩)⟩;rcases azd.1 hx with hx|hx;exact h0.1 x hx;rw[azc.1 hx];omega;exact⟨.inr rfl,_,dh rfl (afe.tmp ⟨[1],FzP.rows ai (azc.2 rfl) rfl⟩) (afe.tmp ⟨[],FzP.pure rfl⟩),⟨_,true,rfl,⟨by omega,fun _ _=>trivial⟩,fun _=>⟨by omega,h0.1⟩,fun _ j hj=>h0.2.2 j (by omega)⟩⟩
def Ji(t:GTab)(ht:FitTab t)(l:List Int)(hl:bq l (fun y=>True))(h0:∀x∈l,0<=x/\x<t.d_.length)(h1:l.length<=1000):PRet prog 107 [.agg (ic t),.tree 1 (l.map iA)] (fun r=>∃L:List ByteArray,r=.tree 1 (L.map sA)/\L.length=l.length/\bq L (fun y=>jw y)/\P9 t.d_ l L):=(Zj ⟨t.q_,t.d_⟩ ⟨ht.q_,ht.d_⟩ l hl h0 h1).wk (.cons (Wk.aggL (.cons .rfl (.cons .rfl (.cons .unk (.cons .unk (.cons .unk .nil)))))) (.cons .rfl .nil))
def Sx(t:GTab)(ht:FitTab t)(l:List ByteArray)(hl:bq l (fun y=>jw y))(h0:l.length<=1000):PRet prog 164 [.agg (ic t),.tree 1 (l.map sA)] (fun r=>∃(L:List Int) (b:Bool),r=.tup [.tree 1 (L.map iA),vB b]/\bq L (fun _=>True)/\(b=true->L.length=l.length/\∀x∈L,0<=x/\x<t.d_.length)/\(b=true->P9 t.d_ L l)):=(w9 ⟨t.q_,t.d_⟩ ⟨ht.q_,ht.d_⟩ l hl h0).wk (.cons (Wk.aggL (.cons .rfl (.cons .rfl (.cons .unk (.cons .unk (.cons .unk .nil)))))) (.cons .rfl .nil))
def U6{f:α->ByteArray}{l:List α}{L:List ByteArray}(h:X4 id L)(e:L=(l.take k).map f)(hk:l.length<=k):X4 f l:=by rw[az0 hk]at e;subst e;intro i j hi hj he;exact h i j (by simpa using hi) (by simpa using hj) (by simpa using he)
def Bu(c:GCol):Prop:=(c.D_=1/\-2147483648<=c.H_/\c.H_<=c.G_/\c.G_<=2147483647/\c.I_=0)\/(c.D_=2/\1<=c.I_/\c.I_<=16/\c.H_=0/\c.G_=0)
def Tu(x:GSta)(hx:FitSta x):PRet prog 108 [.agg (P4 x)] (fun r=>∃b:Bool,r=vB b/\(b=false->(∀c∈x.g_.d_,Bu c)/\(∀f∈x.g_.m_,f.d_.length=f.z_.length/\f.d_.length≠0)/\(∀k∈x.g_.u_,k.length≠0)/\x.g_.d_.length≠0)):=by refine ovT [] [] func108 rfl rfl (ArgG.mk (adc x.n_ hx.n_) rfl ?_);rintro _ ⟨b0,rfl⟩;refine cB (fun hb=>cT (rV rfl rfl ⟨_,rfl,fun h=>absurd h.symm az7⟩)) (fun hb=>LenG.of (cE (fun hd=>rV rfl rfl ⟨_,rfl,fun h=>absurd h.symm az7⟩) (fun hd=>LpG.on (fun k0:Nat=>(⟨fL [(3,.ptr 1 0 0),(4,vI k0)],hLz [(1,⟨0,aje x.g_,0,false⟩)],2⟩:St)) (fun k0=>(x.g_.d_.length-k0)) (fun k0=>(k0<=x.g_.d_.length/\∀j (hl:j<x.g_.d_.length),j<k0->Bu x.g_.d_[j])) 0 (cnR rfl) ⟨azk _,fun j _ h=>absurd h (azl j)⟩ ?_)));rintro k0 h1;have hgr_k0:x.g_.d_.length<=140737488355328:=hx.g_.d_.1;obtain⟨hle_k0,h7⟩:=h1;refine LenG.of (cL (fun hlt23=>?_) (fun hge23=>?_));refine IdxG.of ‹_› (ArgG.mk (aas (x.g_.d_[k0]) (hx.g_.d_.2 _ (ay7 _))) rfl ?_);rintro _ ⟨b1,rfl,hh⟩;refine cB (fun ha=>rV rfl rfl ⟨_,rfl,fun h=>absurd h.symm az7⟩) (fun ha=>⟨by omega,⟨(k0+1),by omega,(cnR rfl),⟨by omega,fun j hl h=>?_⟩⟩⟩);rcases azn.1 h with h|rfl;exact h7 j hl h;exact hh (by simpa using ha);refine LpG.on (fun k2:Nat=>(⟨fL [(3,.ptr 1 0 0),(5,vI k2)],hLz [(1,⟨0,aje x.g_,0,false⟩)],2⟩:St)) (fun k2=>(x.g_.u_.length-k2)) (fun k2=>(k2<=x.g_.u_.length/\∀j (hl:j<x.g_.u_.length),j<k2->x.g_.u_[j].length≠0)) 0 (cnR rfl) ⟨azk _,fun j _ h=>absurd h (azl j)⟩ ?_;rintro k2 h1;have hgr_k2:x.g_.u_.length<=140737488355328:=hx.g_.u_.1;obtain⟨hle_k2,h8⟩:=h1;refine LenG.of (cL (fun hlt37=>?_) (fun hge37=>?_));refine IdxG.of ‹_› (LenG.of (cB (fun h4=>by have he:((x.g_.u_[k2].length:Nat):Int)=(0:Int):=(by simpa using h4);exact rV rfl rfl ⟨_,rfl,fun h=>absurd h.symm az7⟩) (fun h4=>have he:¬(((x.g_.u_[k2].length:Nat):Int)=(0:Int)):=(by simpa using h4);⟨by omega,⟨(k2+1),by omega,(cnR rfl),⟨by omega,fun j hl h=>?_⟩⟩⟩)));rcases azn.1 h with h|rfl;exact h8 j hl h;have h:=h4;simp at h;intro h2;simp_all;refine LpG.on (fun k4:Nat=>(⟨fL [(3,.ptr 1 0 0),(6,vI k4)],hLz [(1,⟨0,aje x.g_,0,false⟩)],2⟩:St)) (fun k4=>(x.g_.m_.length-k4)) (fun k4=>(k4<=x.g_.m_.length/\∀j (hl:j<x.g_.m_.length),j<k4->x.g_.m_[j].d_.length=x.g_.m_[j].z_.length/\x.g_.m_[j].d_.length≠0)) 0 (cnR rfl) ⟨azk _,fun j _ h=>absurd h (azl j)⟩ ?_;rintro k4 h1;have hgr_k4:x.g_.m_.length<=140737488355328:=hx.g_.m_.1;obtain⟨hle_k4,h9⟩:=h1;refine LenG.of (cL (fun hlt51=>?_) (fun hge51=>?_));refine IdxG.of ‹_› (LenG.of (cB (fun h5=>by have hf:((x.g_.m_[k4].d_.length:Nat):Int)=(0:Int):=(by simpa using h5);exact⟨by kernel_rfl,cT (rV rfl rfl ⟨_,rfl,fun h=>absurd h.symm az7⟩)⟩) (fun h5=>have hf:¬(((x.g_.m_[k4].d_.length:Nat):Int)=(0:Int)):=(by simpa using h5);IdxG.of ‹_› (LenG.of (IdxG.of ‹_› (LenG.of ⟨by kernel_rfl,cB (fun h6=>by have hg:¬(((x.g_.m_[k4].d_.length:Nat):Int)=((x.g_.m_[k4].z_.length:Nat):Int)):=(by simpa using h6);exact rV rfl rfl ⟨_,rfl,fun h=>absurd h.symm az7⟩) (fun h6=>have hg:((x.g_.m_[k4].d_.length:Nat):Int)=((x.g_.m_[k4].z_.length:Nat):Int):=(by simpa using h6);⟨by omega,⟨(k4+1),by omega,(cnR rfl),⟨by omega,fun j hl h=>?_⟩⟩⟩)⟩))))));rcases azn.1 h with h|rfl;exact h9 j hl h;have h:=h6;have h2:=h5;simp at h h2;exact⟨by omega,by intro h3;simp_all⟩;exact rV rfl rfl ⟨_,rfl,fun _=>⟨fun c hc=>by obtain⟨j,hj,rfl⟩:=azs hc;exact h7 j hj (by omega),fun c hc=>by obtain⟨j,hj,rfl⟩:=azs hc;exact h9 j hj (by omega),fun c hc=>by obtain⟨j,hj,rfl⟩:=azs hc;exact h8 j hj (by omega),by first|omega|(intro h0;simp_all)⟩⟩
def aag(s:List GTab)(hs:bq s (fun y=>FitTab y))(x:GSta)(hx:FitSta x)(hcl:x.g_.d_.length<=1000):PRet prog 109 [.tree 5 (s.map ic),.agg (P4 x)] (fun r=>∃b:Bool,r=vB b/\(b=false->(∀t∈s,t.q_≠x.n_)/\X4 (·.q_) x.g_.d_)):=by refine ovT [] [10] func109 rfl rfl (ArgG.mk (Mz s hs x.n_ hx.n_) rfl ?_);rintro _ ⟨j0,b0,rfl,hj0,h9⟩;apply cB<;>intro h5;exact rV rfl rfl ⟨_,rfl,fun h=>absurd h.symm az7⟩;refine LpG.via (fun _ h=>bl 8 1 rfl 3 rfl h) (LpG.on (fun k0:KL ByteArray=>(⟨fL [(5,.ptr 1 0 0),(8,.sl 2 k0.L.length 0 k0.L.length),(9,vI k0.k)],hLz [(1,⟨0,aje x.g_,0,false⟩),(2,⟨k0.L.length,rF sA k0.L,1,Nat.beq k0.L.length 0⟩)],3⟩:St)) (fun k0=>(x.g_.d_.length-k0.k)) (fun k0=>(k0.k<=x.g_.d_.length/\k0.L.length=k0.k/\(∀x∈k0.L,jw x)/\k0.L=(x.g_.d_.take k0.k).map (·.q_))) (⟨0,[]⟩:KL ByteArray) (cnS (by rfl) (hpR rfl (hpS (ab Ga _ _) (by rfl) trivial))) ⟨azk _,rfl,by simp,rfl⟩ ?_);rintro k0 h0;have hgr_k0:x.g_.d_.length<=140737488355328:=hx.g_.d_.1;obtain⟨hle_k0,h3,h1,h2⟩:=h0;refine LenG.of (cL (fun h4=>?_) (fun hge27=>?_));refine IdxG.of ‹_› (OpG.mk _ _ _ 4 (ah Ga (a:=(x.g_.d_[k0.k].q_)) underlying207 sz9 zr9 by9 rfl rfl rfl (am rfl rfl rfl rfl) rfl (by omega) (by omega) (by unfold TV;omega)) rfl rfl ?_);refine⟨by omega,⟨(⟨k0.k+1,k0.L++[(x.g_.d_[k0.k].q_)]⟩:KL ByteArray),(nsA ‹_›),(cO (.cons rfl rfl (.cons (by(rw[azb];rfl)) rfl (.cons rfl rfl .nil))) (.cons rfl rfl rfl (.cons (by(rw[azb];rfl)) rfl (ab Ga _ _) .nil))),?_⟩⟩;refine⟨‹_›,by show(_++[_]).length=k0.k+1;rw[azb,h3];rfl,fun y_ h6=>(azd.1 h6).elim (h1 y_) (fun h6=>by rw[azc.1 h6];exact(hx.g_.d_.2 _ (ay7 _)).q_),?_⟩;show _++[_]=_;rw[azj h4,azx,<-h2];rfl;refine RegG.via (fun _ h=>bc [2] 8 (.tree 1 (k0.L.map sA)) (FzP.rows Ga (azc.2 rfl) rfl) rfl h) (ay ?_);refine ArgG.mk (In k0.L ⟨by omega,h1⟩) rfl ?_;rintro _ ⟨b1,rfl,ha⟩;apply cB<;>intro h7;exact rV rfl rfl ⟨_,rfl,fun h=>absurd h.symm az7⟩;have hb:X4 (·.q_) x.g_.d_:=U6 (ha (by simpa using h7)) h2 (by omega);refine LpG.on (fun k2:Nat=>(⟨fL [(5,.ptr 1 0 0),(10,vI k2)],hLz [(1,⟨0,aje x.g_,0,false⟩)],3⟩:St)) (fun k2=>(x.g_.u_.length-k2)) (fun k2=>(k2<=x.g_.u_.length)) 0 (cnR rfl) (azk _) ?_;rintro k2 h0;have hgr_k2:x.g_.u_.length<=140737488355328:=hx.g_.u_.1;have hle_k2:=h0;refine LenG.of (cL (fun hlt45=>?_) (fun hge45=>?_));refine IdxG.of ‹_› (ArgG.mk (In (x.g_.u_[k2]) (hx.g_.u_.2 _ (ay7 _))) rfl ?_);rintro _ ⟨b2,rfl,hb2⟩;apply cB<;>intro hc53;exact rV rfl rfl ⟨_,rfl,fun h=>absurd h.symm az7⟩;refine LpG.on (fun k4:Nat=>(⟨fL [(5,.ptr 1 0 0),(10,vI k2),(11,vI k4)],hLz [(1,⟨0,aje x.g_,0,false⟩)],3⟩:St)) (fun k4=>(k2-k4)) (fun k4=>(k4<=k2)) 0 (cnR rfl) (azk _) ?_;rintro k4 h0;have hle_k4:=h0;apply cL<;>intro hlt56;refine IdxG.of ‹_› (IdxG.of (by omega) ?_);refine ArgG.mk (af6 (x.g_.u_[k2]) (hx.g_.u_.2 _ (ay7 _)) (x.g_.u_[k4]) (hx.g_.u_.2 _ (ay7 _))) rfl ?_;rintro _ ⟨b3,rfl⟩;refine⟨by kernel_rfl,cB (fun h8=>?_) (fun h8=>?_)⟩;exact rV rfl rfl ⟨_,rfl,fun h=>absurd h.symm az7⟩;refine⟨by omega,⟨(k4+1),by omega,(cnR rfl),?_⟩⟩;omega;refine⟨by omega,⟨(k2+1),by omega,(cnR rfl),?_⟩⟩;omega;refine LpG.on (fun k6:Nat=>(⟨fL [(5,.ptr 1 0 0),(12,vI k6)],hLz [(1,⟨0,aje x.g_,0,false⟩)],3⟩:St)) (fun k6=>(x.g_.m_.length-k6)) (fun k6=>(k6<=x.g_.m_.length)) 0 (cnR rfl) (azk _) ?_;rintro k6 h0;have hgr_k6:x.g_.m_.length<=140737488355328:=hx.g_.m_.1;have hle_k6:=h0;refine LenG.of (cL (fun hlt74=>?_) (fun hge74=>?_));refine IdxG.of ‹_› (ArgG.mk (In (x.g_.m_[k6].d_) (hx.g_.m_.2 _ (ay7 _)).d_) rfl ?_);rintro _ ⟨b4,rfl,hb4⟩;apply cB<;>intro hc83;exact rV rfl rfl ⟨_,rfl,fun h=>absurd h.symm az7⟩;refine⟨by omega,⟨(k6+1),by omega,(cnR rfl),?_⟩⟩;omega;exact rV rfl rfl ⟨_,rfl,fun _=>⟨h9.2 (by simpa using h5),hb⟩⟩
structure SmTab(t:GTab):Prop where
 cols:t.d_.length<=20
 keys:t.u_.length<=10
 fors:t.m_.length<=10
 chks:t.h_.length<=10
 key:∀k∈t.u_,k.length<=20
 fcol:∀f∈t.m_,f.d_.length<=20
def ax3:cw prog 53=true:=by kernel_rfl
def n6:ey prog 32=some (some 8):=by kernel_rfl
def ap0(x:GEx)(hx:FitEx x)(d:Int)(hd:0<=d/\d<=1000)(ih:∀r∈x.b_,∀d:Int,(0<=d/\d<=1000)->PRet prog 106 [.agg (rwA r),vI d] (fun r=>∃b:Bool,r=vB b)):PRet prog 106 [.agg (exA x),vI d] (fun r=>∃b:Bool,r=vB b):=by have hf1:x.n_.size<=140737488351232:=hx.n_;have hf2:x.q_.size<=140737488351232:=hx.q_;have hf3:x.k_.l_.size<=140737488351232:=hx.k_.l_;refine ovT [40] [] func106 rfl rfl (cE (fun h2=>?_) (fun h2=>?_));refine cT (cT ?_);exact rV rfl rfl ⟨_,rfl⟩;refine LenG.of (cD (fun h0=>?_) (fun h0=>?_));exact cT (rV rfl rfl ⟨_,rfl⟩);refine⟨by omega,⟨by omega,?_⟩⟩;apply cB<;>intro hc28;exact rV rfl rfl ⟨_,rfl⟩;refine LpG.on (fun k0:Nat=>(⟨fL [(1,vI d),(2,.ptr 0 0 0),(5,vI k0)],hLz [(0,⟨0,exA x,0,false⟩)],1⟩:St)) (fun k0=>(x.b_.length-k0)) (fun k0=>(k0<=x.b_.length)) 0 (cnR rfl) (azk _) ?_;rintro k0 h1;have hgr_k0:x.b_.length<=140737488355328:=hx.b_.1;have hle_k0:=h1;refine LenG.of (cL (fun hlt33=>?_) (fun hge33=>?_));refine IdxG.of ‹_› (OpG.lk (ci n6 rfl (jd (hx.b_.2 _ (ay7 _)))) ?_);refine⟨by omega,ArgG.mk (ih (x.b_[k0]) (ay7 _) ((d-1)) (by omega)) (show bz [.agg (rwA x.b_[k0]),vI (d-1)]=true by simp[bz,AV.pureB,kc (hx.b_.2 _ (ay7 _))]) ?_⟩;rintro _ ⟨b0,rfl⟩;apply cB<;>intro hc44;exact rV rfl rfl ⟨_,rfl⟩;refine⟨by omega,⟨(k0+1),by omega,(cnR rfl),?_⟩⟩;omega;exact rV rfl rfl ⟨_,rfl⟩
def ap1(r:List AV)(hr:IsEx r)(d:Int)(hd:0<=d/\d<=1000):PRet prog 106 [.agg (rwA r),vI d] (fun r=>∃b:Bool,r=vB b):=IsEx.ind (M:=fun r=>∀d:Int,(0<=d/\d<=1000)->PRet prog 106 [.agg (rwA r),vI d] (fun r=>∃b:Bool,r=vB b)) (fun x hx ih d hd=>ap0 x hx d hd ih) hr d hd
def agi(l:List GStn)(hl:bq l (fun y=>FitStn y)):PRet prog 53 [.tree 22 (l.map ami)] (fun r=>∃b:Bool,r=vB b/\(b=true->∀x∈l,x.g_.d_.length<=20/\x.g_.h_.length<=10)):=by refine ovT [126] [] func53 rfl rfl (LpG.on (fun k0:Nat=>(⟨fL [(0,.tree 22 (l.map ami)),(3,vI k0)],hLz [],0⟩:St)) (fun k0=>(l.length-k0)) (fun k0=>(k0<=l.length/\∀j (hl:j<l.length),j<k0->l[j].g_.d_.length<=20/\l[j].g_.h_.length<=10)) 0 (cnR rfl) ⟨azk _,fun j _ h=>absurd h (azl j)⟩ ?_);rintro k0 h0;have hgr_k0:l.length<=140737488355328:=hl.1;obtain⟨hle_k0,h1⟩:=h0;refine LenG.of (cL (fun hlt12=>?_) (fun hge12=>?_));refine IdxG.of ‹_› (IdxG.of ‹_› ?_);apply cD<;>intro hq27;refine cT (cT ?_);refine cT (cT ?_);exact rV rfl rfl bF;refine LenG.of (cD (fun h2=>?_) (fun h2=>?_));refine cT (cT ?_);exact cT (rV rfl rfl bF);refine cF (cF ?_);refine LenG.of (cD (fun h3=>?_) (fun h3=>?_));exact rV rfl rfl bF;refine LpG.on (fun k2:Nat=>(⟨fL [(0,.tree 22 (l.map ami)),(3,vI k0),(4,.ptr 0 0 0),(5,vI k2)],hLz [(0,⟨0,dfnA l[k0].g_,0,false⟩)],1⟩:St)) (fun k2=>(l[k0].g_.d_.length-k2)) (fun k2=>(k2<=l[k0].g_.d_.length)) 0 (cnR rfl) (azk _) ?_;rintro k2 h0;have hgr_k2:l[k0].g_.d_.length<=140737488355328:=(hl.2 _ (ay7 _)).g_.d_.1;have hle_k2:=h0;refine LenG.of (cL (fun hlt55=>?_) (fun hge55=>?_));refine IdxG.of ‹_› (cD (fun h4=>?_) (fun h4=>?_));exact rV rfl rfl bF;refine⟨by omega,⟨(k2+1),by omega,(cnR rfl),?_⟩⟩;omega;refine LpG.exit (cF ?_);refine LpG.exit (cF ?_);refine LpG.on (fun k8:Nat=>(⟨fL [(0,.tree 22 (l.map ami)),(3,vI k0),(4,.ptr 0 0 0),(8,vI k8)],hLz [(0,⟨0,dfnA l[k0].g_,0,false⟩)],1⟩:St)) (fun k8=>(l[k0].g_.h_.length-k8)) (fun k8=>(k8<=l[k0].g_.h_.length)) 0 (cnR rfl) (azk _) ?_;rintro k8 h0;have hgr_k8:l[k0].g_.h_.length<=140737488355328:=(hl.2 _ (ay7 _)).g_.h_.1;have hle_k8:=h0;refine LenG.of (cL (fun hlt119=>?_) (fun hge119=>?_));refine IdxG.of ‹_› (OpG.lk (ci n6 rfl (jd ((hl.2 _ (ay7 _)).g_.h_.2 _ (ay7 _)))) ?_);refine ArgG.mk (ap1 (l[k0].g_.h_[k8]) ((hl.2 _ (ay7 _)).g_.h_.2 _ (ay7 _)) 4 (by omega)) (show bz [.agg (rwA l[k0].g_.h_[k8]),vI 4]=true by simp[bz,AV.pureB,kc ((hl.2 _ (ay7 _)).g_.h_.2 _ (ay7 _))]) ?_;rintro _ ⟨b0,rfl⟩;apply cB<;>intro hc128;exact rV rfl rfl bF;refine⟨by omega,⟨(k8+1),by omega,(cnR rfl),?_⟩⟩;omega;refine⟨by omega,⟨(k0+1),by omega,(cnR rfl),?_⟩⟩;refine⟨by omega,fun j hl h=>?_⟩;rcases azn.1 h with h|rfl;exact h1 j hl h;exact⟨by omega,by omega⟩;exact LenG.of (rV rfl rfl ⟨_,rfl,fun _ x hx=>by obtain⟨j,hj,rfl⟩:=azs hx;exact h1 j hj (by omega)⟩)
def Dq(s:List GTab)(hs:bq s (fun y=>FitTab y)):PRet prog 24 [.tree 5 (s.map ic)] (fun r=>∃b:Bool,r=vB b/\(b=true->s.length<=12/\∀t∈s,SmTab t)):=by refine ovT [37] [] func24 rfl rfl (LpG.on (fun k0:Nat=>(⟨fL [(0,.tree 5 (s.map ic)),(3,vI k0)],hLz [],0⟩:St)) (fun k0=>(s.length-k0)) (fun k0=>(k0<=s.length/\∀j (hl:j<s.length),j<k0->SmTab s[j])) 0 (cnR rfl) ⟨azk _,fun j _ h=>absurd h (azl j)⟩ ?_);rintro k0 h0;have hgr_k0:s.length<=140737488355328:=hs.1;obtain⟨hle_k0,h1⟩:=h0;refine LenG.of (cL (fun hlt10=>?_) (fun hge10=>?_));refine IdxG.of ‹_› (LenG.of (cD (fun h4=>cT (cT (rV rfl rfl bF))) (fun h4=>LenG.of (cD (fun h5=>cT (rV rfl rfl bF)) (fun h5=>?_)))));obtain⟨_,⟨b0,rfl,hb⟩,h6⟩:=agi [⟨s[k0].q_,⟨s[k0].d_,s[k0].h_⟩⟩] ⟨by simp,fun y hy=>by rw[azc.1 hy];exact⟨(hs.2 _ (ay7 _)).q_,⟨(hs.2 _ (ay7 _)).d_,(hs.2 _ (ay7 _)).h_⟩⟩⟩;refine OpG.lk (rn [1] ax3 rfl (fun i h h'=>match i,h with|0,_=>ba (f:=ami) (azc.2 rfl) rfl rfl rfl rfl rfl rfl (fun a _=>⟨rfl,rfl⟩)) h6) (cB (fun h7=>rV rfl rfl bF) (fun h7=>LpG.on (fun k2:Nat=>(⟨fL [(0,.tree 5 (s.map ic)),(3,vI k0),(4,.ptr 0 0 0),(5,vI k2)],hLz [(0,⟨0,ic s[k0],0,false⟩)],2⟩:St)) (fun k2=>(s[k0].u_.length-k2)) (fun k2=>(k2<=s[k0].u_.length/\∀j (hl:j<s[k0].u_.length),j<k2->(s[k0].u_[j].length:Int)<=20)) 0 (cnR rfl) ⟨azk _,fun j _ h=>absurd h (azl j)⟩ ?_));rintro k2 h0;have hgr_k2:s[k0].u_.length<=140737488355328:=(hs.2 _ (ay7 _)).u_.1;obtain⟨hle_k2,h2⟩:=h0;refine LenG.of (cL (fun hlt44=>?_) (fun hge44=>?_));refine IdxG.of ‹_› (LenG.of (ArgG.mk (ap2 ((s[k0].u_[k2].length:Nat):Int)) rfl ?_));rintro _ ⟨b1,rfl,hb1⟩;refine cB (fun h8=>rV rfl rfl bF) (fun h8=>⟨by omega,⟨(k2+1),by omega,(cnR rfl),⟨by omega,fun j hl h=>?_⟩⟩⟩);rcases azn.1 h with h|rfl;exact h2 j hl h;simp_all;refine LpG.on (fun k4:Nat=>(⟨fL [(0,.tree 5 (s.map ic)),(3,vI k0),(4,.ptr 0 0 0),(6,vI k4)],hLz [(0,⟨0,ic s[k0],0,false⟩)],2⟩:St)) (fun k4=>(s[k0].m_.length-k4)) (fun k4=>(k4<=s[k0].m_.length/\∀j (hl:j<s[k0].m_.length),j<k4->(s[k0].m_[j].d_.length:Int)<=20)) 0 (cnR rfl) ⟨azk _,fun j _ h=>absurd h (azl j)⟩ ?_;rintro k4 h0;have hgr_k4:s[k0].m_.length<=140737488355328:=(hs.2 _ (ay7 _)).m_.1;obtain⟨hle_k4,h3⟩:=h0;refine LenG.of (cL (fun hlt59=>?_) (fun hge59=>?_));refine IdxG.of ‹_› (LenG.of (ArgG.mk (ap2 ((s[k0].m_[k4].d_.length:Nat):Int)) rfl ?_));rintro _ ⟨b2,rfl,hb2⟩;refine cB (fun h9=>rV rfl rfl bF) (fun h9=>⟨by omega,⟨(k4+1),by omega,(cnR rfl),⟨by omega,fun j hl h=>?_⟩⟩⟩);rcases azn.1 h with h|rfl;exact h3 j hl h;simp_all;refine⟨by omega,⟨(k0+1),by omega,(cnR rfl),⟨by omega,fun j hl h=>?_⟩⟩⟩;rcases azn.1 h with h|rfl;exact h1 j hl h;have ha:=hb (by simp_all) _ (azc.2 rfl);exact⟨ha.1,by omega,by omega,ha.2,fun k hk=>by obtain⟨j,hj,rfl⟩:=azs hk;have:=h2 j hj (by omega);omega,fun k hk=>by obtain⟨j,hj,rfl⟩:=azs hk;have:=h3 j hj (by omega);omega⟩;exact LenG.of (rV rfl rfl ⟨_,rfl,fun hr=>⟨by have:=azi hr;omega,fun x hx=>by obtain⟨j,hj,rfl⟩:=azs hx;exact h1 j hj (by omega)⟩⟩)
def Og(s:ByteArray):Bool:=yq s.size (R8 s)
def jt(s:ByteArray):Bool:=s.toList==(⟨#[]⟩:ByteArray).toList
def Bv(v:GVal):Bool:=if v.c_=0 then(v.v_==0&&jt v.l_)else if v.c_=1 then jt v.l_ else if v.c_=2 then(v.v_==0&&Og v.l_&&decide ((v.l_.size:Int)<=16))else false
theorem Qk(h:Bv v=true):(v.c_=0/\v.v_=0)\/v.c_=1\/(v.c_=2/\v.v_=0/\v.l_.size<=16):=by grind[Bv]
def Fl(v:GVal):Prop:=(v.c_=0->v.v_=0/\v.l_.toList=[])/\(v.c_=1->v.l_.toList=[])/\(v.c_=2->v.v_=0/\Og v.l_=true/\v.l_.size<=16)
theorem vx{s:ByteArray}(h:jt s=true):s.toList=[]:=by simp_all [jt]
def Ya(h:Bv v=true):Fl v:=by grind[Fl,Bv,vx]
inductive IsSh:Nat->List AV->Prop
 |mk {d:Nat} (x:GEx) (h:x.b_.length<=2) (ha:∀r∈x.b_,IsSh d r):IsSh (d+1) (exA x)
inductive HasN:List AV->Prop
 |here (x:GEx) (h:x.op_=1) (hk:x.k_.c_=0):HasN (exA x)
 |sub (x:GEx) (r:List AV) (hr:r∈x.b_) (h:HasN r):HasN (exA x)
theorem au{x y:GEx}(h:exA x=exA y):x=y:=by obtain⟨a,b,c,d,⟨e,f,g⟩,l⟩:=x;obtain⟨a',b',c',d',⟨e',f',g'⟩,l'⟩:=y;simp only[exA,List.cons.injEq,AV.v.injEq,Value.int.injEq,Value.string.injEq,AV.tree.injEq,true_and,and_true]at h;obtain⟨rfl,rfl,rfl,rfl,rfl,rfl,rfl,h⟩:=h;have e:∀z:List (List AV),z.map rwA=z:=fun z=>List.map_id z;rw[e,e]at h;subst h;rfl
theorem pf{x:GEx}:HasN (exA x)↔(x.op_=1/\x.k_.c_=0)\/∃r∈x.b_,HasN r:=by
 constructor
 ·intro h
  generalize e:exA x=r at h
  cases h with
  |here y h hk=>rw[au e];exact .inl ⟨h,hk⟩
  |sub y r hr h=>rw[au e];exact .inr ⟨r,hr,h⟩
 rintro(⟨h,hk⟩|⟨r,hr,h⟩)
 ·exact .here x h hk
 exact .sub x r hr h
section
variable{l:List (List AV)}{A:Prop}{H:List AV->Prop}{b b2:Bool}{k:Nat}
def aou(hi:b=true↔A\/∃j,∃hl:j<l.length,j<k/\H l[j])(hb:b=true):true=true↔A\/∃j,∃hl:j<l.length,j<k+1/\H l[j]:=by grind
def aov(hi:b=true↔A\/∃j,∃hl:j<l.length,j<k/\H l[j])(hb:b=false)(hk:k<l.length)(h2:b2=true↔H l[k]):b2=true↔A\/∃j,∃hl:j<l.length,j<k+1/\H l[j]:=by grind
end
def Mu{x:GEx}{b:Bool}(h1:k<=x.b_.length)(h2:x.b_.length<=k)(hi:b=true↔(x.op_=1/\x.k_.c_=0)\/∃j,∃hl:j<x.b_.length,j<k/\HasN x.b_[j]):b=true↔HasN (exA x):=by grind[pf,ay7,azs]
def D0(s:ByteArray)(hs:jw s):PRet prog 114 [.v (.string s)] (fun r=>r=vB (Og s)):=by refine ovT [] [] func114 rfl rfl (LpG.on (fun k0:Nat=>(⟨fL [(0,.v (.string s)),(3,vI k0)],hLz [],0⟩:St)) (fun k0=>(s.size-k0)) (fun k0=>(k0<=s.size/\∀j (hl:j<s.size),j<k0->R8 s j=true)) 0 (cnR rfl) ⟨azk _,fun j _ h=>absurd h (azl j)⟩ ?_);rintro k0 h3;have hgr_k0:s.size<=140737488355328:=azp hs (by decide);obtain⟨h1,h0⟩:=h3;apply cL<;>intro h2;refine⟨‹_›,cB (fun h4=>?_) (fun h4=>?_)⟩;refine cT (rV rfl rfl ?_);(refine je (Eq.symm (zk h2 ?_));simp only[R8];simp_all);refine⟨‹_›,cB (fun h5=>?_) (fun h5=>?_)⟩;refine rV rfl rfl ?_;(refine je (Eq.symm (zk h2 ?_));simp only[R8];simp_all);refine⟨by omega,⟨(k0+1),by omega,(cnR rfl),?_⟩⟩;refine⟨by omega,fun j hl h=>?_⟩;rcases azn.1 h with h|rfl;exact h0 j hl h;simp only[R8];simp_all;exact rV rfl rfl (je (Eq.symm (Nq h1 h2 (fun j h=>h0 j (by omega) h))))
def B8(v:GVal)(hv:FitVal v):PRet prog 64 [.agg (gvA v)] (fun r=>r=vB (Bv v)):=by
 refine ovT [] [] func64 rfl rfl ?_;apply cB<;>intro h8
 ·have h9:(v.c_:Int)=(0:Int):=by simpa using h8
  apply cB<;>intro h0
  ·have h4:(v.v_:Int)=(0:Int):=by simpa using h0
   refine rV rfl rfl ?_;refine je ?_;unfold Bv jt;simp_all;done
  have h4:¬((v.v_:Int)=(0:Int)):=by simpa using h0
  refine rV rfl rfl ?_;refine je ?_;unfold Bv jt;simp_all;done
 have h9:¬((v.c_:Int)=(0:Int)):=by simpa using h8
 apply cB<;>intro h1
 ·have h5:(v.c_:Int)=(1:Int):=by simpa using h1
  refine rV rfl rfl ?_;refine je ?_;unfold Bv jt;simp_all;done
 have h5:¬((v.c_:Int)=(1:Int)):=by simpa using h1
 apply cB<;>intro h2
 ·have h6:(v.c_:Int)=(2:Int):=by simpa using h2
  apply cB<;>intro h3
  ·have h7:(v.v_:Int)=(0:Int):=by simpa using h3
   refine ArgG.mk (D0 v.l_ hv.l_) rfl ?_;rintro _ rfl;apply cB<;>intro hg30
   ·refine rV rfl rfl ?_;refine je ?_;unfold Bv jt;simp_all;done
   refine rV rfl rfl ?_;refine je ?_;unfold Bv jt;simp_all;done
  have h7:¬((v.v_:Int)=(0:Int)):=by simpa using h3
  refine cF (rV rfl rfl ?_);refine je ?_;unfold Bv jt;simp_all;done
 have h6:¬((v.c_:Int)=(2:Int)):=by simpa using h2
 refine rV rfl rfl ?_;refine je ?_;unfold Bv jt;simp_all;done
def mr(v:GVal)(hv:FitVal v):PRet prog 64 [.agg (gvA v)] (fun r=>∃b:Bool,r=vB b/\(b=true->(v.c_=0/\v.v_=0)\/v.c_=1\/(v.c_=2/\v.v_=0/\v.l_.size<=16))/\(b=true->Fl v)):=(B8 v hv).mono fun _ h=>⟨_,h,Qk,Ya⟩
def agl(x:GEx)(hx:FitEx x)(d:Int)(hd:0<=d/\d<=1000)(ih:∀r∈x.b_,∀d:Int,(0<=d/\d<=1000)->PRet prog 60 [.agg (rwA r),vI d] (fun q=>∃b:Bool,q=vB b/\(b=true->IsSh d.toNat r))):PRet prog 60 [.agg (exA x),vI d] (fun r=>∃b:Bool,r=vB b/\(b=true->IsSh d.toNat (exA x))):=by refine ovT [25] [] func60 rfl rfl (cE (fun h4=>cT (rV rfl rfl bF)) (fun h4=>LenG.of (cD (fun h2=>rV rfl rfl bF) (fun h2=>LpG.on (fun k0:Nat=>(⟨fL [(1,vI d),(2,.ptr 0 0 0),(5,vI k0)],hLz [(0,⟨0,exA x,0,false⟩)],1⟩:St)) (fun k0=>(x.b_.length-k0)) (fun k0=>(k0<=x.b_.length/\∀j (hl:j<x.b_.length),j<k0->IsSh (d-1).toNat x.b_[j])) 0 (cnR rfl) ⟨azk _,fun j _ h=>absurd h (azl j)⟩ ?_))));rintro k0 h3;have hgr_k0:x.b_.length<=140737488355328:=hx.b_.1;obtain⟨hle_k0,h0⟩:=h3;refine LenG.of (cL (fun hlt18=>?_) (fun hge18=>?_));refine IdxG.of ‹_› (OpG.lk (ci n6 rfl (jd (hx.b_.2 _ (ay7 _)))) ⟨by omega,ArgG.mk (ih (x.b_[k0]) (ay7 _) ((d-1)) (by omega)) (show bz [.agg (rwA x.b_[k0]),vI (d-1)]=true by simp[bz,AV.pureB,kc (hx.b_.2 _ (ay7 _))]) ?_⟩);rintro _ ⟨b0,rfl,h5⟩;refine cB (fun h1=>rV rfl rfl bF) (fun h1=>⟨by omega,⟨(k0+1),by omega,(cnR rfl),⟨by omega,fun j hl h=>?_⟩⟩⟩);rcases azn.1 h with h|rfl;exact h0 j hl h;exact h5 (by simpa using h1);exact rV rfl rfl ⟨_,rfl,fun _=>by rw[show d.toNat=(d-1).toNat+1 by omega];exact .mk _ (by omega) (fun r hr=>by obtain⟨j,hj,rfl⟩:=azs hr;exact h0 j hj (by omega))⟩
def agm(r:List AV)(hr:IsEx r)(d:Int)(hd:0<=d/\d<=1000):PRet prog 60 [.agg (rwA r),vI d] (fun q=>∃b:Bool,q=vB b/\(b=true->IsSh d.toNat r)):=IsEx.ind (M:=fun r=>∀d:Int,(0<=d/\d<=1000)->PRet prog 60 [.agg (rwA r),vI d] (fun q=>∃b:Bool,q=vB b/\(b=true->IsSh d.toNat r))) (fun x hx ih d hd=>agl x hx d hd ih) hr d hd
def aop(x:GEx)(hx:FitEx x)(ih:∀r∈x.b_,PRet prog 62 [.agg (rwA r)] (fun q=>∃b:Bool,q=vB b/\(b=true↔HasN r))):PRet prog 62 [.agg (exA x)] (fun q=>∃b:Bool,q=vB b/\(b=true↔HasN (exA x))):=by refine ovT [27] [] func62 rfl rfl (cE (fun h7=>?_) (fun h7=>?_));refine LpG.on (fun k0:KB=>(⟨fL [(1,.ptr 0 0 0),(3,vB k0.b),(4,vI k0.k)],hLz [(0,⟨0,exA x,0,false⟩)],1⟩:St)) (fun k0=>(x.b_.length-k0.k)) (fun k0=>(k0.k<=x.b_.length/\(k0.b=true↔(x.op_=1/\x.k_.c_=0)\/∃j,∃hl:j<x.b_.length,j<k0.k/\HasN x.b_[j]))) (⟨0,_⟩:KB) (cnR rfl) ⟨azk _,(by simp_all)⟩ ?_;rintro k0 h3;have h4:x.b_.length<=140737488355328:=hx.b_.1;obtain⟨h1,h0⟩:=h3;refine LenG.of (cL (fun h2=>?_) (fun h5=>?_));apply cB<;>intro h6;refine⟨by omega,⟨(⟨k0.k+1,_⟩:KB),(nsA ‹_›),(cnR rfl),?_⟩⟩;exact⟨‹_›,aou h0 ‹_›⟩;refine IdxG.of ‹_› (OpG.lk (ci n6 rfl (jd (hx.b_.2 _ (ay7 _)))) ?_);refine ArgG.mk (ih (x.b_[k0.k]) (ay7 _)) (show bz [.agg (rwA x.b_[k0.k])]=true by simp[bz,AV.pureB,kc (hx.b_.2 _ (ay7 _))]) ?_;rintro _ ⟨b0,rfl,hb0⟩;refine⟨by omega,⟨(⟨k0.k+1,_⟩:KB),(nsA ‹_›),(cnR rfl),?_⟩⟩;exact⟨‹_›,aov h0 ‹_› h2 ‹_›⟩;exact rV rfl rfl ⟨_,rfl,Mu h1 (by omega) h0⟩;refine LpG.on (fun k0:KB=>(⟨fL [(1,.ptr 0 0 0),(3,vB k0.b),(4,vI k0.k)],hLz [(0,⟨0,exA x,0,false⟩)],1⟩:St)) (fun k0=>(x.b_.length-k0.k)) (fun k0=>(k0.k<=x.b_.length/\(k0.b=true↔(x.op_=1/\x.k_.c_=0)\/∃j,∃hl:j<x.b_.length,j<k0.k/\HasN x.b_[j]))) (⟨0,_⟩:KB) (cnR rfl) ⟨azk _,(by simp_all)⟩ ?_;rintro k0 h3;have h4:x.b_.length<=140737488355328:=hx.b_.1;obtain⟨h1,h0⟩:=h3;refine LenG.of (cL (fun h2=>?_) (fun h5=>?_));apply cB<;>intro h6;refine⟨by omega,⟨(⟨k0.k+1,_⟩:KB),(nsA ‹_›),(cnR rfl),?_⟩⟩;exact⟨‹_›,aou h0 ‹_›⟩;refine IdxG.of ‹_› (OpG.lk (ci n6 rfl (jd (hx.b_.2 _ (ay7 _)))) ?_);refine ArgG.mk (ih (x.b_[k0.k]) (ay7 _)) (show bz [.agg (rwA x.b_[k0.k])]=true by simp[bz,AV.pureB,kc (hx.b_.2 _ (ay7 _))]) ?_;rintro _ ⟨b1,rfl,hb1⟩;refine⟨by omega,⟨(⟨k0.k+1,_⟩:KB),(nsA ‹_›),(cnR rfl),?_⟩⟩;exact⟨‹_›,aov h0 ‹_› h2 ‹_›⟩;exact rV rfl rfl ⟨_,rfl,Mu h1 (by omega) h0⟩
def Cn(r:List AV)(hr:IsEx r):PRet prog 62 [.agg (rwA r)] (fun q=>∃b:Bool,q=vB b/\(b=true↔HasN r)):=IsEx.ind (M:=fun r=>PRet prog 62 [.agg (rwA r)] (fun q=>∃b:Bool,q=vB b/\(b=true↔HasN r))) (fun x hx ih=>aop x hx ih) hr
inductive TextE(l:List PVar):List AV->Prop
 |mk (x:GEx) (ha:x.b_=[]) (h:(x.op_=2/\∃j,∃h:j<l.length,x.j_=((j:Nat):Int)/\l[j].t=2)\/(x.op_=1/\x.k_.c_=2)):TextE l (exA x)
theorem cp{l:List PVar}{x:GEx}(h:TextE l (exA x)):x.b_=[]/\((x.op_=2/\∃j,∃h:j<l.length,x.j_=((j:Nat):Int)/\l[j].t=2)\/(x.op_=1/\x.k_.c_=2)):=by
 generalize e:exA x=r at h
 cases h with
 |mk y ha h=>rw[au e];exact⟨ha,h⟩
def afy(v:Int)(kd:Int)(l:List PVar)(hl:bq l (fun y=>True)):PRet prog 167 [vI v,vI kd,.tree 5 (l.map vA)] (fun r=>∃b:Bool,r=vB b/\(b=true->∃j,∃h:j<l.length,v=((j:Nat):Int)/\l[j].t=kd)):=by refine ovT [18] [] func167 rfl rfl ?_;apply cD<;>intro hq9;refine LenG.of (cD (fun h2=>?_) (fun h2=>?_));obtain⟨j1,h0,h1⟩:∃j:Nat,v=((j:Nat):Int)/\j<l.length:=⟨(v).toNat,by omega,by omega⟩;refine OpG.lk (ae underlying54 uw rfl rfl h0 h1) ?_;exact rV rfl rfl ⟨_,rfl,fun hr=>⟨j1,h1,h0,by simpa using hr⟩⟩;exact rV rfl rfl bF;exact cF (rV rfl rfl bF)
def al8(x:GEx)(hx:FitEx x)(l:List PVar)(hl:bq l (fun y=>True)):PRet prog 63 [.agg (exA x),.tree 5 (l.map vA)] (fun q=>∃b:Bool,q=vB b/\(b=true->TextE l (exA x))/\(b=false->¬TextE l (exA x))):=by
 refine ovT [26] [] func63 rfl rfl ?_;refine LenG.of (cB (fun h7=>?_) (fun h7=>?_))
 ·have hc:¬(((x.b_.length:Nat):Int)=(0:Int)):=by simpa using h7
  exact rV rfl rfl ⟨_,rfl,fun h=>absurd h az7,fun _ hh=>by obtain⟨q0,⟨q1,j,hj,q2,q3⟩|⟨q1,q2⟩⟩:=cp hh<;>first|(simp_all;done)|(simp_all;omega)⟩
 have hc:((x.b_.length:Nat):Int)=(0:Int):=by simpa using h7
 have h1:x.b_=[]:=by simpa using h7
 apply cB<;>intro h2
 ·have h8:(x.op_:Int)=(2:Int):=by simpa using h2
  apply cB<;>intro h3
  ·have h9:=azi h3;refine LenG.of (cB (fun h0=>?_) (fun h0=>?_))
   ·have ha:=azi h0;obtain⟨j1,h4,h5⟩:∃j:Nat,x.j_=((j:Nat):Int)/\j<l.length:=⟨(x.j_).toNat,by omega,by omega⟩;refine OpG.lk (ae underlying54 uw rfl rfl h4 h5) ?_;exact rV rfl rfl ⟨_,rfl,fun hr=>.mk x h1 (.inl ⟨by assumption,j1,h5,h4,by simpa using hr⟩),fun hr hh=>by obtain⟨q0,⟨q1,j,hj,q2,q3⟩|⟨q1,q2⟩⟩:=cp hh<;>first|omega|((obtain rfl:j=j1:=by omega);simp_all;done)⟩
   have ha:=azh h0;exact rV rfl rfl ⟨_,rfl,fun h=>absurd h az7,fun _ hh=>by obtain⟨q0,⟨q1,j,hj,q2,q3⟩|⟨q1,q2⟩⟩:=cp hh<;>first|(simp_all;done)|(simp_all;omega)⟩
  have h9:=azh h3;exact cF (rV rfl rfl ⟨_,rfl,fun h=>absurd h az7,fun _ hh=>by obtain⟨q0,⟨q1,j,hj,q2,q3⟩|⟨q1,q2⟩⟩:=cp hh<;>first|(simp_all;done)|(simp_all;omega)⟩)
 have h8:¬((x.op_:Int)=(2:Int)):=by simpa using h2
 apply cB<;>intro h6
 ·have hb:(x.op_:Int)=(1:Int):=by simpa using h6
  exact rV rfl rfl ⟨_,rfl,fun hr=>.mk x h1 (.inr ⟨by assumption,by simpa using hr⟩),fun hr hh=>by obtain⟨q0,⟨q1,j,hj,q2,q3⟩|⟨q1,q2⟩⟩:=cp hh<;>first|omega|(simp_all;done)⟩
 have hb:¬((x.op_:Int)=(1:Int)):=by simpa using h6
 exact rV rfl rfl ⟨_,rfl,fun h=>absurd h az7,fun _ hh=>by obtain⟨q0,⟨q1,j,hj,q2,q3⟩|⟨q1,q2⟩⟩:=cp hh<;>first|(simp_all;done)|(simp_all;omega)⟩
def xt(r:List AV)(hr:IsEx r)(l:List PVar)(hl:bq l (fun y=>True)):PRet prog 63 [.agg (rwA r),.tree 5 (l.map vA)] (fun q=>∃b:Bool,q=vB b/\(b=true->TextE l r)/\(b=false->¬TextE l r)):=by obtain⟨x,rfl,hx⟩:=hr.open_;exact al8 x hx l hl
def ag9(op:Int):PRet prog 111 [vI op] (fun r=>∃p:Int,r=vI p/\(0<=p->10<=op/\op<=15)):=ovT [] [] func111 rfl rfl (eu (ULp.step (cT ⟨(by first|assumption|omega|decide),cB (fun h0=>by have h1:(10:Int)=(op:Int):=(by simpa using h0);exact rV rfl rfl ⟨_,rfl,fun _=>by omega⟩) (fun h0=>have h1:¬((10:Int)=(op:Int)):=(by simpa using h0);⟨by omega,ULp.step (cT ⟨(by first|assumption|omega|decide),cB (fun h0=>by have h1:(11:Int)=(op:Int):=(by simpa using h0);exact rV rfl rfl ⟨_,rfl,fun _=>by omega⟩) (fun h0=>have h1:¬((11:Int)=(op:Int)):=(by simpa using h0);⟨by omega,ULp.step (cT ⟨(by first|assumption|omega|decide),cB (fun h0=>by have h1:(12:Int)=(op:Int):=(by simpa using h0);exact rV rfl rfl ⟨_,rfl,fun _=>by omega⟩) (fun h0=>have h1:¬((12:Int)=(op:Int)):=(by simpa using h0);⟨by omega,ULp.step (cT ⟨(by first|assumption|omega|decide),cB (fun h0=>by have h1:(13:Int)=(op:Int):=(by simpa using h0);exact rV rfl rfl ⟨_,rfl,fun _=>by omega⟩) (fun h0=>have h1:¬((13:Int)=(op:Int)):=(by simpa using h0);⟨by omega,ULp.step (cT ⟨(by first|assumption|omega|decide),cB (fun h0=>by have h1:(14:Int)=(op:Int):=(by simpa using h0);exact rV rfl rfl ⟨_,rfl,fun _=>by omega⟩) (fun h0=>have h1:¬((14:Int)=(op:Int)):=(by simpa using h0);⟨by omega,ULp.step (cT ⟨(by first|assumption|omega|decide),cE (fun h1=>rV rfl rfl ⟨_,rfl,fun _=>by omega⟩) (fun h1=>⟨by omega,ULp.step (cF (rV rfl rfl ⟨_,rfl,fun _=>by omega⟩))⟩)⟩)⟩)⟩)⟩)⟩)⟩)⟩)⟩)⟩)⟩)⟩)))
theorem T5{a b:Bool}{w:World}:(if a=false then Result.ok false w else Result.ok b w)=Result.ok (a&&b) w:=by cases a<;>rfl
theorem U0(k1 i1 k2 i2:Int)(t1 t2:ByteArray)(w:World):(Op.equalIn 10000 30 (.agg #[.int .i64 k1,.int .i64 i1,.string t1]) (.agg #[.int .i64 k2,.int .i64 i2,.string t2])).run prog w=.ok (k1==k2&&(i1==i2&&t1.toList==t2.toList)) w:=by rw[run_equalIn_agg w 9999 30 _ _ (show prog.underlying 30=some (.struct (prog.fieldsOf 30))by kernel_rfl) (by kernel_rfl)];simp only[Program.fieldsOf,underlying30];simp[Op.eqFields,part,run_equalIn_int _ 9998 3 _ _ _ _ underlying3,run_equalIn_int _ 9998 2 _ _ _ _ underlying2,run_equalIn_string _ 9998 9 _ _ underlying9,T5]
theorem egV:prog.eqGuardType prog.depth 30=false:=by kernel_rfl
section
variable{τ:Nat->AV}{η:bm}{d:Option Tmp}{ty:TypeId}{pos:String}{af:Array Edge}{g:Option (Nat×Bool)}
def pm{x:Operand}{k1 i1 k2 i2:Int}{t1 t2:ByteArray}(hx:aev τ x=.agg [vI k1,vI i1,.v (.string t1)])(hy:aev τ y=.agg [vI k2,vI i2,.v (.string t2)]):
 LOp prog ⟨d,.binOp .eql 30 x y t',ty,pos,af,g⟩ τ η [] [] (vB (k1==k2&&(i1==i2&&t1.toList==t2.toList))):=
 .look [] fun C a _ hq _=>by have e1:=hq x (by simp[Op.operands]);have e2:=hq y (by simp[Op.operands]);rw[hx]at e1;rw[hy]at e2;have f1:=wt (y:=.agg #[.int .i64 k1,.int .i64 i1,.string t1]) e1 rfl;have f2:=wt (y:=.agg #[.int .i64 k2,.int .i64 i2,.string t2]) e2 rfl;refine⟨_,?_,VR.v C _⟩;simp only[execOp,f1,f2,Sem.run_bind,run_eqGuard_agg C.w .eql 30 x y _ _ egV,azq,run_eql_struct,U0,azr]
def H9{x:Operand}{k1 i1 k2 i2:Int}{t1 t2:ByteArray}(hx:aev τ x=.agg [vI k1,vI i1,.v (.string t1)])(hy:aev τ y=.agg [vI k2,vI i2,.v (.string t2)]):
 LOp prog ⟨d,.binOp .neq 30 x y t',ty,pos,af,g⟩ τ η [] [] (vB (!(k1==k2&&(i1==i2&&t1.toList==t2.toList)))):=
 .look [] fun C a _ hq _=>by have e1:=hq x (by simp[Op.operands]);have e2:=hq y (by simp[Op.operands]);rw[hx]at e1;rw[hy]at e2;have f1:=wt (y:=.agg #[.int .i64 k1,.int .i64 i1,.string t1]) e1 rfl;have f2:=wt (y:=.agg #[.int .i64 k2,.int .i64 i2,.string t2]) e2 rfl;refine⟨_,?_,VR.v C _⟩;simp only[execOp,f1,f2,Sem.run_bind,run_eqGuard_agg C.w .neq 30 x y _ _ egV,azq,run_neq_struct,U0,azr]
end
inductive IntE(l:List PVar):List AV->Prop
 |lit (x:GEx) (h:x.op_=1) (ha:x.b_=[]) (hk:x.k_.c_=1\/x.k_.c_=0) (hc:Fl x.k_):IntE l (exA x)
 |col (x:GEx) (h:x.op_=2) (ha:x.b_=[]) (hj:∃j,∃h:j<l.length,x.j_=((j:Nat):Int)/\l[j].t=1):IntE l (exA x)
 |len (x a:GEx) (h:x.op_=9) (ha:x.b_=[exA a]) (haa:a.b_=[]) (ht:TextE l (exA a)\/(a.op_=1/\a.k_.c_=0)):IntE l (exA x)
 |neg (x:GEx) (h:x.op_=3) (ha:x.b_.length=1) (hs:∀r∈x.b_,IntE l r):IntE l (exA x)
 |bin (x:GEx) (h:4<=x.op_/\x.op_<=8) (ha:x.b_.length=2) (hs:∀r∈x.b_,IntE l r):IntE l (exA x)
theorem co{l:List α}{a:α}(h:(l.length:Int)=1)(h0:l[0]'(by omega)=a):l=[a]:=by
 match l,h,h0 with
 |[b],_,h0=>simp at h0;rw[h0]
def ajc(x:GEx)(hx:FitEx x):PRet prog 58 [.agg (exA x),.agg [vI 0,.v (.string ⟨#[]⟩),.v (.string ⟨#[]⟩),vI 0,vI 0,vI 0,.v (.string ⟨#[]⟩),.v (.slice none 0 0)]] (fun r=>∃b:Bool,r=vB b/\(b=true->x.op_=0)):=by
 refine ovT [] [] func58 rfl rfl (cB (fun h0=>?_) (fun h0=>?_))
 ·refine cT (cT ?_)
  refine cT (cT ?_)
  exact cT (rV rfl rfl bF)
 apply cB<;>intro hg18
 ·refine cT (cT ?_)
  refine cT (cT ?_)
  exact rV rfl rfl bF
 apply cB<;>intro hg25
 ·refine cT (cT ?_)
  exact cT (rV rfl rfl bF)
 apply cB<;>intro hg32
 ·refine cT (cT ?_)
  exact rV rfl rfl bF
 refine OpG.lk (H9 rfl rfl) (cB (fun h1=>?_) (fun h1=>?_))
 ·exact cT (rV rfl rfl bF)
 refine LenG.of ?_
 try refine LenG.of ?_
 apply cB<;>intro hc47
 ·exact rV rfl rfl bF
 refine LpG.exit (LenG.of ?_)
 apply cB<;>intro h2
 ·exfalso;simp_all
 have hq52:=azh h2
 exact rV rfl rfl ⟨_,rfl,fun _=>by simp_all⟩
def opD{x:GEx}(hx:FitEx x)(j:Nat):∃a,(∀h:j<x.b_.length,x.b_[j]=exA a)/\FitEx a:=by by_cases h:j<x.b_.length;obtain⟨a,e,ha⟩:=ac5 hx j h;exact⟨a,fun _=>e,ha⟩;exact⟨x,fun g=>absurd g h,hx⟩
theorem ayv{l:List (List AV)}(h:((l.length:Nat):Int)=1)(h0:P (l[0]'(by omega))):∀r∈l,P r:=by
 match l,h,h0 with
 |[a],_,h0=>intro r hr;rw[azc.1 hr];exact h0
theorem all2{l:List (List AV)}(h:((l.length:Nat):Int)=2)(h0:P (l[0]'(by omega)))(h1:P (l[1]'(by omega))):∀r∈l,P r:=by
 match l,h,h0,h1 with
 |[a,b],_,h0,h1=>
  intro r hr
  rcases azz.1 hr with rfl|hr
  ·exact h0
  ·rw[azc.1 hr];exact h1
theorem Tv(x:GEx)(hx:FitEx x)(l:List PVar)(hl:bq l (fun y=>True))(ih:∀r∈x.b_,PRet prog 112 [.agg (rwA r),.tree 5 (l.map vA)] (fun q=>∃b:Bool,q=vB b/\(b=true->IntE l r))):PRet prog 112 [.agg (exA x),.tree 5 (l.map vA)] (fun r=>∃b:Bool,r=vB b/\(b=true->IntE l (exA x))):=by
 obtain⟨a0,e0,h0⟩:=opD hx 0;obtain⟨a1,e1,h1⟩:=opD hx 1;refine ovT [] [] func112 rfl rfl ?_
 repeat' first
  |refine cT ?_|refine cF ?_|refine cE (fun _=>?_) (fun _=>?_)<;>try omega
  |refine LenG.of ?_|refine cb (j:=0) (by omega) (e0 (by omega)) ?_|refine cb (j:=1) (by omega) (e1 (by omega)) ?_
  |refine OpG.lk (pm rfl rfl) ?_
  |refine ArgG.mk (ih (exA a0) (e0 (by omega)▸ay7 _)) rfl ?_;rintro _ ⟨_|_,rfl,i0⟩
  |refine ArgG.mk (ih (exA a1) (e1 (by omega)▸ay7 _)) rfl ?_;rintro _ ⟨_|_,rfl,i1⟩
  |refine ArgG.mk (xt (exA a0) (ko h0) l hl) rfl ?_;rintro _ ⟨_|_,rfl,t0,t2⟩
  |refine ArgG.mk (mr a0.k_ h0.k_) rfl ?_;rintro _ ⟨_|_,rfl,v0,v2⟩
  |refine ArgG.mk (mr x.k_ hx.k_) rfl ?_;rintro _ ⟨_|_,rfl,v0,v2⟩
  |refine ArgG.mk (afy x.j_ 1 l hl) rfl ?_;rintro _ ⟨_|_,rfl,ty⟩
 all_goals first
  |exact rV rfl rfl bF
  |refine rV rfl rfl ⟨_,rfl,fun hr=>?_⟩
   first
    |exact .lit x ‹_› (by simp_all) (by simp_all) (by simp_all)
    |exact .col x ‹_› (by simp_all) (ty rfl)
    |exact .neg x ‹_› (by omega) (ayv ‹_› (e0 (by omega)▸i0 rfl))
    |exact .len x a0 ‹_› (co ‹_› (e0 (by omega))) (by simp_all) (by simp_all)
    |exact .bin x (by omega) (by omega) (all2 ‹_› (e0 (by omega)▸i0 rfl) (e1 (by omega)▸i1 rfl))
def Aw(r:List AV)(hr:IsEx r)(l:List PVar)(hl:bq l (fun y=>True)):PRet prog 112 [.agg (rwA r),.tree 5 (l.map vA)] (fun q=>∃b:Bool,q=vB b/\(b=true->IntE l r)):=IsEx.ind (M:=fun r=>PRet prog 112 [.agg (rwA r),.tree 5 (l.map vA)] (fun q=>∃b:Bool,q=vB b/\(b=true->IntE l r))) (fun x hx ih=>Tv x hx l hl ih) hr
section
variable{P:Program}{τ:Nat->AV}{η:bm}{d:Option Tmp}{ty:TypeId}{pos:String}{af:Array Edge}{g:Option (Nat×Bool)}
def qg{t:Nat}{x:Operand}(hx:aev τ x=vI m)(hy:aev τ y=vI n)(h1:-9223372036854775808<=m)(h2:m<=9223372036854775807)(h3:1<=n):
 LOp P ⟨d,.binOp .quo t x y t',ty,pos,af,g⟩ τ η [] [] (vI (m.tdiv n)):=
 .look [] fun C a _ h4 _=>by have e1:=h4 x (by simp[Op.operands]);have e2:=h4 y (by simp[Op.operands]);rw[hx]at e1;rw[hy]at e2;refine⟨.int .i64 (m.tdiv n),?_,VR.v C _⟩;have hw:=Go.IntWalk.i64_quo' m n ⟨h1,h2,h3⟩;have h0:¬(n=0):=(by omega);simp only[execOp,e1.v_inv,e2.v_inv];simp[binOp,Op.intArith,Op.intDiv,eqGuard,h0,Sem.run_bind,hw]
def oh{t:Nat}{x:Operand}(hx:aev τ x=vI m)(h1:-9223372036854775807<=m)(h2:m<=9223372036854775807):
 LOp P ⟨d,.unOp .neg t x,ty,pos,af,g⟩ τ η [] [] (vI (-m)):=by
 have h:LOp P ⟨d,.unOp .neg t x,ty,pos,af,g⟩ τ η [] [] (vI (IntKind.i64.wrap (-m))):=
  .look [] fun C a _ h0 _=>by have e1:=h0 x (by simp[Op.operands]);rw[hx]at e1;refine⟨_,?_,VR.v C _⟩;simp only[execOp,e1.v_inv];simp[Op.unary,Op.intArith]
 rwa [Go.IntWalk.i64_in _ ⟨by omega,by omega⟩]at h
end
theorem uu(hb:1<=b):(if a.tdiv b*b>a then a.tdiv b-1 else a.tdiv b)=a.fdiv b:=by
 have h1:=Int.tmod_add_mul_tdiv a b;have h4:b*a.tdiv b=a.tdiv b*b:=Int.mul_comm _ _
 have hf:=Int.fdiv_eq_ediv_of_nonneg a (by omega:(0:Int)<=b);rw[hf];have h2:=Int.emod_add_mul_ediv a b
 have h3:=Int.emod_nonneg a (by omega:b≠0);have h5:=Int.emod_lt_of_pos a (by omega:0<b)
 have h6:=Int.tmod_lt_of_pos a (by omega:0<b);have h7:-b<a.tmod b:=Int.lt_tmod_of_pos a (by omega)
 split
 ·rename_i h;have:(a.tdiv b-1)=a/b:=by refine(Int.ediv_eq_iff_of_pos (by omega)|>.2 ⟨?_,?_⟩).symm<;>(try rw[Int.sub_mul])<;>(try rw[Int.add_mul])<;>(try rw[Int.sub_mul])<;>omega
  exact this
 rename_i h;exact(Int.ediv_eq_iff_of_pos (by omega)|>.2 ⟨by omega,by omega⟩).symm
def ap(n:Int):(0<=n/\cq n=n)\/(n<0/\cq n=-n):=by unfold cq;split<;>omega
def Do(ha:-4611686018427387904<=a/\a<=4611686018427387904)(hb:1<=b/\b<=4611686018427387904):(-4611686018427387904<=a.tdiv b/\a.tdiv b<=4611686018427387904)/\(-9223372036854775808<=a.tdiv b*b/\a.tdiv b*b<=9223372036854775807):=by have h1:=Int.tmod_add_mul_tdiv a b;have h4:b*a.tdiv b=a.tdiv b*b:=Int.mul_comm _ _;have h6:=Int.tmod_lt_of_pos a (by omega:0<b);have h7:-b<a.tmod b:=Int.lt_tmod_of_pos a (by omega);have h8:=Int.natAbs_tdiv_le_natAbs a b;refine⟨by omega,by omega⟩
def ry(n:Int)(lo:Int)(hi:Int):PRet prog 243 [vI n,vI lo,vI hi] (fun r=>∃b:Bool,r=vB b/\(b=true↔lo<=n/\n<=hi)):=by refine ovT [] [] func243 rfl rfl ?_;apply cD<;>intro hq10;refine rV rfl rfl ?_;refine⟨_,rfl,?_⟩;(simp;omega);refine rV rfl rfl ?_;refine⟨_,rfl,?_⟩;(simp;omega)
def Bp(n:Int)(hn:-9223372036854775807<=n/\n<=9223372036854775807):PRet prog 245 [vI n] (fun r=>r=vI (cq n)):=ovT [6] [] func245 rfl rfl (cB (fun h0=>by have h1:=azi h0;exact OpG.lk (oh rfl (by omega) (by omega)) (rV rfl rfl (show vI (-n)=vI (cq n)by unfold cq;rw[azg (by simpa using h0)]))) (fun h0=>have h1:=azh h0;rV rfl rfl (show vI n=vI (cq n)by unfold cq;rw[azf (by simpa using h0)])))
def lb(a:Int)(b:Int):PRet prog 286 [vI a,vI b] (fun r=>∃v:Int,r=vI v/\v=if a<b then -1 else if b<a then 1 else 0):=by
 refine ovT [] [] func286 rfl rfl ?_;apply cB<;>intro h2
 ·have h3:=azi h2;refine rV rfl rfl ?_;refine⟨_,rfl,?_⟩;(rw[azg (by omega)];done)
 have h3:=azh h2;apply cB<;>intro h0
 ·have h1:=azi h0;refine rV rfl rfl ?_;refine⟨_,rfl,?_⟩;(rw[azf (by omega),azg (by omega)];done)
 have h1:=azh h0;refine rV rfl rfl ?_;refine⟨_,rfl,?_⟩;(rw[azf (by omega),azf (by omega)];done)
def Uk(a:Int)(b:Int)(ha:-4611686018427387904<=a/\a<=4611686018427387904)(hb:1<=b/\b<=4611686018427387904):PRet prog 285 [vI a,vI b] (fun r=>∃v:Int,r=vI v/\v=a.fdiv b):=by have hf:=uu (a:=a) hb.1;have hq:=Do ha hb;exact ovT [8,11,15] [] func285 rfl rfl (OpG.lk (qg rfl rfl (by omega) (by omega) (by omega)) (OpG.lk (ki rfl rfl (by omega) (by omega)) (cB (fun h0=>OpG.lk (qf rfl rfl (by omega) (by omega)) (rV rfl rfl ⟨_,rfl,by rw[<-hf,azg (by simpa using h0)]⟩)) (fun h0=>rV rfl rfl ⟨_,rfl,by rw[<-hf,azf (by simpa using h0)]⟩))))
def lx:List Int->List Int->Int
 |[],[]=>0
 |[],_::_=>-1
 |_::_,[]=>1
 |a::l,b::m=>if a<b then -1 else if b<a then 1 else lx l m
theorem Ar:∀l,lx l l=0
 |[]=>rfl
 |a::l=>by simp only[lx,azf (Int.lt_irrefl a)];exact Ar l
theorem Jn:∀l m,lx m l=-lx l m
 |[],[]=>rfl
 |[],_::_=>rfl
 |_::_,[]=>rfl
 |a::l,b::m=>by simp only[lx];by_cases h:a<b;rw[azg h,azf (by omega),azg h];rfl;by_cases g:b<a;simp[h,g];rw[azf h,azf g,azf g,azf h];exact Jn l m
theorem Tj:∀l m,lx l m=0->l=m
 |[],[],_=>rfl
 |[],_::_,h=>by simp[lx]at h
 |_::_,[],h=>by simp[lx]at h
 |a::l,b::m,h=>by simp only[lx]at h;by_cases h1:a<b;rw[azg h1]at h;exact absurd h (by decide);by_cases g:b<a;rw[azf h1,azg g]at h;exact absurd h (by decide);rw[azf h1,azf g]at h;rw[Tj l m h,show a=b by omega]
theorem Mj:∀l m n,lx l m<0->lx m n<0->lx l n<0
 |[],[],_,h,_=>absurd h (by decide)
 |[],_::_,[],_,h=>by simp[lx]at h
 |[],_::_,_::_,_,_=>by simp[lx]
 |_::_,[],_,h,_=>by simp[lx]at h
 |_::_,_::_,[],_,h=>by simp[lx]at h
 |a::l,b::m,c::n,h,g=>by simp only[lx]at h g ⊢;by_cases h1:a<b;by_cases g1:b<c;rw[azg (by omega)];decide;by_cases g2:c<b;rw[azf g1,azg g2]at g;exact absurd g (by decide);rw[azg (by omega)];decide;by_cases h2:b<a;rw[azf h1,azg h2]at h;exact absurd h (by decide);rw[azf h1,azf h2]at h;by_cases g1:b<c;rw[azg (by omega)];decide;by_cases g2:c<b;rw[azf g1,azg g2]at g;exact absurd g (by decide);rw[azf g1,azf g2]at g;rw[azf (by omega),azf (by omega)];exact Mj l m n h g
theorem adg:∀l m n,lx (l++m) (l++n)=lx m n
 |[],_,_=>rfl
 |a::l,m,n=>by simp only[List.cons_append,lx,azf (Int.lt_irrefl a)];exact adg l m n
structure GPart where
 i_:Int
 c_:Int
 p_:Int
 by_:Int
 of_:List (List AV)
variable{p q:GPart}{l:List GPart}
abbrev ptA(x:GPart):List AV:=[.v (.int .i64 x.i_),.v (.int .i64 x.c_),.v (.int .i64 x.p_),.v (.int .i64 x.by_),.tree 2 (x.of_.map rwA)]
instance:Inhabited GPart:=⟨⟨0,0,0,0,[]⟩⟩
structure GTm where
 f_:Int
 a_:List GPart
variable{t x:GTm}
abbrev tmA(x:GTm):List AV:=[.v (.int .i64 x.f_),.tree 5 (x.a_.map ptA)]
theorem fk(l:List (List AV)):l.map rwA=l:=List.map_id l
mutual
def tvL(ρ:Int->Int->Int):List AV->Int
 | [.v (.int _ c),.tree _ ps]=>c+psL ρ ps
 |_=>0
def psL(ρ:Int->Int->Int):List (List AV)->Int
 | []=>0
 |r :: rs=>ptL ρ r+psL ρ rs
def ptL(ρ:Int->Int->Int):List AV->Int
 | [.v (.int _ c),.v (.int _ kd),.v (.int _ vr),.v (.int _ b),.tree _ os]=>c*(if kd=2 then(ofL ρ os).fdiv b else ρ kd vr)
 |_=>0
def ofL(ρ:Int->Int->Int):List (List AV)->Int
 | []=>0
 |r :: _=>tvL ρ r
end
mutual
def cdT:List AV->List Int
 | [.v (.int _ c),.tree _ ps]=>aq8 ps++[-1,c]
 |_=>[]
def aq8:List (List AV)->List Int
 | []=>[]
 |r :: rs=>cdR r++aq8 rs
def cdR:List AV->List Int
 | [.v (.int _ c),.v (.int _ kd),.v (.int _ vr),.v (.int _ b),.tree _ os]=>kd :: vr :: b :: (Ph os++[c])
 |_=>[]
def Ph:List (List AV)->List Int
 | []=>[]
 |r :: _=>cdT r
end
mutual
def bdL:List AV->Int
 | [.v (.int _ c),.tree _ ps]=>cq c+asj ps
 |_=>0
def asj:List (List AV)->Int
 | []=>0
 |r :: rs=>bdR r+asj rs
def bdR:List AV->Int
 | [.v (.int _ c),.v (.int _ kd),.v (.int _ vr),.v (.int _ b),.tree _ os]=>cq c*(if kd=2 then(ale os).tdiv b+1 else if kd=1 then 16 else 2147483648)
 |_=>0
def ale:List (List AV)->Int
 | []=>0
 |r :: _=>bdL r
end
def cdP(p:GPart):List Int:=p.c_::p.p_::p.by_::Ph p.of_
def bdK(p:GPart):Int:=if p.c_=2 then(ale p.of_).tdiv p.by_+1 else if p.c_=1 then 16 else 2147483648
def bdS:List GPart->Int
 |[]=>0
 |p::l=>cq p.i_*bdK p+bdS l
def B1(ρ:Int->Int->Int)(p:GPart):Int:=if p.c_=2 then(ofL ρ p.of_).fdiv p.by_ else ρ p.c_ p.p_
def P3(ρ:Int->Int->Int)(p:GPart):Int:=p.i_*B1 ρ p
def pn(ρ:Int->Int->Int):List GPart->Int
 |[]=>0
 |p::l=>P3 ρ p+pn ρ l
theorem R7(ρ:Int->Int->Int):∀l:List GPart,psL ρ (l.map ptA)=pn ρ l
 |[]=>by simp only[List.map_nil,psL,pn]
 |p::l=>by simp only[azw,psL,pn,R7 ρ l,ptA,ptL,P3,B1,fk]
theorem kp(ρ:Int->Int->Int)(x:GTm):tvL ρ (tmA x)=x.f_+pn ρ x.a_:=by simp only[tmA,tvL,R7]
theorem Nj:∀l:List GPart,asj (l.map ptA)=bdS l
 |[]=>by simp only[List.map_nil,asj,bdS]
 |p::l=>by simp only[azw,asj,bdS,Nj l,ptA,bdR,bdK,fk]
theorem ni(x:GTm):bdL (tmA x)=cq x.f_+bdS x.a_:=by simp only[tmA,bdL,Nj]
def cdS:List GPart->List Int
 |[]=>[]
 |p::l=>cdP p++p.i_::cdS l
theorem Nc:∀l:List GPart,aq8 (l.map ptA)=cdS l
 |[]=>by simp only[List.map_nil,aq8,cdS]
 |p::l=>by simp only[azw,aq8,cdS,Nc l,ptA,cdR,cdP,fk,List.cons_append,List.append_assoc,List.nil_append]
theorem C8(x:GTm):cdT (tmA x)=cdS x.a_++[-1,x.f_]:=by simp only[tmA,cdT,Nc]
def Xq(ρ:Int->Int->Int):Prop:=∀v,(∀k,-2147483648<=ρ k v/\ρ k v<=2147483648)/\-16<=ρ 1 v/\ρ 1 v<=16/\ρ 2 0=0
def Bd(r:List AV)(m:Int):Prop:=∀ρ,Xq ρ->-m<=tvL ρ r/\tvL ρ r<=m
def cfR:List AV->Bool
 |.v (.int _ c)::_=>decide (cq c<=1048576)
 |_=>false
def smR:List AV->Bool
 |[.v (.int k c),.tree n ps]=>decide (cq c<=1099511627776)&&ps.all cfR&&decide (bdL [.v (.int k c),.tree n ps]<=1152921504606846976)
 |_=>false
def Fk(x:GTm):Prop:=(-1099511627776<=x.f_/\x.f_<=1099511627776)/\∀p∈x.a_,-1048576<=p.i_/\p.i_<=1048576
theorem akt :cq a<=m↔-m<=a/\a<=m:=by have:=ap a;omega
theorem fb(x:GTm):smR (tmA x)=true↔Fk x/\bdL (tmA x)<=1152921504606846976:=by simp_all [ptA,cfR,List.all_map,List.all_eq_true,akt,tmA,smR,Fk]
def PK(p:GPart):Prop:=(0<=p.c_/\p.c_<=2)/\(p.c_=2->p.of_.length=1/\1<=p.by_/\p.by_<=1000)/\(p.c_≠2->p.of_=[])
def lnR:List AV->Bool
 |[.v _,.tree _ ps]=>decide (ps.length<=1000000)
 |_=>false
theorem vf(x:GTm):lnR (tmA x)=true↔x.a_.length<=1000000:=by simp[lnR]
def Srt(l:List GPart):Prop:=l.Pairwise (fun p q=>lx (cdP p) (cdP q)<0)/\∀p∈l,p.i_≠0
inductive IsTm:List AV->Prop
 |mk (x:GTm) (h0:x.a_.length<=140737488355328) (hs:Srt x.a_) (hk:∀p∈x.a_,PK p) (hm:∀p∈x.a_,∀r∈p.of_,smR r=true) (hn:∀p∈x.a_,∀r∈p.of_,lnR r=true) (h:∀p∈x.a_,∀r∈p.of_,IsTm r):IsTm (tmA x)
structure FitPart(p:GPart):Prop where
 of_:bq p.of_ (fun y=>IsTm y)
 kd:PK p
 sm:∀r∈p.of_,smR r=true
 ln:∀r∈p.of_,lnR r=true
structure FitTm(x:GTm):Prop where
 a_:bq x.a_ (fun y=>FitPart y)
 srt:Srt x.a_
theorem PK.one(h:PK p):p.of_.length<=1:=by grind[PK]
theorem IsTm.fit(h0:x.a_.length<=140737488355328)(hs:Srt x.a_)(hk:∀p∈x.a_,PK p)(hm:∀p∈x.a_,∀r∈p.of_,smR r=true)(hn:∀p∈x.a_,∀r∈p.of_,lnR r=true)(h:∀p∈x.a_,∀r∈p.of_,IsTm r):FitTm x:=⟨⟨h0,fun p hp=>⟨⟨azp (hk p hp).one (by decide),h p hp⟩,hk p hp,hm p hp,hn p hp⟩⟩,hs⟩
theorem Cr(h:FitTm x):IsTm (tmA x):=.mk x h.a_.1 h.srt (fun p hp=>(h.a_.2 p hp).kd) (fun p hp=>(h.a_.2 p hp).sm) (fun p hp=>(h.a_.2 p hp).ln) (fun p hp=>(h.a_.2 p hp).of_.2)
theorem IsTm.ind(H:∀x,FitTm x->(∀p∈x.a_,∀r∈p.of_,M r)->M (tmA x))(h:IsTm r):M r:=by
 induction h with
 |mk x h0 hs hk hm hn h ih=>exact H x (IsTm.fit h0 hs hk hm hn h) ih
theorem IsTm.open_(h:IsTm r):∃x,r=tmA x/\FitTm x:=by
 cases h with
 |mk x h0 hs hk hm hn h=>exact⟨x,rfl,IsTm.fit h0 hs hk hm hn h⟩
theorem Ca(h:IsTm r):ij 0 2 (rwA r)=some r:=by
 cases h with
 |mk x h0 hs hk hm hn h=>rfl
theorem Cb(h:IsTm r):bz r=true:=by
 cases h with
 |mk x h0 hs hk hm hn h=>rfl
def R5(h:ptA p=ptA q):p=q:=by obtain⟨a,b,c,d,e⟩:=p;obtain⟨a',b',c',d',e'⟩:=q;simp only[ptA,List.cons.injEq,AV.v.injEq,Value.int.injEq,AV.tree.injEq,true_and,and_true,fk]at h;obtain⟨rfl,rfl,rfl,rfl,rfl⟩:=h;rfl
theorem Qz{y:GTm}(h:tmA x=tmA y):x=y:=by obtain⟨a,b⟩:=x;obtain⟨a',b'⟩:=y;simp only[tmA,List.cons.injEq,AV.v.injEq,Value.int.injEq,AV.tree.injEq,true_and,and_true]at h;obtain⟨rfl,h⟩:=h;have:=(List.map_inj_right (f:=ptA) (fun _ _ h=>R5 h)).1 h;rw[this]
def PX(a b:List Int):Prop:=lx a b≠0->∀x y,lx (a++x) (b++y)=lx a b
theorem ah9{a b x y:List Int}(h:PX a b):lx (a++x) (b++y)=if lx a b=0 then lx x y else lx a b:=by split;rename_i e;rw[Tj a b e,adg];rename_i e;exact h e x y
def PX.nil:PX [] []:=fun h=>absurd rfl h
def PX.cons{k k':Int}{a b:List Int}(h:k=k'->PX a b):PX (k::a) (k'::b):=by grind[PX,lx]
def PX.cat{a b c d:List Int}(h:PX a b)(g:PX c d):PX (a++c) (b++d):=by grind[PX,ah9,List.append_assoc,lx]
theorem PX.one :PX [a] [b]:=.cons fun _=>.nil
def pxP(hp:FitPart p)(hq:FitPart q)(ih:∀r∈p.of_,∀s,IsTm s->PX (cdT r) (cdT s)):PX (cdP p) (cdP q):=
 .cons fun hk=>.cons fun _=>.cons fun _=>by by_cases e:p.c_=2;obtain⟨r,hr⟩:=az4.1 (hp.kd.2.1 e).1;obtain⟨s,hs⟩:=az4.1 (hq.kd.2.1 (hk▸e)).1;rw[hr,hs];simp only[Ph];exact ih r (by rw[hr];simp) s (hq.of_.2 s (by rw[hs];simp));rw[hp.kd.2.2 e,hq.kd.2.2 (by rw[<-hk];exact e)];simp only[Ph];exact .nil
theorem pxS{c d:Int}:∀{l m:List GPart},(∀p∈l,FitPart p)->(∀q∈m,FitPart q)->(∀p∈l,∀q∈m,PX (cdP p) (cdP q))->PX (cdS l++[-1,c]) (cdS m++[-1,d])
 |[],[],_,_,_=>by simp only[cdS,List.nil_append];exact .cons fun _=>.one
 |[],q::m,_,h,_=>by have:=(h q (by simp)).kd.1;simp only[cdS,cdP,List.nil_append,List.cons_append];exact .cons fun e=>by omega
 |p::l,[],h,_,_=>by have:=(h p (by simp)).kd.1;simp only[cdS,cdP,List.nil_append,List.cons_append];exact .cons fun e=>by omega
 |p::l,q::m,h,g,i=>by simp only[cdS,List.append_assoc,List.cons_append];exact .cat (i p (by simp) q (by simp)) (.cons fun _=>pxS (fun x hx=>h x (by simp[hx])) (fun x hx=>g x (by simp[hx])) (fun x hx y hy=>i x (by simp[hx]) y (by simp[hy])))
def pxT(hr:IsTm r):∀s,IsTm s->PX (cdT r) (cdT s):=
 IsTm.ind (M:=fun r=>∀s,IsTm s->PX (cdT r) (cdT s)) (fun x hx ih s hs=>by obtain⟨y,rfl,hy⟩:=hs.open_;rw[C8,C8];exact pxS hx.a_.2 hy.a_.2 (fun p hp q hq=>pxP (hx.a_.2 p hp) (hy.a_.2 q hq) (ih p hp))) hr
theorem pxPP(hp:FitPart p)(hq:FitPart q):PX (cdP p) (cdP q):=pxP hp hq fun r hr=>pxT (hp.of_.2 r hr)
def jo(p q:GPart):Int:=lx (cdP p) (cdP q)
theorem Eu(p q:GPart):jo p q=if p.c_<q.c_ then -1 else if q.c_<p.c_ then 1 else if p.p_<q.p_ then -1 else if q.p_<p.p_ then 1 else if p.by_<q.by_ then -1 else if q.by_<p.by_ then 1 else lx (Ph p.of_) (Ph q.of_):=by simp only[jo,cdP,lx]
def CmI(x y:GTm)(k:Nat):Prop:=lx (cdT (tmA x)) (cdT (tmA y))=lx (cdS (x.a_.drop k)++[-1,x.f_]) (cdS (y.a_.drop k)++[-1,y.f_])
def cmI0(x y:GTm):CmI x y 0:=by unfold CmI;rw[C8,C8];rfl
section
variable{x y:GTm}{k:Nat}
theorem ajq(hx:FitTm x)(hy:FitTm y)(h:CmI x y k)(h1:k<x.a_.length)(h2:k<y.a_.length):lx (cdT (tmA x)) (cdT (tmA y))=if jo x.a_[k] y.a_[k]=0 then(if x.a_[k].i_<y.a_[k].i_ then -1 else if y.a_[k].i_<x.a_[k].i_ then 1 else lx (cdS (x.a_.drop (k+1))++[-1,x.f_]) (cdS (y.a_.drop (k+1))++[-1,y.f_]))else jo x.a_[k] y.a_[k]:=by rw[h,az3 h1,az3 h2];simp only[cdS,List.append_assoc,List.cons_append];rw[ah9 (pxPP (hx.a_.2 _ (ay7 h1)) (hy.a_.2 _ (ay7 h2)))];simp only[lx];rfl
theorem aed(hx:FitTm x)(hy:FitTm y)(h:CmI x y k)(h1:k<=x.a_.length)(h2:k<=y.a_.length)(h3:k=x.a_.length\/k=y.a_.length):lx (cdT (tmA x)) (cdT (tmA y))=if x.a_.length<y.a_.length then -1 else if y.a_.length<x.a_.length then 1 else if x.f_<y.f_ then -1 else if y.f_<x.f_ then 1 else 0:=by rw[h];by_cases e1:k=x.a_.length;rw[List.drop_of_length_le (by omega:x.a_.length<=k)];by_cases e2:k=y.a_.length;rw[List.drop_of_length_le (by omega:y.a_.length<=k),azf (by omega),azf (by omega)];simp[cdS,lx];have h4:k<y.a_.length:=(by omega);have:=(hy.a_.2 _ (ay7 h4)).kd.1;rw[az3 h4,azg (by omega)];simp only[cdS,cdP,List.nil_append,List.cons_append,lx];rw[azg (by omega)];have h4:k<x.a_.length:=(by omega);have:=(hx.a_.2 _ (ay7 h4)).kd.1;rw[az3 h4,List.drop_of_length_le (by omega:y.a_.length<=k),azf (by omega),azg (by omega)];simp only[cdS,cdP,List.nil_append,List.cons_append,lx];rw[azf (by omega),azg (by omega)]
end
theorem Vv(p q:GPart):jo q p=-jo p q:=Jn _ _
theorem C6{r:GPart}(h:jo p q<0)(g:jo q r<0):jo p r<0:=Mj _ _ _ h g
theorem Pd{r:GPart}(h:jo p q=0):jo p r=jo q r:=by unfold jo;rw[Tj _ _ h]
theorem ajw(hr:IsTm r):∀s,IsTm s->cdT r=cdT s->r=s:=
 IsTm.ind (M:=fun r=>∀s,IsTm s->cdT r=cdT s->r=s) (fun x hx ih s hs e=>by
  obtain⟨y,rfl,hy⟩:=hs.open_;rw[C8,C8]at e
  have key:∀(l m:List GPart),(∀p∈l,FitPart p)->(∀q∈m,FitPart q)->(∀p∈l,∀r∈p.of_,∀s,IsTm s->cdT r=cdT s->r=s)->cdS l++[-1,x.f_]=cdS m++[-1,y.f_]->l=m/\x.f_=y.f_:=by
   intro l;induction l with
   |nil=>
    intro m _ hm _ e
    cases m with
    |nil=>simpa[cdS]using e
    |cons q m=>
     have:=(hm q (by simp)).kd.1
     simp only[cdS,cdP,List.nil_append,List.cons_append,List.cons.injEq]at e
     omega
   |cons p l ihl=>
    intro m hl hm hi e
    cases m with
    |nil=>
     have:=(hl p (by simp)).kd.1
     simp only[cdS,cdP,List.nil_append,List.cons_append,List.cons.injEq]at e
     omega
    |cons q m=>
     have hp:=hl p (by simp)
     have hq:=hm q (by simp)
     have z:=Ar (cdS (p::l)++[-1,x.f_])
     rw(config:={occs:=.pos [2]}) [e]at z
     simp only[cdS,List.append_assoc,List.cons_append]at z e
     rw[ah9 (pxPP hp hq)]at z
     have z0:lx (cdP p) (cdP q)=0:=by
      by_cases w:lx (cdP p) (cdP q)=0
      ·exact w
      ·rw[azf w]at z;exact z
     have z1:=Tj _ _ z0
     rw[z1]at e
     have e2:=List.append_cancel_left e
     simp only[List.cons.injEq]at e2
     obtain⟨g1,g2⟩:=ihl m (fun x hx=>hl x (by simp[hx])) (fun x hx=>hm x (by simp[hx])) (fun x hx=>hi x (by simp[hx])) e2.2
     simp only[cdP,List.cons.injEq]at z1
     obtain⟨k1,k2,k3,k4⟩:=z1
     have k5:p.of_=q.of_:=by
      by_cases e:p.c_=2
      ·obtain⟨r,hr⟩:=az4.1 (hp.kd.2.1 e).1
       obtain⟨s,hs⟩:=az4.1 (hq.kd.2.1 (k1▸e)).1
       rw[hr,hs]at k4 ⊢
       simp only[Ph]at k4
       rw[hi p (by simp) r (by rw[hr];simp) s (hq.of_.2 s (by rw[hs];simp)) k4]
      ·rw[hp.kd.2.2 e,hq.kd.2.2 (by rw[<-k1];exact e)]
     refine⟨?_,g2⟩
     rw[g1]
     obtain⟨a,b,c,d,o⟩:=p
     obtain⟨a',b',c',d',o'⟩:=q
     simp only at k1 k2 k3 k5 e2
     rw[k1,k2,k3,k5,e2.1]
  obtain⟨g1,g2⟩:=key _ _ hx.a_.2 hy.a_.2 ih e;simp only[tmA,g1,g2]) hr
def Ow(a b:GPart):Prop:=a.c_=b.c_/\a.p_=b.p_/\a.by_=b.by_/\a.of_=b.of_
def M9(hp:FitPart p)(hq:FitPart q)(h:jo p q=0):Ow p q:=by have z1:=Tj _ _ h;simp only[cdP,List.cons.injEq]at z1;obtain⟨k1,k2,k3,k4⟩:=z1;refine⟨k1,k2,k3,?_⟩;by_cases e:p.c_=2;obtain⟨r,hr⟩:=az4.1 (hp.kd.2.1 e).1;obtain⟨s,hs⟩:=az4.1 (hq.kd.2.1 (k1▸e)).1;rw[hr,hs]at k4 ⊢;simp only[Ph]at k4;rw[ajw (hp.of_.2 r (by rw[hr];simp)) s (hq.of_.2 s (by rw[hs];simp)) k4];rw[hp.kd.2.2 e,hq.kd.2.2 (by rw[<-k1];exact e)]
def Ow.val(h:Ow p q)(ρ:Int->Int->Int):B1 ρ p=B1 ρ q:=by obtain⟨h1,h2,h3,h4⟩:=h;unfold B1;rw[h1,h2,h3,h4]
def j9(p:GPart):List GPart->List GPart
 |[]=>[p]
 |q::l=>if jo q p=0 then(if q.i_+p.i_=0 then l else{q with i_:=q.i_+p.i_}::l)else if jo q p<0 then q::j9 p l else p::q::l
def dx(l m:List GPart):List GPart:=m.foldl (fun s q=>j9 q s) l
theorem Ed{P:GPart->Prop}(hP:∀q c,P q->P {q with i_:=c}){p:GPart}(hp:P p):∀{l:List GPart},(∀q∈l,P q)->∀q∈j9 p l,P q
 |[],_,q,hq=>by rw[azc.1 hq];exact hp
 |a::l,h,q,hq=>by unfold j9 at hq;split at hq;split at hq;exact h q (by simp[hq]);rcases azz.1 hq with rfl|hq;exact hP _ _ (h a (by simp));exact h q (by simp[hq]);split at hq;rcases azz.1 hq with rfl|hq;exact h q (by simp);exact Ed hP hp (fun x hx=>h x (by simp[hx])) q hq;rcases azz.1 hq with rfl|hq;exact hp;exact h q hq
theorem pd{P:GPart->Prop}(hP:∀q c,P q->P {q with i_:=c}):∀{m l:List GPart},(∀q∈l,P q)->(∀q∈m,P q)->∀q∈dx l m,P q
 |[],l,h,_=>h
 |p::m,l,h,g=>pd hP (m:=m) (l:=j9 p l) (Ed hP (g p (by simp)) h) (fun q hq=>g q (by simp[hq]))
theorem Tz(p:GPart):∀l:List GPart,(j9 p l).length<=l.length+1
 |[]=>azm _
 |a::l=>by have:=Tz p l;unfold j9;split;split<;>simp<;>omega;split<;>simp<;>omega
theorem pc:∀(m l:List GPart),(dx l m).length<=l.length+m.length
 |[],l=>azm _
 |p::m,l=>by have h:=pc m (j9 p l);have g:=Tz p l;show(dx (j9 p l) m).length<=_;simp only[azu];omega
theorem Srt.tail(h:Srt (p::l)):Srt l:=⟨(List.pairwise_cons.1 h.1).2,fun q hq=>h.2 q (by simp[hq])⟩
theorem Srt.hd(h:Srt (p::l)):∀q∈l,jo p q<0:=(List.pairwise_cons.1 h.1).1
def Srt.cons(h:Srt l)(hp:p.i_≠0)(g:∀q∈l,jo p q<0):Srt (p::l):=⟨List.pairwise_cons.2 ⟨g,h.1⟩,fun q hq=>by rcases azz.1 hq with rfl|hq;exact hp;exact h.2 q hq⟩
def Rb:Srt []:=⟨.nil,by simp⟩
theorem Ty{p:GPart}(hp:p.i_≠0):∀{l:List GPart},Srt l->Srt (j9 p l)
 |[],_=>Rb.cons hp (by simp)
 |a::l,h=>by have ht:=h.tail;have hh:=h.hd;have hc:=h.2 a (by simp);unfold j9;split;split;exact ht;rename_i e;exact ht.cons e hh;split;rename_i e1 e2;exact(Ty hp ht).cons hc (Ed (P:=fun q=>jo a q<0) (fun q c h=>h) e2 hh);rename_i e1 e2;have e3:jo p a<0:=(by rw[Vv];omega);exact h.cons hp (fun q hq=>by rcases azz.1 hq with rfl|hq;exact e3;exact C6 e3 (hh q hq))
theorem Cv:∀{m l:List GPart},Srt l->(∀q∈m,q.i_≠0)->Srt (dx l m)
 |[],l,h,_=>h
 |p::m,l,h,g=>Cv (m:=m) (l:=j9 p l) (Ty (g p (by simp)) h) (fun q hq=>g q (by simp[hq]))
theorem Tx(ρ:Int->Int->Int){p:GPart}(hp:FitPart p):∀{l:List GPart},(∀q∈l,FitPart q)->pn ρ (j9 p l)=pn ρ l+P3 ρ p
 |[],_=>by simp[j9,pn]
 |a::l,h=>by have ha:=h a (by simp);unfold j9;split;rename_i e;have k:=(M9 ha hp e).val ρ;have e2:B1 ρ {a with i_:=a.i_+p.i_}=B1 ρ a:=rfl;split;rename_i z;have e3:a.i_*B1 ρ p+p.i_*B1 ρ p=0:=(by rw[<-Int.add_mul,z,Int.zero_mul]);simp only[pn,P3,k];omega;simp only[pn,P3,e2,k,Int.add_mul];omega;split;have:=Tx ρ hp (l:=l) (fun q hq=>h q (by simp[hq]));simp only[pn,this];omega;simp only[pn];omega
theorem r7(h:FitPart q):FitPart {q with i_:=c}:=⟨h.of_,h.kd,h.sm,h.ln⟩
theorem Cu(ρ:Int->Int->Int):∀{m l:List GPart},(∀q∈l,FitPart q)->(∀q∈m,FitPart q)->pn ρ (dx l m)=pn ρ l+pn ρ m
 |[],l,_,_=>by simp[dx,pn]
 |p::m,l,h,g=>by have e:=Cu ρ (m:=m) (l:=j9 p l) (Ed (fun q c hq=>r7 hq) (g p (by simp)) h) (fun q hq=>g q (by simp[hq]));show pn ρ (dx (j9 p l) m)=_;rw[e,Tx ρ (g p (by simp)) h];simp only[pn];omega
theorem m5{p:GPart}:∀{m:List GPart} {s:List GPart},(∀q∈m,jo p q<0)->dx (p::s) m=p::dx s m
 |[],s,_=>rfl
 |q::m,s,h=>by have h1:=h q (by simp);show dx (j9 q (p::s)) m=p::dx (j9 q s) m;have e:j9 q (p::s)=p::j9 q s:=(by show(if jo p q=0 then _ else if jo p q<0 then p::j9 q s else _)=_;rw[azf (by omega),azg h1]);rw[e];exact m5 (fun x hx=>h x (by simp[hx]))
def B0:List GPart->List GPart->List GPart
 |[],m=>m
 |p::l,[]=>p::l
 |p::l,q::m=>if jo p q=0 then(if q.i_+p.i_=0 then B0 l m else{q with i_:=q.i_+p.i_}::B0 l m)else if jo p q<0 then p::B0 l (q::m)else q::B0 (p::l) m
termination_by l m=>l.length+m.length
theorem Cw:∀{m:List GPart},Srt m->dx [] m=m
 |[],_=>rfl
 |q::m,h=>by show dx [q] m=q::m;rw[m5 h.hd,Cw h.tail]
theorem An:∀(n:Nat) (l m:List GPart),l.length+m.length<=n->Srt l->Srt m->(∀p∈l,FitPart p)->(∀q∈m,FitPart q)->B0 l m=dx l m
 |_,[],m,_,_,hm,_,_=>by rw[B0,Cw hm]
 |_,p::l,[],_,_,_,_,_=>by rw[B0];rfl
 |0,p::l,q::m,hn,_,_,_,_=>by simp at hn
 |n+1,p::l,q::m,hn,hl,hm,fl,fm=>by
  simp only[azu]at hn;have fl':∀x∈l,FitPart x:=fun x hx=>fl x (by simp[hx])
  have fm':∀x∈m,FitPart x:=fun x hx=>fm x (by simp[hx]);rw[B0];show _=dx (j9 q (p::l)) m
  split;rename_i e;have e2:j9 q (p::l)=if p.i_+q.i_=0 then l else{p with i_:=p.i_+q.i_}::l:=by show(if jo p q=0 then _ else _)=_;rw[azg e]
  rw[e2,Int.add_comm q.i_];split;exact An n l m (by omega) hl.tail hm.tail fl' fm';rw[m5 (fun x hx=>by show jo p x<0;rw[Pd e];exact hm.hd x hx),An n l m (by omega) hl.tail hm.tail fl' fm'];obtain⟨k1,k2,k3,k4⟩:=M9 (fl p (by simp)) (fm q (by simp)) e;rw[k1,k2,k3,k4];split;rename_i e1 e2;have e3:j9 q (p::l)=p::j9 q l:=by show(if jo p q=0 then _ else if jo p q<0 then p::j9 q l else _)=_;rw[azf e1,azg e2]
  rw[e3,m5 (fun x hx=>C6 e2 (hm.hd x hx)),An n l (q::m) (by simp only[azu];omega) hl.tail hm fl' fm];rfl;rename_i e1 e2;have e3:j9 q (p::l)=q::p::l:=by show(if jo p q=0 then _ else if jo p q<0 then p::j9 q l else _)=_;rw[azf e1,azf e2]
  rw[e3,m5 hm.hd,An n (p::l) m (by simp only[azu];omega) hl hm.tail fl fm']
def qq(x y:GTm):GTm:=⟨x.f_+y.f_,dx x.a_ y.a_⟩
def Kk{y:GTm}(hx:FitTm x)(hy:FitTm y)(hl:x.a_.length+y.a_.length<=140737488355328):FitTm (qq x y):=
 ⟨⟨azp (pc _ _) hl,pd (fun q c hq=>r7 hq) hx.a_.2 hy.a_.2⟩,Cv hx.srt hy.srt.2⟩
def ako{y:GTm}(hx:FitTm x)(hy:FitTm y)(ρ:Int->Int->Int):tvL ρ (tmA (qq x y))=tvL ρ (tmA x)+tvL ρ (tmA y):=by rw[kp,kp,kp];show x.f_+y.f_+pn ρ (dx x.a_ y.a_)=_;rw[Cu ρ hx.a_.2 hy.a_.2];omega
def zT:GTm:=⟨0,[]⟩
def dt(t:GTm):Option GTm:=if smR (tmA t)=true then some t else none
def scT(n:Int)(x:GTm):GTm:=if n=0 then zT else⟨x.f_*n,x.a_.map (fun p=>{p with i_:=p.i_*n})⟩
def dvP(x:GTm)(b:Int):GPart:=⟨1,2,0,b,[tmA x]⟩
def dvT(x:GTm)(b:Int):GTm:=⟨0,[dvP x b]⟩
def ue(k v:Int):GTm:=⟨0,[⟨1,k,v,0,[]⟩]⟩
def ym(x:GTm)(b:Int):Option GTm:=if b=1 then some x else if x.a_=[]then some ⟨x.f_.fdiv b,[]⟩else dt (dvT x b)
theorem j6{u:GTm}(h:dt t=some u):u=t/\smR (tmA t)=true:=by grind[dt]
def c8:FitTm zT:=⟨⟨azk _,by simp[zT]⟩,Rb⟩
def m8 :FitTm ⟨c,[]⟩:=⟨⟨azk _,by simp⟩,Rb⟩
def aha{k v:Int}(h:k=0\/k=1):PK ⟨c,k,v,b,[]⟩:=⟨by simp only;omega,fun e=>by simp only at e;omega,fun _=>rfl⟩
def nf{k v:Int}(h:k=0\/k=1):FitTm (ue k v):=
 ⟨⟨by show 1<=_;decide,fun p hp=>by rw[azc.1 hp];exact⟨⟨azk _,fun x hx=>absurd hx (by simp)⟩,aha h,fun x hx=>absurd hx (by simp),fun x hx=>absurd hx (by simp)⟩⟩,Rb.cons (p:=⟨1,k,v,0,[]⟩) (by simp) (by simp)⟩
def acj(hx:FitTm x):FitTm (scT n x):=by unfold scT;split;exact c8;rename_i hn;exact⟨⟨by simpa using hx.a_.1,fun p hp=>by obtain⟨q,hq,rfl⟩:=azy.1 hp;exact r7 (hx.a_.2 q hq)⟩,List.pairwise_map.2 hx.srt.1,fun p hp=>by obtain⟨q,hq,rfl⟩:=azy.1 hp;exact fun e=>(Int.mul_eq_zero.1 e).elim (hx.srt.2 q hq) hn⟩
theorem Q5(ρ:Int->Int->Int)(n:Int):∀l:List GPart,pn ρ (l.map (fun p=>{p with i_:=p.i_*n}))=n*pn ρ l
 |[]=>by simp[pn]
 |p::l=>by simp only[azw,pn,Q5 ρ n l,Int.mul_add];have:P3 ρ {p with i_:=p.i_*n}=n*P3 ρ p:=(by show p.i_*n*B1 ρ p=n*(p.i_*B1 ρ p);rw[Int.mul_comm p.i_ n,Int.mul_assoc]);rw[this]
def amw(n:Int)(x:GTm)(ρ:Int->Int->Int):tvL ρ (tmA (scT n x))=n*tvL ρ (tmA x):=by rw[kp,kp];unfold scT;split;rename_i e;rw[e];simp[zT,pn];show x.f_*n+pn ρ (x.a_.map _)=_;rw[Q5,Int.mul_add,Int.mul_comm]
def F6(n:Int)(x:GTm):(scT n x).a_.length<=x.a_.length:=by unfold scT;split;exact azk _;simp
def U4(hx:FitTm x)(hb:1<=b/\b<=1000)(h6:smR (tmA x)=true)(hl:x.a_.length<=1000000):FitTm (dvT x b):=
 ⟨⟨by show 1<=_;decide,fun p hp=>by rw[azc.1 hp];exact⟨⟨by show 1<=_;decide,fun r hr=>by rw[azc.1 hr];exact Cr hx⟩,⟨⟨by show(0:Int)<=2;decide,by show(2:Int)<=2;decide⟩,fun _=>⟨rfl,hb.1,hb.2⟩,fun e=>absurd rfl e⟩,fun r hr=>by rw[azc.1 hr];exact h6,fun r hr=>by rw[azc.1 hr];exact(vf x).2 hl⟩⟩,Rb.cons (by show(1:Int)≠0;decide) (by simp)⟩
def aqc(ρ:Int->Int->Int):tvL ρ (tmA (dvT x b))=(tvL ρ (tmA x)).fdiv b:=by rw[kp];simp[dvT,dvP,pn,P3,B1,ofL]
def absM{k:Int}(hb:-b<=k/\k<=b):-(cq c*b)<=c*k/\c*k<=cq c*b:=by
 have h1:c*k<=cq c*b/\-(cq c*b)<=c*k:=by
  rcases ap c with⟨h,e⟩|⟨h,e⟩<;>rw[e];exact⟨Int.mul_le_mul_of_nonneg_left hb.2 h,by rw[<-Int.mul_neg];exact Int.mul_le_mul_of_nonneg_left hb.1 h⟩;have e1:c*k=-c* -k:=by simp[Int.neg_mul,Int.mul_neg]
  rw[e1];exact⟨Int.mul_le_mul_of_nonneg_left (by omega) (by omega),by rw[<-Int.mul_neg];exact Int.mul_le_mul_of_nonneg_left (by omega) (by omega)⟩
 exact⟨h1.2,h1.1⟩
def aja(hb:1<=b)(hm:0<=m)(h:-m<=n/\n<=m):-(m.tdiv b+1)<=n.fdiv b/\n.fdiv b<=m.tdiv b+1:=by rw[Int.fdiv_eq_ediv_of_nonneg _ (by omega),Int.tdiv_eq_ediv_of_nonneg hm];have h1:n/b<=m/b:=Int.ediv_le_ediv (by omega) h.2;have h2:(-m)/b<=n/b:=Int.ediv_le_ediv (by omega) h.1;have h3:-(m/b+1)<=(-m)/b:=(by rw[Int.le_ediv_iff_mul_le (by omega)];have:=Int.emod_add_mul_ediv m b;have h4:=Int.emod_lt_of_pos m (by omega:0<b);rw[Int.neg_mul,Int.add_mul,Int.mul_comm (m/b) b];omega);omega
def ay6(r:List AV):Prop:=0<=bdL r/\Bd r (bdL r)
def ae3(hp:FitPart p)(ih:∀r∈p.of_,ay6 r):0<=bdK p/\∀ρ,Xq ρ->-bdK p<=B1 ρ p/\B1 ρ p<=bdK p:=by unfold bdK B1;by_cases h:p.c_=2;obtain⟨r,hr⟩:=az4.1 (hp.kd.2.1 h).1;have hb:=(hp.kd.2.1 h).2;have h1:=ih r (by rw[hr];simp);simp only[azg h,hr,ale,ofL];refine⟨?_,fun ρ hρ=>aja hb.1 h1.1 (h1.2 ρ hρ)⟩;rw[Int.tdiv_eq_ediv_of_nonneg h1.1];have:=Int.ediv_nonneg h1.1 (by omega:0<=p.by_);omega;simp only[azf h];by_cases h1:p.c_=1;simp only[azg h1];exact⟨by decide,fun ρ hρ=>by rw[h1];exact⟨(hρ _).2.1,(hρ _).2.2.1⟩⟩;simp only[azf h1];exact⟨by decide,fun ρ hρ=>(hρ _).1 _⟩
theorem ae2:∀{l:List GPart},(∀p∈l,0<=bdK p/\∀ρ,Xq ρ->-bdK p<=B1 ρ p/\B1 ρ p<=bdK p)->0<=bdS l/\∀ρ,Xq ρ->-bdS l<=pn ρ l/\pn ρ l<=bdS l
 |[],_=>⟨Int.le_refl _,fun ρ _=>by simp[bdS,pn]⟩
 |p::l,h=>by have h1:=ae2 (l:=l) (fun x hx=>h x (by simp[hx]));have h2:=h p (by simp);have h3:0<=cq p.i_*bdK p:=Int.mul_nonneg (by have:=ap p.i_;omega) h2.1;simp only[bdS,pn];refine⟨by omega,fun ρ hρ=>?_⟩;have h4:=absM (c:=p.i_) (h2.2 ρ hρ);have h5:=h1.2 ρ hρ;simp only[P3];omega
def Ws(h:IsTm r):ay6 r:=
 IsTm.ind (M:=ay6) (fun x hx ih=>by have h1:=ae2 (fun p hp=>ae3 (hx.a_.2 p hp) (ih p hp));have h2:=ap x.f_;refine⟨by rw[ni];omega,fun ρ hρ=>?_⟩;have:=h1.2 ρ hρ;rw[kp,ni];omega) h
def Wt(hp:FitPart p):0<=bdK p:=(ae3 hp fun r hr=>Ws (hp.of_.2 r hr)).1
def Bd.mono(h:Bd r m)(hm:m<=n):Bd r n:=fun ρ hρ=>by have:=h ρ hρ;omega
def B60(x:GTm):Prop:=Bd (tmA x) 1152921504606846976
def uy(hx:FitTm x)(h:smR (tmA x)=true):B60 x:=(Ws (Cr hx)).2.mono ((fb x).1 h).2
def fw(h:smR (tmA x)=true):Fk x:=((fb x).1 h).1
def kw(op:Int)(a b:GTm):Option GTm:=
 if op=4 then dt (qq a b)
 else if op=5 then(dt (scT (-1) b)).bind fun c=>dt (qq a c)
 else if op=6 then(if a.a_≠[]/\b.a_≠[]then none else if b.a_≠[]then dt (scT a.f_ b)else dt (scT b.f_ a))
 else if b.a_≠[]\/b.f_<1\/b.f_>1000 then none
 else(ym a b.f_).bind fun q=>if op=7 then some q else(dt (scT (-b.f_) q)).bind fun m=>dt (qq a m)
def Av:List (List AV)->Option GTm
 |[[.v (.int _ op),.v _,.v _,.v (.int _ ix),.v (.int _ k),.v (.int _ i),.v (.string s),.tree _ []]]=>if op=1/\k=2 then some ⟨((s.size:Nat):Int),[]⟩else if op=2/\0<=ix then some (ue 1 ix)else none
 |_=>none
mutual
def ofT:List AV->Option GTm
 | [.v (.int _ op),.v _,.v _,.v (.int _ ix),.v (.int _ k),.v (.int _ i),.v (.string s),.tree _ es]=>
  if op=9 then(Av es).bind dt
  else(Jd es).bind fun l=>
   match l with
   | []=>if op=1/\k=1 then dt ⟨i,[]⟩else if op=2/\0<=ix then some (ue 0 ix)else none
   | [a]=>if op=3 then dt (scT (-1) a)else none
   | [a,b]=>if 4<=op/\op<=8 then kw op a b else none
   |_=>none
 |_=>none
def Jd:List (List AV)->Option (List GTm)
 | []=>some []
 |r :: rs=>(ofT r).bind fun t=>(Jd rs).map (t :: ·)
end
def jj(a b:Int):Int:=if a<b then -1 else if b<a then 1 else 0
section
variable{p q:GPart}{v:Int}
def M8(h:¬p.c_=q.c_)(hv:v=jj p.c_ q.c_):v=jo p q:=by rw[hv,Eu,jj];split;rfl;split;rfl;omega
def Vr(h1:p.c_=q.c_)(h:¬p.p_=q.p_)(hv:v=jj p.p_ q.p_):v=jo p q:=by rw[hv,Eu,jj,h1,azf (Int.lt_irrefl _),azf (Int.lt_irrefl _)];split;rfl;split;rfl;omega
def aeb(h1:p.c_=q.c_)(h2:p.p_=q.p_)(h:¬p.by_=q.by_)(hv:v=jj p.by_ q.by_):v=jo p q:=by rw[hv,Eu,jj,h1,h2,azf (Int.lt_irrefl _),azf (Int.lt_irrefl _),azf (Int.lt_irrefl _),azf (Int.lt_irrefl _)];split;rfl;split;rfl;omega
theorem J7(h1:p.c_=q.c_)(h2:p.p_=q.p_)(h3:p.by_=q.by_):jo p q=lx (Ph p.of_) (Ph q.of_):=by simp_all [Eu,Int.lt_irrefl]
theorem Vs(hp:PK p)(hq:PK q)(h1:p.c_=q.c_)(h2:p.p_=q.p_)(h3:p.by_=q.by_)(h:p.of_.length=0\/q.of_.length=0):p.of_=[]/\q.of_=[]:=by by_cases e:p.c_=2;have g1:=(hp.2.1 e).1;have g2:=(hq.2.1 (by omega)).1;omega;exact⟨hp.2.2 e,hq.2.2 (by omega)⟩
def Vt(hp:PK p)(hq:PK q)(h1:p.c_=q.c_)(h2:p.p_=q.p_)(h3:p.by_=q.by_)(h:p.of_.length=0\/q.of_.length=0)(hv:v=jj (p.of_.length:Nat) (q.of_.length:Nat)):v=jo p q:=by grind[Vs,J7,jj,Ph,lx]
theorem aea(h1:p.c_=q.c_)(h2:p.p_=q.p_)(h3:p.by_=q.by_)(hl:0<p.of_.length)(hm:0<q.of_.length)(hv:v=lx (cdT p.of_[0]) (cdT q.of_[0])):v=jo p q:=by
 rw[J7 h1 h2 h3,hv];match h0:p.of_,h4:q.of_,hl,hm with
 |r::_,s::_,_,_=>simp only[h0,h4,List.getElem_cons_zero,Ph]
end
section
variable{x y:GTm}{k:Nat}{v:Int}
def Vx(hx:FitTm x)(hy:FitTm y)(h:CmI x y k)(h1:k<x.a_.length)(h2:k<y.a_.length)(hn:¬jo x.a_[k] y.a_[k]=0):jo x.a_[k] y.a_[k]=lx (cdT (tmA x)) (cdT (tmA y)):=by rw[ajq hx hy h h1 h2,azf hn]
def V0(hx:FitTm x)(hy:FitTm y)(h:CmI x y k)(h1:k<x.a_.length)(h2:k<y.a_.length)(hn:jo x.a_[k] y.a_[k]=0)(hc:¬x.a_[k].i_=y.a_[k].i_)(hv:v=jj x.a_[k].i_ y.a_[k].i_):v=lx (cdT (tmA x)) (cdT (tmA y)):=by grind[ajq,jj]
def Vy(hx:FitTm x)(hy:FitTm y)(h:CmI x y k)(h1:k<x.a_.length)(h2:k<y.a_.length)(hn:jo x.a_[k] y.a_[k]=0)(hc:x.a_[k].i_=y.a_[k].i_):CmI x y (k+1):=by have:=ajq hx hy h h1 h2;rw[azg hn,hc,azf (Int.lt_irrefl _),azf (Int.lt_irrefl _)]at this;exact this
def Vz(hx:FitTm x)(hy:FitTm y)(h:CmI x y k)(h1:k<=x.a_.length)(h2:k<=y.a_.length)(h3:k=x.a_.length\/k=y.a_.length)(hc:¬x.a_.length=y.a_.length)(hv:v=jj (x.a_.length:Nat) (y.a_.length:Nat)):v=lx (cdT (tmA x)) (cdT (tmA y)):=by grind[aed,jj]
def Ew(hx:FitTm x)(hy:FitTm y)(h:CmI x y k)(h1:k<=x.a_.length)(h2:k<=y.a_.length)(h3:k=x.a_.length\/k=y.a_.length)(hc:x.a_.length=y.a_.length)(hv:v=jj x.f_ y.f_):v=lx (cdT (tmA x)) (cdT (tmA y)):=by rw[aed hx hy h h1 h2 h3,hv,jj,hc,azf (Nat.lt_irrefl _),azf (Nat.lt_irrefl _)]
end
structure KI where
 k:Nat
 L:List GPart
 put:Bool
def Kp(l:List GPart)(p:GPart)(s:KI):Prop:=s.L++(if s.put=true then l.drop s.k else j9 p (l.drop s.k))=j9 p l/\(∀q∈s.L,FitPart q)/\s.L.length<=s.k+(if s.put=true then 1 else 0)
section
variable{l:List GPart}{p:GPart}{s:KI}
def ins0:Kp l p ⟨0,[],false⟩:=⟨rfl,fun _ h=>absurd h (by simp),azm _⟩
def Mr(h:Kp l p s):s.L.length<=s.k+1:=by have:=h.2.2;split at this<;>omega
def T2(h:Kp l p s)(hk:s.k<l.length)(hf:FitPart l[s.k])(hc:s.put=true\/jo l[s.k] p<0):Kp l p ⟨s.k+1,s.L++[l[s.k]],s.put⟩:=by grind[Kp,azc,azb,List.length_singleton,az3,jo,j9]
def aio(h:Kp l p s)(hp:s.put=false)(hk:s.k<l.length)(hc:jo l[s.k] p=0)(hf:FitPart l[s.k])(hz:¬l[s.k].i_+p.i_=0):Kp l p ⟨s.k+1,s.L++[{l[s.k]with i_:=l[s.k].i_+p.i_}],true⟩:=by grind[Kp,azc,r7,az3,j9]
def aip(h:Kp l p s)(hp:s.put=false)(hk:s.k<l.length)(hc:jo l[s.k] p=0)(hz:l[s.k].i_+p.i_=0):Kp l p ⟨s.k+1,s.L,true⟩:=by refine⟨?_,h.2.1,by have:=h.2.2;rw[hp]at this;simp at this;simp;omega⟩;rw[<-h.1,az3 hk,hp];simp only[Bool.false_eq_true,if_false,if_true,j9,hc,hz]
def apo(h:Kp l p s)(hp:s.put=false)(hk:s.k<l.length)(hc:jo l[s.k] p>0)(hf:FitPart l[s.k])(h0:FitPart p):Kp l p ⟨s.k+1,s.L++[p]++[l[s.k]],true⟩:=by refine⟨by rw[<-h.1,az3 hk,hp];simp only[Bool.false_eq_true,if_false,if_true,j9];rw[azf (by omega),azf (by omega)];simp,fun q hq=>?_,by have:=h.2.2;rw[hp]at this;simp at this;simp;omega⟩;simp only[azd,azc]at hq;rcases hq with(hq|rfl)|rfl;exact h.2.1 q hq;exact h0;exact hf
def app(h:Kp l p s)(hk:¬s.k<l.length)(hp:s.put=true):s.L=j9 p l:=by rw[<-h.1,azg hp,List.drop_of_length_le (by omega),List.append_nil]
def aiq(h:Kp l p s)(hk:¬s.k<l.length)(hp:s.put=false):s.L++[p]=j9 p l:=by rw[<-h.1,hp,List.drop_of_length_le (by omega)];rfl
end
def Cf(M:Int)(l:List GPart):Prop:=∀q∈l,-M<=q.i_/\q.i_<=M
theorem T1{M N:Int}{p:GPart}(hN:0<=N)(hp:-N<=p.i_/\p.i_<=N)(hM:0<=M):∀{l:List GPart},Cf M l->Cf (M+N) (j9 p l)
 |[],h=>fun q hq=>by simp only[j9,azc]at hq;subst hq;omega
 |q::l,h=>by have hq:=h q (by simp);have hl:Cf M l:=fun r hr=>h r (by simp[hr]);intro r hr;simp only[j9]at hr;split at hr;split at hr;have:=hl r hr;omega;rcases azz.1 hr with rfl|hr;show -(M+N)<=q.i_+p.i_/\q.i_+p.i_<=M+N;omega;have:=hl r hr;omega;split at hr;rcases azz.1 hr with rfl|hr;omega;exact T1 hN hp hM hl r hr;rcases azz.1 hr with rfl|hr;omega;have:=h r hr;omega
theorem Jp{m:List GPart}(h:k<m.length):dx l (m.take (k+1))=j9 m[k] (dx l (m.take k)):=by unfold dx;rw[azj h,List.foldl_append];rfl
theorem Oz{m:List GPart}(h:¬k<m.length):dx l (m.take k)=dx l m:=by rw[az0 (by omega)]
structure KS where
 k:Nat
 s:Int
def big:Int:=1152921504606846976
def zj(r:List AV):Int:=if smR r=true then bdL r else big+1
def BdI(x:GTm)(s:KS):Prop:=(0<=s.s/\s.s<=big)/\s.s=cq x.f_+bdS (x.a_.take s.k)/\∀p∈x.a_.take s.k,-1048576<=p.i_/\p.i_<=1048576
theorem Ez(h:k<l.length):bdS (l.take (k+1))=bdS (l.take k)+cq l[k].i_*bdK l[k]:=by
 rw[azj h]
 have:∀a:List GPart,∀p,bdS (a++[p])=bdS a+cq p.i_*bdK p:=by
  intro a p
  induction a with
  |nil=>simp[bdS]
  |cons q a ih=>simp only[List.cons_append,bdS,ih];omega
 exact this _ _
theorem H0:∀{l:List GPart},(∀p∈l,FitPart p)->0<=bdS l
 |[],_=>by simp[bdS]
 |p::l,h=>by have h1:=H0 (l:=l) fun q hq=>h q (by simp[hq]);have h2:=Int.mul_nonneg (oq p.i_) (Wt (h p (by simp)));simp only[bdS];omega
theorem asi(h:∀p∈l,FitPart p):∀k,bdS (l.take k)<=bdS l:=fun k=>by
 have e:=List.take_append_drop k l
 have:∀a b:List GPart,bdS (a++b)=bdS a+bdS b:=by
  intro a b
  induction a with
  |nil=>simp[bdS]
  |cons q a ih=>simp only[List.cons_append,bdS,ih];omega
 have h2:=H0 (l:=l.drop k) fun p hp=>h p (List.mem_of_mem_drop hp)
 have h3:bdS l=bdS (l.take k)+bdS (l.drop k):=by rw[<-this,e]
 omega
section
variable{x:GTm}{s:KS}
def bd0(h:-1099511627776<=x.f_/\x.f_<=1099511627776):BdI x ⟨0,cq x.f_⟩:=by have:=ap x.f_;refine⟨⟨by show 0<=cq x.f_;omega,by show cq x.f_<=big;unfold big;omega⟩,by simp[bdS],by simp⟩
def abc(h:¬(-1099511627776<=x.f_/\x.f_<=1099511627776)):big+1=zj (tmA x):=by unfold zj;rw[azf fun h2=>h ((fb x).1 h2).1.1]
def ake(hk:s.k<x.a_.length)(h:¬(-1048576<=x.a_[s.k].i_/\x.a_[s.k].i_<=1048576)):big+1=zj (tmA x):=by unfold zj;rw[azf fun h2=>h (((fb x).1 h2).1.2 _ (ay7 hk))]
def Wr(hx:FitTm x)(hk:s.k<x.a_.length)(hi:BdI x s)(h:s.s+cq x.a_[s.k].i_*bdK x.a_[s.k]>big):big+1=zj (tmA x):=by unfold zj;rw[azf fun h2=>?_];have h3:=((fb x).1 h2).2;rw[ni]at h3;have h4:=asi hx.a_.2 (s.k+1);rw[Ez hk]at h4;have:=hi.2.1;unfold big at h;omega
def ae1(hc:¬c=0)(hb:0<=b)(h:b>big.tdiv (cq c)):cq c*b>big:=by have hp:0<cq c:=(by have:=ap c;omega);rw[Int.tdiv_eq_ediv_of_nonneg (by decide)]at h;have:=Int.lt_mul_of_ediv_lt hp (b:=b) h;rw[Int.mul_comm];exact this
def ae0(hb:0<=b)(h:c=0\/¬b>big.tdiv (cq c)):0<=cq c*b/\cq c*b<=big:=by refine⟨Int.mul_nonneg (oq c) hb,?_⟩;by_cases hc:c=0;subst hc;simp[cq,big];have hp:0<cq c:=(by have:=ap c;omega);have h:=h.resolve_left hc;rw[Int.tdiv_eq_ediv_of_nonneg (by decide)]at h;have:b*cq c<=big:=(Int.le_ediv_iff_mul_le hp).1 (by omega);rw[Int.mul_comm];exact this
def akd(hi:BdI x s)(hk:s.k<x.a_.length)(hc:-1048576<=x.a_[s.k].i_/\x.a_[s.k].i_<=1048576){v:Int}(hv:v=s.s+cq x.a_[s.k].i_*bdK x.a_[s.k])(h:0<=v/\¬v>big):BdI x ⟨s.k+1,v⟩:=by refine⟨⟨h.1,by show v<=big;omega⟩,by show v=_;rw[hv,hi.2.1,Ez hk,Int.add_assoc],fun p hp=>?_⟩;rw[azj hk]at hp;rcases azd.1 hp with hp|hp;exact hi.2.2 p hp;rw[azc.1 hp];exact hc
def ash(hi:BdI x s)(hk:¬s.k<x.a_.length)(hc:-1099511627776<=x.f_/\x.f_<=1099511627776):s.s=zj (tmA x):=by obtain⟨h1,h2,h3⟩:=hi;rw[az0 (by omega)]at h2 h3;unfold zj;rw[azg ((fb x).2 ⟨⟨hc,h3⟩,by rw[ni];unfold big at h1;omega⟩),ni,h2]
def Wh:zj (tmA x)<=big↔smR (tmA x)=true:=by unfold zj;constructor;intro h;by_cases e:smR (tmA x)=true;exact e;rw[azf e]at h;unfold big at h;omega;intro e;rw[azg e];exact((fb x).1 e).2
end
def xr(a b:Int):Int:=if -big<=a*b/\a*b<=big then a*b else big
theorem Ns(a b:Int):cq (a*b)=cq a*cq b:=by
 have e:∀n:Int,cq n=n.natAbs:=fun n=>by have:=ap n;omega
 rw[e,e,e,Int.natAbs_mul];rfl
theorem yw(h:a=0\/b=0):0=xr a b:=by grind[xr,big]
def al7(h:cq (a*b)<=big):a*b=xr a b:=by have:=ap (a*b);unfold xr;rw[azg (by omega)]
def af5(h:cq (a*b)>big):big=xr a b:=by have:=ap (a*b);unfold xr;rw[azf (by omega)]
def Is(ha:a≠0)(hb:b≠0)(h:cq a>big\/cq b>big\/cq a>big.tdiv (cq b)):big=xr a b:=by have h1:1<=cq a:=(by have:=ap a;omega);have h2:1<=cq b:=(by have:=ap b;omega);refine af5 ?_;rw[Ns];rcases h with h|h|h;have:=Int.mul_le_mul_of_nonneg_left h2 (by omega:0<=cq a);omega;have:=Int.mul_le_mul_of_nonneg_right h1 (by omega:0<=cq b);omega;have:=ae1 hb (by omega) h;rw[Int.mul_comm];exact this
def al6(hb:b≠0)(h:¬cq a>big.tdiv (cq b)):(-big<=a*b/\a*b<=big)/\a*b=xr a b:=by have h0:=oq a;have h1:=ae0 (c:=b) h0 (.inr h);have h2:cq (a*b)<=big:=(by rw[Ns,Int.mul_comm];exact h1.2);exact⟨by have:=ap (a*b);omega,al7 h2⟩
def ace(ha:a≠0)(hb:b≠0):xr a b≠0:=by grind[xr,Int.mul_eq_zero,big]
def scL(n:Int)(l:List GPart):List GPart:=if n=0 then[]else l.map fun p=>{p with i_:=xr p.i_ n}
def scW(n:Int)(x:GTm):GTm:=⟨xr x.f_ n,scL n x.a_⟩
structure ScI(x:GTm)(n:Int)(s:KL GPart):Prop where
 len:s.L.length<=s.k
 eq:s.L=scL n (x.a_.take s.k)
section
variable{x:GTm}{n v:Int}{s:KL GPart}
def sc0(x:GTm)(n:Int):ScI x n ⟨0,[]⟩:=⟨azm _,by simp[scL]⟩
def amy(h:ScI x n s)(hk:s.k<x.a_.length)(hv:v=xr x.a_[s.k].i_ n)(hz:¬v=0):ScI x n ⟨s.k+1,s.L++[{x.a_[s.k]with i_:=v}]⟩:=by have hn:¬n=0:=fun e=>hz (by rw[hv,<-yw (.inr e)]);refine⟨by have:=h.len;simp only[azb,List.length_singleton];omega,?_⟩;show s.L++[_]=scL n (x.a_.take (s.k+1));rw[h.eq,azj hk];unfold scL;rw[azf hn,azf hn,azx,hv];rfl
def amz(hx:FitTm x)(h:ScI x n s)(hk:s.k<x.a_.length)(hv:v=xr x.a_[s.k].i_ n)(hz:v=0):ScI x n ⟨s.k+1,s.L⟩:=by have hn:n=0:=Classical.byContradiction fun e=>ace (hx.srt.2 _ (ay7 hk)) e (hv.symm.trans hz);refine⟨by have:=h.len;show s.L.length<=s.k+1;omega,?_⟩;show s.L=scL n (x.a_.take (s.k+1));rw[h.eq];unfold scL;rw[azg hn,azg hn]
def ago(hx:FitTm x):FitTm (scW n x):=by unfold scW scL;split;exact m8;rename_i hn;exact⟨⟨by simpa using hx.a_.1,fun p hp=>by obtain⟨q,hq,rfl⟩:=azy.1 hp;exact r7 (hx.a_.2 q hq)⟩,List.pairwise_map.2 hx.srt.1,fun p hp=>by obtain⟨q,hq,rfl⟩:=azy.1 hp;exact ace (hx.srt.2 q hq) hn⟩
theorem am1(h:ScI x n s)(hge:¬s.k<x.a_.length)(hv:v=xr x.f_ n):(⟨v,s.L⟩:GTm)=scW n x:=by have:=h.eq;rw[az0 (by omega)]at this;rw[this,hv];rfl
def aq6{n:Int}(h:-1099511627776<=xr a n/\xr a n<=1099511627776):xr a n=a*n:=by grind[xr,big]
def axp{n:Int}(h:-1099511627776<=a*n/\a*n<=1099511627776):xr a n=a*n:=by unfold xr;rw[azg (by unfold big;omega)]
theorem apc(n:Int)(x:GTm):dt (scW n x)=dt (scT n x):=by by_cases hn:n=0;have e:scW n x=scT n x:=(by unfold scW scT scL;rw[azg hn,azg hn,<-yw (.inr hn)];rfl);rw[e];have key:∀f g:Int->Int->Int,((∀a,(-1099511627776<=f a n/\f a n<=1099511627776)->f a n=g a n))->smR (tmA ⟨f x.f_ n,x.a_.map fun p=>{p with i_:=f p.i_ n}⟩)=true->(⟨f x.f_ n,x.a_.map fun p=>{p with i_:=f p.i_ n}⟩:GTm)=⟨g x.f_ n,x.a_.map fun p=>{p with i_:=g p.i_ n}⟩:=(by intro f g h0 hs;obtain⟨h1,h2⟩:=((fb _).1 hs).1;have e1:=h0 x.f_ h1;have e2:(x.a_.map fun p=>{p with i_:=f p.i_ n})=x.a_.map fun p=>{p with i_:=g p.i_ n}:=(by refine List.map_congr_left fun p hp=>?_;have:=h2 {p with i_:=f p.i_ n} (azy.2 ⟨p,hp,rfl⟩);rw[h0 p.i_ (by simp only at this;omega)]);rw[e1,e2]);have ew:scW n x=⟨xr x.f_ n,x.a_.map fun p=>{p with i_:=xr p.i_ n}⟩:=(by unfold scW scL;rw[azf hn]);have et:scT n x=⟨x.f_*n,x.a_.map fun p=>{p with i_:=p.i_*n}⟩:=(by unfold scT;rw[azf hn]);unfold dt;by_cases h1:smR (tmA (scW n x))=true;have h2:=h1;rw[ew]at h2;have e:=key xr (fun a b=>a*b) (fun a h=>aq6 h) h2;have e':scW n x=scT n x:=(by rw[ew,et];exact e);rw[e']at h1 ⊢;by_cases h3:smR (tmA (scT n x))=true;have h2:=h3;rw[et]at h2;have e:=key (fun a b=>a*b) xr (fun a h=>(axp h).symm) h2;have e':scW n x=scT n x:=(by rw[ew,et];exact e.symm);rw[e']at h1;exact absurd h3 h1;rw[azf h1,azf h3]
end
def abq(x:GEx)(t:GTm):Prop:=x.op_=9/\∃a:GEx,x.b_=[exA a]/\a.b_=[]/\((a.op_=1/\a.k_.c_=2/\t=⟨((a.k_.l_.size:Nat):Int),[]⟩)\/(a.op_=2/\0<=a.j_/\t=ue 1 a.j_))
theorem apg{x:GEx}(h:abq x t):Av x.b_=some t:=by obtain⟨_,a,ha,h0,h⟩:=h;rw[ha];rcases h with⟨h1,h2,rfl⟩|⟨h1,h2,rfl⟩;simp only[exA,h0,List.map_nil,Av,h1,h2];simp;simp only[exA,h0,List.map_nil,Av,h1];simp[h2]
structure BinOk(op:Int)(a b t:GTm):Prop where
 b6:B60 t
 cf:Fk t
 len:t.a_.length<=2*max a.a_.length b.a_.length+1
 add:op=4->∀ρ,tvL ρ (tmA t)=tvL ρ (tmA a)+tvL ρ (tmA b)
 sub:op=5->∀ρ,tvL ρ (tmA t)=tvL ρ (tmA a)-tvL ρ (tmA b)
 mul:op=6->∀ρ,tvL ρ (tmA t)=tvL ρ (tmA a)*tvL ρ (tmA b)
 dv:op=7\/op=8->b.a_=[]/\1<=b.f_/\b.f_<=1000
 quo:op=7->∀ρ,tvL ρ (tmA t)=(tvL ρ (tmA a)).fdiv b.f_
 md:op=8->∀ρ,tvL ρ (tmA t)=tvL ρ (tmA a)-b.f_*(tvL ρ (tmA a)).fdiv b.f_
def BinOk.quo0{a b:GTm}(h:BinOk op a b t)(o:op=7)(ρ:Int->Int->Int)(hz:ρ 2 0=0):tvL ρ (tmA t)=(tvL ρ (tmA a)).fdiv b.f_:=h.quo o ρ
def BinOk.md0{a b:GTm}(h:BinOk op a b t)(o:op=8)(ρ:Int->Int->Int)(hz:ρ 2 0=0):tvL ρ (tmA t)=tvL ρ (tmA a)-b.f_*(tvL ρ (tmA a)).fdiv b.f_:=h.md o ρ
theorem ur{b:GTm}(h:¬((b.a_.length:Nat):Int)>0)(ρ:Int->Int->Int):tvL ρ (tmA b)=b.f_:=by rw[kp,az1 (by omega:b.a_.length=0)];simp[pn]
def xy{u:GTm}(h:dt t=some u):u=t/\smR (tmA u)=true:=by obtain⟨rfl,h2⟩:=j6 h;exact⟨rfl,h2⟩
section
variable{op:Int}{a b t:GTm}
def Bm(ha:FitTm a)(hb:FitTm b)(hl:a.a_.length+b.a_.length<=140737488355328)(h:dt (qq a b)=some t):FitTm t/\smR (tmA t)=true/\t.a_.length<=a.a_.length+b.a_.length/\∀ρ,tvL ρ (tmA t)=tvL ρ (tmA a)+tvL ρ (tmA b):=by obtain⟨rfl,h2⟩:=xy h;exact⟨Kk ha hb hl,h2,pc _ _,ako ha hb⟩
def il(ha:FitTm a)(h:dt (scT n a)=some t):FitTm t/\smR (tmA t)=true/\t.a_.length<=a.a_.length/\∀ρ,tvL ρ (tmA t)=n*tvL ρ (tmA a):=by obtain⟨rfl,h2⟩:=xy h;exact⟨acj ha,h2,F6 _ _,amw _ _⟩
def ai9{b:Int}(hc:-1099511627776<=c/\c<=1099511627776)(hb:1<=b):-1099511627776<=c.fdiv b/\c.fdiv b<=1099511627776:=by rw[Int.fdiv_eq_ediv_of_nonneg _ (by omega)];have h1:c/b<=1099511627776/b:=Int.ediv_le_ediv (by omega) hc.2;have h4:(1099511627776:Int)/b<=1099511627776:=Int.ediv_le_self b (by omega);have h3:-1099511627776<=c/b:=(by rw[Int.le_ediv_iff_mul_le (by omega)];have:(1099511627776:Int)*1<=1099511627776*b:=Int.mul_le_mul_of_nonneg_left hb (by omega);omega);omega
def U5{d:Int}(ha:FitTm a)(h0:a.a_.length<=1000000)(hs:smR (tmA a)=true)(hd:1<=d/\d<=1000)(h:ym a d=some t):FitTm t/\smR (tmA t)=true/\t.a_.length<=a.a_.length+1/\∀ρ,tvL ρ (tmA t)=(tvL ρ (tmA a)).fdiv d:=by
 unfold ym at h
 split at h
 ·rename_i e;cases h;subst e;exact⟨ha,hs,Nat.le_succ _,fun ρ=>by simp⟩
 ·split at h
  ·rename_i e;cases h
   refine⟨m8,?_,azk _,fun ρ=>?_⟩
   ·have hc:=ai9 (fw hs).1 hd.1
    refine(fb _).2 ⟨⟨hc,by simp⟩,?_⟩
    rw[ni];have:=ap (a.f_.fdiv d);simp only[bdS];omega
   ·rw[kp,kp,e];simp[pn]
  ·obtain⟨rfl,h2⟩:=xy h
   exact⟨U4 ha hd hs h0,h2,by show 1<=_+1;omega,fun ρ=>aqc ρ⟩
def aeu(h0:4<=op/\op<=8)(ha:FitTm a)(hb:FitTm b)(h7:smR (tmA a)=true)(hl:a.a_.length+b.a_.length<=1000000)(h:kw op a b=some t):FitTm t/\smR (tmA t)=true/\BinOk op a b t:=by have mk:∀{t:GTm},FitTm t->smR (tmA t)=true->B60 t/\Fk t:=fun ht hs=>⟨uy ht hs,fw hs⟩;unfold kw at h;split at h;rename_i o;obtain⟨h1,h2,h3,h4⟩:=Bm ha hb (by omega) h;exact⟨h1,h2,(mk h1 h2).1,(mk h1 h2).2,by omega,fun _=>h4,by omega,by omega,by omega,by omega,by omega⟩;split at h;rename_i o;obtain⟨c,hc,h⟩:=azt.1 h;obtain⟨g1,g2,g3,g4⟩:=il hb hc;obtain⟨h1,h2,h3,h4⟩:=Bm ha g1 (by omega) h;exact⟨h1,h2,(mk h1 h2).1,(mk h1 h2).2,by omega,by omega,fun _ ρ=>by rw[h4,g4];omega,by omega,by omega,by omega,by omega⟩;split at h;rename_i o;split at h;cases h;rename_i hp;split at h;rename_i h5;have h8:a.a_=[]:=Classical.byContradiction fun e=>hp ⟨e,h5⟩;obtain⟨h1,h2,h3,h4⟩:=il hb h;exact⟨h1,h2,(mk h1 h2).1,(mk h1 h2).2,by omega,by omega,by omega,fun _ ρ=>by rw[h4,ur (b:=a) (by rw[h8];simp)],by omega,by omega,by omega⟩;rename_i h5;have h5:b.a_=[]:=Classical.byContradiction h5;obtain⟨h1,h2,h3,h4⟩:=il ha h;exact⟨h1,h2,(mk h1 h2).1,(mk h1 h2).2,by omega,by omega,by omega,fun _ ρ=>by rw[h4,ur (b:=b) (by rw[h5];simp),Int.mul_comm],by omega,by omega,by omega⟩;split at h;cases h;rename_i hd;have h5:b.a_=[]:=Classical.byContradiction fun e=>hd (.inl e);have h6:1<=b.f_/\b.f_<=1000:=(by omega);obtain⟨q,hq,h⟩:=azt.1 h;obtain⟨g1,g2,g3,g4⟩:=U5 ha (by omega) h7 h6 hq;split at h;rename_i o;cases h;exact⟨g1,g2,(mk g1 g2).1,(mk g1 g2).2,by omega,by omega,by omega,by omega,fun _=>⟨h5,h6⟩,fun _=>g4,by omega⟩;rename_i o;obtain⟨m,hm,h⟩:=azt.1 h;obtain⟨f1,f2,f3,f4⟩:=il g1 hm;obtain⟨h1,h2,h3,h4⟩:=Bm ha f1 (by omega) h;exact⟨h1,h2,(mk h1 h2).1,(mk h1 h2).2,by omega,by omega,by omega,by omega,fun _=>⟨h5,h6⟩,by omega,fun _ ρ=>by rw[h4,f4,g4,Int.neg_mul];omega⟩
end
section
variable{op:Int}{a b t u q:GTm}{e:Int}
theorem asf(h:op=4):kw op a b=dt (qq a b):=by unfold kw;rw[azg h]
theorem ase(h:op=5)(h1:dt (scT (-1) b)=some q):kw op a b=dt (qq a q):=by unfold kw;rw[azf (by omega),azg h,h1];rfl
def akc(h:op=5)(h1:dt (scT (-1) b)=none):kw op a b=none:=by unfold kw;rw[azf (by omega),azg h,h1];rfl
def asd(h:op=6)(ha:a.a_.length=0):kw op a b=dt (scT a.f_ b):=by have ha:=az1 ha;unfold kw;rw[azf (by omega),azf (by omega),azg h,azf (fun h=>h.1 ha)];split;rfl;rename_i hb;have hb:b.a_=[]:=Classical.byContradiction hb;congr 1;obtain⟨c,ps⟩:=a;obtain⟨d,qs⟩:=b;simp only at ha hb;subst ha;subst hb;unfold scT zT;by_cases h1:d=0<;>by_cases h2:c=0<;>simp[h1,h2,Int.mul_comm]
def asb(h:op=6)(ha:¬a.a_.length=0)(hb:b.a_.length=0):kw op a b=dt (scT b.f_ a):=by have hb:=az1 hb;unfold kw;rw[azf (by omega),azf (by omega),azg h,azf (fun h=>h.2 hb),azf (fun h=>h hb)]
def aa9(h:op=6)(ha:¬a.a_.length=0)(hb:¬b.a_.length=0):kw op a b=none:=by unfold kw;rw[azf (by omega),azf (by omega),azg h,azg ⟨fun e=>ha (by rw[e];rfl),fun e=>hb (by rw[e];rfl)⟩]
def Pl(h:¬op=4)(h5:¬op=5)(h6:¬op=6)(hd:b.a_.length>0\/b.f_<1\/b.f_>1000):kw op a b=none:=by unfold kw;rw[azf h,azf h5,azf h6,azg (hd.imp (fun e h=>by rw[h]at e;exact absurd e (by simp)) id)]
theorem aba(h:¬op=4)(h5:¬op=5)(h6:¬op=6)(hd:¬b.a_.length>0)(h1:¬b.f_<1)(h2:¬b.f_>1000):kw op a b=(ym a b.f_).bind fun q=>if op=7 then some q else(dt (scT (-b.f_) q)).bind fun m=>dt (qq a m):=by have hb:b.a_=[]:=az1 (by omega);unfold kw;rw[azf h,azf h5,azf h6,azf (by simp[hb];omega)]
def Wp(h:¬op=4)(h5:¬op=5)(h6:¬op=6)(hd:¬b.a_.length>0)(h1:¬b.f_<1)(h2:¬b.f_>1000)(hq:ym a b.f_=none):kw op a b=none:=by rw[aba h h5 h6 hd h1 h2,hq];rfl
def asa(h7:op=7)(hd:¬b.a_.length>0)(h1:¬b.f_<1)(h2:¬b.f_>1000)(hq:ym a b.f_=some q):kw op a b=some q:=by rw[aba (by omega) (by omega) (by omega) hd h1 h2,hq,az6,azg h7]
def akb(h7:op=8)(hd:¬b.a_.length>0)(h1:¬b.f_<1)(h2:¬b.f_>1000)(hq:ym a b.f_=some q)(hm:dt (scT (-b.f_) q)=none):kw op a b=none:=by rw[aba (by omega) (by omega) (by omega) hd h1 h2,hq,az6,azf (by omega),hm];rfl
theorem ar9(h7:op=8)(hd:¬b.a_.length>0)(h1:¬b.f_<1)(h2:¬b.f_>1000)(hq:ym a b.f_=some q)(hm:dt (scT (-b.f_) q)=some t):kw op a b=dt (qq a t):=by rw[aba (by omega) (by omega) (by omega) hd h1 h2,hq,az6,azf (by omega),hm];rfl
def qa{o:Option GTm}(h:o=none):∀u,o=some u->e=0/\t=u:=fun u hu=>absurd (h.symm.trans hu) (by simp)
end
end Go.Proofs.YtfpfdfhlljjckaaGreatDoor
