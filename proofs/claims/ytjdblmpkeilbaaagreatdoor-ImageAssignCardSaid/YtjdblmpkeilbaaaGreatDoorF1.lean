/- Texts of the claim. -/
import Derived.IntWalk
import Derived.Test.YtjdblmpkeilbaaaGreatDoorInf
import Derived.Test.YtjdblmpkeilbaaaGreatDoorQ2
namespace Go.Proofs.YtjdblmpkeilbaaaGreatDoor
set_option linter.unusedVariables false
set_option linter.unusedSimpArgs false
open Go.RowKit
theorem mixed:Tryz.prog.follows .mixedOrders=true:=by kernel_rfl
end Go.Proofs.YtjdblmpkeilbaaaGreatDoor
namespace Go.Proofs.YtjdblmpkeilbaaaGreatDoor
set_option linter.unusedVariables false
set_option linter.unusedSimpArgs false
open Go.RowKit
structure PVar where
 (t lo hi mx:Int) (nl:Bool)
structure PCoef where
 (v n:Int)
structure PLin where
 (k:Int) (cs:List PCoef)
structure PAux where
 (of_:PLin) (by_ tx:Int)
structure PCon where
 (l:PLin) (eq:Bool)
structure PTest where
 (v kd:Int) (ng:Bool) (s:ByteArray)
structure PCl where
 (nul nn:List Int) (aux:List PAux) (ints:List PCon) (tests:List PTest) (same diff:List (Int×Int))
instance:Inhabited PVar:=⟨⟨0,0,0,0,false⟩⟩
instance:Inhabited PCoef:=⟨⟨0,0⟩⟩
instance:Inhabited PAux:=⟨⟨⟨0,[]⟩,0,0⟩⟩
instance:Inhabited PCon:=⟨⟨⟨0,[]⟩,false⟩⟩
instance:Inhabited PTest:=⟨⟨0,0,false,⟨#[]⟩⟩⟩
instance:Inhabited PCl:=⟨⟨[],[],[],[],[],[],[]⟩⟩
abbrev vA (x:PVar):List AV:=[.v (.int .i64 x.t),.v (.int .i64 x.lo),.v (.int .i64 x.hi),.v (.int .i64 x.mx),.v (.bool x.nl)]
def absI (n:Int):Int:=if n < 0 then -n else n
def prnP (s:ByteArray) (j:Nat):Bool:=!(decide (((bAt s j).toNat:Int) < 32)||decide (((bAt s j).toNat:Int) > 126))
end Go.Proofs.YtjdblmpkeilbaaaGreatDoor
namespace Go.Proofs.YtjdblmpkeilbaaaGreatDoor
set_option linter.unusedVariables false
set_option linter.unusedSimpArgs false
open Go.RowKit
end Go.Proofs.YtjdblmpkeilbaaaGreatDoor
namespace Go.Proofs.YtjdblmpkeilbaaaGreatDoor
set_option linter.unusedVariables false
set_option linter.unusedSimpArgs false
open Go.RowKit
section
variable {P:Program} {τ:Nat→AV} {η:Heap} {d:Option Tmp} {ty:TypeId} {pos:String} {af:Array Edge} {g:Option (Nat×Bool)}
theorem LOp.mulI {t t':Nat} {x y:Operand} {m n:Int} (hx:aev τ x=.v (.int .i64 m)) (hy:aev τ y=.v (.int .i64 n)) (h1:-9223372036854775808≤m * n) (h2:m * n≤9223372036854775807) :
  LOp P ⟨d,.binOp .mul t x y t',ty,pos,af,g⟩ τ η [] [] (.v (.int .i64 (m * n))) :=
 .look [] fun C a _ hxs _=>by
  have e1:=hxs x (by simp [Op.operands])
  have e2:=hxs y (by simp [Op.operands])
  rw [hx] at e1
  rw [hy] at e2
  refine ⟨.int .i64 (m * n),?_,VR.v C _⟩
  rw [← Go.IntWalk.i64_in (m * n) ⟨h1,h2⟩]
  simp only [execOp,e1.v_inv,e2.v_inv]
  rfl
end
end Go.Proofs.YtjdblmpkeilbaaaGreatDoor
namespace Go.Proofs.YtjdblmpkeilbaaaGreatDoor
set_option linter.unusedVariables false
set_option linter.unusedSimpArgs false
open Go.RowKit
theorem Src.slB {η:Heap} {id ver w z len:Nat} {cs news:List AV} (hb:η id=some ⟨w,cs,z,false⟩) (hv:w=ver) (hne:Nat.beq len 0=false) (hc:takeFrom 0 news.length cs=some news):Src η [id] (.sl id ver 0 len) len news:=Src.sl hb hv rfl hne hc
end Go.Proofs.YtjdblmpkeilbaaaGreatDoor
namespace Go.Proofs.YtjdblmpkeilbaaaGreatDoor
set_option linter.unusedVariables false
set_option linter.unusedSimpArgs false
open Go.RowKit
abbrev rwA (r:List AV):List AV:=r
abbrev sA (s:ByteArray):List AV:=[.v (.string s)]
structure KL (α:Type) where
 k:Nat
 L:List α
theorem row_i:RowF iA 1:=⟨fun _=>rfl,fun _=>rfl,fun _ _=>rfl,fun _ _=>rfl,fun _ _=>rfl,fun _=>rfl⟩
theorem row_s:RowF sA 1:=⟨fun _=>rfl,fun _=>rfl,fun _ _=>rfl,fun _ _=>rfl,fun _ _=>rfl,fun _=>rfl⟩
abbrev FitS (s:ByteArray):Prop:=s.size≤140737488351232
abbrev FitL {α:Type} (l:List α) (F:α→Prop):Prop:=l.length≤140737488355328∧∀ x∈l,F x
structure GVal where
 kind_:Int
 int_:Int
 text_:ByteArray
abbrev gvA (x:GVal):List AV:=[.v (.int .i64 x.kind_),.v (.int .i64 x.int_),.v (.string x.text_)]
structure FitVal (x:GVal):Prop where
 text_:FitS x.text_
instance:Inhabited GVal:=⟨⟨0,0,⟨#[]⟩⟩⟩
structure GEx where
 op_:Int
 table_:ByteArray
 name_:ByteArray
 index_:Int
 value_:GVal
 args_:List (List AV)
abbrev exA (x:GEx):List AV:=[.v (.int .i64 x.op_),.v (.string x.table_),.v (.string x.name_),.v (.int .i64 x.index_),.v (.int .i64 x.value_.kind_),.v (.int .i64 x.value_.int_),.v (.string x.value_.text_),.tree 8 (x.args_.map rwA)]
inductive IsEx:List AV→Prop
 | mk (x:GEx) (hn:FitL x.args_ (fun _=>True)) (h1:FitS x.table_) (h2:FitS x.name_) (h3:FitVal x.value_) (h:∀ r∈x.args_,IsEx r):IsEx (exA x)
structure FitEx (x:GEx):Prop where
 args_:FitL x.args_ (fun y=>IsEx y)
 table_:FitS x.table_
 name_:FitS x.name_
 value_:FitVal x.value_
theorem IsEx.ind {M:List AV→Prop} (H:∀ x,FitEx x→(∀ r∈x.args_,M r)→M (exA x)) {r:List AV} (h:IsEx r):M r:=by
 induction h with
 | mk x hn h1 h2 h3 h ih=>exact H x ⟨⟨hn.1,h⟩,h1,h2,h3⟩ ih
theorem exTake {r:List AV} (h:IsEx r):takeFrom 0 8 (rwA r)=some r:=by
 cases h with
 | mk x hn h1 h2 h3 h=>rfl
theorem exPure {r:List AV} (h:IsEx r):pureL r=true:=by
 cases h with
 | mk x hn h1 h2 h3 h=>rfl
theorem isEx {x:GEx} (h:FitEx x):IsEx (exA x):=.mk x ⟨h.args_.1,fun _ _=>trivial⟩ h.table_ h.name_ h.value_ h.args_.2
theorem IsEx.open_ {r:List AV} (h:IsEx r):∃ x,r=exA x∧FitEx x:=by
 cases h with
 | mk x hn h1 h2 h3 h=>exact ⟨x,rfl,⟨⟨hn.1,h⟩,h1,h2,h3⟩⟩
structure GCol where
 name_:ByteArray
 type_:Int
 low_:Int
 high_:Int
 max_:Int
 notNull_:Bool
abbrev colA (x:GCol):List AV:=[.v (.string x.name_),.v (.int .i64 x.type_),.v (.int .i64 x.low_),.v (.int .i64 x.high_),.v (.int .i64 x.max_),.v (.bool x.notNull_)]
structure FitCol (x:GCol):Prop where
 name_:FitS x.name_
instance:Inhabited GCol:=⟨⟨⟨#[]⟩,0,0,0,0,false⟩⟩
structure GFor where
 columns_:List Int
 table_:Int
 key_:Int
abbrev forA (x:GFor):List AV:=[.tree 1 (x.columns_.map iA),.v (.int .i64 x.table_),.v (.int .i64 x.key_)]
structure FitFor (x:GFor):Prop where
 columns_:FitL x.columns_ (fun y=>True)
instance:Inhabited GFor:=⟨⟨[],0,0⟩⟩
structure GTab where
 name_:ByteArray
 columns_:List GCol
 keys_:List (List Int)
 foreign_:List GFor
 checks_:List (List AV)
abbrev tabA (x:GTab):List AV:=[.v (.string x.name_),.tree 6 (x.columns_.map colA),.tree 1 (x.keys_.map (fun l=>[.tree 1 (l.map iA)])),.tree 3 (x.foreign_.map forA),.tree 8 (x.checks_.map rwA)]
structure FitTab (x:GTab):Prop where
 name_:FitS x.name_
 columns_:FitL x.columns_ (fun y=>FitCol y)
 keys_:FitL x.keys_ (fun y=>FitL y (fun y=>True))
 foreign_:FitL x.foreign_ (fun y=>FitFor y)
 checks_:FitL x.checks_ (fun y=>IsEx y)
instance:Inhabited GTab:=⟨⟨⟨#[]⟩,[],[],[],[]⟩⟩
structure GRef where
 columns_:List ByteArray
 table_:ByteArray
 target_:List ByteArray
abbrev refA (x:GRef):List AV:=[.tree 1 (x.columns_.map sA),.v (.string x.table_),.tree 1 (x.target_.map sA)]
structure FitRef (x:GRef):Prop where
 columns_:FitL x.columns_ (fun y=>FitS y)
 table_:FitS x.table_
 target_:FitL x.target_ (fun y=>FitS y)
instance:Inhabited GRef:=⟨⟨[],⟨#[]⟩,[]⟩⟩
structure GDef where
 columns_:List GCol
 keys_:List (List ByteArray)
 foreign_:List GRef
 checks_:List (List AV)
abbrev defA (x:GDef):List AV:=[.tree 6 (x.columns_.map colA),.tree 1 (x.keys_.map (fun l=>[.tree 1 (l.map sA)])),.tree 3 (x.foreign_.map refA),.tree 8 (x.checks_.map rwA)]
structure FitDef (x:GDef):Prop where
 columns_:FitL x.columns_ (fun y=>FitCol y)
 keys_:FitL x.keys_ (fun y=>FitL y (fun y=>FitS y))
 foreign_:FitL x.foreign_ (fun y=>FitRef y)
 checks_:FitL x.checks_ (fun y=>IsEx y)
instance:Inhabited GDef:=⟨⟨[],[],[],[]⟩⟩
structure GSta where
 kind_:Int
 table_:ByteArray
 create_:GDef
abbrev staA (x:GSta):List AV:=[.v (.int .i64 x.kind_),.v (.string x.table_),.tree 6 (x.create_.columns_.map colA),.tree 1 (x.create_.keys_.map (fun l=>[.tree 1 (l.map sA)])),.tree 3 (x.create_.foreign_.map refA),.tree 8 (x.create_.checks_.map rwA),.v (.slice none 0 0),.v (.slice none 0 0),.v (.slice none 0 0),.v (.slice none 0 0),.v (.int .i64 0),.v (.string ⟨#[]⟩),.v (.string ⟨#[]⟩),.v (.int .i64 0),.v (.int .i64 0),.v (.int .i64 0),.v (.string ⟨#[]⟩),.v (.slice none 0 0),.v (.slice none 0 0),.v (.slice none 0 0),.v (.int .i64 0),.v (.string ⟨#[]⟩)]
structure FitSta (x:GSta):Prop where
 table_:FitS x.table_
 create_:FitDef x.create_
instance:Inhabited GSta:=⟨⟨0,⟨#[]⟩,default⟩⟩
structure GTbu where
 name_:ByteArray
 columns_:List GCol
abbrev tbuA (x:GTbu):List AV:=[.v (.string x.name_),.tree 6 (x.columns_.map colA),.unk,.unk,.unk]
structure FitTbu (x:GTbu):Prop where
 name_:FitS x.name_
 columns_:FitL x.columns_ (fun y=>FitCol y)
instance:Inhabited GTbu:=⟨⟨⟨#[]⟩,[]⟩⟩
structure GDfn where
 columns_:List GCol
 checks_:List (List AV)
abbrev dfnA (x:GDfn):List AV:=[.tree 6 (x.columns_.map colA),.v (.slice none 0 0),.v (.slice none 0 0),.tree 8 (x.checks_.map rwA)]
structure FitDfn (x:GDfn):Prop where
 columns_:FitL x.columns_ (fun y=>FitCol y)
 checks_:FitL x.checks_ (fun y=>IsEx y)
instance:Inhabited GDfn:=⟨⟨[],[]⟩⟩
structure GStn where
 table_:ByteArray
 create_:GDfn
abbrev stnA (x:GStn):List AV:=[.v (.int .i64 0),.v (.string x.table_),.tree 6 (x.create_.columns_.map colA),.v (.slice none 0 0),.v (.slice none 0 0),.tree 8 (x.create_.checks_.map rwA),.v (.slice none 0 0),.v (.slice none 0 0),.v (.slice none 0 0),.v (.slice none 0 0),.v (.int .i64 0),.v (.string ⟨#[]⟩),.v (.string ⟨#[]⟩),.v (.int .i64 0),.v (.int .i64 0),.v (.int .i64 0),.v (.string ⟨#[]⟩),.v (.slice none 0 0),.v (.slice none 0 0),.v (.slice none 0 0),.v (.int .i64 0),.v (.string ⟨#[]⟩)]
structure FitStn (x:GStn):Prop where
 table_:FitS x.table_
 create_:FitDfn x.create_
instance:Inhabited GStn:=⟨⟨⟨#[]⟩,default⟩⟩
structure KB where
 k:Nat
 b:Bool
theorem openAt {x:GEx} (hx:FitEx x) (j:Nat) (hj:j < x.args_.length):∃ a,x.args_[j]=exA a∧FitEx a:=(hx.args_.2 _ (List.getElem_mem hj)).open_
end Go.Proofs.YtjdblmpkeilbaaaGreatDoor
namespace Go.Proofs.YtjdblmpkeilbaaaGreatDoor
set_option linter.unusedVariables false
set_option linter.unusedSimpArgs false
open Go.RowKit
set_option maxRecDepth 100000 in
set_option maxHeartbeats 4000000 in
theorem few_n (n:Int):PRet Tryz.prog 49 [.v (.int .i64 n),.v (.slice none 0 0)] (fun r=>∃ b:Bool,r=.v (.bool b)∧(b=true→n≤20)):=by
 refine PRet.of_vc infOk [] [] Tryz.func49 rfl Tryz.ntmps49 rfl (by kernel_rfl) (LpG.exit ?_)
 refine cF (cD (fun hq20=>?_) (fun hq20=>?_))
 ·refine rV Tryz.results49 rfl ?_
  (refine ⟨_,rfl,fun hr=>?_⟩; simp_all; try omega; done)
 exact rV Tryz.results49 rfl bF
set_option maxRecDepth 100000 in
set_option maxHeartbeats 4000000 in
theorem inside_p (t:GTab) (ht:FitTab t) (l:List Int) (hl:FitL l (fun y=>True)):PRet Tryz.prog 50 [.agg (tabA t),.tree 1 (l.map iA)] (fun r=>∃ b:Bool,r=.v (.bool b)∧(b=true→∀ x∈l,0≤x∧x < t.columns_.length)):=by
 refine PRet.of_vc infOk [] [] Tryz.func50 rfl Tryz.ntmps50 rfl (by kernel_rfl) (LpG.on (fun k0:Nat=>(⟨fL [(1,.tree 1 (l.map iA)),(2,.ptr 0 0 0),(5,.v (.int .i64 ((k0:Nat):Int)))],hLz [(0,⟨0,tabA t,0,false⟩)],1⟩:St)) (fun k0=>(l.length - k0)) (fun k0=>(k0≤l.length∧∀ j (hl:j < l.length),j < k0→0≤l[j]∧l[j] < t.columns_.length)) 0 (cO (.cons rfl rfl (.cons rfl rfl (.cons rfl rfl .nil))) (.cons rfl rfl rfl .nil)) ⟨Nat.zero_le _,fun j _ h=>absurd h (Nat.not_lt_zero j)⟩ ?_)
 rintro k0 hinv
 have hgr_k0:l.length≤140737488355328:=hl.1
 obtain ⟨hle_k0,hj_k0⟩:=hinv
 refine LenG.of (cL (fun hlt9=>?_) (fun hge9=>?_))
 ·refine IdxG.of (by assumption) (cD (fun hq17=>?_) (fun hq17=>?_))
  ·refine ⟨by kernel_rfl,cT ?_⟩
   exact rV Tryz.results50 rfl bF
  refine IdxG.of (by assumption) (LenG.of ?_)
  refine ⟨by kernel_rfl,cD (fun hq26=>?_) (fun hq26=>?_)⟩
  ·exact rV Tryz.results50 rfl bF
  refine ⟨by omega,⟨(k0+1),by omega,(cO (.cons rfl rfl (.cons rfl rfl (.cons rfl rfl .nil))) (.cons rfl rfl rfl .nil)),?_⟩⟩
  refine ⟨by omega,fun j hl h=>?_⟩
  rcases Nat.lt_succ_iff_lt_or_eq.1 h with h | rfl
  ·exact hj_k0 j hl h
  exact ⟨by simp_all,by simp_all⟩
 exact rV Tryz.results50 rfl ⟨_,rfl,fun _ x hx=>by obtain ⟨j,hj,rfl⟩:=List.getElem_of_mem hx; exact hj_k0 j hj (by omega)⟩
set_option maxRecDepth 100000 in
set_option maxHeartbeats 4000000 in
theorem contains_p (s:ByteArray) (hs:FitS s) (t:ByteArray) (ht:FitS t):PRet Tryz.prog 161 [.v (.string s),.v (.string t)] (fun r=>∃ b:Bool,r=.v (.bool b)):=by
 refine PRet.of_vc infOk [] [] Tryz.func161 rfl Tryz.ntmps161 rfl (by kernel_rfl) (LpG.on (fun k0:Nat=>(⟨fL [(0,.v (.string s)),(1,.v (.string t)),(5,.v (.int .i64 ((k0:Nat):Int)))],hLz [],0⟩:St)) (fun k0=>((s.size+1) - k0)) (fun k0=>(k0≤(s.size+1))) 0 (cO (.cons rfl rfl (.cons rfl rfl (.cons rfl rfl .nil))) .nil) (Nat.zero_le _) ?_)
 rintro k0 hinv
 have hle_k0:=hinv
 refine ⟨by omega,cB (fun hc12=>?_) (fun hc12=>?_)⟩
 ·have hlt12:k0 < s.size+1:=by have:=of_decide_eq_true hc12; omega
  have hq12:((k0:Nat):Int)+((t.size:Nat):Int)≤s.size:=of_decide_eq_true hc12
  refine ⟨by omega,OpG.lk (LOp.sliceStr Tryz.underlying9 rfl rfl rfl (by omega) (by omega) (by omega)) ?_⟩
  refine cB (fun hc23=>?_) (fun hc23=>?_)
  ·exact rV Tryz.results161 rfl ⟨_,rfl⟩
  refine ⟨by omega,⟨(k0+1),by omega,(cO (.cons rfl rfl (.cons rfl rfl (.cons rfl rfl .nil))) .nil),?_⟩⟩
  omega
 exact rV Tryz.results161 rfl ⟨_,rfl⟩
set_option maxRecDepth 100000 in
set_option maxHeartbeats 4000000 in
theorem keys_p :PRet Tryz.prog 162 [] (fun r=>∃ s:ByteArray,r=.v (.string s)∧s.size≤1000):=by
 exact PRet.of_vc infOk [] [] Tryz.func162 rfl Tryz.ntmps162 rfl (by kernel_rfl) (rV Tryz.results162 rfl ⟨_,rfl,by decide⟩)
set_option maxRecDepth 100000 in
set_option maxHeartbeats 4000000 in
theorem name_p (s:ByteArray) (hs:FitS s):PRet Tryz.prog 126 [.v (.string s)] (fun r=>∃ b:Bool,r=.v (.bool b)):=by
 refine PRet.of_vc infOk [] [] Tryz.func126 rfl Tryz.ntmps126 rfl (by kernel_rfl) ?_
 refine cB (fun hg7=>?_) (fun hg7=>?_)
 ·have hlt7:s.size < 1:=Int.ofNat_lt.1 (of_decide_eq_true hg7)
  refine cT (cT ?_)
  exact cT (rV Tryz.results126 rfl ⟨_,rfl⟩)
 have hge7:¬ s.size < 1:=fun h=>of_decide_eq_false hg7 (Int.ofNat_lt.2 h)
 refine cB (fun hg12=>?_) (fun hg12=>?_)
 ·have hq12:((s.size:Nat):Int) > (24:Int):=of_decide_eq_true hg12
  refine cT (cT ?_)
  exact rV Tryz.results126 rfl ⟨_,rfl⟩
 have hq12:¬ (((s.size:Nat):Int) > (24:Int)):=of_decide_eq_false hg12
 refine ⟨(by exact Nat.lt_of_lt_of_le Nat.zero_lt_one (by omega)),?_⟩
 refine cB (fun hg17=>?_) (fun hg17=>?_)
 ·exact cT (rV Tryz.results126 rfl ⟨_,rfl⟩)
 refine ⟨(by exact Nat.lt_of_lt_of_le Nat.zero_lt_one (by omega)),?_⟩
 refine cB (fun hc21=>?_) (fun hc21=>?_)
 ·exact rV Tryz.results126 rfl ⟨_,rfl⟩
 refine LpG.on (fun k0:Nat=>(⟨fL [(0,.v (.string s)),(3,.v (.int .i64 ((k0:Nat):Int)))],hLz [],0⟩:St)) (fun k0=>(s.size - k0)) (fun k0=>(k0≤s.size)) 0 (cO (.cons rfl rfl (.cons rfl rfl .nil)) .nil) (Nat.zero_le _) ?_
 rintro k0 hinv
 have hgr_k0:s.size≤140737488355328:=Nat.le_trans hs (by decide)
 have hle_k0:=hinv
 refine cB (fun hc25=>?_) (fun hc25=>?_)
 ·have hlt25:k0 < s.size:=Int.ofNat_lt.1 (of_decide_eq_true hc25)
  refine ⟨(by assumption),?_⟩
  refine cB (fun hg32=>?_) (fun hg32=>?_)
  ·refine ⟨(by assumption),?_⟩
   refine cB (fun hg38=>?_) (fun hg38=>?_)
   ·refine cT (cF ?_)
    refine ⟨by omega,?_⟩
    refine ⟨(k0+1),by omega,(cO (.cons rfl rfl (.cons rfl rfl .nil)) .nil),?_⟩
    omega
   refine ⟨(by assumption),?_⟩
   refine cB (fun hg43=>?_) (fun hg43=>?_)
   ·refine ⟨(by assumption),?_⟩
    refine cB (fun hg50=>?_) (fun hg50=>?_)
    ·refine cF ⟨by omega,⟨(k0+1),by omega,(cO (.cons rfl rfl (.cons rfl rfl .nil)) .nil),?_⟩⟩
     omega
    refine ⟨(by assumption),?_⟩
    refine cB (fun hc56=>?_) (fun hc56=>?_)
    ·exact rV Tryz.results126 rfl ⟨_,rfl⟩
    refine ⟨by omega,?_⟩
    refine ⟨(k0+1),by omega,(cO (.cons rfl rfl (.cons rfl rfl .nil)) .nil),?_⟩
    omega
   refine cF ⟨(by assumption),cB (fun hc56=>?_) (fun hc56=>?_)⟩
   ·exact rV Tryz.results126 rfl ⟨_,rfl⟩
   refine ⟨by omega,?_⟩
   refine ⟨(k0+1),by omega,(cO (.cons rfl rfl (.cons rfl rfl .nil)) .nil),?_⟩
   omega
  refine cF ⟨(by assumption),cB (fun hg43=>?_) (fun hg43=>?_)⟩
  ·refine ⟨(by assumption),?_⟩
   refine cB (fun hg50=>?_) (fun hg50=>?_)
   ·refine cF ⟨by omega,⟨(k0+1),by omega,(cO (.cons rfl rfl (.cons rfl rfl .nil)) .nil),?_⟩⟩
    omega
   refine ⟨(by assumption),?_⟩
   refine cB (fun hc56=>?_) (fun hc56=>?_)
   ·exact rV Tryz.results126 rfl ⟨_,rfl⟩
   refine ⟨by omega,?_⟩
   refine ⟨(k0+1),by omega,(cO (.cons rfl rfl (.cons rfl rfl .nil)) .nil),?_⟩
   omega
  refine cF ⟨(by assumption),cB (fun hc56=>?_) (fun hc56=>?_)⟩
  ·exact rV Tryz.results126 rfl ⟨_,rfl⟩
  refine ⟨by omega,?_⟩
  refine ⟨(k0+1),by omega,(cO (.cons rfl rfl (.cons rfl rfl .nil)) .nil),?_⟩
  omega
 have hge25:¬ k0 < s.size:=fun h=>of_decide_eq_false hc25 (Int.ofNat_lt.2 h)
 refine ArgG.mk (keys_p) rfl ?_
 rintro _ ⟨s0,rfl,hs0⟩
 refine ⟨(by simp only [ByteArray.size_append,one32]; omega),?_⟩
 refine ⟨(by simp only [ByteArray.size_append,one32]; omega),?_⟩
 refine ArgG.mk (contains_p s0 (by show _≤_; omega) ((((⟨#[32]⟩:ByteArray)++s)++(⟨#[32]⟩:ByteArray))) (by show _≤_; simp only [ByteArray.size_append,one32]; omega)) rfl ?_
 rintro _ ⟨b1,rfl⟩
 exact rV Tryz.results126 rfl ⟨_,rfl⟩
set_option maxRecDepth 100000 in
set_option maxHeartbeats 4000000 in
theorem column_p (c:GCol) (hc:FitCol c):PRet Tryz.prog 127 [.agg (colA c)] (fun r=>∃ b:Bool,r=.v (.bool b)∧(b=true→(c.type_=1∧-2147483648≤c.low_∧c.low_≤c.high_∧c.high_≤2147483647∧c.max_=0)∨(c.type_=2∧1≤c.max_∧c.max_≤16∧c.low_=0∧c.high_=0))):=by
 refine PRet.of_vc infOk [] [] Tryz.func127 rfl Tryz.ntmps127 rfl (by kernel_rfl) ?_
 refine ArgG.mk (name_p c.name_ hc.name_) rfl ?_
 rintro _ ⟨b0,rfl⟩
 refine cB (fun hc6=>?_) (fun hc6=>?_)
 ·exact rV Tryz.results127 rfl bF
 refine cB (fun hc9=>?_) (fun hc9=>?_)
 ·have hq9:(c.type_:Int)=(1:Int):=by simpa using hc9
  refine cB (fun hg13=>?_) (fun hg13=>?_)
  ·have hq13:(c.low_:Int)≥((-2147483648):Int):=of_decide_eq_true hg13
   refine cB (fun hg20=>?_) (fun hg20=>?_)
   ·have hq20:(c.low_:Int)≤(c.high_:Int):=of_decide_eq_true hg20
    refine cB (fun hg25=>?_) (fun hg25=>?_)
    ·have hq25:(c.high_:Int)≤(2147483647:Int):=of_decide_eq_true hg25
     refine rV Tryz.results127 rfl ?_
     (refine ⟨_,rfl,fun hr=>?_⟩; simp_all; try omega; done)
    have hq25:¬ ((c.high_:Int)≤(2147483647:Int)):=of_decide_eq_false hg25
    exact rV Tryz.results127 rfl bF
   have hq20:¬ ((c.low_:Int)≤(c.high_:Int)):=of_decide_eq_false hg20
   exact cF (rV Tryz.results127 rfl bF)
  have hq13:¬ ((c.low_:Int)≥((-2147483648):Int)):=of_decide_eq_false hg13
  refine cF (cF ?_)
  exact rV Tryz.results127 rfl bF
 have hq9:¬ ((c.type_:Int)=(1:Int)):=by simpa using hc9
 refine cB (fun hg33=>?_) (fun hg33=>?_)
 ·have hq33:(c.type_:Int)=(2:Int):=by simpa using hg33
  refine cB (fun hg38=>?_) (fun hg38=>?_)
  ·have hq38:(c.max_:Int)≥(1:Int):=of_decide_eq_true hg38
   refine cB (fun hg43=>?_) (fun hg43=>?_)
   ·have hq43:(c.max_:Int)≤(16:Int):=of_decide_eq_true hg43
    refine cB (fun hg48=>?_) (fun hg48=>?_)
    ·have hq48:(c.low_:Int)=(0:Int):=by simpa using hg48
     refine rV Tryz.results127 rfl ?_
     (refine ⟨_,rfl,fun hr=>?_⟩; simp_all; try omega; done)
    have hq48:¬ ((c.low_:Int)=(0:Int)):=by simpa using hg48
    exact rV Tryz.results127 rfl bF
   have hq43:¬ ((c.max_:Int)≤(16:Int)):=of_decide_eq_false hg43
   exact cF (rV Tryz.results127 rfl bF)
  have hq38:¬ ((c.max_:Int)≥(1:Int)):=of_decide_eq_false hg38
  refine cF (cF ?_)
  exact rV Tryz.results127 rfl bF
 have hq33:¬ ((c.type_:Int)=(2:Int)):=by simpa using hg33
 refine cF (cF ?_)
 exact cF (rV Tryz.results127 rfl bF)
end Go.Proofs.YtjdblmpkeilbaaaGreatDoor
namespace Go.Proofs.YtjdblmpkeilbaaaGreatDoor
set_option linter.unusedVariables false
set_option linter.unusedSimpArgs false
open Go.RowKit
theorem toList_inj {a b:ByteArray} (h:a.toList=b.toList):a=b:=by
 rw [Go.ByteArray.toList_eq,Go.ByteArray.toList_eq] at h
 exact ByteArray.ext (Array.toList_inj.1 h)
theorem nam_next {T:List GCol} {l:List Int} {s:KL ByteArray} (h:s.L.length=s.k∧∀ j,j < s.k→∃ p:Nat,∃ hp:p < T.length,l[j]? = some ((p:Nat):Int)∧s.L[j]? = some T[p].name_) {p:Nat} (hp:p < T.length) (hl:l[s.k]? = some ((p:Nat):Int)) :
  (s.L++[T[p].name_]).length=s.k+1∧∀ j,j < s.k+1→∃ p':Nat,∃ hp:p' < T.length,l[j]? = some ((p':Nat):Int)∧(s.L++[T[p].name_])[j]? = some T[p'].name_:=by
 refine ⟨by simp [h.1],fun j hj=>?_⟩
 rcases Nat.lt_succ_iff_lt_or_eq.1 hj with hj | rfl
 ·obtain ⟨p',hp',e1,e2⟩:=h.2 j hj
  exact ⟨p',hp',e1,by rw [List.getElem?_append_left (by omega)]; exact e2⟩
 exact ⟨p,hp,hl,by rw [← h.1]; simp⟩
theorem num_next {T:List GCol} {l:List ByteArray} {s:KL Int} (h:s.L.length=s.k∧∀ j,j < s.k→∃ p:Nat,∃ hp:p < T.length,s.L[j]? = some ((p:Nat):Int)∧l[j]? = some T[p].name_) {p:Nat} (hp:p < T.length) (hl:l[s.k]? = some T[p].name_) :
  (s.L++[((p:Nat):Int)]).length=s.k+1∧∀ j,j < s.k+1→∃ p':Nat,∃ hp:p' < T.length,(s.L++[((p:Nat):Int)])[j]? = some ((p':Nat):Int)∧l[j]? = some T[p'].name_:=by
 refine ⟨by simp [h.1],fun j hj=>?_⟩
 rcases Nat.lt_succ_iff_lt_or_eq.1 hj with hj | rfl
 ·obtain ⟨p',hp',e1,e2⟩:=h.2 j hj
  exact ⟨p',hp',by rw [List.getElem?_append_left (by omega)]; exact e1,e2⟩
 exact ⟨p,hp,by rw [← h.1]; simp,hl⟩
/-- The columns a[j] and b[j] have the same type. -/
def TypAt (T U:List GCol) (a b:List Int) (j:Nat):Prop:=∃ p q:Nat,∃ (hp:p < T.length) (hq:q < U.length),a[j]? = some ((p:Nat):Int)∧b[j]? = some ((q:Nat):Int)∧T[p].type_=U[q].type_
def TypS (T U:List GCol) (a b:List Int):Prop:=∀ j,j < a.length→TypAt T U a b j
/-- L holds the names of the columns l. -/
def NamS (T:List GCol) (l:List Int) (L:List ByteArray):Prop:=∀ j,j < l.length→∃ p:Nat,∃ hp:p < T.length,l[j]? = some ((p:Nat):Int)∧L[j]? = some T[p].name_
/-- What a search for a name gives. -/
def FindS {α:Type} (l:List α) (f:α→ByteArray) (nm:ByteArray) (j:Nat) (b:Bool):Prop:=(∀ h:j < l.length,b=true→f l[j]=nm)∧(b=false→∀ x∈l,f x≠nm)
theorem FindS.yes {α:Type} {l:List α} {f:α→ByteArray} {nm:ByteArray} {k:Nat} (h:k < l.length) (hc:((f l[k]).toList==nm.toList)=true):FindS l f nm k true:=⟨fun _ _=>toList_inj (beq_iff_eq.1 hc),fun h=>absurd h.symm Bool.false_ne_true⟩
theorem FindS.no {α:Type} {l:List α} {f:α→ByteArray} {nm:ByteArray} {j k:Nat} (h:∀ j (hl:j < l.length),j < k→f l[j]≠nm) (hk:¬ k < l.length):FindS l f nm j false:=⟨fun _ h=>absurd h Bool.false_ne_true,fun _ x hx=>by obtain ⟨i,hi,rfl⟩:=List.getElem_of_mem hx; exact h i hi (by omega)⟩
theorem txNe {a b:ByteArray} (h:(a.toList==b.toList)=false):a≠b:=fun e=>by rw [e] at h; simp at h
/-- The names of a list differ. -/
def Dist {α β:Type} (f:α→β) (l:List α):Prop:=∀ i j (hi:i < l.length) (hj:j < l.length),f l[i]=f l[j]→i=j
theorem Dist.of {α β:Type} {f:α→β} {l:List α} (h:∀ i (hi:i < l.length),∀ j (hj:j < l.length),j < i→f l[i]≠f l[j]):Dist f l:=fun i j hi hj e=>by
 rcases Nat.lt_trichotomy i j with g | g | g
 ·exact absurd e.symm (h j hj i hi g)
 ·exact g
 exact absurd e (h i hi j hj g)
theorem by3:(Tryz.prog.info? 3).map (·.bytes)=some 8:=by kernel_rfl
theorem by9:(Tryz.prog.info? 9).map (·.bytes)=some 16:=by kernel_rfl
theorem sz101:sizeInfo Tryz.prog 101=some 6:=by kernel_rfl
theorem sz3:sizeInfo Tryz.prog 3=some 1:=by kernel_rfl
theorem sz9:sizeInfo Tryz.prog 9=some 1:=by kernel_rfl
theorem zr3:zeroOf Tryz.prog 3=some (.int .i64 0):=by kernel_rfl
theorem zr9:zeroOf Tryz.prog 9=some (.string ⟨#[]⟩):=by kernel_rfl
set_option maxRecDepth 100000 in
set_option maxHeartbeats 4000000 in
theorem find12_p (s:List GTab) (hs:FitL s (fun y=>FitTab y)) (nm:ByteArray) (hnm:FitS nm):PRet Tryz.prog 128 [.tree 5 (s.map tabA),.v (.string nm)] (fun r=>∃ (j:Nat) (b:Bool),r=.tup [.v (.int .i64 ((j:Nat):Int)),.v (.bool b)]∧(b=true→j < s.length)∧FindS s (·.name_) nm j b):=by
 refine PRet.of_vc infOk [] [] Tryz.func128 rfl Tryz.ntmps128 rfl (by kernel_rfl) (LpG.on (fun k0:Nat=>(⟨fL [(0,.tree 5 (s.map tabA)),(1,.v (.string nm)),(6,.v (.int .i64 ((k0:Nat):Int)))],hLz [],0⟩:St)) (fun k0=>(s.length - k0)) (fun k0=>(k0≤s.length∧∀ j (hl:j < s.length),j < k0→s[j].name_≠nm)) 0 (cO (.cons rfl rfl (.cons rfl rfl (.cons rfl rfl .nil))) .nil) ⟨Nat.zero_le _,fun j _ h=>absurd h (Nat.not_lt_zero j)⟩ ?_)
 rintro k0 hinv
 have hgr_k0:s.length≤140737488355328:=hs.1
 obtain ⟨hle_k0,hj_k0⟩:=hinv
 refine LenG.of (cL (fun hlt10=>?_) (fun hge10=>?_))
 ·refine IdxG.of (by assumption) (cB (fun hc19=>?_) (fun hc19=>?_))
  ·exact ⟨.inr rfl,_,Outs.two Tryz.results128 (OutR.tmp ⟨[],FzP.pure rfl⟩) (OutR.tmp ⟨[],FzP.pure rfl⟩),⟨_,_,rfl,fun _=>by assumption,FindS.yes (by assumption) (by assumption)⟩⟩
  refine ⟨by omega,⟨(k0+1),by omega,(cO (.cons rfl rfl (.cons rfl rfl (.cons rfl rfl .nil))) .nil),?_⟩⟩
  refine ⟨by omega,fun j hl h=>?_⟩
  rcases Nat.lt_succ_iff_lt_or_eq.1 h with h | rfl
  ·exact hj_k0 j hl h
  exact txNe (by assumption)
 exact ⟨.inr rfl,_,Outs.two Tryz.results128 (OutR.tmp ⟨[],FzP.pure rfl⟩) (OutR.tmp ⟨[],FzP.pure rfl⟩),⟨0,false,rfl,fun h=>absurd h Bool.false_ne_true,FindS.no hj_k0 (by assumption)⟩⟩
set_option maxRecDepth 100000 in
set_option maxHeartbeats 4000000 in
theorem twice_p (l:List ByteArray) (hl:FitL l (fun y=>FitS y)):PRet Tryz.prog 129 [.tree 1 (l.map sA)] (fun r=>∃ b:Bool,r=.v (.bool b)∧(b=false→Dist id l)):=by
 refine PRet.of_vc infOk [] [] Tryz.func129 rfl Tryz.ntmps129 rfl (by kernel_rfl) (LpG.on (fun k0:Nat=>(⟨fL [(0,.tree 1 (l.map sA)),(3,.v (.int .i64 ((k0:Nat):Int)))],hLz [],0⟩:St)) (fun k0=>(l.length - k0)) (fun k0=>(k0≤l.length∧∀ i (hi:i < l.length),i < k0→∀ j (hj:j < l.length),j < i→l[i]≠l[j])) 0 (cO (.cons rfl rfl (.cons rfl rfl .nil)) .nil) ⟨Nat.zero_le _,fun j _ h=>absurd h (Nat.not_lt_zero j)⟩ ?_)
 rintro k0 hinv
 have hgr_k0:l.length≤140737488355328:=hl.1
 obtain ⟨hle_k0,hj_k0⟩:=hinv
 refine LenG.of (cL (fun hlt8=>?_) (fun hge8=>?_))
 ·refine LpG.on (fun k2:Nat=>(⟨fL [(0,.tree 1 (l.map sA)),(3,.v (.int .i64 ((k0:Nat):Int))),(4,.v (.int .i64 ((k2:Nat):Int)))],hLz [],0⟩:St)) (fun k2=>(k0 - k2)) (fun k2=>(k2≤k0∧∀ j (hl:j < l.length),j < k2→l[k0]≠l[j])) 0 (cO (.cons rfl rfl (.cons rfl rfl (.cons rfl rfl .nil))) .nil) ⟨Nat.zero_le _,fun j _ h=>absurd h (Nat.not_lt_zero j)⟩ ?_
  rintro k2 hinv
  obtain ⟨hle_k2,hj_k2⟩:=hinv
  refine cL (fun hlt13=>?_) (fun hge13=>?_)
  ·refine IdxG.of (by assumption) (IdxG.of (by omega) ?_)
   refine ⟨by kernel_rfl,cB (fun hc24=>?_) (fun hc24=>?_)⟩
   ·exact rV Tryz.results129 rfl ⟨_,rfl,fun h=>absurd h.symm Bool.false_ne_true⟩
   refine ⟨by omega,⟨(k2+1),by omega,(cO (.cons rfl rfl (.cons rfl rfl (.cons rfl rfl .nil))) .nil),?_⟩⟩
   refine ⟨by omega,fun j hl h=>?_⟩
   rcases Nat.lt_succ_iff_lt_or_eq.1 h with h | rfl
   ·exact hj_k2 j hl h
   exact txNe (by assumption)
  refine ⟨by omega,⟨(k0+1),by omega,(cO (.cons rfl rfl (.cons rfl rfl .nil)) .nil),?_⟩⟩
  refine ⟨by omega,fun j hl h=>?_⟩
  rcases Nat.lt_succ_iff_lt_or_eq.1 h with h | rfl
  ·exact hj_k0 j hl h
  intro j hj hji; exact hj_k2 j hj (by omega)
 exact rV Tryz.results129 rfl ⟨_,rfl,fun _=>Dist.of fun i hi j hj h=>hj_k0 i hi (by omega) j hj h⟩
set_option maxRecDepth 100000 in
set_option maxHeartbeats 4000000 in
theorem texts_p (a:List ByteArray) (ha:FitL a (fun y=>FitS y)) (b:List ByteArray) (hb:FitL b (fun y=>FitS y)):PRet Tryz.prog 130 [.tree 1 (a.map sA),.tree 1 (b.map sA)] (fun r=>∃ b:Bool,r=.v (.bool b)):=by
 refine PRet.of_vc infOk [] [] Tryz.func130 rfl Tryz.ntmps130 rfl (by kernel_rfl) (LenG.of ?_)
 refine LenG.of (cB (fun hc10=>?_) (fun hc10=>?_))
 ·have hq10:¬ (((a.length:Nat):Int)=((b.length:Nat):Int)):=by simpa using hc10
  exact rV Tryz.results130 rfl ⟨_,rfl⟩
 have hq10:((a.length:Nat):Int)=((b.length:Nat):Int):=by simpa using hc10
 have hab:a.length=b.length:=by have h:=hc10; simp at h; omega
 refine LpG.on (fun k0:Nat=>(⟨fL [(0,.tree 1 (a.map sA)),(1,.tree 1 (b.map sA)),(5,.v (.int .i64 ((k0:Nat):Int)))],hLz [],0⟩:St)) (fun k0=>(a.length - k0)) (fun k0=>(k0≤a.length)) 0 (cO (.cons rfl rfl (.cons rfl rfl (.cons rfl rfl .nil))) .nil) (Nat.zero_le _) ?_
 rintro k0 hinv
 have hgr_k0:a.length≤140737488355328:=ha.1
 have hle_k0:=hinv
 refine LenG.of (cL (fun hlt14=>?_) (fun hge14=>?_))
 ·refine IdxG.of (by assumption) (IdxG.of (by omega) ?_)
  refine ⟨by kernel_rfl,cB (fun hc25=>?_) (fun hc25=>?_)⟩
  ·exact rV Tryz.results130 rfl ⟨_,rfl⟩
  refine ⟨by omega,⟨(k0+1),by omega,(cO (.cons rfl rfl (.cons rfl rfl (.cons rfl rfl .nil))) .nil),?_⟩⟩
  omega
 exact rV Tryz.results130 rfl ⟨_,rfl⟩
set_option maxRecDepth 100000 in
set_option maxHeartbeats 4000000 in
theorem ints_p (a:List Int) (ha:FitL a (fun y=>True)) (b:List Int) (hb:FitL b (fun y=>True)):PRet Tryz.prog 132 [.tree 1 (a.map iA),.tree 1 (b.map iA)] (fun r=>∃ b:Bool,r=.v (.bool b)):=by
 refine PRet.of_vc infOk [] [] Tryz.func132 rfl Tryz.ntmps132 rfl (by kernel_rfl) (LenG.of ?_)
 refine LenG.of (cB (fun hc10=>?_) (fun hc10=>?_))
 ·have hq10:¬ (((a.length:Nat):Int)=((b.length:Nat):Int)):=by simpa using hc10
  exact rV Tryz.results132 rfl ⟨_,rfl⟩
 have hq10:((a.length:Nat):Int)=((b.length:Nat):Int):=by simpa using hc10
 have hab:a.length=b.length:=by have h:=hc10; simp at h; omega
 refine LpG.on (fun k0:Nat=>(⟨fL [(0,.tree 1 (a.map iA)),(1,.tree 1 (b.map iA)),(5,.v (.int .i64 ((k0:Nat):Int)))],hLz [],0⟩:St)) (fun k0=>(a.length - k0)) (fun k0=>(k0≤a.length)) 0 (cO (.cons rfl rfl (.cons rfl rfl (.cons rfl rfl .nil))) .nil) (Nat.zero_le _) ?_
 rintro k0 hinv
 have hgr_k0:a.length≤140737488355328:=ha.1
 have hle_k0:=hinv
 refine LenG.of (cL (fun hlt14=>?_) (fun hge14=>?_))
 ·refine IdxG.of (by assumption) (IdxG.of (by omega) ?_)
  refine ⟨by kernel_rfl,cN (fun hq25=>?_) (fun hq25=>?_)⟩
  ·exact rV Tryz.results132 rfl ⟨_,rfl⟩
  refine ⟨by omega,⟨(k0+1),by omega,(cO (.cons rfl rfl (.cons rfl rfl (.cons rfl rfl .nil))) .nil),?_⟩⟩
  omega
 exact rV Tryz.results132 rfl ⟨_,rfl⟩
set_option maxRecDepth 100000 in
set_option maxHeartbeats 4000000 in
theorem column12u_p (t:GTbu) (ht:FitTbu t) (nm:ByteArray) (hnm:FitS nm):PRet Tryz.prog 163 [.agg (tbuA t),.v (.string nm)] (fun r=>∃ (j:Nat) (b:Bool),r=.tup [.v (.int .i64 ((j:Nat):Int)),.v (.bool b)]∧(b=true→j < t.columns_.length)∧FindS t.columns_ (·.name_) nm j b):=by
 refine PRet.of_vc infOk [] [] Tryz.func163 rfl Tryz.ntmps163 rfl (by kernel_rfl) (LpG.on (fun k0:Nat=>(⟨fL [(1,.v (.string nm)),(2,.ptr 0 0 0),(6,.v (.int .i64 ((k0:Nat):Int)))],hLz [(0,⟨0,tbuA t,0,false⟩)],1⟩:St)) (fun k0=>(t.columns_.length - k0)) (fun k0=>(k0≤t.columns_.length∧∀ j (hl:j < t.columns_.length),j < k0→t.columns_[j].name_≠nm)) 0 (cO (.cons rfl rfl (.cons rfl rfl (.cons rfl rfl .nil))) (.cons rfl rfl rfl .nil)) ⟨Nat.zero_le _,fun j _ h=>absurd h (Nat.not_lt_zero j)⟩ ?_)
 rintro k0 hinv
 have hgr_k0:t.columns_.length≤140737488355328:=ht.columns_.1
 obtain ⟨hle_k0,hj_k0⟩:=hinv
 refine LenG.of (cL (fun hlt11=>?_) (fun hge11=>?_))
 ·refine IdxG.of (by assumption) (cB (fun hc21=>?_) (fun hc21=>?_))
  ·exact ⟨.inr rfl,_,Outs.two Tryz.results163 (OutR.tmp ⟨[],FzP.pure rfl⟩) (OutR.tmp ⟨[],FzP.pure rfl⟩),⟨_,_,rfl,fun _=>by assumption,FindS.yes (by assumption) (by assumption)⟩⟩
  refine ⟨by omega,⟨(k0+1),by omega,(cO (.cons rfl rfl (.cons rfl rfl (.cons rfl rfl .nil))) (.cons rfl rfl rfl .nil)),?_⟩⟩
  refine ⟨by omega,fun j hl h=>?_⟩
  rcases Nat.lt_succ_iff_lt_or_eq.1 h with h | rfl
  ·exact hj_k0 j hl h
  exact txNe (by assumption)
 exact ⟨.inr rfl,_,Outs.two Tryz.results163 (OutR.tmp ⟨[],FzP.pure rfl⟩) (OutR.tmp ⟨[],FzP.pure rfl⟩),⟨0,false,rfl,fun h=>absurd h Bool.false_ne_true,FindS.no hj_k0 (by assumption)⟩⟩
set_option maxRecDepth 100000 in
set_option maxHeartbeats 4000000 in
theorem typesu_p (t:GTbu) (ht:FitTbu t) (u:GTbu) (hu:FitTbu u) (a:List Int) (ha:FitL a (fun y=>True)) (b:List Int) (hb:FitL b (fun y=>True)) (hai:∀ x∈a,0≤x∧x < t.columns_.length) (hbi:∀ x∈b,0≤x∧x < u.columns_.length) (hab:a.length=b.length):PRet Tryz.prog 133 [.agg (tbuA t),.agg (tbuA u),.tree 1 (a.map iA),.tree 1 (b.map iA)] (fun r=>∃ c:Bool,r=.v (.bool c)∧(c=true→TypS t.columns_ u.columns_ a b)):=by
 refine PRet.of_vc infOk [22,31] [] Tryz.func133 rfl Tryz.ntmps133 rfl (by kernel_rfl) (LpG.on (fun k0:Nat=>(⟨fL [(2,.tree 1 (a.map iA)),(3,.tree 1 (b.map iA)),(4,.ptr 0 0 0),(5,.ptr 1 0 0),(9,.v (.int .i64 ((k0:Nat):Int)))],hLz [(0,⟨0,tbuA t,0,false⟩),(1,⟨0,tbuA u,0,false⟩)],2⟩:St)) (fun k0=>(a.length - k0)) (fun k0=>(k0≤a.length∧∀ j (hl:j < a.length),j < k0→TypAt t.columns_ u.columns_ a b j)) 0 (cO (.cons rfl rfl (.cons rfl rfl (.cons rfl rfl (.cons rfl rfl (.cons rfl rfl .nil))))) (.cons rfl rfl rfl (.cons rfl rfl rfl .nil))) ⟨Nat.zero_le _,fun j _ h=>absurd h (Nat.not_lt_zero j)⟩ ?_)
 rintro k0 hinv
 have hgr_k0:a.length≤140737488355328:=ha.1
 obtain ⟨hle_k0,hj_k0⟩:=hinv
 refine LenG.of (cL (fun hlt13=>?_) (fun hge13=>?_))
 ·have hltb:k0 < b.length:=by omega
  obtain ⟨j1,hje1,hjl1⟩:∃ j:Nat,a[k0]=((j:Nat):Int)∧j < t.columns_.length:=⟨(a[k0]).toNat,by have:=hai _ (List.getElem_mem _:a[k0]∈_); omega,by have:=hai _ (List.getElem_mem _:a[k0]∈_); omega⟩
  obtain ⟨j2,hje2,hjl2⟩:∃ j:Nat,b[k0]=((j:Nat):Int)∧j < u.columns_.length:=⟨(b[k0]).toNat,by have:=hbi _ (List.getElem_mem _:b[k0]∈_); omega,by have:=hbi _ (List.getElem_mem _:b[k0]∈_); omega⟩
  refine IdxG.of (by assumption) (OpG.lk (LOp.indexI Tryz.underlying22 sz101 rfl rfl hje1 hjl1) ?_)
  refine IdxG.of (by assumption) (OpG.lk (LOp.indexI Tryz.underlying22 sz101 rfl rfl hje2 hjl2) ?_)
  refine ⟨by kernel_rfl,cN (fun hq34=>?_) (fun hq34=>?_)⟩
  ·exact rV Tryz.results133 rfl bF
  refine ⟨by omega,⟨(k0+1),by omega,(cO (.cons rfl rfl (.cons rfl rfl (.cons rfl rfl (.cons rfl rfl (.cons rfl rfl .nil))))) (.cons rfl rfl rfl (.cons rfl rfl rfl .nil))),?_⟩⟩
  refine ⟨by omega,fun j hl h=>?_⟩
  rcases Nat.lt_succ_iff_lt_or_eq.1 h with h | rfl
  ·exact hj_k0 j hl h
  exact ⟨j1,j2,hjl1,hjl2,(List.getElem?_eq_getElem hlt13).trans (congrArg some hje1),(List.getElem?_eq_getElem hltb).trans (congrArg some hje2),by simp_all⟩
 exact rV Tryz.results133 rfl ⟨_,rfl,fun _ j hj=>hj_k0 j hj (by omega)⟩
set_option maxRecDepth 100000 in
set_option maxHeartbeats 4000000 in
theorem namesu_p (t:GTbu) (ht:FitTbu t) (l:List Int) (hl:FitL l (fun y=>True)) (hli:∀ x∈l,0≤x∧x < t.columns_.length) (hl2:l.length≤1000):PRet Tryz.prog 88 [.agg (tbuA t),.tree 1 (l.map iA)] (fun r=>∃ L:List ByteArray,r=.tree 1 (L.map sA)∧L.length=l.length∧FitL L (fun y=>FitS y)∧NamS t.columns_ l L):=by
 refine PRet.of_vc infOk [20] [] Tryz.func88 rfl Tryz.ntmps88 rfl (by kernel_rfl) (LpG.via (fun _ h=>AWP.lazyT 5 1 rfl 2 rfl h) ?_)
 refine LpG.on (fun k0:KL ByteArray=>(⟨fL [(1,.tree 1 (l.map iA)),(2,.ptr 0 0 0),(5,.sl 1 k0.L.length 0 k0.L.length),(6,.v (.int .i64 ((k0.k:Nat):Int)))],hLz [(0,⟨0,tbuA t,0,false⟩),(1,⟨k0.L.length,rF sA k0.L,1,Nat.beq k0.L.length 0⟩)],2⟩:St)) (fun k0=>(l.length - k0.k)) (fun k0=>(k0.k≤l.length∧k0.L.length=k0.k∧(∀ x∈k0.L,FitS x)∧(k0.L.length=k0.k∧∀ j,j < k0.k→∃ p:Nat,∃ hp:p < t.columns_.length,l[j]? = some ((p:Nat):Int)∧k0.L[j]? = some t.columns_[p].name_))) (⟨0,[]⟩:KL ByteArray) (cO (.cons rfl rfl (.cons rfl rfl (.cons (by rfl) rfl (.cons rfl rfl .nil)))) (.cons rfl rfl rfl (.cons (by rfl) rfl (rF_low row_s _ _) .nil))) ⟨Nat.zero_le _,rfl,by simp,⟨rfl,fun j h=>absurd h (Nat.not_lt_zero j)⟩⟩ ?_
 rintro k0 hinv
 have hgr_k0:l.length≤140737488355328:=hl.1
 obtain ⟨hle_k0,hL_k0,hf_k0,hi_k0⟩:=hinv
 refine LenG.of (cL (fun hlt10=>?_) (fun hge10=>?_))
 ·obtain ⟨j1,hje1,hjl1⟩:∃ j:Nat,l[k0.k]=((j:Nat):Int)∧j < t.columns_.length:=⟨(l[k0.k]).toNat,by have:=hli _ (List.getElem_mem _:l[k0.k]∈_); omega,by have:=hli _ (List.getElem_mem _:l[k0.k]∈_); omega⟩
  refine IdxG.of (by assumption) (OpG.lk (LOp.indexI Tryz.underlying22 sz101 rfl rfl hje1 hjl1) ?_)
  refine OpG.mk _ _ _ 3 (LOp.appRow row_s (a:=(t.columns_[j1].name_)) Tryz.underlying188 sz9 zr9 by9 rfl rfl rfl (Src.slB rfl rfl rfl rfl) rfl (by omega) (by omega) (by unfold TV; omega)) rfl rfl ⟨by kernel_rfl,⟨by omega,?_⟩⟩
  refine ⟨(⟨k0.k+1,k0.L++[(t.columns_[j1].name_)]⟩:KL ByteArray),(by show l.length - (k0.k+1) < l.length - k0.k; omega),(cO (.cons rfl rfl (.cons rfl rfl (.cons (by (rw [List.length_append]; rfl)) rfl (.cons rfl rfl .nil)))) (.cons rfl rfl rfl (.cons (by (rw [List.length_append]; rfl)) rfl (rF_low row_s _ _) .nil))),⟨by show k0.k+1≤_; omega,by show (_++[_]).length=k0.k+1; rw [List.length_append,hL_k0]; rfl,fun y_ hy_=>(List.mem_append.1 hy_).elim (hf_k0 y_) (fun hy_=>by rw [List.mem_singleton.1 hy_]; exact (ht.columns_.2 _ (List.getElem_mem _)).name_),?_⟩⟩
  exact nam_next hi_k0 hjl1 ((List.getElem?_eq_getElem hlt10).trans (congrArg some hje1))
 exact ⟨.inr rfl,_,Outs.tmp Tryz.results88 ⟨[1],FzP.rows row_s (List.mem_singleton.2 rfl) rfl⟩,⟨_,rfl,by omega,⟨by omega,hf_k0⟩,fun j hj=>hi_k0.2 j (by omega)⟩⟩
set_option maxRecDepth 100000 in
set_option maxHeartbeats 4000000 in
theorem numbersu_p (t:GTbu) (ht:FitTbu t) (l:List ByteArray) (hl:FitL l (fun y=>FitS y)) (hl2:l.length≤1000):PRet Tryz.prog 131 [.agg (tbuA t),.tree 1 (l.map sA)] (fun r=>∃ (L:List Int) (b:Bool),r=.tup [.tree 1 (L.map iA),.v (.bool b)]∧FitL L (fun _=>True)∧(b=true→L.length=l.length∧∀ x∈L,0≤x∧x < t.columns_.length)∧(b=true→NamS t.columns_ L l)):=by
 refine PRet.of_vc infOk [] [] Tryz.func131 rfl Tryz.ntmps131 rfl (by kernel_rfl) (LpG.via (fun _ h=>AWP.lazyT 6 1 rfl 2 rfl h) ?_)
 refine LpG.on (fun k0:KL Int=>(⟨fL [(1,.tree 1 (l.map sA)),(2,.ptr 0 0 0),(6,.sl 1 k0.L.length 0 k0.L.length),(7,.v (.int .i64 ((k0.k:Nat):Int)))],hLz [(0,⟨0,tbuA t,0,false⟩),(1,⟨k0.L.length,rF iA k0.L,1,Nat.beq k0.L.length 0⟩)],2⟩:St)) (fun k0=>(l.length - k0.k)) (fun k0=>(k0.k≤l.length∧k0.L.length=k0.k∧(∀ x∈k0.L,True)∧((∀ x∈k0.L,0≤x∧x < t.columns_.length)∧k0.L.length=k0.k∧∀ j,j < k0.k→∃ p:Nat,∃ hp:p < t.columns_.length,k0.L[j]? = some ((p:Nat):Int)∧l[j]? = some t.columns_[p].name_))) (⟨0,[]⟩:KL Int) (cO (.cons rfl rfl (.cons rfl rfl (.cons (by rfl) rfl (.cons rfl rfl .nil)))) (.cons rfl rfl rfl (.cons (by rfl) rfl (rF_low row_i _ _) .nil))) ⟨Nat.zero_le _,rfl,by simp,⟨fun x hx=>absurd hx (by simp),rfl,fun j h=>absurd h (Nat.not_lt_zero j)⟩⟩ ?_
 rintro k0 hinv
 have hgr_k0:l.length≤140737488355328:=hl.1
 obtain ⟨hle_k0,hL_k0,hf_k0,hi_k0⟩:=hinv
 refine LenG.of (cL (fun hlt13=>?_) (fun hge13=>?_))
 ·refine IdxG.of (by assumption) (ArgG.mk (column12u_p t ht (l[k0.k]) (hl.2 _ (List.getElem_mem _))) rfl ?_)
  rintro _ ⟨j0,b0,rfl,hj0,hk0⟩
  refine ⟨by kernel_rfl,cB (fun hc26=>?_) (fun hc26=>?_)⟩
  ·exact ⟨.inr rfl,_,Outs.two Tryz.results131 (OutR.tmp (ret:=.tree 1 []) ⟨[],FzP.nil⟩) (OutR.tmp ⟨[],FzP.pure rfl⟩),⟨[],false,rfl,⟨by simp,fun _ _=>trivial⟩,fun h=>absurd h Bool.false_ne_true,fun h=>absurd h Bool.false_ne_true⟩⟩
  refine OpG.mk _ _ _ 3 (LOp.appRow row_i (a:=((j0:Nat):Int)) Tryz.underlying59 sz3 zr3 by3 rfl rfl rfl (Src.slB rfl rfl rfl rfl) rfl (by omega) (by omega) (by unfold TV; omega)) rfl rfl ⟨by omega,⟨(⟨k0.k+1,k0.L++[((j0:Nat):Int)]⟩:KL Int),(by show l.length - (k0.k+1) < l.length - k0.k; omega),(cO (.cons rfl rfl (.cons rfl rfl (.cons (by (rw [List.length_append]; rfl)) rfl (.cons rfl rfl .nil)))) (.cons rfl rfl rfl (.cons (by (rw [List.length_append]; rfl)) rfl (rF_low row_i _ _) .nil))),?_⟩⟩
  refine ⟨by show k0.k+1≤_; omega,by show (_++[_]).length=k0.k+1; rw [List.length_append,hL_k0]; rfl,fun _ _=>trivial,?_⟩
  have hbt:b0=true:=by simpa using hc26
  have hjl:=hj0 hbt
  refine ⟨fun x hx=>?_,num_next hi_k0.2 hjl ((List.getElem?_eq_getElem hlt13).trans (congrArg some (hk0.1 hjl hbt).symm))⟩
  rcases List.mem_append.1 hx with hx | hx
  ·exact hi_k0.1 x hx
  rw [List.mem_singleton.1 hx]; omega
 exact ⟨.inr rfl,_,Outs.two Tryz.results131 (OutR.tmp ⟨[1],FzP.rows row_i (List.mem_singleton.2 rfl) rfl⟩) (OutR.tmp ⟨[],FzP.pure rfl⟩),⟨_,true,rfl,⟨by omega,fun _ _=>trivial⟩,fun _=>⟨by omega,hi_k0.1⟩,fun _ j hj=>hi_k0.2.2 j (by omega)⟩⟩
theorem names_p (t:GTab) (ht:FitTab t) (l:List Int) (hl:FitL l (fun y=>True)) (hli:∀ x∈l,0≤x∧x < t.columns_.length) (hl2:l.length≤1000):PRet Tryz.prog 88 [.agg (tabA t),.tree 1 (l.map iA)] (fun r=>∃ L:List ByteArray,r=.tree 1 (L.map sA)∧L.length=l.length∧FitL L (fun y=>FitS y)∧NamS t.columns_ l L):=(namesu_p ⟨t.name_,t.columns_⟩ ⟨ht.name_,ht.columns_⟩ l hl hli hl2).wk (.cons (Wk.aggL (.cons .rfl (.cons .rfl (.cons .unk (.cons .unk (.cons .unk .nil)))))) (.cons .rfl .nil))
theorem numbers_p (t:GTab) (ht:FitTab t) (l:List ByteArray) (hl:FitL l (fun y=>FitS y)) (hl2:l.length≤1000):PRet Tryz.prog 131 [.agg (tabA t),.tree 1 (l.map sA)] (fun r=>∃ (L:List Int) (b:Bool),r=.tup [.tree 1 (L.map iA),.v (.bool b)]∧FitL L (fun _=>True)∧(b=true→L.length=l.length∧∀ x∈L,0≤x∧x < t.columns_.length)∧(b=true→NamS t.columns_ L l)):=(numbersu_p ⟨t.name_,t.columns_⟩ ⟨ht.name_,ht.columns_⟩ l hl hl2).wk (.cons (Wk.aggL (.cons .rfl (.cons .rfl (.cons .unk (.cons .unk (.cons .unk .nil)))))) (.cons .rfl .nil))
end Go.Proofs.YtjdblmpkeilbaaaGreatDoor
namespace Go.Proofs.YtjdblmpkeilbaaaGreatDoor
set_option linter.unusedVariables false
set_option linter.unusedSimpArgs false
open Go.RowKit
theorem dist_take {α:Type} {f:α→ByteArray} {l:List α} {L:List ByteArray} {k:Nat} (h:Dist id L) (e:L=(l.take k).map f) (hk:l.length≤k):Dist f l:=by
 rw [List.take_of_length_le hk] at e
 subst e
 intro i j hi hj he
 exact h i j (by simpa using hi) (by simpa using hj) (by simpa using he)
/-- A column that the reference takes. -/
def ColOk (c:GCol):Prop:=(c.type_=1∧-2147483648≤c.low_∧c.low_≤c.high_∧c.high_≤2147483647∧c.max_=0)∨(c.type_=2∧1≤c.max_∧c.max_≤16∧c.low_=0∧c.high_=0)
set_option maxRecDepth 100000 in
set_option maxHeartbeats 4000000 in
theorem invalid_p (x:GSta) (hx:FitSta x):PRet Tryz.prog 89 [.agg (staA x)] (fun r=>∃ b:Bool,r=.v (.bool b)∧(b=false→(∀ c∈x.create_.columns_,ColOk c)∧(∀ f∈x.create_.foreign_,f.columns_.length=f.target_.length∧f.columns_.length≠0)∧(∀ k∈x.create_.keys_,k.length≠0)∧x.create_.columns_.length≠0)):=by
 refine PRet.of_vc infOk [] [] Tryz.func89 rfl Tryz.ntmps89 rfl (by kernel_rfl) (ArgG.mk (name_p x.table_ hx.table_) rfl ?_)
 rintro _ ⟨b0,rfl⟩
 refine cB (fun hg13=>?_) (fun hg13=>?_)
 ·exact cT (rV Tryz.results89 rfl ⟨_,rfl,fun h=>absurd h.symm Bool.false_ne_true⟩)
 refine LenG.of (cE (fun hq18=>?_) (fun hq18=>?_))
 ·exact rV Tryz.results89 rfl ⟨_,rfl,fun h=>absurd h.symm Bool.false_ne_true⟩
 refine LpG.on (fun k0:Nat=>(⟨fL [(3,.ptr 1 0 0),(4,.v (.int .i64 ((k0:Nat):Int)))],hLz [(1,⟨0,defA x.create_,0,false⟩)],2⟩:St)) (fun k0=>(x.create_.columns_.length - k0)) (fun k0=>(k0≤x.create_.columns_.length∧∀ j (hl:j < x.create_.columns_.length),j < k0→ColOk x.create_.columns_[j])) 0 (cO (.cons rfl rfl (.cons rfl rfl .nil)) (.cons rfl rfl rfl .nil)) ⟨Nat.zero_le _,fun j _ h=>absurd h (Nat.not_lt_zero j)⟩ ?_
 rintro k0 hinv
 have hgr_k0:x.create_.columns_.length≤140737488355328:=hx.create_.columns_.1
 obtain ⟨hle_k0,hj_k0⟩:=hinv
 refine LenG.of (cL (fun hlt23=>?_) (fun hge23=>?_))
 ·refine IdxG.of (by assumption) (ArgG.mk (column_p (x.create_.columns_[k0]) (hx.create_.columns_.2 _ (List.getElem_mem _))) rfl ?_)
  rintro _ ⟨b1,rfl,hb1⟩
  refine cB (fun hc32=>?_) (fun hc32=>?_)
  ·exact rV Tryz.results89 rfl ⟨_,rfl,fun h=>absurd h.symm Bool.false_ne_true⟩
  refine ⟨by omega,⟨(k0+1),by omega,(cO (.cons rfl rfl (.cons rfl rfl .nil)) (.cons rfl rfl rfl .nil)),?_⟩⟩
  refine ⟨by omega,fun j hl h=>?_⟩
  rcases Nat.lt_succ_iff_lt_or_eq.1 h with h | rfl
  ·exact hj_k0 j hl h
  exact hb1 (by simpa using hc32)
 refine LpG.on (fun k2:Nat=>(⟨fL [(3,.ptr 1 0 0),(5,.v (.int .i64 ((k2:Nat):Int)))],hLz [(1,⟨0,defA x.create_,0,false⟩)],2⟩:St)) (fun k2=>(x.create_.keys_.length - k2)) (fun k2=>(k2≤x.create_.keys_.length∧∀ j (hl:j < x.create_.keys_.length),j < k2→x.create_.keys_[j].length≠0)) 0 (cO (.cons rfl rfl (.cons rfl rfl .nil)) (.cons rfl rfl rfl .nil)) ⟨Nat.zero_le _,fun j _ h=>absurd h (Nat.not_lt_zero j)⟩ ?_
 rintro k2 hinv
 have hgr_k2:x.create_.keys_.length≤140737488355328:=hx.create_.keys_.1
 obtain ⟨hle_k2,hj_k2⟩:=hinv
 refine LenG.of (cL (fun hlt37=>?_) (fun hge37=>?_))
 ·refine IdxG.of (by assumption) (LenG.of ?_)
  refine cB (fun hc46=>?_) (fun hc46=>?_)
  ·have hq46:((x.create_.keys_[k2].length:Nat):Int)=(0:Int):=by simpa using hc46
   exact rV Tryz.results89 rfl ⟨_,rfl,fun h=>absurd h.symm Bool.false_ne_true⟩
  have hq46:¬ (((x.create_.keys_[k2].length:Nat):Int)=(0:Int)):=by simpa using hc46
  refine ⟨by omega,⟨(k2+1),by omega,(cO (.cons rfl rfl (.cons rfl rfl .nil)) (.cons rfl rfl rfl .nil)),?_⟩⟩
  refine ⟨by omega,fun j hl h=>?_⟩
  rcases Nat.lt_succ_iff_lt_or_eq.1 h with h | rfl
  ·exact hj_k2 j hl h
  have h:=hc46; simp at h; intro h2; simp_all
 refine LpG.on (fun k4:Nat=>(⟨fL [(3,.ptr 1 0 0),(6,.v (.int .i64 ((k4:Nat):Int)))],hLz [(1,⟨0,defA x.create_,0,false⟩)],2⟩:St)) (fun k4=>(x.create_.foreign_.length - k4)) (fun k4=>(k4≤x.create_.foreign_.length∧∀ j (hl:j < x.create_.foreign_.length),j < k4→x.create_.foreign_[j].columns_.length=x.create_.foreign_[j].target_.length∧x.create_.foreign_[j].columns_.length≠0)) 0 (cO (.cons rfl rfl (.cons rfl rfl .nil)) (.cons rfl rfl rfl .nil)) ⟨Nat.zero_le _,fun j _ h=>absurd h (Nat.not_lt_zero j)⟩ ?_
 rintro k4 hinv
 have hgr_k4:x.create_.foreign_.length≤140737488355328:=hx.create_.foreign_.1
 obtain ⟨hle_k4,hj_k4⟩:=hinv
 refine LenG.of (cL (fun hlt51=>?_) (fun hge51=>?_))
 ·refine IdxG.of (by assumption) (LenG.of ?_)
  refine cB (fun hg62=>?_) (fun hg62=>?_)
  ·have hq62:((x.create_.foreign_[k4].columns_.length:Nat):Int)=(0:Int):=by simpa using hg62
   refine ⟨by kernel_rfl,cT ?_⟩
   exact rV Tryz.results89 rfl ⟨_,rfl,fun h=>absurd h.symm Bool.false_ne_true⟩
  have hq62:¬ (((x.create_.foreign_[k4].columns_.length:Nat):Int)=(0:Int)):=by simpa using hg62
  refine IdxG.of (by assumption) (LenG.of ?_)
  refine IdxG.of (by assumption) (LenG.of ?_)
  refine ⟨by kernel_rfl,cB (fun hc78=>?_) (fun hc78=>?_)⟩
  ·have hq78:¬ (((x.create_.foreign_[k4].columns_.length:Nat):Int)=((x.create_.foreign_[k4].target_.length:Nat):Int)):=by simpa using hc78
   exact rV Tryz.results89 rfl ⟨_,rfl,fun h=>absurd h.symm Bool.false_ne_true⟩
  have hq78:((x.create_.foreign_[k4].columns_.length:Nat):Int)=((x.create_.foreign_[k4].target_.length:Nat):Int):=by simpa using hc78
  refine ⟨by omega,⟨(k4+1),by omega,(cO (.cons rfl rfl (.cons rfl rfl .nil)) (.cons rfl rfl rfl .nil)),?_⟩⟩
  refine ⟨by omega,fun j hl h=>?_⟩
  rcases Nat.lt_succ_iff_lt_or_eq.1 h with h | rfl
  ·exact hj_k4 j hl h
  have h:=hc78; have h2:=hg62; simp at h h2; exact ⟨by omega,by intro h3; simp_all⟩
 exact rV Tryz.results89 rfl ⟨_,rfl,fun _=>⟨fun c hc=>by obtain ⟨j,hj,rfl⟩:=List.getElem_of_mem hc; exact hj_k0 j hj (by omega),fun c hc=>by obtain ⟨j,hj,rfl⟩:=List.getElem_of_mem hc; exact hj_k4 j hj (by omega),fun c hc=>by obtain ⟨j,hj,rfl⟩:=List.getElem_of_mem hc; exact hj_k2 j hj (by omega),by first | omega | (intro h0; simp_all)⟩⟩
set_option maxRecDepth 100000 in
set_option maxHeartbeats 4000000 in
theorem exists_p (s:List GTab) (hs:FitL s (fun y=>FitTab y)) (x:GSta) (hx:FitSta x) (hcl:x.create_.columns_.length≤1000):PRet Tryz.prog 90 [.tree 5 (s.map tabA),.agg (staA x)] (fun r=>∃ b:Bool,r=.v (.bool b)∧(b=false→(∀ t∈s,t.name_≠x.table_)∧Dist (·.name_) x.create_.columns_)):=by
 refine PRet.of_vc infOk [] [10] Tryz.func90 rfl Tryz.ntmps90 rfl (by kernel_rfl) (ArgG.mk (find12_p s hs x.table_ hx.table_) rfl ?_)
 rintro _ ⟨j0,b0,rfl,hj0,hk0⟩
 refine cB (fun hc22=>?_) (fun hc22=>?_)
 ·exact rV Tryz.results90 rfl ⟨_,rfl,fun h=>absurd h.symm Bool.false_ne_true⟩
 refine LpG.via (fun _ h=>AWP.lazyT 8 1 rfl 3 rfl h) (LpG.on (fun k0:KL ByteArray=>(⟨fL [(5,.ptr 1 0 0),(8,.sl 2 k0.L.length 0 k0.L.length),(9,.v (.int .i64 ((k0.k:Nat):Int)))],hLz [(1,⟨0,defA x.create_,0,false⟩),(2,⟨k0.L.length,rF sA k0.L,1,Nat.beq k0.L.length 0⟩)],3⟩:St)) (fun k0=>(x.create_.columns_.length - k0.k)) (fun k0=>(k0.k≤x.create_.columns_.length∧k0.L.length=k0.k∧(∀ x∈k0.L,FitS x)∧k0.L=(x.create_.columns_.take k0.k).map (·.name_))) (⟨0,[]⟩:KL ByteArray) (cO (.cons rfl rfl (.cons (by rfl) rfl (.cons rfl rfl .nil))) (.cons rfl rfl rfl (.cons (by rfl) rfl (rF_low row_s _ _) .nil))) ⟨Nat.zero_le _,rfl,by simp,rfl⟩ ?_)
 rintro k0 hinv
 have hgr_k0:x.create_.columns_.length≤140737488355328:=hx.create_.columns_.1
 obtain ⟨hle_k0,hL_k0,hf_k0,hi_k0⟩:=hinv
 refine LenG.of (cL (fun hlt27=>?_) (fun hge27=>?_))
 ·refine IdxG.of (by assumption) (OpG.mk _ _ _ 4 (LOp.appRow row_s (a:=(x.create_.columns_[k0.k].name_)) Tryz.underlying188 sz9 zr9 by9 rfl rfl rfl (Src.slB rfl rfl rfl rfl) rfl (by omega) (by omega) (by unfold TV; omega)) rfl rfl ?_)
  refine ⟨by omega,⟨(⟨k0.k+1,k0.L++[(x.create_.columns_[k0.k].name_)]⟩:KL ByteArray),(by show x.create_.columns_.length - (k0.k+1) < x.create_.columns_.length - k0.k; omega),(cO (.cons rfl rfl (.cons (by (rw [List.length_append]; rfl)) rfl (.cons rfl rfl .nil))) (.cons rfl rfl rfl (.cons (by (rw [List.length_append]; rfl)) rfl (rF_low row_s _ _) .nil))),?_⟩⟩
  refine ⟨by show k0.k+1≤_; omega,by show (_++[_]).length=k0.k+1; rw [List.length_append,hL_k0]; rfl,fun y_ hy_=>(List.mem_append.1 hy_).elim (hf_k0 y_) (fun hy_=>by rw [List.mem_singleton.1 hy_]; exact (hx.create_.columns_.2 _ (List.getElem_mem _)).name_),?_⟩
  show _++[_]=_
  rw [List.take_succ_eq_append_getElem hlt27,List.map_append,← hi_k0]; rfl
 refine RegG.via (fun _ h=>AWP.freeze [2] 8 (.tree 1 (k0.L.map sA)) (FzP.rows row_s (List.mem_singleton.2 rfl) rfl) rfl h) (RegG.go ?_)
 refine ArgG.mk (twice_p k0.L ⟨by omega,hf_k0⟩) rfl ?_
 rintro _ ⟨b1,rfl,hb1⟩
 refine cB (fun hc40=>?_) (fun hc40=>?_)
 ·exact rV Tryz.results90 rfl ⟨_,rfl,fun h=>absurd h.symm Bool.false_ne_true⟩
 have hdn:Dist (·.name_) x.create_.columns_:=dist_take (hb1 (by simpa using hc40)) hi_k0 (by omega)
 refine LpG.on (fun k2:Nat=>(⟨fL [(5,.ptr 1 0 0),(10,.v (.int .i64 ((k2:Nat):Int)))],hLz [(1,⟨0,defA x.create_,0,false⟩)],3⟩:St)) (fun k2=>(x.create_.keys_.length - k2)) (fun k2=>(k2≤x.create_.keys_.length)) 0 (cO (.cons rfl rfl (.cons rfl rfl .nil)) (.cons rfl rfl rfl .nil)) (Nat.zero_le _) ?_
 rintro k2 hinv
 have hgr_k2:x.create_.keys_.length≤140737488355328:=hx.create_.keys_.1
 have hle_k2:=hinv
 refine LenG.of (cL (fun hlt45=>?_) (fun hge45=>?_))
 ·refine IdxG.of (by assumption) (ArgG.mk (twice_p (x.create_.keys_[k2]) (hx.create_.keys_.2 _ (List.getElem_mem _))) rfl ?_)
  rintro _ ⟨b2,rfl,hb2⟩
  refine cB (fun hc53=>?_) (fun hc53=>?_)
  ·exact rV Tryz.results90 rfl ⟨_,rfl,fun h=>absurd h.symm Bool.false_ne_true⟩
  refine LpG.on (fun k4:Nat=>(⟨fL [(5,.ptr 1 0 0),(10,.v (.int .i64 ((k2:Nat):Int))),(11,.v (.int .i64 ((k4:Nat):Int)))],hLz [(1,⟨0,defA x.create_,0,false⟩)],3⟩:St)) (fun k4=>(k2 - k4)) (fun k4=>(k4≤k2)) 0 (cO (.cons rfl rfl (.cons rfl rfl (.cons rfl rfl .nil))) (.cons rfl rfl rfl .nil)) (Nat.zero_le _) ?_
  rintro k4 hinv
  have hle_k4:=hinv
  refine cL (fun hlt56=>?_) (fun hge56=>?_)
  ·refine IdxG.of (by assumption) (IdxG.of (by omega) ?_)
   refine ArgG.mk (texts_p (x.create_.keys_[k2]) (hx.create_.keys_.2 _ (List.getElem_mem _)) (x.create_.keys_[k4]) (hx.create_.keys_.2 _ (List.getElem_mem _))) rfl ?_
   rintro _ ⟨b3,rfl⟩
   refine ⟨by kernel_rfl,cB (fun hc69=>?_) (fun hc69=>?_)⟩
   ·exact rV Tryz.results90 rfl ⟨_,rfl,fun h=>absurd h.symm Bool.false_ne_true⟩
   refine ⟨by omega,⟨(k4+1),by omega,(cO (.cons rfl rfl (.cons rfl rfl (.cons rfl rfl .nil))) (.cons rfl rfl rfl .nil)),?_⟩⟩
   omega
  refine ⟨by omega,⟨(k2+1),by omega,(cO (.cons rfl rfl (.cons rfl rfl .nil)) (.cons rfl rfl rfl .nil)),?_⟩⟩
  omega
 refine LpG.on (fun k6:Nat=>(⟨fL [(5,.ptr 1 0 0),(12,.v (.int .i64 ((k6:Nat):Int)))],hLz [(1,⟨0,defA x.create_,0,false⟩)],3⟩:St)) (fun k6=>(x.create_.foreign_.length - k6)) (fun k6=>(k6≤x.create_.foreign_.length)) 0 (cO (.cons rfl rfl (.cons rfl rfl .nil)) (.cons rfl rfl rfl .nil)) (Nat.zero_le _) ?_
 rintro k6 hinv
 have hgr_k6:x.create_.foreign_.length≤140737488355328:=hx.create_.foreign_.1
 have hle_k6:=hinv
 refine LenG.of (cL (fun hlt74=>?_) (fun hge74=>?_))
 ·refine IdxG.of (by assumption) (ArgG.mk (twice_p (x.create_.foreign_[k6].columns_) (hx.create_.foreign_.2 _ (List.getElem_mem _)).columns_) rfl ?_)
  rintro _ ⟨b4,rfl,hb4⟩
  refine cB (fun hc83=>?_) (fun hc83=>?_)
  ·exact rV Tryz.results90 rfl ⟨_,rfl,fun h=>absurd h.symm Bool.false_ne_true⟩
  refine ⟨by omega,⟨(k6+1),by omega,(cO (.cons rfl rfl (.cons rfl rfl .nil)) (.cons rfl rfl rfl .nil)),?_⟩⟩
  omega
 exact rV Tryz.results90 rfl ⟨_,rfl,fun _=>⟨hk0.2 (by simpa using hc22),hdn⟩⟩
end Go.Proofs.YtjdblmpkeilbaaaGreatDoor
namespace Go.Proofs.YtjdblmpkeilbaaaGreatDoor
set_option linter.unusedVariables false
set_option linter.unusedSimpArgs false
open Go.RowKit
structure SmTab (t:GTab):Prop where
 cols:t.columns_.length≤20
 keys:t.keys_.length≤10
 fors:t.foreign_.length≤10
 chks:t.checks_.length≤10
 key:∀ k∈t.keys_,k.length≤20
 fcol:∀ f∈t.foreign_,f.columns_.length≤20
theorem bod48:bodied Tryz.prog 48=true:=by kernel_rfl
theorem row32:rowOf Tryz.prog 32=some (some 8):=by kernel_rfl
set_option maxRecDepth 100000 in
set_option maxHeartbeats 4000000 in
theorem fine_w (x:GEx) (hx:FitEx x) (d:Int) (hd:0≤d∧d≤1000) (ih:∀ r∈x.args_,∀ d:Int,(0≤d∧d≤1000)→PRet Tryz.prog 87 [.agg (rwA r),.v (.int .i64 d)] (fun r=>∃ b:Bool,r=.v (.bool b))):PRet Tryz.prog 87 [.agg (exA x),.v (.int .i64 d)] (fun r=>∃ b:Bool,r=.v (.bool b)):=by
 have hf1:x.table_.size≤140737488351232:=hx.table_
 have hf2:x.name_.size≤140737488351232:=hx.name_
 have hf3:x.value_.text_.size≤140737488351232:=hx.value_.text_
 refine PRet.of_vc infOk [40] [] Tryz.func87 rfl Tryz.ntmps87 rfl (by kernel_rfl) (cE (fun hq8=>?_) (fun hq8=>?_))
 ·refine cT (cT ?_)
  exact rV Tryz.results87 rfl ⟨_,rfl⟩
 refine LenG.of (cD (fun hq14=>?_) (fun hq14=>?_))
 ·exact cT (rV Tryz.results87 rfl ⟨_,rfl⟩)
 refine ⟨by omega,⟨by omega,?_⟩⟩
 refine cB (fun hc28=>?_) (fun hc28=>?_)
 ·exact rV Tryz.results87 rfl ⟨_,rfl⟩
 refine LpG.on (fun k0:Nat=>(⟨fL [(1,.v (.int .i64 d)),(2,.ptr 0 0 0),(5,.v (.int .i64 ((k0:Nat):Int)))],hLz [(0,⟨0,exA x,0,false⟩)],1⟩:St)) (fun k0=>(x.args_.length - k0)) (fun k0=>(k0≤x.args_.length)) 0 (cO (.cons rfl rfl (.cons rfl rfl (.cons rfl rfl .nil))) (.cons rfl rfl rfl .nil)) (Nat.zero_le _) ?_
 rintro k0 hinv
 have hgr_k0:x.args_.length≤140737488355328:=hx.args_.1
 have hle_k0:=hinv
 refine LenG.of (cL (fun hlt33=>?_) (fun hge33=>?_))
 ·refine IdxG.of (by assumption) (OpG.lk (LOp.ldTN row32 rfl (exTake (hx.args_.2 _ (List.getElem_mem _)))) ?_)
  refine ⟨by omega,ArgG.mk (ih (x.args_[k0]) (List.getElem_mem _) ((d - 1)) (by omega)) (show pureL [.agg (rwA x.args_[k0]),.v (.int .i64 (d - 1))]=true by simp [pureL,AV.pureB,exPure (hx.args_.2 _ (List.getElem_mem _))]) ?_⟩
  rintro _ ⟨b0,rfl⟩
  refine cB (fun hc44=>?_) (fun hc44=>?_)
  ·exact rV Tryz.results87 rfl ⟨_,rfl⟩
  refine ⟨by omega,⟨(k0+1),by omega,(cO (.cons rfl rfl (.cons rfl rfl (.cons rfl rfl .nil))) (.cons rfl rfl rfl .nil)),?_⟩⟩
  omega
 exact rV Tryz.results87 rfl ⟨_,rfl⟩
theorem fine_p (r:List AV) (hr:IsEx r) (d:Int) (hd:0≤d∧d≤1000):PRet Tryz.prog 87 [.agg (rwA r),.v (.int .i64 d)] (fun r=>∃ b:Bool,r=.v (.bool b)):=IsEx.ind (M:=fun r=>∀ d:Int,(0≤d∧d≤1000)→PRet Tryz.prog 87 [.agg (rwA r),.v (.int .i64 d)] (fun r=>∃ b:Bool,r=.v (.bool b))) (fun x hx ih d hd=>fine_w x hx d hd ih) hr d hd
set_option maxRecDepth 100000 in
set_option maxHeartbeats 4000000 in
theorem small_p (l:List GStn) (hl:FitL l (fun y=>FitStn y)):PRet Tryz.prog 48 [.tree 22 (l.map stnA)] (fun r=>∃ b:Bool,r=.v (.bool b)∧(b=true→∀ x∈l,x.create_.columns_.length≤20∧x.create_.checks_.length≤10)):=by
 refine PRet.of_vc infOk [126] [] Tryz.func48 rfl Tryz.ntmps48 rfl (by kernel_rfl) (LpG.on (fun k0:Nat=>(⟨fL [(0,.tree 22 (l.map stnA)),(3,.v (.int .i64 ((k0:Nat):Int)))],hLz [],0⟩:St)) (fun k0=>(l.length - k0)) (fun k0=>(k0≤l.length∧∀ j (hl:j < l.length),j < k0→l[j].create_.columns_.length≤20∧l[j].create_.checks_.length≤10)) 0 (cO (.cons rfl rfl (.cons rfl rfl .nil)) .nil) ⟨Nat.zero_le _,fun j _ h=>absurd h (Nat.not_lt_zero j)⟩ ?_)
 rintro k0 hinv
 have hgr_k0:l.length≤140737488355328:=hl.1
 obtain ⟨hle_k0,hj_k0⟩:=hinv
 refine LenG.of (cL (fun hlt12=>?_) (fun hge12=>?_))
 ·refine IdxG.of (by assumption) (IdxG.of (by assumption) ?_)
  refine cD (fun hq27=>?_) (fun hq27=>?_)
  ·refine cT (cT ?_)
   refine cT (cT ?_)
   exact rV Tryz.results48 rfl bF
  refine LenG.of (cD (fun hq33=>?_) (fun hq33=>?_))
  ·refine cT (cT ?_)
   exact cT (rV Tryz.results48 rfl bF)
  refine cF (cF ?_)
  refine LenG.of (cD (fun hq50=>?_) (fun hq50=>?_))
  ·exact rV Tryz.results48 rfl bF
  refine LpG.on (fun k2:Nat=>(⟨fL [(0,.tree 22 (l.map stnA)),(3,.v (.int .i64 ((k0:Nat):Int))),(4,.ptr 0 0 0),(5,.v (.int .i64 ((k2:Nat):Int)))],hLz [(0,⟨0,dfnA l[k0].create_,0,false⟩)],1⟩:St)) (fun k2=>(l[k0].create_.columns_.length - k2)) (fun k2=>(k2≤l[k0].create_.columns_.length)) 0 (cO (.cons rfl rfl (.cons rfl rfl (.cons rfl rfl (.cons rfl rfl .nil)))) (.cons rfl rfl rfl .nil)) (Nat.zero_le _) ?_
  rintro k2 hinv
  have hgr_k2:l[k0].create_.columns_.length≤140737488355328:=(hl.2 _ (List.getElem_mem _)).create_.columns_.1
  have hle_k2:=hinv
  refine LenG.of (cL (fun hlt55=>?_) (fun hge55=>?_))
  ·refine IdxG.of (by assumption) (cD (fun hq65=>?_) (fun hq65=>?_))
   ·exact rV Tryz.results48 rfl bF
   refine ⟨by omega,⟨(k2+1),by omega,(cO (.cons rfl rfl (.cons rfl rfl (.cons rfl rfl (.cons rfl rfl .nil)))) (.cons rfl rfl rfl .nil)),?_⟩⟩
   omega
  refine LpG.exit (cF ?_)
  refine LpG.exit (cF ?_)
  refine LpG.on (fun k8:Nat=>(⟨fL [(0,.tree 22 (l.map stnA)),(3,.v (.int .i64 ((k0:Nat):Int))),(4,.ptr 0 0 0),(8,.v (.int .i64 ((k8:Nat):Int)))],hLz [(0,⟨0,dfnA l[k0].create_,0,false⟩)],1⟩:St)) (fun k8=>(l[k0].create_.checks_.length - k8)) (fun k8=>(k8≤l[k0].create_.checks_.length)) 0 (cO (.cons rfl rfl (.cons rfl rfl (.cons rfl rfl (.cons rfl rfl .nil)))) (.cons rfl rfl rfl .nil)) (Nat.zero_le _) ?_
  rintro k8 hinv
  have hgr_k8:l[k0].create_.checks_.length≤140737488355328:=(hl.2 _ (List.getElem_mem _)).create_.checks_.1
  have hle_k8:=hinv
  refine LenG.of (cL (fun hlt119=>?_) (fun hge119=>?_))
  ·refine IdxG.of (by assumption) (OpG.lk (LOp.ldTN row32 rfl (exTake ((hl.2 _ (List.getElem_mem _)).create_.checks_.2 _ (List.getElem_mem _)))) ?_)
   refine ArgG.mk (fine_p (l[k0].create_.checks_[k8]) ((hl.2 _ (List.getElem_mem _)).create_.checks_.2 _ (List.getElem_mem _)) 4 (by omega)) (show pureL [.agg (rwA l[k0].create_.checks_[k8]),.v (.int .i64 4)]=true by simp [pureL,AV.pureB,exPure ((hl.2 _ (List.getElem_mem _)).create_.checks_.2 _ (List.getElem_mem _))]) ?_
   rintro _ ⟨b0,rfl⟩
   refine cB (fun hc128=>?_) (fun hc128=>?_)
   ·exact rV Tryz.results48 rfl bF
   refine ⟨by omega,⟨(k8+1),by omega,(cO (.cons rfl rfl (.cons rfl rfl (.cons rfl rfl (.cons rfl rfl .nil)))) (.cons rfl rfl rfl .nil)),?_⟩⟩
   omega
  refine ⟨by omega,⟨(k0+1),by omega,(cO (.cons rfl rfl (.cons rfl rfl .nil)) .nil),?_⟩⟩
  refine ⟨by omega,fun j hl h=>?_⟩
  rcases Nat.lt_succ_iff_lt_or_eq.1 h with h | rfl
  ·exact hj_k0 j hl h
  exact ⟨by omega,by omega⟩
 exact LenG.of (rV Tryz.results48 rfl ⟨_,rfl,fun _ x hx=>by obtain ⟨j,hj,rfl⟩:=List.getElem_of_mem hx; exact hj_k0 j hj (by omega)⟩)
set_option maxRecDepth 100000 in
set_option maxHeartbeats 4000000 in
theorem smallSchema_p (s:List GTab) (hs:FitL s (fun y=>FitTab y)):PRet Tryz.prog 18 [.tree 5 (s.map tabA)] (fun r=>∃ b:Bool,r=.v (.bool b)∧(b=true→s.length≤12∧∀ t∈s,SmTab t)):=by
 refine PRet.of_vc infOk [37] [] Tryz.func18 rfl Tryz.ntmps18 rfl (by kernel_rfl) (LpG.on (fun k0:Nat=>(⟨fL [(0,.tree 5 (s.map tabA)),(3,.v (.int .i64 ((k0:Nat):Int)))],hLz [],0⟩:St)) (fun k0=>(s.length - k0)) (fun k0=>(k0≤s.length∧∀ j (hl:j < s.length),j < k0→SmTab s[j])) 0 (cO (.cons rfl rfl (.cons rfl rfl .nil)) .nil) ⟨Nat.zero_le _,fun j _ h=>absurd h (Nat.not_lt_zero j)⟩ ?_)
 rintro k0 hinv
 have hgr_k0:s.length≤140737488355328:=hs.1
 obtain ⟨hle_k0,hj_k0⟩:=hinv
 refine LenG.of (cL (fun hlt10=>?_) (fun hge10=>?_))
 ·refine IdxG.of (by assumption) (LenG.of ?_)
  refine cD (fun hq21=>?_) (fun hq21=>?_)
  ·refine cT (cT ?_)
   exact rV Tryz.results18 rfl bF
  refine LenG.of (cD (fun hq27=>?_) (fun hq27=>?_))
  ·exact cT (rV Tryz.results18 rfl bF)
  obtain ⟨_,⟨b0,rfl,hb0⟩,hcl0⟩:=small_p [⟨s[k0].name_,⟨s[k0].columns_,s[k0].checks_⟩⟩] ⟨by simp,fun y hy=>by rw [List.mem_singleton.1 hy]; exact ⟨(hs.2 _ (List.getElem_mem _)).name_,⟨(hs.2 _ (List.getElem_mem _)).columns_,(hs.2 _ (List.getElem_mem _)).checks_⟩⟩⟩
  refine OpG.lk (LOp.callB [1] bod48 rfl (fun i h h'=>match i,h with | 0,_=>FzP.slMap (f:=stnA) (List.mem_singleton.2 rfl) rfl rfl rfl rfl rfl rfl (fun a _=>⟨rfl,rfl⟩)) hcl0) (cB (fun hc39=>?_) (fun hc39=>?_))
  ·exact rV Tryz.results18 rfl bF
  refine LpG.on (fun k2:Nat=>(⟨fL [(0,.tree 5 (s.map tabA)),(3,.v (.int .i64 ((k0:Nat):Int))),(4,.ptr 0 0 0),(5,.v (.int .i64 ((k2:Nat):Int)))],hLz [(0,⟨0,tabA s[k0],0,false⟩)],2⟩:St)) (fun k2=>(s[k0].keys_.length - k2)) (fun k2=>(k2≤s[k0].keys_.length∧∀ j (hl:j < s[k0].keys_.length),j < k2→(s[k0].keys_[j].length:Int)≤20)) 0 (cO (.cons rfl rfl (.cons rfl rfl (.cons rfl rfl (.cons rfl rfl .nil)))) (.cons rfl rfl rfl .nil)) ⟨Nat.zero_le _,fun j _ h=>absurd h (Nat.not_lt_zero j)⟩ ?_
  rintro k2 hinv
  have hgr_k2:s[k0].keys_.length≤140737488355328:=(hs.2 _ (List.getElem_mem _)).keys_.1
  obtain ⟨hle_k2,hj_k2⟩:=hinv
  refine LenG.of (cL (fun hlt44=>?_) (fun hge44=>?_))
  ·refine IdxG.of (by assumption) (LenG.of ?_)
   refine ArgG.mk (few_n ((s[k0].keys_[k2].length:Nat):Int)) rfl ?_
   rintro _ ⟨b1,rfl,hb1⟩
   refine cB (fun hc54=>?_) (fun hc54=>?_)
   ·exact rV Tryz.results18 rfl bF
   refine ⟨by omega,⟨(k2+1),by omega,(cO (.cons rfl rfl (.cons rfl rfl (.cons rfl rfl (.cons rfl rfl .nil)))) (.cons rfl rfl rfl .nil)),?_⟩⟩
   refine ⟨by omega,fun j hl h=>?_⟩
   rcases Nat.lt_succ_iff_lt_or_eq.1 h with h | rfl
   ·exact hj_k2 j hl h
   simp_all
  refine LpG.on (fun k4:Nat=>(⟨fL [(0,.tree 5 (s.map tabA)),(3,.v (.int .i64 ((k0:Nat):Int))),(4,.ptr 0 0 0),(6,.v (.int .i64 ((k4:Nat):Int)))],hLz [(0,⟨0,tabA s[k0],0,false⟩)],2⟩:St)) (fun k4=>(s[k0].foreign_.length - k4)) (fun k4=>(k4≤s[k0].foreign_.length∧∀ j (hl:j < s[k0].foreign_.length),j < k4→(s[k0].foreign_[j].columns_.length:Int)≤20)) 0 (cO (.cons rfl rfl (.cons rfl rfl (.cons rfl rfl (.cons rfl rfl .nil)))) (.cons rfl rfl rfl .nil)) ⟨Nat.zero_le _,fun j _ h=>absurd h (Nat.not_lt_zero j)⟩ ?_
  rintro k4 hinv
  have hgr_k4:s[k0].foreign_.length≤140737488355328:=(hs.2 _ (List.getElem_mem _)).foreign_.1
  obtain ⟨hle_k4,hj_k4⟩:=hinv
  refine LenG.of (cL (fun hlt59=>?_) (fun hge59=>?_))
  ·refine IdxG.of (by assumption) (LenG.of ?_)
   refine ArgG.mk (few_n ((s[k0].foreign_[k4].columns_.length:Nat):Int)) rfl ?_
   rintro _ ⟨b2,rfl,hb2⟩
   refine cB (fun hc70=>?_) (fun hc70=>?_)
   ·exact rV Tryz.results18 rfl bF
   refine ⟨by omega,⟨(k4+1),by omega,(cO (.cons rfl rfl (.cons rfl rfl (.cons rfl rfl (.cons rfl rfl .nil)))) (.cons rfl rfl rfl .nil)),?_⟩⟩
   refine ⟨by omega,fun j hl h=>?_⟩
   rcases Nat.lt_succ_iff_lt_or_eq.1 h with h | rfl
   ·exact hj_k4 j hl h
   simp_all
  refine ⟨by omega,⟨(k0+1),by omega,(cO (.cons rfl rfl (.cons rfl rfl .nil)) .nil),?_⟩⟩
  refine ⟨by omega,fun j hl h=>?_⟩
  rcases Nat.lt_succ_iff_lt_or_eq.1 h with h | rfl
  ·exact hj_k0 j hl h
  have hsm:=hb0 (by simp_all) _ (List.mem_singleton.2 rfl)
  exact ⟨hsm.1,by omega,by omega,hsm.2,fun k hk=>by obtain ⟨j,hj,rfl⟩:=List.getElem_of_mem hk; have:=hj_k2 j hj (by omega); omega,fun k hk=>by obtain ⟨j,hj,rfl⟩:=List.getElem_of_mem hk; have:=hj_k4 j hj (by omega); omega⟩
 exact LenG.of (rV Tryz.results18 rfl ⟨_,rfl,fun hr=>⟨by have:=of_decide_eq_true hr; omega,fun x hx=>by obtain ⟨j,hj,rfl⟩:=List.getElem_of_mem hx; exact hj_k0 j hj (by omega)⟩⟩)
end Go.Proofs.YtjdblmpkeilbaaaGreatDoor
namespace Go.Proofs.YtjdblmpkeilbaaaGreatDoor
set_option linter.unusedVariables false
set_option linter.unusedSimpArgs false
open Go.RowKit
def prnB (s:ByteArray):Bool:=allN s.size (prnP s)
def emptyB (s:ByteArray):Bool:=s.toList==(⟨#[]⟩:ByteArray).toList
/-- Is it a value? -/
def valB (v:GVal):Bool:=if v.kind_=0 then (v.int_==0&&emptyB v.text_) else if v.kind_=1 then emptyB v.text_ else if v.kind_=2 then (v.int_==0&&prnB v.text_&&decide ((v.text_.size:Int)≤16)) else false
theorem valB_of {v:GVal} (h:valB v=true):(v.kind_=0∧v.int_=0)∨v.kind_=1∨(v.kind_=2∧v.int_=0∧v.text_.size≤16):=by
 unfold valB at h
 split at h
 ·simp at h; exact .inl ⟨by assumption,h.1⟩
 split at h
 ·exact .inr (.inl (by assumption))
 split at h
 ·simp at h; exact .inr (.inr ⟨by assumption,h.1.1,by omega⟩)
 cases h
/-- What does not matter of a value is nothing. -/
def CanV (v:GVal):Prop:=(v.kind_=0→v.int_=0∧v.text_.toList=[])∧(v.kind_=1→v.text_.toList=[])∧(v.kind_=2→v.int_=0)
theorem emptyB_of {s:ByteArray} (h:emptyB s=true):s.toList=[]:=by
 unfold emptyB at h
 have e:(⟨#[]⟩:ByteArray).toList=[]:=by rw [ByteArray.toList,ByteArray.toList.loop]; rfl
 rw [e,beq_iff_eq] at h; exact h
theorem valB_can {v:GVal} (h:valB v=true):CanV v:=by
 unfold valB at h
 refine ⟨fun h0=>?_,fun h1=>?_,fun h2=>?_⟩
 ·rw [if_pos h0] at h; simp at h; exact ⟨h.1,emptyB_of h.2⟩
 ·rw [if_neg (by omega),if_pos h1] at h; exact emptyB_of h
 rw [if_neg (by omega),if_neg (by omega),if_pos h2] at h; simp at h; exact h.1.1
/-- An expression that is nested less than d deep, with at most two operands each. -/
inductive IsSh:Nat→List AV→Prop
 | mk {d:Nat} (x:GEx) (h:x.args_.length≤2) (ha:∀ r∈x.args_,IsSh d r):IsSh (d+1) (exA x)
/-- It holds the literal NULL. -/
inductive HasN:List AV→Prop
 | here (x:GEx) (h:x.op_=1) (hk:x.value_.kind_=0):HasN (exA x)
 | sub (x:GEx) (r:List AV) (hr:r∈x.args_) (h:HasN r):HasN (exA x)
theorem exA_inj {x y:GEx} (h:exA x=exA y):x=y:=by
 obtain ⟨a,b,c,d,⟨e,f,g⟩,l⟩:=x
 obtain ⟨a',b',c',d',⟨e',f',g'⟩,l'⟩:=y
 simp only [exA,List.cons.injEq,AV.v.injEq,Value.int.injEq,Value.string.injEq,AV.tree.injEq,true_and,and_true] at h
 obtain ⟨rfl,rfl,rfl,rfl,rfl,rfl,rfl,h⟩:=h
 have e:∀ z:List (List AV),z.map rwA=z:=fun z=>List.map_id z
 rw [e,e] at h
 subst h; rfl
theorem hasN_open {x:GEx}:HasN (exA x)↔(x.op_=1∧x.value_.kind_=0)∨∃ r∈x.args_,HasN r:=by
 constructor
 ·intro h
  generalize e:exA x=r at h
  cases h with
  | here y h hk=>rw [exA_inj e]; exact .inl ⟨h,hk⟩
  | sub y r hr h=>rw [exA_inj e]; exact .inr ⟨r,hr,h⟩
 rintro (⟨h,hk⟩ | ⟨r,hr,h⟩)
 ·exact .here x h hk
 exact .sub x r hr h
section
variable {l:List (List AV)} {A:Prop} {H:List AV→Prop} {b b2:Bool} {k:Nat}
theorem nextT (hi:b=true↔A∨∃ j,∃ hl:j < l.length,j < k∧H l[j]) (hb:b=true):true=true↔A∨∃ j,∃ hl:j < l.length,j < k+1∧H l[j]:=by
 refine ⟨fun _=>?_,fun _=>rfl⟩
 rcases hi.1 hb with h | ⟨j,hl,h1,h2⟩
 ·exact .inl h
 exact .inr ⟨j,hl,by omega,h2⟩
theorem nextF (hi:b=true↔A∨∃ j,∃ hl:j < l.length,j < k∧H l[j]) (hb:b=false) (hk:k < l.length) (h2:b2=true↔H l[k]):b2=true↔A∨∃ j,∃ hl:j < l.length,j < k+1∧H l[j]:=by
 rw [h2]
 constructor
 ·intro h; exact .inr ⟨k,hk,by omega,h⟩
 rintro (h | ⟨j,hl,h1,h3⟩)
 ·have:=hi.2 (.inl h); rw [hb] at this; cases this
 by_cases e:j=k
 ·subst e; exact h3
 have:=hi.2 (.inr ⟨j,hl,by omega,h3⟩); rw [hb] at this; cases this
end
theorem hasN_iff {x:GEx} {b:Bool} {k:Nat} (h1:k≤x.args_.length) (h2:x.args_.length≤k) (hi:b=true↔(x.op_=1∧x.value_.kind_=0)∨∃ j,∃ hl:j < x.args_.length,j < k∧HasN x.args_[j]):b=true↔HasN (exA x):=by
 rw [hi,hasN_open]
 constructor
 ·rintro (h | ⟨j,hl,_,h⟩)
  ·exact .inl h
  exact .inr ⟨_,List.getElem_mem hl,h⟩
 rintro (h | ⟨r,hr,h⟩)
 ·exact .inl h
 obtain ⟨j,hj,rfl⟩:=List.getElem_of_mem hr
 exact .inr ⟨j,hj,by omega,h⟩
set_option maxRecDepth 100000 in
set_option maxHeartbeats 4000000 in
theorem printable04_p (s:ByteArray) (hs:FitS s):PRet Tryz.prog 134 [.v (.string s)] (fun r=>r=.v (.bool (prnB s))):=by
 refine PRet.of_vc infOk [] [] Tryz.func134 rfl Tryz.ntmps134 rfl (by kernel_rfl) (LpG.on (fun k0:Nat=>(⟨fL [(0,.v (.string s)),(3,.v (.int .i64 ((k0:Nat):Int)))],hLz [],0⟩:St)) (fun k0=>(s.size - k0)) (fun k0=>(k0≤s.size∧∀ j (hl:j < s.size),j < k0→prnP s j=true)) 0 (cO (.cons rfl rfl (.cons rfl rfl .nil)) .nil) ⟨Nat.zero_le _,fun j _ h=>absurd h (Nat.not_lt_zero j)⟩ ?_)
 rintro k0 hinv
 have hgr_k0:s.size≤140737488355328:=Nat.le_trans hs (by decide)
 obtain ⟨hle_k0,hj_k0⟩:=hinv
 refine cL (fun hlt7=>?_) (fun hge7=>?_)
 ·refine ⟨(by assumption),cB (fun hg14=>?_) (fun hg14=>?_)⟩
  ·refine cT (rV Tryz.results134 rfl ?_)
   (refine vb_eq (Eq.symm (allN_hit hlt7 ?_)); simp only [prnP]; simp_all)
  refine ⟨(by assumption),cB (fun hc19=>?_) (fun hc19=>?_)⟩
  ·refine rV Tryz.results134 rfl ?_
   (refine vb_eq (Eq.symm (allN_hit hlt7 ?_)); simp only [prnP]; simp_all)
  refine ⟨by omega,⟨(k0+1),by omega,(cO (.cons rfl rfl (.cons rfl rfl .nil)) .nil),?_⟩⟩
  refine ⟨by omega,fun j hl h=>?_⟩
  rcases Nat.lt_succ_iff_lt_or_eq.1 h with h | rfl
  ·exact hj_k0 j hl h
  simp only [prnP]; simp_all
 exact rV Tryz.results134 rfl (vb_eq (Eq.symm (allN_end hle_k0 hge7 (fun j h=>hj_k0 j (by omega) h))))
set_option maxRecDepth 100000 in
set_option maxHeartbeats 4000000 in
theorem valid04x_p (v:GVal) (hv:FitVal v):PRet Tryz.prog 92 [.agg (gvA v)] (fun r=>r=.v (.bool (valB v))):=by
 refine PRet.of_vc infOk [] [] Tryz.func92 rfl Tryz.ntmps92 rfl (by kernel_rfl) ?_
 refine cB (fun hc5=>?_) (fun hc5=>?_)
 ·have hq5:(v.kind_:Int)=(0:Int):=by simpa using hc5
  refine cB (fun hg10=>?_) (fun hg10=>?_)
  ·have hq10:(v.int_:Int)=(0:Int):=by simpa using hg10
   refine rV Tryz.results92 rfl ?_
   refine vb_eq ?_
   unfold valB emptyB
   simp_all; done
  have hq10:¬ ((v.int_:Int)=(0:Int)):=by simpa using hg10
  refine rV Tryz.results92 rfl ?_
  refine vb_eq ?_
  unfold valB emptyB
  simp_all; done
 have hq5:¬ ((v.kind_:Int)=(0:Int)):=by simpa using hc5
 refine cB (fun hc15=>?_) (fun hc15=>?_)
 ·have hq15:(v.kind_:Int)=(1:Int):=by simpa using hc15
  refine rV Tryz.results92 rfl ?_
  refine vb_eq ?_
  unfold valB emptyB
  simp_all; done
 have hq15:¬ ((v.kind_:Int)=(1:Int)):=by simpa using hc15
 refine cB (fun hc20=>?_) (fun hc20=>?_)
 ·have hq20:(v.kind_:Int)=(2:Int):=by simpa using hc20
  refine cB (fun hg25=>?_) (fun hg25=>?_)
  ·have hq25:(v.int_:Int)=(0:Int):=by simpa using hg25
   refine ArgG.mk (printable04_p v.text_ hv.text_) rfl ?_
   rintro _ rfl
   refine cB (fun hg30=>?_) (fun hg30=>?_)
   ·refine rV Tryz.results92 rfl ?_
    refine vb_eq ?_
    unfold valB emptyB
    simp_all; done
   refine rV Tryz.results92 rfl ?_
   refine vb_eq ?_
   unfold valB emptyB
   simp_all; done
  have hq25:¬ ((v.int_:Int)=(0:Int)):=by simpa using hg25
  refine cF (rV Tryz.results92 rfl ?_)
  refine vb_eq ?_
  unfold valB emptyB
  simp_all; done
 have hq20:¬ ((v.kind_:Int)=(2:Int)):=by simpa using hc20
 refine rV Tryz.results92 rfl ?_
 refine vb_eq ?_
 unfold valB emptyB
 simp_all; done
theorem valid04_p (v:GVal) (hv:FitVal v):PRet Tryz.prog 92 [.agg (gvA v)] (fun r=>∃ b:Bool,r=.v (.bool b)∧(b=true→(v.kind_=0∧v.int_=0)∨v.kind_=1∨(v.kind_=2∧v.int_=0∧v.text_.size≤16))∧(b=true→CanV v)):=(valid04x_p v hv).mono fun _ h=>⟨_,h,valB_of,valB_can⟩
set_option maxRecDepth 100000 in
set_option maxHeartbeats 4000000 in
theorem short_w (x:GEx) (hx:FitEx x) (d:Int) (hd:0≤d∧d≤1000) (ih:∀ r∈x.args_,∀ d:Int,(0≤d∧d≤1000)→PRet Tryz.prog 55 [.agg (rwA r),.v (.int .i64 d)] (fun q=>∃ b:Bool,q=.v (.bool b)∧(b=true→IsSh d.toNat r))):PRet Tryz.prog 55 [.agg (exA x),.v (.int .i64 d)] (fun r=>∃ b:Bool,r=.v (.bool b)∧(b=true→IsSh d.toNat (exA x))):=by
 refine PRet.of_vc infOk [25] [] Tryz.func55 rfl Tryz.ntmps55 rfl (by kernel_rfl) (cE (fun hq8=>?_) (fun hq8=>?_))
 ·exact cT (rV Tryz.results55 rfl bF)
 refine LenG.of (cD (fun hq13=>?_) (fun hq13=>?_))
 ·exact rV Tryz.results55 rfl bF
 refine LpG.on (fun k0:Nat=>(⟨fL [(1,.v (.int .i64 d)),(2,.ptr 0 0 0),(5,.v (.int .i64 ((k0:Nat):Int)))],hLz [(0,⟨0,exA x,0,false⟩)],1⟩:St)) (fun k0=>(x.args_.length - k0)) (fun k0=>(k0≤x.args_.length∧∀ j (hl:j < x.args_.length),j < k0→IsSh (d - 1).toNat x.args_[j])) 0 (cO (.cons rfl rfl (.cons rfl rfl (.cons rfl rfl .nil))) (.cons rfl rfl rfl .nil)) ⟨Nat.zero_le _,fun j _ h=>absurd h (Nat.not_lt_zero j)⟩ ?_
 rintro k0 hinv
 have hgr_k0:x.args_.length≤140737488355328:=hx.args_.1
 obtain ⟨hle_k0,hj_k0⟩:=hinv
 refine LenG.of (cL (fun hlt18=>?_) (fun hge18=>?_))
 ·refine IdxG.of (by assumption) (OpG.lk (LOp.ldTN row32 rfl (exTake (hx.args_.2 _ (List.getElem_mem _)))) ?_)
  refine ⟨by omega,ArgG.mk (ih (x.args_[k0]) (List.getElem_mem _) ((d - 1)) (by omega)) (show pureL [.agg (rwA x.args_[k0]),.v (.int .i64 (d - 1))]=true by simp [pureL,AV.pureB,exPure (hx.args_.2 _ (List.getElem_mem _))]) ?_⟩
  rintro _ ⟨b0,rfl,hb0⟩
  refine cB (fun hc29=>?_) (fun hc29=>?_)
  ·exact rV Tryz.results55 rfl bF
  refine ⟨by omega,⟨(k0+1),by omega,(cO (.cons rfl rfl (.cons rfl rfl (.cons rfl rfl .nil))) (.cons rfl rfl rfl .nil)),?_⟩⟩
  refine ⟨by omega,fun j hl h=>?_⟩
  rcases Nat.lt_succ_iff_lt_or_eq.1 h with h | rfl
  ·exact hj_k0 j hl h
  exact hb0 (by simpa using hc29)
 exact rV Tryz.results55 rfl ⟨_,rfl,fun _=>by rw [show d.toNat=(d - 1).toNat+1 by omega]; exact .mk _ (by omega) (fun r hr=>by obtain ⟨j,hj,rfl⟩:=List.getElem_of_mem hr; exact hj_k0 j hj (by omega))⟩
theorem short_p (r:List AV) (hr:IsEx r) (d:Int) (hd:0≤d∧d≤1000):PRet Tryz.prog 55 [.agg (rwA r),.v (.int .i64 d)] (fun q=>∃ b:Bool,q=.v (.bool b)∧(b=true→IsSh d.toNat r)):=IsEx.ind (M:=fun r=>∀ d:Int,(0≤d∧d≤1000)→PRet Tryz.prog 55 [.agg (rwA r),.v (.int .i64 d)] (fun q=>∃ b:Bool,q=.v (.bool b)∧(b=true→IsSh d.toNat r))) (fun x hx ih d hd=>short_w x hx d hd ih) hr d hd
set_option maxRecDepth 100000 in
set_option maxHeartbeats 4000000 in
theorem null_w (x:GEx) (hx:FitEx x) (ih:∀ r∈x.args_,PRet Tryz.prog 57 [.agg (rwA r)] (fun q=>∃ b:Bool,q=.v (.bool b)∧(b=true↔HasN r))):PRet Tryz.prog 57 [.agg (exA x)] (fun q=>∃ b:Bool,q=.v (.bool b)∧(b=true↔HasN (exA x))):=by
 refine PRet.of_vc infOk [27] [] Tryz.func57 rfl Tryz.ntmps57 rfl (by kernel_rfl) (cE (fun hq8=>?_) (fun hq8=>?_))
 ·refine LpG.on (fun k0:KB=>(⟨fL [(1,.ptr 0 0 0),(3,.v (.bool k0.b)),(4,.v (.int .i64 ((k0.k:Nat):Int)))],hLz [(0,⟨0,exA x,0,false⟩)],1⟩:St)) (fun k0=>(x.args_.length - k0.k)) (fun k0=>(k0.k≤x.args_.length∧(k0.b=true↔(x.op_=1∧x.value_.kind_=0)∨∃ j,∃ hl:j < x.args_.length,j < k0.k∧HasN x.args_[j]))) (⟨0,_⟩:KB) (cO (.cons rfl rfl (.cons rfl rfl (.cons rfl rfl .nil))) (.cons rfl rfl rfl .nil)) ⟨Nat.zero_le _,(by simp_all)⟩ ?_
  rintro k0 hinv
  have hgr_k0:x.args_.length≤140737488355328:=hx.args_.1
  obtain ⟨hle_k0,hi_k0⟩:=hinv
  refine LenG.of (cL (fun hlt18=>?_) (fun hge18=>?_))
  ·refine cB (fun hg22=>?_) (fun hg22=>?_)
   ·refine ⟨by omega,⟨(⟨k0.k+1,_⟩:KB),(by show x.args_.length - (k0.k+1) < x.args_.length - k0.k; omega),(cO (.cons rfl rfl (.cons rfl rfl (.cons rfl rfl .nil))) (.cons rfl rfl rfl .nil)),?_⟩⟩
    exact ⟨by show k0.k+1≤_; omega,nextT hi_k0 (by assumption)⟩
   refine IdxG.of (by assumption) (OpG.lk (LOp.ldTN row32 rfl (exTake (hx.args_.2 _ (List.getElem_mem _)))) ?_)
   refine ArgG.mk (ih (x.args_[k0.k]) (List.getElem_mem _)) (show pureL [.agg (rwA x.args_[k0.k])]=true by simp [pureL,AV.pureB,exPure (hx.args_.2 _ (List.getElem_mem _))]) ?_
   rintro _ ⟨b0,rfl,hb0⟩
   refine ⟨by omega,⟨(⟨k0.k+1,_⟩:KB),(by show x.args_.length - (k0.k+1) < x.args_.length - k0.k; omega),(cO (.cons rfl rfl (.cons rfl rfl (.cons rfl rfl .nil))) (.cons rfl rfl rfl .nil)),?_⟩⟩
   exact ⟨by show k0.k+1≤_; omega,nextF hi_k0 (by assumption) hlt18 (by assumption)⟩
  exact rV Tryz.results57 rfl ⟨_,rfl,hasN_iff hle_k0 (by omega) hi_k0⟩
 refine LpG.on (fun k0:KB=>(⟨fL [(1,.ptr 0 0 0),(3,.v (.bool k0.b)),(4,.v (.int .i64 ((k0.k:Nat):Int)))],hLz [(0,⟨0,exA x,0,false⟩)],1⟩:St)) (fun k0=>(x.args_.length - k0.k)) (fun k0=>(k0.k≤x.args_.length∧(k0.b=true↔(x.op_=1∧x.value_.kind_=0)∨∃ j,∃ hl:j < x.args_.length,j < k0.k∧HasN x.args_[j]))) (⟨0,_⟩:KB) (cO (.cons rfl rfl (.cons rfl rfl (.cons rfl rfl .nil))) (.cons rfl rfl rfl .nil)) ⟨Nat.zero_le _,(by simp_all)⟩ ?_
 rintro k0 hinv
 have hgr_k0:x.args_.length≤140737488355328:=hx.args_.1
 obtain ⟨hle_k0,hi_k0⟩:=hinv
 refine LenG.of (cL (fun hlt18=>?_) (fun hge18=>?_))
 ·refine cB (fun hg22=>?_) (fun hg22=>?_)
  ·refine ⟨by omega,⟨(⟨k0.k+1,_⟩:KB),(by show x.args_.length - (k0.k+1) < x.args_.length - k0.k; omega),(cO (.cons rfl rfl (.cons rfl rfl (.cons rfl rfl .nil))) (.cons rfl rfl rfl .nil)),?_⟩⟩
   exact ⟨by show k0.k+1≤_; omega,nextT hi_k0 (by assumption)⟩
  refine IdxG.of (by assumption) (OpG.lk (LOp.ldTN row32 rfl (exTake (hx.args_.2 _ (List.getElem_mem _)))) ?_)
  refine ArgG.mk (ih (x.args_[k0.k]) (List.getElem_mem _)) (show pureL [.agg (rwA x.args_[k0.k])]=true by simp [pureL,AV.pureB,exPure (hx.args_.2 _ (List.getElem_mem _))]) ?_
  rintro _ ⟨b1,rfl,hb1⟩
  refine ⟨by omega,⟨(⟨k0.k+1,_⟩:KB),(by show x.args_.length - (k0.k+1) < x.args_.length - k0.k; omega),(cO (.cons rfl rfl (.cons rfl rfl (.cons rfl rfl .nil))) (.cons rfl rfl rfl .nil)),?_⟩⟩
  exact ⟨by show k0.k+1≤_; omega,nextF hi_k0 (by assumption) hlt18 (by assumption)⟩
 exact rV Tryz.results57 rfl ⟨_,rfl,hasN_iff hle_k0 (by omega) hi_k0⟩
theorem null_p (r:List AV) (hr:IsEx r):PRet Tryz.prog 57 [.agg (rwA r)] (fun q=>∃ b:Bool,q=.v (.bool b)∧(b=true↔HasN r)):=IsEx.ind (M:=fun r=>PRet Tryz.prog 57 [.agg (rwA r)] (fun q=>∃ b:Bool,q=.v (.bool b)∧(b=true↔HasN r))) (fun x hx ih=>null_w x hx ih) hr
end Go.Proofs.YtjdblmpkeilbaaaGreatDoor
namespace Go.Proofs.YtjdblmpkeilbaaaGreatDoor
set_option linter.unusedVariables false
set_option linter.unusedSimpArgs false
open Go.RowKit
/-- A text operand: a column of texts or a literal. -/
inductive TextE (l:List PVar):List AV→Prop
 | mk (x:GEx) (ha:x.args_=[]) (h:(x.op_=2∧∃ j,∃ h:j < l.length,x.index_=((j:Nat):Int)∧l[j].t=2)∨(x.op_=1∧x.value_.kind_=2)):TextE l (exA x)
theorem textE_open {l:List PVar} {x:GEx} (h:TextE l (exA x)):x.args_=[]∧((x.op_=2∧∃ j,∃ h:j < l.length,x.index_=((j:Nat):Int)∧l[j].t=2)∨(x.op_=1∧x.value_.kind_=2)):=by
 generalize e:exA x=r at h
 cases h with
 | mk y ha h=>rw [exA_inj e]; exact ⟨ha,h⟩
theorem sz96:sizeInfo Tryz.prog 96=some 5:=by kernel_rfl
set_option maxRecDepth 100000 in
set_option maxHeartbeats 4000000 in
theorem typed_p (v:Int) (kd:Int) (l:List PVar) (hl:FitL l (fun y=>True)):PRet Tryz.prog 135 [.v (.int .i64 v),.v (.int .i64 kd),.tree 5 (l.map vA)] (fun r=>∃ b:Bool,r=.v (.bool b)∧(b=true→∃ j,∃ h:j < l.length,v=((j:Nat):Int)∧l[j].t=kd)):=by
 refine PRet.of_vc infOk [18] [] Tryz.func135 rfl Tryz.ntmps135 rfl (by kernel_rfl) ?_
 refine cD (fun hq9=>?_) (fun hq9=>?_)
 ·refine LenG.of (cD (fun hq15=>?_) (fun hq15=>?_))
  ·obtain ⟨j1,hje1,hjl1⟩:∃ j:Nat,v=((j:Nat):Int)∧j < l.length:=⟨(v).toNat,by omega,by omega⟩
   refine OpG.lk (LOp.indexI Tryz.underlying60 sz96 rfl rfl hje1 hjl1) ?_
   exact rV Tryz.results135 rfl ⟨_,rfl,fun hr=>⟨j1,hjl1,hje1,by simpa using hr⟩⟩
  exact rV Tryz.results135 rfl bF
 exact cF (rV Tryz.results135 rfl bF)
set_option maxRecDepth 100000 in
set_option maxHeartbeats 4000000 in
theorem text_w (x:GEx) (hx:FitEx x) (l:List PVar) (hl:FitL l (fun y=>True)):PRet Tryz.prog 58 [.agg (exA x),.tree 5 (l.map vA)] (fun q=>∃ b:Bool,q=.v (.bool b)∧(b=true→TextE l (exA x))∧(b=false→¬ TextE l (exA x))):=by
 refine PRet.of_vc infOk [26] [] Tryz.func58 rfl Tryz.ntmps58 rfl (by kernel_rfl) ?_
 refine LenG.of (cB (fun hc8=>?_) (fun hc8=>?_))
 ·have hq8:¬ (((x.args_.length:Nat):Int)=(0:Int)):=by simpa using hc8
  exact rV Tryz.results58 rfl ⟨_,rfl,fun h=>absurd h Bool.false_ne_true,fun _ hh=>by obtain ⟨q0,⟨q1,j,hj,q2,q3⟩ | ⟨q1,q2⟩⟩:=textE_open hh <;> first | (simp_all; done) | (simp_all; omega)⟩
 have hq8:((x.args_.length:Nat):Int)=(0:Int):=by simpa using hc8
 have harg:x.args_=[]:=by simpa using hc8
 refine cB (fun hc11=>?_) (fun hc11=>?_)
 ·have hq11:(x.op_:Int)=(2:Int):=by simpa using hc11
  refine cB (fun hg15=>?_) (fun hg15=>?_)
  ·have hq15:(x.index_:Int)≥(0:Int):=of_decide_eq_true hg15
   refine LenG.of (cB (fun hg22=>?_) (fun hg22=>?_))
   ·have hq22:(x.index_:Int) < ((l.length:Nat):Int):=of_decide_eq_true hg22
    obtain ⟨j1,hje1,hjl1⟩:∃ j:Nat,x.index_=((j:Nat):Int)∧j < l.length:=⟨(x.index_).toNat,by omega,by omega⟩
    refine OpG.lk (LOp.indexI Tryz.underlying60 sz96 rfl rfl hje1 hjl1) ?_
    exact rV Tryz.results58 rfl ⟨_,rfl,fun hr=>.mk x harg (.inl ⟨by assumption,j1,hjl1,hje1,by simpa using hr⟩),fun hr hh=>by obtain ⟨q0,⟨q1,j,hj,q2,q3⟩ | ⟨q1,q2⟩⟩:=textE_open hh <;> first | omega | ((obtain rfl:j=j1:=by omega); simp_all; done)⟩
   have hq22:¬ ((x.index_:Int) < ((l.length:Nat):Int)):=of_decide_eq_false hg22
   exact rV Tryz.results58 rfl ⟨_,rfl,fun h=>absurd h Bool.false_ne_true,fun _ hh=>by obtain ⟨q0,⟨q1,j,hj,q2,q3⟩ | ⟨q1,q2⟩⟩:=textE_open hh <;> first | (simp_all; done) | (simp_all; omega)⟩
  have hq15:¬ ((x.index_:Int)≥(0:Int)):=of_decide_eq_false hg15
  exact cF (rV Tryz.results58 rfl ⟨_,rfl,fun h=>absurd h Bool.false_ne_true,fun _ hh=>by obtain ⟨q0,⟨q1,j,hj,q2,q3⟩ | ⟨q1,q2⟩⟩:=textE_open hh <;> first | (simp_all; done) | (simp_all; omega)⟩)
 have hq11:¬ ((x.op_:Int)=(2:Int)):=by simpa using hc11
 refine cB (fun hg34=>?_) (fun hg34=>?_)
 ·have hq34:(x.op_:Int)=(1:Int):=by simpa using hg34
  exact rV Tryz.results58 rfl ⟨_,rfl,fun hr=>.mk x harg (.inr ⟨by assumption,by simpa using hr⟩),fun hr hh=>by obtain ⟨q0,⟨q1,j,hj,q2,q3⟩ | ⟨q1,q2⟩⟩:=textE_open hh <;> first | omega | (simp_all; done)⟩
 have hq34:¬ ((x.op_:Int)=(1:Int)):=by simpa using hg34
 exact rV Tryz.results58 rfl ⟨_,rfl,fun h=>absurd h Bool.false_ne_true,fun _ hh=>by obtain ⟨q0,⟨q1,j,hj,q2,q3⟩ | ⟨q1,q2⟩⟩:=textE_open hh <;> first | (simp_all; done) | (simp_all; omega)⟩
theorem text_p (r:List AV) (hr:IsEx r) (l:List PVar) (hl:FitL l (fun y=>True)):PRet Tryz.prog 58 [.agg (rwA r),.tree 5 (l.map vA)] (fun q=>∃ b:Bool,q=.v (.bool b)∧(b=true→TextE l r)∧(b=false→¬ TextE l r)):=by
 obtain ⟨x,rfl,hx⟩:=hr.open_
 exact text_w x hx l hl
set_option maxRecDepth 100000 in
set_option maxHeartbeats 4000000 in
theorem place_p (op:Int):PRet Tryz.prog 93 [.v (.int .i64 op)] (fun r=>∃ p:Int,r=.v (.int .i64 p)∧(0≤p→10≤op∧op≤15)):=by
 refine PRet.of_vc infOk [] [] Tryz.func93 rfl Tryz.ntmps93 rfl (by kernel_rfl) (LpG.unr (ULp.step ?_))
 refine cT ⟨(by first | assumption | omega | decide),cB (fun hc13=>?_) (fun hc13=>?_)⟩
 ·have hq13:(10:Int)=(op:Int):=by simpa using hc13
  exact rV Tryz.results93 rfl ⟨_,rfl,fun _=>by omega⟩
 have hq13:¬ ((10:Int)=(op:Int)):=by simpa using hc13
 refine ⟨by omega,ULp.step ?_⟩
 refine cT ⟨(by first | assumption | omega | decide),cB (fun hc13=>?_) (fun hc13=>?_)⟩
 ·have hq13:(11:Int)=(op:Int):=by simpa using hc13
  exact rV Tryz.results93 rfl ⟨_,rfl,fun _=>by omega⟩
 have hq13:¬ ((11:Int)=(op:Int)):=by simpa using hc13
 refine ⟨by omega,ULp.step ?_⟩
 refine cT ⟨(by first | assumption | omega | decide),cB (fun hc13=>?_) (fun hc13=>?_)⟩
 ·have hq13:(12:Int)=(op:Int):=by simpa using hc13
  exact rV Tryz.results93 rfl ⟨_,rfl,fun _=>by omega⟩
 have hq13:¬ ((12:Int)=(op:Int)):=by simpa using hc13
 refine ⟨by omega,ULp.step ?_⟩
 refine cT ⟨(by first | assumption | omega | decide),cB (fun hc13=>?_) (fun hc13=>?_)⟩
 ·have hq13:(13:Int)=(op:Int):=by simpa using hc13
  exact rV Tryz.results93 rfl ⟨_,rfl,fun _=>by omega⟩
 have hq13:¬ ((13:Int)=(op:Int)):=by simpa using hc13
 refine ⟨by omega,ULp.step ?_⟩
 refine cT ⟨(by first | assumption | omega | decide),cB (fun hc13=>?_) (fun hc13=>?_)⟩
 ·have hq13:(14:Int)=(op:Int):=by simpa using hc13
  exact rV Tryz.results93 rfl ⟨_,rfl,fun _=>by omega⟩
 have hq13:¬ ((14:Int)=(op:Int)):=by simpa using hc13
 refine ⟨by omega,ULp.step ?_⟩
 refine cT ⟨(by first | assumption | omega | decide),cE (fun hq13=>?_) (fun hq13=>?_)⟩
 ·exact rV Tryz.results93 rfl ⟨_,rfl,fun _=>by omega⟩
 refine ⟨by omega,ULp.step ?_⟩
 exact cF (rV Tryz.results93 rfl ⟨_,rfl,fun _=>by omega⟩)
end Go.Proofs.YtjdblmpkeilbaaaGreatDoor
namespace Go.Proofs.YtjdblmpkeilbaaaGreatDoor
set_option linter.unusedVariables false
set_option linter.unusedSimpArgs false
open Go.RowKit
theorem if_res7 {a b:Bool} {w:World}:(if a=false then Result.ok false w else Result.ok b w)=Result.ok (a&&b) w:=by cases a <;> rfl
set_option maxRecDepth 100000 in
theorem eqV_run (k1 i1 k2 i2:Int) (t1 t2:ByteArray) (w:World):(Op.equalIn 10000 30 (.agg #[.int .i64 k1,.int .i64 i1,.string t1]) (.agg #[.int .i64 k2,.int .i64 i2,.string t2])).run Tryz.prog w=.ok (k1==k2&&(i1==i2&&t1.toList==t2.toList)) w:=by
 rw [run_equalIn_agg w 9999 30 _ _ (show Tryz.prog.underlying 30=some (.struct (Tryz.prog.fieldsOf 30)) by kernel_rfl) (by kernel_rfl)]
 simp only [Program.fieldsOf,Tryz.underlying30]
 simp [Op.eqFields,part,run_equalIn_int _ 9998 3 _ _ _ _ Tryz.underlying3,run_equalIn_int _ 9998 2 _ _ _ _ Tryz.underlying2,run_equalIn_string _ 9998 9 _ _ Tryz.underlying9,if_res7]
theorem egV:Tryz.prog.eqGuardType Tryz.prog.depth 30=false:=by kernel_rfl
section
variable {τ:Nat→AV} {η:Heap} {d:Option Tmp} {ty:TypeId} {pos:String} {af:Array Edge} {g:Option (Nat×Bool)}
theorem LOp.eqVal {t':Nat} {x y:Operand} {k1 i1 k2 i2:Int} {t1 t2:ByteArray} (hx:aev τ x=.agg [.v (.int .i64 k1),.v (.int .i64 i1),.v (.string t1)]) (hy:aev τ y=.agg [.v (.int .i64 k2),.v (.int .i64 i2),.v (.string t2)]) :
  LOp Tryz.prog ⟨d,.binOp .eql 30 x y t',ty,pos,af,g⟩ τ η [] [] (.v (.bool (k1==k2&&(i1==i2&&t1.toList==t2.toList)))) :=
 .look [] fun C a _ hq _=>by
  have e1:=hq x (by simp [Op.operands])
  have e2:=hq y (by simp [Op.operands])
  rw [hx] at e1
  rw [hy] at e2
  have f1:=toVE_ok (y:=.agg #[.int .i64 k1,.int .i64 i1,.string t1]) e1 rfl
  have f2:=toVE_ok (y:=.agg #[.int .i64 k2,.int .i64 i2,.string t2]) e2 rfl
  refine ⟨_,?_,VR.v C _⟩
  simp only [execOp,f1,f2,Sem.run_bind,run_eqGuard_agg C.w .eql 30 x y _ _ egV,Result.andThen_ok,run_eql_struct,eqV_run,Sem.run_pure]
theorem LOp.neVal {t':Nat} {x y:Operand} {k1 i1 k2 i2:Int} {t1 t2:ByteArray} (hx:aev τ x=.agg [.v (.int .i64 k1),.v (.int .i64 i1),.v (.string t1)]) (hy:aev τ y=.agg [.v (.int .i64 k2),.v (.int .i64 i2),.v (.string t2)]) :
  LOp Tryz.prog ⟨d,.binOp .neq 30 x y t',ty,pos,af,g⟩ τ η [] [] (.v (.bool (!(k1==k2&&(i1==i2&&t1.toList==t2.toList))))) :=
 .look [] fun C a _ hq _=>by
  have e1:=hq x (by simp [Op.operands])
  have e2:=hq y (by simp [Op.operands])
  rw [hx] at e1
  rw [hy] at e2
  have f1:=toVE_ok (y:=.agg #[.int .i64 k1,.int .i64 i1,.string t1]) e1 rfl
  have f2:=toVE_ok (y:=.agg #[.int .i64 k2,.int .i64 i2,.string t2]) e2 rfl
  refine ⟨_,?_,VR.v C _⟩
  simp only [execOp,f1,f2,Sem.run_bind,run_eqGuard_agg C.w .neq 30 x y _ _ egV,Result.andThen_ok,run_neq_struct,eqV_run,Sem.run_pure]
end
/-- A valid integer expression, in which NULL may stand. -/
inductive IntE (l:List PVar):List AV→Prop
 | lit (x:GEx) (h:x.op_=1) (ha:x.args_=[]) (hk:x.value_.kind_=1∨x.value_.kind_=0) (hc:CanV x.value_):IntE l (exA x)
 | col (x:GEx) (h:x.op_=2) (ha:x.args_=[]) (hj:∃ j,∃ h:j < l.length,x.index_=((j:Nat):Int)∧l[j].t=1):IntE l (exA x)
 | len (x a:GEx) (h:x.op_=9) (ha:x.args_=[exA a]) (haa:a.args_=[]) (ht:TextE l (exA a)∨(a.op_=1∧a.value_.kind_=0)):IntE l (exA x)
 | neg (x:GEx) (h:x.op_=3) (ha:x.args_.length=1) (hs:∀ r∈x.args_,IntE l r):IntE l (exA x)
 | bin (x:GEx) (h:4≤x.op_∧x.op_≤8) (ha:x.args_.length=2) (hs:∀ r∈x.args_,IntE l r):IntE l (exA x)
theorem one_list {α:Type} {l:List α} {a:α} (h:(l.length:Int)=1) (h0:l[0]'(by omega)=a):l=[a]:=by
 match l,h,h0 with
 | [b],_,h0=>simp at h0; rw [h0]
set_option maxRecDepth 100000 in
set_option maxHeartbeats 4000000 in
theorem expr0_w (x:GEx) (hx:FitEx x):PRet Tryz.prog 53 [.agg (exA x),.agg [.v (.int .i64 0),.v (.string ⟨#[]⟩),.v (.string ⟨#[]⟩),.v (.int .i64 0),.v (.int .i64 0),.v (.int .i64 0),.v (.string ⟨#[]⟩),.v (.slice none 0 0)]] (fun r=>∃ b:Bool,r=.v (.bool b)∧(b=true→x.op_=0)):=by
 refine PRet.of_vc infOk [] [] Tryz.func53 rfl Tryz.ntmps53 rfl (by kernel_rfl) (cB (fun hg11=>?_) (fun hg11=>?_))
 ·refine cT (cT ?_)
  refine cT (cT ?_)
  exact cT (rV Tryz.results53 rfl bF)
 refine cB (fun hg18=>?_) (fun hg18=>?_)
 ·refine cT (cT ?_)
  refine cT (cT ?_)
  exact rV Tryz.results53 rfl bF
 refine cB (fun hg25=>?_) (fun hg25=>?_)
 ·refine cT (cT ?_)
  exact cT (rV Tryz.results53 rfl bF)
 refine cB (fun hg32=>?_) (fun hg32=>?_)
 ·refine cT (cT ?_)
  exact rV Tryz.results53 rfl bF
 refine OpG.lk (LOp.neVal rfl rfl) (cB (fun hg39=>?_) (fun hg39=>?_))
 ·exact cT (rV Tryz.results53 rfl bF)
 refine LenG.of ?_
 try refine LenG.of ?_
 refine cB (fun hc47=>?_) (fun hc47=>?_)
 ·exact rV Tryz.results53 rfl bF
 refine LpG.exit (LenG.of ?_)
 refine cB (fun hc52=>?_) (fun hc52=>?_)
 ·exfalso; simp_all
 have hq52:¬ ((0:Int) < ((x.args_.length:Nat):Int)):=of_decide_eq_false hc52
 exact rV Tryz.results53 rfl ⟨_,rfl,fun _=>by simp_all⟩
set_option maxRecDepth 100000 in
set_option maxHeartbeats 4000000 in
theorem integer_w (x:GEx) (hx:FitEx x) (l:List PVar) (hl:FitL l (fun y=>True)) (ih:∀ r∈x.args_,PRet Tryz.prog 94 [.agg (rwA r),.tree 5 (l.map vA)] (fun q=>∃ b:Bool,q=.v (.bool b)∧(b=true→IntE l r))):PRet Tryz.prog 94 [.agg (exA x),.tree 5 (l.map vA)] (fun r=>∃ b:Bool,r=.v (.bool b)∧(b=true→IntE l (exA x))):=by
 refine PRet.of_vc infOk [108,126,134] [] Tryz.func94 rfl Tryz.ntmps94 rfl (by kernel_rfl) ?_
 refine cB (fun hc7=>?_) (fun hc7=>?_)
 ·have hq7:(x.op_:Int)=(1:Int):=by simpa using hc7
  refine LenG.of (cB (fun hg13=>?_) (fun hg13=>?_))
  ·have hq13:((x.args_.length:Nat):Int)=(0:Int):=by simpa using hg13
   refine cB (fun hg18=>?_) (fun hg18=>?_)
   ·have hq18:(x.value_.kind_:Int)=(1:Int):=by simpa using hg18
    refine cT (ArgG.mk (valid04_p x.value_ hx.value_) rfl ?_)
    rintro _ ⟨b0,rfl,hb0,hbc0⟩
    refine rV Tryz.results94 rfl ?_
    (refine ⟨_,rfl,fun hr=>?_⟩; first | exact .lit x (by assumption) (by simp_all) (by simp_all) (by simp_all) | exact .col x (by assumption) (by simp_all) (by simp_all) | exact .neg x (by assumption) (by omega) (fun r hr=>by obtain ⟨j,hj,rfl⟩:=List.getElem_of_mem hr; (obtain rfl:j=0:=by omega); simp_all) | exact .len x a0 (by assumption) (one_list (by assumption) he_a0) (by simp_all) (by simp_all) | exact .bin x (by omega) (by omega) (fun r hr=>by obtain ⟨j,hj,rfl⟩:=List.getElem_of_mem hr; (obtain rfl | rfl:j=0∨j=1:=by omega) <;> simp_all))
   have hq18:¬ ((x.value_.kind_:Int)=(1:Int)):=by simpa using hg18
   refine cB (fun hg25=>?_) (fun hg25=>?_)
   ·have hq25:(x.value_.kind_:Int)=(0:Int):=by simpa using hg25
    refine ArgG.mk (valid04_p x.value_ hx.value_) rfl ?_
    rintro _ ⟨b1,rfl,hb1,hbc1⟩
    refine rV Tryz.results94 rfl ?_
    (refine ⟨_,rfl,fun hr=>?_⟩; first | exact .lit x (by assumption) (by simp_all) (by simp_all) (by simp_all) | exact .col x (by assumption) (by simp_all) (by simp_all) | exact .neg x (by assumption) (by omega) (fun r hr=>by obtain ⟨j,hj,rfl⟩:=List.getElem_of_mem hr; (obtain rfl:j=0:=by omega); simp_all) | exact .len x a0 (by assumption) (one_list (by assumption) he_a0) (by simp_all) (by simp_all) | exact .bin x (by omega) (by omega) (fun r hr=>by obtain ⟨j,hj,rfl⟩:=List.getElem_of_mem hr; (obtain rfl | rfl:j=0∨j=1:=by omega) <;> simp_all))
   have hq25:¬ ((x.value_.kind_:Int)=(0:Int)):=by simpa using hg25
   exact rV Tryz.results94 rfl bF
  have hq13:¬ (((x.args_.length:Nat):Int)=(0:Int)):=by simpa using hg13
  exact cF (rV Tryz.results94 rfl bF)
 have hq7:¬ ((x.op_:Int)=(1:Int)):=by simpa using hc7
 refine cB (fun hc30=>?_) (fun hc30=>?_)
 ·have hq30:(x.op_:Int)=(2:Int):=by simpa using hc30
  refine LenG.of (cB (fun hg36=>?_) (fun hg36=>?_))
  ·have hq36:((x.args_.length:Nat):Int)=(0:Int):=by simpa using hg36
   refine ArgG.mk (typed_p x.index_ 1 l hl) rfl ?_
   rintro _ ⟨b2,rfl,hb2⟩
   refine rV Tryz.results94 rfl ?_
   (refine ⟨_,rfl,fun hr=>?_⟩; first | exact .lit x (by assumption) (by simp_all) (by simp_all) (by simp_all) | exact .col x (by assumption) (by simp_all) (by simp_all) | exact .neg x (by assumption) (by omega) (fun r hr=>by obtain ⟨j,hj,rfl⟩:=List.getElem_of_mem hr; (obtain rfl:j=0:=by omega); simp_all) | exact .len x a0 (by assumption) (one_list (by assumption) he_a0) (by simp_all) (by simp_all) | exact .bin x (by omega) (by omega) (fun r hr=>by obtain ⟨j,hj,rfl⟩:=List.getElem_of_mem hr; (obtain rfl | rfl:j=0∨j=1:=by omega) <;> simp_all))
  have hq36:¬ (((x.args_.length:Nat):Int)=(0:Int)):=by simpa using hg36
  exact rV Tryz.results94 rfl bF
 have hq30:¬ ((x.op_:Int)=(2:Int)):=by simpa using hc30
 refine cB (fun hc42=>?_) (fun hc42=>?_)
 ·have hq42:(x.op_:Int)=(9:Int):=by simpa using hc42
  refine LenG.of (cB (fun hg48=>?_) (fun hg48=>?_))
  ·have hq48:((x.args_.length:Nat):Int)=(1:Int):=by simpa using hg48
   obtain ⟨a0,he_a0,ha0⟩:=openAt hx 0 (by omega)
   refine IdxG.as (j:=0) (by omega) he_a0 (LenG.of ?_)
   refine cB (fun hg57=>?_) (fun hg57=>?_)
   ·have hq57:((a0.args_.length:Nat):Int)=(0:Int):=by simpa using hg57
    refine IdxG.as (j:=0) (by omega) he_a0 (ArgG.mk (text_p (exA a0) (isEx ha0) l hl) rfl ?_)
    rintro _ ⟨b3,rfl,hb3,hbn3⟩
    refine cB (fun hg64=>?_) (fun hg64=>?_)
    ·refine IdxG.as (j:=0) (by omega) he_a0 (cB (fun hg71=>?_) (fun hg71=>?_))
     ·have hq71:(a0.op_:Int)=(2:Int):=by simpa using hg71
      refine cT (rV Tryz.results94 rfl ?_)
      (refine ⟨_,rfl,fun hr=>?_⟩; first | exact .lit x (by assumption) (by simp_all) (by simp_all) (by simp_all) | exact .col x (by assumption) (by simp_all) (by simp_all) | exact .neg x (by assumption) (by omega) (fun r hr=>by obtain ⟨j,hj,rfl⟩:=List.getElem_of_mem hr; (obtain rfl:j=0:=by omega); simp_all) | exact .len x a0 (by assumption) (one_list (by assumption) he_a0) (by simp_all) (by simp_all) | exact .bin x (by omega) (by omega) (fun r hr=>by obtain ⟨j,hj,rfl⟩:=List.getElem_of_mem hr; (obtain rfl | rfl:j=0∨j=1:=by omega) <;> simp_all))
     have hq71:¬ ((a0.op_:Int)=(2:Int)):=by simpa using hg71
     refine IdxG.as (j:=0) (by omega) he_a0 (ArgG.mk (valid04_p a0.value_ ha0.value_) rfl ?_)
     rintro _ ⟨b4,rfl,hb4,hbc4⟩
     refine cB (fun hg80=>?_) (fun hg80=>?_)
     ·refine rV Tryz.results94 rfl ?_
      (refine ⟨_,rfl,fun hr=>?_⟩; first | exact .lit x (by assumption) (by simp_all) (by simp_all) (by simp_all) | exact .col x (by assumption) (by simp_all) (by simp_all) | exact .neg x (by assumption) (by omega) (fun r hr=>by obtain ⟨j,hj,rfl⟩:=List.getElem_of_mem hr; (obtain rfl:j=0:=by omega); simp_all) | exact .len x a0 (by assumption) (one_list (by assumption) he_a0) (by simp_all) (by simp_all) | exact .bin x (by omega) (by omega) (fun r hr=>by obtain ⟨j,hj,rfl⟩:=List.getElem_of_mem hr; (obtain rfl | rfl:j=0∨j=1:=by omega) <;> simp_all))
     refine IdxG.as (j:=0) (by omega) he_a0 (cB (fun hg87=>?_) (fun hg87=>?_))
     ·have hq87:(a0.op_:Int)=(1:Int):=by simpa using hg87
      refine IdxG.as (j:=0) (by omega) he_a0 (OpG.lk (LOp.eqVal rfl rfl) ?_)
      refine rV Tryz.results94 rfl ?_
      (refine ⟨_,rfl,fun hr=>?_⟩; first | exact .lit x (by assumption) (by simp_all) (by simp_all) (by simp_all) | exact .col x (by assumption) (by simp_all) (by simp_all) | exact .neg x (by assumption) (by omega) (fun r hr=>by obtain ⟨j,hj,rfl⟩:=List.getElem_of_mem hr; (obtain rfl:j=0:=by omega); simp_all) | exact .len x a0 (by assumption) (one_list (by assumption) he_a0) (by simp_all) (by simp_all) | exact .bin x (by omega) (by omega) (fun r hr=>by obtain ⟨j,hj,rfl⟩:=List.getElem_of_mem hr; (obtain rfl | rfl:j=0∨j=1:=by omega) <;> simp_all))
     have hq87:¬ ((a0.op_:Int)=(1:Int)):=by simpa using hg87
     exact rV Tryz.results94 rfl bF
    refine cF (IdxG.as (j:=0) (by omega) he_a0 ?_)
    refine cB (fun hg87=>?_) (fun hg87=>?_)
    ·have hq87:(a0.op_:Int)=(1:Int):=by simpa using hg87
     refine IdxG.as (j:=0) (by omega) he_a0 (OpG.lk (LOp.eqVal rfl rfl) ?_)
     refine rV Tryz.results94 rfl ?_
     (refine ⟨_,rfl,fun hr=>?_⟩; first | exact .lit x (by assumption) (by simp_all) (by simp_all) (by simp_all) | exact .col x (by assumption) (by simp_all) (by simp_all) | exact .neg x (by assumption) (by omega) (fun r hr=>by obtain ⟨j,hj,rfl⟩:=List.getElem_of_mem hr; (obtain rfl:j=0:=by omega); simp_all) | exact .len x a0 (by assumption) (one_list (by assumption) he_a0) (by simp_all) (by simp_all) | exact .bin x (by omega) (by omega) (fun r hr=>by obtain ⟨j,hj,rfl⟩:=List.getElem_of_mem hr; (obtain rfl | rfl:j=0∨j=1:=by omega) <;> simp_all))
    have hq87:¬ ((a0.op_:Int)=(1:Int)):=by simpa using hg87
    exact rV Tryz.results94 rfl bF
   have hq57:¬ (((a0.args_.length:Nat):Int)=(0:Int)):=by simpa using hg57
   exact rV Tryz.results94 rfl bF
  have hq48:¬ (((x.args_.length:Nat):Int)=(1:Int)):=by simpa using hg48
  exact cF (rV Tryz.results94 rfl bF)
 have hq42:¬ ((x.op_:Int)=(9:Int)):=by simpa using hc42
 refine cB (fun hc98=>?_) (fun hc98=>?_)
 ·have hq98:(x.op_:Int)=(3:Int):=by simpa using hc98
  refine LenG.of (cB (fun hg104=>?_) (fun hg104=>?_))
  ·have hq104:((x.args_.length:Nat):Int)=(1:Int):=by simpa using hg104
   refine IdxG.of (j:=0) (by omega) (OpG.lk (LOp.ldTN row32 rfl (exTake (hx.args_.2 _ (List.getElem_mem _)))) ?_)
   refine ArgG.mk (ih (x.args_[0]) (List.getElem_mem _)) (show pureL [.agg (rwA x.args_[0]),.tree 5 (l.map vA)]=true by simp [pureL,AV.pureB,exPure (hx.args_.2 _ (List.getElem_mem _))]) ?_
   rintro _ ⟨b5,rfl,hb5⟩
   refine rV Tryz.results94 rfl ?_
   (refine ⟨_,rfl,fun hr=>?_⟩; first | exact .lit x (by assumption) (by simp_all) (by simp_all) (by simp_all) | exact .col x (by assumption) (by simp_all) (by simp_all) | exact .neg x (by assumption) (by omega) (fun r hr=>by obtain ⟨j,hj,rfl⟩:=List.getElem_of_mem hr; (obtain rfl:j=0:=by omega); simp_all) | exact .len x a0 (by assumption) (one_list (by assumption) he_a0) (by simp_all) (by simp_all) | exact .bin x (by omega) (by omega) (fun r hr=>by obtain ⟨j,hj,rfl⟩:=List.getElem_of_mem hr; (obtain rfl | rfl:j=0∨j=1:=by omega) <;> simp_all))
  have hq104:¬ (((x.args_.length:Nat):Int)=(1:Int)):=by simpa using hg104
  exact rV Tryz.results94 rfl bF
 have hq98:¬ ((x.op_:Int)=(3:Int)):=by simpa using hc98
 refine cB (fun hc112=>?_) (fun hc112=>?_)
 ·have hq112:(x.op_:Int)=(4:Int):=by simpa using hc112
  refine cB (fun hc112=>?_) (fun hc112=>?_)
  ·have hq112:(x.op_:Int)=(4:Int):=by simpa using hc112
   refine LenG.of (cB (fun hg122=>?_) (fun hg122=>?_))
   ·have hq122:((x.args_.length:Nat):Int)=(2:Int):=by simpa using hg122
    refine IdxG.of (j:=0) (by omega) (OpG.lk (LOp.ldTN row32 rfl (exTake (hx.args_.2 _ (List.getElem_mem _)))) ?_)
    refine ArgG.mk (ih (x.args_[0]) (List.getElem_mem _)) (show pureL [.agg (rwA x.args_[0]),.tree 5 (l.map vA)]=true by simp [pureL,AV.pureB,exPure (hx.args_.2 _ (List.getElem_mem _))]) ?_
    rintro _ ⟨b6,rfl,hb6⟩
    refine cB (fun hg130=>?_) (fun hg130=>?_)
    ·refine IdxG.of (j:=1) (by omega) (OpG.lk (LOp.ldTN row32 rfl (exTake (hx.args_.2 _ (List.getElem_mem _)))) ?_)
     refine ArgG.mk (ih (x.args_[1]) (List.getElem_mem _)) (show pureL [.agg (rwA x.args_[1]),.tree 5 (l.map vA)]=true by simp [pureL,AV.pureB,exPure (hx.args_.2 _ (List.getElem_mem _))]) ?_
     rintro _ ⟨b7,rfl,hb7⟩
     refine rV Tryz.results94 rfl ?_
     (refine ⟨_,rfl,fun hr=>?_⟩; first | exact .lit x (by assumption) (by simp_all) (by simp_all) (by simp_all) | exact .col x (by assumption) (by simp_all) (by simp_all) | exact .neg x (by assumption) (by omega) (fun r hr=>by obtain ⟨j,hj,rfl⟩:=List.getElem_of_mem hr; (obtain rfl:j=0:=by omega); simp_all) | exact .len x a0 (by assumption) (one_list (by assumption) he_a0) (by simp_all) (by simp_all) | exact .bin x (by omega) (by omega) (fun r hr=>by obtain ⟨j,hj,rfl⟩:=List.getElem_of_mem hr; (obtain rfl | rfl:j=0∨j=1:=by omega) <;> simp_all))
    exact rV Tryz.results94 rfl bF
   have hq122:¬ (((x.args_.length:Nat):Int)=(2:Int)):=by simpa using hg122
   exact cF (rV Tryz.results94 rfl bF)
  have hq112:¬ ((x.op_:Int)=(4:Int)):=by simpa using hc112
  exact rV Tryz.results94 rfl bF
 have hq112:¬ ((x.op_:Int)=(4:Int)):=by simpa using hc112
 refine cB (fun hc112=>?_) (fun hc112=>?_)
 ·have hq112:(x.op_:Int)=(5:Int):=by simpa using hc112
  refine cB (fun hc112=>?_) (fun hc112=>?_)
  ·have hq112:(x.op_:Int)=(5:Int):=by simpa using hc112
   refine LenG.of (cB (fun hg122=>?_) (fun hg122=>?_))
   ·have hq122:((x.args_.length:Nat):Int)=(2:Int):=by simpa using hg122
    refine IdxG.of (j:=0) (by omega) (OpG.lk (LOp.ldTN row32 rfl (exTake (hx.args_.2 _ (List.getElem_mem _)))) ?_)
    refine ArgG.mk (ih (x.args_[0]) (List.getElem_mem _)) (show pureL [.agg (rwA x.args_[0]),.tree 5 (l.map vA)]=true by simp [pureL,AV.pureB,exPure (hx.args_.2 _ (List.getElem_mem _))]) ?_
    rintro _ ⟨b8,rfl,hb8⟩
    refine cB (fun hg130=>?_) (fun hg130=>?_)
    ·refine IdxG.of (j:=1) (by omega) (OpG.lk (LOp.ldTN row32 rfl (exTake (hx.args_.2 _ (List.getElem_mem _)))) ?_)
     refine ArgG.mk (ih (x.args_[1]) (List.getElem_mem _)) (show pureL [.agg (rwA x.args_[1]),.tree 5 (l.map vA)]=true by simp [pureL,AV.pureB,exPure (hx.args_.2 _ (List.getElem_mem _))]) ?_
     rintro _ ⟨b9,rfl,hb9⟩
     refine rV Tryz.results94 rfl ?_
     (refine ⟨_,rfl,fun hr=>?_⟩; first | exact .lit x (by assumption) (by simp_all) (by simp_all) (by simp_all) | exact .col x (by assumption) (by simp_all) (by simp_all) | exact .neg x (by assumption) (by omega) (fun r hr=>by obtain ⟨j,hj,rfl⟩:=List.getElem_of_mem hr; (obtain rfl:j=0:=by omega); simp_all) | exact .len x a0 (by assumption) (one_list (by assumption) he_a0) (by simp_all) (by simp_all) | exact .bin x (by omega) (by omega) (fun r hr=>by obtain ⟨j,hj,rfl⟩:=List.getElem_of_mem hr; (obtain rfl | rfl:j=0∨j=1:=by omega) <;> simp_all))
    exact rV Tryz.results94 rfl bF
   have hq122:¬ (((x.args_.length:Nat):Int)=(2:Int)):=by simpa using hg122
   exact cF (rV Tryz.results94 rfl bF)
  have hq112:¬ ((x.op_:Int)=(5:Int)):=by simpa using hc112
  exact rV Tryz.results94 rfl bF
 have hq112:¬ ((x.op_:Int)=(5:Int)):=by simpa using hc112
 refine cB (fun hc112=>?_) (fun hc112=>?_)
 ·have hq112:(x.op_:Int)=(6:Int):=by simpa using hc112
  refine cB (fun hc112=>?_) (fun hc112=>?_)
  ·have hq112:(x.op_:Int)=(6:Int):=by simpa using hc112
   refine LenG.of (cB (fun hg122=>?_) (fun hg122=>?_))
   ·have hq122:((x.args_.length:Nat):Int)=(2:Int):=by simpa using hg122
    refine IdxG.of (j:=0) (by omega) (OpG.lk (LOp.ldTN row32 rfl (exTake (hx.args_.2 _ (List.getElem_mem _)))) ?_)
    refine ArgG.mk (ih (x.args_[0]) (List.getElem_mem _)) (show pureL [.agg (rwA x.args_[0]),.tree 5 (l.map vA)]=true by simp [pureL,AV.pureB,exPure (hx.args_.2 _ (List.getElem_mem _))]) ?_
    rintro _ ⟨b10,rfl,hb10⟩
    refine cB (fun hg130=>?_) (fun hg130=>?_)
    ·refine IdxG.of (j:=1) (by omega) (OpG.lk (LOp.ldTN row32 rfl (exTake (hx.args_.2 _ (List.getElem_mem _)))) ?_)
     refine ArgG.mk (ih (x.args_[1]) (List.getElem_mem _)) (show pureL [.agg (rwA x.args_[1]),.tree 5 (l.map vA)]=true by simp [pureL,AV.pureB,exPure (hx.args_.2 _ (List.getElem_mem _))]) ?_
     rintro _ ⟨b11,rfl,hb11⟩
     refine rV Tryz.results94 rfl ?_
     (refine ⟨_,rfl,fun hr=>?_⟩; first | exact .lit x (by assumption) (by simp_all) (by simp_all) (by simp_all) | exact .col x (by assumption) (by simp_all) (by simp_all) | exact .neg x (by assumption) (by omega) (fun r hr=>by obtain ⟨j,hj,rfl⟩:=List.getElem_of_mem hr; (obtain rfl:j=0:=by omega); simp_all) | exact .len x a0 (by assumption) (one_list (by assumption) he_a0) (by simp_all) (by simp_all) | exact .bin x (by omega) (by omega) (fun r hr=>by obtain ⟨j,hj,rfl⟩:=List.getElem_of_mem hr; (obtain rfl | rfl:j=0∨j=1:=by omega) <;> simp_all))
    exact rV Tryz.results94 rfl bF
   have hq122:¬ (((x.args_.length:Nat):Int)=(2:Int)):=by simpa using hg122
   exact cF (rV Tryz.results94 rfl bF)
  have hq112:¬ ((x.op_:Int)=(6:Int)):=by simpa using hc112
  exact rV Tryz.results94 rfl bF
 have hq112:¬ ((x.op_:Int)=(6:Int)):=by simpa using hc112
 refine cB (fun hc112=>?_) (fun hc112=>?_)
 ·have hq112:(x.op_:Int)=(7:Int):=by simpa using hc112
  refine cB (fun hc112=>?_) (fun hc112=>?_)
  ·have hq112:(x.op_:Int)=(7:Int):=by simpa using hc112
   refine LenG.of (cB (fun hg122=>?_) (fun hg122=>?_))
   ·have hq122:((x.args_.length:Nat):Int)=(2:Int):=by simpa using hg122
    refine IdxG.of (j:=0) (by omega) (OpG.lk (LOp.ldTN row32 rfl (exTake (hx.args_.2 _ (List.getElem_mem _)))) ?_)
    refine ArgG.mk (ih (x.args_[0]) (List.getElem_mem _)) (show pureL [.agg (rwA x.args_[0]),.tree 5 (l.map vA)]=true by simp [pureL,AV.pureB,exPure (hx.args_.2 _ (List.getElem_mem _))]) ?_
    rintro _ ⟨b12,rfl,hb12⟩
    refine cB (fun hg130=>?_) (fun hg130=>?_)
    ·refine IdxG.of (j:=1) (by omega) (OpG.lk (LOp.ldTN row32 rfl (exTake (hx.args_.2 _ (List.getElem_mem _)))) ?_)
     refine ArgG.mk (ih (x.args_[1]) (List.getElem_mem _)) (show pureL [.agg (rwA x.args_[1]),.tree 5 (l.map vA)]=true by simp [pureL,AV.pureB,exPure (hx.args_.2 _ (List.getElem_mem _))]) ?_
     rintro _ ⟨b13,rfl,hb13⟩
     refine rV Tryz.results94 rfl ?_
     (refine ⟨_,rfl,fun hr=>?_⟩; first | exact .lit x (by assumption) (by simp_all) (by simp_all) (by simp_all) | exact .col x (by assumption) (by simp_all) (by simp_all) | exact .neg x (by assumption) (by omega) (fun r hr=>by obtain ⟨j,hj,rfl⟩:=List.getElem_of_mem hr; (obtain rfl:j=0:=by omega); simp_all) | exact .len x a0 (by assumption) (one_list (by assumption) he_a0) (by simp_all) (by simp_all) | exact .bin x (by omega) (by omega) (fun r hr=>by obtain ⟨j,hj,rfl⟩:=List.getElem_of_mem hr; (obtain rfl | rfl:j=0∨j=1:=by omega) <;> simp_all))
    exact rV Tryz.results94 rfl bF
   have hq122:¬ (((x.args_.length:Nat):Int)=(2:Int)):=by simpa using hg122
   exact cF (rV Tryz.results94 rfl bF)
  have hq112:¬ ((x.op_:Int)=(7:Int)):=by simpa using hc112
  exact rV Tryz.results94 rfl bF
 have hq112:¬ ((x.op_:Int)=(7:Int)):=by simpa using hc112
 refine cB (fun hc112=>?_) (fun hc112=>?_)
 ·have hq112:(x.op_:Int)=(8:Int):=by simpa using hc112
  refine LenG.of (cB (fun hg122=>?_) (fun hg122=>?_))
  ·have hq122:((x.args_.length:Nat):Int)=(2:Int):=by simpa using hg122
   refine IdxG.of (j:=0) (by omega) (OpG.lk (LOp.ldTN row32 rfl (exTake (hx.args_.2 _ (List.getElem_mem _)))) ?_)
   refine ArgG.mk (ih (x.args_[0]) (List.getElem_mem _)) (show pureL [.agg (rwA x.args_[0]),.tree 5 (l.map vA)]=true by simp [pureL,AV.pureB,exPure (hx.args_.2 _ (List.getElem_mem _))]) ?_
   rintro _ ⟨b14,rfl,hb14⟩
   refine cB (fun hg130=>?_) (fun hg130=>?_)
   ·refine IdxG.of (j:=1) (by omega) (OpG.lk (LOp.ldTN row32 rfl (exTake (hx.args_.2 _ (List.getElem_mem _)))) ?_)
    refine ArgG.mk (ih (x.args_[1]) (List.getElem_mem _)) (show pureL [.agg (rwA x.args_[1]),.tree 5 (l.map vA)]=true by simp [pureL,AV.pureB,exPure (hx.args_.2 _ (List.getElem_mem _))]) ?_
    rintro _ ⟨b15,rfl,hb15⟩
    refine rV Tryz.results94 rfl ?_
    (refine ⟨_,rfl,fun hr=>?_⟩; first | exact .lit x (by assumption) (by simp_all) (by simp_all) (by simp_all) | exact .col x (by assumption) (by simp_all) (by simp_all) | exact .neg x (by assumption) (by omega) (fun r hr=>by obtain ⟨j,hj,rfl⟩:=List.getElem_of_mem hr; (obtain rfl:j=0:=by omega); simp_all) | exact .len x a0 (by assumption) (one_list (by assumption) he_a0) (by simp_all) (by simp_all) | exact .bin x (by omega) (by omega) (fun r hr=>by obtain ⟨j,hj,rfl⟩:=List.getElem_of_mem hr; (obtain rfl | rfl:j=0∨j=1:=by omega) <;> simp_all))
   exact rV Tryz.results94 rfl bF
  have hq122:¬ (((x.args_.length:Nat):Int)=(2:Int)):=by simpa using hg122
  exact cF (rV Tryz.results94 rfl bF)
 have hq112:¬ ((x.op_:Int)=(8:Int)):=by simpa using hc112
 exact rV Tryz.results94 rfl bF
theorem integer_p (r:List AV) (hr:IsEx r) (l:List PVar) (hl:FitL l (fun y=>True)):PRet Tryz.prog 94 [.agg (rwA r),.tree 5 (l.map vA)] (fun q=>∃ b:Bool,q=.v (.bool b)∧(b=true→IntE l r)):=IsEx.ind (M:=fun r=>PRet Tryz.prog 94 [.agg (rwA r),.tree 5 (l.map vA)] (fun q=>∃ b:Bool,q=.v (.bool b)∧(b=true→IntE l r))) (fun x hx ih=>integer_w x hx l hl ih) hr
end Go.Proofs.YtjdblmpkeilbaaaGreatDoor
namespace Go.Proofs.YtjdblmpkeilbaaaGreatDoor
set_option linter.unusedVariables false
set_option linter.unusedSimpArgs false
open Go.RowKit
section
variable {P:Program} {τ:Nat→AV} {η:Heap} {d:Option Tmp} {ty:TypeId} {pos:String} {af:Array Edge} {g:Option (Nat×Bool)}
theorem LOp.quoT {t t':Nat} {x y:Operand} {m n:Int} (hx:aev τ x=.v (.int .i64 m)) (hy:aev τ y=.v (.int .i64 n)) (h1:-9223372036854775808≤m) (h2:m≤9223372036854775807) (h3:1≤n) :
  LOp P ⟨d,.binOp .quo t x y t',ty,pos,af,g⟩ τ η [] [] (.v (.int .i64 (m.tdiv n))) :=
 .look [] fun C a _ hxs _=>by
  have e1:=hxs x (by simp [Op.operands])
  have e2:=hxs y (by simp [Op.operands])
  rw [hx] at e1
  rw [hy] at e2
  refine ⟨.int .i64 (m.tdiv n),?_,VR.v C _⟩
  have hw:=Go.IntWalk.i64_quo' m n ⟨h1,h2,h3⟩
  have h0:¬ (n=0):=by omega
  simp only [execOp,e1.v_inv,e2.v_inv]
  simp [binOp,Op.intArith,Op.intDiv,eqGuard,h0,Sem.run_bind,hw]
theorem LOp.negI {t:Nat} {x:Operand} {m:Int} (hx:aev τ x=.v (.int .i64 m)) (h1:-9223372036854775807≤m) (h2:m≤9223372036854775807) :
  LOp P ⟨d,.unOp .neg t x,ty,pos,af,g⟩ τ η [] [] (.v (.int .i64 (-m))):=by
 have h:LOp P ⟨d,.unOp .neg t x,ty,pos,af,g⟩ τ η [] [] (.v (.int .i64 (IntKind.i64.wrap (-m)))) :=
  .look [] fun C a _ hxs _=>by
   have e1:=hxs x (by simp [Op.operands])
   rw [hx] at e1
   refine ⟨_,?_,VR.v C _⟩
   simp only [execOp,e1.v_inv]
   simp [Op.unary,Op.intArith]
 rwa [Go.IntWalk.i64_in _ ⟨by omega,by omega⟩] at h
end
theorem tdiv_fdiv {a b:Int} (hb:1≤b):(if a.tdiv b * b > a then a.tdiv b - 1 else a.tdiv b)=a.fdiv b:=by
 have h1:=Int.tmod_add_mul_tdiv a b
 have h4:b * a.tdiv b=a.tdiv b * b:=Int.mul_comm _ _
 have hf:=Int.fdiv_eq_ediv_of_nonneg a (by omega:(0:Int)≤b)
 rw [hf]
 have h2:=Int.emod_add_mul_ediv a b
 have h3:=Int.emod_nonneg a (by omega:b≠0)
 have h5:=Int.emod_lt_of_pos a (by omega:0 < b)
 have h6:=Int.tmod_lt_of_pos a (by omega:0 < b)
 have h7:-b < a.tmod b:=Int.lt_tmod_of_pos a (by omega)
 split
 ·rename_i h
  have:(a.tdiv b - 1)=a / b:=by
   refine (Int.ediv_eq_iff_of_pos (by omega) |>.2 ⟨?_,?_⟩).symm <;> (try rw [Int.sub_mul]) <;> (try rw [Int.add_mul]) <;> (try rw [Int.sub_mul]) <;> omega
  exact this
 rename_i h
 refine (Int.ediv_eq_iff_of_pos (by omega) |>.2 ⟨?_,?_⟩).symm
 ·omega
 omega
theorem absI_cases (n:Int):(0≤n∧absI n=n)∨(n < 0∧absI n=-n):=by
 unfold absI; split <;> omega
theorem tdiv_rng {a b:Int} (ha:-4611686018427387904≤a∧a≤4611686018427387904) (hb:1≤b∧b≤4611686018427387904):(-4611686018427387904≤a.tdiv b∧a.tdiv b≤4611686018427387904)∧(-9223372036854775808≤a.tdiv b * b∧a.tdiv b * b≤9223372036854775807):=by
 have h1:=Int.tmod_add_mul_tdiv a b
 have h4:b * a.tdiv b=a.tdiv b * b:=Int.mul_comm _ _
 have h6:=Int.tmod_lt_of_pos a (by omega:0 < b)
 have h7:-b < a.tmod b:=Int.lt_tmod_of_pos a (by omega)
 have h8:=Int.natAbs_tdiv_le_natAbs a b
 refine ⟨by omega,by omega⟩
set_option maxRecDepth 100000 in
set_option maxHeartbeats 4000000 in
theorem within_p (n:Int) (lo:Int) (hi:Int):PRet Tryz.prog 210 [.v (.int .i64 n),.v (.int .i64 lo),.v (.int .i64 hi)] (fun r=>∃ b:Bool,r=.v (.bool b)∧(b=true↔lo≤n∧n≤hi)):=by
 refine PRet.of_vc infOk [] [] Tryz.func210 rfl Tryz.ntmps210 rfl (by kernel_rfl) ?_
 refine cD (fun hq10=>?_) (fun hq10=>?_)
 ·refine rV Tryz.results210 rfl ?_
  refine ⟨_,rfl,?_⟩; (simp; omega)
 refine rV Tryz.results210 rfl ?_
 refine ⟨_,rfl,?_⟩; (simp; omega)
set_option maxRecDepth 100000 in
set_option maxHeartbeats 4000000 in
theorem abs13_p (n:Int) (hn:-9223372036854775807≤n∧n≤9223372036854775807):PRet Tryz.prog 257 [.v (.int .i64 n)] (fun r=>r=.v (.int .i64 (absI n))):=by
 refine PRet.of_vc infOk [6] [] Tryz.func257 rfl Tryz.ntmps257 rfl (by kernel_rfl) (cB (fun hc4=>?_) (fun hc4=>?_))
 ·have hq4:(n:Int) < (0:Int):=of_decide_eq_true hc4
  exact OpG.lk (LOp.negI rfl (by omega) (by omega)) (rV Tryz.results257 rfl (show AV.v (.int .i64 (-n))=.v (.int .i64 (absI n)) by unfold absI; rw [if_pos (by simpa using hc4)]))
 have hq4:¬ ((n:Int) < (0:Int)):=of_decide_eq_false hc4
 exact rV Tryz.results257 rfl (show AV.v (.int .i64 n)=.v (.int .i64 (absI n)) by unfold absI; rw [if_neg (by simpa using hc4)])
set_option maxRecDepth 100000 in
set_option maxHeartbeats 4000000 in
theorem ints13_p (a:Int) (b:Int):PRet Tryz.prog 304 [.v (.int .i64 a),.v (.int .i64 b)] (fun r=>∃ v:Int,r=.v (.int .i64 v)∧(v=0↔a=b)):=by
 refine PRet.of_vc infOk [] [] Tryz.func304 rfl Tryz.ntmps304 rfl (by kernel_rfl) (cD (fun hq7=>?_) (fun hq7=>?_))
 exact rV Tryz.results304 rfl ⟨_,rfl,by omega⟩
 refine cD (fun hq10=>?_) (fun hq10=>?_)
 ·exact rV Tryz.results304 rfl ⟨_,rfl,by omega⟩
 exact rV Tryz.results304 rfl ⟨_,rfl,by omega⟩
set_option maxRecDepth 100000 in
set_option maxHeartbeats 4000000 in
theorem floor13_p (a:Int) (b:Int) (ha:-4611686018427387904≤a∧a≤4611686018427387904) (hb:1≤b∧b≤4611686018427387904):PRet Tryz.prog 259 [.v (.int .i64 a),.v (.int .i64 b)] (fun r=>∃ v:Int,r=.v (.int .i64 v)∧v=a.fdiv b):=by
 have hf:=tdiv_fdiv (a:=a) hb.1
 have hq:=tdiv_rng ha hb
 refine PRet.of_vc infOk [8,11,15] [] Tryz.func259 rfl Tryz.ntmps259 rfl (by kernel_rfl) (OpG.lk (LOp.quoT rfl rfl (by omega) (by omega) (by omega)) ?_)
 refine OpG.lk (LOp.mulI rfl rfl (by omega) (by omega)) (cB (fun hc13=>?_) (fun hc13=>?_))
 ·exact OpG.lk (LOp.subI rfl rfl (by omega) (by omega)) (rV Tryz.results259 rfl ⟨_,rfl,by rw [← hf,if_pos (by simpa using hc13)]⟩)
 exact rV Tryz.results259 rfl ⟨_,rfl,by rw [← hf,if_neg (by simpa using hc13)]⟩
end Go.Proofs.YtjdblmpkeilbaaaGreatDoor
