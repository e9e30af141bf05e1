/- Texts of the claim. -/
import Derived.Test.YthpangmpihkniaaGreatDoorV1
import Derived.Test.YthpangmpihkniaaGreatDoorQ2
namespace Go.Proofs.YthpangmpihkniaaGreatDoor
set_option maxRecDepth 1000000
set_option maxHeartbeats 0
set_option linter.unusedVariables false
set_option linter.unusedSimpArgs false
open Go.RowKit
abbrev rwA (r:List AV):List AV:=r
abbrev sA (s:ByteArray):List AV:=[.v (.string s)]
structure KL (α:Type) where
 k:Nat
 L:List α
theorem nt:RowF iA 1:=⟨fun _=>rfl,fun _=>rfl,fun _ _=>rfl,fun _ _=>rfl,fun _ _=>rfl,fun _=>rfl⟩
theorem zc:RowF sA 1:=⟨fun _=>rfl,fun _=>rfl,fun _ _=>rfl,fun _ _=>rfl,fun _ _=>rfl,fun _=>rfl⟩
abbrev lw (s:ByteArray):Prop:=s.size<=140737488351232
abbrev bw {α:Type} (l:List α) (F:α->Prop):Prop:=l.length<=140737488355328/\∀ x∈l,F x
structure GVal where
 kind_:Int
 int_:Int
 text_:ByteArray
abbrev gvA (x:GVal):List AV:=[.v (.int .i64 x.kind_),.v (.int .i64 x.int_),.v (.string x.text_)]
structure FitVal (x:GVal):Prop where
 text_:lw x.text_
instance:Inhabited GVal:=⟨⟨0,0,⟨#[]⟩⟩⟩
structure GEx where
 op_:Int
 table_:ByteArray
 name_:ByteArray
 index_:Int
 value_:GVal
 args_:List (List AV)
abbrev exA (x:GEx):List AV:=[.v (.int .i64 x.op_),.v (.string x.table_),.v (.string x.name_),.v (.int .i64 x.index_),.v (.int .i64 x.value_.kind_),.v (.int .i64 x.value_.int_),.v (.string x.value_.text_),.tree 8 (x.args_.map rwA)]
inductive IsEx:List AV->Prop
 | mk (x:GEx) (hn:bw x.args_ (fun _=>True)) (h1:lw x.table_) (h2:lw x.name_) (h3:FitVal x.value_) (h:∀ r∈x.args_,IsEx r):IsEx (exA x)
structure FitEx (x:GEx):Prop where
 args_:bw x.args_ (fun y=>IsEx y)
 table_:lw x.table_
 name_:lw x.name_
 value_:FitVal x.value_
theorem IsEx.ind {M:List AV->Prop} (H:∀ x,FitEx x->(∀ r∈x.args_,M r)->M (exA x)) {r:List AV} (h:IsEx r):M r:=by
 induction h with
 | mk x hn h1 h2 h3 h ih=>exact H x ⟨⟨hn.1,h⟩,h1,h2,h3⟩ ih
theorem cj {r:List AV} (h:IsEx r):cn 0 8 (rwA r)=some r:=by
 cases h with
 | mk x hn h1 h2 h3 h=>rfl
theorem cm {r:List AV} (h:IsEx r):ay r=true:=by
 cases h with
 | mk x hn h1 h2 h3 h=>rfl
theorem g9 {x:GEx} (h:FitEx x):IsEx (exA x):=.mk x ⟨h.args_.1,fun _ _=>trivial⟩ h.table_ h.name_ h.value_ h.args_.2
theorem IsEx.open_ {r:List AV} (h:IsEx r):∃ x,r=exA x/\FitEx x:=by
 cases h with
 | mk x hn h1 h2 h3 h=>exact ⟨x,rfl,⟨⟨hn.1,h⟩,h1,h2,h3⟩⟩
structure GCol where
 name_:ByteArray
 type_:Int
 low_:Int
 high_:Int
 max_:Int
 notNull_:Bool
abbrev us (x:GCol):List AV:=[.v (.string x.name_),.v (.int .i64 x.type_),.v (.int .i64 x.low_),.v (.int .i64 x.high_),.v (.int .i64 x.max_),.v (.bool x.notNull_)]
structure FitCol (x:GCol):Prop where
 name_:lw x.name_
instance:Inhabited GCol:=⟨⟨⟨#[]⟩,0,0,0,0,false⟩⟩
structure GFor where
 columns_:List Int
 table_:Int
 key_:Int
abbrev Mh (x:GFor):List AV:=[.tree 1 (x.columns_.map iA),.v (.int .i64 x.table_),.v (.int .i64 x.key_)]
structure FitFor (x:GFor):Prop where
 columns_:bw x.columns_ (fun y=>True)
instance:Inhabited GFor:=⟨⟨[],0,0⟩⟩
structure GTab where
 name_:ByteArray
 columns_:List GCol
 keys_:List (List Int)
 foreign_:List GFor
 checks_:List (List AV)
abbrev ef (x:GTab):List AV:=[.v (.string x.name_),.tree 6 (x.columns_.map us),.tree 1 (x.keys_.map (fun l=>[.tree 1 (l.map iA)])),.tree 3 (x.foreign_.map Mh),.tree 8 (x.checks_.map rwA)]
structure FitTab (x:GTab):Prop where
 name_:lw x.name_
 columns_:bw x.columns_ (fun y=>FitCol y)
 keys_:bw x.keys_ (fun y=>bw y (fun y=>True))
 foreign_:bw x.foreign_ (fun y=>FitFor y)
 checks_:bw x.checks_ (fun y=>IsEx y)
instance:Inhabited GTab:=⟨⟨⟨#[]⟩,[],[],[],[]⟩⟩
structure GRef where
 columns_:List ByteArray
 table_:ByteArray
 target_:List ByteArray
abbrev Tn (x:GRef):List AV:=[.tree 1 (x.columns_.map sA),.v (.string x.table_),.tree 1 (x.target_.map sA)]
structure FitRef (x:GRef):Prop where
 columns_:bw x.columns_ (fun y=>lw y)
 table_:lw x.table_
 target_:bw x.target_ (fun y=>lw y)
instance:Inhabited GRef:=⟨⟨[],⟨#[]⟩,[]⟩⟩
structure GDef where
 columns_:List GCol
 keys_:List (List ByteArray)
 foreign_:List GRef
 checks_:List (List AV)
abbrev Rm (x:GDef):List AV:=[.tree 6 (x.columns_.map us),.tree 1 (x.keys_.map (fun l=>[.tree 1 (l.map sA)])),.tree 3 (x.foreign_.map Tn),.tree 8 (x.checks_.map rwA)]
structure FitDef (x:GDef):Prop where
 columns_:bw x.columns_ (fun y=>FitCol y)
 keys_:bw x.keys_ (fun y=>bw y (fun y=>lw y))
 foreign_:bw x.foreign_ (fun y=>FitRef y)
 checks_:bw x.checks_ (fun y=>IsEx y)
instance:Inhabited GDef:=⟨⟨[],[],[],[]⟩⟩
structure GSta where
 kind_:Int
 table_:ByteArray
 create_:GDef
abbrev F5 (x:GSta):List AV:=[.v (.int .i64 x.kind_),.v (.string x.table_),.tree 6 (x.create_.columns_.map us),.tree 1 (x.create_.keys_.map (fun l=>[.tree 1 (l.map sA)])),.tree 3 (x.create_.foreign_.map Tn),.tree 8 (x.create_.checks_.map rwA),.v (.slice none 0 0),.v (.slice none 0 0),.v (.slice none 0 0),.v (.slice none 0 0),.v (.int .i64 0),.v (.string ⟨#[]⟩),.v (.string ⟨#[]⟩),.v (.int .i64 0),.v (.int .i64 0),.v (.int .i64 0),.v (.string ⟨#[]⟩),.v (.slice none 0 0),.v (.slice none 0 0),.v (.slice none 0 0),.v (.int .i64 0),.v (.string ⟨#[]⟩)]
structure FitSta (x:GSta):Prop where
 table_:lw x.table_
 create_:FitDef x.create_
instance:Inhabited GSta:=⟨⟨0,⟨#[]⟩,default⟩⟩
structure GTbu where
 name_:ByteArray
 columns_:List GCol
abbrev Kd (x:GTbu):List AV:=[.v (.string x.name_),.tree 6 (x.columns_.map us),.unk,.unk,.unk]
structure FitTbu (x:GTbu):Prop where
 name_:lw x.name_
 columns_:bw x.columns_ (fun y=>FitCol y)
instance:Inhabited GTbu:=⟨⟨⟨#[]⟩,[]⟩⟩
structure GDfn where
 columns_:List GCol
 checks_:List (List AV)
abbrev dfnA (x:GDfn):List AV:=[.tree 6 (x.columns_.map us),.v (.slice none 0 0),.v (.slice none 0 0),.tree 8 (x.checks_.map rwA)]
structure FitDfn (x:GDfn):Prop where
 columns_:bw x.columns_ (fun y=>FitCol y)
 checks_:bw x.checks_ (fun y=>IsEx y)
instance:Inhabited GDfn:=⟨⟨[],[]⟩⟩
structure GStn where
 table_:ByteArray
 create_:GDfn
abbrev Tb (x:GStn):List AV:=[.v (.int .i64 0),.v (.string x.table_),.tree 6 (x.create_.columns_.map us),.v (.slice none 0 0),.v (.slice none 0 0),.tree 8 (x.create_.checks_.map rwA),.v (.slice none 0 0),.v (.slice none 0 0),.v (.slice none 0 0),.v (.slice none 0 0),.v (.int .i64 0),.v (.string ⟨#[]⟩),.v (.string ⟨#[]⟩),.v (.int .i64 0),.v (.int .i64 0),.v (.int .i64 0),.v (.string ⟨#[]⟩),.v (.slice none 0 0),.v (.slice none 0 0),.v (.slice none 0 0),.v (.int .i64 0),.v (.string ⟨#[]⟩)]
structure FitStn (x:GStn):Prop where
 table_:lw x.table_
 create_:FitDfn x.create_
instance:Inhabited GStn:=⟨⟨⟨#[]⟩,default⟩⟩
structure KB where
 k:Nat
 b:Bool
theorem n0 {x:GEx} (hx:FitEx x) (j:Nat) (hj:j < x.args_.length):∃ a,x.args_[j]=exA a/\FitEx a:=(hx.args_.2 _ (Ze hj)).open_
theorem Ut (n:Int):PRet Tryz.prog 44 [.v (.int .i64 n),.v (.slice none 0 0)] (fun r=>∃ b:Bool,r=.v (.bool b)/\(b=true->n<=20)):=by
 refine PRet.of_vc ao [] [] Tryz.func44 rfl Tryz.ntmps44 rfl (by kernel_rfl) (LpG.exit ?_)
 refine cF (cD (fun hq20=>?_) (fun hq20=>?_))
 ·refine rV Tryz.results44 rfl ?_
  (refine ⟨_,rfl,fun hr=>?_⟩; simp_all; try omega; done)
 exact rV Tryz.results44 rfl bF
theorem Dk (t:GTab) (ht:FitTab t) (l:List Int) (hl:bw l (fun y=>True)):PRet Tryz.prog 45 [.agg (ef t),.tree 1 (l.map iA)] (fun r=>∃ b:Bool,r=.v (.bool b)/\(b=true->∀ x∈l,0<=x/\x < t.columns_.length)):=by
 refine PRet.of_vc ao [] [] Tryz.func45 rfl Tryz.ntmps45 rfl (by kernel_rfl) (LpG.on (fun k0:Nat=>(⟨fL [(1,.tree 1 (l.map iA)),(2,.ptr 0 0 0),(5,.v (.int .i64 ((k0:Nat):Int)))],bl [(0,⟨0,ef t,0,false⟩)],1⟩:St)) (fun k0=>(l.length - k0)) (fun k0=>(k0<=l.length/\∀ j (hl:j < l.length),j < k0->0<=l[j]/\l[j] < t.columns_.length)) 0 (cO (.cons rfl rfl (.cons rfl rfl (.cons rfl rfl .nil))) (.cons rfl rfl rfl .nil)) ⟨Nat.zero_le _,fun j _ h=>absurd h (Nat.not_lt_zero j)⟩ ?_)
 rintro k0 hinv
 have hgr_k0:l.length<=140737488355328:=hl.1
 obtain ⟨hle_k0,hj_k0⟩:=hinv
 refine LenG.of (cL (fun hlt9=>?_) (fun hge9=>?_))
 ·refine IdxG.of (by assumption) (cD (fun hq17=>?_) (fun hq17=>?_))
  ·refine ⟨by kernel_rfl,cT ?_⟩
   exact rV Tryz.results45 rfl bF
  refine IdxG.of (by assumption) (LenG.of ?_)
  refine ⟨by kernel_rfl,cD (fun hq26=>?_) (fun hq26=>?_)⟩
  ·exact rV Tryz.results45 rfl bF
  refine ⟨by omega,⟨(k0+1),by omega,(cO (.cons rfl rfl (.cons rfl rfl (.cons rfl rfl .nil))) (.cons rfl rfl rfl .nil)),?_⟩⟩
  refine ⟨by omega,fun j hl h=>?_⟩
  rcases Nat.lt_succ_iff_lt_or_eq.1 h with h | rfl
  ·exact hj_k0 j hl h
  exact ⟨by simp_all,by simp_all⟩
 exact rV Tryz.results45 rfl ⟨_,rfl,fun _ x hx=>by obtain ⟨j,hj,rfl⟩:=List.getElem_of_mem hx; exact hj_k0 j hj (by omega)⟩
theorem Fb (s:ByteArray) (hs:lw s) (t:ByteArray) (ht:lw t):PRet Tryz.prog 162 [.v (.string s),.v (.string t)] (fun r=>∃ b:Bool,r=.v (.bool b)):=by
 refine PRet.of_vc ao [] [] Tryz.func162 rfl Tryz.ntmps162 rfl (by kernel_rfl) (LpG.on (fun k0:Nat=>(⟨fL [(0,.v (.string s)),(1,.v (.string t)),(5,.v (.int .i64 ((k0:Nat):Int)))],bl [],0⟩:St)) (fun k0=>((s.size+1) - k0)) (fun k0=>(k0<=(s.size+1))) 0 (cO (.cons rfl rfl (.cons rfl rfl (.cons rfl rfl .nil))) .nil) (Nat.zero_le _) ?_)
 rintro k0 hinv
 have hle_k0:=hinv
 refine ⟨by omega,cB (fun hc12=>?_) (fun hc12=>?_)⟩
 ·have hlt12:k0 < s.size+1:=by have:=of_decide_eq_true hc12; omega
  have hq12:((k0:Nat):Int)+((t.size:Nat):Int)<=s.size:=of_decide_eq_true hc12
  refine ⟨by omega,OpG.lk (Ak Tryz.underlying9 rfl rfl rfl (by omega) (by omega) (by omega)) ?_⟩
  refine cB (fun hc23=>?_) (fun hc23=>?_)
  ·exact rV Tryz.results162 rfl ⟨_,rfl⟩
  refine ⟨by omega,⟨(k0+1),by omega,(cO (.cons rfl rfl (.cons rfl rfl (.cons rfl rfl .nil))) .nil),?_⟩⟩
  omega
 exact rV Tryz.results162 rfl ⟨_,rfl⟩
theorem Ud :PRet Tryz.prog 163 [] (fun r=>∃ s:ByteArray,r=.v (.string s)/\s.size<=1000):=by
 exact PRet.of_vc ao [] [] Tryz.func163 rfl Tryz.ntmps163 rfl (by kernel_rfl) (rV Tryz.results163 rfl ⟨_,rfl,by decide⟩)
theorem N6 (s:ByteArray) (hs:lw s):PRet Tryz.prog 125 [.v (.string s)] (fun r=>∃ b:Bool,r=.v (.bool b)):=by
 refine PRet.of_vc ao [] [] Tryz.func125 rfl Tryz.ntmps125 rfl (by kernel_rfl) ?_
 refine cB (fun hg7=>?_) (fun hg7=>?_)
 ·have hlt7:s.size < 1:=Int.ofNat_lt.1 (of_decide_eq_true hg7)
  refine cT (cT ?_)
  exact cT (rV Tryz.results125 rfl ⟨_,rfl⟩)
 have hge7:¬ s.size < 1:=fun h=>of_decide_eq_false hg7 (Int.ofNat_lt.2 h)
 refine cB (fun hg12=>?_) (fun hg12=>?_)
 ·have hq12:((s.size:Nat):Int) > (24:Int):=of_decide_eq_true hg12
  refine cT (cT ?_)
  exact rV Tryz.results125 rfl ⟨_,rfl⟩
 have hq12:¬ (((s.size:Nat):Int) > (24:Int)):=of_decide_eq_false hg12
 refine ⟨(by exact Nat.lt_of_lt_of_le Nat.zero_lt_one (by omega)),?_⟩
 refine cB (fun hg17=>?_) (fun hg17=>?_)
 ·exact cT (rV Tryz.results125 rfl ⟨_,rfl⟩)
 refine ⟨(by exact Nat.lt_of_lt_of_le Nat.zero_lt_one (by omega)),?_⟩
 refine cB (fun hc21=>?_) (fun hc21=>?_)
 ·exact rV Tryz.results125 rfl ⟨_,rfl⟩
 refine LpG.on (fun k0:Nat=>(⟨fL [(0,.v (.string s)),(3,.v (.int .i64 ((k0:Nat):Int)))],bl [],0⟩:St)) (fun k0=>(s.size - k0)) (fun k0=>(k0<=s.size)) 0 (cO (.cons rfl rfl (.cons rfl rfl .nil)) .nil) (Nat.zero_le _) ?_
 rintro k0 hinv
 have hgr_k0:s.size<=140737488355328:=Nat.le_trans hs (by decide)
 have hle_k0:=hinv
 refine cB (fun hc25=>?_) (fun hc25=>?_)
 ·have hlt25:k0 < s.size:=Int.ofNat_lt.1 (of_decide_eq_true hc25)
  refine ⟨(by assumption),?_⟩
  refine cB (fun hg32=>?_) (fun hg32=>?_)
  ·refine ⟨(by assumption),?_⟩
   refine cB (fun hg38=>?_) (fun hg38=>?_)
   ·refine cT (cF ?_)
    refine ⟨by omega,?_⟩
    refine ⟨(k0+1),by omega,(cO (.cons rfl rfl (.cons rfl rfl .nil)) .nil),?_⟩
    omega
   refine ⟨(by assumption),?_⟩
   refine cB (fun hg43=>?_) (fun hg43=>?_)
   ·refine ⟨(by assumption),?_⟩
    refine cB (fun hg50=>?_) (fun hg50=>?_)
    ·refine cF ⟨by omega,⟨(k0+1),by omega,(cO (.cons rfl rfl (.cons rfl rfl .nil)) .nil),?_⟩⟩
     omega
    refine ⟨(by assumption),?_⟩
    refine cB (fun hc56=>?_) (fun hc56=>?_)
    ·exact rV Tryz.results125 rfl ⟨_,rfl⟩
    refine ⟨by omega,?_⟩
    refine ⟨(k0+1),by omega,(cO (.cons rfl rfl (.cons rfl rfl .nil)) .nil),?_⟩
    omega
   refine cF ⟨(by assumption),cB (fun hc56=>?_) (fun hc56=>?_)⟩
   ·exact rV Tryz.results125 rfl ⟨_,rfl⟩
   refine ⟨by omega,?_⟩
   refine ⟨(k0+1),by omega,(cO (.cons rfl rfl (.cons rfl rfl .nil)) .nil),?_⟩
   omega
  refine cF ⟨(by assumption),cB (fun hg43=>?_) (fun hg43=>?_)⟩
  ·refine ⟨(by assumption),?_⟩
   refine cB (fun hg50=>?_) (fun hg50=>?_)
   ·refine cF ⟨by omega,⟨(k0+1),by omega,(cO (.cons rfl rfl (.cons rfl rfl .nil)) .nil),?_⟩⟩
    omega
   refine ⟨(by assumption),?_⟩
   refine cB (fun hc56=>?_) (fun hc56=>?_)
   ·exact rV Tryz.results125 rfl ⟨_,rfl⟩
   refine ⟨by omega,?_⟩
   refine ⟨(k0+1),by omega,(cO (.cons rfl rfl (.cons rfl rfl .nil)) .nil),?_⟩
   omega
  refine cF ⟨(by assumption),cB (fun hc56=>?_) (fun hc56=>?_)⟩
  ·exact rV Tryz.results125 rfl ⟨_,rfl⟩
  refine ⟨by omega,?_⟩
  refine ⟨(k0+1),by omega,(cO (.cons rfl rfl (.cons rfl rfl .nil)) .nil),?_⟩
  omega
 have hge25:¬ k0 < s.size:=fun h=>of_decide_eq_false hc25 (Int.ofNat_lt.2 h)
 refine ArgG.mk (Ud) rfl ?_
 rintro _ ⟨s0,rfl,hs0⟩
 refine ⟨(by simp only [ByteArray.size_append,Qb]; omega),?_⟩
 refine ⟨(by simp only [ByteArray.size_append,Qb]; omega),?_⟩
 refine ArgG.mk (Fb s0 (by show _<=_; omega) ((((⟨#[32]⟩:ByteArray)++s)++(⟨#[32]⟩:ByteArray))) (by show _<=_; simp only [ByteArray.size_append,Qb]; omega)) rfl ?_
 rintro _ ⟨b1,rfl⟩
 exact rV Tryz.results125 rfl ⟨_,rfl⟩
theorem Mu (c:GCol) (hc:FitCol c):PRet Tryz.prog 126 [.agg (us c)] (fun r=>∃ b:Bool,r=.v (.bool b)/\(b=true->(c.type_=1/\-2147483648<=c.low_/\c.low_<=c.high_/\c.high_<=2147483647/\c.max_=0)\/(c.type_=2/\1<=c.max_/\c.max_<=16/\c.low_=0/\c.high_=0))):=by
 refine PRet.of_vc ao [] [] Tryz.func126 rfl Tryz.ntmps126 rfl (by kernel_rfl) ?_
 refine ArgG.mk (N6 c.name_ hc.name_) rfl ?_
 rintro _ ⟨b0,rfl⟩
 refine cB (fun hc6=>?_) (fun hc6=>?_)
 ·exact rV Tryz.results126 rfl bF
 refine cB (fun hc9=>?_) (fun hc9=>?_)
 ·have hq9:(c.type_:Int)=(1:Int):=by simpa using hc9
  refine cB (fun hg13=>?_) (fun hg13=>?_)
  ·have hq13:(c.low_:Int)≥((-2147483648):Int):=of_decide_eq_true hg13
   refine cB (fun hg20=>?_) (fun hg20=>?_)
   ·have hq20:(c.low_:Int)<=(c.high_:Int):=of_decide_eq_true hg20
    refine cB (fun hg25=>?_) (fun hg25=>?_)
    ·have hq25:(c.high_:Int)<=(2147483647:Int):=of_decide_eq_true hg25
     refine rV Tryz.results126 rfl ?_
     (refine ⟨_,rfl,fun hr=>?_⟩; simp_all; try omega; done)
    have hq25:¬ ((c.high_:Int)<=(2147483647:Int)):=of_decide_eq_false hg25
    exact rV Tryz.results126 rfl bF
   have hq20:¬ ((c.low_:Int)<=(c.high_:Int)):=of_decide_eq_false hg20
   exact cF (rV Tryz.results126 rfl bF)
  have hq13:¬ ((c.low_:Int)≥((-2147483648):Int)):=of_decide_eq_false hg13
  refine cF (cF ?_)
  exact rV Tryz.results126 rfl bF
 have hq9:¬ ((c.type_:Int)=(1:Int)):=by simpa using hc9
 refine cB (fun hg33=>?_) (fun hg33=>?_)
 ·have hq33:(c.type_:Int)=(2:Int):=by simpa using hg33
  refine cB (fun hg38=>?_) (fun hg38=>?_)
  ·have hq38:(c.max_:Int)≥(1:Int):=of_decide_eq_true hg38
   refine cB (fun hg43=>?_) (fun hg43=>?_)
   ·have hq43:(c.max_:Int)<=(16:Int):=of_decide_eq_true hg43
    refine cB (fun hg48=>?_) (fun hg48=>?_)
    ·have hq48:(c.low_:Int)=(0:Int):=by simpa using hg48
     refine rV Tryz.results126 rfl ?_
     (refine ⟨_,rfl,fun hr=>?_⟩; simp_all; try omega; done)
    have hq48:¬ ((c.low_:Int)=(0:Int)):=by simpa using hg48
    exact rV Tryz.results126 rfl bF
   have hq43:¬ ((c.max_:Int)<=(16:Int)):=of_decide_eq_false hg43
   exact cF (rV Tryz.results126 rfl bF)
  have hq38:¬ ((c.max_:Int)≥(1:Int)):=of_decide_eq_false hg38
  refine cF (cF ?_)
  exact rV Tryz.results126 rfl bF
 have hq33:¬ ((c.type_:Int)=(2:Int)):=by simpa using hg33
 refine cF (cF ?_)
 exact cF (rV Tryz.results126 rfl bF)
theorem toList_inj {a b:ByteArray} (h:a.toList=b.toList):a=b:=by
 rw [Go.ByteArray.toList_eq,Go.ByteArray.toList_eq] at h
 exact ByteArray.ext (Array.toList_inj.1 h)
theorem Lp {T:List GCol} {l:List Int} {s:KL ByteArray} (h:s.L.length=s.k/\∀ j,j < s.k->∃ p:Nat,∃ hp:p < T.length,l[j]? = some ((p:Nat):Int)/\s.L[j]? = some T[p].name_) {p:Nat} (hp:p < T.length) (hl:l[s.k]? = some ((p:Nat):Int)) :
  (s.L++[T[p].name_]).length=s.k+1/\∀ j,j < s.k+1->∃ p':Nat,∃ hp:p' < T.length,l[j]? = some ((p':Nat):Int)/\(s.L++[T[p].name_])[j]? = some T[p'].name_:=by
 refine ⟨by simp [h.1],fun j hj=>?_⟩
 rcases Nat.lt_succ_iff_lt_or_eq.1 hj with hj | rfl
 ·obtain ⟨p',hp',e1,e2⟩:=h.2 j hj
  exact ⟨p',hp',e1,by rw [List.getElem?_append_left (by omega)]; exact e2⟩
 exact ⟨p,hp,hl,by rw [<- h.1]; simp⟩
theorem Lh {T:List GCol} {l:List ByteArray} {s:KL Int} (h:s.L.length=s.k/\∀ j,j < s.k->∃ p:Nat,∃ hp:p < T.length,s.L[j]? = some ((p:Nat):Int)/\l[j]? = some T[p].name_) {p:Nat} (hp:p < T.length) (hl:l[s.k]? = some T[p].name_) :
  (s.L++[((p:Nat):Int)]).length=s.k+1/\∀ j,j < s.k+1->∃ p':Nat,∃ hp:p' < T.length,(s.L++[((p:Nat):Int)])[j]? = some ((p':Nat):Int)/\l[j]? = some T[p'].name_:=by
 refine ⟨by simp [h.1],fun j hj=>?_⟩
 rcases Nat.lt_succ_iff_lt_or_eq.1 hj with hj | rfl
 ·obtain ⟨p',hp',e1,e2⟩:=h.2 j hj
  exact ⟨p',hp',by rw [List.getElem?_append_left (by omega)]; exact e1,e2⟩
 exact ⟨p,hp,by rw [<- h.1]; simp,hl⟩
/-- The columns a[j] and b[j] have the same type. -/
def V3 (T U:List GCol) (a b:List Int) (j:Nat):Prop:=∃ p q:Nat,∃ (hp:p < T.length) (hq:q < U.length),a[j]? = some ((p:Nat):Int)/\b[j]? = some ((q:Nat):Int)/\T[p].type_=U[q].type_
def Wi (T U:List GCol) (a b:List Int):Prop:=∀ j,j < a.length->V3 T U a b j
/-- L holds the names of the columns l. -/
def Gb (T:List GCol) (l:List Int) (L:List ByteArray):Prop:=∀ j,j < l.length->∃ p:Nat,∃ hp:p < T.length,l[j]? = some ((p:Nat):Int)/\L[j]? = some T[p].name_
/-- What a search for a name gives. -/
def Nb {α:Type} (l:List α) (f:α->ByteArray) (nm:ByteArray) (j:Nat) (b:Bool):Prop:=(∀ h:j < l.length,b=true->f l[j]=nm)/\(b=false->∀ x∈l,f x≠nm)
theorem Ao {α:Type} {l:List α} {f:α->ByteArray} {nm:ByteArray} {k:Nat} (h:k < l.length) (hc:((f l[k]).toList==nm.toList)=true):Nb l f nm k true:=⟨fun _ _=>toList_inj (beq_iff_eq.1 hc),fun h=>absurd h.symm Bool.false_ne_true⟩
theorem Nb.no {α:Type} {l:List α} {f:α->ByteArray} {nm:ByteArray} {j k:Nat} (h:∀ j (hl:j < l.length),j < k->f l[j]≠nm) (hk:¬ k < l.length):Nb l f nm j false:=⟨fun _ h=>absurd h Bool.false_ne_true,fun _ x hx=>by obtain ⟨i,hi,rfl⟩:=List.getElem_of_mem hx; exact h i hi (by omega)⟩
theorem Wy {a b:ByteArray} (h:(a.toList==b.toList)=false):a≠b:=fun e=>by rw [e] at h; simp at h
/-- The names of a list differ. -/
def Ne {α β:Type} (f:α->β) (l:List α):Prop:=∀ i j (hi:i < l.length) (hj:j < l.length),f l[i]=f l[j]->i=j
theorem Ne.of {α β:Type} {f:α->β} {l:List α} (h:∀ i (hi:i < l.length),∀ j (hj:j < l.length),j < i->f l[i]≠f l[j]):Ne f l:=fun i j hi hj e=>by
 rcases Nat.lt_trichotomy i j with g | g | g
 ·exact absurd e.symm (h j hj i hi g)
 ·exact g
 exact absurd e (h i hi j hj g)
theorem by3:(Tryz.prog.info? 3).map (·.bytes)=some 8:=by kernel_rfl
theorem by9:(Tryz.prog.info? 9).map (·.bytes)=some 16:=by kernel_rfl
theorem W0:aa Tryz.prog 81=some 6:=by kernel_rfl
theorem sz9:aa Tryz.prog 9=some 1:=by kernel_rfl
theorem zr3:ax Tryz.prog 3=some (.int .i64 0):=by kernel_rfl
theorem zr9:ax Tryz.prog 9=some (.string ⟨#[]⟩):=by kernel_rfl
theorem Ds (s:List GTab) (hs:bw s (fun y=>FitTab y)) (nm:ByteArray) (hnm:lw nm):PRet Tryz.prog 127 [.tree 5 (s.map ef),.v (.string nm)] (fun r=>∃ (j:Nat) (b:Bool),r=.tup [.v (.int .i64 ((j:Nat):Int)),.v (.bool b)]/\(b=true->j < s.length)/\Nb s (·.name_) nm j b):=by
 refine PRet.of_vc ao [] [] Tryz.func127 rfl Tryz.ntmps127 rfl (by kernel_rfl) (LpG.on (fun k0:Nat=>(⟨fL [(0,.tree 5 (s.map ef)),(1,.v (.string nm)),(6,.v (.int .i64 ((k0:Nat):Int)))],bl [],0⟩:St)) (fun k0=>(s.length - k0)) (fun k0=>(k0<=s.length/\∀ j (hl:j < s.length),j < k0->s[j].name_≠nm)) 0 (cO (.cons rfl rfl (.cons rfl rfl (.cons rfl rfl .nil))) .nil) ⟨Nat.zero_le _,fun j _ h=>absurd h (Nat.not_lt_zero j)⟩ ?_)
 rintro k0 hinv
 have hgr_k0:s.length<=140737488355328:=hs.1
 obtain ⟨hle_k0,hj_k0⟩:=hinv
 refine LenG.of (cL (fun hlt10=>?_) (fun hge10=>?_))
 ·refine IdxG.of (by assumption) (cB (fun hc19=>?_) (fun hc19=>?_))
  ·exact ⟨.inr rfl,_,ab Tryz.results127 (O3.tmp ⟨[],FzP.pure rfl⟩) (O3.tmp ⟨[],FzP.pure rfl⟩),⟨_,_,rfl,fun _=>by assumption,Ao (by assumption) (by assumption)⟩⟩
  refine ⟨by omega,⟨(k0+1),by omega,(cO (.cons rfl rfl (.cons rfl rfl (.cons rfl rfl .nil))) .nil),?_⟩⟩
  refine ⟨by omega,fun j hl h=>?_⟩
  rcases Nat.lt_succ_iff_lt_or_eq.1 h with h | rfl
  ·exact hj_k0 j hl h
  exact Wy (by assumption)
 exact ⟨.inr rfl,_,ab Tryz.results127 (O3.tmp ⟨[],FzP.pure rfl⟩) (O3.tmp ⟨[],FzP.pure rfl⟩),⟨0,false,rfl,fun h=>absurd h Bool.false_ne_true,Nb.no hj_k0 (by assumption)⟩⟩
theorem Ay (l:List ByteArray) (hl:bw l (fun y=>lw y)):PRet Tryz.prog 128 [.tree 1 (l.map sA)] (fun r=>∃ b:Bool,r=.v (.bool b)/\(b=false->Ne id l)):=by
 refine PRet.of_vc ao [] [] Tryz.func128 rfl Tryz.ntmps128 rfl (by kernel_rfl) (LpG.on (fun k0:Nat=>(⟨fL [(0,.tree 1 (l.map sA)),(3,.v (.int .i64 ((k0:Nat):Int)))],bl [],0⟩:St)) (fun k0=>(l.length - k0)) (fun k0=>(k0<=l.length/\∀ i (hi:i < l.length),i < k0->∀ j (hj:j < l.length),j < i->l[i]≠l[j])) 0 (cO (.cons rfl rfl (.cons rfl rfl .nil)) .nil) ⟨Nat.zero_le _,fun j _ h=>absurd h (Nat.not_lt_zero j)⟩ ?_)
 rintro k0 hinv
 have hgr_k0:l.length<=140737488355328:=hl.1
 obtain ⟨hle_k0,hj_k0⟩:=hinv
 refine LenG.of (cL (fun hlt8=>?_) (fun hge8=>?_))
 ·refine LpG.on (fun k2:Nat=>(⟨fL [(0,.tree 1 (l.map sA)),(3,.v (.int .i64 ((k0:Nat):Int))),(4,.v (.int .i64 ((k2:Nat):Int)))],bl [],0⟩:St)) (fun k2=>(k0 - k2)) (fun k2=>(k2<=k0/\∀ j (hl:j < l.length),j < k2->l[k0]≠l[j])) 0 (cO (.cons rfl rfl (.cons rfl rfl (.cons rfl rfl .nil))) .nil) ⟨Nat.zero_le _,fun j _ h=>absurd h (Nat.not_lt_zero j)⟩ ?_
  rintro k2 hinv
  obtain ⟨hle_k2,hj_k2⟩:=hinv
  refine cL (fun hlt13=>?_) (fun hge13=>?_)
  ·refine IdxG.of (by assumption) (IdxG.of (by omega) ?_)
   refine ⟨by kernel_rfl,cB (fun hc24=>?_) (fun hc24=>?_)⟩
   ·exact rV Tryz.results128 rfl ⟨_,rfl,fun h=>absurd h.symm Bool.false_ne_true⟩
   refine ⟨by omega,⟨(k2+1),by omega,(cO (.cons rfl rfl (.cons rfl rfl (.cons rfl rfl .nil))) .nil),?_⟩⟩
   refine ⟨by omega,fun j hl h=>?_⟩
   rcases Nat.lt_succ_iff_lt_or_eq.1 h with h | rfl
   ·exact hj_k2 j hl h
   exact Wy (by assumption)
  refine ⟨by omega,⟨(k0+1),by omega,(cO (.cons rfl rfl (.cons rfl rfl .nil)) .nil),?_⟩⟩
  refine ⟨by omega,fun j hl h=>?_⟩
  rcases Nat.lt_succ_iff_lt_or_eq.1 h with h | rfl
  ·exact hj_k0 j hl h
  intro j hj hji; exact hj_k2 j hj (by omega)
 exact rV Tryz.results128 rfl ⟨_,rfl,fun _=>Ne.of fun i hi j hj h=>hj_k0 i hi (by omega) j hj h⟩
theorem Ph (a:List ByteArray) (ha:bw a (fun y=>lw y)) (b:List ByteArray) (hb:bw b (fun y=>lw y)):PRet Tryz.prog 129 [.tree 1 (a.map sA),.tree 1 (b.map sA)] (fun r=>∃ b:Bool,r=.v (.bool b)):=by
 refine PRet.of_vc ao [] [] Tryz.func129 rfl Tryz.ntmps129 rfl (by kernel_rfl) (LenG.of ?_)
 refine LenG.of (cB (fun hc10=>?_) (fun hc10=>?_))
 ·have hq10:¬ (((a.length:Nat):Int)=((b.length:Nat):Int)):=by simpa using hc10
  exact rV Tryz.results129 rfl ⟨_,rfl⟩
 have hq10:((a.length:Nat):Int)=((b.length:Nat):Int):=by simpa using hc10
 have hab:a.length=b.length:=by have h:=hc10; simp at h; omega
 refine LpG.on (fun k0:Nat=>(⟨fL [(0,.tree 1 (a.map sA)),(1,.tree 1 (b.map sA)),(5,.v (.int .i64 ((k0:Nat):Int)))],bl [],0⟩:St)) (fun k0=>(a.length - k0)) (fun k0=>(k0<=a.length)) 0 (cO (.cons rfl rfl (.cons rfl rfl (.cons rfl rfl .nil))) .nil) (Nat.zero_le _) ?_
 rintro k0 hinv
 have hgr_k0:a.length<=140737488355328:=ha.1
 have hle_k0:=hinv
 refine LenG.of (cL (fun hlt14=>?_) (fun hge14=>?_))
 ·refine IdxG.of (by assumption) (IdxG.of (by omega) ?_)
  refine ⟨by kernel_rfl,cB (fun hc25=>?_) (fun hc25=>?_)⟩
  ·exact rV Tryz.results129 rfl ⟨_,rfl⟩
  refine ⟨by omega,⟨(k0+1),by omega,(cO (.cons rfl rfl (.cons rfl rfl (.cons rfl rfl .nil))) .nil),?_⟩⟩
  omega
 exact rV Tryz.results129 rfl ⟨_,rfl⟩
theorem Uf (a:List Int) (ha:bw a (fun y=>True)) (b:List Int) (hb:bw b (fun y=>True)):PRet Tryz.prog 131 [.tree 1 (a.map iA),.tree 1 (b.map iA)] (fun r=>∃ b:Bool,r=.v (.bool b)):=by
 refine PRet.of_vc ao [] [] Tryz.func131 rfl Tryz.ntmps131 rfl (by kernel_rfl) (LenG.of ?_)
 refine LenG.of (cB (fun hc10=>?_) (fun hc10=>?_))
 ·have hq10:¬ (((a.length:Nat):Int)=((b.length:Nat):Int)):=by simpa using hc10
  exact rV Tryz.results131 rfl ⟨_,rfl⟩
 have hq10:((a.length:Nat):Int)=((b.length:Nat):Int):=by simpa using hc10
 have hab:a.length=b.length:=by have h:=hc10; simp at h; omega
 refine LpG.on (fun k0:Nat=>(⟨fL [(0,.tree 1 (a.map iA)),(1,.tree 1 (b.map iA)),(5,.v (.int .i64 ((k0:Nat):Int)))],bl [],0⟩:St)) (fun k0=>(a.length - k0)) (fun k0=>(k0<=a.length)) 0 (cO (.cons rfl rfl (.cons rfl rfl (.cons rfl rfl .nil))) .nil) (Nat.zero_le _) ?_
 rintro k0 hinv
 have hgr_k0:a.length<=140737488355328:=ha.1
 have hle_k0:=hinv
 refine LenG.of (cL (fun hlt14=>?_) (fun hge14=>?_))
 ·refine IdxG.of (by assumption) (IdxG.of (by omega) ?_)
  refine ⟨by kernel_rfl,cN (fun hq25=>?_) (fun hq25=>?_)⟩
  ·exact rV Tryz.results131 rfl ⟨_,rfl⟩
  refine ⟨by omega,⟨(k0+1),by omega,(cO (.cons rfl rfl (.cons rfl rfl (.cons rfl rfl .nil))) .nil),?_⟩⟩
  omega
 exact rV Tryz.results131 rfl ⟨_,rfl⟩
theorem Bu (t:GTbu) (ht:FitTbu t) (nm:ByteArray) (hnm:lw nm):PRet Tryz.prog 164 [.agg (Kd t),.v (.string nm)] (fun r=>∃ (j:Nat) (b:Bool),r=.tup [.v (.int .i64 ((j:Nat):Int)),.v (.bool b)]/\(b=true->j < t.columns_.length)/\Nb t.columns_ (·.name_) nm j b):=by
 refine PRet.of_vc ao [] [] Tryz.func164 rfl Tryz.ntmps164 rfl (by kernel_rfl) (LpG.on (fun k0:Nat=>(⟨fL [(1,.v (.string nm)),(2,.ptr 0 0 0),(6,.v (.int .i64 ((k0:Nat):Int)))],bl [(0,⟨0,Kd t,0,false⟩)],1⟩:St)) (fun k0=>(t.columns_.length - k0)) (fun k0=>(k0<=t.columns_.length/\∀ j (hl:j < t.columns_.length),j < k0->t.columns_[j].name_≠nm)) 0 (cO (.cons rfl rfl (.cons rfl rfl (.cons rfl rfl .nil))) (.cons rfl rfl rfl .nil)) ⟨Nat.zero_le _,fun j _ h=>absurd h (Nat.not_lt_zero j)⟩ ?_)
 rintro k0 hinv
 have hgr_k0:t.columns_.length<=140737488355328:=ht.columns_.1
 obtain ⟨hle_k0,hj_k0⟩:=hinv
 refine LenG.of (cL (fun hlt11=>?_) (fun hge11=>?_))
 ·refine IdxG.of (by assumption) (cB (fun hc21=>?_) (fun hc21=>?_))
  ·exact ⟨.inr rfl,_,ab Tryz.results164 (O3.tmp ⟨[],FzP.pure rfl⟩) (O3.tmp ⟨[],FzP.pure rfl⟩),⟨_,_,rfl,fun _=>by assumption,Ao (by assumption) (by assumption)⟩⟩
  refine ⟨by omega,⟨(k0+1),by omega,(cO (.cons rfl rfl (.cons rfl rfl (.cons rfl rfl .nil))) (.cons rfl rfl rfl .nil)),?_⟩⟩
  refine ⟨by omega,fun j hl h=>?_⟩
  rcases Nat.lt_succ_iff_lt_or_eq.1 h with h | rfl
  ·exact hj_k0 j hl h
  exact Wy (by assumption)
 exact ⟨.inr rfl,_,ab Tryz.results164 (O3.tmp ⟨[],FzP.pure rfl⟩) (O3.tmp ⟨[],FzP.pure rfl⟩),⟨0,false,rfl,fun h=>absurd h Bool.false_ne_true,Nb.no hj_k0 (by assumption)⟩⟩
theorem Kr (t:GTbu) (ht:FitTbu t) (u:GTbu) (hu:FitTbu u) (a:List Int) (ha:bw a (fun y=>True)) (b:List Int) (hb:bw b (fun y=>True)) (hai:∀ x∈a,0<=x/\x < t.columns_.length) (hbi:∀ x∈b,0<=x/\x < u.columns_.length) (hab:a.length=b.length):PRet Tryz.prog 132 [.agg (Kd t),.agg (Kd u),.tree 1 (a.map iA),.tree 1 (b.map iA)] (fun r=>∃ c:Bool,r=.v (.bool c)/\(c=true->Wi t.columns_ u.columns_ a b)):=by
 refine PRet.of_vc ao [22,31] [] Tryz.func132 rfl Tryz.ntmps132 rfl (by kernel_rfl) (LpG.on (fun k0:Nat=>(⟨fL [(2,.tree 1 (a.map iA)),(3,.tree 1 (b.map iA)),(4,.ptr 0 0 0),(5,.ptr 1 0 0),(9,.v (.int .i64 ((k0:Nat):Int)))],bl [(0,⟨0,Kd t,0,false⟩),(1,⟨0,Kd u,0,false⟩)],2⟩:St)) (fun k0=>(a.length - k0)) (fun k0=>(k0<=a.length/\∀ j (hl:j < a.length),j < k0->V3 t.columns_ u.columns_ a b j)) 0 (cO (.cons rfl rfl (.cons rfl rfl (.cons rfl rfl (.cons rfl rfl (.cons rfl rfl .nil))))) (.cons rfl rfl rfl (.cons rfl rfl rfl .nil))) ⟨Nat.zero_le _,fun j _ h=>absurd h (Nat.not_lt_zero j)⟩ ?_)
 rintro k0 hinv
 have hgr_k0:a.length<=140737488355328:=ha.1
 obtain ⟨hle_k0,hj_k0⟩:=hinv
 refine LenG.of (cL (fun hlt13=>?_) (fun hge13=>?_))
 ·have hltb:k0 < b.length:=by omega
  obtain ⟨j1,hje1,hjl1⟩:∃ j:Nat,a[k0]=((j:Nat):Int)/\j < t.columns_.length:=⟨(a[k0]).toNat,by have:=hai _ (Ze _:a[k0]∈_); omega,by have:=hai _ (Ze _:a[k0]∈_); omega⟩
  obtain ⟨j2,hje2,hjl2⟩:∃ j:Nat,b[k0]=((j:Nat):Int)/\j < u.columns_.length:=⟨(b[k0]).toNat,by have:=hbi _ (Ze _:b[k0]∈_); omega,by have:=hbi _ (Ze _:b[k0]∈_); omega⟩
  refine IdxG.of (by assumption) (OpG.lk (ah Tryz.underlying30 W0 rfl rfl hje1 hjl1) ?_)
  refine IdxG.of (by assumption) (OpG.lk (ah Tryz.underlying30 W0 rfl rfl hje2 hjl2) ?_)
  refine ⟨by kernel_rfl,cN (fun hq34=>?_) (fun hq34=>?_)⟩
  ·exact rV Tryz.results132 rfl bF
  refine ⟨by omega,⟨(k0+1),by omega,(cO (.cons rfl rfl (.cons rfl rfl (.cons rfl rfl (.cons rfl rfl (.cons rfl rfl .nil))))) (.cons rfl rfl rfl (.cons rfl rfl rfl .nil))),?_⟩⟩
  refine ⟨by omega,fun j hl h=>?_⟩
  rcases Nat.lt_succ_iff_lt_or_eq.1 h with h | rfl
  ·exact hj_k0 j hl h
  exact ⟨j1,j2,hjl1,hjl2,(Zf hlt13).trans (congrArg some hje1),(Zf hltb).trans (congrArg some hje2),by simp_all⟩
 exact rV Tryz.results132 rfl ⟨_,rfl,fun _ j hj=>hj_k0 j hj (by omega)⟩
theorem Lo (t:GTbu) (ht:FitTbu t) (l:List Int) (hl:bw l (fun y=>True)) (hli:∀ x∈l,0<=x/\x < t.columns_.length) (hl2:l.length<=1000):PRet Tryz.prog 83 [.agg (Kd t),.tree 1 (l.map iA)] (fun r=>∃ L:List ByteArray,r=.tree 1 (L.map sA)/\L.length=l.length/\bw L (fun y=>lw y)/\Gb t.columns_ l L):=by
 refine PRet.of_vc ao [20] [] Tryz.func83 rfl Tryz.ntmps83 rfl (by kernel_rfl) (LpG.via (fun _ h=>bq 5 1 rfl 2 rfl h) ?_)
 refine LpG.on (fun k0:KL ByteArray=>(⟨fL [(1,.tree 1 (l.map iA)),(2,.ptr 0 0 0),(5,.sl 1 k0.L.length 0 k0.L.length),(6,.v (.int .i64 ((k0.k:Nat):Int)))],bl [(0,⟨0,Kd t,0,false⟩),(1,⟨k0.L.length,rF sA k0.L,1,Nat.beq k0.L.length 0⟩)],2⟩:St)) (fun k0=>(l.length - k0.k)) (fun k0=>(k0.k<=l.length/\k0.L.length=k0.k/\(∀ x∈k0.L,lw x)/\(k0.L.length=k0.k/\∀ j,j < k0.k->∃ p:Nat,∃ hp:p < t.columns_.length,l[j]? = some ((p:Nat):Int)/\k0.L[j]? = some t.columns_[p].name_))) (⟨0,[]⟩:KL ByteArray) (cO (.cons rfl rfl (.cons rfl rfl (.cons (by rfl) rfl (.cons rfl rfl .nil)))) (.cons rfl rfl rfl (.cons (by rfl) rfl (ag zc _ _) .nil))) ⟨Nat.zero_le _,rfl,by simp,⟨rfl,fun j h=>absurd h (Nat.not_lt_zero j)⟩⟩ ?_
 rintro k0 hinv
 have hgr_k0:l.length<=140737488355328:=hl.1
 obtain ⟨hle_k0,hL_k0,hf_k0,hi_k0⟩:=hinv
 refine LenG.of (cL (fun hlt10=>?_) (fun hge10=>?_))
 ·obtain ⟨j1,hje1,hjl1⟩:∃ j:Nat,l[k0.k]=((j:Nat):Int)/\j < t.columns_.length:=⟨(l[k0.k]).toNat,by have:=hli _ (Ze _:l[k0.k]∈_); omega,by have:=hli _ (Ze _:l[k0.k]∈_); omega⟩
  refine IdxG.of (by assumption) (OpG.lk (ah Tryz.underlying30 W0 rfl rfl hje1 hjl1) ?_)
  refine OpG.mk _ _ _ 3 (aj zc (a:=(t.columns_[j1].name_)) Tryz.underlying179 sz9 zr9 by9 rfl rfl rfl (az rfl rfl rfl rfl) rfl (by omega) (by omega) (by unfold TV; omega)) rfl rfl ⟨by kernel_rfl,⟨by omega,?_⟩⟩
  refine ⟨(⟨k0.k+1,k0.L++[(t.columns_[j1].name_)]⟩:KL ByteArray),(by show l.length - (k0.k+1) < l.length - k0.k; omega),(cO (.cons rfl rfl (.cons rfl rfl (.cons (by (rw [Zi]; rfl)) rfl (.cons rfl rfl .nil)))) (.cons rfl rfl rfl (.cons (by (rw [Zi]; rfl)) rfl (ag zc _ _) .nil))),⟨by show k0.k+1<=_; omega,by show (_++[_]).length=k0.k+1; rw [Zi,hL_k0]; rfl,fun y_ hy_=>(Zk.1 hy_).elim (hf_k0 y_) (fun hy_=>by rw [Zj.1 hy_]; exact (ht.columns_.2 _ (Ze _)).name_),?_⟩⟩
  exact Lp hi_k0 hjl1 ((Zf hlt10).trans (congrArg some hje1))
 exact ⟨.inr rfl,_,Kh.tmp Tryz.results83 ⟨[1],FzP.rows zc (Zj.2 rfl) rfl⟩,⟨_,rfl,by omega,⟨by omega,hf_k0⟩,fun j hj=>hi_k0.2 j (by omega)⟩⟩
theorem qp (t:GTbu) (ht:FitTbu t) (l:List ByteArray) (hl:bw l (fun y=>lw y)) (hl2:l.length<=1000):PRet Tryz.prog 130 [.agg (Kd t),.tree 1 (l.map sA)] (fun r=>∃ (L:List Int) (b:Bool),r=.tup [.tree 1 (L.map iA),.v (.bool b)]/\bw L (fun _=>True)/\(b=true->L.length=l.length/\∀ x∈L,0<=x/\x < t.columns_.length)/\(b=true->Gb t.columns_ L l)):=by
 refine PRet.of_vc ao [] [] Tryz.func130 rfl Tryz.ntmps130 rfl (by kernel_rfl) (LpG.via (fun _ h=>bq 6 1 rfl 2 rfl h) ?_)
 refine LpG.on (fun k0:KL Int=>(⟨fL [(1,.tree 1 (l.map sA)),(2,.ptr 0 0 0),(6,.sl 1 k0.L.length 0 k0.L.length),(7,.v (.int .i64 ((k0.k:Nat):Int)))],bl [(0,⟨0,Kd t,0,false⟩),(1,⟨k0.L.length,rF iA k0.L,1,Nat.beq k0.L.length 0⟩)],2⟩:St)) (fun k0=>(l.length - k0.k)) (fun k0=>(k0.k<=l.length/\k0.L.length=k0.k/\(∀ x∈k0.L,True)/\((∀ x∈k0.L,0<=x/\x < t.columns_.length)/\k0.L.length=k0.k/\∀ j,j < k0.k->∃ p:Nat,∃ hp:p < t.columns_.length,k0.L[j]? = some ((p:Nat):Int)/\l[j]? = some t.columns_[p].name_))) (⟨0,[]⟩:KL Int) (cO (.cons rfl rfl (.cons rfl rfl (.cons (by rfl) rfl (.cons rfl rfl .nil)))) (.cons rfl rfl rfl (.cons (by rfl) rfl (ag nt _ _) .nil))) ⟨Nat.zero_le _,rfl,by simp,⟨fun x hx=>absurd hx (by simp),rfl,fun j h=>absurd h (Nat.not_lt_zero j)⟩⟩ ?_
 rintro k0 hinv
 have hgr_k0:l.length<=140737488355328:=hl.1
 obtain ⟨hle_k0,hL_k0,hf_k0,hi_k0⟩:=hinv
 refine LenG.of (cL (fun hlt13=>?_) (fun hge13=>?_))
 ·refine IdxG.of (by assumption) (ArgG.mk (Bu t ht (l[k0.k]) (hl.2 _ (Ze _))) rfl ?_)
  rintro _ ⟨j0,b0,rfl,hj0,hk0⟩
  refine ⟨by kernel_rfl,cB (fun hc26=>?_) (fun hc26=>?_)⟩
  ·exact ⟨.inr rfl,_,ab Tryz.results130 (O3.tmp (ret:=.tree 1 []) ⟨[],FzP.nil⟩) (O3.tmp ⟨[],FzP.pure rfl⟩),⟨[],false,rfl,⟨by simp,fun _ _=>trivial⟩,fun h=>absurd h Bool.false_ne_true,fun h=>absurd h Bool.false_ne_true⟩⟩
  refine OpG.mk _ _ _ 3 (aj nt (a:=((j0:Nat):Int)) Tryz.underlying51 sz3 zr3 by3 rfl rfl rfl (az rfl rfl rfl rfl) rfl (by omega) (by omega) (by unfold TV; omega)) rfl rfl ⟨by omega,⟨(⟨k0.k+1,k0.L++[((j0:Nat):Int)]⟩:KL Int),(by show l.length - (k0.k+1) < l.length - k0.k; omega),(cO (.cons rfl rfl (.cons rfl rfl (.cons (by (rw [Zi]; rfl)) rfl (.cons rfl rfl .nil)))) (.cons rfl rfl rfl (.cons (by (rw [Zi]; rfl)) rfl (ag nt _ _) .nil))),?_⟩⟩
  refine ⟨by show k0.k+1<=_; omega,by show (_++[_]).length=k0.k+1; rw [Zi,hL_k0]; rfl,fun _ _=>trivial,?_⟩
  have hbt:b0=true:=by simpa using hc26
  have hjl:=hj0 hbt
  refine ⟨fun x hx=>?_,Lh hi_k0.2 hjl ((Zf hlt13).trans (congrArg some (hk0.1 hjl hbt).symm))⟩
  rcases Zk.1 hx with hx | hx
  ·exact hi_k0.1 x hx
  rw [Zj.1 hx]; omega
 exact ⟨.inr rfl,_,ab Tryz.results130 (O3.tmp ⟨[1],FzP.rows nt (Zj.2 rfl) rfl⟩) (O3.tmp ⟨[],FzP.pure rfl⟩),⟨_,true,rfl,⟨by omega,fun _ _=>trivial⟩,fun _=>⟨by omega,hi_k0.1⟩,fun _ j hj=>hi_k0.2.2 j (by omega)⟩⟩
theorem Bb (t:GTab) (ht:FitTab t) (l:List Int) (hl:bw l (fun y=>True)) (hli:∀ x∈l,0<=x/\x < t.columns_.length) (hl2:l.length<=1000):PRet Tryz.prog 83 [.agg (ef t),.tree 1 (l.map iA)] (fun r=>∃ L:List ByteArray,r=.tree 1 (L.map sA)/\L.length=l.length/\bw L (fun y=>lw y)/\Gb t.columns_ l L):=(Lo ⟨t.name_,t.columns_⟩ ⟨ht.name_,ht.columns_⟩ l hl hli hl2).wk (.cons (Wk.aggL (.cons .rfl (.cons .rfl (.cons .unk (.cons .unk (.cons .unk .nil)))))) (.cons .rfl .nil))
theorem Hq (t:GTab) (ht:FitTab t) (l:List ByteArray) (hl:bw l (fun y=>lw y)) (hl2:l.length<=1000):PRet Tryz.prog 130 [.agg (ef t),.tree 1 (l.map sA)] (fun r=>∃ (L:List Int) (b:Bool),r=.tup [.tree 1 (L.map iA),.v (.bool b)]/\bw L (fun _=>True)/\(b=true->L.length=l.length/\∀ x∈L,0<=x/\x < t.columns_.length)/\(b=true->Gb t.columns_ L l)):=(qp ⟨t.name_,t.columns_⟩ ⟨ht.name_,ht.columns_⟩ l hl hl2).wk (.cons (Wk.aggL (.cons .rfl (.cons .rfl (.cons .unk (.cons .unk (.cons .unk .nil)))))) (.cons .rfl .nil))
theorem I8 {α:Type} {f:α->ByteArray} {l:List α} {L:List ByteArray} {k:Nat} (h:Ne id L) (e:L=(l.take k).map f) (hk:l.length<=k):Ne f l:=by
 rw [List.take_of_length_le hk] at e
 subst e
 intro i j hi hj he
 exact h i j (by simpa using hi) (by simpa using hj) (by simpa using he)
/-- A column that the reference takes. -/
def yk (c:GCol):Prop:=(c.type_=1/\-2147483648<=c.low_/\c.low_<=c.high_/\c.high_<=2147483647/\c.max_=0)\/(c.type_=2/\1<=c.max_/\c.max_<=16/\c.low_=0/\c.high_=0)
theorem H9 (x:GSta) (hx:FitSta x):PRet Tryz.prog 84 [.agg (F5 x)] (fun r=>∃ b:Bool,r=.v (.bool b)/\(b=false->(∀ c∈x.create_.columns_,yk c)/\(∀ f∈x.create_.foreign_,f.columns_.length=f.target_.length/\f.columns_.length≠0)/\∀ k∈x.create_.keys_,k.length≠0)):=by
 refine PRet.of_vc ao [] [] Tryz.func84 rfl Tryz.ntmps84 rfl (by kernel_rfl) (ArgG.mk (N6 x.table_ hx.table_) rfl ?_)
 rintro _ ⟨b0,rfl⟩
 refine cB (fun hg13=>?_) (fun hg13=>?_)
 ·exact cT (rV Tryz.results84 rfl ⟨_,rfl,fun h=>absurd h.symm Bool.false_ne_true⟩)
 refine LenG.of (cE (fun hq18=>?_) (fun hq18=>?_))
 ·exact rV Tryz.results84 rfl ⟨_,rfl,fun h=>absurd h.symm Bool.false_ne_true⟩
 refine LpG.on (fun k0:Nat=>(⟨fL [(3,.ptr 1 0 0),(4,.v (.int .i64 ((k0:Nat):Int)))],bl [(1,⟨0,Rm x.create_,0,false⟩)],2⟩:St)) (fun k0=>(x.create_.columns_.length - k0)) (fun k0=>(k0<=x.create_.columns_.length/\∀ j (hl:j < x.create_.columns_.length),j < k0->yk x.create_.columns_[j])) 0 (cO (.cons rfl rfl (.cons rfl rfl .nil)) (.cons rfl rfl rfl .nil)) ⟨Nat.zero_le _,fun j _ h=>absurd h (Nat.not_lt_zero j)⟩ ?_
 rintro k0 hinv
 have hgr_k0:x.create_.columns_.length<=140737488355328:=hx.create_.columns_.1
 obtain ⟨hle_k0,hj_k0⟩:=hinv
 refine LenG.of (cL (fun hlt23=>?_) (fun hge23=>?_))
 ·refine IdxG.of (by assumption) (ArgG.mk (Mu (x.create_.columns_[k0]) (hx.create_.columns_.2 _ (Ze _))) rfl ?_)
  rintro _ ⟨b1,rfl,hb1⟩
  refine cB (fun hc32=>?_) (fun hc32=>?_)
  ·exact rV Tryz.results84 rfl ⟨_,rfl,fun h=>absurd h.symm Bool.false_ne_true⟩
  refine ⟨by omega,⟨(k0+1),by omega,(cO (.cons rfl rfl (.cons rfl rfl .nil)) (.cons rfl rfl rfl .nil)),?_⟩⟩
  refine ⟨by omega,fun j hl h=>?_⟩
  rcases Nat.lt_succ_iff_lt_or_eq.1 h with h | rfl
  ·exact hj_k0 j hl h
  exact hb1 (by simpa using hc32)
 refine LpG.on (fun k2:Nat=>(⟨fL [(3,.ptr 1 0 0),(5,.v (.int .i64 ((k2:Nat):Int)))],bl [(1,⟨0,Rm x.create_,0,false⟩)],2⟩:St)) (fun k2=>(x.create_.keys_.length - k2)) (fun k2=>(k2<=x.create_.keys_.length/\∀ j (hl:j < x.create_.keys_.length),j < k2->x.create_.keys_[j].length≠0)) 0 (cO (.cons rfl rfl (.cons rfl rfl .nil)) (.cons rfl rfl rfl .nil)) ⟨Nat.zero_le _,fun j _ h=>absurd h (Nat.not_lt_zero j)⟩ ?_
 rintro k2 hinv
 have hgr_k2:x.create_.keys_.length<=140737488355328:=hx.create_.keys_.1
 obtain ⟨hle_k2,hj_k2⟩:=hinv
 refine LenG.of (cL (fun hlt37=>?_) (fun hge37=>?_))
 ·refine IdxG.of (by assumption) (LenG.of ?_)
  refine cB (fun hc46=>?_) (fun hc46=>?_)
  ·have hq46:((x.create_.keys_[k2].length:Nat):Int)=(0:Int):=by simpa using hc46
   exact rV Tryz.results84 rfl ⟨_,rfl,fun h=>absurd h.symm Bool.false_ne_true⟩
  have hq46:¬ (((x.create_.keys_[k2].length:Nat):Int)=(0:Int)):=by simpa using hc46
  refine ⟨by omega,⟨(k2+1),by omega,(cO (.cons rfl rfl (.cons rfl rfl .nil)) (.cons rfl rfl rfl .nil)),?_⟩⟩
  refine ⟨by omega,fun j hl h=>?_⟩
  rcases Nat.lt_succ_iff_lt_or_eq.1 h with h | rfl
  ·exact hj_k2 j hl h
  have h:=hc46; simp at h; intro h2; simp_all
 refine LpG.on (fun k4:Nat=>(⟨fL [(3,.ptr 1 0 0),(6,.v (.int .i64 ((k4:Nat):Int)))],bl [(1,⟨0,Rm x.create_,0,false⟩)],2⟩:St)) (fun k4=>(x.create_.foreign_.length - k4)) (fun k4=>(k4<=x.create_.foreign_.length/\∀ j (hl:j < x.create_.foreign_.length),j < k4->x.create_.foreign_[j].columns_.length=x.create_.foreign_[j].target_.length/\x.create_.foreign_[j].columns_.length≠0)) 0 (cO (.cons rfl rfl (.cons rfl rfl .nil)) (.cons rfl rfl rfl .nil)) ⟨Nat.zero_le _,fun j _ h=>absurd h (Nat.not_lt_zero j)⟩ ?_
 rintro k4 hinv
 have hgr_k4:x.create_.foreign_.length<=140737488355328:=hx.create_.foreign_.1
 obtain ⟨hle_k4,hj_k4⟩:=hinv
 refine LenG.of (cL (fun hlt51=>?_) (fun hge51=>?_))
 ·refine IdxG.of (by assumption) (LenG.of ?_)
  refine cB (fun hg62=>?_) (fun hg62=>?_)
  ·have hq62:((x.create_.foreign_[k4].columns_.length:Nat):Int)=(0:Int):=by simpa using hg62
   refine ⟨by kernel_rfl,cT ?_⟩
   exact rV Tryz.results84 rfl ⟨_,rfl,fun h=>absurd h.symm Bool.false_ne_true⟩
  have hq62:¬ (((x.create_.foreign_[k4].columns_.length:Nat):Int)=(0:Int)):=by simpa using hg62
  refine IdxG.of (by assumption) (LenG.of ?_)
  refine IdxG.of (by assumption) (LenG.of ?_)
  refine ⟨by kernel_rfl,cB (fun hc78=>?_) (fun hc78=>?_)⟩
  ·have hq78:¬ (((x.create_.foreign_[k4].columns_.length:Nat):Int)=((x.create_.foreign_[k4].target_.length:Nat):Int)):=by simpa using hc78
   exact rV Tryz.results84 rfl ⟨_,rfl,fun h=>absurd h.symm Bool.false_ne_true⟩
  have hq78:((x.create_.foreign_[k4].columns_.length:Nat):Int)=((x.create_.foreign_[k4].target_.length:Nat):Int):=by simpa using hc78
  refine ⟨by omega,⟨(k4+1),by omega,(cO (.cons rfl rfl (.cons rfl rfl .nil)) (.cons rfl rfl rfl .nil)),?_⟩⟩
  refine ⟨by omega,fun j hl h=>?_⟩
  rcases Nat.lt_succ_iff_lt_or_eq.1 h with h | rfl
  ·exact hj_k4 j hl h
  have h:=hc78; have h2:=hg62; simp at h h2; exact ⟨by omega,by intro h3; simp_all⟩
 exact rV Tryz.results84 rfl ⟨_,rfl,fun _=>⟨fun c hc=>by obtain ⟨j,hj,rfl⟩:=List.getElem_of_mem hc; exact hj_k0 j hj (by omega),fun c hc=>by obtain ⟨j,hj,rfl⟩:=List.getElem_of_mem hc; exact hj_k4 j hj (by omega),fun c hc=>by obtain ⟨j,hj,rfl⟩:=List.getElem_of_mem hc; exact hj_k2 j hj (by omega)⟩⟩
theorem Mn (s:List GTab) (hs:bw s (fun y=>FitTab y)) (x:GSta) (hx:FitSta x) (hcl:x.create_.columns_.length<=1000):PRet Tryz.prog 85 [.tree 5 (s.map ef),.agg (F5 x)] (fun r=>∃ b:Bool,r=.v (.bool b)/\(b=false->(∀ t∈s,t.name_≠x.table_)/\Ne (·.name_) x.create_.columns_)):=by
 refine PRet.of_vc ao [] [10] Tryz.func85 rfl Tryz.ntmps85 rfl (by kernel_rfl) (ArgG.mk (Ds s hs x.table_ hx.table_) rfl ?_)
 rintro _ ⟨j0,b0,rfl,hj0,hk0⟩
 refine cB (fun hc22=>?_) (fun hc22=>?_)
 ·exact rV Tryz.results85 rfl ⟨_,rfl,fun h=>absurd h.symm Bool.false_ne_true⟩
 refine LpG.via (fun _ h=>bq 8 1 rfl 3 rfl h) (LpG.on (fun k0:KL ByteArray=>(⟨fL [(5,.ptr 1 0 0),(8,.sl 2 k0.L.length 0 k0.L.length),(9,.v (.int .i64 ((k0.k:Nat):Int)))],bl [(1,⟨0,Rm x.create_,0,false⟩),(2,⟨k0.L.length,rF sA k0.L,1,Nat.beq k0.L.length 0⟩)],3⟩:St)) (fun k0=>(x.create_.columns_.length - k0.k)) (fun k0=>(k0.k<=x.create_.columns_.length/\k0.L.length=k0.k/\(∀ x∈k0.L,lw x)/\k0.L=(x.create_.columns_.take k0.k).map (·.name_))) (⟨0,[]⟩:KL ByteArray) (cO (.cons rfl rfl (.cons (by rfl) rfl (.cons rfl rfl .nil))) (.cons rfl rfl rfl (.cons (by rfl) rfl (ag zc _ _) .nil))) ⟨Nat.zero_le _,rfl,by simp,rfl⟩ ?_)
 rintro k0 hinv
 have hgr_k0:x.create_.columns_.length<=140737488355328:=hx.create_.columns_.1
 obtain ⟨hle_k0,hL_k0,hf_k0,hi_k0⟩:=hinv
 refine LenG.of (cL (fun hlt27=>?_) (fun hge27=>?_))
 ·refine IdxG.of (by assumption) (OpG.mk _ _ _ 4 (aj zc (a:=(x.create_.columns_[k0.k].name_)) Tryz.underlying179 sz9 zr9 by9 rfl rfl rfl (az rfl rfl rfl rfl) rfl (by omega) (by omega) (by unfold TV; omega)) rfl rfl ?_)
  refine ⟨by omega,⟨(⟨k0.k+1,k0.L++[(x.create_.columns_[k0.k].name_)]⟩:KL ByteArray),(by show x.create_.columns_.length - (k0.k+1) < x.create_.columns_.length - k0.k; omega),(cO (.cons rfl rfl (.cons (by (rw [Zi]; rfl)) rfl (.cons rfl rfl .nil))) (.cons rfl rfl rfl (.cons (by (rw [Zi]; rfl)) rfl (ag zc _ _) .nil))),?_⟩⟩
  refine ⟨by show k0.k+1<=_; omega,by show (_++[_]).length=k0.k+1; rw [Zi,hL_k0]; rfl,fun y_ hy_=>(Zk.1 hy_).elim (hf_k0 y_) (fun hy_=>by rw [Zj.1 hy_]; exact (hx.create_.columns_.2 _ (Ze _)).name_),?_⟩
  show _++[_]=_
  rw [List.take_succ_eq_append_getElem hlt27,List.map_append,<- hi_k0]; rfl
 refine RegG.via (fun _ h=>fg [2] 8 (.tree 1 (k0.L.map sA)) (FzP.rows zc (Zj.2 rfl) rfl) rfl h) (cr ?_)
 refine ArgG.mk (Ay k0.L ⟨by omega,hf_k0⟩) rfl ?_
 rintro _ ⟨b1,rfl,hb1⟩
 refine cB (fun hc40=>?_) (fun hc40=>?_)
 ·exact rV Tryz.results85 rfl ⟨_,rfl,fun h=>absurd h.symm Bool.false_ne_true⟩
 have hdn:Ne (·.name_) x.create_.columns_:=I8 (hb1 (by simpa using hc40)) hi_k0 (by omega)
 refine LpG.on (fun k2:Nat=>(⟨fL [(5,.ptr 1 0 0),(10,.v (.int .i64 ((k2:Nat):Int)))],bl [(1,⟨0,Rm x.create_,0,false⟩)],3⟩:St)) (fun k2=>(x.create_.keys_.length - k2)) (fun k2=>(k2<=x.create_.keys_.length)) 0 (cO (.cons rfl rfl (.cons rfl rfl .nil)) (.cons rfl rfl rfl .nil)) (Nat.zero_le _) ?_
 rintro k2 hinv
 have hgr_k2:x.create_.keys_.length<=140737488355328:=hx.create_.keys_.1
 have hle_k2:=hinv
 refine LenG.of (cL (fun hlt45=>?_) (fun hge45=>?_))
 ·refine IdxG.of (by assumption) (ArgG.mk (Ay (x.create_.keys_[k2]) (hx.create_.keys_.2 _ (Ze _))) rfl ?_)
  rintro _ ⟨b2,rfl,hb2⟩
  refine cB (fun hc53=>?_) (fun hc53=>?_)
  ·exact rV Tryz.results85 rfl ⟨_,rfl,fun h=>absurd h.symm Bool.false_ne_true⟩
  refine LpG.on (fun k4:Nat=>(⟨fL [(5,.ptr 1 0 0),(10,.v (.int .i64 ((k2:Nat):Int))),(11,.v (.int .i64 ((k4:Nat):Int)))],bl [(1,⟨0,Rm x.create_,0,false⟩)],3⟩:St)) (fun k4=>(k2 - k4)) (fun k4=>(k4<=k2)) 0 (cO (.cons rfl rfl (.cons rfl rfl (.cons rfl rfl .nil))) (.cons rfl rfl rfl .nil)) (Nat.zero_le _) ?_
  rintro k4 hinv
  have hle_k4:=hinv
  refine cL (fun hlt56=>?_) (fun hge56=>?_)
  ·refine IdxG.of (by assumption) (IdxG.of (by omega) ?_)
   refine ArgG.mk (Ph (x.create_.keys_[k2]) (hx.create_.keys_.2 _ (Ze _)) (x.create_.keys_[k4]) (hx.create_.keys_.2 _ (Ze _))) rfl ?_
   rintro _ ⟨b3,rfl⟩
   refine ⟨by kernel_rfl,cB (fun hc69=>?_) (fun hc69=>?_)⟩
   ·exact rV Tryz.results85 rfl ⟨_,rfl,fun h=>absurd h.symm Bool.false_ne_true⟩
   refine ⟨by omega,⟨(k4+1),by omega,(cO (.cons rfl rfl (.cons rfl rfl (.cons rfl rfl .nil))) (.cons rfl rfl rfl .nil)),?_⟩⟩
   omega
  refine ⟨by omega,⟨(k2+1),by omega,(cO (.cons rfl rfl (.cons rfl rfl .nil)) (.cons rfl rfl rfl .nil)),?_⟩⟩
  omega
 refine LpG.on (fun k6:Nat=>(⟨fL [(5,.ptr 1 0 0),(12,.v (.int .i64 ((k6:Nat):Int)))],bl [(1,⟨0,Rm x.create_,0,false⟩)],3⟩:St)) (fun k6=>(x.create_.foreign_.length - k6)) (fun k6=>(k6<=x.create_.foreign_.length)) 0 (cO (.cons rfl rfl (.cons rfl rfl .nil)) (.cons rfl rfl rfl .nil)) (Nat.zero_le _) ?_
 rintro k6 hinv
 have hgr_k6:x.create_.foreign_.length<=140737488355328:=hx.create_.foreign_.1
 have hle_k6:=hinv
 refine LenG.of (cL (fun hlt74=>?_) (fun hge74=>?_))
 ·refine IdxG.of (by assumption) (ArgG.mk (Ay (x.create_.foreign_[k6].columns_) (hx.create_.foreign_.2 _ (Ze _)).columns_) rfl ?_)
  rintro _ ⟨b4,rfl,hb4⟩
  refine cB (fun hc83=>?_) (fun hc83=>?_)
  ·exact rV Tryz.results85 rfl ⟨_,rfl,fun h=>absurd h.symm Bool.false_ne_true⟩
  refine ⟨by omega,⟨(k6+1),by omega,(cO (.cons rfl rfl (.cons rfl rfl .nil)) (.cons rfl rfl rfl .nil)),?_⟩⟩
  omega
 exact rV Tryz.results85 rfl ⟨_,rfl,fun _=>⟨hk0.2 (by simpa using hc22),hdn⟩⟩
structure SmTab (t:GTab):Prop where
 cols:t.columns_.length<=20
 keys:t.keys_.length<=10
 fors:t.foreign_.length<=10
 chks:t.checks_.length<=10
 key:∀ k∈t.keys_,k.length<=20
 fcol:∀ f∈t.foreign_,f.columns_.length<=20
theorem Y3:co Tryz.prog 43=true:=by kernel_rfl
theorem d8:el Tryz.prog 47=some (some 8):=by kernel_rfl
theorem Ur (x:GEx) (hx:FitEx x) (d:Int) (hd:0<=d/\d<=1000) (ih:∀ r∈x.args_,∀ d:Int,(0<=d/\d<=1000)->PRet Tryz.prog 82 [.agg (rwA r),.v (.int .i64 d)] (fun r=>∃ b:Bool,r=.v (.bool b))):PRet Tryz.prog 82 [.agg (exA x),.v (.int .i64 d)] (fun r=>∃ b:Bool,r=.v (.bool b)):=by
 have hf1:x.table_.size<=140737488351232:=hx.table_
 have hf2:x.name_.size<=140737488351232:=hx.name_
 have hf3:x.value_.text_.size<=140737488351232:=hx.value_.text_
 refine PRet.of_vc ao [40] [] Tryz.func82 rfl Tryz.ntmps82 rfl (by kernel_rfl) (cE (fun hq8=>?_) (fun hq8=>?_))
 ·refine cT (cT ?_)
  exact rV Tryz.results82 rfl ⟨_,rfl⟩
 refine LenG.of (cD (fun hq14=>?_) (fun hq14=>?_))
 ·exact cT (rV Tryz.results82 rfl ⟨_,rfl⟩)
 refine ⟨by omega,⟨by omega,?_⟩⟩
 refine cB (fun hc28=>?_) (fun hc28=>?_)
 ·exact rV Tryz.results82 rfl ⟨_,rfl⟩
 refine LpG.on (fun k0:Nat=>(⟨fL [(1,.v (.int .i64 d)),(2,.ptr 0 0 0),(5,.v (.int .i64 ((k0:Nat):Int)))],bl [(0,⟨0,exA x,0,false⟩)],1⟩:St)) (fun k0=>(x.args_.length - k0)) (fun k0=>(k0<=x.args_.length)) 0 (cO (.cons rfl rfl (.cons rfl rfl (.cons rfl rfl .nil))) (.cons rfl rfl rfl .nil)) (Nat.zero_le _) ?_
 rintro k0 hinv
 have hgr_k0:x.args_.length<=140737488355328:=hx.args_.1
 have hle_k0:=hinv
 refine LenG.of (cL (fun hlt33=>?_) (fun hge33=>?_))
 ·refine IdxG.of (by assumption) (OpG.lk (aq d8 rfl (cj (hx.args_.2 _ (Ze _)))) ?_)
  refine ⟨by omega,ArgG.mk (ih (x.args_[k0]) (Ze _) ((d - 1)) (by omega)) (show ay [.agg (rwA x.args_[k0]),.v (.int .i64 (d - 1))]=true by simp [ay,AV.pureB,cm (hx.args_.2 _ (Ze _))]) ?_⟩
  rintro _ ⟨b0,rfl⟩
  refine cB (fun hc44=>?_) (fun hc44=>?_)
  ·exact rV Tryz.results82 rfl ⟨_,rfl⟩
  refine ⟨by omega,⟨(k0+1),by omega,(cO (.cons rfl rfl (.cons rfl rfl (.cons rfl rfl .nil))) (.cons rfl rfl rfl .nil)),?_⟩⟩
  omega
 exact rV Tryz.results82 rfl ⟨_,rfl⟩
theorem Us (r:List AV) (hr:IsEx r) (d:Int) (hd:0<=d/\d<=1000):PRet Tryz.prog 82 [.agg (rwA r),.v (.int .i64 d)] (fun r=>∃ b:Bool,r=.v (.bool b)):=IsEx.ind (M:=fun r=>∀ d:Int,(0<=d/\d<=1000)->PRet Tryz.prog 82 [.agg (rwA r),.v (.int .i64 d)] (fun r=>∃ b:Bool,r=.v (.bool b))) (fun x hx ih d hd=>Ur x hx d hd ih) hr d hd
theorem Pt (l:List GStn) (hl:bw l (fun y=>FitStn y)):PRet Tryz.prog 43 [.tree 22 (l.map Tb)] (fun r=>∃ b:Bool,r=.v (.bool b)/\(b=true->∀ x∈l,x.create_.columns_.length<=20/\x.create_.checks_.length<=10)):=by
 refine PRet.of_vc ao [126] [] Tryz.func43 rfl Tryz.ntmps43 rfl (by kernel_rfl) (LpG.on (fun k0:Nat=>(⟨fL [(0,.tree 22 (l.map Tb)),(3,.v (.int .i64 ((k0:Nat):Int)))],bl [],0⟩:St)) (fun k0=>(l.length - k0)) (fun k0=>(k0<=l.length/\∀ j (hl:j < l.length),j < k0->l[j].create_.columns_.length<=20/\l[j].create_.checks_.length<=10)) 0 (cO (.cons rfl rfl (.cons rfl rfl .nil)) .nil) ⟨Nat.zero_le _,fun j _ h=>absurd h (Nat.not_lt_zero j)⟩ ?_)
 rintro k0 hinv
 have hgr_k0:l.length<=140737488355328:=hl.1
 obtain ⟨hle_k0,hj_k0⟩:=hinv
 refine LenG.of (cL (fun hlt12=>?_) (fun hge12=>?_))
 ·refine IdxG.of (by assumption) (IdxG.of (by assumption) ?_)
  refine cD (fun hq27=>?_) (fun hq27=>?_)
  ·refine cT (cT ?_)
   refine cT (cT ?_)
   exact rV Tryz.results43 rfl bF
  refine LenG.of (cD (fun hq33=>?_) (fun hq33=>?_))
  ·refine cT (cT ?_)
   exact cT (rV Tryz.results43 rfl bF)
  refine cF (cF ?_)
  refine LenG.of (cD (fun hq50=>?_) (fun hq50=>?_))
  ·exact rV Tryz.results43 rfl bF
  refine LpG.on (fun k2:Nat=>(⟨fL [(0,.tree 22 (l.map Tb)),(3,.v (.int .i64 ((k0:Nat):Int))),(4,.ptr 0 0 0),(5,.v (.int .i64 ((k2:Nat):Int)))],bl [(0,⟨0,dfnA l[k0].create_,0,false⟩)],1⟩:St)) (fun k2=>(l[k0].create_.columns_.length - k2)) (fun k2=>(k2<=l[k0].create_.columns_.length)) 0 (cO (.cons rfl rfl (.cons rfl rfl (.cons rfl rfl (.cons rfl rfl .nil)))) (.cons rfl rfl rfl .nil)) (Nat.zero_le _) ?_
  rintro k2 hinv
  have hgr_k2:l[k0].create_.columns_.length<=140737488355328:=(hl.2 _ (Ze _)).create_.columns_.1
  have hle_k2:=hinv
  refine LenG.of (cL (fun hlt55=>?_) (fun hge55=>?_))
  ·refine IdxG.of (by assumption) (cD (fun hq65=>?_) (fun hq65=>?_))
   ·exact rV Tryz.results43 rfl bF
   refine ⟨by omega,⟨(k2+1),by omega,(cO (.cons rfl rfl (.cons rfl rfl (.cons rfl rfl (.cons rfl rfl .nil)))) (.cons rfl rfl rfl .nil)),?_⟩⟩
   omega
  refine LpG.exit (cF ?_)
  refine LpG.exit (cF ?_)
  refine LpG.on (fun k8:Nat=>(⟨fL [(0,.tree 22 (l.map Tb)),(3,.v (.int .i64 ((k0:Nat):Int))),(4,.ptr 0 0 0),(8,.v (.int .i64 ((k8:Nat):Int)))],bl [(0,⟨0,dfnA l[k0].create_,0,false⟩)],1⟩:St)) (fun k8=>(l[k0].create_.checks_.length - k8)) (fun k8=>(k8<=l[k0].create_.checks_.length)) 0 (cO (.cons rfl rfl (.cons rfl rfl (.cons rfl rfl (.cons rfl rfl .nil)))) (.cons rfl rfl rfl .nil)) (Nat.zero_le _) ?_
  rintro k8 hinv
  have hgr_k8:l[k0].create_.checks_.length<=140737488355328:=(hl.2 _ (Ze _)).create_.checks_.1
  have hle_k8:=hinv
  refine LenG.of (cL (fun hlt119=>?_) (fun hge119=>?_))
  ·refine IdxG.of (by assumption) (OpG.lk (aq d8 rfl (cj ((hl.2 _ (Ze _)).create_.checks_.2 _ (Ze _)))) ?_)
   refine ArgG.mk (Us (l[k0].create_.checks_[k8]) ((hl.2 _ (Ze _)).create_.checks_.2 _ (Ze _)) 4 (by omega)) (show ay [.agg (rwA l[k0].create_.checks_[k8]),.v (.int .i64 4)]=true by simp [ay,AV.pureB,cm ((hl.2 _ (Ze _)).create_.checks_.2 _ (Ze _))]) ?_
   rintro _ ⟨b0,rfl⟩
   refine cB (fun hc128=>?_) (fun hc128=>?_)
   ·exact rV Tryz.results43 rfl bF
   refine ⟨by omega,⟨(k8+1),by omega,(cO (.cons rfl rfl (.cons rfl rfl (.cons rfl rfl (.cons rfl rfl .nil)))) (.cons rfl rfl rfl .nil)),?_⟩⟩
   omega
  refine ⟨by omega,⟨(k0+1),by omega,(cO (.cons rfl rfl (.cons rfl rfl .nil)) .nil),?_⟩⟩
  refine ⟨by omega,fun j hl h=>?_⟩
  rcases Nat.lt_succ_iff_lt_or_eq.1 h with h | rfl
  ·exact hj_k0 j hl h
  exact ⟨by omega,by omega⟩
 exact LenG.of (rV Tryz.results43 rfl ⟨_,rfl,fun _ x hx=>by obtain ⟨j,hj,rfl⟩:=List.getElem_of_mem hx; exact hj_k0 j hj (by omega)⟩)
theorem w9 (s:List GTab) (hs:bw s (fun y=>FitTab y)):PRet Tryz.prog 20 [.tree 5 (s.map ef)] (fun r=>∃ b:Bool,r=.v (.bool b)/\(b=true->s.length<=12/\∀ t∈s,SmTab t)):=by
 refine PRet.of_vc ao [37] [] Tryz.func20 rfl Tryz.ntmps20 rfl (by kernel_rfl) (LpG.on (fun k0:Nat=>(⟨fL [(0,.tree 5 (s.map ef)),(3,.v (.int .i64 ((k0:Nat):Int)))],bl [],0⟩:St)) (fun k0=>(s.length - k0)) (fun k0=>(k0<=s.length/\∀ j (hl:j < s.length),j < k0->SmTab s[j])) 0 (cO (.cons rfl rfl (.cons rfl rfl .nil)) .nil) ⟨Nat.zero_le _,fun j _ h=>absurd h (Nat.not_lt_zero j)⟩ ?_)
 rintro k0 hinv
 have hgr_k0:s.length<=140737488355328:=hs.1
 obtain ⟨hle_k0,hj_k0⟩:=hinv
 refine LenG.of (cL (fun hlt10=>?_) (fun hge10=>?_))
 ·refine IdxG.of (by assumption) (LenG.of ?_)
  refine cD (fun hq21=>?_) (fun hq21=>?_)
  ·refine cT (cT ?_)
   exact rV Tryz.results20 rfl bF
  refine LenG.of (cD (fun hq27=>?_) (fun hq27=>?_))
  ·exact cT (rV Tryz.results20 rfl bF)
  obtain ⟨_,⟨b0,rfl,hb0⟩,hcl0⟩:=Pt [⟨s[k0].name_,⟨s[k0].columns_,s[k0].checks_⟩⟩] ⟨by simp,fun y hy=>by rw [Zj.1 hy]; exact ⟨(hs.2 _ (Ze _)).name_,⟨(hs.2 _ (Ze _)).columns_,(hs.2 _ (Ze _)).checks_⟩⟩⟩
  refine OpG.lk (my [1] Y3 rfl (fun i h h'=>match i,h with | 0,_=>jq (f:=Tb) (Zj.2 rfl) rfl rfl rfl rfl rfl rfl (fun a _=>⟨rfl,rfl⟩)) hcl0) (cB (fun hc39=>?_) (fun hc39=>?_))
  ·exact rV Tryz.results20 rfl bF
  refine LpG.on (fun k2:Nat=>(⟨fL [(0,.tree 5 (s.map ef)),(3,.v (.int .i64 ((k0:Nat):Int))),(4,.ptr 0 0 0),(5,.v (.int .i64 ((k2:Nat):Int)))],bl [(0,⟨0,ef s[k0],0,false⟩)],2⟩:St)) (fun k2=>(s[k0].keys_.length - k2)) (fun k2=>(k2<=s[k0].keys_.length/\∀ j (hl:j < s[k0].keys_.length),j < k2->(s[k0].keys_[j].length:Int)<=20)) 0 (cO (.cons rfl rfl (.cons rfl rfl (.cons rfl rfl (.cons rfl rfl .nil)))) (.cons rfl rfl rfl .nil)) ⟨Nat.zero_le _,fun j _ h=>absurd h (Nat.not_lt_zero j)⟩ ?_
  rintro k2 hinv
  have hgr_k2:s[k0].keys_.length<=140737488355328:=(hs.2 _ (Ze _)).keys_.1
  obtain ⟨hle_k2,hj_k2⟩:=hinv
  refine LenG.of (cL (fun hlt44=>?_) (fun hge44=>?_))
  ·refine IdxG.of (by assumption) (LenG.of ?_)
   refine ArgG.mk (Ut ((s[k0].keys_[k2].length:Nat):Int)) rfl ?_
   rintro _ ⟨b1,rfl,hb1⟩
   refine cB (fun hc54=>?_) (fun hc54=>?_)
   ·exact rV Tryz.results20 rfl bF
   refine ⟨by omega,⟨(k2+1),by omega,(cO (.cons rfl rfl (.cons rfl rfl (.cons rfl rfl (.cons rfl rfl .nil)))) (.cons rfl rfl rfl .nil)),?_⟩⟩
   refine ⟨by omega,fun j hl h=>?_⟩
   rcases Nat.lt_succ_iff_lt_or_eq.1 h with h | rfl
   ·exact hj_k2 j hl h
   simp_all
  refine LpG.on (fun k4:Nat=>(⟨fL [(0,.tree 5 (s.map ef)),(3,.v (.int .i64 ((k0:Nat):Int))),(4,.ptr 0 0 0),(6,.v (.int .i64 ((k4:Nat):Int)))],bl [(0,⟨0,ef s[k0],0,false⟩)],2⟩:St)) (fun k4=>(s[k0].foreign_.length - k4)) (fun k4=>(k4<=s[k0].foreign_.length/\∀ j (hl:j < s[k0].foreign_.length),j < k4->(s[k0].foreign_[j].columns_.length:Int)<=20)) 0 (cO (.cons rfl rfl (.cons rfl rfl (.cons rfl rfl (.cons rfl rfl .nil)))) (.cons rfl rfl rfl .nil)) ⟨Nat.zero_le _,fun j _ h=>absurd h (Nat.not_lt_zero j)⟩ ?_
  rintro k4 hinv
  have hgr_k4:s[k0].foreign_.length<=140737488355328:=(hs.2 _ (Ze _)).foreign_.1
  obtain ⟨hle_k4,hj_k4⟩:=hinv
  refine LenG.of (cL (fun hlt59=>?_) (fun hge59=>?_))
  ·refine IdxG.of (by assumption) (LenG.of ?_)
   refine ArgG.mk (Ut ((s[k0].foreign_[k4].columns_.length:Nat):Int)) rfl ?_
   rintro _ ⟨b2,rfl,hb2⟩
   refine cB (fun hc70=>?_) (fun hc70=>?_)
   ·exact rV Tryz.results20 rfl bF
   refine ⟨by omega,⟨(k4+1),by omega,(cO (.cons rfl rfl (.cons rfl rfl (.cons rfl rfl (.cons rfl rfl .nil)))) (.cons rfl rfl rfl .nil)),?_⟩⟩
   refine ⟨by omega,fun j hl h=>?_⟩
   rcases Nat.lt_succ_iff_lt_or_eq.1 h with h | rfl
   ·exact hj_k4 j hl h
   simp_all
  refine ⟨by omega,⟨(k0+1),by omega,(cO (.cons rfl rfl (.cons rfl rfl .nil)) .nil),?_⟩⟩
  refine ⟨by omega,fun j hl h=>?_⟩
  rcases Nat.lt_succ_iff_lt_or_eq.1 h with h | rfl
  ·exact hj_k0 j hl h
  have hsm:=hb0 (by simp_all) _ (Zj.2 rfl)
  exact ⟨hsm.1,by omega,by omega,hsm.2,fun k hk=>by obtain ⟨j,hj,rfl⟩:=List.getElem_of_mem hk; have:=hj_k2 j hj (by omega); omega,fun k hk=>by obtain ⟨j,hj,rfl⟩:=List.getElem_of_mem hk; have:=hj_k4 j hj (by omega); omega⟩
 exact LenG.of (rV Tryz.results20 rfl ⟨_,rfl,fun hr=>⟨by have:=of_decide_eq_true hr; omega,fun x hx=>by obtain ⟨j,hj,rfl⟩:=List.getElem_of_mem hx; exact hj_k0 j hj (by omega)⟩⟩)
def Kf (s:ByteArray):Bool:=rq s.size (zg s)
def ey (s:ByteArray):Bool:=s.toList==(⟨#[]⟩:ByteArray).toList
/-- Is it a value? -/
def vo (v:GVal):Bool:=if v.kind_=0 then (v.int_==0&&ey v.text_) else if v.kind_=1 then ey v.text_ else if v.kind_=2 then (v.int_==0&&Kf v.text_&&decide ((v.text_.size:Int)<=16)) else false
theorem Gf {v:GVal} (h:vo v=true):(v.kind_=0/\v.int_=0)\/v.kind_=1\/(v.kind_=2/\v.int_=0/\v.text_.size<=16):=by
 unfold vo at h
 split at h
 ·simp at h; exact .inl ⟨by assumption,h.1⟩
 split at h
 ·exact .inr (.inl (by assumption))
 split at h
 ·simp at h; exact .inr (.inr ⟨by assumption,h.1.1,by omega⟩)
 cases h
/-- What does not matter of a value is nothing. -/
def V7 (v:GVal):Prop:=(v.kind_=0->v.int_=0/\v.text_.toList=[])/\(v.kind_=1->v.text_.toList=[])/\(v.kind_=2->v.int_=0)
theorem uq {s:ByteArray} (h:ey s=true):s.toList=[]:=by
 unfold ey at h
 have e:(⟨#[]⟩:ByteArray).toList=[]:=by rw [ByteArray.toList,ByteArray.toList.loop]; rfl
 rw [e,beq_iff_eq] at h; exact h
theorem Ko {v:GVal} (h:vo v=true):V7 v:=by
 unfold vo at h
 refine ⟨fun h0=>?_,fun h1=>?_,fun h2=>?_⟩
 ·rw [if_pos h0] at h; simp at h; exact ⟨h.1,uq h.2⟩
 ·rw [if_neg (by omega),if_pos h1] at h; exact uq h
 rw [if_neg (by omega),if_neg (by omega),if_pos h2] at h; simp at h; exact h.1.1
/-- An expression that is nested less than d deep, with at most two operands each. -/
inductive IsSh:Nat->List AV->Prop
 | mk {d:Nat} (x:GEx) (h:x.args_.length<=2) (ha:∀ r∈x.args_,IsSh d r):IsSh (d+1) (exA x)
/-- It holds the literal NULL. -/
inductive HasN:List AV->Prop
 | here (x:GEx) (h:x.op_=1) (hk:x.value_.kind_=0):HasN (exA x)
 | sub (x:GEx) (r:List AV) (hr:r∈x.args_) (h:HasN r):HasN (exA x)
theorem bj {x y:GEx} (h:exA x=exA y):x=y:=by
 obtain ⟨a,b,c,d,⟨e,f,g⟩,l⟩:=x
 obtain ⟨a',b',c',d',⟨e',f',g'⟩,l'⟩:=y
 simp only [exA,List.cons.injEq,AV.v.injEq,Value.int.injEq,Value.string.injEq,AV.tree.injEq,true_and,and_true] at h
 obtain ⟨rfl,rfl,rfl,rfl,rfl,rfl,rfl,h⟩:=h
 have e:∀ z:List (List AV),z.map rwA=z:=fun z=>List.map_id z
 rw [e,e] at h
 subst h; rfl
theorem Ih {x:GEx}:HasN (exA x)↔(x.op_=1/\x.value_.kind_=0)\/∃ r∈x.args_,HasN r:=by
 constructor
 ·intro h
  generalize e:exA x=r at h
  cases h with
  | here y h hk=>rw [bj e]; exact .inl ⟨h,hk⟩
  | sub y r hr h=>rw [bj e]; exact .inr ⟨r,hr,h⟩
 rintro (⟨h,hk⟩ | ⟨r,hr,h⟩)
 ·exact .here x h hk
 exact .sub x r hr h
section
variable {l:List (List AV)} {A:Prop} {H:List AV->Prop} {b b2:Bool} {k:Nat}
theorem T4 (hi:b=true↔A\/∃ j,∃ hl:j < l.length,j < k/\H l[j]) (hb:b=true):true=true↔A\/∃ j,∃ hl:j < l.length,j < k+1/\H l[j]:=by
 refine ⟨fun _=>?_,fun _=>rfl⟩
 rcases hi.1 hb with h | ⟨j,hl,h1,h2⟩
 ·exact .inl h
 exact .inr ⟨j,hl,by omega,h2⟩
theorem T5 (hi:b=true↔A\/∃ j,∃ hl:j < l.length,j < k/\H l[j]) (hb:b=false) (hk:k < l.length) (h2:b2=true↔H l[k]):b2=true↔A\/∃ j,∃ hl:j < l.length,j < k+1/\H l[j]:=by
 rw [h2]
 constructor
 ·intro h; exact .inr ⟨k,hk,by omega,h⟩
 rintro (h | ⟨j,hl,h1,h3⟩)
 ·have:=hi.2 (.inl h); rw [hb] at this; cases this
 by_cases e:j=k
 ·subst e; exact h3
 have:=hi.2 (.inr ⟨j,hl,by omega,h3⟩); rw [hb] at this; cases this
end
theorem Do {x:GEx} {b:Bool} {k:Nat} (h1:k<=x.args_.length) (h2:x.args_.length<=k) (hi:b=true↔(x.op_=1/\x.value_.kind_=0)\/∃ j,∃ hl:j < x.args_.length,j < k/\HasN x.args_[j]):b=true↔HasN (exA x):=by
 rw [hi,Ih]
 constructor
 ·rintro (h | ⟨j,hl,_,h⟩)
  ·exact .inl h
  exact .inr ⟨_,Ze hl,h⟩
 rintro (h | ⟨r,hr,h⟩)
 ·exact .inl h
 obtain ⟨j,hj,rfl⟩:=List.getElem_of_mem hr
 exact .inr ⟨j,hj,by omega,h⟩
theorem xh (s:ByteArray) (hs:lw s):PRet Tryz.prog 50 [.v (.string s)] (fun r=>r=.v (.bool (Kf s))):=by
 refine PRet.of_vc ao [] [] Tryz.func50 rfl Tryz.ntmps50 rfl (by kernel_rfl) (LpG.on (fun k0:Nat=>(⟨fL [(0,.v (.string s)),(3,.v (.int .i64 ((k0:Nat):Int)))],bl [],0⟩:St)) (fun k0=>(s.size - k0)) (fun k0=>(k0<=s.size/\∀ j (hl:j < s.size),j < k0->zg s j=true)) 0 (cO (.cons rfl rfl (.cons rfl rfl .nil)) .nil) ⟨Nat.zero_le _,fun j _ h=>absurd h (Nat.not_lt_zero j)⟩ ?_)
 rintro k0 hinv
 have hgr_k0:s.size<=140737488355328:=Nat.le_trans hs (by decide)
 obtain ⟨hle_k0,hj_k0⟩:=hinv
 refine cL (fun hlt7=>?_) (fun hge7=>?_)
 ·refine ⟨(by assumption),cB (fun hg14=>?_) (fun hg14=>?_)⟩
  ·refine cT (rV Tryz.results50 rfl ?_)
   (refine ba (Eq.symm (cp hlt7 ?_)); simp only [zg]; simp_all)
  refine ⟨(by assumption),cB (fun hc19=>?_) (fun hc19=>?_)⟩
  ·refine rV Tryz.results50 rfl ?_
   (refine ba (Eq.symm (cp hlt7 ?_)); simp only [zg]; simp_all)
  refine ⟨by omega,⟨(k0+1),by omega,(cO (.cons rfl rfl (.cons rfl rfl .nil)) .nil),?_⟩⟩
  refine ⟨by omega,fun j hl h=>?_⟩
  rcases Nat.lt_succ_iff_lt_or_eq.1 h with h | rfl
  ·exact hj_k0 j hl h
  simp only [zg]; simp_all
 exact rV Tryz.results50 rfl (ba (Eq.symm (ci hle_k0 hge7 (fun j h=>hj_k0 j (by omega) h))))
theorem vm (v:GVal) (hv:FitVal v):PRet Tryz.prog 23 [.agg (gvA v)] (fun r=>r=.v (.bool (vo v))):=by
 refine PRet.of_vc ao [] [] Tryz.func23 rfl Tryz.ntmps23 rfl (by kernel_rfl) ?_
 refine cB (fun hc5=>?_) (fun hc5=>?_)
 ·have hq5:(v.kind_:Int)=(0:Int):=by simpa using hc5
  refine cB (fun hg10=>?_) (fun hg10=>?_)
  ·have hq10:(v.int_:Int)=(0:Int):=by simpa using hg10
   refine rV Tryz.results23 rfl ?_
   refine ba ?_
   unfold vo ey
   simp_all; done
  have hq10:¬ ((v.int_:Int)=(0:Int)):=by simpa using hg10
  refine rV Tryz.results23 rfl ?_
  refine ba ?_
  unfold vo ey
  simp_all; done
 have hq5:¬ ((v.kind_:Int)=(0:Int)):=by simpa using hc5
 refine cB (fun hc15=>?_) (fun hc15=>?_)
 ·have hq15:(v.kind_:Int)=(1:Int):=by simpa using hc15
  refine rV Tryz.results23 rfl ?_
  refine ba ?_
  unfold vo ey
  simp_all; done
 have hq15:¬ ((v.kind_:Int)=(1:Int)):=by simpa using hc15
 refine cB (fun hc20=>?_) (fun hc20=>?_)
 ·have hq20:(v.kind_:Int)=(2:Int):=by simpa using hc20
  refine cB (fun hg25=>?_) (fun hg25=>?_)
  ·have hq25:(v.int_:Int)=(0:Int):=by simpa using hg25
   refine ArgG.mk (xh v.text_ hv.text_) rfl ?_
   rintro _ rfl
   refine cB (fun hg30=>?_) (fun hg30=>?_)
   ·refine rV Tryz.results23 rfl ?_
    refine ba ?_
    unfold vo ey
    simp_all; done
   refine rV Tryz.results23 rfl ?_
   refine ba ?_
   unfold vo ey
   simp_all; done
  have hq25:¬ ((v.int_:Int)=(0:Int)):=by simpa using hg25
  refine cF (rV Tryz.results23 rfl ?_)
  refine ba ?_
  unfold vo ey
  simp_all; done
 have hq20:¬ ((v.kind_:Int)=(2:Int)):=by simpa using hc20
 refine rV Tryz.results23 rfl ?_
 refine ba ?_
 unfold vo ey
 simp_all; done
theorem fb (v:GVal) (hv:FitVal v):PRet Tryz.prog 23 [.agg (gvA v)] (fun r=>∃ b:Bool,r=.v (.bool b)/\(b=true->(v.kind_=0/\v.int_=0)\/v.kind_=1\/(v.kind_=2/\v.int_=0/\v.text_.size<=16))/\(b=true->V7 v)):=(vm v hv).mono fun _ h=>⟨_,h,Gf,Ko⟩
theorem Pu (x:GEx) (hx:FitEx x) (d:Int) (hd:0<=d/\d<=1000) (ih:∀ r∈x.args_,∀ d:Int,(0<=d/\d<=1000)->PRet Tryz.prog 87 [.agg (rwA r),.v (.int .i64 d)] (fun q=>∃ b:Bool,q=.v (.bool b)/\(b=true->IsSh d.toNat r))):PRet Tryz.prog 87 [.agg (exA x),.v (.int .i64 d)] (fun r=>∃ b:Bool,r=.v (.bool b)/\(b=true->IsSh d.toNat (exA x))):=by
 refine PRet.of_vc ao [25] [] Tryz.func87 rfl Tryz.ntmps87 rfl (by kernel_rfl) (cE (fun hq8=>?_) (fun hq8=>?_))
 ·exact cT (rV Tryz.results87 rfl bF)
 refine LenG.of (cD (fun hq13=>?_) (fun hq13=>?_))
 ·exact rV Tryz.results87 rfl bF
 refine LpG.on (fun k0:Nat=>(⟨fL [(1,.v (.int .i64 d)),(2,.ptr 0 0 0),(5,.v (.int .i64 ((k0:Nat):Int)))],bl [(0,⟨0,exA x,0,false⟩)],1⟩:St)) (fun k0=>(x.args_.length - k0)) (fun k0=>(k0<=x.args_.length/\∀ j (hl:j < x.args_.length),j < k0->IsSh (d - 1).toNat x.args_[j])) 0 (cO (.cons rfl rfl (.cons rfl rfl (.cons rfl rfl .nil))) (.cons rfl rfl rfl .nil)) ⟨Nat.zero_le _,fun j _ h=>absurd h (Nat.not_lt_zero j)⟩ ?_
 rintro k0 hinv
 have hgr_k0:x.args_.length<=140737488355328:=hx.args_.1
 obtain ⟨hle_k0,hj_k0⟩:=hinv
 refine LenG.of (cL (fun hlt18=>?_) (fun hge18=>?_))
 ·refine IdxG.of (by assumption) (OpG.lk (aq d8 rfl (cj (hx.args_.2 _ (Ze _)))) ?_)
  refine ⟨by omega,ArgG.mk (ih (x.args_[k0]) (Ze _) ((d - 1)) (by omega)) (show ay [.agg (rwA x.args_[k0]),.v (.int .i64 (d - 1))]=true by simp [ay,AV.pureB,cm (hx.args_.2 _ (Ze _))]) ?_⟩
  rintro _ ⟨b0,rfl,hb0⟩
  refine cB (fun hc29=>?_) (fun hc29=>?_)
  ·exact rV Tryz.results87 rfl bF
  refine ⟨by omega,⟨(k0+1),by omega,(cO (.cons rfl rfl (.cons rfl rfl (.cons rfl rfl .nil))) (.cons rfl rfl rfl .nil)),?_⟩⟩
  refine ⟨by omega,fun j hl h=>?_⟩
  rcases Nat.lt_succ_iff_lt_or_eq.1 h with h | rfl
  ·exact hj_k0 j hl h
  exact hb0 (by simpa using hc29)
 exact rV Tryz.results87 rfl ⟨_,rfl,fun _=>by rw [show d.toNat=(d - 1).toNat+1 by omega]; exact .mk _ (by omega) (fun r hr=>by obtain ⟨j,hj,rfl⟩:=List.getElem_of_mem hr; exact hj_k0 j hj (by omega))⟩
theorem Pv (r:List AV) (hr:IsEx r) (d:Int) (hd:0<=d/\d<=1000):PRet Tryz.prog 87 [.agg (rwA r),.v (.int .i64 d)] (fun q=>∃ b:Bool,q=.v (.bool b)/\(b=true->IsSh d.toNat r)):=IsEx.ind (M:=fun r=>∀ d:Int,(0<=d/\d<=1000)->PRet Tryz.prog 87 [.agg (rwA r),.v (.int .i64 d)] (fun q=>∃ b:Bool,q=.v (.bool b)/\(b=true->IsSh d.toNat r))) (fun x hx ih d hd=>Pu x hx d hd ih) hr d hd
theorem T2 (x:GEx) (hx:FitEx x) (ih:∀ r∈x.args_,PRet Tryz.prog 90 [.agg (rwA r)] (fun q=>∃ b:Bool,q=.v (.bool b)/\(b=true↔HasN r))):PRet Tryz.prog 90 [.agg (exA x)] (fun q=>∃ b:Bool,q=.v (.bool b)/\(b=true↔HasN (exA x))):=by
 refine PRet.of_vc ao [27] [] Tryz.func90 rfl Tryz.ntmps90 rfl (by kernel_rfl) (cE (fun hq8=>?_) (fun hq8=>?_))
 ·refine LpG.on (fun k0:KB=>(⟨fL [(1,.ptr 0 0 0),(3,.v (.bool k0.b)),(4,.v (.int .i64 ((k0.k:Nat):Int)))],bl [(0,⟨0,exA x,0,false⟩)],1⟩:St)) (fun k0=>(x.args_.length - k0.k)) (fun k0=>(k0.k<=x.args_.length/\(k0.b=true↔(x.op_=1/\x.value_.kind_=0)\/∃ j,∃ hl:j < x.args_.length,j < k0.k/\HasN x.args_[j]))) (⟨0,_⟩:KB) (cO (.cons rfl rfl (.cons rfl rfl (.cons rfl rfl .nil))) (.cons rfl rfl rfl .nil)) ⟨Nat.zero_le _,(by simp_all)⟩ ?_
  rintro k0 hinv
  have hgr_k0:x.args_.length<=140737488355328:=hx.args_.1
  obtain ⟨hle_k0,hi_k0⟩:=hinv
  refine LenG.of (cL (fun hlt18=>?_) (fun hge18=>?_))
  ·refine cB (fun hg22=>?_) (fun hg22=>?_)
   ·refine ⟨by omega,⟨(⟨k0.k+1,_⟩:KB),(by show x.args_.length - (k0.k+1) < x.args_.length - k0.k; omega),(cO (.cons rfl rfl (.cons rfl rfl (.cons rfl rfl .nil))) (.cons rfl rfl rfl .nil)),?_⟩⟩
    exact ⟨by show k0.k+1<=_; omega,T4 hi_k0 (by assumption)⟩
   refine IdxG.of (by assumption) (OpG.lk (aq d8 rfl (cj (hx.args_.2 _ (Ze _)))) ?_)
   refine ArgG.mk (ih (x.args_[k0.k]) (Ze _)) (show ay [.agg (rwA x.args_[k0.k])]=true by simp [ay,AV.pureB,cm (hx.args_.2 _ (Ze _))]) ?_
   rintro _ ⟨b0,rfl,hb0⟩
   refine ⟨by omega,⟨(⟨k0.k+1,_⟩:KB),(by show x.args_.length - (k0.k+1) < x.args_.length - k0.k; omega),(cO (.cons rfl rfl (.cons rfl rfl (.cons rfl rfl .nil))) (.cons rfl rfl rfl .nil)),?_⟩⟩
   exact ⟨by show k0.k+1<=_; omega,T5 hi_k0 (by assumption) hlt18 (by assumption)⟩
  exact rV Tryz.results90 rfl ⟨_,rfl,Do hle_k0 (by omega) hi_k0⟩
 refine LpG.on (fun k0:KB=>(⟨fL [(1,.ptr 0 0 0),(3,.v (.bool k0.b)),(4,.v (.int .i64 ((k0.k:Nat):Int)))],bl [(0,⟨0,exA x,0,false⟩)],1⟩:St)) (fun k0=>(x.args_.length - k0.k)) (fun k0=>(k0.k<=x.args_.length/\(k0.b=true↔(x.op_=1/\x.value_.kind_=0)\/∃ j,∃ hl:j < x.args_.length,j < k0.k/\HasN x.args_[j]))) (⟨0,_⟩:KB) (cO (.cons rfl rfl (.cons rfl rfl (.cons rfl rfl .nil))) (.cons rfl rfl rfl .nil)) ⟨Nat.zero_le _,(by simp_all)⟩ ?_
 rintro k0 hinv
 have hgr_k0:x.args_.length<=140737488355328:=hx.args_.1
 obtain ⟨hle_k0,hi_k0⟩:=hinv
 refine LenG.of (cL (fun hlt18=>?_) (fun hge18=>?_))
 ·refine cB (fun hg22=>?_) (fun hg22=>?_)
  ·refine ⟨by omega,⟨(⟨k0.k+1,_⟩:KB),(by show x.args_.length - (k0.k+1) < x.args_.length - k0.k; omega),(cO (.cons rfl rfl (.cons rfl rfl (.cons rfl rfl .nil))) (.cons rfl rfl rfl .nil)),?_⟩⟩
   exact ⟨by show k0.k+1<=_; omega,T4 hi_k0 (by assumption)⟩
  refine IdxG.of (by assumption) (OpG.lk (aq d8 rfl (cj (hx.args_.2 _ (Ze _)))) ?_)
  refine ArgG.mk (ih (x.args_[k0.k]) (Ze _)) (show ay [.agg (rwA x.args_[k0.k])]=true by simp [ay,AV.pureB,cm (hx.args_.2 _ (Ze _))]) ?_
  rintro _ ⟨b1,rfl,hb1⟩
  refine ⟨by omega,⟨(⟨k0.k+1,_⟩:KB),(by show x.args_.length - (k0.k+1) < x.args_.length - k0.k; omega),(cO (.cons rfl rfl (.cons rfl rfl (.cons rfl rfl .nil))) (.cons rfl rfl rfl .nil)),?_⟩⟩
  exact ⟨by show k0.k+1<=_; omega,T5 hi_k0 (by assumption) hlt18 (by assumption)⟩
 exact rV Tryz.results90 rfl ⟨_,rfl,Do hle_k0 (by omega) hi_k0⟩
theorem i6 (r:List AV) (hr:IsEx r):PRet Tryz.prog 90 [.agg (rwA r)] (fun q=>∃ b:Bool,q=.v (.bool b)/\(b=true↔HasN r)):=IsEx.ind (M:=fun r=>PRet Tryz.prog 90 [.agg (rwA r)] (fun q=>∃ b:Bool,q=.v (.bool b)/\(b=true↔HasN r))) (fun x hx ih=>T2 x hx ih) hr
/-- A text operand: a column of texts or a literal. -/
inductive TextE (l:List PVar):List AV->Prop
 | mk (x:GEx) (ha:x.args_=[]) (h:(x.op_=2/\∃ j,∃ h:j < l.length,x.index_=((j:Nat):Int)/\l[j].t=2)\/(x.op_=1/\x.value_.kind_=2)):TextE l (exA x)
theorem gh {l:List PVar} {x:GEx} (h:TextE l (exA x)):x.args_=[]/\((x.op_=2/\∃ j,∃ h:j < l.length,x.index_=((j:Nat):Int)/\l[j].t=2)\/(x.op_=1/\x.value_.kind_=2)):=by
 generalize e:exA x=r at h
 cases h with
 | mk y ha h=>rw [bj e]; exact ⟨ha,h⟩
theorem Pf (v:Int) (kd:Int) (l:List PVar) (hl:bw l (fun y=>True)):PRet Tryz.prog 165 [.v (.int .i64 v),.v (.int .i64 kd),.tree 5 (l.map vA)] (fun r=>∃ b:Bool,r=.v (.bool b)/\(b=true->∃ j,∃ h:j < l.length,v=((j:Nat):Int)/\l[j].t=kd)):=by
 refine PRet.of_vc ao [18] [] Tryz.func165 rfl Tryz.ntmps165 rfl (by kernel_rfl) ?_
 refine cD (fun hq9=>?_) (fun hq9=>?_)
 ·refine LenG.of (cD (fun hq15=>?_) (fun hq15=>?_))
  ·obtain ⟨j1,hje1,hjl1⟩:∃ j:Nat,v=((j:Nat):Int)/\j < l.length:=⟨(v).toNat,by omega,by omega⟩
   refine OpG.lk (ah Tryz.underlying52 Nq rfl rfl hje1 hjl1) ?_
   exact rV Tryz.results165 rfl ⟨_,rfl,fun hr=>⟨j1,hjl1,hje1,by simpa using hr⟩⟩
  exact rV Tryz.results165 rfl bF
 exact cF (rV Tryz.results165 rfl bF)
theorem S6 (x:GEx) (hx:FitEx x) (l:List PVar) (hl:bw l (fun y=>True)):PRet Tryz.prog 89 [.agg (exA x),.tree 5 (l.map vA)] (fun q=>∃ b:Bool,q=.v (.bool b)/\(b=true->TextE l (exA x))/\(b=false->¬ TextE l (exA x))):=by
 refine PRet.of_vc ao [26] [] Tryz.func89 rfl Tryz.ntmps89 rfl (by kernel_rfl) ?_
 refine LenG.of (cB (fun hc8=>?_) (fun hc8=>?_))
 ·have hq8:¬ (((x.args_.length:Nat):Int)=(0:Int)):=by simpa using hc8
  exact rV Tryz.results89 rfl ⟨_,rfl,fun h=>absurd h Bool.false_ne_true,fun _ hh=>by obtain ⟨q0,⟨q1,j,hj,q2,q3⟩ | ⟨q1,q2⟩⟩:=gh hh <;> first | (simp_all; done) | (simp_all; omega)⟩
 have hq8:((x.args_.length:Nat):Int)=(0:Int):=by simpa using hc8
 have harg:x.args_=[]:=by simpa using hc8
 refine cB (fun hc11=>?_) (fun hc11=>?_)
 ·have hq11:(x.op_:Int)=(2:Int):=by simpa using hc11
  refine cB (fun hg15=>?_) (fun hg15=>?_)
  ·have hq15:(x.index_:Int)≥(0:Int):=of_decide_eq_true hg15
   refine LenG.of (cB (fun hg22=>?_) (fun hg22=>?_))
   ·have hq22:(x.index_:Int) < ((l.length:Nat):Int):=of_decide_eq_true hg22
    obtain ⟨j1,hje1,hjl1⟩:∃ j:Nat,x.index_=((j:Nat):Int)/\j < l.length:=⟨(x.index_).toNat,by omega,by omega⟩
    refine OpG.lk (ah Tryz.underlying52 Nq rfl rfl hje1 hjl1) ?_
    exact rV Tryz.results89 rfl ⟨_,rfl,fun hr=>.mk x harg (.inl ⟨by assumption,j1,hjl1,hje1,by simpa using hr⟩),fun hr hh=>by obtain ⟨q0,⟨q1,j,hj,q2,q3⟩ | ⟨q1,q2⟩⟩:=gh hh <;> first | omega | ((obtain rfl:j=j1:=by omega); simp_all; done)⟩
   have hq22:¬ ((x.index_:Int) < ((l.length:Nat):Int)):=of_decide_eq_false hg22
   exact rV Tryz.results89 rfl ⟨_,rfl,fun h=>absurd h Bool.false_ne_true,fun _ hh=>by obtain ⟨q0,⟨q1,j,hj,q2,q3⟩ | ⟨q1,q2⟩⟩:=gh hh <;> first | (simp_all; done) | (simp_all; omega)⟩
  have hq15:¬ ((x.index_:Int)≥(0:Int)):=of_decide_eq_false hg15
  exact cF (rV Tryz.results89 rfl ⟨_,rfl,fun h=>absurd h Bool.false_ne_true,fun _ hh=>by obtain ⟨q0,⟨q1,j,hj,q2,q3⟩ | ⟨q1,q2⟩⟩:=gh hh <;> first | (simp_all; done) | (simp_all; omega)⟩)
 have hq11:¬ ((x.op_:Int)=(2:Int)):=by simpa using hc11
 refine cB (fun hg34=>?_) (fun hg34=>?_)
 ·have hq34:(x.op_:Int)=(1:Int):=by simpa using hg34
  exact rV Tryz.results89 rfl ⟨_,rfl,fun hr=>.mk x harg (.inr ⟨by assumption,by simpa using hr⟩),fun hr hh=>by obtain ⟨q0,⟨q1,j,hj,q2,q3⟩ | ⟨q1,q2⟩⟩:=gh hh <;> first | omega | (simp_all; done)⟩
 have hq34:¬ ((x.op_:Int)=(1:Int)):=by simpa using hg34
 exact rV Tryz.results89 rfl ⟨_,rfl,fun h=>absurd h Bool.false_ne_true,fun _ hh=>by obtain ⟨q0,⟨q1,j,hj,q2,q3⟩ | ⟨q1,q2⟩⟩:=gh hh <;> first | (simp_all; done) | (simp_all; omega)⟩
theorem fh (r:List AV) (hr:IsEx r) (l:List PVar) (hl:bw l (fun y=>True)):PRet Tryz.prog 89 [.agg (rwA r),.tree 5 (l.map vA)] (fun q=>∃ b:Bool,q=.v (.bool b)/\(b=true->TextE l r)/\(b=false->¬ TextE l r)):=by
 obtain ⟨x,rfl,hx⟩:=hr.open_
 exact S6 x hx l hl
theorem He (op:Int):PRet Tryz.prog 91 [.v (.int .i64 op)] (fun r=>∃ p:Int,r=.v (.int .i64 p)/\(0<=p->10<=op/\op<=15)):=by
 refine PRet.of_vc ao [] [] Tryz.func91 rfl Tryz.ntmps91 rfl (by kernel_rfl) (lf (ULp.step ?_))
 refine cT ⟨(by first | assumption | omega | decide),cB (fun hc13=>?_) (fun hc13=>?_)⟩
 ·have hq13:(10:Int)=(op:Int):=by simpa using hc13
  exact rV Tryz.results91 rfl ⟨_,rfl,fun _=>by omega⟩
 have hq13:¬ ((10:Int)=(op:Int)):=by simpa using hc13
 refine ⟨by omega,ULp.step ?_⟩
 refine cT ⟨(by first | assumption | omega | decide),cB (fun hc13=>?_) (fun hc13=>?_)⟩
 ·have hq13:(11:Int)=(op:Int):=by simpa using hc13
  exact rV Tryz.results91 rfl ⟨_,rfl,fun _=>by omega⟩
 have hq13:¬ ((11:Int)=(op:Int)):=by simpa using hc13
 refine ⟨by omega,ULp.step ?_⟩
 refine cT ⟨(by first | assumption | omega | decide),cB (fun hc13=>?_) (fun hc13=>?_)⟩
 ·have hq13:(12:Int)=(op:Int):=by simpa using hc13
  exact rV Tryz.results91 rfl ⟨_,rfl,fun _=>by omega⟩
 have hq13:¬ ((12:Int)=(op:Int)):=by simpa using hc13
 refine ⟨by omega,ULp.step ?_⟩
 refine cT ⟨(by first | assumption | omega | decide),cB (fun hc13=>?_) (fun hc13=>?_)⟩
 ·have hq13:(13:Int)=(op:Int):=by simpa using hc13
  exact rV Tryz.results91 rfl ⟨_,rfl,fun _=>by omega⟩
 have hq13:¬ ((13:Int)=(op:Int)):=by simpa using hc13
 refine ⟨by omega,ULp.step ?_⟩
 refine cT ⟨(by first | assumption | omega | decide),cB (fun hc13=>?_) (fun hc13=>?_)⟩
 ·have hq13:(14:Int)=(op:Int):=by simpa using hc13
  exact rV Tryz.results91 rfl ⟨_,rfl,fun _=>by omega⟩
 have hq13:¬ ((14:Int)=(op:Int)):=by simpa using hc13
 refine ⟨by omega,ULp.step ?_⟩
 refine cT ⟨(by first | assumption | omega | decide),cE (fun hq13=>?_) (fun hq13=>?_)⟩
 ·exact rV Tryz.results91 rfl ⟨_,rfl,fun _=>by omega⟩
 refine ⟨by omega,ULp.step ?_⟩
 exact cF (rV Tryz.results91 rfl ⟨_,rfl,fun _=>by omega⟩)
theorem Qz {a b:Bool} {w:World}:(if a=false then Result.ok false w else Result.ok b w)=Result.ok (a&&b) w:=by cases a <;> rfl
theorem I5 (k1 i1 k2 i2:Int) (t1 t2:ByteArray) (w:World):(Op.equalIn 10000 45 (.agg #[.int .i64 k1,.int .i64 i1,.string t1]) (.agg #[.int .i64 k2,.int .i64 i2,.string t2])).run Tryz.prog w=.ok (k1==k2&&(i1==i2&&t1.toList==t2.toList)) w:=by
 rw [run_equalIn_agg w 9999 45 _ _ (show Tryz.prog.underlying 45=some (.struct (Tryz.prog.fieldsOf 45)) by kernel_rfl) (by kernel_rfl)]
 simp only [Program.fieldsOf,Tryz.underlying45]
 simp [Op.eqFields,part,run_equalIn_int _ 9998 3 _ _ _ _ Tryz.underlying3,run_equalIn_int _ 9998 2 _ _ _ _ Tryz.underlying2,run_equalIn_string _ 9998 9 _ _ Tryz.underlying9,Qz]
theorem egV:Tryz.prog.eqGuardType Tryz.prog.depth 45=false:=by kernel_rfl
section
variable {τ:Nat->AV} {η:au} {d:Option Tmp} {ty:TypeId} {pos:String} {af:Array Edge} {g:Option (Nat×Bool)}
theorem jp {t':Nat} {x y:Operand} {k1 i1 k2 i2:Int} {t1 t2:ByteArray} (hx:aev τ x=.agg [.v (.int .i64 k1),.v (.int .i64 i1),.v (.string t1)]) (hy:aev τ y=.agg [.v (.int .i64 k2),.v (.int .i64 i2),.v (.string t2)]) :
  LOp Tryz.prog ⟨d,.binOp .eql 45 x y t',ty,pos,af,g⟩ τ η [] [] (.v (.bool (k1==k2&&(i1==i2&&t1.toList==t2.toList)))) :=
 .look [] fun C a _ hq _=>by
  have e1:=hq x (by simp [Op.operands])
  have e2:=hq y (by simp [Op.operands])
  rw [hx] at e1
  rw [hy] at e2
  have f1:=qh (y:=.agg #[.int .i64 k1,.int .i64 i1,.string t1]) e1 rfl
  have f2:=qh (y:=.agg #[.int .i64 k2,.int .i64 i2,.string t2]) e2 rfl
  refine ⟨_,?_,VR.v C _⟩
  simp only [execOp,f1,f2,Sem.run_bind,run_eqGuard_agg C.w .eql 45 x y _ _ egV,Result.andThen_ok,run_eql_struct,I5,Sem.run_pure]
theorem qa {t':Nat} {x y:Operand} {k1 i1 k2 i2:Int} {t1 t2:ByteArray} (hx:aev τ x=.agg [.v (.int .i64 k1),.v (.int .i64 i1),.v (.string t1)]) (hy:aev τ y=.agg [.v (.int .i64 k2),.v (.int .i64 i2),.v (.string t2)]) :
  LOp Tryz.prog ⟨d,.binOp .neq 45 x y t',ty,pos,af,g⟩ τ η [] [] (.v (.bool (!(k1==k2&&(i1==i2&&t1.toList==t2.toList))))) :=
 .look [] fun C a _ hq _=>by
  have e1:=hq x (by simp [Op.operands])
  have e2:=hq y (by simp [Op.operands])
  rw [hx] at e1
  rw [hy] at e2
  have f1:=qh (y:=.agg #[.int .i64 k1,.int .i64 i1,.string t1]) e1 rfl
  have f2:=qh (y:=.agg #[.int .i64 k2,.int .i64 i2,.string t2]) e2 rfl
  refine ⟨_,?_,VR.v C _⟩
  simp only [execOp,f1,f2,Sem.run_bind,run_eqGuard_agg C.w .neq 45 x y _ _ egV,Result.andThen_ok,run_neq_struct,I5,Sem.run_pure]
end
/-- A valid integer expression, in which NULL may stand. -/
inductive IntE (l:List PVar):List AV->Prop
 | lit (x:GEx) (h:x.op_=1) (ha:x.args_=[]) (hk:x.value_.kind_=1\/x.value_.kind_=0) (hc:V7 x.value_):IntE l (exA x)
 | col (x:GEx) (h:x.op_=2) (ha:x.args_=[]) (hj:∃ j,∃ h:j < l.length,x.index_=((j:Nat):Int)/\l[j].t=1):IntE l (exA x)
 | len (x a:GEx) (h:x.op_=9) (ha:x.args_=[exA a]) (haa:a.args_=[]) (ht:TextE l (exA a)\/(a.op_=1/\a.value_.kind_=0)):IntE l (exA x)
 | neg (x:GEx) (h:x.op_=3) (ha:x.args_.length=1) (hs:∀ r∈x.args_,IntE l r):IntE l (exA x)
 | bin (x:GEx) (h:4<=x.op_/\x.op_<=8) (ha:x.args_.length=2) (hs:∀ r∈x.args_,IntE l r):IntE l (exA x)
theorem di {α:Type} {l:List α} {a:α} (h:(l.length:Int)=1) (h0:l[0]'(by omega)=a):l=[a]:=by
 match l,h,h0 with
 | [b],_,h0=>simp at h0; rw [h0]
theorem Rk (x:GEx) (hx:FitEx x):PRet Tryz.prog 48 [.agg (exA x),.agg [.v (.int .i64 0),.v (.string ⟨#[]⟩),.v (.string ⟨#[]⟩),.v (.int .i64 0),.v (.int .i64 0),.v (.int .i64 0),.v (.string ⟨#[]⟩),.v (.slice none 0 0)]] (fun r=>∃ b:Bool,r=.v (.bool b)/\(b=true->x.op_=0)):=by
 refine PRet.of_vc ao [] [] Tryz.func48 rfl Tryz.ntmps48 rfl (by kernel_rfl) (cB (fun hg11=>?_) (fun hg11=>?_))
 ·refine cT (cT ?_)
  refine cT (cT ?_)
  exact cT (rV Tryz.results48 rfl bF)
 refine cB (fun hg18=>?_) (fun hg18=>?_)
 ·refine cT (cT ?_)
  refine cT (cT ?_)
  exact rV Tryz.results48 rfl bF
 refine cB (fun hg25=>?_) (fun hg25=>?_)
 ·refine cT (cT ?_)
  exact cT (rV Tryz.results48 rfl bF)
 refine cB (fun hg32=>?_) (fun hg32=>?_)
 ·refine cT (cT ?_)
  exact rV Tryz.results48 rfl bF
 refine OpG.lk (qa rfl rfl) (cB (fun hg39=>?_) (fun hg39=>?_))
 ·exact cT (rV Tryz.results48 rfl bF)
 refine LenG.of ?_
 try refine LenG.of ?_
 refine cB (fun hc47=>?_) (fun hc47=>?_)
 ·exact rV Tryz.results48 rfl bF
 refine LpG.exit (LenG.of ?_)
 refine cB (fun hc52=>?_) (fun hc52=>?_)
 ·exfalso; simp_all
 have hq52:¬ ((0:Int) < ((x.args_.length:Nat):Int)):=of_decide_eq_false hc52
 exact rV Tryz.results48 rfl ⟨_,rfl,fun _=>by simp_all⟩
theorem Ia (x:GEx) (hx:FitEx x) (l:List PVar) (hl:bw l (fun y=>True)) (ih:∀ r∈x.args_,PRet Tryz.prog 133 [.agg (rwA r),.tree 5 (l.map vA)] (fun q=>∃ b:Bool,q=.v (.bool b)/\(b=true->IntE l r))):PRet Tryz.prog 133 [.agg (exA x),.tree 5 (l.map vA)] (fun r=>∃ b:Bool,r=.v (.bool b)/\(b=true->IntE l (exA x))):=by
 refine PRet.of_vc ao [108,126,134] [] Tryz.func133 rfl Tryz.ntmps133 rfl (by kernel_rfl) ?_
 refine cB (fun hc7=>?_) (fun hc7=>?_)
 ·have hq7:(x.op_:Int)=(1:Int):=by simpa using hc7
  refine LenG.of (cB (fun hg13=>?_) (fun hg13=>?_))
  ·have hq13:((x.args_.length:Nat):Int)=(0:Int):=by simpa using hg13
   refine cB (fun hg18=>?_) (fun hg18=>?_)
   ·have hq18:(x.value_.kind_:Int)=(1:Int):=by simpa using hg18
    refine cT (ArgG.mk (fb x.value_ hx.value_) rfl ?_)
    rintro _ ⟨b0,rfl,hb0,hbc0⟩
    refine rV Tryz.results133 rfl ?_
    (refine ⟨_,rfl,fun hr=>?_⟩; first | exact .lit x (by assumption) (by simp_all) (by simp_all) (by simp_all) | exact .col x (by assumption) (by simp_all) (by simp_all) | exact .neg x (by assumption) (by omega) (fun r hr=>by obtain ⟨j,hj,rfl⟩:=List.getElem_of_mem hr; (obtain rfl:j=0:=by omega); simp_all) | exact .len x a0 (by assumption) (di (by assumption) he_a0) (by simp_all) (by simp_all) | exact .bin x (by omega) (by omega) (fun r hr=>by obtain ⟨j,hj,rfl⟩:=List.getElem_of_mem hr; (obtain rfl | rfl:j=0\/j=1:=by omega) <;> simp_all))
   have hq18:¬ ((x.value_.kind_:Int)=(1:Int)):=by simpa using hg18
   refine cB (fun hg25=>?_) (fun hg25=>?_)
   ·have hq25:(x.value_.kind_:Int)=(0:Int):=by simpa using hg25
    refine ArgG.mk (fb x.value_ hx.value_) rfl ?_
    rintro _ ⟨b1,rfl,hb1,hbc1⟩
    refine rV Tryz.results133 rfl ?_
    (refine ⟨_,rfl,fun hr=>?_⟩; first | exact .lit x (by assumption) (by simp_all) (by simp_all) (by simp_all) | exact .col x (by assumption) (by simp_all) (by simp_all) | exact .neg x (by assumption) (by omega) (fun r hr=>by obtain ⟨j,hj,rfl⟩:=List.getElem_of_mem hr; (obtain rfl:j=0:=by omega); simp_all) | exact .len x a0 (by assumption) (di (by assumption) he_a0) (by simp_all) (by simp_all) | exact .bin x (by omega) (by omega) (fun r hr=>by obtain ⟨j,hj,rfl⟩:=List.getElem_of_mem hr; (obtain rfl | rfl:j=0\/j=1:=by omega) <;> simp_all))
   have hq25:¬ ((x.value_.kind_:Int)=(0:Int)):=by simpa using hg25
   exact rV Tryz.results133 rfl bF
  have hq13:¬ (((x.args_.length:Nat):Int)=(0:Int)):=by simpa using hg13
  exact cF (rV Tryz.results133 rfl bF)
 have hq7:¬ ((x.op_:Int)=(1:Int)):=by simpa using hc7
 refine cB (fun hc30=>?_) (fun hc30=>?_)
 ·have hq30:(x.op_:Int)=(2:Int):=by simpa using hc30
  refine LenG.of (cB (fun hg36=>?_) (fun hg36=>?_))
  ·have hq36:((x.args_.length:Nat):Int)=(0:Int):=by simpa using hg36
   refine ArgG.mk (Pf x.index_ 1 l hl) rfl ?_
   rintro _ ⟨b2,rfl,hb2⟩
   refine rV Tryz.results133 rfl ?_
   (refine ⟨_,rfl,fun hr=>?_⟩; first | exact .lit x (by assumption) (by simp_all) (by simp_all) (by simp_all) | exact .col x (by assumption) (by simp_all) (by simp_all) | exact .neg x (by assumption) (by omega) (fun r hr=>by obtain ⟨j,hj,rfl⟩:=List.getElem_of_mem hr; (obtain rfl:j=0:=by omega); simp_all) | exact .len x a0 (by assumption) (di (by assumption) he_a0) (by simp_all) (by simp_all) | exact .bin x (by omega) (by omega) (fun r hr=>by obtain ⟨j,hj,rfl⟩:=List.getElem_of_mem hr; (obtain rfl | rfl:j=0\/j=1:=by omega) <;> simp_all))
  have hq36:¬ (((x.args_.length:Nat):Int)=(0:Int)):=by simpa using hg36
  exact rV Tryz.results133 rfl bF
 have hq30:¬ ((x.op_:Int)=(2:Int)):=by simpa using hc30
 refine cB (fun hc42=>?_) (fun hc42=>?_)
 ·have hq42:(x.op_:Int)=(9:Int):=by simpa using hc42
  refine LenG.of (cB (fun hg48=>?_) (fun hg48=>?_))
  ·have hq48:((x.args_.length:Nat):Int)=(1:Int):=by simpa using hg48
   obtain ⟨a0,he_a0,ha0⟩:=n0 hx 0 (by omega)
   refine aw (j:=0) (by omega) he_a0 (LenG.of ?_)
   refine cB (fun hg57=>?_) (fun hg57=>?_)
   ·have hq57:((a0.args_.length:Nat):Int)=(0:Int):=by simpa using hg57
    refine aw (j:=0) (by omega) he_a0 (ArgG.mk (fh (exA a0) (g9 ha0) l hl) rfl ?_)
    rintro _ ⟨b3,rfl,hb3,hbn3⟩
    refine cB (fun hg64=>?_) (fun hg64=>?_)
    ·refine aw (j:=0) (by omega) he_a0 (cB (fun hg71=>?_) (fun hg71=>?_))
     ·have hq71:(a0.op_:Int)=(2:Int):=by simpa using hg71
      refine cT (rV Tryz.results133 rfl ?_)
      (refine ⟨_,rfl,fun hr=>?_⟩; first | exact .lit x (by assumption) (by simp_all) (by simp_all) (by simp_all) | exact .col x (by assumption) (by simp_all) (by simp_all) | exact .neg x (by assumption) (by omega) (fun r hr=>by obtain ⟨j,hj,rfl⟩:=List.getElem_of_mem hr; (obtain rfl:j=0:=by omega); simp_all) | exact .len x a0 (by assumption) (di (by assumption) he_a0) (by simp_all) (by simp_all) | exact .bin x (by omega) (by omega) (fun r hr=>by obtain ⟨j,hj,rfl⟩:=List.getElem_of_mem hr; (obtain rfl | rfl:j=0\/j=1:=by omega) <;> simp_all))
     have hq71:¬ ((a0.op_:Int)=(2:Int)):=by simpa using hg71
     refine aw (j:=0) (by omega) he_a0 (ArgG.mk (fb a0.value_ ha0.value_) rfl ?_)
     rintro _ ⟨b4,rfl,hb4,hbc4⟩
     refine cB (fun hg80=>?_) (fun hg80=>?_)
     ·refine rV Tryz.results133 rfl ?_
      (refine ⟨_,rfl,fun hr=>?_⟩; first | exact .lit x (by assumption) (by simp_all) (by simp_all) (by simp_all) | exact .col x (by assumption) (by simp_all) (by simp_all) | exact .neg x (by assumption) (by omega) (fun r hr=>by obtain ⟨j,hj,rfl⟩:=List.getElem_of_mem hr; (obtain rfl:j=0:=by omega); simp_all) | exact .len x a0 (by assumption) (di (by assumption) he_a0) (by simp_all) (by simp_all) | exact .bin x (by omega) (by omega) (fun r hr=>by obtain ⟨j,hj,rfl⟩:=List.getElem_of_mem hr; (obtain rfl | rfl:j=0\/j=1:=by omega) <;> simp_all))
     refine aw (j:=0) (by omega) he_a0 (cB (fun hg87=>?_) (fun hg87=>?_))
     ·have hq87:(a0.op_:Int)=(1:Int):=by simpa using hg87
      refine aw (j:=0) (by omega) he_a0 (OpG.lk (jp rfl rfl) ?_)
      refine rV Tryz.results133 rfl ?_
      (refine ⟨_,rfl,fun hr=>?_⟩; first | exact .lit x (by assumption) (by simp_all) (by simp_all) (by simp_all) | exact .col x (by assumption) (by simp_all) (by simp_all) | exact .neg x (by assumption) (by omega) (fun r hr=>by obtain ⟨j,hj,rfl⟩:=List.getElem_of_mem hr; (obtain rfl:j=0:=by omega); simp_all) | exact .len x a0 (by assumption) (di (by assumption) he_a0) (by simp_all) (by simp_all) | exact .bin x (by omega) (by omega) (fun r hr=>by obtain ⟨j,hj,rfl⟩:=List.getElem_of_mem hr; (obtain rfl | rfl:j=0\/j=1:=by omega) <;> simp_all))
     have hq87:¬ ((a0.op_:Int)=(1:Int)):=by simpa using hg87
     exact rV Tryz.results133 rfl bF
    refine cF (aw (j:=0) (by omega) he_a0 ?_)
    refine cB (fun hg87=>?_) (fun hg87=>?_)
    ·have hq87:(a0.op_:Int)=(1:Int):=by simpa using hg87
     refine aw (j:=0) (by omega) he_a0 (OpG.lk (jp rfl rfl) ?_)
     refine rV Tryz.results133 rfl ?_
     (refine ⟨_,rfl,fun hr=>?_⟩; first | exact .lit x (by assumption) (by simp_all) (by simp_all) (by simp_all) | exact .col x (by assumption) (by simp_all) (by simp_all) | exact .neg x (by assumption) (by omega) (fun r hr=>by obtain ⟨j,hj,rfl⟩:=List.getElem_of_mem hr; (obtain rfl:j=0:=by omega); simp_all) | exact .len x a0 (by assumption) (di (by assumption) he_a0) (by simp_all) (by simp_all) | exact .bin x (by omega) (by omega) (fun r hr=>by obtain ⟨j,hj,rfl⟩:=List.getElem_of_mem hr; (obtain rfl | rfl:j=0\/j=1:=by omega) <;> simp_all))
    have hq87:¬ ((a0.op_:Int)=(1:Int)):=by simpa using hg87
    exact rV Tryz.results133 rfl bF
   have hq57:¬ (((a0.args_.length:Nat):Int)=(0:Int)):=by simpa using hg57
   exact rV Tryz.results133 rfl bF
  have hq48:¬ (((x.args_.length:Nat):Int)=(1:Int)):=by simpa using hg48
  exact cF (rV Tryz.results133 rfl bF)
 have hq42:¬ ((x.op_:Int)=(9:Int)):=by simpa using hc42
 refine cB (fun hc98=>?_) (fun hc98=>?_)
 ·have hq98:(x.op_:Int)=(3:Int):=by simpa using hc98
  refine LenG.of (cB (fun hg104=>?_) (fun hg104=>?_))
  ·have hq104:((x.args_.length:Nat):Int)=(1:Int):=by simpa using hg104
   refine IdxG.of (j:=0) (by omega) (OpG.lk (aq d8 rfl (cj (hx.args_.2 _ (Ze _)))) ?_)
   refine ArgG.mk (ih (x.args_[0]) (Ze _)) (show ay [.agg (rwA x.args_[0]),.tree 5 (l.map vA)]=true by simp [ay,AV.pureB,cm (hx.args_.2 _ (Ze _))]) ?_
   rintro _ ⟨b5,rfl,hb5⟩
   refine rV Tryz.results133 rfl ?_
   (refine ⟨_,rfl,fun hr=>?_⟩; first | exact .lit x (by assumption) (by simp_all) (by simp_all) (by simp_all) | exact .col x (by assumption) (by simp_all) (by simp_all) | exact .neg x (by assumption) (by omega) (fun r hr=>by obtain ⟨j,hj,rfl⟩:=List.getElem_of_mem hr; (obtain rfl:j=0:=by omega); simp_all) | exact .len x a0 (by assumption) (di (by assumption) he_a0) (by simp_all) (by simp_all) | exact .bin x (by omega) (by omega) (fun r hr=>by obtain ⟨j,hj,rfl⟩:=List.getElem_of_mem hr; (obtain rfl | rfl:j=0\/j=1:=by omega) <;> simp_all))
  have hq104:¬ (((x.args_.length:Nat):Int)=(1:Int)):=by simpa using hg104
  exact rV Tryz.results133 rfl bF
 have hq98:¬ ((x.op_:Int)=(3:Int)):=by simpa using hc98
 refine cB (fun hc112=>?_) (fun hc112=>?_)
 ·have hq112:(x.op_:Int)=(4:Int):=by simpa using hc112
  refine cB (fun hc112=>?_) (fun hc112=>?_)
  ·have hq112:(x.op_:Int)=(4:Int):=by simpa using hc112
   refine LenG.of (cB (fun hg122=>?_) (fun hg122=>?_))
   ·have hq122:((x.args_.length:Nat):Int)=(2:Int):=by simpa using hg122
    refine IdxG.of (j:=0) (by omega) (OpG.lk (aq d8 rfl (cj (hx.args_.2 _ (Ze _)))) ?_)
    refine ArgG.mk (ih (x.args_[0]) (Ze _)) (show ay [.agg (rwA x.args_[0]),.tree 5 (l.map vA)]=true by simp [ay,AV.pureB,cm (hx.args_.2 _ (Ze _))]) ?_
    rintro _ ⟨b6,rfl,hb6⟩
    refine cB (fun hg130=>?_) (fun hg130=>?_)
    ·refine IdxG.of (j:=1) (by omega) (OpG.lk (aq d8 rfl (cj (hx.args_.2 _ (Ze _)))) ?_)
     refine ArgG.mk (ih (x.args_[1]) (Ze _)) (show ay [.agg (rwA x.args_[1]),.tree 5 (l.map vA)]=true by simp [ay,AV.pureB,cm (hx.args_.2 _ (Ze _))]) ?_
     rintro _ ⟨b7,rfl,hb7⟩
     refine rV Tryz.results133 rfl ?_
     (refine ⟨_,rfl,fun hr=>?_⟩; first | exact .lit x (by assumption) (by simp_all) (by simp_all) (by simp_all) | exact .col x (by assumption) (by simp_all) (by simp_all) | exact .neg x (by assumption) (by omega) (fun r hr=>by obtain ⟨j,hj,rfl⟩:=List.getElem_of_mem hr; (obtain rfl:j=0:=by omega); simp_all) | exact .len x a0 (by assumption) (di (by assumption) he_a0) (by simp_all) (by simp_all) | exact .bin x (by omega) (by omega) (fun r hr=>by obtain ⟨j,hj,rfl⟩:=List.getElem_of_mem hr; (obtain rfl | rfl:j=0\/j=1:=by omega) <;> simp_all))
    exact rV Tryz.results133 rfl bF
   have hq122:¬ (((x.args_.length:Nat):Int)=(2:Int)):=by simpa using hg122
   exact cF (rV Tryz.results133 rfl bF)
  have hq112:¬ ((x.op_:Int)=(4:Int)):=by simpa using hc112
  exact rV Tryz.results133 rfl bF
 have hq112:¬ ((x.op_:Int)=(4:Int)):=by simpa using hc112
 refine cB (fun hc112=>?_) (fun hc112=>?_)
 ·have hq112:(x.op_:Int)=(5:Int):=by simpa using hc112
  refine cB (fun hc112=>?_) (fun hc112=>?_)
  ·have hq112:(x.op_:Int)=(5:Int):=by simpa using hc112
   refine LenG.of (cB (fun hg122=>?_) (fun hg122=>?_))
   ·have hq122:((x.args_.length:Nat):Int)=(2:Int):=by simpa using hg122
    refine IdxG.of (j:=0) (by omega) (OpG.lk (aq d8 rfl (cj (hx.args_.2 _ (Ze _)))) ?_)
    refine ArgG.mk (ih (x.args_[0]) (Ze _)) (show ay [.agg (rwA x.args_[0]),.tree 5 (l.map vA)]=true by simp [ay,AV.pureB,cm (hx.args_.2 _ (Ze _))]) ?_
    rintro _ ⟨b8,rfl,hb8⟩
    refine cB (fun hg130=>?_) (fun hg130=>?_)
    ·refine IdxG.of (j:=1) (by omega) (OpG.lk (aq d8 rfl (cj (hx.args_.2 _ (Ze _)))) ?_)
     refine ArgG.mk (ih (x.args_[1]) (Ze _)) (show ay [.agg (rwA x.args_[1]),.tree 5 (l.map vA)]=true by simp [ay,AV.pureB,cm (hx.args_.2 _ (Ze _))]) ?_
     rintro _ ⟨b9,rfl,hb9⟩
     refine rV Tryz.results133 rfl ?_
     (refine ⟨_,rfl,fun hr=>?_⟩; first | exact .lit x (by assumption) (by simp_all) (by simp_all) (by simp_all) | exact .col x (by assumption) (by simp_all) (by simp_all) | exact .neg x (by assumption) (by omega) (fun r hr=>by obtain ⟨j,hj,rfl⟩:=List.getElem_of_mem hr; (obtain rfl:j=0:=by omega); simp_all) | exact .len x a0 (by assumption) (di (by assumption) he_a0) (by simp_all) (by simp_all) | exact .bin x (by omega) (by omega) (fun r hr=>by obtain ⟨j,hj,rfl⟩:=List.getElem_of_mem hr; (obtain rfl | rfl:j=0\/j=1:=by omega) <;> simp_all))
    exact rV Tryz.results133 rfl bF
   have hq122:¬ (((x.args_.length:Nat):Int)=(2:Int)):=by simpa using hg122
   exact cF (rV Tryz.results133 rfl bF)
  have hq112:¬ ((x.op_:Int)=(5:Int)):=by simpa using hc112
  exact rV Tryz.results133 rfl bF
 have hq112:¬ ((x.op_:Int)=(5:Int)):=by simpa using hc112
 refine cB (fun hc112=>?_) (fun hc112=>?_)
 ·have hq112:(x.op_:Int)=(6:Int):=by simpa using hc112
  refine cB (fun hc112=>?_) (fun hc112=>?_)
  ·have hq112:(x.op_:Int)=(6:Int):=by simpa using hc112
   refine LenG.of (cB (fun hg122=>?_) (fun hg122=>?_))
   ·have hq122:((x.args_.length:Nat):Int)=(2:Int):=by simpa using hg122
    refine IdxG.of (j:=0) (by omega) (OpG.lk (aq d8 rfl (cj (hx.args_.2 _ (Ze _)))) ?_)
    refine ArgG.mk (ih (x.args_[0]) (Ze _)) (show ay [.agg (rwA x.args_[0]),.tree 5 (l.map vA)]=true by simp [ay,AV.pureB,cm (hx.args_.2 _ (Ze _))]) ?_
    rintro _ ⟨b10,rfl,hb10⟩
    refine cB (fun hg130=>?_) (fun hg130=>?_)
    ·refine IdxG.of (j:=1) (by omega) (OpG.lk (aq d8 rfl (cj (hx.args_.2 _ (Ze _)))) ?_)
     refine ArgG.mk (ih (x.args_[1]) (Ze _)) (show ay [.agg (rwA x.args_[1]),.tree 5 (l.map vA)]=true by simp [ay,AV.pureB,cm (hx.args_.2 _ (Ze _))]) ?_
     rintro _ ⟨b11,rfl,hb11⟩
     refine rV Tryz.results133 rfl ?_
     (refine ⟨_,rfl,fun hr=>?_⟩; first | exact .lit x (by assumption) (by simp_all) (by simp_all) (by simp_all) | exact .col x (by assumption) (by simp_all) (by simp_all) | exact .neg x (by assumption) (by omega) (fun r hr=>by obtain ⟨j,hj,rfl⟩:=List.getElem_of_mem hr; (obtain rfl:j=0:=by omega); simp_all) | exact .len x a0 (by assumption) (di (by assumption) he_a0) (by simp_all) (by simp_all) | exact .bin x (by omega) (by omega) (fun r hr=>by obtain ⟨j,hj,rfl⟩:=List.getElem_of_mem hr; (obtain rfl | rfl:j=0\/j=1:=by omega) <;> simp_all))
    exact rV Tryz.results133 rfl bF
   have hq122:¬ (((x.args_.length:Nat):Int)=(2:Int)):=by simpa using hg122
   exact cF (rV Tryz.results133 rfl bF)
  have hq112:¬ ((x.op_:Int)=(6:Int)):=by simpa using hc112
  exact rV Tryz.results133 rfl bF
 have hq112:¬ ((x.op_:Int)=(6:Int)):=by simpa using hc112
 refine cB (fun hc112=>?_) (fun hc112=>?_)
 ·have hq112:(x.op_:Int)=(7:Int):=by simpa using hc112
  refine cB (fun hc112=>?_) (fun hc112=>?_)
  ·have hq112:(x.op_:Int)=(7:Int):=by simpa using hc112
   refine LenG.of (cB (fun hg122=>?_) (fun hg122=>?_))
   ·have hq122:((x.args_.length:Nat):Int)=(2:Int):=by simpa using hg122
    refine IdxG.of (j:=0) (by omega) (OpG.lk (aq d8 rfl (cj (hx.args_.2 _ (Ze _)))) ?_)
    refine ArgG.mk (ih (x.args_[0]) (Ze _)) (show ay [.agg (rwA x.args_[0]),.tree 5 (l.map vA)]=true by simp [ay,AV.pureB,cm (hx.args_.2 _ (Ze _))]) ?_
    rintro _ ⟨b12,rfl,hb12⟩
    refine cB (fun hg130=>?_) (fun hg130=>?_)
    ·refine IdxG.of (j:=1) (by omega) (OpG.lk (aq d8 rfl (cj (hx.args_.2 _ (Ze _)))) ?_)
     refine ArgG.mk (ih (x.args_[1]) (Ze _)) (show ay [.agg (rwA x.args_[1]),.tree 5 (l.map vA)]=true by simp [ay,AV.pureB,cm (hx.args_.2 _ (Ze _))]) ?_
     rintro _ ⟨b13,rfl,hb13⟩
     refine rV Tryz.results133 rfl ?_
     (refine ⟨_,rfl,fun hr=>?_⟩; first | exact .lit x (by assumption) (by simp_all) (by simp_all) (by simp_all) | exact .col x (by assumption) (by simp_all) (by simp_all) | exact .neg x (by assumption) (by omega) (fun r hr=>by obtain ⟨j,hj,rfl⟩:=List.getElem_of_mem hr; (obtain rfl:j=0:=by omega); simp_all) | exact .len x a0 (by assumption) (di (by assumption) he_a0) (by simp_all) (by simp_all) | exact .bin x (by omega) (by omega) (fun r hr=>by obtain ⟨j,hj,rfl⟩:=List.getElem_of_mem hr; (obtain rfl | rfl:j=0\/j=1:=by omega) <;> simp_all))
    exact rV Tryz.results133 rfl bF
   have hq122:¬ (((x.args_.length:Nat):Int)=(2:Int)):=by simpa using hg122
   exact cF (rV Tryz.results133 rfl bF)
  have hq112:¬ ((x.op_:Int)=(7:Int)):=by simpa using hc112
  exact rV Tryz.results133 rfl bF
 have hq112:¬ ((x.op_:Int)=(7:Int)):=by simpa using hc112
 refine cB (fun hc112=>?_) (fun hc112=>?_)
 ·have hq112:(x.op_:Int)=(8:Int):=by simpa using hc112
  refine LenG.of (cB (fun hg122=>?_) (fun hg122=>?_))
  ·have hq122:((x.args_.length:Nat):Int)=(2:Int):=by simpa using hg122
   refine IdxG.of (j:=0) (by omega) (OpG.lk (aq d8 rfl (cj (hx.args_.2 _ (Ze _)))) ?_)
   refine ArgG.mk (ih (x.args_[0]) (Ze _)) (show ay [.agg (rwA x.args_[0]),.tree 5 (l.map vA)]=true by simp [ay,AV.pureB,cm (hx.args_.2 _ (Ze _))]) ?_
   rintro _ ⟨b14,rfl,hb14⟩
   refine cB (fun hg130=>?_) (fun hg130=>?_)
   ·refine IdxG.of (j:=1) (by omega) (OpG.lk (aq d8 rfl (cj (hx.args_.2 _ (Ze _)))) ?_)
    refine ArgG.mk (ih (x.args_[1]) (Ze _)) (show ay [.agg (rwA x.args_[1]),.tree 5 (l.map vA)]=true by simp [ay,AV.pureB,cm (hx.args_.2 _ (Ze _))]) ?_
    rintro _ ⟨b15,rfl,hb15⟩
    refine rV Tryz.results133 rfl ?_
    (refine ⟨_,rfl,fun hr=>?_⟩; first | exact .lit x (by assumption) (by simp_all) (by simp_all) (by simp_all) | exact .col x (by assumption) (by simp_all) (by simp_all) | exact .neg x (by assumption) (by omega) (fun r hr=>by obtain ⟨j,hj,rfl⟩:=List.getElem_of_mem hr; (obtain rfl:j=0:=by omega); simp_all) | exact .len x a0 (by assumption) (di (by assumption) he_a0) (by simp_all) (by simp_all) | exact .bin x (by omega) (by omega) (fun r hr=>by obtain ⟨j,hj,rfl⟩:=List.getElem_of_mem hr; (obtain rfl | rfl:j=0\/j=1:=by omega) <;> simp_all))
   exact rV Tryz.results133 rfl bF
  have hq122:¬ (((x.args_.length:Nat):Int)=(2:Int)):=by simpa using hg122
  exact cF (rV Tryz.results133 rfl bF)
 have hq112:¬ ((x.op_:Int)=(8:Int)):=by simpa using hc112
 exact rV Tryz.results133 rfl bF
theorem ug (r:List AV) (hr:IsEx r) (l:List PVar) (hl:bw l (fun y=>True)):PRet Tryz.prog 133 [.agg (rwA r),.tree 5 (l.map vA)] (fun q=>∃ b:Bool,q=.v (.bool b)/\(b=true->IntE l r)):=IsEx.ind (M:=fun r=>PRet Tryz.prog 133 [.agg (rwA r),.tree 5 (l.map vA)] (fun q=>∃ b:Bool,q=.v (.bool b)/\(b=true->IntE l r))) (fun x hx ih=>Ia x hx l hl ih) hr
section
variable {P:Program} {τ:Nat->AV} {η:au} {d:Option Tmp} {ty:TypeId} {pos:String} {af:Array Edge} {g:Option (Nat×Bool)}
theorem je {t t':Nat} {x y:Operand} {m n:Int} (hx:aev τ x=.v (.int .i64 m)) (hy:aev τ y=.v (.int .i64 n)) (h1:-9223372036854775808<=m) (h2:m<=9223372036854775807) (h3:1<=n) :
  LOp P ⟨d,.binOp .quo t x y t',ty,pos,af,g⟩ τ η [] [] (.v (.int .i64 (m.tdiv n))) :=
 .look [] fun C a _ hxs _=>by
  have e1:=hxs x (by simp [Op.operands])
  have e2:=hxs y (by simp [Op.operands])
  rw [hx] at e1
  rw [hy] at e2
  refine ⟨.int .i64 (m.tdiv n),?_,VR.v C _⟩
  have hw:=Go.IntWalk.i64_quo' m n ⟨h1,h2,h3⟩
  have h0:¬ (n=0):=by omega
  simp only [execOp,e1.v_inv,e2.v_inv]
  simp [binOp,Op.intArith,Op.intDiv,eqGuard,h0,Sem.run_bind,hw]
theorem sv {t:Nat} {x:Operand} {m:Int} (hx:aev τ x=.v (.int .i64 m)) (h1:-9223372036854775807<=m) (h2:m<=9223372036854775807) :
  LOp P ⟨d,.unOp .neg t x,ty,pos,af,g⟩ τ η [] [] (.v (.int .i64 (-m))):=by
 have h:LOp P ⟨d,.unOp .neg t x,ty,pos,af,g⟩ τ η [] [] (.v (.int .i64 (IntKind.i64.wrap (-m)))) :=
  .look [] fun C a _ hxs _=>by
   have e1:=hxs x (by simp [Op.operands])
   rw [hx] at e1
   refine ⟨_,?_,VR.v C _⟩
   simp only [execOp,e1.v_inv]
   simp [Op.unary,Op.intArith]
 rwa [Go.IntWalk.i64_in _ ⟨by omega,by omega⟩] at h
end
theorem yz {a b:Int} (hb:1<=b):(if a.tdiv b * b > a then a.tdiv b - 1 else a.tdiv b)=a.fdiv b:=by
 have h1:=Int.tmod_add_mul_tdiv a b
 have h4:b * a.tdiv b=a.tdiv b * b:=Int.mul_comm _ _
 have hf:=Int.fdiv_eq_ediv_of_nonneg a (by omega:(0:Int)<=b)
 rw [hf]
 have h2:=Int.emod_add_mul_ediv a b
 have h3:=Int.emod_nonneg a (by omega:b≠0)
 have h5:=Int.emod_lt_of_pos a (by omega:0 < b)
 have h6:=Int.tmod_lt_of_pos a (by omega:0 < b)
 have h7:-b < a.tmod b:=Int.lt_tmod_of_pos a (by omega)
 split
 ·rename_i h
  have:(a.tdiv b - 1)=a / b:=by
   refine (Int.ediv_eq_iff_of_pos (by omega) |>.2 ⟨?_,?_⟩).symm <;> (try rw [Int.sub_mul]) <;> (try rw [Int.add_mul]) <;> (try rw [Int.sub_mul]) <;> omega
  exact this
 rename_i h
 refine (Int.ediv_eq_iff_of_pos (by omega) |>.2 ⟨?_,?_⟩).symm
 ·omega
 omega
theorem br (n:Int):(0<=n/\cy n=n)\/(n < 0/\cy n=-n):=by
 unfold cy; split <;> omega
theorem Co {a b:Int} (ha:-4611686018427387904<=a/\a<=4611686018427387904) (hb:1<=b/\b<=4611686018427387904):(-4611686018427387904<=a.tdiv b/\a.tdiv b<=4611686018427387904)/\(-9223372036854775808<=a.tdiv b * b/\a.tdiv b * b<=9223372036854775807):=by
 have h1:=Int.tmod_add_mul_tdiv a b
 have h4:b * a.tdiv b=a.tdiv b * b:=Int.mul_comm _ _
 have h6:=Int.tmod_lt_of_pos a (by omega:0 < b)
 have h7:-b < a.tmod b:=Int.lt_tmod_of_pos a (by omega)
 have h8:=Int.natAbs_tdiv_le_natAbs a b
 refine ⟨by omega,by omega⟩
theorem i7 (n:Int) (lo:Int) (hi:Int):PRet Tryz.prog 244 [.v (.int .i64 n),.v (.int .i64 lo),.v (.int .i64 hi)] (fun r=>∃ b:Bool,r=.v (.bool b)/\(b=true↔lo<=n/\n<=hi)):=by
 refine PRet.of_vc ao [] [] Tryz.func244 rfl Tryz.ntmps244 rfl (by kernel_rfl) ?_
 refine cD (fun hq10=>?_) (fun hq10=>?_)
 ·refine rV Tryz.results244 rfl ?_
  refine ⟨_,rfl,?_⟩; (simp; omega)
 refine rV Tryz.results244 rfl ?_
 refine ⟨_,rfl,?_⟩; (simp; omega)
theorem gf (n:Int) (hn:-9223372036854775807<=n/\n<=9223372036854775807):PRet Tryz.prog 283 [.v (.int .i64 n)] (fun r=>r=.v (.int .i64 (cy n))):=by
 refine PRet.of_vc ao [6] [] Tryz.func283 rfl Tryz.ntmps283 rfl (by kernel_rfl) (cB (fun hc4=>?_) (fun hc4=>?_))
 ·have hq4:(n:Int) < (0:Int):=of_decide_eq_true hc4
  exact OpG.lk (sv rfl (by omega) (by omega)) (rV Tryz.results283 rfl (show AV.v (.int .i64 (-n))=.v (.int .i64 (cy n)) by unfold cy; rw [if_pos (by simpa using hc4)]))
 have hq4:¬ ((n:Int) < (0:Int)):=of_decide_eq_false hc4
 exact rV Tryz.results283 rfl (show AV.v (.int .i64 n)=.v (.int .i64 (cy n)) by unfold cy; rw [if_neg (by simpa using hc4)])
theorem ik (a:Int) (b:Int):PRet Tryz.prog 355 [.v (.int .i64 a),.v (.int .i64 b)] (fun r=>∃ v:Int,r=.v (.int .i64 v)/\(v=0↔a=b)):=by
 refine PRet.of_vc ao [] [] Tryz.func355 rfl Tryz.ntmps355 rfl (by kernel_rfl) (cD (fun hq7=>?_) (fun hq7=>?_))
 exact rV Tryz.results355 rfl ⟨_,rfl,by omega⟩
 refine cD (fun hq10=>?_) (fun hq10=>?_)
 ·exact rV Tryz.results355 rfl ⟨_,rfl,by omega⟩
 exact rV Tryz.results355 rfl ⟨_,rfl,by omega⟩
theorem Iv (a:Int) (b:Int) (ha:-4611686018427387904<=a/\a<=4611686018427387904) (hb:1<=b/\b<=4611686018427387904):PRet Tryz.prog 285 [.v (.int .i64 a),.v (.int .i64 b)] (fun r=>∃ v:Int,r=.v (.int .i64 v)/\v=a.fdiv b):=by
 have hf:=yz (a:=a) hb.1
 have hq:=Co ha hb
 refine PRet.of_vc ao [8,11,15] [] Tryz.func285 rfl Tryz.ntmps285 rfl (by kernel_rfl) (OpG.lk (je rfl rfl (by omega) (by omega) (by omega)) ?_)
 refine OpG.lk (dj rfl rfl (by omega) (by omega)) (cB (fun hc13=>?_) (fun hc13=>?_))
 ·exact OpG.lk (jz rfl rfl (by omega) (by omega)) (rV Tryz.results285 rfl ⟨_,rfl,by rw [<- hf,if_pos (by simpa using hc13)]⟩)
 exact rV Tryz.results285 rfl ⟨_,rfl,by rw [<- hf,if_neg (by simpa using hc13)]⟩
structure GPart where
 coef_:Int
 kind_:Int
 var_:Int
 by_:Int
 of_:List (List AV)
abbrev ptA (x:GPart):List AV:=[.v (.int .i64 x.coef_),.v (.int .i64 x.kind_),.v (.int .i64 x.var_),.v (.int .i64 x.by_),.tree 2 (x.of_.map rwA)]
instance:Inhabited GPart:=⟨⟨0,0,0,0,[]⟩⟩
structure GTm where
 const_:Int
 parts_:List GPart
abbrev tmA (x:GTm):List AV:=[.v (.int .i64 x.const_),.tree 5 (x.parts_.map ptA)]
mutual
/-- The value of a term; ρ: the values of columns and lengths. -/
def tvL (ρ:Int->Int->Int):List AV->Int
 | [.v (.int _ c),.tree _ ps]=>c+psL ρ ps
 | _=>0
def psL (ρ:Int->Int->Int):List (List AV)->Int
 | []=>0
 | r :: rs=>ptL ρ r+psL ρ rs
def ptL (ρ:Int->Int->Int):List AV->Int
 | [.v (.int _ c),.v (.int _ kd),.v (.int _ vr),.v (.int _ b),.tree _ os]=>c * (if kd=2 then (ofL ρ os).fdiv b else ρ kd vr)
 | _=>0
def ofL (ρ:Int->Int->Int):List (List AV)->Int
 | []=>0
 | r :: _=>tvL ρ r
end
/-- Columns hold 32-bit numbers, texts at most 16 characters. -/
def Cb (ρ:Int->Int->Int):Prop:=∀ v,(∀ k,-2147483648<=ρ k v/\ρ k v<=2147483648)/\-16<=ρ 1 v/\ρ 1 v<=16
def Bd (r:List AV) (m:Int):Prop:=∀ ρ,Cb ρ->-m<=tvL ρ r/\tvL ρ r<=m
inductive IsTm:List AV->Prop
 | mk (x:GTm) (h0:x.parts_.length<=140737488355328) (h1:∀ p∈x.parts_,p.of_.length<=1) (h2:∀ p∈x.parts_,p.kind_=2->p.of_.length=1/\1<=p.by_/\p.by_<=1000) (h3:∀ p∈x.parts_,p.kind_=2->∀ r∈p.of_,Bd r 1152921504606846976) (h:∀ p∈x.parts_,∀ r∈p.of_,IsTm r):IsTm (tmA x)
structure FitPart (p:GPart):Prop where
 of_:bw p.of_ (fun y=>IsTm y)
 one:p.of_.length<=1
 dv:p.kind_=2->p.of_.length=1/\1<=p.by_/\p.by_<=1000
 bd:p.kind_=2->∀ r∈p.of_,Bd r 1152921504606846976
structure FitTm (x:GTm):Prop where
 parts_:bw x.parts_ (fun y=>FitPart y)
theorem IsTm.fit {x:GTm} (h0:x.parts_.length<=140737488355328) (h1:∀ p∈x.parts_,p.of_.length<=1) (h2:∀ p∈x.parts_,p.kind_=2->p.of_.length=1/\1<=p.by_/\p.by_<=1000) (h3:∀ p∈x.parts_,p.kind_=2->∀ r∈p.of_,Bd r 1152921504606846976) (h:∀ p∈x.parts_,∀ r∈p.of_,IsTm r):FitTm x:=⟨⟨h0,fun p hp=>⟨⟨Nat.le_trans (h1 p hp) (by decide),h p hp⟩,h1 p hp,h2 p hp,h3 p hp⟩⟩⟩
theorem isTm {x:GTm} (h:FitTm x):IsTm (tmA x):=.mk x h.parts_.1 (fun p hp=>(h.parts_.2 p hp).one) (fun p hp=>(h.parts_.2 p hp).dv) (fun p hp=>(h.parts_.2 p hp).bd) (fun p hp=>(h.parts_.2 p hp).of_.2)
theorem IsTm.ind {M:List AV->Prop} (H:∀ x,FitTm x->(∀ p∈x.parts_,∀ r∈p.of_,M r)->M (tmA x)) {r:List AV} (h:IsTm r):M r:=by
 induction h with
 | mk x h0 h1 h2 h3 h ih=>exact H x (IsTm.fit h0 h1 h2 h3 h) ih
theorem IsTm.open_ {r:List AV} (h:IsTm r):∃ x,r=tmA x/\FitTm x:=by
 cases h with
 | mk x h0 h1 h2 h3 h=>exact ⟨x,rfl,IsTm.fit h0 h1 h2 h3 h⟩
theorem Cm {r:List AV} (h:IsTm r):cn 0 2 (rwA r)=some r:=by
 cases h with
 | mk x h0 h1 h2 h3 h=>rfl
theorem Cn {r:List AV} (h:IsTm r):ay r=true:=by
 cases h with
 | mk x h0 h1 h2 h3 h=>rfl
/-- Two parts of the same kind of value. -/
def Eu (a b:GPart):Prop:=a.kind_=b.kind_/\a.var_=b.var_/\a.by_=b.by_/\a.of_=b.of_
theorem Xm {a b:List (List AV)} (ha:a.length<=1) (hb:b.length<=1) (h0:¬ ((a.length:Nat):Int)=0) (h1:¬ ((b.length:Nat):Int)=0) (h:a[0]'(by omega)=b[0]'(by omega)):a=b:=by
 match a,b,ha,hb,h0,h1,h with
 | [x],[y],_,_,_,_,h=>simp at h; rw [h]
theorem nilA {α:Type} {a b:List α} (h:((a.length:Nat):Int)=0) (e:((a.length:Nat):Int)=((b.length:Nat):Int)):a=b:=by
 rw [List.eq_nil_of_length_eq_zero (by omega:a.length=0),List.eq_nil_of_length_eq_zero (by omega:b.length=0)]
theorem nilB {α:Type} {a b:List α} (h:((b.length:Nat):Int)=0) (e:((a.length:Nat):Int)=((b.length:Nat):Int)):a=b:=by
 rw [List.eq_nil_of_length_eq_zero (by omega:a.length=0),List.eq_nil_of_length_eq_zero (by omega:b.length=0)]
theorem Lf {x y:GTm} {k:Nat} (hl:x.parts_.length=y.parts_.length) (hk:x.parts_.length<=k) (h:∀ j (hl:j < x.parts_.length),j < k->∀ h2:j < y.parts_.length,x.parts_[j]=y.parts_[j]) (hc:x.const_=y.const_):tmA x=tmA y:=by
 have:x.parts_=y.parts_:=List.ext_getElem hl (fun i h1 h2=>h i h1 (by omega) h2)
 simp only [tmA,this,hc]
theorem P7 {p q:GPart} (h:Eu p q) (hc:p.coef_=q.coef_):p=q:=by
 obtain ⟨a,b,c,d,e⟩:=p
 obtain ⟨a',b',c',d',e'⟩:=q
 obtain ⟨h1,h2,h3,h4⟩:=h
 simp only at h1 h2 h3 h4 hc
 subst h1; subst h2; subst h3; subst h4; subst hc; rfl
theorem bh:el Tryz.prog 132=some (some 2):=by kernel_rfl
theorem Hg (p:GPart) (hp:FitPart p) (q:GPart) (hq:FitPart q) (ih:∀ r∈p.of_,∀ s,IsTm s->PRet Tryz.prog 356 [.agg (rwA r),.agg (rwA s)] (fun q=>∃ v:Int,q=.v (.int .i64 v)/\(v=0->r=s))):PRet Tryz.prog 318 [.agg (ptA p),.agg (ptA q)] (fun r=>∃ v:Int,r=.v (.int .i64 v)/\(v=0->Eu p q)):=by
 refine PRet.of_vc ao [55,59] [] Tryz.func318 rfl Tryz.ntmps318 rfl (by kernel_rfl) ?_
 refine cN (fun hq9=>?_) (fun hq9=>?_)
 refine ArgG.mk (ik p.kind_ q.kind_) rfl ?_
 rintro _ ⟨i0,rfl,hi0⟩
 refine rV Tryz.results318 rfl ?_
 refine ⟨_,rfl,fun h=>?_⟩; exfalso; simp_all
 refine cN (fun hq19=>?_) (fun hq19=>?_)
 refine ArgG.mk (ik p.var_ q.var_) rfl ?_
 rintro _ ⟨i1,rfl,hi1⟩
 refine rV Tryz.results318 rfl ?_
 refine ⟨_,rfl,fun h=>?_⟩; exfalso; simp_all
 refine cN (fun hq29=>?_) (fun hq29=>?_)
 ·refine ArgG.mk (ik p.by_ q.by_) rfl ?_
  rintro _ ⟨i2,rfl,hi2⟩
  refine rV Tryz.results318 rfl ?_
  refine ⟨_,rfl,fun h=>?_⟩; exfalso; simp_all
 refine LenG.of (cE (fun hq39=>?_) (fun hq39=>?_))
 ·refine cT (LenG.of ?_)
  refine LenG.of (ArgG.mk (ik ((p.of_.length:Nat):Int) ((q.of_.length:Nat):Int)) rfl ?_)
  rintro _ ⟨i3,rfl,hi3⟩
  exact rV Tryz.results318 rfl ⟨_,rfl,fun h=>⟨by assumption,by assumption,by assumption,nilA (by assumption) (hi3.1 h)⟩⟩
 refine LenG.of (cE (fun hq44=>?_) (fun hq44=>?_))
 ·refine LenG.of (LenG.of ?_)
  refine ArgG.mk (ik ((p.of_.length:Nat):Int) ((q.of_.length:Nat):Int)) rfl ?_
  rintro _ ⟨i4,rfl,hi4⟩
  exact rV Tryz.results318 rfl ⟨_,rfl,fun h=>⟨by assumption,by assumption,by assumption,nilB (by assumption) (hi4.1 h)⟩⟩
 refine IdxG.of (j:=0) (by omega) (OpG.lk (aq bh rfl (Cm (hp.of_.2 _ (Ze _)))) ?_)
 refine IdxG.of (j:=0) (by omega) (OpG.lk (aq bh rfl (Cm (hq.of_.2 _ (Ze _)))) ?_)
 refine ArgG.mk (ih (p.of_[0]) (Ze _) (q.of_[0]) (hq.of_.2 _ (Ze _))) (show ay [.agg (rwA p.of_[0]),.agg (rwA q.of_[0])]=true by simp [ay,AV.pureB,Cn (hp.of_.2 _ (Ze _)),Cn (hq.of_.2 _ (Ze _))]) ?_
 rintro _ ⟨v5,rfl,hv5⟩
 refine ⟨by kernel_rfl,?_⟩
 exact rV Tryz.results318 rfl ⟨_,rfl,fun h=>⟨by assumption,by assumption,by assumption,Xm hp.one hq.one (by assumption) (by assumption) (hv5 h)⟩⟩
theorem Je (x:GTm) (hx:FitTm x) (y:GTm) (hy:FitTm y) (ih:∀ p∈x.parts_,∀ r∈p.of_,∀ s,IsTm s->PRet Tryz.prog 356 [.agg (rwA r),.agg (rwA s)] (fun q=>∃ v:Int,q=.v (.int .i64 v)/\(v=0->r=s))):PRet Tryz.prog 356 [.agg (tmA x),.agg (tmA y)] (fun r=>∃ v:Int,r=.v (.int .i64 v)/\(v=0->tmA x=tmA y)):=by
 refine PRet.of_vc ao [] [] Tryz.func356 rfl Tryz.ntmps356 rfl (by kernel_rfl) ?_
 refine LpG.on (fun k0:Nat=>(⟨fL [(2,.ptr 0 0 0),(3,.ptr 1 0 0),(5,.v (.int .i64 ((k0:Nat):Int)))],bl [(0,⟨0,tmA x,0,false⟩),(1,⟨0,tmA y,0,false⟩)],2⟩:St)) (fun k0=>(x.parts_.length - k0)) (fun k0=>(k0<=x.parts_.length/\∀ j (hl:j < x.parts_.length),j < k0->∀ h2:j < y.parts_.length,x.parts_[j]=y.parts_[j])) 0 (cO (.cons rfl rfl (.cons rfl rfl (.cons rfl rfl .nil))) (.cons rfl rfl rfl (.cons rfl rfl rfl .nil))) ⟨Nat.zero_le _,fun j _ h=>absurd h (Nat.not_lt_zero j)⟩ ?_
 rintro k0 hinv
 have hgr_k0:x.parts_.length<=140737488355328:=hx.parts_.1
 obtain ⟨hle_k0,hj_k0⟩:=hinv
 refine LenG.of (cB (fun hg12=>?_) (fun hg12=>?_))
 ·have hlt12:k0 < x.parts_.length:=Int.ofNat_lt.1 (of_decide_eq_true hg12)
  refine LenG.of (cB (fun hc18=>?_) (fun hc18=>?_))
  ·have hlt18:k0 < y.parts_.length:=Int.ofNat_lt.1 (of_decide_eq_true hc18)
   refine IdxG.of (by assumption) (IdxG.of (by assumption) ?_)
   refine ArgG.mk (Hg (x.parts_[k0]) (hx.parts_.2 _ (Ze _)) (y.parts_[k0]) (hy.parts_.2 _ (Ze _)) (ih _ (Ze _))) rfl ?_
   rintro _ ⟨v0,rfl,hv0⟩
   refine ⟨by kernel_rfl,?_⟩
   refine cB (fun hc33=>?_) (fun hc33=>?_)
   ·have hq33:¬ ((v0:Int)=(0:Int)):=by simpa using hc33
    refine rV Tryz.results356 rfl ?_
    (refine ⟨_,rfl,fun h=>?_⟩; exfalso; simp_all; done)
   have hq33:(v0:Int)=(0:Int):=by simpa using hc33
   refine IdxG.of (by assumption) (IdxG.of (by assumption) ?_)
   refine ⟨by kernel_rfl,?_⟩
   refine cB (fun hc47=>?_) (fun hc47=>?_)
   ·have hq47:¬ ((x.parts_[k0].coef_:Int)=(y.parts_[k0].coef_:Int)):=by simpa using hc47
    refine IdxG.of (by assumption) (IdxG.of (by assumption) ?_)
    refine ArgG.mk (ik (x.parts_[k0].coef_) (y.parts_[k0].coef_)) rfl ?_
    rintro _ ⟨i1,rfl,hi1⟩
    refine ⟨by kernel_rfl,?_⟩
    refine rV Tryz.results356 rfl ?_
    (refine ⟨_,rfl,fun h=>?_⟩; exfalso; simp_all; done)
   have hq47:(x.parts_[k0].coef_:Int)=(y.parts_[k0].coef_:Int):=by simpa using hc47
   refine ⟨by omega,?_⟩
   refine ⟨(k0+1),by omega,(cO (.cons rfl rfl (.cons rfl rfl (.cons rfl rfl .nil))) (.cons rfl rfl rfl (.cons rfl rfl rfl .nil))),?_⟩
   refine ⟨by omega,fun j hl h=>?_⟩
   rcases Nat.lt_succ_iff_lt_or_eq.1 h with h | rfl
   ·exact hj_k0 j hl h
   intro h2; exact P7 (hv0 (by simpa using hc33)) (by simpa using hc47)
  have hge18:¬ k0 < y.parts_.length:=fun h=>of_decide_eq_false hc18 (Int.ofNat_lt.2 h)
  refine LenG.of (LenG.of ?_)
  refine cB (fun hc67=>?_) (fun hc67=>?_)
  ·have hq67:¬ (((x.parts_.length:Nat):Int)=((y.parts_.length:Nat):Int)):=by simpa using hc67
   refine LenG.of (LenG.of ?_)
   refine ArgG.mk (ik ((x.parts_.length:Nat):Int) ((y.parts_.length:Nat):Int)) rfl ?_
   rintro _ ⟨i2,rfl,hi2⟩
   refine rV Tryz.results356 rfl ?_
   (refine ⟨_,rfl,fun h=>?_⟩; exfalso; simp_all; done)
  have hq67:((x.parts_.length:Nat):Int)=((y.parts_.length:Nat):Int):=by simpa using hc67
  refine ArgG.mk (ik x.const_ y.const_) rfl ?_
  rintro _ ⟨i3,rfl,hi3⟩
  refine rV Tryz.results356 rfl ?_
  (refine ⟨_,rfl,fun h=>?_⟩; exfalso; simp_all; done)
 have hge12:¬ k0 < x.parts_.length:=fun h=>of_decide_eq_false hg12 (Int.ofNat_lt.2 h)
 refine cF (LenG.of ?_)
 refine LenG.of (cB (fun hc67=>?_) (fun hc67=>?_))
 ·have hq67:¬ (((x.parts_.length:Nat):Int)=((y.parts_.length:Nat):Int)):=by simpa using hc67
  refine LenG.of (LenG.of ?_)
  refine ArgG.mk (ik ((x.parts_.length:Nat):Int) ((y.parts_.length:Nat):Int)) rfl ?_
  rintro _ ⟨i4,rfl,hi4⟩
  refine rV Tryz.results356 rfl ?_
  (refine ⟨_,rfl,fun h=>?_⟩; exfalso; simp_all; done)
 have hq67:((x.parts_.length:Nat):Int)=((y.parts_.length:Nat):Int):=by simpa using hc67
 refine ArgG.mk (ik x.const_ y.const_) rfl ?_
 rintro _ ⟨i5,rfl,hi5⟩
 refine rV Tryz.results356 rfl ?_
 (refine ⟨_,rfl,fun h=>Lf (by simp_all; omega) (by omega) hj_k0 (by simp_all)⟩)
theorem Jf (r:List AV) (hr:IsTm r):∀ s,IsTm s->PRet Tryz.prog 356 [.agg (rwA r),.agg (rwA s)] (fun q=>∃ v:Int,q=.v (.int .i64 v)/\(v=0->r=s)):=IsTm.ind (M:=fun r=>∀ s,IsTm s->PRet Tryz.prog 356 [.agg (rwA r),.agg (rwA s)] (fun q=>∃ v:Int,q=.v (.int .i64 v)/\(v=0->r=s))) (fun x hx ih s hs=>by obtain ⟨y,rfl,hy⟩:=hs.open_; exact Je x hx y hy ih) hr
theorem P6 (p:GPart) (hp:FitPart p) (q:GPart) (hq:FitPart q):PRet Tryz.prog 318 [.agg (ptA p),.agg (ptA q)] (fun r=>∃ v:Int,r=.v (.int .i64 v)/\(v=0->Eu p q)):=Hg p hp q hq (fun r hr=>Jf r (hp.of_.2 r hr))
theorem ec:RowF ptA 5:=⟨fun _=>rfl,fun _=>rfl,fun _ _=>rfl,fun _ _=>rfl,fun _ _=>rfl,fun _=>rfl⟩
/-- The value of a part without its coefficient. -/
def qs (ρ:Int->Int->Int) (p:GPart):Int:=if p.kind_=2 then (ofL ρ p.of_).fdiv p.by_ else ρ p.kind_ p.var_
def vn (ρ:Int->Int->Int) (p:GPart):Int:=p.coef_ * qs ρ p
def fo (ρ:Int->Int->Int):List GPart->Int
 | []=>0
 | p :: l=>vn ρ p+fo ρ l
theorem Dd (l:List (List AV)):l.map rwA=l:=List.map_id l
theorem Hb (ρ:Int->Int->Int):∀ l:List GPart,psL ρ (l.map ptA)=fo ρ l
 | []=>by simp only [List.map_nil,psL,fo]
 | p :: l=>by simp only [List.map_cons,psL,fo,Hb ρ l,ptA,ptL,vn,qs,Dd]
theorem iz (ρ:Int->Int->Int) (x:GTm):tvL ρ (tmA x)=x.const_+fo ρ x.parts_:=by simp only [tmA,tvL,Hb]
theorem m6 (ρ:Int->Int->Int):∀ a b:List GPart,fo ρ (a++b)=fo ρ a+fo ρ b
 | [],b=>by simp [fo]
 | p :: a,b=>by simp only [List.cons_append,fo,m6 ρ a b]; omega
theorem jj (ρ:Int->Int->Int) {l:List GPart} {k:Nat} (h:k < l.length):fo ρ (l.take (k+1))=fo ρ (l.take k)+vn ρ l[k]:=by
 rw [List.take_succ_eq_append_getElem h,m6]; simp [fo]
theorem Eu.val {p q:GPart} (h:Eu p q) (ρ:Int->Int->Int):qs ρ p=qs ρ q:=by
 obtain ⟨h1,h2,h3,h4⟩:=h
 unfold qs; rw [h1,h2,h3,h4]
structure KI where
 k:Nat
 L:List GPart
 put:Bool
/-- Where an insertion ju after some parts. -/
structure InsI (l:List GPart) (p:GPart) (M N:Int) (s:KI):Prop where
 len:s.L.length<=s.k+(if s.put=true then 1 else 0)
 fit:∀ q∈s.L,FitPart q
 cf:∀ q∈s.L,-(M+N)<=q.coef_/\q.coef_<=M+N
 val:∀ ρ,fo ρ s.L=fo ρ (l.take s.k)+(if s.put=true then vn ρ p else 0)
theorem fa {α:Type} {P:α->Prop} {l:List α} {a:α} (h:∀ q∈l,P q) (ha:P a):∀ q∈l++[a],P q:=fun q hq=>(Zk.1 hq).elim (h q) (fun hq=>by rw [Zj.1 hq]; exact ha)
theorem ins0 (l:List GPart) (p:GPart) (M N:Int):InsI l p M N ⟨0,[],false⟩:=⟨by simp,by simp,by simp,fun ρ=>by simp [fo]⟩
section
variable {l:List GPart} {p:GPart} {M N:Int} {s:KI}
theorem Bj (h:InsI l p M N s) (hk:s.k < l.length) (hf:FitPart l[s.k]) (hc:-(M+N)<=l[s.k].coef_/\l[s.k].coef_<=M+N):InsI l p M N ⟨s.k+1,s.L++[l[s.k]],s.put⟩ :=
 ⟨by have:=h.len; simp only [Zi,List.length_singleton]; omega,fa h.fit hf,fa h.cf hc,fun ρ=>by show fo ρ (s.L++[l[s.k]])=fo ρ (l.take (s.k+1))+_; rw [m6,jj ρ hk,h.val ρ]; simp only [fo]; omega⟩
theorem Oe (h:InsI l p M N s) (hp:s.put=false) (hf:FitPart p) (hc:-(M+N)<=p.coef_/\p.coef_<=M+N):InsI l p M N ⟨s.k,s.L++[p],true⟩ :=
 ⟨by have:=h.len; rw [hp] at this; simp only [Zi,List.length_singleton,Bool.false_eq_true,if_false,if_true] at this ⊢; omega,fa h.fit hf,fa h.cf hc,fun ρ=>by have:=h.val ρ; rw [hp] at this; show fo ρ (s.L++[p])=fo ρ (l.take s.k)+vn ρ p; rw [m6,this]; simp [fo]⟩
theorem Qx (h:InsI l p M N s) (hp:s.put=false) (hk:s.k < l.length) (he:Eu l[s.k] p) (hf:FitPart l[s.k]) (hc:-(M+N)<=l[s.k].coef_+p.coef_/\l[s.k].coef_+p.coef_<=M+N):InsI l p M N ⟨s.k+1,s.L++[{ l[s.k] with coef_:=l[s.k].coef_+p.coef_ }],true⟩ :=
 ⟨by have:=h.len; rw [hp] at this; simp only [Zi,List.length_singleton,Bool.false_eq_true,if_false,if_true] at this ⊢; omega,fa h.fit ⟨hf.of_,hf.one,hf.dv,hf.bd⟩,fa h.cf hc,fun ρ=>by
  have:=h.val ρ
  rw [hp] at this
  show fo ρ (s.L++[_])=fo ρ (l.take (s.k+1))+vn ρ p
  rw [m6,jj ρ hk,this]
  have e:=he.val ρ
  have e2:qs ρ { l[s.k] with coef_:=l[s.k].coef_+p.coef_ }=qs ρ l[s.k]:=rfl
  simp only [fo,vn,e2,e,Int.add_mul]
  simp only [Bool.false_eq_true,if_false]
  omega⟩
theorem Qy (h:InsI l p M N s) (hp:s.put=false) (hk:s.k < l.length) (he:Eu l[s.k] p) (hz:l[s.k].coef_+p.coef_=0):InsI l p M N ⟨s.k+1,s.L,true⟩ :=
 ⟨by have:=h.len; rw [hp] at this; simp only [Bool.false_eq_true,if_false,if_true] at this ⊢; omega,h.fit,h.cf,fun ρ=>by
  have:=h.val ρ
  rw [hp] at this
  show fo ρ s.L=fo ρ (l.take (s.k+1))+vn ρ p
  rw [jj ρ hk,this]
  have e:=he.val ρ
  have e3:l[s.k].coef_ * qs ρ p+p.coef_ * qs ρ p=0:=by rw [<- Int.add_mul,hz,Int.zero_mul]
  simp only [vn,e,Bool.false_eq_true,if_false]
  omega⟩
theorem Ib (h:InsI l p M N s) (hl:l.length<=500000) (hge:¬ s.k < l.length) (hle:s.k<=l.length) (hp:s.put=true):bw s.L (fun y=>FitPart y)/\s.L.length<=l.length+1/\(∀ q∈s.L,-(M+N)<=q.coef_/\q.coef_<=M+N)/\∀ ρ,fo ρ s.L=fo ρ l+vn ρ p:=by
 have h1:=h.len
 rw [hp] at h1
 simp only [if_true] at h1
 refine ⟨⟨by omega,h.fit⟩,by omega,h.cf,fun ρ=>?_⟩
 have:=h.val ρ
 rw [hp,List.take_of_length_le (by omega)] at this
 simpa using this
end
theorem Bw:(Tryz.prog.info? 177).map (·.bytes)=some 56:=by kernel_rfl
theorem y4:aa Tryz.prog 177=some 5:=by kernel_rfl
theorem yn:ax Tryz.prog 177=some (.agg #[.int .i64 0,.int .i64 0,.int .i64 0,.int .i64 0,.slice none 0 0]):=by kernel_rfl
theorem Ma (l:List GPart) (hl:bw l (fun y=>FitPart y)) (p:GPart) (hp:FitPart p) (M N:Int) (hM:0<=M/\M<=1152921504606846976) (hN:0<=N/\N<=1152921504606846976) (hl2:l.length<=500000) (hc:∀ q∈l,-M<=q.coef_/\q.coef_<=M) (hp2:-N<=p.coef_/\p.coef_<=N):PRet Tryz.prog 284 [.tree 5 (l.map ptA),.agg (ptA p)] (fun r=>∃ L:List GPart,r=.tree 5 (L.map ptA)/\bw L (fun y=>FitPart y)/\L.length<=l.length+1/\(∀ q∈L,-(M+N)<=q.coef_/\q.coef_<=M+N)/\∀ ρ,fo ρ L=fo ρ l+vn ρ p):=by
 refine PRet.of_vc ao [] [] Tryz.func284 rfl Tryz.ntmps284 rfl (by kernel_rfl) (LpG.via (fun _ h=>bq 5 5 rfl 2 rfl h) ?_)
 refine LpG.on (fun k0:KI=>(⟨fL [(0,.tree 5 (l.map ptA)),(3,.ptr 0 0 0),(5,.sl 1 k0.L.length 0 k0.L.length),(6,.v (.bool k0.put)),(7,.v (.int .i64 ((k0.k:Nat):Int)))],bl [(0,⟨0,ptA p,0,false⟩),(1,⟨k0.L.length,rF ptA k0.L,5,Nat.beq k0.L.length 0⟩)],2⟩:St)) (fun k0=>(l.length - k0.k)) (fun k0=>(k0.k<=l.length/\InsI l p M N k0)) (⟨0,[],false⟩:KI) (cO (.cons rfl rfl (.cons rfl rfl (.cons (by rfl) rfl (.cons rfl rfl (.cons rfl rfl .nil))))) (.cons rfl rfl rfl (.cons (by rfl) rfl (ag ec _ _) .nil))) ⟨Nat.zero_le _,ins0 l p M N⟩ ?_
 rintro k0 hinv
 have hgr_k0:l.length<=140737488355328:=hl.1
 obtain ⟨hle_k0,hi_k0⟩:=hinv
 refine LenG.of (cL (fun hlt13=>?_) (fun hge13=>?_))
 ·have hfk:=hl.2 _ (Ze hlt13)
  have hck:=hc _ (Ze hlt13)
  have hcw:-(M+N)<=l[k0.k].coef_/\l[k0.k].coef_<=M+N:=by omega
  have hll:k0.L.length<=k0.k+1:=by have:=hi_k0.len; split at this <;> omega
  refine cB (fun hc17=>?_) (fun hc17=>?_)
  ·refine IdxG.of (by assumption) (ArgG.mk (P6 (l[k0.k]) (hl.2 _ (Ze _)) p hp) rfl ?_)
   rintro _ ⟨v0,rfl,hv0⟩
   refine ⟨by kernel_rfl,cE (fun hq25=>?_) (fun hq25=>?_)⟩
   refine IdxG.of (by assumption) ⟨by omega,cB (fun hc38=>?_) (fun hc38=>?_)⟩
   ·refine OpG.mk _ _ _ 4 (aj ec (a:=({ l[k0.k] with coef_:=l[k0.k].coef_+p.coef_ }:GPart)) Tryz.underlying130 y4 yn Bw rfl rfl rfl (az rfl rfl rfl rfl) rfl (by omega) (by omega) (by unfold TV; omega)) rfl rfl ⟨by omega,⟨(⟨k0.k+1,k0.L++[({ l[k0.k] with coef_:=l[k0.k].coef_+p.coef_ }:GPart)],true⟩:KI),(by show l.length - (k0.k+1) < l.length - k0.k; omega),(cO (.cons rfl rfl (.cons rfl rfl (.cons (by (rw [Zi]; rfl)) rfl (.cons rfl rfl (.cons rfl rfl .nil))))) (.cons rfl rfl rfl (.cons (by (rw [Zi]; rfl)) rfl (ag ec _ _) .nil))),?_⟩⟩
    exact ⟨by show k0.k+1<=_; omega,Qx hi_k0 (by simpa using hc17) hlt13 (hv0 hq25) hfk (by omega)⟩
   ·refine ⟨by omega,⟨(⟨k0.k+1,k0.L,true⟩:KI),(by show l.length - (k0.k+1) < l.length - k0.k; omega),(cO (.cons rfl rfl (.cons rfl rfl (.cons (by rfl) rfl (.cons rfl rfl (.cons rfl rfl .nil))))) (.cons rfl rfl rfl (.cons (by rfl) rfl (ag ec _ _) .nil))),?_⟩⟩
    exact ⟨by show k0.k+1<=_; omega,Qy hi_k0 (by simpa using hc17) hlt13 (hv0 hq25) (by simpa using hc38)⟩
   refine cD (fun hq44=>?_) (fun hq44=>?_)
   ·refine OpG.mk _ _ _ 3 (aj ec (a:=p) Tryz.underlying130 y4 yn Bw rfl rfl rfl (az rfl rfl rfl rfl) rfl (by omega) (by omega) (by unfold TV; omega)) rfl rfl (IdxG.of (by assumption) ?_)
    refine OpG.mk _ _ _ 4 (aj ec (a:=(l[k0.k])) Tryz.underlying130 y4 yn Bw rfl rfl rfl (az rfl rfl rfl rfl) rfl (by (simp only [Zi,List.length_cons,List.length_nil]; omega)) (by (simp only [Zi,List.length_cons,List.length_nil]; omega)) (by unfold TV; omega)) rfl rfl ⟨by omega,⟨(⟨k0.k+1,k0.L++[p]++[(l[k0.k])],true⟩:KI),(by show l.length - (k0.k+1) < l.length - k0.k; omega),(cO (.cons rfl rfl (.cons rfl rfl (.cons (by (rw [Zi,Zi,Zi]; rfl)) rfl (.cons rfl rfl (.cons rfl rfl .nil))))) (.cons rfl rfl rfl (.cons (by (rw [Zi,Zi,Zi]; rfl)) rfl (ag ec _ _) .nil))),?_⟩⟩
    exact ⟨by show k0.k+1<=_; omega,Bj (Oe hi_k0 (by simpa using hc17) hp (by omega)) hlt13 hfk hcw⟩
   refine IdxG.of (by assumption) (OpG.mk _ _ _ 3 (aj ec (a:=(l[k0.k])) Tryz.underlying130 y4 yn Bw rfl rfl rfl (az rfl rfl rfl rfl) rfl (by omega) (by omega) (by unfold TV; omega)) rfl rfl ?_)
   refine ⟨by omega,⟨(⟨k0.k+1,k0.L++[(l[k0.k])],k0.put⟩:KI),(by show l.length - (k0.k+1) < l.length - k0.k; omega),(cO (.cons rfl rfl (.cons rfl rfl (.cons (by (rw [Zi]; rfl)) rfl (.cons rfl rfl (.cons rfl rfl .nil))))) (.cons rfl rfl rfl (.cons (by (rw [Zi]; rfl)) rfl (ag ec _ _) .nil))),?_⟩⟩
   exact ⟨by show k0.k+1<=_; omega,Bj hi_k0 hlt13 hfk hcw⟩
  refine cF (cF ?_)
  refine IdxG.of (by assumption) (OpG.mk _ _ _ 3 (aj ec (a:=(l[k0.k])) Tryz.underlying130 y4 yn Bw rfl rfl rfl (az rfl rfl rfl rfl) rfl (by omega) (by omega) (by unfold TV; omega)) rfl rfl ?_)
  refine ⟨by omega,⟨(⟨k0.k+1,k0.L++[(l[k0.k])],k0.put⟩:KI),(by show l.length - (k0.k+1) < l.length - k0.k; omega),(cO (.cons rfl rfl (.cons rfl rfl (.cons (by (rw [Zi]; rfl)) rfl (.cons rfl rfl (.cons rfl rfl .nil))))) (.cons rfl rfl rfl (.cons (by (rw [Zi]; rfl)) rfl (ag ec _ _) .nil))),?_⟩⟩
  exact ⟨by show k0.k+1<=_; omega,Bj hi_k0 hlt13 hfk hcw⟩
 have hll:k0.L.length<=k0.k+1:=by have:=hi_k0.len; split at this <;> omega
 refine cB (fun hc57=>?_) (fun hc57=>?_)
 ·exact OpG.mk _ _ _ 3 (aj ec (a:=p) Tryz.underlying130 y4 yn Bw rfl rfl rfl (az rfl rfl rfl rfl) rfl (by omega) (by omega) (by unfold TV; omega)) rfl rfl ⟨.inr rfl,_,Kh.tmp Tryz.results284 ⟨[1],FzP.rows ec (Zj.2 rfl) rfl⟩,⟨_,rfl,Ib (Oe hi_k0 (by simpa using hc57) hp (by omega)) hl2 hge13 hle_k0 rfl⟩⟩
 exact ⟨.inr rfl,_,Kh.tmp Tryz.results284 ⟨[1],FzP.rows ec (Zj.2 rfl) rfl⟩,⟨_,rfl,Ib hi_k0 hl2 hge13 hle_k0 (by simpa using hc57)⟩⟩
end Go.Proofs.YthpangmpihkniaaGreatDoor
