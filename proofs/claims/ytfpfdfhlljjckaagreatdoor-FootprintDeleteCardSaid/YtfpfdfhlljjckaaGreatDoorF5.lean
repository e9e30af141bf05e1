/- Texts of the claim. -/
import Derived.Test.YtfpfdfhlljjckaaGreatDoorF4
import Derived.Test.YtfpfdfhlljjckaaGreatDoorQ2
import Derived.Test.YtfpfdfhlljjckaaGreatDoorF2
set_option linter.defProp false
namespace Go.Proofs.YtfpfdfhlljjckaaGreatDoor
open Tryz
set_option maxRecDepth 1000000
set_option maxHeartbeats 0
set_option linter.unusedVariables false
set_option linter.unusedSimpArgs false
open Go.RowKit
variable{b ng pos:Bool}{s:ByteArray}{a:GAt}{x:GEx}{f:GFm}{q t:GTm}{c e k kd m n op v:Int}{p:Int->Bool}{r r0 r1 y:List AV}{L:List GFm}{vs:List Int}{fp:List Nat}{l:List PVar}{d j:Nat}{o:Option Pt}{α:Type}
def aw:RowF fmA 11:=⟨fun _=>rfl,fun _=>rfl,fun _ _=>rfl,fun _ _=>rfl,fun _ _=>rfl,fun _=>rfl⟩
def je{η:bo}{ak av ao tc tv tk:Int} :FzP fp η (.agg [vI k,vI ak,vI av,vI ao,vI tc,.v (.slice none 0 0),vI tv,vI tk,vB ng,.v (.string s),.v (.slice none 0 0)]) (.agg (fmA ⟨k,⟨ak,av,ao,⟨tc,[]⟩,⟨tv,tk,ng,s⟩⟩,[]⟩)):=
 FzP.aggL (.cons (.pure rfl) (.cons (.pure rfl) (.cons (.pure rfl) (.cons (.pure rfl) (.cons (.pure rfl) (.cons (FzP.nil (n:=5)) (.cons (.pure rfl) (.cons (.pure rfl) (.cons (.pure rfl) (.cons (.pure rfl) (.cons (FzP.nil (n:=11)) .nil)))))))))))
def Fu{η:bo} :FzP fp η (.agg (vI k::(atA a++[.v (.slice none 0 0)]))) (.agg (fmA ⟨k,a,[]⟩)):=
 FzP.aggL (.cons (.pure rfl) (.cons (.pure rfl) (.cons (.pure rfl) (.cons (.pure rfl) (.cons (.pure rfl) (.cons (.pure rfl) (.cons (.pure rfl) (.cons (.pure rfl) (.cons (.pure rfl) (.cons (.pure rfl) (.cons (FzP.nil (n:=11)) .nil)))))))))))
def wu{η:bo}{rs:List (List AV)}(hp:cj (.tree 11 (rs.map rwA)::[])=true):FzP fp η (.agg [vI k,vI 0,vI 0,vI 0,vI 0,.v (.slice none 0 0),vI 0,vI 0,vB false,.v (.string ⟨#[]⟩),.tree 11 (rs.map rwA)]) (.agg (fmA ⟨k,zAt,rs⟩)):=
 FzP.aggL (.cons (.pure rfl) (.cons (.pure rfl) (.cons (.pure rfl) (.cons (.pure rfl) (.cons (.pure rfl) (.cons (FzP.nil (n:=5)) (.cons (.pure rfl) (.cons (.pure rfl) (.cons (.pure rfl) (.cons (.pure rfl) (.cons (.pure rfl) .nil)))))))))))
def xy{η:bo} :FzP fp η (.agg [vI k,vI v,vI 0,vI 0,.v (.slice none 0 0),vI 0,vI 0,vB false,.v (.string ⟨#[]⟩)]) (.agg (atA (vAt k v))):=
 FzP.aggL (.cons (.pure rfl) (.cons (.pure rfl) (.cons (.pure rfl) (.cons (.pure rfl) (.cons (FzP.nil (n:=5)) (.cons (.pure rfl) (.cons (.pure rfl) (.cons (.pure rfl) (.cons (.pure rfl) .nil)))))))))
theorem Z1{l:List (List AV)}(h:l.length=1):lsF k l=l[0]'(by omega):=by obtain⟨r,rfl⟩:=a01.1 h;rfl
def jp(k:Int)(vs:List Int):List GFm:=vs.map fun v=>atF (vAt k v)
theorem mw(k:Int)(vs:List Int):(jp k vs).map fmA=w6 k vs:=by unfold jp w6;rw[List.map_map];rfl
def afk:ca prog 141=true:=by kernel_rfl
def asn:ca prog 181=true:=by kernel_rfl
def Fe:(prog.info? 69).map (·.bytes)=some 128:=by kernel_rfl
def Ov:ff prog 64=some (some 4):=by kernel_rfl
def cw:ff prog 69=some (some 11):=by kernel_rfl
def Ct:am prog 69=some 11:=by kernel_rfl
def Ca:bv prog 69=some (.agg #[.int .i64 0,.int .i64 0,.int .i64 0,.int .i64 0,.int .i64 0,.slice none 0 0,.int .i64 0,.int .i64 0,.bool false,.string ⟨#[]⟩,.slice none 0 0]):=by kernel_rfl
def sr(b:Bool):PRet prog 182 [vB b] (fun q=>q=.agg (fmA (cnF b))):=by refine ovT [] [] func182 rfl rfl (cB (fun h0=>?_) (fun h0=>?_));refine rtK rfl cw rfl ⟨[],je⟩ ?_;rw[show b=_ from h0];rfl;refine rtK rfl cw rfl ⟨[],je⟩ ?_;rw[show b=_ from h0];rfl
def wn(a:GAt)(ha:FitAt a):PRet prog 141 [.agg (atA a)] (fun q=>q=.agg (fmA (atF a))):=ovT [] [] func141 rfl rfl (rtK rfl cw rfl ⟨[],Fu⟩ rfl)
def acp(m:Int):PRet prog 186 [vI m] (fun q=>q=vB (i8 m)):=ovT [] [] func186 rfl rfl (cE (fun h0=>rV rfl rfl (congrArg vB (by unfold i8;simp_all))) (fun h0=>rV rfl rfl (congrArg vB (by unfold i8;simp_all))))
def pd(m:Int):PRet prog 179 [vI m] (fun q=>q=vB (pe m)):=ovT [] [] func179 rfl rfl (cE (fun h0=>rV rfl rfl (congrArg vB (by unfold pe;simp_all))) (fun h0=>rV rfl rfl (congrArg vB (by unfold pe;simp_all))))
def anb(n:Int):PRet prog 305 [vI n] (fun q=>q=vI (Fy n)):=ovT [] [] func305 rfl rfl (cD (fun h0=>rV rfl rfl (congrArg vI (by unfold Fy;rw[a0d (by omega)]))) (fun h0=>cD (fun h1=>rV rfl rfl (congrArg vI (by unfold Fy;rw[a0c (by omega),a0d (by omega)]))) (fun h1=>rV rfl rfl (congrArg vI (by unfold Fy;rw[a0c (by omega),a0c (by omega)])))))
def Oz(op:Int)(ho:10<=op/\op<=15):PRet prog 251 [vI op] (fun q=>q=vI (s7 op)):=ovT [] [] func251 rfl rfl (cE (fun h2=>rV rfl rfl (congrArg vI (by unfold s7;simp_all))) (fun h2=>cE (fun h3=>rV rfl rfl (congrArg vI (by unfold s7;simp_all))) (fun h3=>cE (fun h4=>rV rfl rfl (congrArg vI (by unfold s7;simp_all))) (fun h4=>cE (fun h0=>rV rfl rfl (congrArg vI (by unfold s7;simp_all))) (fun h0=>cE (fun h1=>rV rfl rfl (congrArg vI (by unfold s7;simp_all))) (fun h1=>rV rfl rfl (congrArg vI (by unfold s7;simp_all))))))))
def Cx(op:Int):PRet prog 301 [vI op] (fun q=>q=vI (yo op)):=ovT [] [] func301 rfl rfl (cE (fun h1=>rV rfl rfl (congrArg vI (by unfold yo;simp_all))) (fun h1=>cE (fun h2=>rV rfl rfl (congrArg vI (by unfold yo;simp_all))) (fun h2=>cE (fun h3=>rV rfl rfl (congrArg vI (by unfold yo;simp_all))) (fun h3=>cE (fun h0=>rV rfl rfl (congrArg vI (by unfold yo;simp_all))) (fun h0=>rV rfl rfl (congrArg vI (by unfold yo;simp_all)))))))
def ss(op:Int)(c:Int):PRet prog 300 [vI op,vI c] (fun q=>q=vB (og op c)):=ovT [] [] func300 rfl rfl (cE (fun h4=>rV rfl rfl (congrArg vB (by unfold og;simp_all))) (fun h4=>cE (fun h0=>rV rfl rfl (congrArg vB (by unfold og;simp_all))) (fun h0=>cE (fun h1=>rV rfl rfl (congrArg vB (by unfold og;simp_all))) (fun h1=>cE (fun h2=>rV rfl rfl (congrArg vB (by unfold og;simp_all))) (fun h2=>cE (fun h3=>rV rfl rfl (congrArg vB (by unfold og;simp_all))) (fun h3=>rV rfl rfl (congrArg vB (by unfold og;simp_all))))))))
def Lu(op:Int)(s:ByteArray)(hs:j3 s):PRet prog 302 [vI op,.v (.string s)] (fun q=>q=.agg (teA (qt op s))):=by refine ovT [] [] func302 rfl rfl (cE (fun h0=>?_) (fun h0=>?_));refine rtK rfl Ov rfl ⟨[],FzP.pure rfl⟩ ?_;unfold qt;simp_all;apply cE<;>intro hq10;refine rtK rfl Ov rfl ⟨[],FzP.pure rfl⟩ ?_;unfold qt;simp_all;apply cE<;>intro hq14;refine rtK rfl Ov rfl ⟨[],FzP.pure rfl⟩ ?_;unfold qt;simp_all;apply cE<;>intro hq18;refine rtK rfl Ov rfl ⟨[],FzP.pure rfl⟩ ?_;unfold qt;simp_all;apply cE<;>intro hq22;refine rtK rfl Ov rfl ⟨[],FzP.pure rfl⟩ ?_;unfold qt;simp_all;refine rtK rfl Ov rfl ⟨[],FzP.pure rfl⟩ ?_;unfold qt;simp_all
def apt(kd:Int)(l:List (List AV))(hl:bn l (fun y=>IsFm y))(h1:cj [.tree 11 (l.map rwA)]=true):PRet prog 183 [vI kd,.tree 11 (l.map rwA)] (fun q=>q=.agg (rwA (lsF kd l))):=by refine ovT [] [] func183 rfl rfl (LenG.of ?_);apply cE<;>intro hq7;obtain⟨y,h0,hy⟩:=(hl.2 (l[0]'(by omega)) (az4 _)).open_;refine cz (j:=0) (by omega) h0 (rtK rfl cw rfl ⟨[],FzP.pure rfl⟩ ?_);rw[Z1 (by omega),h0];exact rtK rfl cw rfl ⟨[],wu h1⟩ (congrArg AV.agg (yb (by omega)).symm)
def aic(kd:Int)(vs:List Int)(h4:bn vs (fun y=>True))(hvl:vs.length<=1099511627776):Cm prog 184 [vI kd,.tree 1 (vs.map iA)] [] (fun q hb'=>q=.sl 0 vs.length 0 vs.length/\hb'=[(0,some ⟨vs.length,rF fmA (jp kd vs),11,Nat.beq vs.length 0⟩)]):=by refine Cm.of_vc s9 [18] [] func184 rfl ntmps184 rfl (by kernel_rfl) (LenG.of ?_);refine LpG.via (fun _ h=>bu 5 11 rfl 1 rfl h) (LpG.on (fun k0:KL GFm=>(⟨fL [(0,vI kd),(5,.sl 0 k0.L.length 0 k0.L.length),(8,.tree 1 (vs.map iA)),(9,vI vs.length),(10,vI k0.k)],hLz [(0,⟨k0.L.length,rF fmA k0.L,11,Nat.beq k0.L.length 0⟩)],1⟩:St)) (fun k0=>(vs.length-k0.k)) (fun k0=>(k0.k<=vs.length/\(k0.L=jp kd (vs.take k0.k)/\k0.L.length=k0.k))) (⟨0,[]⟩:KL GFm) (cnS (by rfl) (hpS (aa aw _ _) (by rfl) trivial)) ⟨a0h _,⟨rfl,rfl⟩⟩ ?_);rintro k0 h2;have hgr_k0:vs.length<=140737488355328:=h4.1;obtain⟨hle_k0,h0⟩:=h2;apply cL<;>intro h1;have hl2:=h0.2;refine IdxG.of ‹_› ?_;obtain⟨_,rfl,h3⟩:=wn (vAt kd vs[k0.k]) q9;refine OpG.lk (di afk (.cons xy .nil) h3) (OpG.mk _ _ _ 2 (ae aw (a:=(atF (vAt kd vs[k0.k]))) underlying67 Ct Ca Fe rfl rfl rfl (ap rfl rfl rfl rfl) rfl (by omega) (by omega) (by unfold TV;omega)) rfl rfl ?_);refine⟨by omega,⟨(⟨k0.k+1,k0.L++[(atF (vAt kd vs[k0.k]))]⟩:KL GFm),(nsA ‹_›),(cO (.cons rfl rfl (.cons (by(rw[az8];rfl)) rfl (.cons rfl rfl (.cons rfl rfl (.cons rfl rfl .nil))))) (.cons (by(rw[az8];rfl)) rfl (aa aw _ _) .nil)),?_⟩⟩;exact⟨‹_›,⟨by show _++[_]=_;rw[h0.1,a0g h1];unfold jp;rw[a0u];rfl,by show(_++[_]).length=_;rw[az8,h0.2];rfl⟩⟩;refine⟨.inr rfl,_,_,P5.of (hb':=[(0,some ⟨k0.L.length,rF fmA k0.L,11,Nat.beq k0.L.length 0⟩)]) [] (cq rfl (.cons (az0.tmp rfl) .nil)) rfl ⟨.same rfl (by decide),trivial⟩ .same,?_⟩;have e:=h0.1;rw[a0x (by omega)]at e;have el:k0.L.length=vs.length:=(by rw[e];simp[jp]);exact⟨by rw[<-el];rfl,by rw[<-el,<-e]⟩
def Mr(kd:Int)(vs:List Int)(h0:bn vs (fun _=>True))(h1:vs.length<=1099511627776):j6 prog 184 [vI kd,.tree 1 (vs.map iA)] [] [(0,some ⟨0,rF fmA (jp kd vs),11,Nat.beq (jp kd vs).length 0⟩)] (.sl 0 0 0 (jp kd vs).length):=by obtain⟨_,_,⟨rfl,rfl⟩,h⟩:=aic kd vs h0 h1;have e:(jp kd vs).length=vs.length:=(by simp[jp]);rw[e];refine xx (zs:=[]) (by rw[List.append_nil];exact h) (by decide) (fun hb=>⟨?_,rfl⟩) (Ao aw _);rw[a0y (az6 hb)];rfl
def aae(l:List (List AV))(hl:bn l (fun y=>IsEx y))(ih:∀r∈l,PRet prog 181 [.agg (rwA r)] (fun q=>∃b:Bool,q=vB b/\(b=true↔HasN r))):PRet prog 247 [.tree 8 (l.map rwA),.clo 181 []] (fun q=>∃i:Int,q=vI i/\(0<=i↔∃r∈l,HasN r)):=by
 refine ovT [15,16] [] func247 rfl rfl (LenG.of (LpG.on (fun k0:Nat=>(⟨fL [(0,.tree 8 (l.map rwA)),(1,.clo 181 []),(7,vI l.length),(8,vI k0)],hLz [],0⟩:St)) (fun k0=>(l.length-k0)) (fun k0=>(k0<=l.length/\∀j (hl:j<l.length),j<k0->¬HasN l[j])) 0 (cnR rfl) ⟨a0h _,fun j _ h=>absurd h (a0i j)⟩ ?_));rintro k0 h5;have hgr_k0:l.length<=140737488355328:=hl.1
 obtain⟨hle_k0,h1⟩:=h5;apply cL<;>intro h2;obtain⟨_,⟨b16,rfl,h3⟩,h4⟩:=ih l[k0] (az4 _);refine IdxG.of ‹_› (OpG.lk (co oe rfl (jj (hl.2 _ (az4 _)))) (OpG.lk (pw asn rfl rfl (show cj [.agg (rwA l[k0])]=true by simp[cj,AV.pureB,kj (hl.2 _ (az4 h2))]) h4) (cB (fun h0=>rV rfl rfl ⟨_,rfl,fun _=>⟨_,az4 h2,h3.1 h0⟩,fun _=>by omega⟩) (fun h0=>⟨by omega,⟨(k0+1),by omega,(cnR rfl),⟨by omega,fun j hl h=>?_⟩⟩⟩))));rcases a0k.1 h with h|rfl;exact h1 j hl h;exact fun h=>by rw[h3.2 h]at h0;cases h0
 exact rV rfl rfl ⟨_,rfl,fun h=>absurd h (by decide),fun⟨r,hr,h⟩=>by obtain⟨j,hj,rfl⟩:=a0p hr;exact absurd h (h1 j hj (by omega))⟩
def Bp(l:List (List AV))(hl:bn l (fun y=>IsEx y))(ih:∀r∈l,PRet prog 181 [.agg (rwA r)] (fun q=>∃b:Bool,q=vB b/\(b=true↔HasN r))):PRet prog 211 [.tree 8 (l.map rwA),.clo 181 []] (fun q=>∃b:Bool,q=vB b/\(b=true↔∃r∈l,HasN r)):=by refine ovT [] [] func211 rfl rfl (ArgG.mk (aae l hl ih) rfl ?_);rintro _ ⟨i0,rfl,h0⟩;exact rV rfl rfl ⟨_,rfl,by rw[<-h0];simp⟩
def Et(x:GEx)(hx:FitEx x)(ih:∀r∈x.b_,PRet prog 181 [.agg (rwA r)] (fun q=>∃b:Bool,q=vB b/\(b=true↔HasN r))):PRet prog 181 [.agg (exA x)] (fun q=>∃b:Bool,q=vB b/\(b=true↔HasN (exA x))):=by refine ovT [] [] func181 rfl rfl ?_;apply cB<;>intro h3;have h2:=h3;simp at h2;apply cB<;>intro h1;have h0:=h1;simp at h0;exact rV rfl rfl ⟨_,rfl,fun _=>pm.2 (.inl ⟨by assumption,by simpa using‹_›⟩),fun _=>by simp_all⟩;have h0:=h1;simp at h0;refine ArgG.mk (Bp x.b_ hx.b_ ih) rfl ?_;rintro _ ⟨b0,rfl,h4⟩;refine rV rfl rfl ?_;(refine⟨_,rfl,?_⟩;rw[pm,h4];constructor;exact .inr;exact fun h=>h.elim (fun h=>by simp_all) id);have h2:=h3;simp at h2;refine cF (ArgG.mk (Bp x.b_ hx.b_ ih) rfl ?_);rintro _ ⟨b1,rfl,h5⟩;refine rV rfl rfl ?_;(refine⟨_,rfl,?_⟩;rw[pm,h5];constructor;exact .inr;exact fun h=>h.elim (fun h=>by simp_all) id)
def vt(r:List AV)(hr:IsEx r):PRet prog 181 [.agg (rwA r)] (fun q=>∃b:Bool,q=vB b/\(b=true↔HasN r)):=IsEx.ind (M:=fun r=>PRet prog 181 [.agg (rwA r)] (fun q=>∃b:Bool,q=vB b/\(b=true↔HasN r))) (fun x hx ih=>Et x hx ih) hr
structure GPrt where
 kn:Bool
 vl:Bool
 at_:GAt
abbrev Fz(x:GPrt):List AV:=[.v (.bool x.kn),.v (.bool x.vl),.v (.int .i64 x.at_.c_),.v (.int .i64 x.at_.o_),.v (.int .i64 x.at_.v_),.v (.int .i64 x.at_.q_.g_),.tree 5 (x.at_.q_.a_.map ptA),.v (.int .i64 x.at_.w_.v),.v (.int .i64 x.at_.w_.kd),.v (.bool x.at_.w_.ng),.v (.string x.at_.w_.s)]
structure FitPrt(x:GPrt):Prop where
 at_:FitAt x.at_
theorem vu:∀l:List UInt8,Op.bytesLess l l=false
 |[]=>rfl
 |a::l=>by simp[Op.bytesLess,vu l]
theorem Eu:∀{l m:List UInt8},Op.bytesLess l m=false->¬l=m->Op.bytesLess m l=true
 |[],[],_,h=>absurd rfl h
 |[],_::_,h,_=>by simp[Op.bytesLess]at h
 |_::_,[],_,_=>by simp[Op.bytesLess]
 |a::l,b::m,h,hn=>by simp only[Op.bytesLess,Bool.or_eq_false_iff,decide_eq_false_iff_not,Bool.and_eq_false_iff,beq_eq_false_iff_ne]at h;simp only[Op.bytesLess,Bool.or_eq_true,a06,a05,beq_iff_eq];by_cases e:a=b;subst e;right;exact⟨rfl,Eu (h.2.resolve_left (fun h=>h rfl)) (fun e=>hn (by rw[e]))⟩;left;exact Std.lt_of_le_of_ne (Std.not_lt.1 h.1) (fun h=>e h.symm)
def amc{a b:ByteArray}(h:(!(Op.bytesLess a.toList b.toList||a.toList==b.toList))=true):fv b a=true:=by simp only[Bool.not_eq_true',Bool.or_eq_false_iff,beq_eq_false_iff_ne]at h;exact Eu h.1 h.2
def ago{a b:ByteArray}(h0:Op.bytesLess a.toList b.toList=false)(h:(!(Op.bytesLess a.toList b.toList||a.toList==b.toList))=false):fv b a=false:=by grind[fv,vu]
def avl{j1:Nat}(h:TextE l (exA x))(h2:x.op_=2)(hj:x.i_=((j1:Nat):Int))(hl:j1<l.length):l[j1].t=2:=by grind[cr]
def ptG:Pt->GPrt
 |.kn b=>⟨true,b,zAt⟩
 |.pat a=>⟨false,false,a⟩
def ku{η:bo}{k:Bool}{ak av ao tc tv tk:Int} :FzP fp η (.agg [vB k,vB b,vI ak,vI av,vI ao,vI tc,.v (.slice none 0 0),vI tv,vI tk,vB ng,.v (.string s)]) (.agg (Fz ⟨k,b,⟨ak,av,ao,⟨tc,[]⟩,⟨tv,tk,ng,s⟩⟩⟩)):=
 FzP.aggL (.cons (.pure rfl) (.cons (.pure rfl) (.cons (.pure rfl) (.cons (.pure rfl) (.cons (.pure rfl) (.cons (.pure rfl) (.cons (FzP.nil (n:=5)) (.cons (.pure rfl) (.cons (.pure rfl) (.cons (.pure rfl) (.cons (.pure rfl) .nil)))))))))))
def txIs(h:OpE l d (exA x)):(x.op_=2/\∃j,∃h:j<l.length,x.i_=((j:Nat):Int)/\l[j].t=2)\/(x.op_=1/\x.j_.c_=2)->TextE l (exA x):=by intro hc;rcases h with⟨y,e,h1,h2,_⟩|h|⟨h,_⟩;have:=au e;subst this;rcases hc with hc|hc<;>omega;exact h.1;rcases eg h with g|⟨_,_,j,hj,e2,e3⟩|g|g|g;rcases hc with hc|hc<;>omega;rcases hc with⟨_,j',hj',e4,e5⟩|hc;have:j=j':=(by omega);subst this;omega;omega;rcases hc with hc|hc<;>omega;rcases hc with hc|hc<;>omega;rcases hc with hc|hc<;>omega
def Yx(h:TextE l (exA x)):(x.op_=2/\∃j,∃h:j<l.length,x.i_=((j:Nat):Int)/\l[j].t=2)\/(x.op_=1/\x.j_.c_=2):=by obtain⟨_,⟨h1,j,hj,e,g⟩|⟨h1,h2⟩⟩:=cr h;exact .inl ⟨h1,j,hj,e,g⟩;exact .inr ⟨h1,h2⟩
section
variable{op:Int}{x y:GEx}
def avg(h1:x.op_=1)(h2:y.op_=1)(h:fv x.j_.l_ y.j_.l_=true):Pt.kn (og op (-1))=o7 op x y:=by rw[o7,a0d ⟨h1,h2⟩,wz,a0d h]
def avh(h1:x.op_=1)(h2:y.op_=1)(h:fv x.j_.l_ y.j_.l_=false)(h':fv y.j_.l_ x.j_.l_=true):Pt.kn (og op 1)=o7 op x y:=by rw[o7,a0d ⟨h1,h2⟩,wz,a0c (by rw[h];decide),a0d h']
def avi(h1:x.op_=1)(h2:y.op_=1)(h:fv x.j_.l_ y.j_.l_=false)(h':fv y.j_.l_ x.j_.l_=false):Pt.kn (og op 0)=o7 op x y:=by grind[o7,wz]
def tx_x(h1:x.op_=1)(h2:¬y.op_=1):Pt.pat ⟨5,y.i_,0,zT,qt (yo op) x.j_.l_⟩=o7 op x y:=by rw[o7,a0c (fun h=>h2 h.2),a0d h1]
def tx_y(h1:¬x.op_=1)(h2:y.op_=1):Pt.pat ⟨5,x.i_,0,zT,qt op y.j_.l_⟩=o7 op x y:=by rw[o7,a0c (fun h=>h1 h.1),a0c h1,a0d h2]
def tx_s(h1:¬x.op_=1)(h2:¬y.op_=1)(h:x.i_=y.i_):Pt.kn (op==10)=o7 op x y:=by rw[o7,a0c (fun h=>h1 h.1),a0c h1,a0c h2,a0d h]
def tx_d(h1:¬x.op_=1)(h2:¬y.op_=1)(h:¬x.i_=y.i_)(h3:op=11):Pt.pat ⟨7,min x.i_ y.i_,max x.i_ y.i_,zT,zTe⟩=o7 op x y:=by rw[o7,a0c (fun h=>h1 h.1),a0c h1,a0c h2,a0c h,a0d h3]
def tx_e(h1:¬x.op_=1)(h2:¬y.op_=1)(h:¬x.i_=y.i_)(h3:¬op=11):Pt.pat ⟨6,min x.i_ y.i_,max x.i_ y.i_,zT,zTe⟩=o7 op x y:=by rw[o7,a0c (fun h=>h1 h.1),a0c h1,a0c h2,a0c h,a0c h3]
end
def PtR(o:Option Pt)(g:GPrt)(e:Int):Prop:=(e=0->∃p,o=some p/\g=ptG p)/\(e≠0->o=none/\e=3)
def M7{o:GTm}(h:xt (d6 o) t e)(he:e=0):d6 o=some t:=h.1 he
def aix{o:GTm}(h:d6 o=some t):smR (tmA t)=true:=(kg h).2|>fun h2=>by rw[(kg h).1];exact h2
def alu{o:GTm}(h:d6 o=some t):t.a_.length=o.a_.length:=by rw[(kg h).1]
def A9(x y:GTm):(tg x y).a_.length<=x.a_.length+y.a_.length:=pi _ _
theorem FzP.one{η:bo}:FzP fp η (.agg [vI 1,.v (.slice none 0 0)]) (.agg (tmA one1)):=FzP.aggL (.cons (.pure rfl) (.cons (FzP.nil (n:=5)) .nil))
def xg:FitTm one1:=nu
def C4:smR (tmA one1)=true:=(ja one1).2 ⟨⟨by decide,by simp[one1]⟩,by rw[pq];show ci 1+0<=_;decide⟩
def M9(op:Int)(t:GTm):Option Pt:=
 if t.a_=[]then some (.kn (og op (Fy t.g_)))else if op=10 then some (.pat ⟨3,0,0,t,zTe⟩)else if op=11 then some (.pat ⟨4,0,0,t,zTe⟩)else
  (if op=14\/op=15 then d6 (scT (-1) t)else some t).bind fun u=>(if op=12\/op=14 then d6 (tg u one1)else some u).bind fun w=>some (.pat ⟨2,0,0,w,zTe⟩)
section
variable{op:Int}{x y:List AV}{a b c t u w:GTm}
def ap2(ha:ofT x=some a)(hb:ofT y=some b)(hc:d6 (scT (-1) b)=some c)(ht:d6 (tg a c)=some t):Db op x y=M9 op t:=by simp only[Db,ha,hb,hc,ht,a03];rfl
def it_1(ha:ofT x=some a)(hb:ofT y=some b)(hc:d6 (scT (-1) b)=none):Db op x y=none:=by simp only[Db,ha,hb,hc,a03,Option.bind_none]
def it_2(ha:ofT x=some a)(hb:ofT y=some b)(hc:d6 (scT (-1) b)=some c)(ht:d6 (tg a c)=none):Db op x y=none:=by simp only[Db,ha,hb,hc,ht,a03,Option.bind_none]
theorem nl{l:List α}(h:¬l.length=0):¬l=[]:=fun e=>h (by rw[e];rfl)
def ik_0(h:t.a_.length=0):M9 op t=some (.kn (og op (Fy t.g_))):=by rw[M9,a0d (a0y h)]
def ap9(hn:¬t.a_.length=0)(ho:op=10):M9 op t=some (.pat ⟨3,0,0,t,zTe⟩):=by rw[M9,a0c (nl hn),a0d ho]
def ap8(hn:¬t.a_.length=0)(ho:op=11):M9 op t=some (.pat ⟨4,0,0,t,zTe⟩):=by rw[M9,a0c (nl hn),a0c (by omega),a0d ho]
def ik_g(hn:¬t.a_.length=0)(h0:¬op=10)(h1:¬op=11)(hu:(if op=14\/op=15 then d6 (scT (-1) t)else some t)=some u)(hw:(if op=12\/op=14 then d6 (tg u one1)else some u)=some w):M9 op t=some (.pat ⟨2,0,0,w,zTe⟩):=by grind[M9]
def ik_u(hn:¬t.a_.length=0)(h0:¬op=10)(h1:¬op=11)(hu:(if op=14\/op=15 then d6 (scT (-1) t)else some t)=none):M9 op t=none:=by rw[M9,a0c (nl hn),a0c h0,a0c h1,hu,Option.bind_none]
def ik_w(hn:¬t.a_.length=0)(h0:¬op=10)(h1:¬op=11)(hu:(if op=14\/op=15 then d6 (scT (-1) t)else some t)=some u)(hw:(if op=12\/op=14 then d6 (tg u one1)else some u)=none):M9 op t=none:=by grind[M9]
def ajh(h:FitTm t):FitPrt ⟨false,false,⟨k,0,0,t,zTe⟩⟩:=⟨⟨h,ub.w_⟩⟩
def Hy{k v:Bool}:FitPrt ⟨k,v,zAt⟩:=⟨ub⟩
def ud{op:Int}(h:j3 s):j3 (qt op s).s:=by grind[qt]
def Lq{op:Int}{x y:GEx}(hx:FitEx x)(hy:FitEx y):FitPrt (ptG (o7 op x y)):=by unfold o7;split;exact Hy;split;exact⟨⟨dc,ud hx.j_.l_⟩⟩;split;exact⟨⟨dc,ud hy.j_.l_⟩⟩;split;exact Hy;exact⟨⟨dc,ub.w_⟩⟩
def apx{x y:GEx}(hx:FitEx x)(hy:FitEx y):FitPrt (ptG (Hg x y pos)):=by unfold Hg;split;exact Hy;exact⟨⟨dc,hy.j_.l_⟩⟩
theorem O1(h:OpE l d r)(hn:¬HasN r)(ht:¬TextE l r):∃t,ofT r=some t:=by
 rcases h with⟨y,rfl,h1,h2,_⟩|h|⟨_,h⟩
 ·exact absurd (pm.2 (.inl ⟨h1,h2⟩)) hn
 ·exact absurd h.1 ht
 cases h with
 |tm d r t _ h=>exact⟨t,h.2.2.2.2.2⟩
 |nul d x h _ _=>exact absurd h hn
theorem Sn{op:Int}{x y:GEx}(h:op=16):ptS l op (exA x) (exA y) pos=some (Hg x y pos):=by rw[ptS,a0d h,rz,rz]
theorem ahl{op o2:Int}{x y:GEx}(h:¬op=16)(ht:TextE l (exA x)\/TextE l (exA y))(ho:(if pos=true then op else s7 op)=o2):ptS l op (exA x) (exA y) pos=some (o7 o2 x y):=by rw[ptS,a0c h,a0d ht,rz,rz,ho]
theorem alt{op o2:Int}{x y:GEx}(h:¬op=16)(h1:¬TextE l (exA x))(h2:¬TextE l (exA y))(ho:(if pos=true then op else s7 op)=o2):ptS l op (exA x) (exA y) pos=Db o2 (exA x) (exA y):=by rw[ptS,a0c h,a0c (fun h=>h.elim h1 h2),ho]
def ptY{p:Pt}(h:o=some p):PtR o (ptG p) 0:=⟨fun _=>⟨p,h,rfl⟩,fun h=>absurd rfl h⟩
def ptN{g:GPrt}{r:Option GTm}(h:xt r q e)(he:¬e=0)(ho:o=none):PtR o g e:=⟨fun h=>absurd h he,fun h2=>⟨ho,(h.2 h2).2.1⟩⟩
end
def afd:ca prog 192=true:=by kernel_rfl
def ee:ff prog 313=some (some 11):=by kernel_rfl
def nt(b:Bool):PRet prog 299 [vB b] (fun q=>q=.agg (Fz (ptG (.kn b)))):=ovT [] [] func299 rfl rfl (rtK rfl ee rfl ⟨[],ku⟩ rfl)
def apv(x:GEx)(hx:FitEx x)(y:GEx)(hy:FitEx y)(pos:Bool):PRet prog 250 [.agg (exA x),.agg (exA y),vB pos] (fun q=>q=.agg (Fz (ptG (Hg x y pos)))):=by refine ovT [] [] func250 rfl rfl (cE (fun h0=>?_) (fun h0=>?_));refine ArgG.mk (T7 x.j_.l_ hx.j_.l_ y.j_.l_ hy.j_.l_) rfl ?_;rintro _ rfl;refine ArgG.mk (nt ((rx x.j_.l_ y.j_.l_==pos))) rfl ?_;rintro _ rfl;refine rtK rfl ee rfl ⟨[],FzP.pure rfl⟩ ?_;rw[Hg,a0d ‹_›];refine rtK rfl ee rfl ⟨[],ku⟩ ?_;rw[Hg,a0c ‹_›];rfl
def Lt(op:Int)(x:GEx)(hx:FitEx x)(y:GEx)(hy:FitEx y):PRet prog 253 [vI op,.agg (exA x),.agg (exA y)] (fun q=>q=.agg (Fz (ptG (o7 op x y)))):=by refine ovT [75,80] [] func253 rfl rfl ?_;apply cB<;>intro hb;have h5:=hb;simp at h5;apply cB<;>intro hc;have h6:=hc;simp at h6;apply cB<;>intro ha;refine ArgG.mk (ss op ((-1))) rfl ?_;rintro _ rfl;refine ArgG.mk (nt ((og op ((-1))))) rfl ?_;rintro _ rfl;refine rtK rfl ee rfl ⟨[],FzP.pure rfl⟩ ?_;exact congrArg (fun z=>AV.agg (Fz (ptG z))) (avg h5 h6 ha);apply cB<;>intro hd;refine ArgG.mk (ss op 1) rfl ?_;rintro _ rfl;refine ArgG.mk (nt ((og op 1))) rfl ?_;rintro _ rfl;refine rtK rfl ee rfl ⟨[],FzP.pure rfl⟩ ?_;exact congrArg (fun z=>AV.agg (Fz (ptG z))) (avh h5 h6 ha (amc hd));refine ArgG.mk (ss op 0) rfl ?_;rintro _ rfl;refine ArgG.mk (nt ((og op 0))) rfl ?_;rintro _ rfl;refine rtK rfl ee rfl ⟨[],FzP.pure rfl⟩ ?_;exact congrArg (fun z=>AV.agg (Fz (ptG z))) (avi h5 h6 ha (ago ha hd));have h6:=hc;simp at h6;apply cB<;>intro h7;have h1:=h7;simp at h1;refine ArgG.mk (Cx op) rfl ?_;rintro _ rfl;refine⟨by kernel_rfl,?_⟩;apply cB<;>intro h3;have h0:=h3;simp at h0;refine ArgG.mk (Lu ((yo op)) x.j_.l_ hx.j_.l_) rfl ?_;rintro _ rfl;refine⟨by kernel_rfl,?_⟩;refine rtK rfl ee rfl ⟨[],ku⟩ ?_;exact congrArg (fun z=>AV.agg (Fz (ptG z))) (tx_x h1 ‹_›);have h0:=h3;simp at h0;exact absurd h1 h0;have h1:=h7;simp at h1;apply cB<;>intro h3;have h0:=h3;simp at h0;refine ArgG.mk (Lu op y.j_.l_ hy.j_.l_) rfl ?_;rintro _ rfl;refine⟨by kernel_rfl,?_⟩;refine rtK rfl ee rfl ⟨[],ku⟩ ?_;exact congrArg (fun z=>AV.agg (Fz (ptG z))) (tx_y h1 h0);have h0:=h3;simp at h0;apply cB<;>intro h8;have h2:=h8;simp at h2;refine ArgG.mk (nt ((op==10))) rfl ?_;rintro _ rfl;refine rtK rfl ee rfl ⟨[],FzP.pure rfl⟩ ?_;exact congrArg (fun z=>AV.agg (Fz (ptG z))) (tx_s h1 h0 h2);have h2:=h8;simp at h2;apply cB<;>intro h9;have h4:=h9;simp at h4;refine OpG.lk (m3 rfl rfl) ?_;refine OpG.lk (s5 rfl rfl) ?_;refine rtK rfl ee rfl ⟨[],ku⟩ ?_;exact congrArg (fun z=>AV.agg (Fz (ptG z))) (tx_d h1 h0 h2 h4);have h4:=h9;simp at h4;refine OpG.lk (m3 rfl rfl) ?_;refine OpG.lk (s5 rfl rfl) ?_;refine rtK rfl ee rfl ⟨[],ku⟩ ?_;exact congrArg (fun z=>AV.agg (Fz (ptG z))) (tx_e h1 h0 h2 h4);have h5:=hb;simp at h5;refine cF (cB (fun h7=>?_) (fun h7=>?_));have h1:=h7;simp at h1;refine ArgG.mk (Cx op) rfl ?_;rintro _ rfl;refine⟨by kernel_rfl,?_⟩;apply cB<;>intro h3;have h0:=h3;simp at h0;refine ArgG.mk (Lu ((yo op)) x.j_.l_ hx.j_.l_) rfl ?_;rintro _ rfl;refine⟨by kernel_rfl,?_⟩;refine rtK rfl ee rfl ⟨[],ku⟩ ?_;exact absurd h1 h5;have h0:=h3;simp at h0;exact absurd h1 h0;have h1:=h7;simp at h1;apply cB<;>intro h3;have h0:=h3;simp at h0;refine ArgG.mk (Lu op y.j_.l_ hy.j_.l_) rfl ?_;rintro _ rfl;refine⟨by kernel_rfl,?_⟩;refine rtK rfl ee rfl ⟨[],ku⟩ ?_;exact congrArg (fun z=>AV.agg (Fz (ptG z))) (tx_y h1 h0);have h0:=h3;simp at h0;apply cB<;>intro h8;have h2:=h8;simp at h2;refine ArgG.mk (nt ((op==10))) rfl ?_;rintro _ rfl;refine rtK rfl ee rfl ⟨[],FzP.pure rfl⟩ ?_;exact congrArg (fun z=>AV.agg (Fz (ptG z))) (tx_s h1 h0 h2);have h2:=h8;simp at h2;apply cB<;>intro h9;have h4:=h9;simp at h4;refine OpG.lk (m3 rfl rfl) ?_;refine OpG.lk (s5 rfl rfl) ?_;refine rtK rfl ee rfl ⟨[],ku⟩ ?_;exact congrArg (fun z=>AV.agg (Fz (ptG z))) (tx_d h1 h0 h2 h4);have h4:=h9;simp at h4;refine OpG.lk (m3 rfl rfl) ?_;refine OpG.lk (s5 rfl rfl) ?_;refine rtK rfl ee rfl ⟨[],ku⟩ ?_;exact congrArg (fun z=>AV.agg (Fz (ptG z))) (tx_e h1 h0 h2 h4)
theorem Da(op:Int)(x:GEx)(hx:FitEx x)(y:GEx)(hy:FitEx y)(a b:GTm)(h1:ofT (exA x)=some a)(h2:ofT (exA y)=some b)(h7:IsSh 11 (exA x))(h8:IsSh 11 (exA y)):PRet prog 254 [vI op,.agg (exA x),.agg (exA y)] (fun q=>∃(g:GPrt) (e:Int),q=.tup [.agg (Fz g),vI e]/\FitPrt g/\PtR (Db op (exA x) (exA y)) g e):=by
 obtain⟨ha,h9,hla⟩:=ke (exA x) (ki hx) 11 (by omega) h7 a h1;obtain⟨hb,hd,hlb⟩:=ke (exA y) (ki hy) 11 (by omega) h8 b h2;have e13:2^(11+1)=4096:=rfl
 refine ovT [94] [] func254 rfl rfl (ArgG.mk (aox (exA x) (ki hx) 11 (by omega) h7 a h1) rfl ?_);rintro _ rfl;refine cF (ArgG.mk (aox (exA y) (ki hy) 11 (by omega) h8 b h2) rfl ?_);rintro _ rfl;refine cF (ArgG.mk (p9 b hb (-1) (by omega) (il hd) (by omega)) rfl ?_);rintro _ ⟨t2,e2,rfl,he,h5⟩;refine cN (fun h=>rtC rfl ee rfl ⟨[],ku⟩ ⟨⟨false,false,zAt⟩,_,rfl,Hy,ptN h5 h (it_1 h1 h2 (h5.2 h).1)⟩) (fun h=>have hS:=M7 h5 h;have hs1:=alu hS;have hs2:=Gm (-1) b;ArgG.mk (Ds a ha t2 he (il h9) (il (aix hS)) (by omega) (by omega)) rfl ?_);rintro _ ⟨t3,e3,rfl,h3,h6⟩;refine cN (fun h=>rtC rfl ee rfl ⟨[],ku⟩ ⟨⟨false,false,zAt⟩,_,rfl,Hy,ptN h6 h (it_2 h1 h2 hS (h6.2 h).1)⟩) (fun h=>have hA:=M7 h6 h;have I:=ap2 (op:=op) h1 h2 hS hA;have hl3:t3.a_.length<=16384:=(by have:=alu hA;have:=A9 a t2;omega);LenG.of (cE (fun _=>by refine ArgG.mk (anb t3.g_) rfl ?_;rintro _ rfl;refine ArgG.mk (ss op _) rfl ?_;rintro _ rfl;refine ArgG.mk (nt _) rfl ?_;rintro _ rfl;exact rtP rfl ee rfl ⟨ptG (.kn (og op (Fy t3.g_))),0,rfl,Hy,ptY (I.trans (ik_0 (by omega)))⟩) (fun _=>?_)))
 repeat' first
  |refine cT ?_|refine cF ?_|refine cE (fun _=>?_) (fun _=>?_)<;>try omega|refine cN (fun _=>?_) (fun _=>?_)<;>try omega
  |refine ArgG.mk (p9 t3 h3 (-1) (by omega) (il (aix hA)) (by omega)) rfl ?_;rintro _ ⟨t4,e4,rfl,hf,h0⟩
  |obtain⟨_,⟨t5,e5,rfl,hg,h4⟩,hc⟩:=Ds t4 hf one1 xg (il (aix (M7 h0 ‹_›))) (il C4) (by have:=alu (M7 h0 ‹_›);have:=Gm (-1) t3;omega) (by decide);refine OpG.lk (di afd (.cons (.pure rfl) (.cons FzP.one .nil)) hc) ?_
  |obtain⟨_,⟨t5,e5,rfl,hg,h4⟩,hc⟩:=Ds t3 h3 one1 xg (il (aix hA)) (il C4) (by omega) (by decide);refine OpG.lk (di afd (.cons (.pure rfl) (.cons FzP.one .nil)) hc) ?_
 all_goals first
  |exact rtP rfl ee rfl ⟨ptG (.pat ⟨3,0,0,t3,zTe⟩),0,rfl,ajh h3,ptY (I.trans (ap9 (by omega) ‹_›))⟩
  |exact rtP rfl ee rfl ⟨ptG (.pat ⟨4,0,0,t3,zTe⟩),0,rfl,ajh h3,ptY (I.trans (ap8 (by omega) ‹_›))⟩
  |exact rtC rfl ee rfl ⟨[],ku⟩ ⟨⟨false,false,zAt⟩,_,rfl,Hy,ptN h4 ‹_› (I.trans (ik_w (by omega) ‹_› ‹_› (by first|(rw[a0d (by omega)];exact M7 h0 ‹_›)|rw[a0c (by omega)]) (by rw[a0d (by omega)];exact(h4.2 ‹_›).1)))⟩
  |exact rtC rfl ee rfl ⟨[],ku⟩ ⟨⟨false,false,zAt⟩,_,rfl,Hy,ptN h0 ‹_› (I.trans (ik_u (by omega) ‹_› ‹_› (by rw[a0d (by omega)];exact(h0.2 ‹_›).1)))⟩
  |exact rtP rfl ee rfl ⟨ptG (.pat ⟨2,0,0,_,zTe⟩),0,rfl,ajh ‹_›,ptY (I.trans (ik_g (by omega) ‹_› ‹_› (by first|(rw[a0d (by omega)];exact M7 h0 ‹_›)|rw[a0c (by omega)]) (by first|(rw[a0d (by omega)];exact M7 h4 ‹_›)|rw[a0c (by omega)])))⟩
def ze(x:GEx)(hx:FitEx x)(l:List PVar)(hl:bn l (fun _=>True))(d:Nat)(ho:OpE l d (exA x)):PRet prog 252 [.tp [.tree 5 (l.map vA)] 0,.agg (exA x)] (fun q=>∃b:Bool,q=vB b/\(b=true↔TextE l (exA x))):=by refine ovT [28] [] func252 rfl rfl ?_;apply cB<;>intro h8;have h1:=h8;simp at h1;apply cB<;>intro h3;have h5:=a0f h3;refine LenG.of (cB (fun h2=>?_) (fun h2=>?_));have h6:=a0f h2;obtain⟨j1,h7,hj1l⟩:∃j:Nat,x.i_=((j:Nat):Int)/\j<l.length:=⟨x.i_.toNat,by omega,by omega⟩;refine OpG.lk (ah underlying54 xa rfl rfl h7 hj1l) ?_;refine⟨by kernel_rfl,?_⟩;exact rV rfl rfl ⟨_,rfl,fun h=>txIs ho (.inl ⟨h1,j1,hj1l,h7,by simpa using h⟩),fun h=>by simpa using avl h h1 h7 hj1l⟩;have h6:=a0e h2;refine⟨by kernel_rfl,?_⟩;exact rV rfl rfl ⟨_,rfl,fun h=>absurd h (by decide),fun h=>(Yx h).elim (fun⟨_,j,hj,e,g⟩=>by omega) (fun h=>by omega)⟩;have h5:=a0e h3;exact cF ⟨by kernel_rfl,rV rfl rfl ⟨_,rfl,fun h=>absurd h (by decide),fun h=>(Yx h).elim (fun⟨_,j,hj,e,g⟩=>by omega) (fun h=>by omega)⟩⟩;have h1:=h8;simp at h1;apply cB<;>intro h4;have h0:=h4;simp at h0;exact rV rfl rfl ⟨_,rfl,fun h=>txIs ho (.inr ⟨h0,by simpa using h⟩),fun h=>(Yx h).elim (fun h=>absurd h.1 h1) (fun h=>by simpa using h.2)⟩;have h0:=h4;simp at h0;exact rV rfl rfl ⟨_,rfl,fun h=>absurd h (by decide),fun h=>(Yx h).elim (fun h=>absurd h.1 h1) (fun h=>absurd h.1 h0)⟩
def an7(x:GEx)(hx:FitEx x)(m:Int)(l:List PVar)(hl:bn l (fun _=>True))(a0 a1:GEx)(h5:FitEx a0)(h6:FitEx a1)(hg:x.b_=[exA a0,exA a1])(hop:10<=x.op_/\x.op_<=16)(h7:OpE l 11 (exA a0))(h1:x.op_≠16->OpE l 11 (exA a1))(hm:¬HasN (exA a0))(hn:¬HasN (exA a1))(ha:IsSh 11 (exA a0))(hb:IsSh 11 (exA a1)):PRet prog 214 [.tp [.tree 5 (l.map vA)] 0,.agg (exA x),vI m] (fun q=>∃(g:GPrt) (e:Int),q=.tup [.agg (Fz g),vI e]/\FitPrt g/\PtR (ptS l x.op_ (exA a0) (exA a1) (pe m)) g e):=by
 have hal:x.b_.length=2:=by rw[hg];rfl
 have hd:x.b_[0]'(by omega)=exA a0:=by simp[hg]
 have he:x.b_[1]'(by omega)=exA a1:=by simp[hg]
 refine ovT [] [] func214 rfl rfl (cz (j:=0) (by omega) hd (cz (j:=1) (by omega) he ⟨by kernel_rfl,cE (fun h2=>?_) (fun h2=>?_)⟩));refine ArgG.mk (pd m) rfl ?_;rintro _ rfl;refine ArgG.mk (apv a0 h5 a1 h6 ((pe m))) rfl ?_;rintro _ rfl;refine⟨by kernel_rfl,?_⟩;first|refine rtP rfl ee rfl ?_
 exact⟨ptG (Hg a0 a1 (pe m)),0,rfl,apx h5 h6,ptY (Sn h2)⟩;have h1:=h1 h2
 refine ArgG.mk (pd m) rfl ?_;rintro _ rfl;apply cB<;>intro h0;refine ArgG.mk (Oz x.op_ (by omega)) rfl ?_;rintro _ rfl;refine ArgG.mk (ze a0 h5 l hl 11 h7) rfl ?_;rintro _ ⟨b4,rfl,ho⟩;apply cB<;>intro h3;have hc:TextE l (exA a0)\/TextE l (exA a1):=.inl (ho.1 h3)
 refine cT (ArgG.mk (Lt ((s7 x.op_)) a0 h5 a1 h6) rfl ?_);rintro _ rfl;first|refine rtP rfl ee rfl ?_
 exact⟨ptG (o7 _ a0 a1),0,rfl,Lq h5 h6,ptY (ahl h2 hc (by first|rw[a0d (by simpa using h0)]|rw[a0c (by simpa using h0)]))⟩;have h8:¬TextE l (exA a0):=fun h=>by rw[ho.2 h]at h3;cases h3
 refine ArgG.mk (ze a1 h6 l hl 11 h1) rfl ?_;rintro _ ⟨b6,rfl,hp⟩;apply cB<;>intro h4;have hc:TextE l (exA a0)\/TextE l (exA a1):=.inr (hp.1 h4)
 refine ArgG.mk (Lt ((s7 x.op_)) a0 h5 a1 h6) rfl ?_;rintro _ rfl;first|refine rtP rfl ee rfl ?_
 exact⟨ptG (o7 _ a0 a1),0,rfl,Lq h5 h6,ptY (ahl h2 hc (by first|rw[a0d (by simpa using h0)]|rw[a0c (by simpa using h0)]))⟩;have h9:¬TextE l (exA a1):=fun h=>by rw[hp.2 h]at h4;cases h4
 obtain⟨t0,hh⟩:=O1 h7 hm h8;obtain⟨t1,hi⟩:=O1 h1 hn h9;refine ArgG.mk (Da ((s7 x.op_)) a0 h5 a1 h6 t0 t1 hh hi ha hb) rfl ?_;rintro _ ⟨g8,e8,rfl,hr,hs⟩;first|refine rtP rfl ee rfl ?_
 exact⟨g8,e8,rfl,hr,by rw[alt (pos:=pe m) h2 h8 h9 (by first|rw[a0d (by simpa using h0)]|rw[a0c (by simpa using h0)])];exact hs⟩;refine ArgG.mk (ze a0 h5 l hl 11 h7) rfl ?_;rintro _ ⟨b9,rfl,hq⟩;apply cB<;>intro h3;have hc:TextE l (exA a0)\/TextE l (exA a1):=.inl (hq.1 h3)
 refine cT (ArgG.mk (Lt x.op_ a0 h5 a1 h6) rfl ?_);rintro _ rfl;first|refine rtP rfl ee rfl ?_
 exact⟨ptG (o7 _ a0 a1),0,rfl,Lq h5 h6,ptY (ahl h2 hc (by first|rw[a0d (by simpa using h0)]|rw[a0c (by simpa using h0)]))⟩;have h8:¬TextE l (exA a0):=fun h=>by rw[hq.2 h]at h3;cases h3
 refine ArgG.mk (ze a1 h6 l hl 11 h1) rfl ?_;rintro _ ⟨b11,rfl,hf⟩;apply cB<;>intro h4;have hc:TextE l (exA a0)\/TextE l (exA a1):=.inr (hf.1 h4)
 refine ArgG.mk (Lt x.op_ a0 h5 a1 h6) rfl ?_;rintro _ rfl;first|refine rtP rfl ee rfl ?_
 exact⟨ptG (o7 _ a0 a1),0,rfl,Lq h5 h6,ptY (ahl h2 hc (by first|rw[a0d (by simpa using h0)]|rw[a0c (by simpa using h0)]))⟩;have h9:¬TextE l (exA a1):=fun h=>by rw[hf.2 h]at h4;cases h4
 obtain⟨t0,hh⟩:=O1 h7 hm h8;obtain⟨t1,hi⟩:=O1 h1 hn h9;refine ArgG.mk (Da x.op_ a0 h5 a1 h6 t0 t1 hh hi ha hb) rfl ?_;rintro _ ⟨g13,e13,rfl,hj,hk⟩;first|refine rtP rfl ee rfl ?_
 exact⟨g13,e13,rfl,hj,by rw[alt (pos:=pe m) h2 h8 h9 (by first|rw[a0d (by simpa using h0)]|rw[a0c (by simpa using h0)])];exact hk⟩
def oc(l:List GPart):Nat:=(l.flatMap mo).length
theorem qf(p:GPart)(l:List GPart):oc (p::l)=(mo p).length+oc l:=by simp[oc]
theorem ad4(p:GPart):∀l:List GPart,oc (kw p l)<=oc l+(mo p).length
 |[]=>by simp[kw,oc]
 |q::l=>by have ih:=ad4 p l;unfold kw;split;split;rw[qf];omega;rw[qf,qf];show(mo q).length+_<=_;omega;split;rw[qf,qf];omega;rw[qf,qf];omega
theorem Hh:∀m l:List GPart,oc (eh l m)<=oc l+oc m
 |[],l=>Nat.le_add_right _ _
 |p::m,l=>by have h:=Hh m (kw p l);have g:=ad4 p l;rw[qf];have e:eh l (p::m)=eh (kw p l) m:=rfl;rw[e];omega
def Jg(n:Int)(x:GTm):oc (scT n x).a_<=oc x.a_:=by unfold scT;split;simp[oc,zT];show oc (x.a_.map fun p=>{p with k_:=p.k_*n})<=_;unfold oc;rw[List.flatMap_map];exact a0j _
theorem ax3(x:GTm)(b:Int):oc (dvT x b).a_=oc x.a_:=by show oc [dvP x b]=_;rw[qf];have e:mo (dvP x b)=x.a_.flatMap mo:=(by show(if(2:Int)=2 then vn [tmA x]else _)=_;rw[a0d rfl];simp only[vn,dx]);rw[e];simp[oc]
theorem nk{o:GTm}(h:d6 o=some t):oc t.a_=oc o.a_:=by rw[(kg h).1]
def aq1{a:GTm}{b:Int}(h:yt a b=some q):oc q.a_<=oc a.a_:=by unfold yt at h;split at h;cases h;exact a0j _;split at h;cases h;simp[oc];rw[nk h,ax3];exact a0j _
def Ij(a b:GTm):oc (tg a b).a_<=oc a.a_+oc b.a_:=Hh _ _
def asx{a b u:GTm}{N:Nat}(ha:oc a.a_<=N)(hb:oc b.a_<=N)(h:lc op a b=some u):oc u.a_<=2*N:=by
 unfold lc at h;split at h;rw[nk h];have:=Ij a b;omega
 split at h;obtain⟨c,hc,h⟩:=a0q.1 h;have:=Ij a c
 have:=Jg (-1) b;have:=nk hc
 rw[nk h];omega;split at h;split at h;cases h;split at h;rw[nk h];have:=Jg a.g_ b;omega
 rw[nk h];have:=Jg b.g_ a;omega
 split at h;cases h;obtain⟨q,hq,h⟩:=a0q.1 h;have g:=aq1 hq
 split at h;cases h;omega;obtain⟨m,hm,h⟩:=a0q.1 h;have:=Ij a m
 have:=Jg (-b.g_) q;have:=nk hm
 rw[nk h];omega
theorem aot(r:List AV)(hr:IsEx r):∀d,IsSh d r->∀u,ofT r=some u->oc u.a_<=2^d:=
 IsEx.ind (M:=fun r=>∀d,IsSh d r->∀u,ofT r=some u->oc u.a_<=2^d) (fun x hx ih d hs u hu=>by
  obtain⟨d',rfl,h2,h3⟩:=iq hs;have hp:1<=2^d':=Nat.one_le_two_pow
  have hq:2^(d'+1)=2*2^d':=by rw[Nat.pow_succ];omega
  rw[hq];cases ofV hu with
  |len t h hl hu=>
   obtain⟨a,_,_,_,⟨_,_,rfl⟩|⟨_,_,rfl⟩⟩:=alv hx hl<;>rw[nk hu]
   ·show 0<=_;omega
   ·show 1<=_;omega
  |lit h ha hk hu=>rw[nk hu];show 0<=_;omega
  |col h ha hi hu=>subst hu;show 1<=_;omega
  |neg r s h ha hr hu=>
   have hm:r∈x.b_:=by rw[ha];simp
   have g:=ih r hm d' (h3 r hm) s hr
   rw[nk hu];have:=Jg (-1) s;omega
  |bin r q a b h ha hr h1 hu=>
   have hm:r∈x.b_:=by rw[ha];simp
   have h0:q∈x.b_:=by rw[ha];simp
   exact asx (ih r hm d' (h3 r hm) a hr) (ih q h0 d' (h3 q h0) b h1) hu) hr
theorem S9(t:GTm):(ek (tmA t)).length=oc t.a_:=by rw[dx];rfl
def ap5{x:List AV}(hx:IsEx x)(hy:IsEx y)(sx:IsSh 11 x)(sy:IsSh 11 y)(h:Db op x y=some (.pat a)):(ek (tmA a.q_)).length<=4096:=by
 unfold Db at h;obtain⟨p,hp,h⟩:=a0q.1 h;obtain⟨q,hq,h⟩:=a0q.1 h;obtain⟨c,hc,h⟩:=a0q.1 h;obtain⟨t,ht,h⟩:=a0q.1 h;have h1:=aot x hx 11 sx p hp
 have h2:=aot y hy 11 sy q hq;have h3:oc t.a_<=4096:=by have:=Ij p c;have:=Jg (-1) q;have:=nk hc;rw[nk ht];omega
 split at h;cases h;split at h;cases h;rw[S9];exact h3;split at h;cases h;rw[S9];exact h3;obtain⟨u,hu,h⟩:=a0q.1 h;obtain⟨w,hw,h⟩:=a0q.1 h;cases h;rw[S9]
 have h4:oc u.a_<=4096:=by
  split at hu;have:=Jg (-1) t
  rw[nk hu];omega;cases hu;exact h3
 split at hw;have:=Ij u one1
 have e:oc one1.a_=0:=rfl;show oc w.a_<=_
 rw[nk hw];omega;cases hw;exact h4
def ahm{x:List AV}(hx:IsEx x)(hy:IsEx y)(sx:IsSh 11 x)(sy:IsSh 11 y)(h:ptS l op x y pos=some (.pat a)):(ek (tmA a.q_)).length<=4096:=by unfold ptS at h;split at h;unfold Hg at h;split at h;cases h;cases h;simp[dx,zT];split at h;unfold o7 at h;simp only[az7]at h;split at h;cases h;split at h;cases h;simp[dx,zT];split at h;cases h;simp[dx,zT];split at h;cases h;cases h;simp[dx,zT];exact ap5 hx hy sx sy h
theorem Em(r:List AV)(hr:IsEx r):∀d,IsSh d r->(d5 r).length+1<=2^(d+1):=
 IsEx.ind (M:=fun r=>∀d,IsSh d r->(d5 r).length+1<=2^(d+1)) (fun x hx ih d hs=>by
  obtain⟨d',rfl,h2,h3⟩:=iq hs
  have hq:2^(d'+1+1)=2*2^(d'+1):=by rw[Nat.pow_succ];omega
  rw[dk,az8,hq]
  have h0:(if x.op_=2 then[x.i_]else[]).length<=1:=by split<;>simp
  have h4:(bl x.b_).length+x.b_.length<=x.b_.length*2^(d'+1):=by
   have:∀es:List (List AV),(∀r∈es,(d5 r).length+1<=2^(d'+1))->(bl es).length+es.length<=es.length*2^(d'+1):=by
    intro es
    induction es with
    |nil=>intro _;simp[bl]
    |cons a es ih2=>
     intro h
     have h1:=h a (by simp)
     have h2:=ih2 fun r hr=>h r (by simp[hr])
     simp only[bl,az8,a0r]
     rw[Nat.add_mul]
     omega
   exact this x.b_ fun r hr=>ih r hr d' (h3 r hr)
  have h5:1<=2^(d'+1):=Nat.one_le_two_pow
  generalize 2^(d'+1)=N at*
  generalize x.b_.length=k at*
  match k,h2,h4 with
  |0,_,h4=>omega
  |1,_,h4=>omega
  |2,_,h4=>omega
  |k+3,h,_=>omega) hr
theorem za{d:Nat}:∀{es:List (List AV)},(∀r∈es,IsEx r/\IsSh d r)->(bl es).length<=es.length*2^(d+1)
 |[],_=>by simp[bl]
 |a::es,h=>by have h1:=Em a (h a (by simp)).1 d (h a (by simp)).2;have h2:=za fun r hr=>h r (List.mem_cons_of_mem a hr);simp only[bl,az8,a0r];rw[Nat.add_mul];omega
def TyV(l:List PVar)(k v:Int):Prop:=∃j,∃h:j<l.length,v=((j:Nat):Int)/\l[j].t=k
inductive TmV(l:List PVar):List AV->Prop
 |mk (x:GTm) (hb:∀p∈x.a_,(p.c_≠2->p.by_=0)/\(p.c_=2->p.o_=0)) (h0:∀p∈x.a_,p.c_=0->TyV l 1 p.o_) (h1:∀p∈x.a_,p.c_=1->TyV l 2 p.o_) (h2:∀p∈x.a_,p.c_=2->∀r∈p.of_,TmV l r):TmV l (tmA x)
def PtV(l:List PVar)(p:GPart):Prop:=(p.c_=0->TyV l 1 p.o_)/\(p.c_=1->TyV l 2 p.o_)/\(p.c_=2->∀r∈p.of_,TmV l r)/\(p.c_≠2->p.by_=0)/\(p.c_=2->p.o_=0)
theorem tmV{x:GTm}:TmV l (tmA x)↔∀p∈x.a_,PtV l p:=by
 constructor
 ·intro h
  generalize e:tmA x=r at h
  cases h with
  |mk y hb h0 h1 h2=>rw[Rj e];exact fun p hp=>⟨h0 p hp,h1 p hp,h2 p hp,hb p hp⟩
 ·exact fun h=>.mk x (fun p hp=>(h p hp).2.2.2) (fun p hp=>(h p hp).1) (fun p hp=>(h p hp).2.1) (fun p hp=>(h p hp).2.2.1)
section
variable{l:List PVar}{a b t u:GTm}
def auk :TmV l (tmA ⟨c,[]⟩):=tmV.2 (by simp)
def Gc(ha:TmV l (tmA a))(hb:TmV l (tmA b)):TmV l (tmA (tg a b)):=tmV.2 (pj (fun q c h=>h) (tmV.1 ha) (tmV.1 hb))
def I9(ha:TmV l (tmA a)):TmV l (tmA (scT n a)):=by unfold scT;split;exact tmV.2 (by simp[zT]);refine tmV.2 fun p hp=>?_;obtain⟨q,hq,rfl⟩:=a0v.1 hp;exact tmV.1 ha q hq
def avm(ha:TmV l (tmA a)):TmV l (tmA (dvT a n)):=tmV.2 fun p hp=>by rw[az9.1 hp];exact⟨fun h=>absurd h (by decide:¬(2:Int)=0),fun h=>absurd h (by decide:¬(2:Int)=1),fun _ r hr=>(by rw[az9.1 hr];exact ha),fun h=>absurd rfl h,fun _=>rfl⟩
def mj{o:GTm}(h:d6 o=some t)(ho:TmV l (tmA o)):TmV l (tmA t):=by rw[(kg h).1];exact ho
def acx(h0:k=0->TyV l 1 v)(h1:k=1->TyV l 2 v)(h2:k≠2):TmV l (tmA (um k v)):=tmV.2 fun p hp=>by rw[az9.1 hp];exact⟨h0,h1,fun h=>absurd h h2,fun _=>rfl,fun h=>absurd h h2⟩
def ami(ha:TmV l (tmA a))(hb:TmV l (tmA b))(h:lc op a b=some u):TmV l (tmA u):=by
 unfold lc at h;split at h;exact mj h (Gc ha hb);split at h;obtain⟨c,hc,h⟩:=a0q.1 h;exact mj h (Gc ha (mj hc (I9 hb)));split at h;split at h;cases h;split at h;exact mj h (I9 hb);exact mj h (I9 ha);split at h;cases h;obtain⟨q,hq,h⟩:=a0q.1 h
 have g:TmV l (tmA q):=by
  unfold yt at hq;split at hq;cases hq;exact ha;split at hq;cases hq;exact auk;exact mj hq (avm ha)
 split at h;cases h;exact g;obtain⟨m,hm,h⟩:=a0q.1 h;exact mj h (Gc ha (mj hm (I9 g)))
theorem aos(r:List AV)(hr:IsEx r):IntE l r->∀u,ofT r=some u->TmV l (tmA u):=
 IsEx.ind (M:=fun r=>IntE l r->∀u,ofT r=some u->TmV l (tmA u)) (fun x hx ih hi u hu=>by
  cases ofV hu with
  |len t h hl hu=>
   obtain⟨a,ha,_,_,⟨_,_,rfl⟩|⟨a2,_,rfl⟩⟩:=alv hx hl
   ·exact mj hu auk
   ·refine mj hu (acx (fun h=>by omega) (fun _=>?_) (by decide))
    rcases eg hi with g|g|⟨_,a',g1,_,g⟩|g|g
    ·omega
    ·omega
    ·rw[ha]at g1
     have ea:a'=a:=(au (by simpa using g1)).symm
     subst ea
     rcases g with g|g
     ·obtain⟨_,⟨_,j,hj,e2,e3⟩|g⟩:=cr g
      ·exact⟨j,hj,e2,e3⟩
      ·omega
     ·omega
    ·omega
    ·omega
  |lit h ha hk hu=>exact mj hu auk
  |col h ha hi' hu=>
   subst hu
   rcases eg hi with g|⟨_,_,j,hj,e2,e3⟩|g|g|g
   ·omega
   ·exact acx (fun _=>⟨j,hj,e2,e3⟩) (fun h=>by omega) (by decide)
   ·omega
   ·omega
   ·omega
  |neg r s h ha hr hu=>
   have hm:r∈x.b_:=by rw[ha];simp
   rcases eg hi with g|g|g|⟨_,_,g⟩|g
   ·omega
   ·omega
   ·omega
   ·exact mj hu (I9 (ih r hm (g r hm) s hr))
   ·omega
  |bin r q a b h ha hr h1 hu=>
   have hm:r∈x.b_:=by rw[ha];simp
   have h0:q∈x.b_:=by rw[ha];simp
   rcases eg hi with g|g|g|g|⟨_,_,g⟩
   ·omega
   ·omega
   ·omega
   ·omega
   ·exact ami (ih r hm (g r hm) a hr) (ih q h0 (g q h0) b h1) hu) hr
end
def FmR(o:Option (List AV))(f:GFm)(e:Int):Prop:=(e=0->o=some (fmA f))/\(e≠0->o=none/\e=3)
def fmY{o:Option (List AV)}(h:o=some (fmA f)):FmR o f 0:=⟨fun _=>h,fun h=>absurd rfl h⟩
def fmN{o:Option (List AV)}(h:o=none)(he:e=3):FmR o f e:=⟨fun h0=>by omega,fun _=>⟨h,he⟩⟩
theorem av3(v:Int):srtU [v]=[v]:=Ry (by simp)
def va_t(h:a.c_=2\/a.c_=3\/a.c_=4):srtU (srtU (ek (tmA a.q_)))=jm a:=by rw[Ry rc,jm,a0d h]
theorem va_p(h:¬(a.c_=2\/a.c_=3\/a.c_=4))(h2:a.c_=6\/a.c_=7):srtU [a.o_,a.v_]=jm a:=by rw[jm,a0c h,a0d h2]
def va_1(h:¬(a.c_=2\/a.c_=3\/a.c_=4))(h2:¬(a.c_=6\/a.c_=7)):srtU [a.o_]=jm a:=by rw[av3,jm,a0c h,a0c h2]
def F8 :(jm a).length<=(ek (tmA a.q_)).length+2:=by unfold jm;split;exact a0m (dh _) (Nat.le_add_right _ _);split;exact a0m (dh _) (Nat.le_add_left _ _);simp
def T5(kd:Int)(L:List GFm)(hl:L.length<=140737488355328)(hL:∀x∈L,FitFm x):PRet prog 183 [vI kd,.tree 11 (L.map fmA)] (fun q=>∃y:GFm,q=.agg (fmA y)/\FitFm y/\lsF kd (L.map fmA)=fmA y):=by have hf:bn (L.map fmA) (fun y=>IsFm y):=⟨by rw[a0b];exact hl,fun r hr=>by obtain⟨x,hx,rfl⟩:=a0v.1 hr;exact B9 (hL x hx)⟩;have h:=apt kd (L.map fmA) hf (by simp[cj,AV.pureB]);rw[ip]at h;obtain⟨q,rfl,h⟩:=h;obtain⟨y,e,hy⟩:=(J6 (k:=kd) hf).open_;exact⟨_,⟨y,by rw[e],hy,e⟩,h⟩
def lf :∀x∈jp k vs,FitFm x:=by grind[jp,mi,q9]
theorem er :(jp k vs).length=vs.length:=by simp[jp]
def j9{a:GFm}(h:∀x∈L,FitFm x)(ha:FitFm a):∀x∈L++[a],FitFm x:=by grind
open Classical in
noncomputable def cmO(l:List PVar)(x:GEx)(m:Int):Option (List AV):=if∃r∈x.b_,HasN r then some (fmA (cnF (i8 m)))else cmS l x.op_ m x.b_
section
variable{l:List PVar}{x a0 a1:GEx}{m:Int}{g:GPrt}{p:Pt}{y:GFm}
abbrev csX(x:GEx):List Int:=srtU (bl x.b_)
theorem Nu(h:HasN (exA x))(ho:¬x.op_=1):cmO l x m=some (fmA (cnF (i8 m))):=by grind[cmO,pm]
theorem abd(h:¬HasN (exA x))(h0:x.b_=[exA a0,exA a1]):cmO l x m=(ptS l x.op_ (exA a0) (exA a1) (pe m)).map (cmF m (csX x)):=by rw[cmO,a0c (fun g=>h (pm.2 (.inr g)))];have e:srtU (d5 (exA a0)++d5 (exA a1))=csX x:=(by unfold csX;rw[h0];simp only[bl,List.append_nil]);rw[h0,cmS,e]
def arp(h:¬HasN (exA x))(h0:x.b_=[exA a0,exA a1])(hp:ptS l x.op_ (exA a0) (exA a1) (pe m)=none):cmO l x m=none:=by rw[abd h h0,hp];rfl
theorem H7(h:¬HasN (exA x))(h0:x.b_=[exA a0,exA a1])(hp:ptS l x.op_ (exA a0) (exA a1) (pe m)=some p)(hr:cmF m (csX x) p=r):cmO l x m=some r:=by rw[abd h h0,hp,<-hr];rfl
variable{cs:List Int}
theorem ayg(hg:g=ptG p)(hw:i8 m=true)(hk:g.kn=true)(hv:g.vl=true):cmF m cs p=fmA (cnF true):=by
 subst hg;cases p with
 |kn b=>rw[cmF,a0d hw,a0d (show b=true from hv)]
 |pat a=>cases hk
theorem ayf(hg:g=ptG p)(hw:i8 m=true)(hk:g.kn=true)(hv:g.vl=false)(hy:lsF 1 ((jp 0 cs).map fmA)=fmA y):cmF m cs p=fmA y:=by
 subst hg;cases p with
 |kn b=>rw[cmF,a0d hw,a0c (by rw[show b=false from hv];decide),<-mw];exact hy
 |pat a=>cases hk
theorem aye(hg:g=ptG p)(hw:i8 m=true)(hk:g.kn=false)(hy:lsF 1 ((jp 0 cs++[atF g.at_]).map fmA)=fmA y):cmF m cs p=fmA y:=by
 subst hg;cases p with
 |kn b=>cases hk
 |pat a=>rw[cmF,a0d hw,<-mw];rw[a0u]at hy;exact hy
theorem ayj(hg:g=ptG p)(hw:i8 m=false)(hk:g.kn=true)(hv:g.vl=false):cmF m cs p=fmA (cnF false):=by
 subst hg;cases p with
 |kn b=>rw[cmF,a0c (by rw[hw];decide),a0c (by rw[show b=false from hv];decide)]
 |pat a=>cases hk
theorem ayi(hg:g=ptG p)(hw:i8 m=false)(hk:g.kn=true)(hv:g.vl=true)(hy:lsF 0 ((jp 1 cs).map fmA)=fmA y):cmF m cs p=fmA y:=by
 subst hg;cases p with
 |kn b=>rw[cmF,a0c (by rw[hw];decide),a0d (show b=true from hv),<-mw];exact hy
 |pat a=>cases hk
theorem ayh(hg:g=ptG p)(hw:i8 m=false)(hk:g.kn=false)(hy:lsF 0 ((jp 1 (cs.filter (kpB (jm g.at_)))++[atF g.at_]).map fmA)=fmA y):cmF m cs p=fmA y:=by
 subst hg;cases p with
 |kn b=>cases hk
 |pat a=>rw[cmF,a0c (by rw[hw];decide),<-mw];rw[a0u]at hy;exact hy
end
def N0:ca prog 184=true:=by kernel_rfl
def asm:ca prog 185=true:=by kernel_rfl
def asl:ca prog 216=true:=by kernel_rfl
def asi:ca prog 255=true:=by kernel_rfl
theorem agi(x:GFm)(hx:FitFm x)(h0:x.c_=2)(h1:x.b_=[])(h2:(ek (tmA x.e_.q_)).length<=1099511627776):PRet prog 215 [.agg (fmA x)] (fun q=>q=isA (jm x.e_)):=by
 have hoc2:=dh (ek (tmA x.e_.q_));refine ovT [35,47,49] [] func215 rfl rfl (LenG.of (LpG.exit (cB (fun h=>by rw[h1]at h;exact absurd h (by decide)) (fun h=>cE (fun _=>?_) fun h=>absurd h0 h))));repeat' first|refine cE (fun _=>?_) (fun _=>?_)<;>try omega
 all_goals first
  |have:x.e_.c_=2\/x.e_.c_=3\/x.e_.c_=4:=by omega
   refine OpG.mk _ _ _ 2 (ba [(1,1)] asi (au9 x.e_.q_ hx.e_.q_ h2) rfl rfl rfl rfl trivial trivial ⟨da aj _ _,trivial⟩ rfl rfl rfl rfl (bz aj rfl) rfl) rfl rfl (OpG.mk _ _ _ 2 (ba [(TOP,1)] wl (ve (srtU (ek (tmA x.e_.q_))) 0 (by first|omega|(simp;done))) rfl rfl rfl rfl ⟨iw aj,trivial⟩ ⟨d9 aj,trivial⟩ ⟨da aj _ _,trivial⟩ rfl rfl rfl rfl (bz aj rfl) rfl) rfl rfl ?_)
   exact OpG.mk _ _ _ 2 (ba [(TOP,1)] yj (lz (srtU (ek (tmA x.e_.q_))) 0 (by first|omega|(simp;done))) rfl rfl rfl rfl ⟨iw aj,trivial⟩ ⟨ado ic,trivial⟩ ⟨da aj _ _,trivial⟩ rfl rfl rfl rfl (bz aj rfl) rfl) rfl rfl (rtA rfl ⟨[1],FzP.srtU rfl⟩ (congrArg isA (va_t (by omega))))
  |refine OpG.mk _ _ _ 2 (ba [(TOP,1)] wl (ve [x.e_.o_,x.e_.v_] TV (by first|omega|(simp;done))) rfl rfl rfl rfl ⟨iw aj (l:=[x.e_.o_,x.e_.v_]),trivial⟩ ⟨d9 aj,trivial⟩ ⟨da aj _ _,trivial⟩ rfl rfl rfl rfl (bz aj rfl) rfl) rfl rfl (OpG.mk _ _ _ 2 (ba [(TOP,1)] yj (lz [x.e_.o_,x.e_.v_] TV (by first|omega|(simp;done))) rfl rfl rfl rfl ⟨iw aj,trivial⟩ ⟨ado ic,trivial⟩ ⟨da aj _ _,trivial⟩ rfl rfl rfl rfl (bz aj rfl) rfl) rfl rfl ?_);exact rtA rfl ⟨[1],FzP.srtU rfl⟩ (congrArg isA (va_p (by omega) (by omega)))
  |refine OpG.mk _ _ _ 2 (ba [(TOP,1)] wl (ve [x.e_.o_] TV (by first|omega|(simp;done))) rfl rfl rfl rfl ⟨iw aj (l:=[x.e_.o_]),trivial⟩ ⟨d9 aj,trivial⟩ ⟨da aj _ _,trivial⟩ rfl rfl rfl rfl (bz aj rfl) rfl) rfl rfl (OpG.mk _ _ _ 2 (ba [(TOP,1)] yj (lz [x.e_.o_] TV (by first|omega|(simp;done))) rfl rfl rfl rfl ⟨iw aj,trivial⟩ ⟨ado ic,trivial⟩ ⟨da aj _ _,trivial⟩ rfl rfl rfl rfl (bz aj rfl) rfl) rfl rfl ?_);exact rtA rfl ⟨[1],FzP.srtU rfl⟩ (congrArg isA (va_1 (by omega) (by omega)))
def aq7(own:List Int)(h1:bn own (fun _=>True)):ach prog 216 [.sl 1000000 0 0 0,.clo 217 [.tp [isA own] 0]] [(1000000,⟨0,[],1,true⟩)] [(1000000,none)] (fun q=>q=isA []):=by refine ach.of_vc s9 [10] [] func216 rfl ntmps216 rfl (by kernel_rfl) ?_;obtain⟨_,⟨i0,rfl,h4⟩,h2⟩:=Hk [] ⟨a0h _,fun _ _=>trivial⟩ own h1;refine OpG.lk (oa [1000000] ae9 rfl (fun i h h'=>match i,h with|0,_=>Ld (az9.2 rfl) rfl|1,_=>FzP.pure rfl) h2) (cB (fun h0=>by have h3:=h0;simp at h3;exact⟨.inr rfl,_,P5.of [1000000] (cq rfl (.cons (az0.tmp rfl) .nil)) rfl ⟨.gone,trivial⟩ (.fz (Ld (az9.2 rfl) rfl)),rfl⟩) (fun h0=>?_));exfalso;rcases h4 with h|⟨j,_,h,_⟩;exact absurd h.1 (by simpa using h0);exact absurd h (by simp)
def aya(l own:List Int)(hl:l.length<=140737488355328)(h1:bn own (fun _=>True)):j6 prog 216 [.sl TOP 0 0 l.length,.clo 217 [.tp [isA own] 0]] [(TOP,⟨0,rF iA l,1,Nat.beq l.length 0⟩)] [(TOP,none)] (isA (l.filter (kpB own))):=by by_cases h0:0<l.length;exact delF l own h0 hl h1;obtain rfl:=a0y (Nat.eq_zero_of_not_pos h0);obtain⟨_,rfl,h⟩:=aq7 own h1;exact h
def H4(x:GEx)(hx:FitEx x)(m:Int)(l:List PVar)(hl:bn l (fun _=>True))(a0 a1:GEx)(ho:FitEx a0)(hq:FitEx a1)(h3:x.b_=[exA a0,exA a1])(ht:10<=x.op_/\x.op_<=16)(he:OpE l 11 (exA a0))(hf:x.op_≠16->OpE l 11 (exA a1))(h4:IsSh 11 (exA a0))(h5:IsSh 11 (exA a1)):PRet prog 187 [.tp [.tree 5 (l.map vA)] 0,.agg (exA x),vI m] (fun q=>∃(f:GFm) (e:Int),q=.tup [.agg (fmA f),vI e]/\FitFm f/\FmR (cmO l x m) f e):=by
 have hu:(bl x.b_).length<=8192:=by have h:=za (d:=11) (es:=x.b_) (fun r hr=>⟨hx.b_.2 r hr,by rw[h3]at hr;rcases a0w.1 hr with rfl|hr;exact h4;rw[az9.1 hr];exact h5⟩);rw[h3]at h ⊢;exact a0m h (show 2*2^12<=8192 by decide)
 have hcl:(csX x).length<=8192:=a0m (dh _) hu;skip;refine ovT [32,43,52,66,72,73,74,80] [10,13,18,20,22] func187 rfl rfl (ArgG.mk (vt (exA x) (ki hx)) rfl ?_);rintro _ ⟨bN,rfl,hs⟩;apply cB<;>intro h9;refine ArgG.mk (acp m) rfl ?_;rintro _ rfl;refine ArgG.mk (sr ((i8 m))) rfl ?_;rintro _ rfl;exact rtP rfl cw rfl ⟨cnF (i8 m),0,rfl,fo,fmY (Nu (hs.1 h9) (by omega))⟩;have h6:¬HasN (exA x):=fun h=>by rw[hs.2 h]at h9;cases h9
 refine ArgG.mk (an7 x hx m l hl a0 a1 ho hq h3 ht he hf (fun h=>h6 (pm.2 (.inr ⟨_,by rw[h3];simp,h⟩))) (fun h=>h6 (pm.2 (.inr ⟨_,by rw[h3];simp,h⟩))) h4 h5) rfl ?_;rintro _ ⟨g,e,rfl,hg,hp⟩;apply cN<;>intro hh;exact rtC rfl cw rfl ⟨[],je⟩ ⟨cnF true,e,rfl,fo,fmN (arp h6 h3 (hp.2 hh).1) (hp.2 hh).2⟩;obtain⟨p,ha,hb⟩:=hp.1 (by omega);have hfl:=List.length_filter_le (kpB (jm g.at_)) (csX x)
 have hv:(ek (tmA g.at_.q_)).length<=4096:=by subst hb;cases p with|kn b=>simp[ptG,zAt,zT,dx]|pat a=>exact ahm (ki ho) (ki hq) h4 h5 ha
 refine OpG.mk _ _ _ 4 (ba [(0,3)] asm (ayd x.b_ hx.b_ (by omega)) rfl rfl rfl rfl trivial trivial ⟨da aj _ _,trivial⟩ rfl rfl rfl rfl (bz aj rfl) rfl) rfl rfl (ArgG.mk (acp m) rfl ?_);rintro _ rfl;apply cB<;>intro h0;apply cB<;>intro hi;have hc:=hi
 apply cB<;>intro hj;refine ArgG.mk (sr true) rfl ?_;rintro _ rfl;exact rtP rfl cw rfl ⟨cnF true,0,rfl,fo,fmY (H7 h6 h3 ha (ayg hb h0 hc hj))⟩;refine RegG.via (fun _ h=>bm [3] 10 (isA (csX x)) (FzP.rows aj (az9.2 rfl) rfl) rfl h) (bh ?_);refine OpG.mk _ _ _ 5 (ba [(0,4)] N0 (Mr 0 (csX x) ⟨by omega,fun _ _=>trivial⟩ (by omega)) rfl rfl rfl rfl trivial trivial ⟨da aw _ _,trivial⟩ rfl rfl rfl rfl (bz aw rfl) rfl) rfl rfl (cB (fun h7=>?_) (fun h7=>?_));exact absurd h7 (by rw[hc];decide);refine RegG.via (fun _ h=>bm [4] 11 (.tree 11 ((jp 0 (csX x)).map fmA)) (FzP.rows aw (az9.2 rfl) rfl) rfl h) (bh ?_);refine ArgG.mk (T5 1 (jp 0 (csX x)) (by(rw[er];omega)) lf) rfl ?_;rintro _ ⟨y,rfl,hy,hd⟩;exact rtP rfl cw rfl ⟨y,0,rfl,hy,fmY (H7 h6 h3 ha (ayf hb h0 hc hj hd))⟩;have hk:=hi
 refine cF (RegG.via (fun _ h=>bm [3] 10 (isA (csX x)) (FzP.rows aj (az9.2 rfl) rfl) rfl h) ?_);refine bh (OpG.mk _ _ _ 5 (ba [(0,4)] N0 (Mr 0 (csX x) ⟨by omega,fun _ _=>trivial⟩ (by omega)) rfl rfl rfl rfl trivial trivial ⟨da aw _ _,trivial⟩ rfl rfl rfl rfl (bz aw rfl) rfl) rfl rfl ?_);apply cB<;>intro h7;refine ArgG.mk (wn g.at_ hg.at_) rfl ?_;rintro _ rfl;refine OpG.mk _ _ _ 6 (ae aw (l:=(jp 0 (csX x))) (a:=atF g.at_) underlying67 Ct Ca Fe rfl rfl rfl (ap rfl rfl rfl rfl) rfl (by rw[er];omega) (by rw[er];omega) (by decide)) rfl rfl (RegG.via (fun _ h=>bm [4] 11 (.tree 11 ((jp 0 (csX x)++[atF g.at_]).map fmA)) (FzP.rows aw (az9.2 rfl) rfl) rfl h) ?_);refine bh (ArgG.mk (T5 1 (jp 0 (csX x)++[atF g.at_]) (by(rw[az8,er];simp only[a0r,a0s];omega)) (j9 lf (mi hg.at_))) rfl ?_);rintro _ ⟨y,rfl,hy,hd⟩;exact rtP rfl cw rfl ⟨y,0,rfl,hy,fmY (H7 h6 h3 ha (aye hb h0 hk hd))⟩;exact absurd h7 (by rw[hk];decide);apply cB<;>intro hm;have hc:=hm
 apply cB<;>intro hn;refine ArgG.mk (sr false) rfl ?_;rintro _ rfl;exact rtP rfl cw rfl ⟨cnF false,0,rfl,fo,fmY (H7 h6 h3 ha (ayj hb h0 hc (by simpa using hn)))⟩;apply cB<;>intro h8;refine RegG.via (fun _ h=>bm [3] 10 (isA (csX x)) (FzP.rows aj (az9.2 rfl) rfl) rfl h) (bh ?_);refine OpG.mk _ _ _ 5 (ba [(0,4)] N0 (Mr 1 (csX x) ⟨by omega,fun _ _=>trivial⟩ (by omega)) rfl rfl rfl rfl trivial trivial ⟨da aw _ _,trivial⟩ rfl rfl rfl rfl (bz aw rfl) rfl) rfl rfl (RegG.via (fun _ h=>bm [4] 12 (.tree 11 ((jp 1 (csX x)).map fmA)) (FzP.rows aw (az9.2 rfl) rfl) rfl h) ?_);refine bh (ArgG.mk (T5 0 (jp 1 (csX x)) (by(rw[er];omega)) lf) rfl ?_);rintro _ ⟨y,rfl,hy,hd⟩;exact rtP rfl cw rfl ⟨y,0,rfl,hy,fmY (H7 h6 h3 ha (ayi hb h0 hc (by simpa using hn) hd))⟩;exact absurd h8 (by rw[hc];decide);have hk:=hm
 refine cF (cB (fun h8=>?_) (fun h8=>?_));exact absurd h8 (by rw[hk];decide);refine ArgG.mk (wn g.at_ hg.at_) rfl ?_;rintro _ rfl;refine ArgG.mk (agi (atF g.at_) (mi hg.at_) rfl rfl (a0m hv (by decide))) rfl ?_;rintro _ rfl;refine RegG.via (fun _ h=>bm [4] 13 (.tp [isA (jm g.at_)] 0) (FzP.ptr (b:=⟨0,[isA (jm g.at_)],0,false⟩) (az9.2 rfl) rfl rfl rfl rfl (fun i h1 h2=>match i,h1 with|0,_=>FzP.pure rfl)) rfl h) (bh ?_);refine OpG.lk (LOp.makeFunc) (OpG.mk _ _ _ 5 (ba [(TOP,3)] asl (aya (csX x) (jm g.at_) (by omega) ⟨by have:=F8 (a:=g.at_);omega,fun _ _=>trivial⟩) rfl rfl rfl rfl ⟨iw aj,trivial⟩ ⟨d9 aj,trivial⟩ ⟨trivial,trivial⟩ rfl rfl rfl rfl rfl rfl) rfl rfl ?_);refine OpG.mk _ _ _ 6 (ba [(0,5)] N0 (Mr 1 ((csX x).filter (kpB (jm g.at_))) ⟨by omega,fun _ _=>trivial⟩ (by omega)) rfl rfl rfl rfl trivial trivial ⟨da aw _ _,trivial⟩ rfl rfl rfl rfl (bz aw rfl) rfl) rfl rfl (ArgG.mk (wn g.at_ hg.at_) rfl ?_);rintro _ rfl;refine OpG.mk _ _ _ 7 (ae aw (l:=(jp 1 ((csX x).filter (kpB (jm g.at_))))) (a:=atF g.at_) underlying67 Ct Ca Fe rfl rfl rfl (ap rfl rfl rfl rfl) rfl (by rw[er];omega) (by rw[er];omega) (by decide)) rfl rfl (RegG.via (fun _ h=>bm [5] 12 (.tree 11 ((jp 1 ((csX x).filter (kpB (jm g.at_)))++[atF g.at_]).map fmA)) (FzP.rows aw (az9.2 rfl) rfl) rfl h) ?_);refine bh (ArgG.mk (T5 0 (jp 1 ((csX x).filter (kpB (jm g.at_)))++[atF g.at_]) (by(rw[az8,er];simp only[a0r,a0s];omega)) (j9 lf (mi hg.at_))) rfl ?_);rintro _ ⟨y,rfl,hy,hd⟩;exact rtP rfl cw rfl ⟨y,0,rfl,hy,fmY (H7 h6 h3 ha (ayh hb h0 hk hd))⟩
theorem IsSh.mono(h:IsSh d r):IsSh (d+1) r:=by
 induction h with
 |mk x h ha ih=>exact .mk x h ih
def aat{a:GEx}(h:IsEx (exA a)):FitEx a:=by obtain⟨y,e,hy⟩:=h.open_;rw[au e];exact hy
theorem y1(l:List PVar)(m:Int):∀a b:List (List AV),ju l (a++b) m=(ju l a m).bind fun x=>(ju l b m).map (x++·)
 |[],b=>by simp[ju]
 |r::a,b=>by
  simp only[List.cons_append,ju,y1 l m a b]
  cases trS l r m with
  |none=>rfl
  |some f=>
   simp only[a03]
   cases ju l a m with
   |none=>rfl
   |some x=>
    simp only[a02,a03]
    cases ju l b m with
    |none=>rfl
    |some y=>rfl
theorem Rh(l:List PVar)(m:Int)(r:List AV):ju l [r] m=(trS l r m).map fun f=>[f]:=by
 simp only[ju]
 cases trS l r m with
 |none=>rfl
 |some f=>rfl
section
variable{l:List PVar}{m:Int}{es:List (List AV)}{k:Nat}
def u7(hk:k<es.length)(h:ju l (es.take k) m=some (L.map fmA))(hf:trS l es[k] m=some (fmA f)):ju l (es.take (k+1)) m=some ((L++[f]).map fmA):=by grind[a0g,y1,Rh]
def u9(hk:k<es.length)(hf:trS l es[k] m=none):ju l es m=none:=by have e:es=es.take k++([es[k]]++es.drop (k+1)):=(by rw[List.singleton_append,<-a00 hk,List.take_append_drop]);rw[e,y1,y1,Rh,hf];cases ju l (es.take k) m<;>rfl
def zy(hk:¬k<es.length)(h:ju l (es.take k) m=some (L.map fmA)):ju l es m=some (L.map fmA):=by rwa [a0x (by omega)]at h
def amm(ho:x.op_=18\/x.op_=19)(h:ju l x.b_ m=some (L.map fmA))(hk:(if(x.op_==18)=pe m then(0:Int)else 1)=kd):trS l (exA x) m=some (fmA ⟨kd,zAt,L.map fmA⟩):=by rw[tj,a0d ho,h,a02,hk]
def Ri(ho:x.op_=18\/x.op_=19)(h:ju l x.b_ m=none):trS l (exA x) m=none:=by rw[tj,a0d ho,h];rfl
theorem Yy(ho:x.op_=20)(ha:x.b_.length=1):trS l (exA x) m=trS l (x.b_[0]'(by omega)) (Iz m):=by obtain⟨r,hr⟩:=a01.1 ha;have e:x.b_[0]'(by omega)=r:=(by simp[hr]);rw[tj,a0c (by omega),a0d ho,e,hr,Rh];cases trS l r (Iz m)<;>rfl
def acy{a0:GEx}(ho:x.op_=17)(ha:x.b_=[exA a0])(hn:HasN (exA a0)):trS l (exA x) m=some (fmA (cnF (pe m))):=by simp_all [tj]
def amn{a0:GEx}{y:GFm}(ho:x.op_=17)(ha:x.b_=[exA a0])(hn:¬HasN (exA a0))(hb:pe m=b)(hy:lsF (if b=true then 1 else 0) ((jp (if b=true then 0 else 1) (srtU (bl [exA a0]))).map fmA)=fmA y):trS l (exA x) m=some (fmA y):=by rw[tj,a0c (by omega),a0c (by omega),a0d ho,a0c (by rintro⟨r,hr,h⟩;rw[ha,az9]at hr;subst hr;exact hn h),hb,ha,<-hy];cases b<;>simp[mw]
theorem Jb(ho:10<=x.op_/\x.op_<=16):trS l (exA x) m=cmO l x m:=by rw[tj,a0c (by omega),a0c (by omega),a0c (by omega)];rfl
theorem Vs(h:CondE l (exA x)):10<=x.op_/\x.op_<=20:=by
 generalize e:exA x=r at h
 cases h with
 |bin y h hl ha=>rw[au e];omega
 |not y h hl ha=>rw[au e];omega
 |isn y h hl ha=>rw[au e];omega
 |like y a b h ha hb ho _=>rw[au e];omega
 |cmp y a b h ha h0 h1 hs=>rw[au e];omega
theorem Vv(h:CondE l (exA x))(ho:x.op_=18\/x.op_=19):x.b_.length=2/\∀r∈x.b_,CondE l r:=by
 generalize e:exA x=r at h
 cases h with
 |bin y h hl ha=>rw[au e];exact⟨hl,ha⟩
 |not y h hl ha=>rw[au e]at ho;omega
 |isn y h hl ha=>rw[au e]at ho;omega
 |like y a b h ha hb ho' _=>rw[au e]at ho;omega
 |cmp y a b h ha h0 h1 hs=>rw[au e]at ho;omega
theorem Vu(h:CondE l (exA x))(ho:x.op_=20):x.b_.length=1/\∀r∈x.b_,CondE l r:=by
 generalize e:exA x=r at h
 cases h with
 |not y h hl ha=>rw[au e];exact⟨hl,ha⟩
 |bin y h hl ha=>rw[au e]at ho;omega
 |isn y h hl ha=>rw[au e]at ho;omega
 |like y a b h ha hb ho' _=>rw[au e]at ho;omega
 |cmp y a b h ha h0 h1 hs=>rw[au e]at ho;omega
theorem Vw(h:CondE l (exA x))(ho:x.op_=17):x.b_.length=1/\∀r∈x.b_,OpE l 11 r:=by
 generalize e:exA x=r at h
 cases h with
 |isn y h hl ha=>rw[au e];exact⟨hl,ha⟩
 |bin y h hl ha=>rw[au e]at ho;omega
 |not y h hl ha=>rw[au e]at ho;omega
 |like y a b h ha hb ho' _=>rw[au e]at ho;omega
 |cmp y a b h ha h0 h1 hs=>rw[au e]at ho;omega
theorem Vt(h:CondE l (exA x))(ho:x.op_<=16):∃a0 a1,x.b_=[exA a0,exA a1]/\OpE l 11 (exA a0)/\(x.op_≠16->OpE l 11 (exA a1))/\(x.op_=16->a1.op_=1/\a1.j_.c_=2)/\(x.op_≠16->aut l a0 a1):=by
 generalize e:exA x=r at h
 cases h with
 |like y a b h ha hb h2 _=>rw[au e];exact⟨a,b,ha,h2,fun g=>absurd h g,fun _=>⟨hb.1,hb.2.1⟩,fun g=>absurd h g⟩
 |cmp y a b h ha h0 h1 hs=>rw[au e];exact⟨a,b,ha,h0,fun _=>h1,fun g=>by omega,fun _=>hs⟩
 |bin y h hl ha=>rw[au e]at ho;omega
 |not y h hl ha=>rw[au e]at ho;omega
 |isn y h hl ha=>rw[au e]at ho;omega
end
def Le{η:bo} :FzP fp η (.agg [vI k,vI 0,vI 0,vI 0,vI 0,.v (.slice none 0 0),vI 0,vI 0,vB false,.v (.string ⟨#[]⟩),.tree 11 (L.map fmA)]) (.agg (fmA ⟨k,zAt,L.map fmA⟩)):=by have h:=wu (fp:=fp) (η:=η) (k:=k) (rs:=L.map fmA) (by simp[cj,AV.pureB]);simp only[fmA,ip]at h ⊢;exact h
theorem U0(h0:L.length<=140737488355328)(h:∀x∈L,FitFm x):FitFm ⟨k,zAt,L.map fmA⟩:=⟨ub,by show(L.map fmA).length<=_;rw[a0b];exact h0,fun r hr=>by obtain⟨x,hx,rfl⟩:=a0v.1 hr;exact B9 (h x hx)⟩
def afl:ca prog 136=true:=by kernel_rfl
def sz32:am prog 32=some 8:=by kernel_rfl
def aui:bv prog 32=some (.agg #[.int .i64 0,.string ⟨#[]⟩,.string ⟨#[]⟩,.int .i64 0,.int .i64 0,.int .i64 0,.string ⟨#[]⟩,.slice none 0 0]):=by kernel_rfl
def Tm:PRet prog 180 [vI 0] (fun q=>q=vI 1):=ovT [5] [] func180 rfl rfl (OpG.lk (vv (u:=0) (r:=⟨[],[],vI 1,0⟩) rfl) (rV rfl rfl rfl))
def Tl:PRet prog 180 [vI 1] (fun q=>q=vI 0):=ovT [5] [] func180 rfl rfl (OpG.lk (vv (u:=0) (r:=⟨[],[],vI 0,0⟩) rfl) (rV rfl rfl rfl))
def Tk:PRet prog 180 [vI 2] (fun q=>q=vI 3):=ovT [5] [] func180 rfl rfl (OpG.lk (vv (u:=0) (r:=⟨[],[],vI 3,0⟩) rfl) (rV rfl rfl rfl))
def Tj:PRet prog 180 [vI 3] (fun q=>q=vI 2):=ovT [5] [] func180 rfl rfl (OpG.lk (vv (u:=0) (r:=⟨[],[],vI 2,0⟩) rfl) (rV rfl rfl rfl))
def Ti(m:Int)(hm:0<=m/\m<=3):PRet prog 180 [vI m] (fun q=>q=vI (Iz m)):=by obtain rfl|rfl|rfl|rfl:m=0\/m=1\/m=2\/m=3:=(by omega);exact Tm;exact Tl;exact Tk;exact Tj
def aid(kd:Int)(vs:List Int)(h4:bn vs (fun y=>True))(hvl:vs.length<=100000):PRet prog 184 [vI kd,.tree 1 (vs.map iA)] (fun q=>q=.tree 11 ((jp kd vs).map fmA)):=by refine ovT [18] [] func184 rfl rfl (LenG.of ?_);refine LpG.via (fun _ h=>bu 5 11 rfl 1 rfl h) (LpG.on (fun k0:KL GFm=>(⟨fL [(0,vI kd),(5,.sl 0 k0.L.length 0 k0.L.length),(8,.tree 1 (vs.map iA)),(9,vI vs.length),(10,vI k0.k)],hLz [(0,⟨k0.L.length,rF fmA k0.L,11,Nat.beq k0.L.length 0⟩)],1⟩:St)) (fun k0=>(vs.length-k0.k)) (fun k0=>(k0.k<=vs.length/\(k0.L=jp kd (vs.take k0.k)/\k0.L.length=k0.k))) (⟨0,[]⟩:KL GFm) (cnS (by rfl) (hpS (aa aw _ _) (by rfl) trivial)) ⟨a0h _,⟨rfl,rfl⟩⟩ ?_);rintro k0 h2;have hgr_k0:vs.length<=140737488355328:=h4.1;obtain⟨hle_k0,h0⟩:=h2;apply cL<;>intro h1;have hl2:=h0.2;refine IdxG.of ‹_› ?_;obtain⟨_,rfl,h3⟩:=wn (vAt kd vs[k0.k]) q9;refine OpG.lk (di afk (.cons xy .nil) h3) (OpG.mk _ _ _ 2 (ae aw (a:=(atF (vAt kd vs[k0.k]))) underlying67 Ct Ca Fe rfl rfl rfl (ap rfl rfl rfl rfl) rfl (by omega) (by omega) (by unfold TV;omega)) rfl rfl ?_);refine⟨by omega,⟨(⟨k0.k+1,k0.L++[(atF (vAt kd vs[k0.k]))]⟩:KL GFm),(nsA ‹_›),(cO (.cons rfl rfl (.cons (by(rw[az8];rfl)) rfl (.cons rfl rfl (.cons rfl rfl (.cons rfl rfl .nil))))) (.cons (by(rw[az8];rfl)) rfl (aa aw _ _) .nil)),?_⟩⟩;exact⟨‹_›,⟨by show _++[_]=_;rw[h0.1,a0g h1];unfold jp;rw[a0u];rfl,by show(_++[_]).length=_;rw[az8,h0.2];rfl⟩⟩;refine rtA rfl ⟨[0],FzP.rows aw (az9.2 rfl) rfl⟩ ?_;have e:=h0.1;rw[a0x (by omega)]at e;rw[e]
def Ja(x:GEx)(hx:FitEx x)(m:Int)(hm:0<=m/\m<=3)(l:List PVar)(hl:bn l (fun _=>True))(hc:CondE l (exA x))(hk:IsSh 12 (exA x))(ih:∀r∈x.b_,CondE l r->IsSh 12 r->∀m,(0<=m/\m<=3)->PRet prog 136 [.tp [.tree 5 (l.map vA)] 0,.agg (rwA r),vI m] (fun q=>∃(f:GFm) (e:Int),q=.tup [.agg (fmA f),vI e]/\FitFm f/\FmR (trS l r m) f e)):PRet prog 136 [.tp [.tree 5 (l.map vA)] 0,.agg (exA x),vI m] (fun q=>∃(f:GFm) (e:Int),q=.tup [.agg (fmA f),vI e]/\FitFm f/\FmR (trS l (exA x) m) f e):=by
 have hco:=Vs hc;obtain⟨d11,hd11,hsh0,h4⟩:=iq hk;obtain rfl:d11=11:=by omega
 have hh:∀r∈x.b_,IsSh 12 r:=fun r hr=>(h4 r hr).mono;refine ovT [58,80,88] [15,26] func136 rfl rfl (cE (fun h=>cE (fun _=>?_) fun _=>by omega) fun h=>cE (fun _=>?_) fun _=>?_);rotate_left 2
 ·refine cE (fun h=>?_) (fun h=>cE (fun h=>?_) fun h=>cE (fun _=>by omega) fun h=>?_)
  ·have h9:=Vu hc h;refine IdxG.of (j:=0) (by omega) (OpG.lk (co oe rfl (jj (hx.b_.2 _ (az4 _)))) (ArgG.mk (Ti m hm) rfl ?_));rintro _ rfl;refine ArgG.mk (ih x.b_[0] (az4 _) (h9.2 _ (az4 _)) (hh _ (az4 _)) (Iz m) (by unfold Iz;split<;>(try split)<;>(try split)<;>omega)) (by simp[cj,AV.pureB,kj (hx.b_.2 _ (az4 _))]) ?_;rintro _ ⟨f4,e4,rfl,hn,ho⟩;exact⟨rfl,.inr rfl,_,d8 rfl (af6.cellN f136 cw rfl rfl rfl rfl rfl ⟨[],FzP.pure rfl⟩) (af6.tmp ⟨[],FzP.pure rfl⟩),f4,e4,rfl,hn,by rw[Yy h h9.1];exact ho⟩
  ·have hl1:=(Vw hc h).1;obtain⟨a0,h3,ha⟩:=(hx.b_.2 (x.b_[0]'(by omega)) (az4 _)).open_;have h5:x.b_=[exA a0]:=c8 (by omega) h3
   have hp:(bl [exA a0]).length<=4096:=by have h:=za (d:=11) (es:=[exA a0]) (fun r hr=>by rw[az9.1 hr];exact⟨ki ha,h4 _ (by rw[h5];simp)⟩);exact a0m h (show 1*2^12<=4096 by decide)
   have hsl:=dh (bl [exA a0]);refine cz (j:=0) (by omega) h3 (ArgG.mk (vt (exA a0) (ki ha)) rfl ?_);rintro _ ⟨bN,rfl,hi⟩;apply cB<;>intro h6;refine ArgG.mk (pd m) rfl ?_;rintro _ rfl;refine ArgG.mk (sr ((pe m))) rfl ?_;rintro _ rfl;exact rtP rfl cw rfl ⟨cnF (pe m),0,rfl,fo,fmY (acy h h5 (hi.1 h6))⟩;refine ArgG.mk (pd m) rfl ?_;rintro _ rfl;apply cB<;>intro hb
   all_goals
    refine cz (j:=0) (by omega) h3 (OpG.nw (cy (dn underlying25 sz32 aui rfl rfl rfl rfl) (fun η' h=>be (f:=exA) (l:=[a0]) (az9.2 rfl) h rfl rfl rfl rfl rfl (fun a _=>⟨rfl,rfl⟩))) rfl ?_)
    refine ArgG.mk (Kq [exA a0] ⟨by simp,fun r hr=>by rw[az9.1 hr];exact ki ha⟩ (a0m hp (by decide))) rfl ?_
    rintro _ rfl
    refine ArgG.mk (aid _ (srtU (bl [exA a0])) ⟨by omega,fun _ _=>trivial⟩ (by omega)) rfl ?_
    rintro _ rfl
    refine ArgG.mk (T5 _ _ (by rw[er];omega) lf) rfl ?_
    rintro _ ⟨y,rfl,hy,hq⟩
    exact rtP rfl cw rfl ⟨y,0,rfl,hy,fmY (amn h h5 (fun h=>by rw[hi.2 h]at h6;cases h6) hb hq)⟩
  have hd:10<=x.op_/\x.op_<=16:=by omega
  obtain⟨a0,a1,h5,hs,ht,_,_⟩:=Vt hc hd.2;have m0:exA a0∈x.b_:=by rw[h5];simp
  have m1:exA a1∈x.b_:=by rw[h5];simp
  refine bh (ArgG.mk (H4 x hx m l hl a0 a1 (aat (hx.b_.2 _ m0)) (aat (hx.b_.2 _ m1)) h5 hd hs ht (h4 _ m0) (h4 _ m1)) rfl ?_);rintro _ ⟨f,e,rfl,hf,hr⟩;exact rtP rfl cw rfl ⟨f,e,rfl,hf,by rw[Jb hd];exact hr⟩
 all_goals
  have h9:=Vv hc (by omega)
  refine ArgG.mk (pd m) rfl ?_
  rintro _ rfl
  refine⟨rfl,cB (fun h7=>?_) (fun h7=>?_)⟩
  all_goals
   refine LenG.of (LpG.via (fun _ h=>dg 2 10 11 rfl rfl rfl rfl rfl 4 rfl h) ?_)
   refine LpG.on (fun k1:KL GFm=>(⟨fL [(0,.tp [.tree 5 (l.map vA)] 0),(2,vI m),(6,.ptr 1 0 0),(8,.ptr 2 0 0),(27,.tree 8 (x.b_.map rwA)),(28,vI x.b_.length),(29,vI k1.k)],hLz [(1,⟨0,[vI 0,vI 0,vI 0,vI 0,vI 0,.v (.slice none 0 0),vI 0,vI 0,vB false,.v (.string ⟨#[]⟩),.v (.slice none 0 0)],0,false⟩),(2,⟨0,[vI _,vI 0,vI 0,vI 0,vI 0,.v (.slice none 0 0),vI 0,vI 0,vB false,.v (.string ⟨#[]⟩),.sl 3 k1.L.length 0 k1.L.length],0,false⟩),(3,⟨k1.L.length,rF fmA k1.L,11,Nat.beq k1.L.length 0⟩)],4⟩:St)) (fun k1=>(x.b_.length-k1.k)) (fun k1=>(k1.k<=x.b_.length/\(ju l (x.b_.take k1.k) m=some (k1.L.map fmA)/\k1.L.length=k1.k/\∀y∈k1.L,FitFm y))) (⟨0,[]⟩:KL GFm) (cnS rfl (hpR rfl (hpR (by rfl) (hpS (aa aw _ _) (by rfl) trivial)))) ⟨a0h _,⟨by simp[ju],rfl,by simp⟩⟩ ?_
   rintro k1 ⟨hle_k1,h1,hu,hj⟩
   have hgr_k1:x.b_.length<=140737488355328:=hx.b_.1
   apply cL<;>intro h0
   ·obtain⟨x1,h2,hx1⟩:=(hx.b_.2 _ (az4 h0)).open_
    have he:exA x1∈x.b_:=h2▸az4 h0
    refine cz h0 h2 (ArgG.mk (ih (exA x1) he (h9.2 _ he) (hh _ he) m hm) rfl ?_)
    rintro _ ⟨f1,e1,rfl,hv,hg⟩
    apply cN<;>intro h8
    ·exact rtC rfl cw rfl ⟨[],je⟩ ⟨cnF true,e1,rfl,fo,fmN (Ri (by omega) (u9 h0 (by rw[h2];exact(hg.2 h8).1))) (hg.2 h8).2⟩
    refine OpG.mk _ _ _ 7 (ae aw (a:=f1) underlying67 Ct Ca Fe rfl rfl rfl (ap rfl rfl rfl rfl) rfl (by omega) (by omega) (by unfold TV;omega)) rfl rfl ⟨by omega,⟨(⟨k1.k+1,k1.L++[f1]⟩:KL GFm),(nsA ‹_›),(cnS rfl (hpR rfl (.cons (by(rw[az8];rfl)) rfl rfl (.cons (by(rw[az8];rfl)) rfl (aa aw _ _) .nil)))),?_⟩⟩
    exact⟨‹_›,u7 h0 h1 (by rw[h2];exact hg.1 (by omega)),by show(_++[_]).length=_;rw[az8,hu];rfl,j9 hj hv⟩
   refine RegG.via (fun _ h=>dt [3] 2 0 0 _ _ rfl rfl (.keep (.keep (.keep (.keep (.keep (.keep (.keep (.keep (.keep (.keep (.fz (FzP.rows aw (az9.2 rfl) rfl) (.same _)))))))))))) rfl h) (bh ?_)
   exact rtC rfl cw rfl ⟨[],Le⟩ ⟨⟨_,zAt,k1.L.map fmA⟩,0,rfl,U0 (by omega) hj,fmY (amm (by omega) (zy h0 h1) (by first|rw[a0d (by simpa using h7)]|rw[a0c (by simpa using h7)]))⟩
def Aa(l:List PVar)(hl:bn l (fun _=>True))(r:List AV)(hr:IsEx r):CondE l r->IsSh 12 r->∀m,(0<=m/\m<=3)->PRet prog 136 [.tp [.tree 5 (l.map vA)] 0,.agg (rwA r),vI m] (fun q=>∃(f:GFm) (e:Int),q=.tup [.agg (fmA f),vI e]/\FitFm f/\FmR (trS l r m) f e):=IsEx.ind (M:=fun r=>CondE l r->IsSh 12 r->∀m,(0<=m/\m<=3)->PRet prog 136 [.tp [.tree 5 (l.map vA)] 0,.agg (rwA r),vI m] (fun q=>∃(f:GFm) (e:Int),q=.tup [.agg (fmA f),vI e]/\FitFm f/\FmR (trS l r m) f e)) (fun x hx ih hc hs m hm=>Ja x hx m hm l hl hc hs ih) hr
def Oj(x:GEx)(hx:FitEx x)(l:List PVar)(hl:bn l (fun y=>True))(hc:CondE l (exA x))(h4:IsSh 12 (exA x)):PRet prog 79 [.agg (exA x),.tree 5 (l.map vA)] (fun q=>∃(f:GFm) (e:Int),q=.tup [.agg (fmA f),vI e]/\FitFm f/\FmR (trS l (exA x) 0) f e):=by
 refine ovT [10] [] func79 rfl rfl ?_;obtain⟨_,⟨f,e,rfl,hf,hr⟩,h0⟩:=Aa l hl (exA x) (ki hx) hc h4 0 (by omega);refine OpG.mk _ _ _ 3 (ir [2] afl rfl (fun i h h'=>match i,h with|0,_=>FzP.ptr (b:=⟨0,[.tree 5 (l.map vA)],0,false⟩) (az9.2 rfl) rfl rfl rfl rfl (fun i h1 h2=>match i,h1 with|0,_=>FzP.pure rfl)|1,_=>FzP.pure rfl|2,_=>FzP.pure rfl) (fun id h3=>by simp at h3;rcases h3 with rfl;rfl) h0) rfl rfl ?_;first|refine rtP rfl cw rfl ?_
 exact⟨f,e,rfl,hf,hr⟩
def th(x:GEx)(hx:FitEx x)(l:List PVar)(hl:bn l (fun y=>True))(hc:CondE l (exA x))(h4:IsSh 12 (exA x)):PRet prog 125 [.agg (exA x),.tree 5 (l.map vA)] (fun q=>∃(f:GFm) (e:Int),q=.tup [.agg (fmA f),vI e]/\FitFm f/\FmR (trS l (exA x) 2) f e):=by
 refine ovT [10] [] func125 rfl rfl ?_;obtain⟨_,⟨f,e,rfl,hf,hr⟩,h0⟩:=Aa l hl (exA x) (ki hx) hc h4 2 (by omega);refine OpG.mk _ _ _ 3 (ir [2] afl rfl (fun i h h'=>match i,h with|0,_=>FzP.ptr (b:=⟨0,[.tree 5 (l.map vA)],0,false⟩) (az9.2 rfl) rfl rfl rfl rfl (fun i h1 h2=>match i,h1 with|0,_=>FzP.pure rfl)|1,_=>FzP.pure rfl|2,_=>FzP.pure rfl) (fun id h3=>by simp at h3;rcases h3 with rfl;rfl) h0) rfl rfl ?_;first|refine rtP rfl cw rfl ?_
 exact⟨f,e,rfl,hf,hr⟩
structure KI2 where
 k:Nat
 L:List Int
 put:Bool
def C3(l:List Int)(n:Int):List Int:=l.filter (fun y=>decide (y<n))++[n]++l.filter (fun y=>decide (y>n))
theorem Si(l:List Int)(n:Int):C3 (srtU l) n=srtU (l++[n]):=by refine Xr ?_ rc fun y=>?_;unfold C3;have h:=rc (l:=l);rw[List.append_assoc,List.pairwise_append,List.singleton_append,List.pairwise_cons];refine⟨h.filter _,⟨fun a ha=>?_,h.filter _⟩,fun a ha b hb=>?_⟩;have:=(List.mem_filter.1 ha).2;simpa using this;have h1:=(List.mem_filter.1 ha).2;simp only[a06]at h1;rcases a0w.1 hb with rfl|hb;exact h1;have h2:=(List.mem_filter.1 hb).2;simp only[a06]at h2;omega;unfold C3;rw[lh,a0a,a0a,a0a,List.mem_filter,List.mem_filter,az9,lh];simp only[a06];by_cases h:y=n;subst h;simp;constructor;rintro((⟨h1,_⟩|h1)|⟨h1,_⟩);exact .inl h1;exact absurd h1 h;exact .inl h1;rintro(h1|h1);rcases Int.lt_or_gt_of_ne h with h2|h2;exact .inl (.inl ⟨h1,h2⟩);exact .inr ⟨h1,h2⟩;exact absurd h1 h
theorem pn{l:List Int}{k:Nat}(h:k<l.length):(l.take (k+1)).filter p=(l.take k).filter p++(if p l[k]=true then[l[k]]else[]):=by grind[a0g]
def sj{l:List Int}{k:Nat}:((l.take k).filter p).length<=l.length:=a0m (List.length_filter_le _ _) (by rw[List.length_take];omega)
theorem six{P:Nat->Prop}(h0:P 0)(h1:P 1)(h2:P 2)(h3:P 3)(h4:P 4)(h5:P 5):∀{j},j<6->P j
 |0,_=>h0|1,_=>h1|2,_=>h2|3,_=>h3|4,_=>h4|5,_=>h5
def aoh(h:j<6)(ho:op=10+((j:Nat):Int)):[11,10,15,14,13,12][j]'h=s7 op:=by subst ho;exact six (P:=fun j=>∀h:j<6,[11,10,15,14,13,12][j]'h=s7 (10+((j:Nat):Int))) (fun _=>rfl) (fun _=>rfl) (fun _=>rfl) (fun _=>rfl) (fun _=>rfl) (fun _=>rfl) h h
def anq(h:j<6)(ho:op=10+((j:Nat):Int)):[10,11,14,15,12,13][j]'h=yo op:=by subst ho;exact six (P:=fun j=>∀h:j<6,[10,11,14,15,12,13][j]'h=yo (10+((j:Nat):Int))) (fun _=>rfl) (fun _=>rfl) (fun _=>rfl) (fun _=>rfl) (fun _=>rfl) (fun _=>rfl) h h
def aro(h:j<6)(ho:op=10+((j:Nat):Int)):[(c==0),(c !=0),decide (c<0),decide (c<=0),decide (c>0),decide (c≥0)][j]'h=og op c:=by subst ho;exact six (P:=fun j=>∀h:j<6,[(c==0),(c !=0),decide (c<0),decide (c<=0),decide (c>0),decide (c≥0)][j]'h=og (10+((j:Nat):Int)) c) (fun _=>rfl) (fun _=>rfl) (fun _=>rfl) (fun _=>rfl) (fun _=>rfl) (fun _=>rfl) h h
theorem Rd(h:j<6)(ho:op=10+((j:Nat):Int))(hb:b=(op==11||op==14||op==15)):(⟨0,[0,0,2,3,3,2][j]'h,b,s⟩:PTest)=qt op s:=by subst ho;subst hb;exact six (P:=fun j=>∀h:j<6,(⟨0,[0,0,2,3,3,2][j]'h,((10+((j:Nat):Int))==11||(10+((j:Nat):Int))==14||(10+((j:Nat):Int))==15),s⟩:PTest)=qt (10+((j:Nat):Int)) s) (fun _=>rfl) (fun _=>rfl) (fun _=>rfl) (fun _=>rfl) (fun _=>rfl) (fun _=>rfl) h h
theorem apg(h:j<4)(hm:m=((j:Nat):Int)):[1,0,3,2][j]'h=Iz m:=by
 subst hm;match j,h with
 |0,_=>rfl
 |1,_=>rfl
 |2,_=>rfl
 |3,_=>rfl
theorem am5:srtU []=[]:=a0y (Nat.le_zero.1 (dh []))
def Uu{η:bo}:FzP fp η (.v (.slice none 0 0)) (isA (srtU [])):=by rw[am5];exact FzP.nil
theorem Ge{l:List α}{k:Nat}(a:List α)(h:k<l.length):a++l.take k++[l[k]]=a++l.take (k+1):=by rw[a0g h,List.append_assoc]
theorem S7(a b:List (List AV)):bl (a++b)=bl a++bl b:=by rw[d4,d4,d4,List.flatMap_append]
def C5{l:List (List AV)}{k:Nat}(h:k<l.length):bl (l.take (k+1))=bl (l.take k)++d5 l[k]:=by rw[a0g h,S7];simp only[bl,List.append_nil]
def G3{l:List (List AV)}{k:Nat}:(bl (l.take k)).length<=(bl l).length:=by rw[d4,d4];exact v8 _ _ _
def S8{l:List (List AV)}{k:Nat}(h:k<l.length):(d5 l[k]).length<=(bl l).length:=by rw[d4];exact zi d5 (az4 h)
def L8(a b:List Int):srtU (a++srtU b)=srtU (a++b):=pb fun y=>by rw[a0a,a0a,lh]
structure MkI(l:List Int)(v:Int)(s:KI2):Prop where
 no:s.put=false->s.L=l.take s.k/\∀y∈l.take s.k,y<v
 yes:s.put=true->s.L=C3 (l.take s.k) v/\∀y∈l.drop s.k,y > v
section
variable{l:List Int}{v:Int}{s:KI2}
def mk0:MkI l v ⟨0,[],false⟩:=⟨fun _=>⟨rfl,by simp⟩,fun h=>by cases(show false=true from h)⟩
theorem U8{l:List Int}(h:∀y∈l,p y=true):l.filter p=l:=List.filter_eq_self.2 h
theorem aej{l:List Int}(h:∀y∈l,p y=false):l.filter p=[]:=List.filter_eq_nil_iff.2 fun y hy=>by rw[h y hy];decide
theorem Sj{l:List Int}(h:∀y∈l,y<v):C3 l v=l++[v]:=by grind[C3,U8,aej]
theorem Sl{a b:List Int}(hb:∀y∈b,y>v):C3 (a++b) v=C3 a v++b:=by unfold C3;rw[List.filter_append,List.filter_append,aej (l:=b) (fun y hy=>by have:=hb y hy;simp;omega),U8 (l:=b) (fun y hy=>by simpa using hb y hy)];simp
theorem anz{a:List Int}:C3 (a++[v]) v=C3 a v:=by unfold C3;rw[List.filter_append,List.filter_append];simp
def N5(ha:l.Pairwise (·<·)){k:Nat}(hk:k<l.length):∀y∈l.drop (k+1),y>l[k]:=by grind[a0p,List.pairwise_iff_getElem]
def mkA(h:MkI l v s)(hp:s.put=true)(hk:s.k<l.length):MkI l v ⟨s.k+1,s.L++[l[s.k]],true⟩:=by obtain⟨e,g⟩:=h.yes hp;have hg:=g l[s.k] (by rw[a00 hk];exact List.mem_cons_self);refine⟨fun h=>(by cases(show true=false from h)),fun _=>⟨?_,fun y hy=>g y (by rw[a00 hk];exact List.mem_cons_of_mem _ hy)⟩⟩;show s.L++[l[s.k]]=C3 (l.take (s.k+1)) v;rw[a0g hk,Sl (by simpa using hg),e]
def mkB(h:MkI l v s)(hp:s.put=false)(hk:s.k<l.length)(hc:l[s.k]<v):MkI l v ⟨s.k+1,s.L++[l[s.k]],false⟩:=by obtain⟨e,g⟩:=h.no hp;refine⟨fun _=>⟨?_,?_⟩,fun h=>by cases(show false=true from h)⟩;show s.L++[l[s.k]]=_;rw[a0g hk,e];intro y hy;have hy:y∈l.take (s.k+1):=hy;rw[a0g hk]at hy;rcases a0a.1 hy with hy|hy;exact g y hy;rw[az9.1 hy];exact hc
def mkC(ha:l.Pairwise (·<·))(h:MkI l v s)(hp:s.put=false)(hk:s.k<l.length)(hc:l[s.k]>v):MkI l v ⟨s.k+1,s.L++[v]++[l[s.k]],true⟩:=by obtain⟨e,g⟩:=h.no hp;refine⟨fun h=>(by cases(show true=false from h)),fun _=>⟨?_,fun y hy=>by have:=N5 ha hk y hy;omega⟩⟩;show s.L++[v]++[l[s.k]]=C3 (l.take (s.k+1)) v;rw[a0g hk,Sl (by simpa using hc),Sj g,e]
def mkD(ha:l.Pairwise (·<·))(h:MkI l v s)(hp:s.put=false)(hk:s.k<l.length)(hc:l[s.k]=v):MkI l v ⟨s.k+1,s.L++[l[s.k]],true⟩:=by obtain⟨e,g⟩:=h.no hp;refine⟨fun h=>(by cases(show true=false from h)),fun _=>⟨?_,fun y hy=>by have:=N5 ha hk y hy;omega⟩⟩;show s.L++[l[s.k]]=C3 (l.take (s.k+1)) v;rw[a0g hk,hc,anz,Sj g,e]
def mkA2(h:MkI l v s)(hp:s.put=true)(hk:s.k<l.length):MkI l v ⟨s.k+1,s.L++[l[s.k]],s.put⟩:=by rw[hp];exact mkA h hp hk
def mkB2(h:MkI l v s)(hp:s.put=false)(hk:s.k<l.length)(hc:l[s.k]<v):MkI l v ⟨s.k+1,s.L++[l[s.k]],s.put⟩:=by rw[hp];exact mkB h hp hk hc
def al9(h:¬(a.c_=2\/a.c_=3\/a.c_=4))(h2:a.c_=6\/a.c_=7):srtU ([]++[a.v_]++[a.o_])=jm a:=by rw[<-va_p h h2];exact pb fun y=>by simp[or_comm]
def va_2(h:¬(a.c_=2\/a.c_=3\/a.c_=4))(h2:¬(a.c_=6\/a.c_=7)):srtU ([]++[a.o_])=jm a:=va_1 h h2
def agl(h:a.c_=2\/a.c_=3\/a.c_=4):srtU (ek (tmA a.q_))=jm a:=by rw[jm,a0d h]
def mkE(h:MkI l v s)(hk:¬s.k<l.length)(hp:s.put=true):s.L=C3 l v:=by have:=(h.yes hp).1;rwa [a0x (by omega)]at this
def mkF(h:MkI l v s)(hk:¬s.k<l.length)(hp:s.put=false):s.L++[v]=C3 l v:=by obtain⟨e,g⟩:=h.no hp;rw[a0x (by omega)]at e g;rw[e,Sj g]
theorem ady(h:MkI l v s):s.L.length<=l.length+1+l.length:=by
 cases hp:s.put with
 |false=>rw[(h.no hp).1,List.length_take];omega
 |true=>
  rw[(h.yes hp).1];unfold C3
  have h1:=sj (p:=fun y=>decide (y<v)) (l:=l) (k:=s.k)
  have h2:=sj (p:=fun y=>decide (y>v)) (l:=l) (k:=s.k)
  simp only[az8,a0r,a0s];omega
end
abbrev boA(b:Bool):List AV:=[.v (.bool b)]
def tw:ca prog 115=true:=by kernel_rfl
def aso:ca prog 173=true:=by kernel_rfl
def y9(op:Int)(ho:10<=op/\op<=15):PRet prog 111 [vI op] (fun r=>∃p:Int,r=vI p/\p=op-10):=ovT [] [] func111 rfl rfl (ks (ULp.step (cT ⟨(by first|assumption|omega|decide),cB (fun h0=>by have h1:(10:Int)=(op:Int):=(by simpa using h0);exact rV rfl rfl ⟨_,rfl,by omega⟩) (fun h0=>have h1:¬((10:Int)=(op:Int)):=(by simpa using h0);⟨by omega,ULp.step (cT ⟨(by first|assumption|omega|decide),cB (fun h0=>by have h1:(11:Int)=(op:Int):=(by simpa using h0);exact rV rfl rfl ⟨_,rfl,by omega⟩) (fun h0=>have h1:¬((11:Int)=(op:Int)):=(by simpa using h0);⟨by omega,ULp.step (cT ⟨(by first|assumption|omega|decide),cB (fun h0=>by have h1:(12:Int)=(op:Int):=(by simpa using h0);exact rV rfl rfl ⟨_,rfl,by omega⟩) (fun h0=>have h1:¬((12:Int)=(op:Int)):=(by simpa using h0);⟨by omega,ULp.step (cT ⟨(by first|assumption|omega|decide),cB (fun h0=>by have h1:(13:Int)=(op:Int):=(by simpa using h0);exact rV rfl rfl ⟨_,rfl,by omega⟩) (fun h0=>have h1:¬((13:Int)=(op:Int)):=(by simpa using h0);⟨by omega,ULp.step (cT ⟨(by first|assumption|omega|decide),cB (fun h0=>by have h1:(14:Int)=(op:Int):=(by simpa using h0);exact rV rfl rfl ⟨_,rfl,by omega⟩) (fun h0=>have h1:¬((14:Int)=(op:Int)):=(by simpa using h0);⟨by omega,ULp.step (cT ⟨(by first|assumption|omega|decide),cE (fun h1=>rV rfl rfl ⟨_,rfl,by omega⟩) (fun h1=>⟨by omega,ULp.step (cF (rV rfl rfl ⟨_,rfl,by omega⟩))⟩)⟩)⟩)⟩)⟩)⟩)⟩)⟩)⟩)⟩)⟩)⟩)))
def Jw(op:Int)(ho:10<=op/\op<=15):PRet prog 118 [vI op] (fun q=>q=vI (s7 op)):=by obtain⟨j,hj,h0⟩:∃j:Nat,op=10+((j:Nat):Int)/\j<6:=⟨(op-10).toNat,by omega,by omega⟩;refine ovT [3] [] func118 rfl rfl (OpG.nw (cy (dn underlying53 sz3 zr3 rfl rfl rfl rfl) (fun η' h=>be (f:=iA) (l:=[11,10,15,14,13,12]) (az9.2 rfl) h rfl rfl rfl rfl rfl (fun a _=>⟨rfl,rfl⟩))) rfl (ArgG.mk ((show PRet prog 111 [vI op] (fun r=>r=vI j)by obtain⟨_,⟨p,rfl,hp⟩,h⟩:=y9 op (by omega);exact⟨_,by rw[show p=((j:Nat):Int)by omega],h⟩)) rfl ?_));rintro _ rfl;exact IdxG.of ‹_› (rV rfl rfl (congrArg vI (aoh h0 hj)))
def Jm(op:Int)(ho:10<=op/\op<=15):PRet prog 123 [vI op] (fun q=>q=vI (yo op)):=by obtain⟨j,hj,h0⟩:∃j:Nat,op=10+((j:Nat):Int)/\j<6:=⟨(op-10).toNat,by omega,by omega⟩;refine ovT [3] [] func123 rfl rfl (OpG.nw (cy (dn underlying53 sz3 zr3 rfl rfl rfl rfl) (fun η' h=>be (f:=iA) (l:=[10,11,14,15,12,13]) (az9.2 rfl) h rfl rfl rfl rfl rfl (fun a _=>⟨rfl,rfl⟩))) rfl (ArgG.mk ((show PRet prog 111 [vI op] (fun r=>r=vI j)by obtain⟨_,⟨p,rfl,hp⟩,h⟩:=y9 op (by omega);exact⟨_,by rw[show p=((j:Nat):Int)by omega],h⟩)) rfl ?_));rintro _ rfl;exact IdxG.of ‹_› (rV rfl rfl (congrArg vI (anq h0 hj)))
def aow(op:Int)(c:Int)(ho:10<=op/\op<=15):PRet prog 120 [vI op,vI c] (fun q=>q=vB (og op c)):=by obtain⟨j,hj,h0⟩:∃j:Nat,op=10+((j:Nat):Int)/\j<6:=⟨(op-10).toNat,by omega,by omega⟩;refine ovT [17] [] func120 rfl rfl (OpG.nw (cy (dn underlying265 sz4 zr4 rfl rfl rfl rfl) (fun η' h=>be (f:=boA) (l:=[(c==0),(c !=0),decide (c<0),decide (c<=0),decide (c>0),decide (c≥0)]) (az9.2 rfl) h rfl rfl rfl rfl rfl (fun a _=>⟨rfl,rfl⟩))) rfl (ArgG.mk ((show PRet prog 111 [vI op] (fun r=>r=vI j)by obtain⟨_,⟨p,rfl,hp⟩,h⟩:=y9 op (by omega);exact⟨_,by rw[show p=((j:Nat):Int)by omega],h⟩)) rfl ?_));rintro _ rfl;exact IdxG.of (by first|assumption|omega|decide|(show _<6;omega)|(show _<4;omega)) (rV rfl rfl (congrArg vB (aro h0 hj)))
def O6(m:Int)(hm:0<=m/\m<=3):PRet prog 65 [vI m] (fun q=>q=vI (Iz m)):=by obtain⟨j,hj,h0⟩:∃j:Nat,m=((j:Nat):Int)/\j<4:=⟨m.toNat,by omega,by omega⟩;refine ovT [3,5] [] func65 rfl rfl ?_;refine OpG.nw (cy (dn underlying53 sz3 zr3 rfl rfl rfl rfl) (fun η' h=>be (f:=iA) (l:=[1,0,3,2]) (az9.2 rfl) h rfl rfl rfl rfl rfl (fun a _=>⟨rfl,rfl⟩))) rfl ?_;refine OpG.lk (ah underlying53 sz3 rfl rfl hj (by show j<4;exact h0)) ?_;exact rV rfl rfl (congrArg vI (apg h0 hj))
def nv(b:Bool):PRet prog 66 [vB b] (fun q=>q=.agg (fmA (cnF b))):=by refine ovT [] [] func66 rfl rfl (cB (fun h0=>?_) (fun h0=>?_));refine rtK rfl cw rfl ⟨[],je⟩ ?_;(rw[show b=_ from h0];rfl);refine rtK rfl cw rfl ⟨[],je⟩ ?_;(rw[show b=_ from h0];rfl)
def n7(a:GAt)(ha:FitAt a):PRet prog 115 [.agg (atA a)] (fun q=>q=.agg (fmA (atF a))):=ovT [] [] func115 rfl rfl (rtK rfl cw rfl ⟨[],Fu⟩ rfl)
def aiu(kd:Int)(l:List (List AV))(hl:bn l (fun y=>IsFm y))(h1:cj [.tree 11 (l.map rwA)]=true):PRet prog 67 [vI kd,.tree 11 (l.map rwA)] (fun q=>q=.agg (rwA (lsF kd l))):=by refine ovT [] [] func67 rfl rfl (LenG.of ?_);apply cE<;>intro hq7;obtain⟨y,h0,hy⟩:=(hl.2 (l[0]'(by omega)) (az4 _)).open_;refine cz (j:=0) (by omega) h0 (rtK rfl cw rfl ⟨[],FzP.pure rfl⟩ ?_);rw[Z1 (by omega),h0];exact rtK rfl cw rfl ⟨[],wu h1⟩ (congrArg AV.agg (yb (by omega)).symm)
def C9(kd:Int)(L:List GFm)(hl:L.length<=140737488355328)(hL:∀x∈L,FitFm x):PRet prog 67 [.v (.int .i64 kd),.tree 11 (L.map fmA)] (fun q=>∃y:GFm,q=.agg (fmA y)/\FitFm y/\lsF kd (L.map fmA)=fmA y):=by have hf:bn (L.map fmA) (fun y=>IsFm y):=⟨by rw[a0b];exact hl,fun r hr=>by obtain⟨x,hx,rfl⟩:=a0v.1 hr;exact B9 (hL x hx)⟩;have h:=aiu kd (L.map fmA) hf (by simp[cj,AV.pureB]);rw[ip]at h;obtain⟨q,rfl,h⟩:=h;obtain⟨y,e,hy⟩:=(J6 (k:=kd) hf).open_;exact⟨_,⟨y,by rw[e],hy,e⟩,h⟩
def asd(b:Bool):PRet prog 68 [vB b] (fun q=>q=vI (if b=true then 1 else 0)):=ovT [] [] func68 rfl rfl (cB (fun h0=>rV rfl rfl (congrArg vI (by(rw[a0d h0];done)))) (fun h0=>rV rfl rfl (congrArg vI (by(rw[a0c (by rw[h0];decide)];done)))))
def aak(l:List Int)(hl:bn l (fun y=>True))(n:Int):PRet prog 73 [.tree 1 (l.map iA),vI n] (fun q=>q=vB (l.contains n)):=by refine ovT [] [] func73 rfl rfl (LpG.on (fun k0:Nat=>(⟨fL [(0,.tree 1 (l.map iA)),(1,vI n),(5,vI k0)],hLz [],0⟩:St)) (fun k0=>(l.length-k0)) (fun k0=>(k0<=l.length/\∀j (hl:j<l.length),j<k0->¬l[j]=n)) 0 (cnR rfl) ⟨a0h _,fun j _ h=>absurd h (a0i j)⟩ ?_);rintro k0 h2;have hgr_k0:l.length<=140737488355328:=hl.1;obtain⟨hle_k0,h1⟩:=h2;refine LenG.of (cL (fun h3=>?_) (fun hge9=>?_));refine IdxG.of ‹_› (cB (fun h0=>by have h4:(l[k0]:Int)=(n:Int):=(by simpa using h0);exact rV rfl rfl (congrArg vB (List.contains_iff_mem.2 (by rw[<-show l[k0]=n from by simpa using h0];exact az4 h3)).symm)) (fun h0=>have h4:¬((l[k0]:Int)=(n:Int)):=(by simpa using h0);⟨by omega,⟨(k0+1),by omega,(cnR rfl),⟨by omega,fun j hl h=>?_⟩⟩⟩));rcases a0k.1 h with h|rfl;exact h1 j hl h;simpa using h0;exact rV rfl rfl (congrArg vB (Eq.symm (by rw[Bool.eq_false_iff];intro h;obtain⟨j,hj,e⟩:=a0p (List.contains_iff_mem.1 h);exact h1 j hj (by omega) e)))
def awh(l:List Int)(hl:bn l (fun y=>True))(n:Int)(hll:l.length<=4398046511104):PRet prog 116 [.tree 1 (l.map iA),vI n] (fun q=>q=isA (C3 l n)):=by
 refine ovT [] [] func116 rfl rfl (LpG.via (fun _ h=>bu 5 1 rfl 1 rfl h) (LpG.on (fun k0:KL Int=>(⟨fL [(0,.tree 1 (l.map iA)),(1,vI n),(5,.sl 0 k0.L.length 0 k0.L.length),(6,vI k0.k)],hLz [(0,⟨k0.L.length,rF iA k0.L,1,Nat.beq k0.L.length 0⟩)],1⟩:St)) (fun k0=>(l.length-k0.k)) (fun k0=>(k0.k<=l.length/\(k0.L=(l.take k0.k).filter (fun y=>decide (y<n))))) (⟨0,[]⟩:KL Int) (cnS (by rfl) (hpS (aa aj _ _) (by rfl) trivial)) ⟨a0h _,rfl⟩ ?_));rintro k0 h6;have hgr_k0:l.length<=140737488355328:=hl.1
 obtain⟨hle_k0,h0⟩:=h6;refine LenG.of (cL (fun h4=>?_) (fun hge11=>?_))
 ·have h9:k0.L.length<=l.length:=by rw[h0];exact sj
  refine IdxG.of ‹_› (cB (fun h2=>?_) (fun h2=>?_))
  ·have h7:=a0f h2;refine IdxG.of ‹_› (OpG.mk _ _ _ 2 (ae aj (a:=(l[k0.k])) underlying53 sz3 zr3 by3 rfl rfl rfl (ap rfl rfl rfl rfl) rfl (by omega) (by omega) (by unfold TV;omega)) rfl rfl ?_);refine⟨by omega,⟨(⟨k0.k+1,k0.L++[(l[k0.k])]⟩:KL Int),(nsA ‹_›),(cO (.cons rfl rfl (.cons rfl rfl (.cons (by(rw[az8];rfl)) rfl (.cons rfl rfl .nil)))) (.cons (by(rw[az8];rfl)) rfl (aa aj _ _) .nil)),⟨‹_›,?_⟩⟩⟩;(show _++[_]=_;rw[pn h4,<-h0,a0d (by simpa using h2)];done)
  have h7:=a0e h2;refine⟨by omega,⟨(⟨k0.k+1,k0.L⟩:KL Int),(nsA ‹_›),(cnS (by rfl) (hpS (aa aj _ _) (by rfl) trivial)),⟨‹_›,?_⟩⟩⟩;(show k0.L=_;rw[pn h4,<-h0,a0c (by simpa using h2),List.append_nil];done)
 have h9:k0.L.length<=l.length:=by rw[h0];exact sj
 refine OpG.mk _ _ _ 2 (ae aj (a:=n) underlying53 sz3 zr3 by3 rfl rfl rfl (ap rfl rfl rfl rfl) rfl (by omega) (by omega) (by unfold TV;omega)) rfl rfl (LpG.on (fun k2:KL Int=>(⟨fL [(0,.tree 1 (l.map iA)),(1,vI n),(5,.sl 0 k2.L.length 0 k2.L.length),(7,vI k2.k)],hLz [(0,⟨k2.L.length,rF iA k2.L,1,Nat.beq k2.L.length 0⟩)],2⟩:St)) (fun k2=>(l.length-k2.k)) (fun k2=>(k2.k<=l.length/\(k2.L=k0.L++[n]++(l.take k2.k).filter (fun y=>decide (y>n))))) (⟨0,k0.L++[n]⟩:KL Int) (cO (.cons rfl rfl (.cons rfl rfl (.cons (by(rw[az8];rfl)) rfl (.cons rfl rfl .nil)))) (.cons (by(rw[az8];rfl)) rfl (aa aj _ _) .nil)) ⟨a0h _,(by simp)⟩ ?_);rintro k2 h6;have hgr_k2:l.length<=140737488355328:=hl.1
 obtain⟨hle_k2,h1⟩:=h6;refine LenG.of (cL (fun h5=>?_) (fun hge34=>?_))
 ·have hl1:k2.L.length<=l.length+1+l.length:=by rw[h1,az8,az8];have h:=sj (p:=fun y=>decide (y>n)) (l:=l) (k:=k2.k);simp only[a0r,a0s];omega
  refine IdxG.of ‹_› (cB (fun h3=>?_) (fun h3=>?_))
  ·have h8:=a0f h3;refine IdxG.of ‹_› (OpG.mk _ _ _ 3 (ae aj (a:=(l[k2.k])) underlying53 sz3 zr3 by3 rfl rfl rfl (ap rfl rfl rfl rfl) rfl (by omega) (by omega) (by unfold TV;omega)) rfl rfl ?_);refine⟨by omega,⟨(⟨k2.k+1,k2.L++[(l[k2.k])]⟩:KL Int),(nsA ‹_›),(cO (.cons rfl rfl (.cons rfl rfl (.cons (by(rw[az8];rfl)) rfl (.cons rfl rfl .nil)))) (.cons (by(rw[az8];rfl)) rfl (aa aj _ _) .nil)),⟨‹_›,?_⟩⟩⟩;(show _++[_]=_;rw[pn h5,h1,a0d (by simpa using h3)];simp;done)
  have h8:=a0e h3;refine⟨by omega,⟨(⟨k2.k+1,k2.L⟩:KL Int),(nsA ‹_›),(cnS (by rfl) (hpS (aa aj _ _) (by rfl) trivial)),⟨‹_›,?_⟩⟩⟩;(show k2.L=_;rw[pn h5,h1,a0c (by simpa using h3),List.append_nil];done)
 refine rtA rfl ⟨[0],FzP.rows aj (az9.2 rfl) rfl⟩ (have e1:=h0;have e2:=h1;?_);rw[a0x (by omega)]at e1 e2;rw[e2,e1];rfl
theorem xn{l:List GPart}{k:Nat}(h:k<l.length):(l.take (k+1)).flatMap mo=(l.take k).flatMap mo++mo l[k]:=Hx mo h
def U2{l:List GPart}{k:Nat}(h:k<l.length):((l.take k).flatMap mo).length+(mo l[k]).length<=(l.flatMap mo).length:=by have h1:=v8 mo l (k+1);rw[xn h,az8]at h1;exact h1
def mkN{l:List GPart}{m:List Int}{k:Nat}{L M:List Int}(hL:L=srtU (m++(l.take k).flatMap mo))(h:k<l.length)(hv:mo l[k]=[v])(hM:M=C3 L v):M=srtU (m++(l.take (k+1)).flatMap mo):=by rw[hM,hL,Si,xn h,hv,List.append_assoc]
def adf(l m:List Int)(n:Int)(hm:l=srtU m)(hb:m.length<=4398046511104):PRet prog 116 [isA l,.v (.int .i64 n)] (fun q=>q=isA (srtU (m++[n]))):=by have hl:l.length<=4398046511104:=(by rw[hm];exact a0m (dh m) hb);have h:=awh l ⟨by omega,fun _ _=>trivial⟩ n hl;rwa [hm,Si,<-hm]at h
def Pr(x:GEx)(hx:FitEx x)(he:(d5 (exA x)).length<=1099511627776)(ih:∀r∈x.b_,(d5 r).length<=1099511627776->PRet prog 70 [.agg (rwA r)] (fun q=>q=isA (srtU (d5 r)))):PRet prog 70 [.agg (exA x)] (fun q=>q=isA (srtU (d5 (exA x)))):=by
 rw[dk,az8]at he
 refine ovT [25] [2] func70 rfl rfl (RegG.via (fun _ h=>bm [] 3 (isA (srtU ([]:List Int))) Uu rfl h) ?_)
 refine bh (cE (fun hf=>?_) (fun hf=>?_))
 ·skip -- isC T
  refine ArgG.mk (adf (srtU ([]:List Int)) ([]:List Int) x.i_ rfl (a0h _)) rfl ?_
  rintro _ rfl
  refine LpG.on (fun k0:KL Int=>(⟨fL [(1,.ptr 0 0 0),(3,.tree 1 (k0.L.map iA)),(4,vI k0.k)],hLz [(0,⟨0,exA x,0,false⟩)],1⟩:St)) (fun k0=>(x.b_.length-k0.k)) (fun k0=>(k0.k<=x.b_.length/\(k0.L=srtU (([]++[x.i_])++bl (x.b_.take k0.k))))) (⟨0,srtU ([]++[x.i_])⟩:KL Int) (cnR rfl) ⟨a0h _,(by simp[bl])⟩ ?_
  rintro k0 h6
  have h8:x.b_.length<=140737488355328:=hx.b_.1
  obtain⟨h9,h0⟩:=h6
  refine LenG.of (cL (fun h4=>?_) (fun hb=>?_))
  ·have hg:=S8 h4
   refine IdxG.of ‹_› (OpG.lk (co oe rfl (jj (hx.b_.2 _ (az4 _)))) ?_)
   refine ArgG.mk (ih x.b_[k0.k] (az4 _) (by omega)) (show cj [.agg (rwA x.b_[k0.k])]=true by simp[cj,AV.pureB,kj (hx.b_.2 _ (az4 _))]) ?_
   rintro _ rfl
   refine LpG.on (fun k2:KL Int=>(⟨fL [(1,.ptr 0 0 0),(3,.tree 1 (k2.L.map iA)),(4,vI k0.k),(5,.tree 1 (((srtU (d5 x.b_[k0.k]))).map iA)),(6,vI k2.k)],hLz [(0,⟨0,exA x,0,false⟩)],1⟩:St)) (fun k2=>(((srtU (d5 x.b_[k0.k]))).length-k2.k)) (fun k2=>(k2.k<=((srtU (d5 x.b_[k0.k]))).length/\(k2.L=srtU (([]++[x.i_])++bl (x.b_.take k0.k)++(srtU (d5 x.b_[k0.k])).take k2.k)))) (⟨0,k0.L⟩:KL Int) (cnR rfl) ⟨a0h _,(by rw[List.take_zero,List.append_nil];exact h0)⟩ ?_
   rintro k2 h6
   obtain⟨ha,h5⟩:=h6
   refine LenG.of (cL (fun h7=>?_) (fun hc=>?_))
   ·have hd:=dh (d5 x.b_[k0.k])
    refine IdxG.of ‹_› (ArgG.mk (adf k2.L (([]++[x.i_])++bl (x.b_.take k0.k)++(srtU (d5 x.b_[k0.k])).take k2.k) (srtU (d5 x.b_[k0.k]))[k2.k] h5 (by have h1:=G3 (l:=x.b_) (k:=k0.k);have h2:=dh (d5 x.b_[k0.k]);have h3:((srtU (d5 x.b_[k0.k])).take k2.k).length<=(srtU (d5 x.b_[k0.k])).length:=(by rw[List.length_take];omega);simp only[az8,a0r,a0s];omega)) rfl ?_)
    rintro _ rfl
    refine⟨by omega,⟨(⟨k2.k+1,(srtU ((([]++[x.i_])++bl (x.b_.take k0.k)++(srtU (d5 x.b_[k0.k])).take k2.k)++[(srtU (d5 x.b_[k0.k]))[k2.k]]))⟩:KL Int),(by show((srtU (d5 x.b_[k0.k]))).length-(k2.k+1)<((srtU (d5 x.b_[k0.k]))).length-k2.k;omega),(cnR rfl),?_⟩⟩
    refine⟨‹_›,?_⟩
    show srtU _=srtU _;rw[Ge _ h7]
   refine⟨by omega,⟨(⟨k0.k+1,k2.L⟩:KL Int),(nsA ‹_›),(cnR rfl),?_⟩⟩
   refine⟨‹_›,?_⟩
   show k2.L=_;rw[h5,a0x (show(srtU (d5 x.b_[k0.k])).length<=k2.k by omega),L8,C5 h4,List.append_assoc]
  refine rV rfl rfl ?_
  rw[h0,a0x (by omega),dk]
  (rw[a0d ‹_›];rfl)
 skip -- isC F
 refine LpG.on (fun k0:KL Int=>(⟨fL [(1,.ptr 0 0 0),(3,.tree 1 (k0.L.map iA)),(4,vI k0.k)],hLz [(0,⟨0,exA x,0,false⟩)],1⟩:St)) (fun k0=>(x.b_.length-k0.k)) (fun k0=>(k0.k<=x.b_.length/\(k0.L=srtU (([]:List Int)++bl (x.b_.take k0.k))))) (⟨0,srtU ([]:List Int)⟩:KL Int) (cnR rfl) ⟨a0h _,(by simp[bl])⟩ ?_
 rintro k0 h6
 have h8:x.b_.length<=140737488355328:=hx.b_.1
 obtain⟨h9,h0⟩:=h6
 refine LenG.of (cL (fun h4=>?_) (fun hb=>?_))
 ·have hg:=S8 h4
  refine IdxG.of ‹_› (OpG.lk (co oe rfl (jj (hx.b_.2 _ (az4 _)))) ?_)
  refine ArgG.mk (ih x.b_[k0.k] (az4 _) (by omega)) (show cj [.agg (rwA x.b_[k0.k])]=true by simp[cj,AV.pureB,kj (hx.b_.2 _ (az4 _))]) ?_
  rintro _ rfl
  refine LpG.on (fun k2:KL Int=>(⟨fL [(1,.ptr 0 0 0),(3,.tree 1 (k2.L.map iA)),(4,vI k0.k),(5,.tree 1 (((srtU (d5 x.b_[k0.k]))).map iA)),(6,vI k2.k)],hLz [(0,⟨0,exA x,0,false⟩)],1⟩:St)) (fun k2=>(((srtU (d5 x.b_[k0.k]))).length-k2.k)) (fun k2=>(k2.k<=((srtU (d5 x.b_[k0.k]))).length/\(k2.L=srtU (([]:List Int)++bl (x.b_.take k0.k)++(srtU (d5 x.b_[k0.k])).take k2.k)))) (⟨0,k0.L⟩:KL Int) (cnR rfl) ⟨a0h _,(by rw[List.take_zero,List.append_nil];exact h0)⟩ ?_
  rintro k2 h6
  obtain⟨ha,h5⟩:=h6
  refine LenG.of (cL (fun h7=>?_) (fun hc=>?_))
  ·have hd:=dh (d5 x.b_[k0.k])
   refine IdxG.of ‹_› (ArgG.mk (adf k2.L (([]:List Int)++bl (x.b_.take k0.k)++(srtU (d5 x.b_[k0.k])).take k2.k) (srtU (d5 x.b_[k0.k]))[k2.k] h5 (by have h1:=G3 (l:=x.b_) (k:=k0.k);have h2:=dh (d5 x.b_[k0.k]);have h3:((srtU (d5 x.b_[k0.k])).take k2.k).length<=(srtU (d5 x.b_[k0.k])).length:=(by rw[List.length_take];omega);simp only[az8,a0r,a0s];omega)) rfl ?_)
   rintro _ rfl
   refine⟨by omega,⟨(⟨k2.k+1,(srtU ((([]:List Int)++bl (x.b_.take k0.k)++(srtU (d5 x.b_[k0.k])).take k2.k)++[(srtU (d5 x.b_[k0.k]))[k2.k]]))⟩:KL Int),(by show((srtU (d5 x.b_[k0.k]))).length-(k2.k+1)<((srtU (d5 x.b_[k0.k]))).length-k2.k;omega),(cnR rfl),?_⟩⟩
   refine⟨‹_›,?_⟩
   show srtU _=srtU _;rw[Ge _ h7]
  refine⟨by omega,⟨(⟨k0.k+1,k2.L⟩:KL Int),(nsA ‹_›),(cnR rfl),?_⟩⟩
  refine⟨‹_›,?_⟩
  show k2.L=_;rw[h5,a0x (show(srtU (d5 x.b_[k0.k])).length<=k2.k by omega),L8,C5 h4,List.append_assoc]
 refine rV rfl rfl ?_
 rw[h0,a0x (by omega),dk]
 (rw[a0c ‹_›];rfl)
def xq(r:List AV)(hr:IsEx r):(d5 r).length<=1099511627776->PRet prog 70 [.agg (rwA r)] (fun q=>q=isA (srtU (d5 r))):=IsEx.ind (M:=fun r=>(d5 r).length<=1099511627776->PRet prog 70 [.agg (rwA r)] (fun q=>q=isA (srtU (d5 r)))) (fun x hx ih ho=>Pr x hx ho ih) hr
def apl(x:GTm)(hx:FitTm x)(l:List Int)(hl:bn l (fun y=>True))(m:List Int)(hm:l=srtU m)(hb:m.length+(ek (tmA x)).length<=1099511627776)(ih:∀p∈x.a_,∀r∈p.of_,∀l m:List Int,l=srtU m->m.length+(ek r).length<=1099511627776->PRet prog 173 [.agg (rwA r),isA l] (fun q=>q=isA (srtU (m++ek r)))):PRet prog 173 [.agg (tmA x),.tree 1 (l.map iA)] (fun q=>q=isA (srtU (m++ek (tmA x)))):=by
 rw[dx]at hb
 refine ovT [] [19] func173 rfl rfl (LpG.on (fun k0:KL Int=>(⟨fL [(1,.tree 1 (k0.L.map iA)),(2,.ptr 0 0 0),(5,vI k0.k)],hLz [(0,⟨0,tmA x,0,false⟩)],1⟩:St)) (fun k0=>(x.a_.length-k0.k)) (fun k0=>(k0.k<=x.a_.length/\(k0.L=srtU (m++(x.a_.take k0.k).flatMap mo)))) (⟨0,l⟩:KL Int) (cnR rfl) ⟨a0h _,(by simpa using hm)⟩ ?_)
 rintro k0 ha
 have hgr_k0:x.a_.length<=140737488355328:=hx.a_.1
 obtain⟨hle_k0,h3⟩:=ha
 refine LenG.of (cL (fun h2=>?_) (fun hge14=>?_))
 ·refine IdxG.of ‹_› (cE (fun h6=>?_) (fun h6=>?_))
  ·have hi:0<x.a_[k0.k].of_.length:=by have:=(hx.a_.2 _ (az4 h2)).kd.2.1 h6;omega
   obtain⟨y0,h9,hy0⟩:=((hx.a_.2 _ (az4 h2)).of_.2 (x.a_[k0.k].of_[0]) (az4 hi)).open_
   have hkd:=(hx.a_.2 _ (az4 h2)).kd.2.1 h6
   have hf:x.a_[k0.k].of_=[tmA y0]:=c8 (by omega) h9
   have hg:mo x.a_[k0.k]=ek (tmA y0):=by unfold mo;rw[a0d h6,hf];simp only[vn]
   refine cz (j:=0) ‹_› h9 (ArgG.mk (ih x.a_[k0.k] (az4 _) (tmA y0) (by rw[hf];simp) k0.L (m++(x.a_.take k0.k).flatMap mo) h3 (by rw[az8];have h1:=U2 h2;rw[hg]at h1;omega)) rfl ?_)
   rintro _ rfl
   refine⟨by omega,⟨(⟨k0.k+1,(srtU (m++(x.a_.take k0.k).flatMap mo++ek (tmA y0)))⟩:KL Int),(nsA ‹_›),(cnR rfl),?_⟩⟩
   refine⟨‹_›,?_⟩
   (show srtU _=srtU _;rw[xn h2,hg,List.append_assoc];done)
  have hh:mo x.a_[k0.k]=[x.a_[k0.k].o_]:=by unfold mo;rw[a0c h6]
  have hll:k0.L.length<=1099511627776:=by rw[h3];refine a0m (dh _) ?_;rw[az8];have h1:=v8 mo x.a_ k0.k;omega
  have hc:k0.L.Pairwise (·<·):=by rw[h3];exact rc
  refine LpG.via (fun _ h=>bu 7 1 rfl 3 rfl h) (LpG.on (fun k2:KI2=>(⟨fL [(1,.tree 1 (k0.L.map iA)),(2,.ptr 0 0 0),(5,vI k0.k),(6,.ptr 1 0 0),(7,.sl 2 k2.L.length 0 k2.L.length),(8,vB k2.put),(9,vI k2.k)],hLz [(0,⟨0,tmA x,0,false⟩),(1,⟨0,ptA x.a_[k0.k],0,false⟩),(2,⟨k2.L.length,rF iA k2.L,1,Nat.beq k2.L.length 0⟩)],3⟩:St)) (fun k2=>(k0.L.length-k2.k)) (fun k2=>(k2.k<=k0.L.length/\MkI k0.L x.a_[k0.k].o_ k2)) (⟨0,[],false⟩:KI2) (cnS (by rfl) (hpR rfl (hpR rfl (hpS (aa aj _ _) (by rfl) trivial)))) ⟨a0h _,mk0⟩ ?_)
  rintro k2 ha
  obtain⟨hle_k2,h0⟩:=ha
  refine LenG.of (cL (fun h4=>?_) (fun h5=>?_))
  ·have hj:=ady h0
   apply cB<;>intro h7
   ·refine IdxG.of ‹_› ⟨by kernel_rfl,cD (fun he=>?_) (fun he=>?_)⟩
    ·refine IdxG.of ‹_› ⟨by kernel_rfl,cD (fun hd=>?_) (fun hd=>?_)⟩
     ·refine OpG.mk _ _ _ 4 (ae aj (a:=(x.a_[k0.k].o_)) underlying53 sz3 zr3 by3 rfl rfl rfl (ap rfl rfl rfl rfl) rfl (by omega) (by omega) (by unfold TV;omega)) rfl rfl (IdxG.of ‹_› ?_)
      refine OpG.mk _ _ _ 5 (ae aj (a:=(k0.L[k2.k])) underlying53 sz3 zr3 by3 rfl rfl rfl (ap rfl rfl rfl rfl) rfl (by(simp only[az8,a0r,a0s];omega)) (by(simp only[az8,a0r,a0s];omega)) (by unfold TV;omega)) rfl rfl ⟨by omega,⟨(⟨k2.k+1,k2.L++[(x.a_[k0.k].o_)]++[(k0.L[k2.k])],true⟩:KI2),(nsA ‹_›),(cO (.cons rfl rfl (.cons rfl rfl (.cons rfl rfl (.cons rfl rfl (.cons (by(rw[az8,az8,az8];rfl)) rfl (.cons rfl rfl (.cons rfl rfl .nil))))))) (.cons rfl rfl rfl (.cons rfl rfl rfl (.cons (by(rw[az8,az8,az8];rfl)) rfl (aa aj _ _) .nil)))),?_⟩⟩
      exact⟨‹_›,mkC hc h0 (by simpa using h7) h4 hd⟩
     refine IdxG.of ‹_› (OpG.mk _ _ _ 4 (ae aj (a:=(k0.L[k2.k])) underlying53 sz3 zr3 by3 rfl rfl rfl (ap rfl rfl rfl rfl) rfl (by omega) (by omega) (by unfold TV;omega)) rfl rfl ?_)
     refine⟨by omega,⟨(⟨k2.k+1,k2.L++[(k0.L[k2.k])],true⟩:KI2),(nsA ‹_›),(cO (.cons rfl rfl (.cons rfl rfl (.cons rfl rfl (.cons rfl rfl (.cons (by(rw[az8];rfl)) rfl (.cons rfl rfl (.cons rfl rfl .nil))))))) (.cons rfl rfl rfl (.cons rfl rfl rfl (.cons (by(rw[az8];rfl)) rfl (aa aj _ _) .nil)))),?_⟩⟩
     exact⟨‹_›,mkD hc h0 (by simpa using h7) h4 (by omega)⟩
    refine IdxG.of ‹_› (OpG.mk _ _ _ 4 (ae aj (a:=(k0.L[k2.k])) underlying53 sz3 zr3 by3 rfl rfl rfl (ap rfl rfl rfl rfl) rfl (by omega) (by omega) (by unfold TV;omega)) rfl rfl ?_)
    refine⟨by omega,⟨(⟨k2.k+1,k2.L++[(k0.L[k2.k])],k2.put⟩:KI2),(nsA ‹_›),(cO (.cons rfl rfl (.cons rfl rfl (.cons rfl rfl (.cons rfl rfl (.cons (by(rw[az8];rfl)) rfl (.cons rfl rfl (.cons rfl rfl .nil))))))) (.cons rfl rfl rfl (.cons rfl rfl rfl (.cons (by(rw[az8];rfl)) rfl (aa aj _ _) .nil)))),?_⟩⟩
    exact⟨‹_›,mkB2 h0 (by simpa using h7) h4 (by omega)⟩
   refine⟨by kernel_rfl,cF ?_⟩
   refine IdxG.of ‹_› (OpG.mk _ _ _ 4 (ae aj (a:=(k0.L[k2.k])) underlying53 sz3 zr3 by3 rfl rfl rfl (ap rfl rfl rfl rfl) rfl (by omega) (by omega) (by unfold TV;omega)) rfl rfl ?_)
   refine⟨by omega,⟨(⟨k2.k+1,k2.L++[(k0.L[k2.k])],k2.put⟩:KI2),(nsA ‹_›),(cO (.cons rfl rfl (.cons rfl rfl (.cons rfl rfl (.cons rfl rfl (.cons (by(rw[az8];rfl)) rfl (.cons rfl rfl (.cons rfl rfl .nil))))))) (.cons rfl rfl rfl (.cons rfl rfl rfl (.cons (by(rw[az8];rfl)) rfl (aa aj _ _) .nil)))),?_⟩⟩
   exact⟨‹_›,mkA2 h0 (by simpa using h7) h4⟩
  have hj:=ady h0
  apply cB<;>intro h8
  ·skip -- mkT
   refine OpG.mk _ _ _ 4 (ae aj (a:=(x.a_[k0.k].o_)) underlying53 sz3 zr3 by3 rfl rfl rfl (ap rfl rfl rfl rfl) rfl (by omega) (by omega) (by unfold TV;omega)) rfl rfl (RegG.via (fun _ h=>bm [2] 7 (isA (k2.L++[x.a_[k0.k].o_])) (FzP.rows aj (az9.2 rfl) rfl) rfl h) ?_)
   refine bh ⟨by omega,⟨(⟨k0.k+1,(k2.L++[x.a_[k0.k].o_])⟩:KL Int),(nsA ‹_›),(cnR rfl),?_⟩⟩
   exact⟨‹_›,mkN h3 h2 hh (by first|exact mkE h0 h5 (by simpa using h8)|exact mkF h0 h5 (by simpa using h8))⟩
  skip -- mkF
  refine RegG.via (fun _ h=>bm [2] 7 (isA k2.L) (FzP.rows aj (az9.2 rfl) rfl) rfl h) (bh ?_)
  refine⟨by omega,⟨(⟨k0.k+1,k2.L⟩:KL Int),(nsA ‹_›),(cnR rfl),?_⟩⟩
  exact⟨‹_›,mkN h3 h2 hh (by first|exact mkE h0 h5 (by simpa using h8)|exact mkF h0 h5 (by simpa using h8))⟩
 exact rtA rfl ⟨[],FzP.pure rfl⟩ (congrArg isA (by rw[h3,a0x (by omega),dx]))
def apm(r:List AV)(hr:IsTm r):∀l m:List Int,l=srtU m->m.length+(ek r).length<=1099511627776->PRet prog 173 [.agg (rwA r),isA l] (fun q=>q=isA (srtU (m++ek r))):=IsTm.ind (M:=fun r=>∀l m:List Int,l=srtU m->m.length+(ek r).length<=1099511627776->PRet prog 173 [.agg (rwA r),isA l] (fun q=>q=isA (srtU (m++ek r)))) (fun x hx ih l m hm hb=>apl x hx l ⟨by rw[hm];have:=dh m;omega,fun _ _=>trivial⟩ m hm hb ih) hr
def D5(x:GTm)(hx:FitTm x)(h1:(ek (tmA x)).length<=1099511627776):PRet prog 124 [.agg (tmA x)] (fun q=>q=isA (srtU (ek (tmA x)))):=by refine ovT [4] [] func124 rfl rfl ?_;obtain⟨_,rfl,h0⟩:=apm (tmA x) (I0 hx) (srtU []) [] rfl (by simpa using h1);exact OpG.lk (di aso (.cons (.pure rfl) (.cons Uu .nil)) h0) (rV rfl rfl rfl)
def agd(x:GFm)(hx:FitFm x)(h6:x.c_=2)(h4:(ek (tmA x.e_.q_)).length<=1099511627776):PRet prog 72 [.agg (fmA x)] (fun q=>q=isA (jm x.e_)):=by refine ovT [] [3] func72 rfl rfl (cB (fun h5=>?_) (fun h5=>?_));have h7:=h5;simp at h7;refine RegG.via (fun _ h=>bm [] 3 (isA (srtU ([]:List Int))) Uu rfl h) (bh ?_);apply cB<;>intro h1;have h0:=h1;simp at h0;refine cB (fun _=>?_) (fun hz=>by exfalso;have h:=(by simpa using hz:¬(x.e_.c_:Int)=2);omega);refine ArgG.mk (D5 x.e_.q_ hx.e_.q_ h4) rfl ?_;rintro _ rfl;exact rV rfl rfl (congrArg isA (agl (by omega)));have h0:=h1;simp at h0;apply cB<;>intro h1;have h0:=h1;simp at h0;refine cB (fun _=>?_) (fun hz=>by exfalso;have h:=(by simpa using hz:¬(x.e_.c_:Int)=3);omega);refine ArgG.mk (D5 x.e_.q_ hx.e_.q_ h4) rfl ?_;rintro _ rfl;exact rV rfl rfl (congrArg isA (agl (by omega)));have h0:=h1;simp at h0;apply cE<;>intro h0;refine ArgG.mk (D5 x.e_.q_ hx.e_.q_ h4) rfl ?_;rintro _ rfl;exact rV rfl rfl (congrArg isA (agl (by omega)));apply cB<;>intro h3;have h2:=h3;simp at h2;refine cB (fun _=>?_) (fun hz=>by exfalso;have h:=(by simpa using hz:¬(x.e_.c_:Int)=6);omega);refine ArgG.mk (adf (srtU []) [] x.e_.v_ rfl (by simp)) rfl ?_;rintro _ rfl;refine ArgG.mk (adf (srtU ([]++[x.e_.v_])) ([]++[x.e_.v_]) x.e_.o_ rfl (by simp)) rfl ?_;rintro _ rfl;exact rV rfl rfl (congrArg isA (al9 (by omega) (by omega)));have h2:=h3;simp at h2;apply cE<;>intro h2;refine ArgG.mk (adf (srtU []) [] x.e_.v_ rfl (by simp)) rfl ?_;rintro _ rfl;refine ArgG.mk (adf (srtU ([]++[x.e_.v_])) ([]++[x.e_.v_]) x.e_.o_ rfl (by simp)) rfl ?_;rintro _ rfl;exact rV rfl rfl (congrArg isA (al9 (by omega) (by omega)));refine ArgG.mk (adf (srtU ([]:List Int)) [] x.e_.o_ rfl (by simp)) rfl ?_;rintro _ rfl;exact rV rfl rfl (congrArg isA (va_2 (by omega) (by omega)));exact absurd h6 (by simpa using h5)
def age(x:GFm)(hx:FitFm x)(h2:¬x.c_=2)(h3:x.b_=[]):PRet prog 72 [.agg (fmA x)] (fun q=>q=isA []):=ovT [] [] func72 rfl rfl (cB (fun h1=>absurd (by simpa using h1) h2) (fun h1=>have hq9:¬((x.c_:Int)=(2:Int)):=(by simpa using h1);LpG.exit (LenG.of (cB (fun h0=>by exfalso;rw[h3]at h0;exact absurd h0 (by decide)) (fun h0=>have hq38:=a0e h0;rtA rfl ⟨[],FzP.nil (n:=1)⟩ rfl)))))
def Zq(l:List Int)(hl:bn l (fun y=>True))(is_:Bool)(hvl:l.length<=100000):Cm prog 69 [.tree 1 (l.map iA),vB is_] [] (fun q hb'=>q=.sl 0 l.length 0 l.length/\hb'=[(0,some ⟨l.length,rF fmA (jp (if is_=true then 0 else 1) l),11,Nat.beq l.length 0⟩)]):=by
 refine Cm.of_vc s9 [23] [] func69 rfl ntmps69 rfl (by kernel_rfl) (LpG.via (fun _ h=>bu 5 11 rfl 1 rfl h) ?_)
 refine LpG.on (fun k0:KL GFm=>(⟨fL [(0,.tree 1 (l.map iA)),(1,vB is_),(5,.sl 0 k0.L.length 0 k0.L.length),(6,vI k0.k)],hLz [(0,⟨k0.L.length,rF fmA k0.L,11,Nat.beq k0.L.length 0⟩)],1⟩:St)) (fun k0=>(l.length-k0.k)) (fun k0=>(k0.k<=l.length/\(k0.L=jp (if is_=true then 0 else 1) (l.take k0.k)/\k0.L.length=k0.k))) (⟨0,[]⟩:KL GFm) (cnS (by rfl) (hpS (aa aw _ _) (by rfl) trivial)) ⟨a0h _,⟨rfl,rfl⟩⟩ ?_
 rintro k0 h3
 have hgr_k0:l.length<=140737488355328:=hl.1
 obtain⟨hle_k0,h0⟩:=h3
 refine LenG.of (cL (fun h1=>?_) (fun hge11=>?_))
 ·have hl2:=h0.2
  refine IdxG.of ‹_› (cB (fun h2=>?_) (fun h2=>?_))
  ·have hb:(if is_=true then 0 else 1)=(0:Int):=a0d h2 -- isT
   obtain⟨_,rfl,h4⟩:=n7 (vAt 0 l[k0.k]) q9
   refine OpG.lk (di tw (.cons xy .nil) h4) (OpG.mk _ _ _ 3 (ae aw (a:=(atF (vAt 0 l[k0.k]))) underlying67 Ct Ca Fe rfl rfl rfl (ap rfl rfl rfl rfl) rfl (by omega) (by omega) (by unfold TV;omega)) rfl rfl ?_)
   refine⟨by omega,⟨(⟨k0.k+1,k0.L++[(atF (vAt 0 l[k0.k]))]⟩:KL GFm),(nsA ‹_›),(cO (.cons rfl rfl (.cons rfl rfl (.cons (by(rw[az8];rfl)) rfl (.cons rfl rfl .nil)))) (.cons (by(rw[az8];rfl)) rfl (aa aw _ _) .nil)),?_⟩⟩
   exact⟨‹_›,⟨by show _++[_]=_;rw[h0.1,a0g h1,hb];unfold jp;rw[a0u];rfl,by show(_++[_]).length=_;rw[az8,h0.2];rfl⟩⟩
  have hb:(if is_=true then 0 else 1)=(1:Int):=a0c (by rw[h2];decide) -- isF
  obtain⟨_,rfl,h5⟩:=n7 (vAt 1 l[k0.k]) q9
  refine OpG.lk (di tw (.cons xy .nil) h5) (OpG.mk _ _ _ 3 (ae aw (a:=(atF (vAt 1 l[k0.k]))) underlying67 Ct Ca Fe rfl rfl rfl (ap rfl rfl rfl rfl) rfl (by omega) (by omega) (by unfold TV;omega)) rfl rfl ?_)
  refine⟨by omega,⟨(⟨k0.k+1,k0.L++[(atF (vAt 1 l[k0.k]))]⟩:KL GFm),(nsA ‹_›),(cO (.cons rfl rfl (.cons rfl rfl (.cons (by(rw[az8];rfl)) rfl (.cons rfl rfl .nil)))) (.cons (by(rw[az8];rfl)) rfl (aa aw _ _) .nil)),?_⟩⟩
  exact⟨‹_›,⟨by show _++[_]=_;rw[h0.1,a0g h1,hb];unfold jp;rw[a0u];rfl,by show(_++[_]).length=_;rw[az8,h0.2];rfl⟩⟩
 refine⟨.inr rfl,_,_,P5.of (hb':=[(0,some ⟨k0.L.length,rF fmA k0.L,11,Nat.beq k0.L.length 0⟩)]) [] (cq rfl (.cons (az0.tmp rfl) .nil)) rfl ⟨.same rfl (by decide),trivial⟩ .same,?_⟩
 have e:=h0.1
 rw[a0x (by omega)]at e
 have el:k0.L.length=l.length:=by rw[e];simp[jp]
 exact⟨by rw[<-el];rfl,by rw[<-el,<-e]⟩
def Tc(vs:List Int)(is_:Bool)(h0:bn vs (fun _=>True))(h1:vs.length<=100000):j6 prog 69 [.tree 1 (vs.map iA),.v (.bool is_)] [] [(0,some ⟨0,rF fmA (jp (if is_=true then 0 else 1) vs),11,Nat.beq (jp (if is_=true then 0 else 1) vs).length 0⟩)] (.sl 0 0 0 (jp (if is_=true then 0 else 1) vs).length):=by obtain⟨_,_,⟨rfl,rfl⟩,h⟩:=Zq vs h0 is_ h1;have e:(jp (if is_=true then 0 else 1) vs).length=vs.length:=(by simp[jp]);rw[e];refine xx (zs:=[]) (by rw[List.append_nil];exact h) (by decide) (fun hb=>⟨?_,rfl⟩) (Ao aw _);rw[a0y (az6 hb)];rfl
section
variable{P:Program}{τ:Nat->AV}{η:bo}{d:Option Tmp}{ty:TypeId}{pos:String}{af:Array Edge}{g:Option (Nat×Bool)}
def jh{t:Nat}{x i:Operand}(hu:P.underlying t=some .string)(hx:aev τ x=.v (.string s))(hi:aev τ i=.v (.int .i64 m))(h0:0<=m)(h1:m<=s.size):
 LOp P ⟨d,.slice t x (some i) none none,ty,pos,af,g⟩ τ η [] [] (.v (.string (s.extract m.toNat s.size))):=
 .look [] fun C a hg h2 _=>by have e1:=h2 x (by simp[Op.operands]);have e2:=h2 i (by simp[Op.operands]);rw[hx]at e1;rw[hi]at e2;refine⟨_,?_,VR.v C _⟩;simp only[execOp,e1.v_inv,a02,Option.map_none,e2.v_inv];rw[Sem.run_bind,Go.run_sliceAt_string C.w t _ _ _ _ hu,Go.run_slice_string_l C.w t s hu .i64 m h0 h1];rfl
def Od{t t':Nat}{x:Operand}{td:TypeDesc}{k:IntKind}(hs:P.underlying t=some td)(hd:P.underlying t'=some (.int .i64))(hx:aev τ x=.v (.int k m))(h1:-9223372036854775808<=m)(h2:m<=9223372036854775807):
 LOp P ⟨d,.convert t t' x,ty,pos,af,g⟩ τ η [] [] (.v (.int .i64 m)):=
 .look [] fun C a _ h0 _=>by have e1:=h0 x (by simp[Op.operands]);rw[hx]at e1;refine⟨.int .i64 m,?_,VR.v C _⟩;simp[execOp,e1.v_inv,convert,run_underlying hs,run_underlying hd,Conv.intToInt,Go.IntWalk.i64_in m ⟨h1,h2⟩]
end
inductive Mt:List UInt8->List UInt8->Prop
 |nil:Mt [] []
 |star0 {p s:List UInt8} (h:Mt p s):Mt (37 :: p) s
 |star1 {p s:List UInt8} {x:UInt8} (h:Mt (37 :: p) s):Mt (37 :: p) (x :: s)
 |one {c x:UInt8} {p s:List UInt8} (hc:c≠37) (hx:c=95\/c=x) (h:Mt p s):Mt (c :: p) (x :: s)
theorem Tq{s:List UInt8}:Mt [] s↔s=[]:=⟨fun h=>by cases h;rfl,fun h=>by subst h;exact .nil⟩
theorem Tp{p s:List UInt8}:Mt (37::p) s↔∃a b,s=a++b/\Mt p b:=by
 constructor
 ·intro h
  generalize e:(37:UInt8)::p=q at h
  induction h with
  |nil=>cases e
  |star0 h=>cases e;exact⟨[],_,rfl,h⟩
  |star1 h ih=>obtain⟨a,b,rfl,hb⟩:=ih e;exact⟨_::a,b,rfl,hb⟩
  |one hc hx h=>cases e;exact absurd rfl hc
 ·rintro⟨a,b,rfl,hb⟩
  induction a with
  |nil=>exact .star0 hb
  |cons x a ih=>exact .star1 ih
theorem G9{c:UInt8}{p s:List UInt8}(hc:c≠37):Mt (c::p) s↔∃x t,s=x::t/\(c=95\/c=x)/\Mt p t:=by
 constructor
 ·intro h
  cases h with
  |star0 h=>exact absurd rfl hc
  |star1 h=>exact absurd rfl hc
  |one _ hx h=>exact⟨_,_,rfl,hx,h⟩
 ·rintro⟨x,t,rfl,hx,h⟩;exact .one hc hx h
theorem adx:∀{p q s:List UInt8},Mt (p++q) s↔∃a b,s=a++b/\Mt p a/\Mt q b
 |[],q,s=>⟨fun h=>⟨[],s,rfl,.nil,h⟩,fun⟨a,b,e,h1,h2⟩=>by rw[Tq.1 h1]at e;subst e;exact h2⟩
 |c::p,q,s=>by rw[List.cons_append];by_cases hc:c=37;subst hc;rw[Tp];constructor;rintro⟨a,b,rfl,h⟩;obtain⟨b1,b2,rfl,h1,h2⟩:=adx.1 h;exact⟨a++b1,b2,by rw[List.append_assoc],Tp.2 ⟨a,b1,rfl,h1⟩,h2⟩;rintro⟨a,b,rfl,h1,h2⟩;obtain⟨a1,a2,rfl,h3⟩:=Tp.1 h1;exact⟨a1,a2++b,by rw[List.append_assoc],adx.2 ⟨a2,b,rfl,h3,h2⟩⟩;rw[G9 hc];constructor;rintro⟨x,t,rfl,hx,h⟩;obtain⟨a,b,rfl,h1,h2⟩:=adx.1 h;exact⟨x::a,b,rfl,.one hc hx h1,h2⟩;rintro⟨a,b,rfl,h1,h2⟩;obtain⟨x,t,rfl,hx,h3⟩:=(G9 hc).1 h1;exact⟨x,t++b,rfl,hx,adx.2 ⟨t,b,rfl,h3,h2⟩⟩
theorem mt_s{p s:List UInt8}:Mt (p++[37]) s↔∃a b,s=a++b/\Mt p a:=by rw[adx];exact⟨fun⟨a,b,e,h1,_⟩=>⟨a,b,e,h1⟩,fun⟨a,b,e,h1⟩=>⟨a,b,e,h1,Tp.2 ⟨b,[],by simp,.nil⟩⟩⟩
theorem mt_o{c:UInt8}{p s:List UInt8}(hc:c≠37):Mt (p++[c]) s↔∃a x,s=a++[x]/\(c=95\/c=x)/\Mt p a:=by grind[adx,G9,Tq]
section
variable{s p:ByteArray}
theorem Fi{s:ByteArray}{k:Nat}(h:k<s.data.toList.length):bAt s k=s.data.toList[k]:=by unfold bAt;simp only[Array.length_toList]at h;have h':k<s.size:=h;simp[Array.getD,h,h']
def u8{a b:UInt8}:a.toNat=b.toNat↔a=b:=⟨fun h=>UInt8.toNat_inj.1 h,fun h=>by rw[h]⟩
theorem app:∀k,k<=p.data.toList.length->∀i,i<=s.data.toList.length->(lk s p k i=true↔Mt (p.data.toList.take k) (s.data.toList.take i))
 |0,_,i,hi=>by rw[List.take_zero,Tq,List.take_eq_nil_iff];show(i==0)=true↔_;rw[beq_iff_eq];constructor;exact .inl;rintro(h|h);exact h;rw[h]at hi;simpa using hi
 |k+1,hk,i,hi=>by
  have ih:=app k (by omega);rw[a0g (by omega:k<p.data.toList.length)];have hb:=Fi (s:=p) (k:=k) (by omega)
  show jb s (bAt p k).toNat (lk s p k) i=true↔_;rw[hb];clear hb;generalize p.data.toList[k]=c;by_cases hc:c=37;subst hc;rw[mt_s];induction i with
  |zero=>
   show(((37:UInt8).toNat==37)&&lk s p k 0)=true↔_
   rw[a05,ih 0 hi]
   constructor
   ·rintro⟨_,h⟩;exact⟨[],[],rfl,h⟩
   ·rintro⟨a,b,e,h⟩
    have:a=[]:=(List.append_eq_nil_iff.1 (by rw[<-e,List.take_zero])).1
    subst this;exact⟨rfl,h⟩
  |succ i ihi=>
   have h2:=ihi (by omega)
   show(if(37:UInt8).toNat=37 then lk s p k (i+1)||jb s (37:UInt8).toNat (lk s p k) i else _)=true↔_
   rw[a0d (by decide),Bool.or_eq_true,ih _ hi,h2]
   constructor
   ·rintro(h|⟨a,b,e,h⟩)
    ·exact⟨_,[],by simp,h⟩
    ·exact⟨a,b++[s.data.toList[i]'(by omega)],by rw[a0g (by omega),e,List.append_assoc],h⟩
   ·rintro⟨a,b,e,h⟩
    rcases List.eq_nil_or_concat b with rfl|⟨b',x,rfl⟩
    ·left;rw[List.append_nil]at e;rw[e];exact h
    ·right
     rw[a0g (by omega),List.concat_eq_append,<-List.append_assoc]at e
     exact⟨a,b',List.append_inj_left' e rfl,h⟩
  rw[mt_o hc];have hn:¬c.toNat=37:=fun h=>hc (u8.1 h)
  cases i with
  |zero=>
   show((c.toNat==37)&&lk s p k 0)=true↔_
   rw[beq_eq_false_iff_ne.2 hn]
   simp
  |succ i=>
   show(if c.toNat=37 then _ else lk s p k i&&(c.toNat==95||c.toNat==(bAt s i).toNat))=true↔_
   rw[a0c hn,a05,Bool.or_eq_true,beq_iff_eq,beq_iff_eq,ih i (by omega),Fi (by omega),a0g (by omega:i<s.data.toList.length)]
   constructor
   ·rintro⟨h,hx⟩;exact⟨_,_,rfl,hx.imp (fun h=>u8.1 h) (fun h=>u8.1 h),h⟩
   ·rintro⟨a,x,e,hx,h⟩
    have e1:=List.append_inj_left' e rfl
    have e2:=List.append_inj_right' e rfl
    simp only[List.cons.injEq,and_true]at e2
    subst e1;subst e2
    exact⟨h,hx.imp (fun h=>by rw[h];rfl) (fun h=>by rw[h])⟩
def axl:rx s p=true↔Mt p.data.toList s.data.toList:=by unfold rx;have h:=app (s:=s) (p:=p) p.data.toList.length (a0j _) s.data.toList.length (a0j _);rw[List.take_length,List.take_length]at h;exact h
theorem E6(s:ByteArray)(i:Nat):(s.extract i s.size).data.toList=s.data.toList.drop i:=by simp_all [List.extract_eq_take_drop,a0x,List.length_drop,a0j]
theorem zk(s:ByteArray)(i:Nat):(s.extract i s.size).size=s.size-i:=by simp
theorem Nl{s:ByteArray}:(s.toList==(⟨#[]⟩:ByteArray).toList)=true↔s.data.toList=[]:=by rw[beq_iff_eq,Go.ByteArray.toList_eq,Go.ByteArray.toList_eq]
theorem r6{s:ByteArray}(h:¬s.data.toList=[]):0<s.size/\s.data.toList=bAt s 0::(s.extract 1 s.size).data.toList:=by have hl:0<s.data.toList.length:=List.length_pos_iff.2 h;refine⟨by simpa using hl,?_⟩;rw[E6,Fi hl];exact(a00 (i:=0) hl)
def apj{s p:ByteArray}(hp:¬p.data.toList=[])(hc:(bAt p 0).toNat=37):Mt p.data.toList s.data.toList↔∃i,i<=s.size/\Mt (p.extract 1 p.size).data.toList (s.extract i s.size).data.toList:=by rw[(r6 hp).2,u8.1 (show(bAt p 0).toNat=(37:UInt8).toNat from hc),Tp];constructor;rintro⟨a,b,e,h⟩;exact⟨a.length,by have:s.size=s.data.toList.length:=(by simp);rw[this,e];simp,by rw[E6 s,e,List.drop_left];exact h⟩;rintro⟨i,hi,h⟩;rw[E6 s]at h;exact⟨s.data.toList.take i,_,(List.take_append_drop i _).symm,h⟩
def api{s p:ByteArray}(hp:¬p.data.toList=[])(hs:¬s.data.toList=[])(hc:¬(bAt p 0).toNat=37):Mt p.data.toList s.data.toList↔((bAt p 0).toNat=95\/(bAt p 0).toNat=(bAt s 0).toNat)/\Mt (p.extract 1 p.size).data.toList (s.extract 1 s.size).data.toList:=by rw[(r6 hp).2,(r6 hs).2,G9 (fun e=>hc (by rw[e];rfl))];constructor;rintro⟨x,t,e,hx,h⟩;cases e;exact⟨hx.imp (fun h=>by rw[h];rfl) (fun h=>by rw[h]),h⟩;rintro⟨hx,h⟩;exact⟨_,_,rfl,hx.imp (fun h=>u8.1 h) (fun h=>u8.1 h),h⟩
def axf{s p:ByteArray}(hp:¬p.data.toList=[])(hs:s.data.toList=[])(hc:¬(bAt p 0).toNat=37):¬Mt p.data.toList s.data.toList:=by rw[(r6 hp).2,hs,G9 (fun e=>hc (by rw[e];rfl))];rintro⟨x,t,e,_⟩;cases e
end
def Ar(t:PTest)(s:ByteArray):Bool:=(if t.kd=0 then(s.toList==t.s.toList)else if t.kd=1 then rx s t.s else if t.kd=2 then fv s t.s else if t.kd=3 then !fv t.s s else false) !=t.ng
def xo(h:j3 s)(i:Nat):j3 (s.extract i s.size):=by grind[zk]
def aqz(h:(s.toList==(⟨#[]⟩:ByteArray).toList)=false):¬s.data.toList=[]:=fun e=>by rw[Nl.2 e]at h;cases h
def ax1 :(!(s.toList==(⟨#[]⟩:ByteArray).toList))=true↔¬s.data.toList=[]:=by rw[Bool.not_eq_true',<-Bool.not_eq_true,Nl]
def aem(h:¬s.data.toList=[]):0<s.size:=(r6 h).1
def nE{n m:Nat}(h:(((n:Nat):Int)==c)=true)(hc:c=((m:Nat):Int)):n=m:=by rw[beq_iff_eq]at h;omega
def nF{n m:Nat}(h:(((n:Nat):Int)==c)=false)(hc:c=((m:Nat):Int)):¬n=m:=by rw[beq_eq_false_iff_ne]at h;omega
def aqy(h:(!(s.toList==(⟨#[]⟩:ByteArray).toList))=false):s.data.toList=[]:=by rw[Bool.not_eq_false']at h;exact Nl.1 h
def Z9(s:ByteArray)(hs:j3 s)(p:ByteArray)(hp:j3 p)(ih:∀p1 s1:ByteArray,p1.size<p.size->j3 p1->j3 s1->PRet prog 169 [.v (.string s1),.v (.string p1)] (fun q=>∃b:Bool,q=vB b/\(b=true↔Mt (p1).data.toList (s1).data.toList))):PRet prog 169 [.v (.string s),.v (.string p)] (fun q=>∃b:Bool,q=vB b/\(b=true↔Mt p.data.toList s.data.toList)):=by
 have hs1:s.size<=140737488351232:=hs;have hp1:p.size<=140737488351232:=hp
 refine ovT [21,23,41,43] [] func169 rfl rfl (cB (fun h9=>?_) (fun h9=>?_));exact rV rfl rfl ⟨_,rfl,by rw[Nl,Nl.1 h9,Tq]⟩;have h0:=aqz h9
 have hpz:=aem h0;refine⟨‹_›,cB (fun h4=>?_) (fun h4=>?_)⟩;have h1:(bAt p 0).toNat=37:=nE h4 rfl
 refine LpG.on (fun k0:Nat=>(⟨fL [(0,.v (.string s)),(1,.v (.string p)),(5,vI k0)],hLz [],0⟩:St)) (fun k0=>((s.size+1)-k0)) (fun k0=>(k0<=(s.size+1)/\∀j (hl:j<s.size+1),j<k0->¬Mt (p.extract 1 p.size).data.toList (s.extract j s.size).data.toList)) 0 (cnR rfl) ⟨a0h _,fun j _ h=>absurd h (a0i j)⟩ ?_;rintro k0 ha;obtain⟨hle_k0,h3⟩:=ha;apply cD<;>intro hq16;have hb:k0<=s.size:=by omega
 refine OpG.lk (jh underlying9 rfl rfl (by omega) (by omega)) (OpG.lk (jh underlying9 rfl rfl (by omega) (by omega)) ?_);refine ArgG.mk (ih (p.extract 1 p.size) (s.extract k0 s.size) (by rw[zk];omega) (xo hp 1) (xo hs k0)) rfl ?_;rintro _ ⟨b0,rfl,hc⟩;refine⟨by kernel_rfl,cB (fun h2=>?_) (fun h2=>?_)⟩;exact rV rfl rfl ⟨_,rfl,fun _=>(apj h0 h1).2 ⟨k0,hb,hc.1 h2⟩,fun _=>rfl⟩;refine⟨by omega,⟨(k0+1),by omega,(cnR rfl),?_⟩⟩;refine⟨by omega,fun j hl h=>?_⟩;rcases a0k.1 h with h|rfl;exact h3 j hl h;exact fun h=>by rw[hc.2 h]at h2;cases h2
 exact rV rfl rfl ⟨_,rfl,fun h=>absurd h a04,fun h=>by obtain⟨i,hi,h⟩:=(apj h0 h1).1 h;exact absurd h (h3 i (by omega) (by omega))⟩;have h1:¬(bAt p 0).toNat=37:=nF h4 rfl
 apply cB<;>intro h7;have h6:=ax1.1 h7
 have hsz:=aem h6;refine⟨‹_›,cB (fun h5=>?_) (fun h5=>?_)⟩;refine cT (OpG.lk (jh underlying9 rfl rfl (by omega) (by omega)) ?_);refine OpG.lk (jh underlying9 rfl rfl (by omega) (by omega)) (ArgG.mk (ih (p.extract 1 p.size) (s.extract 1 s.size) (by rw[zk];omega) (xo hp 1) (xo hs 1)) rfl ?_);rintro _ ⟨b1,rfl,hd⟩;exact⟨by kernel_rfl,rV rfl rfl ⟨_,rfl,fun h=>(api h0 h6 h1).2 ⟨.inl (nE h5 rfl),hd.1 h⟩,fun h=>hd.2 ((api h0 h6 h1).1 h).2⟩⟩;refine⟨‹_›,⟨‹_›,?_⟩⟩;apply cB<;>intro h8;refine OpG.lk (jh underlying9 rfl rfl (by omega) (by omega)) (OpG.lk (jh underlying9 rfl rfl (by omega) (by omega)) ?_);refine ArgG.mk (ih (p.extract 1 p.size) (s.extract 1 s.size) (by rw[zk];omega) (xo hp 1) (xo hs 1)) rfl ?_;rintro _ ⟨b2,rfl,he⟩;exact⟨by kernel_rfl,rV rfl rfl ⟨_,rfl,fun h=>(api h0 h6 h1).2 ⟨.inr (nE h8 rfl),he.1 h⟩,fun h=>he.2 ((api h0 h6 h1).1 h).2⟩⟩;exact⟨by kernel_rfl,rV rfl rfl ⟨_,rfl,fun h=>absurd h a04,fun h=>absurd ((api h0 h6 h1).1 h).1 (by rintro(h|h);exact nF h5 rfl h;exact nF h8 rfl h)⟩⟩;exact cF ⟨by kernel_rfl,rV rfl rfl ⟨_,rfl,fun h=>absurd h a04,fun h=>absurd h (axf h0 (aqy h7) h1)⟩⟩
theorem aaa(p:ByteArray)(hp:j3 p)(s:ByteArray)(hs:j3 s):PRet prog 169 [.v (.string s),.v (.string p)] (fun q=>q=vB (rx s p)):=by
 have key:∀n,∀p s:ByteArray,p.size<n->j3 p->j3 s->PRet prog 169 [.v (.string s),.v (.string p)] (fun q=>∃b:Bool,q=vB b/\(b=true↔Mt (p).data.toList (s).data.toList)):=by
  intro n
  induction n with
  |zero=>intro p s h;omega
  |succ n ih=>intro p s h hp hs;exact Z9 s hs p hp fun p1 s1 h1 h0 h2=>ih p1 s1 (by omega) h0 h2
 obtain⟨_,⟨b,rfl,hb⟩,h⟩:=key _ p s (Nat.lt_succ_self _) hp hs
 exact⟨_,by rw[Bool.eq_iff_iff.2 (hb.trans axl.symm)],h⟩
def Zk(l m:List UInt8):Int:=if Op.bytesLess l m=true then -1 else if Op.bytesLess m l=true then 1 else 0
theorem adk(a b:ByteArray):wz a b=Zk a.data.toList b.data.toList:=by unfold wz Zk fv;rw[Go.ByteArray.toList_eq,Go.ByteArray.toList_eq]
theorem S0(x:UInt8)(l m:List UInt8):Zk (x::l) (x::m)=Zk l m:=by unfold Zk;simp[Op.bytesLess]
theorem ahw{x y:UInt8}(l m:List UInt8)(h:¬x=y):Zk (x::l) (y::m)=jo ((x.toNat:Nat):Int) ((y.toNat:Nat):Int):=by unfold Zk jo;have hn:¬x.toNat=y.toNat:=fun e=>h (u8.1 e);by_cases h1:x<y;have h2:x.toNat<y.toNat:=UInt8.lt_iff_toNat_lt.1 h1;rw[a0d (by simp[Op.bytesLess,h1]),a0d (by omega)];have h2:¬x.toNat<y.toNat:=fun g=>h1 (UInt8.lt_iff_toNat_lt.2 g);have h3:y<x:=UInt8.lt_iff_toNat_lt.2 (by omega);rw[a0c (by simp[Op.bytesLess,h1,h]),a0d (by simp[Op.bytesLess,h3]),a0c (by omega),a0d (by omega)]
def bE{n m:Nat}(h:(((n:Nat):Int) !=((m:Nat):Int))=false):n=m:=by simp only[bne_eq_false_iff_eq]at h;omega
def bNe{x y:UInt8}(h:(((x.toNat:Nat):Int) !=((y.toNat:Nat):Int))=true):¬x=y:=fun e=>by subst e;simp at h
theorem A5:∀{l m:List UInt8},Op.bytesLess l m=true->Op.bytesLess m l=false
 |[],[],h=>by simp[Op.bytesLess]at h
 |[],_::_,_=>by simp[Op.bytesLess]
 |_::_,[],h=>by simp[Op.bytesLess]at h
 |a::l,b::m,h=>by simp only[Op.bytesLess,Bool.or_eq_true,a06,a05,beq_iff_eq]at h;simp only[Op.bytesLess,Bool.or_eq_false_iff,decide_eq_false_iff_not,Bool.and_eq_false_iff,beq_eq_false_iff_ne];rcases h with h|⟨rfl,h⟩;exact⟨Std.not_lt.2 (Std.le_of_lt h),.inl (fun e=>by subst e;exact absurd h (Std.lt_irrefl))⟩;exact⟨Std.lt_irrefl,.inr (A5 h)⟩
theorem an9(a b:ByteArray):decide (wz a b<0)=fv a b:=by grind[wz,fv]
theorem aoa(a b:ByteArray):decide (wz a b<=0)=!fv b a:=by grind[wz,fv,A5]
def axq(h:t.a_.length=0)(hc:Fy t.g_=c):M9 op t=some (.kn (og op c)):=by rw[<-hc];exact ik_0 h
def ptF:Pt->GFm
 |.kn b=>cnF b
 |.pat a=>atF a
def ptO(o:Option Pt):Option (List AV):=o.map fun p=>fmA (ptF p)
def Ei{p:Pt}(h:o=some p)(hf:ptF p=f):ptO o=some (fmA f):=by rw[h,<-hf];rfl
def Zh(h:o=none):ptO o=none:=by rw[h];rfl
def aup{r:Option GTm}{o:Option (List AV)}(h:xt r q e)(he:¬e=0)(ho:o=none):FmR o f e:=fmN ho (h.2 he).2.1
def TxI(a b:ByteArray)(k:Nat):Prop:=Zk a.data.toList b.data.toList=Zk (a.data.toList.drop k) (b.data.toList.drop k)
section
variable{a b:ByteArray}{k:Nat}
def txI0:TxI a b 0:=rfl
theorem dl{a:ByteArray}(h:k<a.size):a.data.toList.drop k=bAt a k::a.data.toList.drop (k+1):=by simp_all [Fi,a00]
def ame(h:TxI a b k)(ha:k<a.size)(hb:k<b.size)(he:bAt a k=bAt b k):TxI a b (k+1):=by unfold TxI at h ⊢;rw[h,dl ha,dl hb,he,S0]
def amf(h:TxI a b k)(ha:k<a.size)(hb:k<b.size)(he:¬bAt a k=bAt b k):jo (((bAt a k).toNat:Nat):Int) (((bAt b k).toNat:Nat):Int)=wz a b:=by rw[adk,h,dl ha,dl hb,ahw _ _ he]
theorem dz{a:ByteArray}(h:¬k<a.size):a.data.toList.drop k=[]:=List.drop_of_length_le (by simp at h ⊢;omega)
def Q9(h:TxI a b k)(hk:k<=a.size)(hk2:k<=b.size)(he:¬k<a.size\/¬k<b.size):jo ((a.size:Nat):Int) ((b.size:Nat):Int)=wz a b:=by rw[adk,h];unfold jo;by_cases ha:k<a.size;have hb:¬k<b.size:=he.resolve_left (fun h=>h ha);rw[dz hb,dl ha,a0c (by omega),a0d (by omega)];rfl;by_cases hb:k<b.size;rw[dz ha,dl hb,a0d (by omega)];rfl;rw[dz ha,dz hb,a0c (by omega),a0c (by omega)];rfl
end
def afe:ca prog 171=true:=by kernel_rfl
def Ew(a:Int)(b:Int):PRet prog 172 [vI a,vI b] (fun q=>q=vI (jo a b)):=ovT [] [] func172 rfl rfl (cD (fun h1=>rV rfl rfl (congrArg vI (by unfold jo;(rw[a0d (by omega)];done)))) (fun h1=>cD (fun h0=>rV rfl rfl (congrArg vI (by unfold jo;(rw[a0c (by omega),a0d (by omega)];done)))) (fun h0=>rV rfl rfl (congrArg vI (by unfold jo;(rw[a0c (by omega),a0c (by omega)];done))))))
def Ab(a:ByteArray)(ha:j3 a)(b:ByteArray)(hb:j3 b):PRet prog 121 [.v (.string a),.v (.string b)] (fun q=>q=vI (wz a b)):=by have ha1:a.size<=140737488351232:=ha;have hb1:b.size<=140737488351232:=hb;refine ovT [28,32] [] func121 rfl rfl ?_;refine LpG.on (fun k0:K1=>(⟨fL [(0,.v (.string a)),(1,.v (.string b)),(5,vI k0.k)],hLz [],0⟩:St)) (fun k0=>((min a.size b.size)-k0.k)) (fun k0=>(k0.k<=(min a.size b.size)/\TxI a b k0.k)) (⟨0⟩:K1) (cnR rfl) ⟨a0h _,txI0⟩ ?_;rintro k0 h6;obtain⟨hle_k0,h0⟩:=h6;refine cB (fun h3=>?_) (fun h3=>?_);have h1:k0.k<a.size:=Int.ofNat_lt.1 (a0f h3);refine cB (fun h4=>?_) (fun h4=>?_);have h2:k0.k<b.size:=Int.ofNat_lt.1 (a0f h4);refine⟨‹_›,?_⟩;refine⟨‹_›,?_⟩;refine⟨by kernel_rfl,?_⟩;refine cB (fun h5=>?_) (fun h5=>?_);refine⟨‹_›,?_⟩;refine OpG.lk (Od underlying5 underlying2 rfl (by omega) (by have:=(bAt a k0.k).toNat_lt;omega)) ?_;refine⟨‹_›,?_⟩;refine OpG.lk (Od underlying5 underlying2 rfl (by omega) (by have:=(bAt b k0.k).toNat_lt;omega)) ?_;refine ArgG.mk (Ew ((((bAt a k0.k).toNat:Nat):Int)) ((((bAt b k0.k).toNat:Nat):Int))) rfl ?_;rintro _ rfl;refine⟨by kernel_rfl,?_⟩;exact rV rfl rfl (congrArg vI (amf h0 h1 h2 (bNe h5)));refine⟨by omega,?_⟩;refine⟨(⟨k0.k+1⟩:K1),(by show(min a.size b.size)-(k0.k+1)<(min a.size b.size)-k0.k;omega),(cnR rfl),?_⟩;refine⟨by show k0.k+1<=_;omega,?_⟩;exact ame h0 h1 h2 (u8.1 (bE h5));have hge15:¬k0.k<b.size:=fun h=>a0e h4 (Int.ofNat_lt.2 h);refine ArgG.mk (Ew (((a.size:Nat):Int)) (((b.size:Nat):Int))) rfl ?_;rintro _ rfl;exact rV rfl rfl (congrArg vI (Q9 h0 (by omega) (by omega) (by omega)));have hge10:¬k0.k<a.size:=fun h=>a0e h3 (Int.ofNat_lt.2 h);refine cF (ArgG.mk (Ew (((a.size:Nat):Int)) (((b.size:Nat):Int))) rfl ?_);rintro _ rfl;exact rV rfl rfl (congrArg vI (Q9 h0 (by omega) (by omega) (by omega)))
def Ss(t:PTest)(s:ByteArray)(hs:j3 s)(h0:j3 t.s):PRet prog 117 [.agg (teA t),.v (.string s)] (fun q=>q=vB (Ar t s)):=by refine ovT [] [] func117 rfl rfl (cE (fun h1=>?_) (fun h1=>?_));exact rV rfl rfl (congrArg vB (by rw[Ar,a0d ‹_›];rfl));apply cE<;>intro hq14;refine ArgG.mk (aaa t.s h0 s hs) rfl ?_;rintro _ rfl;exact rV rfl rfl (congrArg vB (by rw[Ar,a0c (by omega),a0d ‹_›];rfl));apply cE<;>intro hq20;refine ArgG.mk (Ab s hs t.s h0) rfl ?_;rintro _ rfl;exact rV rfl rfl (congrArg vB (by rw[Ar,a0c (by omega),a0c (by omega),a0d ‹_›,<-an9];rfl));apply cE<;>intro hq27;refine ArgG.mk (Ab s hs t.s h0) rfl ?_;rintro _ rfl;exact rV rfl rfl (congrArg vB (by rw[Ar,a0c (by omega),a0c (by omega),a0c (by omega),a0d ‹_›,<-aoa];rfl));exact rV rfl rfl (congrArg vB (by rw[Ar,a0c (by omega),a0c (by omega),a0c (by omega),a0c (by omega)];rfl))
def of13(x:GEx)(hx:FitEx x)(hs:IsSh 11 (exA x))(a:GTm)(ho:ofT (exA x)=some a):PRet prog 168 [.agg (exA x)] (fun q=>q=.tup [.agg (tmA a),vI 0]):=by obtain⟨_,⟨t,e,rfl,h1,h2,h3⟩,h⟩:=aor (exA x) (ki hx) 11 (by omega) hs;have he:=h3 a ho;have h4:=(h2 he).2.2.2.2.2;rw[ho]at h4;cases h4;exact⟨_,by rw[he],h⟩
theorem ai0(x:GEx)(hx:FitEx x)(y:GEx)(hy:FitEx y)(op:Int)(h9:10<=op/\op<=15)(a b:GTm)(h1:ofT (exA x)=some a)(h2:ofT (exA y)=some b)(h6:IsSh 11 (exA x))(h7:IsSh 11 (exA y)):PRet prog 119 [.agg (exA x),.agg (exA y),vI op] (fun q=>∃(f:GFm) (e:Int),q=.tup [.agg (fmA f),vI e]/\FitFm f/\FmR (ptO (Db op (exA x) (exA y))) f e):=by
 obtain⟨ha,hd,hla⟩:=ke (exA x) (ki hx) 11 (by omega) h6 a h1;obtain⟨hb,hsb,hlb⟩:=ke (exA y) (ki hy) 11 (by omega) h7 b h2;have e13:2^(11+1)=4096:=rfl
 refine ovT [91] [] func119 rfl rfl (ArgG.mk (of13 x hx h6 a h1) rfl ?_);rintro _ rfl;refine ArgG.mk (of13 y hy h7 b h2) rfl ?_;rintro _ rfl;refine cF (cF (ArgG.mk (p8 b hb (-1) (by omega)) rfl ?_));rintro _ ⟨t2,e2,rfl,he,h4⟩;refine cN (fun h=>rtC rfl cw rfl ⟨[],je⟩ ⟨cnF true,e2,rfl,fo,aup h4 h (Zh (it_1 h1 h2 (h4.2 h).1))⟩) (fun h=>have hS:=M7 h4 h;have hs1:=alu hS;have hs2:=Gm (-1) b;ArgG.mk (P3 a ha t2 he (il hd) (il (aix hS)) (by omega) (by omega)) rfl ?_);rintro _ ⟨t3,e3,rfl,h8,h5⟩;refine cN (fun h=>rtC rfl cw rfl ⟨[],je⟩ ⟨cnF true,e3,rfl,fo,aup h5 h (Zh (it_2 h1 h2 hS (h5.2 h).1))⟩) (fun h=>have hA:=M7 h5 h;have I:=ap2 (op:=op) h1 h2 hS hA;have hl3:t3.a_.length<=16384:=(by have:=alu hA;have:=A9 a t2;omega);have at1:∀{t:GTm} (k:Int),FitTm t->FitAt ⟨k,0,0,t,zTe⟩:=fun _ h=>⟨h,ub.w_⟩;LenG.of ?_)
 repeat' first
  |refine cT ?_|refine cF ?_|refine cE (fun _=>?_) (fun _=>?_)<;>try omega|refine cN (fun _=>?_) (fun _=>?_)<;>try omega|refine cD (fun _=>?_) (fun _=>?_)<;>try omega
  |refine ArgG.mk (aow op _ h9) rfl ?_;rintro _ rfl
  |refine ArgG.mk (nv _) rfl ?_;rintro _ rfl
  |refine ArgG.mk (p8 t3 h8 (-1) (by omega)) rfl ?_;rintro _ ⟨t4,e4,rfl,hf,h0⟩
  |obtain⟨_,⟨t5,e5,rfl,hg,h3⟩,hc⟩:=P3 t4 hf one1 xg (il (aix (M7 h0 ‹_›))) (il C4) (by have:=alu (M7 h0 ‹_›);have:=Gm (-1) t3;omega) (by decide);refine OpG.lk (di afe (.cons (.pure rfl) (.cons FzP.one .nil)) hc) ?_
  |obtain⟨_,⟨t5,e5,rfl,hg,h3⟩,hc⟩:=P3 t3 h8 one1 xg (il (aix hA)) (il C4) (by omega) (by decide);refine OpG.lk (di afe (.cons (.pure rfl) (.cons FzP.one .nil)) hc) ?_
  |refine ArgG.mk (n7 _ (at1 _ ‹_›)) rfl ?_;rintro _ rfl
 all_goals first
  |exact rtP rfl cw rfl ⟨cnF (og op _),0,rfl,fo,fmY (Ei (I.trans (axq (by omega) (by unfold Fy;first|rw[a0d (by omega)]|rw[a0c (by omega),a0d (by omega)]|rw[a0c (by omega),a0c (by omega)]))) rfl)⟩
  |exact rtP rfl cw rfl ⟨atF _,0,rfl,mi (at1 _ ‹_›),fmY (Ei (I.trans (by first|exact ap9 (by omega) ‹_›|exact ap8 (by omega) ‹_›)) rfl)⟩
  |exact rtC rfl cw rfl ⟨[],je⟩ ⟨cnF true,_,rfl,fo,aup h3 ‹_› (Zh (I.trans (ik_w (by omega) ‹_› ‹_› (by first|(rw[a0d (by omega)];exact M7 h0 ‹_›)|rw[a0c (by omega)]) (by rw[a0d (by omega)];exact(h3.2 ‹_›).1))))⟩
  |exact rtC rfl cw rfl ⟨[],je⟩ ⟨cnF true,_,rfl,fo,aup h0 ‹_› (Zh (I.trans (ik_u (by omega) ‹_› ‹_› (by rw[a0d (by omega)];exact(h0.2 ‹_›).1))))⟩
  |exact rtP rfl cw rfl ⟨atF ⟨2,0,0,_,zTe⟩,0,rfl,mi (at1 _ ‹_›),fmY (Ei (I.trans (ik_g (by omega) ‹_› ‹_› (by first|(rw[a0d (by omega)];exact M7 h0 ‹_›)|rw[a0c (by omega)]) (by first|(rw[a0d (by omega)];exact M7 h3 ‹_›)|rw[a0c (by omega)]))) rfl)⟩
def Fv{η:bo} :FzP fp η (.agg [vI 5,vI c,vI 0,vI 0,.v (.slice none 0 0),vI v,vI kd,vB ng,.v (.string s)]) (.agg (atA ⟨5,c,0,zT,⟨v,kd,ng,s⟩⟩)):=
 FzP.aggL (.cons (.pure rfl) (.cons (.pure rfl) (.cons (.pure rfl) (.cons (.pure rfl) (.cons (FzP.nil (n:=5)) (.cons (.pure rfl) (.cons (.pure rfl) (.cons (.pure rfl) (.cons (.pure rfl) .nil)))))))))
def X8{η:bo}{o:Int}:FzP fp η (.agg [vI k,vI v,vI o,vI 0,.v (.slice none 0 0),vI 0,vI 0,vB false,.v (.string ⟨#[]⟩)]) (.agg (atA ⟨k,v,o,zT,zTe⟩)):=
 FzP.aggL (.cons (.pure rfl) (.cons (.pure rfl) (.cons (.pure rfl) (.cons (.pure rfl) (.cons (FzP.nil (n:=5)) (.cons (.pure rfl) (.cons (.pure rfl) (.cons (.pure rfl) (.cons (.pure rfl) .nil)))))))))
section
variable{x y:GEx}{op:Int}{ng:Bool}
def lk_l(h:x.op_=1):ptF (Hg x y (!ng))=cnF (Ar ⟨0,1,ng,y.j_.l_⟩ x.j_.l_):=by rw[Hg,a0d h];show cnF _=cnF _;congr 1;unfold Ar;rw[a0c (show¬(1:Int)=0 by decide),a0d (show(1:Int)=1 from rfl)];cases rx x.j_.l_ y.j_.l_<;>cases ng<;>rfl
def lk_a(h:¬x.op_=1):ptF (Hg x y (!ng))=atF ⟨5,x.i_,0,zT,⟨0,1,ng,y.j_.l_⟩⟩:=by rw[Hg,a0c h,Bool.not_not];rfl
def tx_1(h1:x.op_=1)(h2:y.op_=1):ptF (o7 op x y)=cnF (og op (wz x.j_.l_ y.j_.l_)):=by rw[o7,a0d ⟨h1,h2⟩];rfl
def tx_2(h1:x.op_=1)(h2:¬y.op_=1):ptF (o7 op x y)=atF ⟨5,y.i_,0,zT,qt (yo op) x.j_.l_⟩:=by rw[o7,a0c (fun h=>h2 h.2),a0d h1];rfl
def tx_3(h1:¬x.op_=1)(h2:y.op_=1):ptF (o7 op x y)=atF ⟨5,x.i_,0,zT,qt op y.j_.l_⟩:=by rw[o7,a0c (fun h=>h1 h.1),a0c h1,a0d h2];rfl
def tx_4(h1:¬x.op_=1)(h2:¬y.op_=1)(h:x.i_=y.i_):ptF (o7 op x y)=cnF (op==10):=by rw[o7,a0c (fun h=>h1 h.1),a0c h1,a0c h2,a0d h];rfl
def tx_5(h1:¬x.op_=1)(h2:¬y.op_=1)(h:¬x.i_=y.i_)(hk:(if op=11 then 7 else 6)=k):ptF (o7 op x y)=atF ⟨k,min x.i_ y.i_,max x.i_ y.i_,zT,zTe⟩:=by rw[o7,a0c (fun h=>h1 h.1),a0c h1,a0c h2,a0c h,hk];rfl
end
def ifP7{o:Int}(h:o=11):(if o=11 then(7:Int)else 6)=7:=a0d h
def ifN7{o:Int}(h:¬o=11):(if o=11 then(7:Int)else 6)=6:=a0c h
def inF(f:GFm):List Int:=if f.c_=2 then jm f.e_ else[]
def ai6 :(inF f).length<=(ek (tmA f.e_.q_)).length+2:=by unfold inF;split;exact F8;simp
def ac6(h:10<=op/\op<=15):10<=yo op/\yo op<=15:=by unfold yo;split<;>(try split)<;>(try split)<;>(try split)<;>omega
def aoi(h:10<=op/\op<=15):10<=s7 op/\s7 op<=15:=by grind[s7]
def D1{o:Int}:FitAt ⟨k,v,o,zT,zTe⟩:=⟨dc,ub.w_⟩
def agv(cl:Int)(op:Int)(s:ByteArray)(hs:j3 s)(ho:10<=op/\op<=15):PRet prog 122 [vI cl,vI op,.v (.string s)] (fun q=>q=.agg (fmA (atF ⟨5,cl,0,zT,qt op s⟩))):=by obtain⟨j,hj,h0⟩:∃j:Nat,op=10+((j:Nat):Int)/\j<6:=⟨(op-10).toNat,by omega,by omega⟩;refine ovT [10,30] [] func122 rfl rfl (OpG.nw (cy (dn underlying53 sz3 zr3 rfl rfl rfl rfl) (fun η' h=>be (f:=iA) (l:=[0,0,2,3,3,2]) (az9.2 rfl) h rfl rfl rfl rfl rfl (fun a _=>⟨rfl,rfl⟩))) rfl (ArgG.mk ((show PRet prog 111 [vI op] (fun r=>r=vI j)by obtain⟨_,⟨p,rfl,hp⟩,h⟩:=y9 op (by omega);exact⟨_,by rw[show p=((j:Nat):Int)by omega],h⟩)) rfl ?_));rintro _ rfl;refine IdxG.of ‹_› (cE (fun h1=>cT ?_) (fun h1=>?_));obtain⟨_,rfl,h2⟩:=n7 ⟨5,cl,0,zT,qt op s⟩ ⟨dc,ud hs⟩;exact OpG.lk (di tw (.cons (show FzP _ _ _ (.agg (atA ⟨5,cl,0,zT,qt op s⟩))by(rw[<-Rd (b:=true) (s:=s) h0 hj (by simp_all)];exact Fv)) .nil) h2) (rtK rfl cw rfl ⟨[],FzP.pure rfl⟩ rfl);refine cE (fun h3=>by obtain⟨_,rfl,h4⟩:=n7 ⟨5,cl,0,zT,qt op s⟩ ⟨dc,ud hs⟩;exact OpG.lk (di tw (.cons (show FzP _ _ _ (.agg (atA ⟨5,cl,0,zT,qt op s⟩))by(rw[<-Rd (b:=true) (s:=s) h0 hj (by simp_all)];exact Fv)) .nil) h4) (rtK rfl cw rfl ⟨[],FzP.pure rfl⟩ rfl)) (fun h3=>?_);obtain⟨_,rfl,h5⟩:=n7 ⟨5,cl,0,zT,qt op s⟩ ⟨dc,ud hs⟩;exact OpG.lk (di tw (.cons (show FzP _ _ _ (.agg (atA ⟨5,cl,0,zT,qt op s⟩))by(rw[<-Rd (b:=(op==15)) (s:=s) h0 hj (by simp_all)];exact Fv)) .nil) h5) (rtK rfl cw rfl ⟨[],FzP.pure rfl⟩ rfl)
theorem aht(x:GEx)(hx:FitEx x)(l:List PVar)(hl:bn l (fun y=>True))(ng:Bool)(a0 a1:GEx)(h2:FitEx a0)(h0:FitEx a1)(h9:x.b_=[exA a0,exA a1])(hop:10<=x.op_/\x.op_<=16)(h3:OpE l 11 (exA a0))(h4:x.op_≠16->OpE l 11 (exA a1))(hd:¬HasN (exA a0))(he:¬HasN (exA a1))(h5:IsSh 11 (exA a0))(h6:IsSh 11 (exA a1)):PRet prog 71 [.agg (exA x),.tree 5 (l.map vA),vB ng] (fun q=>∃(f:GFm) (e:Int),q=.tup [.agg (fmA f),vI e]/\FitFm f/\FmR (ptO (ptS l x.op_ (exA a0) (exA a1) (!ng))) f e):=by
 have hal:x.b_.length=2:=by rw[h9];rfl
 have h7:x.b_[0]'(by omega)=exA a0:=by simp[h9]
 have h8:x.b_[1]'(by omega)=exA a1:=by simp[h9]
 refine ovT [42,118,123,125] [] func71 rfl rfl (cz (j:=0) (by omega) h7 (cz (j:=1) (by omega) h8 ⟨rfl,cE (fun h=>cE (fun h1=>?_) fun h1=>?_) fun h=>cB (fun g=>?_) fun g=>?_⟩));refine ArgG.mk (Ss ⟨0,1,ng,a1.j_.l_⟩ a0.j_.l_ h2.j_.l_ h0.j_.l_) rfl ?_;rintro _ rfl;refine ArgG.mk (nv _) rfl ?_;rintro _ rfl;exact rtP rfl cw rfl ⟨cnF _,0,rfl,fo,fmY (Ei (Sn h) (lk_l h1))⟩;obtain⟨_,rfl,ha⟩:=n7 ⟨5,a0.i_,0,zT,⟨0,1,ng,a1.j_.l_⟩⟩ ⟨dc,h0.j_.l_⟩;exact OpG.lk (di tw (.cons Fv .nil) ha) (rtP rfl cw rfl ⟨atF _,0,rfl,mi ⟨dc,h0.j_.l_⟩,fmY (Ei (Sn h) (lk_a h1))⟩);have hb:(if(!ng)=true then x.op_ else s7 x.op_)=s7 x.op_:=by rw[g];rfl
 refine ArgG.mk (Jw x.op_ (by omega)) rfl ?_;rintro _ rfl;rotate_left;have hb:(if(!ng)=true then x.op_ else s7 x.op_)=x.op_:=by rw[g];rfl
 all_goals
  have hg:=aoi (op:=x.op_) (by omega)
  have hv:=ac6 (op:=s7 x.op_) hg
  have hw:=ac6 (op:=x.op_) (by omega)
  repeat' first
   |refine cT ?_|refine cF ?_|refine cE (fun _=>?_) (fun _=>?_)<;>try omega
   |refine⟨rfl,?_⟩
   |refine ArgG.mk (tq (exA a0) (ki h2) l hl) rfl ?_;rintro _ ⟨_|_,rfl,t0,t2⟩
   |refine ArgG.mk (tq (exA a1) (ki h0) l hl) rfl ?_;rintro _ ⟨_|_,rfl,t1,t3⟩
   |obtain⟨u0,i0⟩:=O1 h3 hd (t2 rfl);obtain⟨u1,i1⟩:=O1 (h4 h) he (t3 rfl);refine ArgG.mk (ai0 a0 h2 a1 h0 _ (by omega) u0 u1 i0 i1 h5 h6) rfl ?_;rintro _ ⟨f,e,rfl,hf,hr⟩;exact rtP rfl cw rfl ⟨f,e,rfl,hf,(alt h (t2 rfl) (t3 rfl) hb).symm▸hr⟩
   |refine ArgG.mk (Ab a0.j_.l_ h2.j_.l_ a1.j_.l_ h0.j_.l_) rfl ?_;rintro _ rfl
   |refine ArgG.mk (aow _ _ (by omega)) rfl ?_;rintro _ rfl
   |refine ArgG.mk (nv _) rfl ?_;rintro _ rfl
   |refine ArgG.mk (Jm _ (by omega)) rfl ?_;rintro _ rfl
   |refine ArgG.mk (agv _ _ _ (by first|exact h2.j_.l_|exact h0.j_.l_) (by omega)) rfl ?_;rintro _ rfl
   |obtain⟨_,rfl,hc⟩:=n7 ⟨7,min a0.i_ a1.i_,max a0.i_ a1.i_,zT,zTe⟩ D1;refine OpG.lk (m3 rfl rfl) (OpG.lk (s5 rfl rfl) (OpG.lk (di tw (.cons X8 .nil) hc) ?_))
   |obtain⟨_,rfl,hc⟩:=n7 ⟨6,min a0.i_ a1.i_,max a0.i_ a1.i_,zT,zTe⟩ D1;refine OpG.lk (m3 rfl rfl) (OpG.lk (s5 rfl rfl) (OpG.lk (di tw (.cons X8 .nil) hc) ?_))
  all_goals
   have X:TextE l (exA a0)\/TextE l (exA a1):=by first|exact .inl (t0 rfl)|exact .inr (t1 rfl)
   have T:=ahl h X hb
   first
    |exact rtP rfl cw rfl ⟨cnF _,0,rfl,fo,fmY (Ei T (by first|exact tx_1 ‹_› ‹_›|exact tx_4 ‹_› ‹_› ‹_›))⟩
    |exact rtP rfl cw rfl ⟨atF _,0,rfl,mi ⟨dc,ud h2.j_.l_⟩,fmY (Ei T (tx_2 ‹_› ‹_›))⟩
    |exact rtP rfl cw rfl ⟨atF _,0,rfl,mi ⟨dc,ud h0.j_.l_⟩,fmY (Ei T (tx_3 ‹_› ‹_›))⟩
    |exact rtP rfl cw rfl ⟨atF _,0,rfl,mi D1,fmY (Ei T (tx_5 ‹_› ‹_› ‹_› (by first|exact ifP7 ‹_›|exact ifN7 ‹_›)))⟩
theorem Bg{x y:GFm}(h:fmA x=fmA y):x=y:=by obtain⟨k,⟨ak,av,ao,⟨c,ps⟩,⟨tv,tk,ng,s⟩⟩,ag⟩:=x;obtain⟨k',⟨ak',av',ao',⟨c',ps'⟩,⟨tv',tk',ng',s'⟩⟩,ag'⟩:=y;simp only[fmA,List.cons.injEq,AV.v.injEq,Value.int.injEq,Value.bool.injEq,Value.string.injEq,AV.tree.injEq,true_and,and_true,ip]at h;obtain⟨rfl,rfl,rfl,rfl,rfl,h,rfl,rfl,rfl,rfl,rfl⟩:=h;obtain rfl:ps=ps':=List.map_inj_right (fun a b=>Sm)|>.1 h;rfl
theorem ahk(h:ptO o=some (fmA f)):∃p,o=some p/\f=ptF p:=by
 cases o with
 |none=>cases h
 |some p=>exact⟨p,rfl,(Bg (Option.some.inj h)).symm⟩
theorem Zg(h:ptO o=none):o=none:=by
 cases o with
 |none=>rfl
 |some p=>cases h
def kdR1(ho:op=18\/op=19)(hm:0<=m/\m<=3)(hb:b=(m==1||m==3))(h:((op==19) !=b)=true)(hk:kd=1):(if(op==18)=pe m then(0:Int)else 1)=kd:=by obtain rfl|rfl|rfl|rfl:m=0\/m=1\/m=2\/m=3:=(by omega);all_goals(subst hb;subst hk;rcases ho with rfl|rfl<;>revert h<;>decide)
def kdR0(ho:op=18\/op=19)(hm:0<=m/\m<=3)(hb:b=(m==1||m==3))(h:((op==19) !=b)=false)(hk:kd=0):(if(op==18)=pe m then(0:Int)else 1)=kd:=by obtain rfl|rfl|rfl|rfl:m=0\/m=1\/m=2\/m=3:=(by omega);all_goals(subst hb;subst hk;rcases ho with rfl|rfl<;>revert h<;>decide)
def b1R(h:(m==1)=true):true=(m==1||m==3):=by rw[h];rfl
def b0R(h:(m==1)=false):(m==3)=(m==1||m==3):=by rw[h];rfl
theorem ng1(h:(m==1)=true)(hm:0<=m/\m<=3):(!true)=pe m:=by rw[show m=1 by simpa using h];rfl
theorem ng0(h:(m==1)=false)(hm:0<=m/\m<=3):(!(m==3))=pe m:=by obtain rfl|rfl|rfl|rfl:m=0\/m=1\/m=2\/m=3:=(by omega);all_goals(revert h;decide)
def ps1(h:(m==0)=true):true=pe m:=by unfold pe;rw[h];rfl
def ps0(h:(m==0)=false):(m==2)=pe m:=by unfold pe;rw[h];rfl
def wk1(h:(m==2)=true):true=i8 m:=by unfold i8;rw[h];rfl
def wk0(h:(m==2)=false):(m==3)=i8 m:=by unfold i8;rw[h];rfl
def st1(h:m=0\/m=1):i8 m=false:=by rcases h with rfl|rfl<;>rfl
def st0(hm:0<=m/\m<=3)(h0:¬m=0)(h1:¬m=1):i8 m=true:=by obtain rfl|rfl:m=2\/m=3:=(by omega);all_goals rfl
section
variable{l:List PVar}{m:Int}{x a0 a1:GEx}
def avn{g:GFm}(h0:trS l r0 m=some (fmA f))(h1:trS l r1 m=some (fmA g)):ju l [r0,r1] m=some ([f,g].map fmA):=by simp only[ju,h0,h1,a03,a02];rfl
def aml(h0:trS l r0 m=none):ju l [r0,r1] m=none:=by simp only[ju,h0];rfl
def amk(h1:trS l r1 m=none):ju l [r0,r1] m=none:=by simp only[ju,h1];cases trS l r0 m<;>rfl
theorem amh:∀{es:List (List AV)} (h:es.length=2),es=[es[0]'(by omega),es[1]'(by omega)]
 |[a,b],_=>rfl
def fit2{g:GFm}(h0:FitFm f)(h1:FitFm g):FitFm ⟨k,zAt,[f,g].map fmA⟩:=by grind[U0,az9]
def agr(hb:b=pe m)(ho:x.op_=17)(ha:x.b_=[exA a0])(hn:HasN (exA a0)):trS l (exA x) m=some (fmA (cnF b)):=by rw[hb];exact acy ho ha hn
def aj4(hb:b=i8 m)(h:HasN (exA x))(ho:¬x.op_=1):cmO l x m=some (fmA (cnF b)):=by rw[hb];exact Nu h ho
theorem adu{x a0:GEx}(ho:x.op_=17)(hxa:x.b_=[exA a0]):HasN (exA x)↔HasN (exA a0):=by simp_all [pm,az9]
theorem awz{x a0:GEx}(ho:x.op_=17)(h0:x.b_=[exA a0]):d5 (exA x)=bl [exA a0]:=by rw[dk,a0c (by omega),h0];rfl
theorem awy{x:GEx}(ho:10<=x.op_):srtU (d5 (exA x))=csX x:=by rw[dk,a0c (by omega)];rfl
def sl_n{x a0:GEx}{y:GFm}(hy:lsF (if b=true then 1 else 0) ((jp (if b=true then 0 else 1) (srtU (d5 (exA x)))).map fmA)=fmA y)(ho:x.op_=17)(h0:x.b_=[exA a0]):lsF (if b=true then 1 else 0) ((jp (if b=true then 0 else 1) (srtU (bl [exA a0]))).map fmA)=fmA y:=by rw[<-awz ho h0];exact hy
variable{cs L:List Int}{p:Pt}{f y:GFm}
theorem an5(hf:f=ptF p)(h:f.c_=1):p=.kn false:=by
 subst hf;cases p with
 |kn b=>cases b with
  |false=>rfl
  |true=>exact absurd h (by decide)
 |pat a=>exact absurd (show(2:Int)=1 from h) (by decide)
theorem an6(hf:f=ptF p)(h:f.c_=0):p=.kn true:=by
 subst hf;cases p with
 |kn b=>cases b with
  |true=>rfl
  |false=>exact absurd h (by decide)
 |pat a=>exact absurd (show(2:Int)=0 from h) (by decide)
theorem an4(hf:f=ptF p)(h:f.c_=2):∃a,p=.pat a:=by
 subst hf;cases p with
 |kn b=>cases b with
  |true=>exact absurd h (by decide)
  |false=>exact absurd h (by decide)
 |pat a=>exact⟨a,rfl⟩
theorem an3(hf:f=ptF p):f.c_=0\/f.c_=1\/f.c_=2:=by
 subst hf;cases p with
 |kn b=>cases b with
  |true=>exact .inl rfl
  |false=>exact .inr (.inl rfl)
 |pat a=>exact .inr (.inr rfl)
def rs_1(hw:i8 m=false)(hf:f=ptF p)(h:f.c_=1):cmF m cs p=fmA f:=by have hp:=an5 hf h;subst hp;subst hf;rw[cmF,a0c (by rw[hw];decide)];rfl
def rs_2(hw:i8 m=false)(hf:f=ptF p)(h:f.c_=2)(hk:L=cs.filter (kpB (inF f)))(hy:lsF 0 ((jp 1 L++[f]).map fmA)=fmA y):cmF m cs p=fmA y:=by subst hk;obtain⟨a,rfl⟩:=an4 hf h;subst hf;rw[cmF,a0c (by rw[hw];decide),<-mw,<-hy,a0u];rfl
def rs_3(hw:i8 m=false)(hf:f=ptF p)(h1:¬f.c_=1)(h2:¬f.c_=2)(hk:L=cs.filter (kpB (inF f)))(hy:lsF 0 ((jp 1 L).map fmA)=fmA y):cmF m cs p=fmA y:=by grind[an6,an3,kpB,inF,ptF,List.filter_eq_self,cmF,mw]
def rw_1(hw:i8 m=true)(hf:f=ptF p)(h:f.c_=0):cmF m cs p=fmA f:=by have hp:=an6 hf h;subst hp;subst hf;rw[cmF,a0d hw];rfl
def rw_2(hw:i8 m=true)(hf:f=ptF p)(h:f.c_=2)(hk:L=cs)(hy:lsF 1 ((jp 0 L++[f]).map fmA)=fmA y):cmF m cs p=fmA y:=by subst hk;obtain⟨a,rfl⟩:=an4 hf h;subst hf;rw[cmF,a0d hw,<-mw,<-hy,a0u];rfl
def rw_3(hw:i8 m=true)(hf:f=ptF p)(h1:¬f.c_=0)(h2:¬f.c_=2)(hk:L=cs)(hy:lsF 1 ((jp 0 L).map fmA)=fmA y):cmF m cs p=fmA y:=by grind[an5,an3,cmF,mw]
end
def ajk{l L:List Int}{k:Nat}(h:L=(l.take k).filter p)(hk:¬k<l.length):L=l.filter p:=by rw[h,a0x (by omega)]
theorem an1{x:List AV}{p:Pt}(hx:IsEx x)(hy:IsEx y)(sx:IsSh 11 x)(sy:IsSh 11 y)(h:ptS l op x y pos=some p)(hf:f=ptF p):(ek (tmA f.e_.q_)).length<=4096:=by
 subst hf;cases p with
 |kn b=>simp[ptF,cnF,zAt,zT,dx]
 |pat a=>exact ahm hx hy sx sy h
def ase:ca prog 69=true:=by kernel_rfl
def Zp(l:List Int)(hl:bn l (fun y=>True))(is_:Bool)(hvl:l.length<=100000):PRet prog 69 [.tree 1 (l.map iA),vB is_] (fun q=>q=.tree 11 ((jp (if is_=true then 0 else 1) l).map fmA)):=by
 refine ovT [23] [] func69 rfl rfl (LpG.via (fun _ h=>bu 5 11 rfl 1 rfl h) ?_)
 refine LpG.on (fun k0:KL GFm=>(⟨fL [(0,.tree 1 (l.map iA)),(1,vB is_),(5,.sl 0 k0.L.length 0 k0.L.length),(6,vI k0.k)],hLz [(0,⟨k0.L.length,rF fmA k0.L,11,Nat.beq k0.L.length 0⟩)],1⟩:St)) (fun k0=>(l.length-k0.k)) (fun k0=>(k0.k<=l.length/\(k0.L=jp (if is_=true then 0 else 1) (l.take k0.k)/\k0.L.length=k0.k))) (⟨0,[]⟩:KL GFm) (cnS (by rfl) (hpS (aa aw _ _) (by rfl) trivial)) ⟨a0h _,⟨rfl,rfl⟩⟩ ?_
 rintro k0 h3
 have hgr_k0:l.length<=140737488355328:=hl.1
 obtain⟨hle_k0,h0⟩:=h3
 refine LenG.of (cL (fun h1=>?_) (fun hge11=>?_))
 ·have hl2:=h0.2
  refine IdxG.of ‹_› (cB (fun h2=>?_) (fun h2=>?_))
  ·have hb:(if is_=true then 0 else 1)=(0:Int):=a0d h2 -- isT
   obtain⟨_,rfl,h4⟩:=n7 (vAt 0 l[k0.k]) q9
   refine OpG.lk (di tw (.cons xy .nil) h4) (OpG.mk _ _ _ 3 (ae aw (a:=(atF (vAt 0 l[k0.k]))) underlying67 Ct Ca Fe rfl rfl rfl (ap rfl rfl rfl rfl) rfl (by omega) (by omega) (by unfold TV;omega)) rfl rfl ?_)
   refine⟨by omega,⟨(⟨k0.k+1,k0.L++[(atF (vAt 0 l[k0.k]))]⟩:KL GFm),(nsA ‹_›),(cO (.cons rfl rfl (.cons rfl rfl (.cons (by(rw[az8];rfl)) rfl (.cons rfl rfl .nil)))) (.cons (by(rw[az8];rfl)) rfl (aa aw _ _) .nil)),?_⟩⟩
   exact⟨‹_›,⟨by show _++[_]=_;rw[h0.1,a0g h1,hb];unfold jp;rw[a0u];rfl,by show(_++[_]).length=_;rw[az8,h0.2];rfl⟩⟩
  have hb:(if is_=true then 0 else 1)=(1:Int):=a0c (by rw[h2];decide) -- isF
  obtain⟨_,rfl,h5⟩:=n7 (vAt 1 l[k0.k]) q9
  refine OpG.lk (di tw (.cons xy .nil) h5) (OpG.mk _ _ _ 3 (ae aw (a:=(atF (vAt 1 l[k0.k]))) underlying67 Ct Ca Fe rfl rfl rfl (ap rfl rfl rfl rfl) rfl (by omega) (by omega) (by unfold TV;omega)) rfl rfl ?_)
  refine⟨by omega,⟨(⟨k0.k+1,k0.L++[(atF (vAt 1 l[k0.k]))]⟩:KL GFm),(nsA ‹_›),(cO (.cons rfl rfl (.cons rfl rfl (.cons (by(rw[az8];rfl)) rfl (.cons rfl rfl .nil)))) (.cons (by(rw[az8];rfl)) rfl (aa aw _ _) .nil)),?_⟩⟩
  exact⟨‹_›,⟨by show _++[_]=_;rw[h0.1,a0g h1,hb];unfold jp;rw[a0u];rfl,by show(_++[_]).length=_;rw[az8,h0.2];rfl⟩⟩
 refine rtA rfl ⟨[0],FzP.rows aw (az9.2 rfl) rfl⟩ ?_
 have e:=h0.1
 rw[a0x (by omega)]at e
 rw[e]
theorem agc(f:GFm)(hf:FitFm f)(p:Pt)(h0:f=ptF p)(ho:(ek (tmA f.e_.q_)).length<=4096):PRet prog 72 [.agg (fmA f)] (fun q=>q=isA (inF f)):=by
 subst h0;cases p with
 |kn b=>
  have h:=age (ptF (.kn b)) hf (by show¬(if b=true then(0:Int)else 1)=2;split<;>decide) rfl
  rwa [show inF (ptF (.kn b))=[]from by unfold inF;rw[a0c (by show¬(if b=true then(0:Int)else 1)=2;split<;>decide)]]
 |pat a=>exact agd (ptF (.pat a)) hf rfl (a0m ho (by decide))
def Zr(vs:List Int)(h0:bn vs (fun _=>True))(h1:vs.length<=100000):j6 prog 69 [.tree 1 (vs.map iA),vB true] [] [(0,some ⟨0,rF fmA (jp 0 vs),11,Nat.beq (jp 0 vs).length 0⟩)] (.sl 0 0 0 (jp 0 vs).length):=Tc vs true h0 h1
def Zs(vs:List Int)(h0:bn vs (fun _=>True))(h1:vs.length<=100000):j6 prog 69 [.tree 1 (vs.map iA),vB false] [] [(0,some ⟨0,rF fmA (jp 1 vs),11,Nat.beq (jp 1 vs).length 0⟩)] (.sl 0 0 0 (jp 1 vs).length):=Tc vs false h0 h1
def Gd(x:GEx)(hx:FitEx x)(l:List PVar)(hl:bn l (fun y=>True))(m:Int)(hm:0<=m/\m<=3)(hc:CondE l (exA x))(g2:IsSh 12 (exA x))(ih:∀r∈x.b_,CondE l r->IsSh 12 r->∀m,(0<=m/\m<=3)->PRet prog 30 [.agg (rwA r),.tree 5 (l.map vA),vI m] (fun q=>∃(f:GFm) (e:Int),q=.tup [.agg (fmA f),vI e]/\FitFm f/\FmR (trS l r m) f e)):PRet prog 30 [.agg (exA x),.tree 5 (l.map vA),vI m] (fun q=>∃(f:GFm) (e:Int),q=.tup [.agg (fmA f),vI e]/\FitFm f/\FmR (trS l (exA x) m) f e):=by
 have hco:=Vs hc;obtain⟨d11,hd11,hsh0,h7⟩:=iq g2;obtain rfl:d11=11:=by omega
 have hv:∀r∈x.b_,IsSh 12 r:=fun r hr=>(h7 r hr).mono;have hoce:(d5 (exA x)).length+1<=8192:=Em (exA x) (ki hx) 12 g2
 have g3:(srtU (d5 (exA x))).length<=8192:=a0m (dh _) (by omega);refine ovT [31,41,67,74,160,167,176,183] [35,38,44] func30 rfl rfl (cB (fun h=>?_) fun h=>cB (fun h=>?_) fun h=>cB (fun h=>?_) fun h=>cB (fun h=>?_) fun h=>?_);rotate_left 2
 ·have hp:x.op_=20:=by simpa using h
  have ho:=Vu hc hp;have ht:=ho.1
  refine IdxG.of (j:=0) (by omega) (OpG.lk (co oe rfl (jj (hx.b_.2 _ (az4 _)))) (ArgG.mk (O6 m hm) rfl ?_));rintro _ rfl;refine ArgG.mk (ih x.b_[0] (az4 _) (ho.2 _ (az4 _)) (hv _ (az4 _)) (Iz m) (by unfold Iz;split<;>(try split)<;>(try split)<;>omega)) (by simp[cj,AV.pureB,kj (hx.b_.2 _ (az4 _))]) ?_;rintro _ ⟨f5,e5,rfl,g7,g8⟩;exact⟨rfl,.inr rfl,_,d8 rfl (af6.cellN f30 cw rfl rfl rfl rfl rfl ⟨[],FzP.pure rfl⟩) (af6.tmp ⟨[],FzP.pure rfl⟩),f5,e5,rfl,g7,(Yy hp ht).symm▸g8⟩
 ·have h6:x.op_=17:=by simpa using h
  have ht:=(Vw hc h6).1;obtain⟨a0,hq,ha0⟩:=(hx.b_.2 (x.b_[0]'(by omega)) (az4 _)).open_;have h8:x.b_=[exA a0]:=c8 (by omega) hq
  apply cB<;>intro h
  all_goals
   refine ArgG.mk (At (exA x) (ki hx)) rfl ?_
   rintro _ ⟨bN,rfl,hs⟩
   apply cB<;>intro hn
   ·refine ArgG.mk (nv _) rfl ?_
    rintro _ rfl
    exact rtP rfl cw rfl ⟨cnF _,0,rfl,fo,fmY (agr (by first|exact ps1 h|exact ps0 h) h6 h8 ((adu h6 h8).1 (hs.1 hn)))⟩
   refine ArgG.mk (asd _) rfl ?_
   rintro _ rfl
   refine ArgG.mk (xq (exA x) (ki hx) (by omega)) rfl ?_
   rintro _ rfl
   refine ArgG.mk (Zp (srtU (d5 (exA x))) ⟨by omega,fun _ _=>trivial⟩ _ (by omega)) rfl ?_
   rintro _ rfl
   refine ArgG.mk (C9 _ _ (by rw[er];omega) lf) rfl ?_
   rintro _ ⟨y,rfl,hy,hd⟩
   exact⟨rfl,.inr rfl,_,d8 rfl (af6.cellN f30 cw rfl rfl rfl rfl rfl ⟨[],FzP.pure rfl⟩) (af6.tmp ⟨[],FzP.pure rfl⟩),y,0,rfl,hy,fmY (amn h6 h8 (fun g=>by rw[hs.2 ((adu h6 h8).2 g)]at hn;cases hn) (by first|exact(ps1 h).symm|exact(ps0 h).symm) (sl_n hd h6 h8))⟩
 ·have hh:10<=x.op_/\x.op_<=16:=by simp_all;omega
  refine ArgG.mk (At (exA x) (ki hx)) rfl ?_;rintro _ ⟨bN,rfl,hs⟩;apply cB<;>intro h9
  ·apply cB<;>intro h
   all_goals
    refine ArgG.mk (nv _) rfl ?_
    rintro _ rfl
    exact rtP rfl cw rfl ⟨cnF _,0,rfl,fo,fmY ((Jb hh).trans (aj4 (by first|exact wk1 h|exact wk0 h) (hs.1 h9) (by omega)))⟩
  obtain⟨a0,a1,h8,g9,ga,_,_⟩:=Vt hc hh.2;have g0:¬HasN (exA x):=fun h=>by rw[hs.2 h]at h9;cases h9
  have hM:∀a,exA a∈x.b_->¬HasN (exA a):=fun a ha h=>g0 (pm.2 (.inr ⟨_,ha,h⟩));have m0:exA a0∈x.b_:=by rw[h8];simp
  have m1:exA a1∈x.b_:=by rw[h8];simp
  apply cB<;>intro hg
  all_goals
   refine ArgG.mk (aht x hx l hl _ a0 a1 (aat (hx.b_.2 _ m0)) (aat (hx.b_.2 _ m1)) h8 hh g9 ga (hM _ m0) (hM _ m1) (h7 _ m0) (h7 _ m1)) rfl ?_
   rintro _ ⟨f,e,rfl,hf,hr⟩
   first|rw[ng1 hg hm]at hr|rw[ng0 hg hm]at hr
   apply cB<;>intro he
   ·have he:=hr.2 (by simpa using he)
    exact rtC rfl cw rfl ⟨[],je⟩ ⟨cnF true,e,rfl,fo,fmN ((Jb hh).trans (arp g0 h8 (Zg he.1))) he.2⟩
   obtain⟨p,g4,hi⟩:=ahk (hr.1 (by simpa using he))
   have g1:=an1 (hx.b_.2 _ m0) (hx.b_.2 _ m1) (h7 _ m0) (h7 _ m1) g4 hi
   have F:∀g,_->FmR (trS l (exA x) m) g 0:=fun g hg=>fmY ((Jb hh).trans (H7 g0 h8 g4 hg))
  refine cB (fun z=>by simp at z hg;omega) fun _=>cB (fun _=>?_) fun z=>by simp at z hg;omega
  rotate_left;refine cB (fun h=>cT ?_) (fun h=>cB (fun z=>by simp at z hg;omega) fun _=>?_);rotate_left;simp at hg h;have hw:=st0 hm (by omega) (by omega)
  refine cB (fun h0=>rtP rfl cw rfl ⟨f,0,rfl,hf,F _ (rw_1 hw hi (by simpa using h0))⟩) (fun h0=>ArgG.mk (xq (exA x) (ki hx) (by omega)) rfl ?_);rintro _ rfl;refine OpG.mk _ _ _ 4 (ba [(0,3)] ase (Zr (srtU (d5 (exA x))) ⟨by omega,fun _ _=>trivial⟩ (by omega)) rfl rfl rfl rfl trivial trivial ⟨da aw _ _,trivial⟩ rfl rfl rfl rfl (bz aw rfl) rfl) rfl rfl (cB (fun h1=>?_) (fun h1=>?_));refine OpG.mk _ _ _ 5 (ae aw (l:=(jp 0 (srtU (d5 (exA x))))) (a:=f) underlying67 Ct Ca Fe rfl rfl rfl (ap rfl rfl rfl rfl) rfl (by rw[er];omega) (by rw[er];omega) (by decide)) rfl rfl (RegG.via (fun _ h=>bm [3] 21 (.tree 11 (((jp 0 (srtU (d5 (exA x))))++[f]).map fmA)) (FzP.rows aw (az9.2 rfl) rfl) rfl h) (bh ?_));refine ArgG.mk (C9 1 _ (by(rw[az8,er];simp only[a0r,a0s];omega)) (j9 lf hf)) rfl ?_;rintro _ ⟨y,rfl,hy,hd⟩;exact rtP rfl cw rfl ⟨y,0,rfl,hy,F _ (rw_2 hw hi (by simpa using h1) (awy hh.1) hd)⟩;refine RegG.via (fun _ h=>bm [3] 21 (.tree 11 ((jp 0 (srtU (d5 (exA x)))).map fmA)) (FzP.rows aw (az9.2 rfl) rfl) rfl h) (bh ?_);refine ArgG.mk (C9 1 _ (by rw[er];omega) lf) rfl ?_;rintro _ ⟨y,rfl,hy,hd⟩;exact rtP rfl cw rfl ⟨y,0,rfl,hy,F _ (rw_3 hw hi (by simpa using h0) (by simpa using h1) (awy hh.1) hd)⟩
  all_goals
   have hw:=st1 (m:=m) (by simp_all)
   apply cB<;>intro h0
   ·exact rtP rfl cw rfl ⟨f,0,rfl,hf,F _ (rs_1 hw hi (by simpa using h0))⟩
   refine ArgG.mk (agc f hf p hi g1) rfl ?_
   rintro _ rfl
   refine ArgG.mk (xq (exA x) (ki hx) (by omega)) rfl ?_
   rintro _ rfl
   refine LpG.via (fun _ h=>bu 17 1 rfl 4 rfl h) ?_
   refine LpG.on (fun k1:KL Int=>(⟨fL [(6,.ptr 1 0 0),(14,.ptr 2 0 0),(16,.tree 1 (((inF f)).map iA)),(17,.sl 3 k1.L.length 0 k1.L.length),(18,.tree 1 (((srtU (d5 (exA x)))).map iA)),(19,vI k1.k)],hLz [(1,⟨0,[vI 0,vI 0,vI 0,vI 0,vI 0,.v (.slice none 0 0),vI 0,vI 0,vB false,.v (.string ⟨#[]⟩),.v (.slice none 0 0)],0,false⟩),(2,⟨0,fmA f,0,false⟩),(3,⟨k1.L.length,rF iA k1.L,1,Nat.beq k1.L.length 0⟩)],4⟩:St)) (fun k1=>(((srtU (d5 (exA x)))).length-k1.k)) (fun k1=>(k1.k<=((srtU (d5 (exA x)))).length/\(k1.L=((srtU (d5 (exA x))).take k1.k).filter (kpB (inF f))))) (⟨0,[]⟩:KL Int) (cnS (by rfl) (hpR rfl (hpR rfl (hpS (aa aj _ _) (by rfl) trivial)))) ⟨a0h _,rfl⟩ ?_
   rintro k1 ⟨hle_k1,h5⟩
   refine LenG.of (cB (fun hb=>?_) (fun hb=>?_))
   ·have h4:k1.k<((srtU (d5 (exA x)))).length:=Int.ofNat_lt.1 (a0f hb)
    have gb:k1.L.length<=8192:=by rw[h5];exact a0m sj g3
    refine IdxG.of h4 (ArgG.mk (aak (inF f) ⟨by have:=ai6 (f:=f);omega,fun _ _=>trivial⟩ _) rfl ?_)
    rintro _ rfl
    apply cB<;>intro hj
    ·exact IdxG.of h4 (OpG.mk _ _ _ 5 (ae aj (a:=((srtU (d5 (exA x)))[k1.k])) underlying53 sz3 zr3 by3 rfl rfl rfl (ap rfl rfl rfl rfl) rfl (by omega) (by omega) (by unfold TV;omega)) rfl rfl ⟨by omega,(⟨k1.k+1,k1.L++[((srtU (d5 (exA x)))[k1.k])]⟩:KL Int),(by show((srtU (d5 (exA x)))).length-(k1.k+1)<((srtU (d5 (exA x)))).length-k1.k;omega),(cO (.cons rfl rfl (.cons rfl rfl (.cons rfl rfl (.cons (by(rw[az8];rfl)) rfl (.cons rfl rfl (.cons rfl rfl .nil)))))) (.cons rfl rfl rfl (.cons rfl rfl rfl (.cons (by(rw[az8];rfl)) rfl (aa aj _ _) .nil)))),‹_›,by show _++[_]=_;rw[pn h4,<-h5,a0d (show kpB (inF f) _=true from hj)]⟩)
    exact⟨by omega,(⟨k1.k+1,k1.L⟩:KL Int),(by show((srtU (d5 (exA x)))).length-(k1.k+1)<((srtU (d5 (exA x)))).length-k1.k;omega),(cnS (by rfl) (hpR rfl (hpR rfl (hpS (aa aj _ _) (by rfl) trivial)))),‹_›,by show k1.L=_;rw[pn h4,<-h5,a0c (by unfold kpB;rw[hj];decide),List.append_nil]⟩
   have hu:=ajk h5 fun h=>a0e hb (Int.ofNat_lt.2 h)
   have gb:k1.L.length<=8192:=by rw[hu];exact a0m (List.length_filter_le _ _) g3
   rw[awy hh.1]at hu
   refine RegG.via (fun _ h=>bm [3] 17 (isA k1.L) (FzP.rows aj (az9.2 rfl) rfl) rfl h) (bh ?_)
   refine OpG.mk _ _ _ 5 (ba [(0,4)] ase (Zs k1.L ⟨by omega,fun _ _=>trivial⟩ (by omega)) rfl rfl rfl rfl trivial trivial ⟨da aw _ _,trivial⟩ rfl rfl rfl rfl (bz aw rfl) rfl) rfl rfl (cB (fun h1=>?_) (fun h1=>?_))
   ·refine OpG.mk _ _ _ 6 (ae aw (l:=(jp 1 k1.L)) (a:=f) underlying67 Ct Ca Fe rfl rfl rfl (ap rfl rfl rfl rfl) rfl (by rw[er];omega) (by rw[er];omega) (by decide)) rfl rfl (RegG.via (fun _ h=>bm [4] 20 (.tree 11 (((jp 1 k1.L)++[f]).map fmA)) (FzP.rows aw (az9.2 rfl) rfl) rfl h) (bh ?_))
    refine ArgG.mk (C9 0 _ (by(rw[az8,er];simp only[a0r,a0s];omega)) (j9 lf hf)) rfl ?_
    rintro _ ⟨y,rfl,hy,hd⟩
    exact rtP rfl cw rfl ⟨y,0,rfl,hy,F _ (rs_2 hw hi (by simpa using h1) hu hd)⟩
   refine RegG.via (fun _ h=>bm [4] 20 (.tree 11 ((jp 1 k1.L).map fmA)) (FzP.rows aw (az9.2 rfl) rfl) rfl h) (bh ?_)
   refine ArgG.mk (C9 0 _ (by rw[er];omega) lf) rfl ?_
   rintro _ ⟨y,rfl,hy,hd⟩
   exact rtP rfl cw rfl ⟨y,0,rfl,hy,F _ (rs_3 hw hi (by simpa using h0) (by simpa using h1) hu hd)⟩
 all_goals
  have hk:x.op_=18\/x.op_=19:=by simp at h;omega
  have ho:=Vv hc hk
  have ht:=ho.1
  try refine cB (fun _=>?_) (fun hz=>by simp_all)
  refine IdxG.of (j:=0) (by omega) (OpG.lk (co oe rfl (jj (hx.b_.2 _ (az4 _)))) ?_)
  refine ArgG.mk (ih x.b_[0] (az4 _) (ho.2 _ (az4 _)) (hv _ (az4 _)) m hm) (by simp[cj,AV.pureB,kj (hx.b_.2 _ (az4 _))]) ?_
  rintro _ ⟨f0,e0,rfl,gc,g5⟩
  refine IdxG.of (j:=1) (by omega) (OpG.lk (co oe rfl (jj (hx.b_.2 _ (az4 _)))) ?_)
  refine ArgG.mk (ih x.b_[1] (az4 _) (ho.2 _ (az4 _)) (hv _ (az4 _)) m hm) (by simp[cj,AV.pureB,kj (hx.b_.2 _ (az4 _))]) ?_
  rintro _ ⟨f1,e1,rfl,gd,g6⟩
  have T:=congrArg (fun z=>ju l z m) (amh ht)
  apply cB<;>intro h0
  ·exact cT (rtC rfl cw rfl ⟨[],je⟩ ⟨cnF true,3,rfl,fo,fmN (Ri hk (T.trans (aml (g5.2 (by simpa using h0)).1))) rfl⟩)
  apply cB<;>intro h1
  ·exact rtC rfl cw rfl ⟨[],je⟩ ⟨cnF true,3,rfl,fo,fmN (Ri hk (T.trans (amk (g6.2 (by simpa using h1)).1))) rfl⟩
  have ge:=T.trans (avn (g5.1 (by simpa using h0)) (g6.1 (by simpa using h1)))
  refine cB (fun h2=>cB (fun h3=>?_) fun h3=>?_) (fun h2=>cB (fun h3=>?_) fun h3=>?_)
  all_goals exact OpG.nw (cy (dn underlying67 Ct Ca rfl rfl rfl rfl) (fun η' h=>be (f:=fmA) (l:=[f0,f1]) (az9.2 rfl) h rfl rfl rfl rfl rfl (fun a _=>⟨rfl,rfl⟩))) rfl (rtC rfl cw rfl ⟨[],Le⟩ ⟨⟨_,zAt,_⟩,0,rfl,fit2 gc gd,fmY (amm hk ge (by first|exact kdR1 hk hm (b1R h2) h3 rfl|exact kdR0 hk hm (b1R h2) h3 rfl|exact kdR1 hk hm (b0R h2) h3 rfl|exact kdR0 hk hm (b0R h2) h3 rfl))⟩)
def rb(l:List PVar)(hl:bn l (fun _=>True))(r:List AV)(hr:IsEx r):CondE l r->IsSh 12 r->∀m,(0<=m/\m<=3)->PRet prog 30 [.agg (rwA r),.tree 5 (l.map vA),vI m] (fun q=>∃(f:GFm) (e:Int),q=.tup [.agg (fmA f),vI e]/\FitFm f/\FmR (trS l r m) f e):=IsEx.ind (M:=fun r=>CondE l r->IsSh 12 r->∀m,(0<=m/\m<=3)->PRet prog 30 [.agg (rwA r),.tree 5 (l.map vA),vI m] (fun q=>∃(f:GFm) (e:Int),q=.tup [.agg (fmA f),vI e]/\FitFm f/\FmR (trS l r m) f e)) (fun x hx ih hc hs m hm=>Gd x hx l hl m hm hc hs ih) hr
end Go.Proofs.YtfpfdfhlljjckaaGreatDoor
