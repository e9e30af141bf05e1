/- Texts of the claim. -/
import Derived.Test.YtfpfdfhlljjckaaGreatDoorCF4
import Derived.Test.YtfpfdfhlljjckaaGreatDoorCQ2
import Derived.Test.YtfpfdfhlljjckaaGreatDoorCF2
set_option linter.all false
namespace Go.Proofs.YtfpfdfhlljjckaaGreatDoor
open Tryz
set_option maxRecDepth 1000000
set_option maxHeartbeats 0
set_option linter.unusedVariables false
set_option linter.unusedSimpArgs false
open Go.RowKit
variable{b ng pos:Bool}{s:ByteArray}{a:GAt}{x:GEx}{f:GFm}{q t:GTm}{c e k kd m n op v:Int}{p:Int->Bool}{r r0 r1 y:List AV}{L:List GFm}{vs:List Int}{fp:List Nat}{l:List PVar}{d j:Nat}{o:Option Pt}{α:Type}
def aq:RowF fmA 11:=⟨fun _=>rfl,fun _=>rfl,fun _ _=>rfl,fun _ _=>rfl,fun _ _=>rfl,fun _=>rfl⟩
def i6{η:bm}{ak av ao tc tv tk:Int} :FzP fp η (.agg [vI k,vI ak,vI av,vI ao,vI tc,.v (.slice none 0 0),vI tv,vI tk,vB ng,.v (.string s),.v (.slice none 0 0)]) (.agg (fmA ⟨k,⟨ak,av,ao,⟨tc,[]⟩,⟨tv,tk,ng,s⟩⟩,[]⟩)):=
 FzP.aggL (.cons (.pure rfl) (.cons (.pure rfl) (.cons (.pure rfl) (.cons (.pure rfl) (.cons (.pure rfl) (.cons (FzP.nil (n:=5)) (.cons (.pure rfl) (.cons (.pure rfl) (.cons (.pure rfl) (.cons (.pure rfl) (.cons (FzP.nil (n:=11)) .nil)))))))))))
def Fd{η:bm} :FzP fp η (.agg (vI k::(atA a++[.v (.slice none 0 0)]))) (.agg (fmA ⟨k,a,[]⟩)):=
 FzP.aggL (.cons (.pure rfl) (.cons (.pure rfl) (.cons (.pure rfl) (.cons (.pure rfl) (.cons (.pure rfl) (.cons (.pure rfl) (.cons (.pure rfl) (.cons (.pure rfl) (.cons (.pure rfl) (.cons (.pure rfl) (.cons (FzP.nil (n:=11)) .nil)))))))))))
def wf{η:bm}{rs:List (List AV)}(hp:bz (.tree 11 (rs.map rwA)::[])=true):FzP fp η (.agg [vI k,vI 0,vI 0,vI 0,vI 0,.v (.slice none 0 0),vI 0,vI 0,vB false,.v (.string ⟨#[]⟩),.tree 11 (rs.map rwA)]) (.agg (fmA ⟨k,zAt,rs⟩)):=
 FzP.aggL (.cons (.pure rfl) (.cons (.pure rfl) (.cons (.pure rfl) (.cons (.pure rfl) (.cons (.pure rfl) (.cons (FzP.nil (n:=5)) (.cons (.pure rfl) (.cons (.pure rfl) (.cons (.pure rfl) (.cons (.pure rfl) (.cons (.pure rfl) .nil)))))))))))
def xo{η:bm} :FzP fp η (.agg [vI k,vI v,vI 0,vI 0,.v (.slice none 0 0),vI 0,vI 0,vB false,.v (.string ⟨#[]⟩)]) (.agg (atA (vAt k v))):=
 FzP.aggL (.cons (.pure rfl) (.cons (.pure rfl) (.cons (.pure rfl) (.cons (.pure rfl) (.cons (FzP.nil (n:=5)) (.cons (.pure rfl) (.cons (.pure rfl) (.cons (.pure rfl) (.cons (.pure rfl) .nil)))))))))
theorem Zo{l:List (List AV)}(h:l.length=1):lsF k l=l[0]'(by omega):=by obtain⟨r,rfl⟩:=az4.1 h;rfl
def jk(k:Int)(vs:List Int):List GFm:=vs.map fun v=>atF (vAt k v)
theorem mj(k:Int)(vs:List Int):(jk k vs).map fmA=wn k vs:=by unfold jk wn;rw[List.map_map];rfl
def aes:cw prog 141=true:=by kernel_rfl
def art:cw prog 181=true:=by kernel_rfl
def Bx:(prog.info? 69).map (·.bytes)=some 128:=by kernel_rfl
def Oa:ey prog 64=some (some 4):=by kernel_rfl
def bu:ey prog 69=some (some 11):=by kernel_rfl
def zv:aj prog 69=some 11:=by kernel_rfl
def yr:bp prog 69=some (.agg #[.int .i64 0,.int .i64 0,.int .i64 0,.int .i64 0,.int .i64 0,.slice none 0 0,.int .i64 0,.int .i64 0,.bool false,.string ⟨#[]⟩,.slice none 0 0]):=by kernel_rfl
def sd(b:Bool):PRet prog 182 [vB b] (fun q=>q=.agg (fmA (cnF b))):=by refine ovT [] [] func182 rfl rfl (cB (fun h0=>?_) (fun h0=>?_));refine rtK rfl bu rfl ⟨[],i6⟩ ?_;rw[show b=_ from h0];rfl;refine rtK rfl bu rfl ⟨[],i6⟩ ?_;rw[show b=_ from h0];rfl
def kh(a:GAt)(ha:FitAt a):PRet prog 141 [.agg (atA a)] (fun q=>q=.agg (fmA (atF a))):=ovT [] [] func141 rfl rfl (rtK rfl bu rfl ⟨[],Fd⟩ rfl)
def ab5(m:Int):PRet prog 186 [vI m] (fun q=>q=vB (ip m)):=ovT [] [] func186 rfl rfl (cE (fun h0=>rV rfl rfl (congrArg vB (by unfold ip;simp_all))) (fun h0=>rV rfl rfl (congrArg vB (by unfold ip;simp_all))))
def o8(m:Int):PRet prog 179 [vI m] (fun q=>q=vB (o9 m)):=ovT [] [] func179 rfl rfl (cE (fun h0=>rV rfl rfl (congrArg vB (by unfold o9;simp_all))) (fun h0=>rV rfl rfl (congrArg vB (by unfold o9;simp_all))))
def amu(n:Int):PRet prog 305 [vI n] (fun q=>q=vI (Fg n)):=ovT [] [] func305 rfl rfl (cD (fun h0=>rV rfl rfl (congrArg vI (by unfold Fg;rw[azg (by omega)]))) (fun h0=>cD (fun h1=>rV rfl rfl (congrArg vI (by unfold Fg;rw[azf (by omega),azg (by omega)]))) (fun h1=>rV rfl rfl (congrArg vI (by unfold Fg;rw[azf (by omega),azf (by omega)])))))
def Oi(op:Int)(ho:10<=op/\op<=15):PRet prog 251 [vI op] (fun q=>q=vI (sr op)):=ovT [] [] func251 rfl rfl (cE (fun h2=>rV rfl rfl (congrArg vI (by unfold sr;simp_all))) (fun h2=>cE (fun h3=>rV rfl rfl (congrArg vI (by unfold sr;simp_all))) (fun h3=>cE (fun h4=>rV rfl rfl (congrArg vI (by unfold sr;simp_all))) (fun h4=>cE (fun h0=>rV rfl rfl (congrArg vI (by unfold sr;simp_all))) (fun h0=>cE (fun h1=>rV rfl rfl (congrArg vI (by unfold sr;simp_all))) (fun h1=>rV rfl rfl (congrArg vI (by unfold sr;simp_all))))))))
def Cg(op:Int):PRet prog 301 [vI op] (fun q=>q=vI (ye op)):=ovT [] [] func301 rfl rfl (cE (fun h1=>rV rfl rfl (congrArg vI (by unfold ye;simp_all))) (fun h1=>cE (fun h2=>rV rfl rfl (congrArg vI (by unfold ye;simp_all))) (fun h2=>cE (fun h3=>rV rfl rfl (congrArg vI (by unfold ye;simp_all))) (fun h3=>cE (fun h0=>rV rfl rfl (congrArg vI (by unfold ye;simp_all))) (fun h0=>rV rfl rfl (congrArg vI (by unfold ye;simp_all)))))))
def se(op:Int)(c:Int):PRet prog 300 [vI op,vI c] (fun q=>q=vB (n7 op c)):=ovT [] [] func300 rfl rfl (cE (fun h4=>rV rfl rfl (congrArg vB (by unfold n7;simp_all))) (fun h4=>cE (fun h0=>rV rfl rfl (congrArg vB (by unfold n7;simp_all))) (fun h0=>cE (fun h1=>rV rfl rfl (congrArg vB (by unfold n7;simp_all))) (fun h1=>cE (fun h2=>rV rfl rfl (congrArg vB (by unfold n7;simp_all))) (fun h2=>cE (fun h3=>rV rfl rfl (congrArg vB (by unfold n7;simp_all))) (fun h3=>rV rfl rfl (congrArg vB (by unfold n7;simp_all))))))))
def K8(op:Int)(s:ByteArray)(hs:jw s):PRet prog 302 [vI op,.v (.string s)] (fun q=>q=.agg (teA (qk op s))):=by refine ovT [] [] func302 rfl rfl (cE (fun h0=>?_) (fun h0=>?_));refine rtK rfl Oa rfl ⟨[],FzP.pure rfl⟩ ?_;unfold qk;simp_all;apply cE<;>intro hq10;refine rtK rfl Oa rfl ⟨[],FzP.pure rfl⟩ ?_;unfold qk;simp_all;apply cE<;>intro hq14;refine rtK rfl Oa rfl ⟨[],FzP.pure rfl⟩ ?_;unfold qk;simp_all;apply cE<;>intro hq18;refine rtK rfl Oa rfl ⟨[],FzP.pure rfl⟩ ?_;unfold qk;simp_all;apply cE<;>intro hq22;refine rtK rfl Oa rfl ⟨[],FzP.pure rfl⟩ ?_;unfold qk;simp_all;refine rtK rfl Oa rfl ⟨[],FzP.pure rfl⟩ ?_;unfold qk;simp_all
def apb(kd:Int)(l:List (List AV))(hl:bq l (fun y=>IsFm y))(h1:bz [.tree 11 (l.map rwA)]=true):PRet prog 183 [vI kd,.tree 11 (l.map rwA)] (fun q=>q=.agg (rwA (lsF kd l))):=by refine ovT [] [] func183 rfl rfl (LenG.of ?_);apply cE<;>intro hq7;obtain⟨y,h0,hy⟩:=(hl.2 (l[0]'(by omega)) (ay7 _)).open_;refine cb (j:=0) (by omega) h0 (rtK rfl bu rfl ⟨[],FzP.pure rfl⟩ ?_);rw[Zo (by omega),h0];exact rtK rfl bu rfl ⟨[],wf h1⟩ (congrArg AV.agg (xx (by omega)).symm)
def ahw(kd:Int)(vs:List Int)(h4:bq vs (fun y=>True))(hvl:vs.length<=1099511627776):Fa prog 184 [vI kd,.tree 1 (vs.map iA)] [] (fun q hb'=>q=.sl 0 vs.length 0 vs.length/\hb'=[(0,some ⟨vs.length,rF fmA (jk kd vs),11,Nat.beq vs.length 0⟩)]):=by refine Fa.of_vc ua [18] [] func184 rfl ntmps184 rfl (by kernel_rfl) (LenG.of ?_);refine LpG.via (fun _ h=>bl 5 11 rfl 1 rfl h) (LpG.on (fun k0:KL GFm=>(⟨fL [(0,vI kd),(5,.sl 0 k0.L.length 0 k0.L.length),(8,.tree 1 (vs.map iA)),(9,vI vs.length),(10,vI k0.k)],hLz [(0,⟨k0.L.length,rF fmA k0.L,11,Nat.beq k0.L.length 0⟩)],1⟩:St)) (fun k0=>(vs.length-k0.k)) (fun k0=>(k0.k<=vs.length/\(k0.L=jk kd (vs.take k0.k)/\k0.L.length=k0.k))) (⟨0,[]⟩:KL GFm) (cnS (by rfl) (hpS (ab aq _ _) (by rfl) trivial)) ⟨azk _,⟨rfl,rfl⟩⟩ ?_);rintro k0 h2;have hgr_k0:vs.length<=140737488355328:=h4.1;obtain⟨hle_k0,h0⟩:=h2;apply cL<;>intro h1;have hl2:=h0.2;refine IdxG.of ‹_› ?_;obtain⟨_,rfl,h3⟩:=kh (vAt kd vs[k0.k]) qt;refine OpG.lk (dc aes (.cons xo .nil) h3) (OpG.mk _ _ _ 2 (ah aq (a:=(atF (vAt kd vs[k0.k]))) underlying67 zv yr Bx rfl rfl rfl (am rfl rfl rfl rfl) rfl (by omega) (by omega) (by unfold TV;omega)) rfl rfl ?_);refine⟨by omega,⟨(⟨k0.k+1,k0.L++[(atF (vAt kd vs[k0.k]))]⟩:KL GFm),(nsA ‹_›),(cO (.cons rfl rfl (.cons (by(rw[azb];rfl)) rfl (.cons rfl rfl (.cons rfl rfl (.cons rfl rfl .nil))))) (.cons (by(rw[azb];rfl)) rfl (ab aq _ _) .nil)),?_⟩⟩;exact⟨‹_›,⟨by show _++[_]=_;rw[h0.1,azj h1];unfold jk;rw[azx];rfl,by show(_++[_]).length=_;rw[azb,h0.2];rfl⟩⟩;refine⟨.inr rfl,_,_,Pn.of (hb':=[(0,some ⟨k0.L.length,rF fmA k0.L,11,Nat.beq k0.L.length 0⟩)]) [] (cy rfl (.cons (ay3.tmp rfl) .nil)) rfl ⟨.same rfl (by decide),trivial⟩ .same,?_⟩;have e:=h0.1;rw[az0 (by omega)]at e;have el:k0.L.length=vs.length:=(by rw[e];simp[jk]);exact⟨by rw[<-el];rfl,by rw[<-el,<-e]⟩
def L7(kd:Int)(vs:List Int)(h0:bq vs (fun _=>True))(h1:vs.length<=1099511627776):jy prog 184 [vI kd,.tree 1 (vs.map iA)] [] [(0,some ⟨0,rF fmA (jk kd vs),11,Nat.beq (jk kd vs).length 0⟩)] (.sl 0 0 0 (jk kd vs).length):=by obtain⟨_,_,⟨rfl,rfl⟩,h⟩:=ahw kd vs h0 h1;have e:(jk kd vs).length=vs.length:=(by simp[jk]);rw[e];refine xn (zs:=[]) (by rw[List.append_nil];exact h) (by decide) (fun hb=>⟨?_,rfl⟩) (Aj aq _);rw[az1 (ay9 hb)];rfl
def Z1(l:List (List AV))(hl:bq l (fun y=>IsEx y))(ih:∀r∈l,PRet prog 181 [.agg (rwA r)] (fun q=>∃b:Bool,q=vB b/\(b=true↔HasN r))):PRet prog 247 [.tree 8 (l.map rwA),.clo 181 []] (fun q=>∃i:Int,q=vI i/\(0<=i↔∃r∈l,HasN r)):=by
 refine ovT [15,16] [] func247 rfl rfl (LenG.of (LpG.on (fun k0:Nat=>(⟨fL [(0,.tree 8 (l.map rwA)),(1,.clo 181 []),(7,vI l.length),(8,vI k0)],hLz [],0⟩:St)) (fun k0=>(l.length-k0)) (fun k0=>(k0<=l.length/\∀j (hl:j<l.length),j<k0->¬HasN l[j])) 0 (cnR rfl) ⟨azk _,fun j _ h=>absurd h (azl j)⟩ ?_));rintro k0 h5;have hgr_k0:l.length<=140737488355328:=hl.1
 obtain⟨hle_k0,h1⟩:=h5;apply cL<;>intro h2;obtain⟨_,⟨b16,rfl,h3⟩,h4⟩:=ih l[k0] (ay7 _);refine IdxG.of ‹_› (OpG.lk (ci n6 rfl (jd (hl.2 _ (ay7 _)))) (OpG.lk (sk art rfl rfl (show bz [.agg (rwA l[k0])]=true by simp[bz,AV.pureB,kc (hl.2 _ (ay7 h2))]) h4) (cB (fun h0=>rV rfl rfl ⟨_,rfl,fun _=>⟨_,ay7 h2,h3.1 h0⟩,fun _=>by omega⟩) (fun h0=>⟨by omega,⟨(k0+1),by omega,(cnR rfl),⟨by omega,fun j hl h=>?_⟩⟩⟩))));rcases azn.1 h with h|rfl;exact h1 j hl h;exact fun h=>by rw[h3.2 h]at h0;cases h0
 exact rV rfl rfl ⟨_,rfl,fun h=>absurd h (by decide),fun⟨r,hr,h⟩=>by obtain⟨j,hj,rfl⟩:=azs hr;exact absurd h (h1 j hj (by omega))⟩
def Bf(l:List (List AV))(hl:bq l (fun y=>IsEx y))(ih:∀r∈l,PRet prog 181 [.agg (rwA r)] (fun q=>∃b:Bool,q=vB b/\(b=true↔HasN r))):PRet prog 211 [.tree 8 (l.map rwA),.clo 181 []] (fun q=>∃b:Bool,q=vB b/\(b=true↔∃r∈l,HasN r)):=by refine ovT [] [] func211 rfl rfl (ArgG.mk (Z1 l hl ih) rfl ?_);rintro _ ⟨i0,rfl,h0⟩;exact rV rfl rfl ⟨_,rfl,by rw[<-h0];simp⟩
def Ea(x:GEx)(hx:FitEx x)(ih:∀r∈x.b_,PRet prog 181 [.agg (rwA r)] (fun q=>∃b:Bool,q=vB b/\(b=true↔HasN r))):PRet prog 181 [.agg (exA x)] (fun q=>∃b:Bool,q=vB b/\(b=true↔HasN (exA x))):=by refine ovT [] [] func181 rfl rfl ?_;apply cB<;>intro h3;have h2:=h3;simp at h2;apply cB<;>intro h1;have h0:=h1;simp at h0;exact rV rfl rfl ⟨_,rfl,fun _=>pf.2 (.inl ⟨by assumption,by simpa using‹_›⟩),fun _=>by simp_all⟩;have h0:=h1;simp at h0;refine ArgG.mk (Bf x.b_ hx.b_ ih) rfl ?_;rintro _ ⟨b0,rfl,h4⟩;refine rV rfl rfl ?_;(refine⟨_,rfl,?_⟩;rw[pf,h4];constructor;exact .inr;exact fun h=>h.elim (fun h=>by simp_all) id);have h2:=h3;simp at h2;refine cF (ArgG.mk (Bf x.b_ hx.b_ ih) rfl ?_);rintro _ ⟨b1,rfl,h5⟩;refine rV rfl rfl ?_;(refine⟨_,rfl,?_⟩;rw[pf,h5];constructor;exact .inr;exact fun h=>h.elim (fun h=>by simp_all) id)
def vg(r:List AV)(hr:IsEx r):PRet prog 181 [.agg (rwA r)] (fun q=>∃b:Bool,q=vB b/\(b=true↔HasN r)):=IsEx.ind (M:=fun r=>PRet prog 181 [.agg (rwA r)] (fun q=>∃b:Bool,q=vB b/\(b=true↔HasN r))) (fun x hx ih=>Ea x hx ih) hr
structure GPrt where
 kn:Bool
 vl:Bool
 at_:GAt
abbrev Fh(x:GPrt):List AV:=[.v (.bool x.kn),.v (.bool x.vl),.v (.int .i64 x.at_.c_),.v (.int .i64 x.at_.p_),.v (.int .i64 x.at_.w_),.v (.int .i64 x.at_.o_.f_),.tree 5 (x.at_.o_.a_.map ptA),.v (.int .i64 x.at_.x_.v),.v (.int .i64 x.at_.x_.kd),.v (.bool x.at_.x_.ng),.v (.string x.at_.x_.s)]
structure FitPrt(x:GPrt):Prop where
 at_:FitAt x.at_
theorem vh:∀l:List UInt8,Op.bytesLess l l=false
 |[]=>rfl
 |a::l=>by simp[Op.bytesLess,vh l]
theorem Eb:∀{l m:List UInt8},Op.bytesLess l m=false->¬l=m->Op.bytesLess m l=true
 |[],[],_,h=>absurd rfl h
 |[],_::_,h,_=>by simp[Op.bytesLess]at h
 |_::_,[],_,_=>by simp[Op.bytesLess]
 |a::l,b::m,h,hn=>by simp only[Op.bytesLess,Bool.or_eq_false_iff,decide_eq_false_iff_not,Bool.and_eq_false_iff,beq_eq_false_iff_ne]at h;simp only[Op.bytesLess,Bool.or_eq_true,az9,az8,beq_iff_eq];by_cases e:a=b;subst e;right;exact⟨rfl,Eb (h.2.resolve_left (fun h=>h rfl)) (fun e=>hn (by rw[e]))⟩;left;exact Std.lt_of_le_of_ne (Std.not_lt.1 h.1) (fun h=>e h.symm)
def alu{a b:ByteArray}(h:(!(Op.bytesLess a.toList b.toList||a.toList==b.toList))=true):fj b a=true:=by simp only[Bool.not_eq_true',Bool.or_eq_false_iff,beq_eq_false_iff_ne]at h;exact Eb h.1 h.2
def afz{a b:ByteArray}(h0:Op.bytesLess a.toList b.toList=false)(h:(!(Op.bytesLess a.toList b.toList||a.toList==b.toList))=false):fj b a=false:=by grind[fj,vh]
def auk{j1:Nat}(h:TextE l (exA x))(h2:x.op_=2)(hj:x.j_=((j1:Nat):Int))(hl:j1<l.length):l[j1].t=2:=by grind[cp]
def ptG:Pt->GPrt
 |.kn b=>⟨true,b,zAt⟩
 |.pat a=>⟨false,false,a⟩
def kj{η:bm}{k:Bool}{ak av ao tc tv tk:Int} :FzP fp η (.agg [vB k,vB b,vI ak,vI av,vI ao,vI tc,.v (.slice none 0 0),vI tv,vI tk,vB ng,.v (.string s)]) (.agg (Fh ⟨k,b,⟨ak,av,ao,⟨tc,[]⟩,⟨tv,tk,ng,s⟩⟩⟩)):=
 FzP.aggL (.cons (.pure rfl) (.cons (.pure rfl) (.cons (.pure rfl) (.cons (.pure rfl) (.cons (.pure rfl) (.cons (.pure rfl) (.cons (FzP.nil (n:=5)) (.cons (.pure rfl) (.cons (.pure rfl) (.cons (.pure rfl) (.cons (.pure rfl) .nil)))))))))))
def txIs(h:OpE l d (exA x)):(x.op_=2/\∃j,∃h:j<l.length,x.j_=((j:Nat):Int)/\l[j].t=2)\/(x.op_=1/\x.k_.c_=2)->TextE l (exA x):=by intro hc;rcases h with⟨y,e,h1,h2,_⟩|h|⟨h,_⟩;have:=au e;subst this;rcases hc with hc|hc<;>omega;exact h.1;rcases d8 h with g|⟨_,_,j,hj,e2,e3⟩|g|g|g;rcases hc with hc|hc<;>omega;rcases hc with⟨_,j',hj',e4,e5⟩|hc;have:j=j':=(by omega);subst this;omega;omega;rcases hc with hc|hc<;>omega;rcases hc with hc|hc<;>omega;rcases hc with hc|hc<;>omega
def Ye(h:TextE l (exA x)):(x.op_=2/\∃j,∃h:j<l.length,x.j_=((j:Nat):Int)/\l[j].t=2)\/(x.op_=1/\x.k_.c_=2):=by obtain⟨_,⟨h1,j,hj,e,g⟩|⟨h1,h2⟩⟩:=cp h;exact .inl ⟨h1,j,hj,e,g⟩;exact .inr ⟨h1,h2⟩
section
variable{op:Int}{x y:GEx}
def auf(h1:x.op_=1)(h2:y.op_=1)(h:fj x.k_.l_ y.k_.l_=true):Pt.kn (n7 op (-1))=ot op x y:=by rw[ot,azg ⟨h1,h2⟩,wm,azg h]
def aug(h1:x.op_=1)(h2:y.op_=1)(h:fj x.k_.l_ y.k_.l_=false)(h':fj y.k_.l_ x.k_.l_=true):Pt.kn (n7 op 1)=ot op x y:=by rw[ot,azg ⟨h1,h2⟩,wm,azf (by rw[h];decide),azg h']
def auh(h1:x.op_=1)(h2:y.op_=1)(h:fj x.k_.l_ y.k_.l_=false)(h':fj y.k_.l_ x.k_.l_=false):Pt.kn (n7 op 0)=ot op x y:=by grind[ot,wm]
def tx_x(h1:x.op_=1)(h2:¬y.op_=1):Pt.pat ⟨5,y.j_,0,zT,qk (ye op) x.k_.l_⟩=ot op x y:=by rw[ot,azf (fun h=>h2 h.2),azg h1]
def tx_y(h1:¬x.op_=1)(h2:y.op_=1):Pt.pat ⟨5,x.j_,0,zT,qk op y.k_.l_⟩=ot op x y:=by rw[ot,azf (fun h=>h1 h.1),azf h1,azg h2]
def tx_s(h1:¬x.op_=1)(h2:¬y.op_=1)(h:x.j_=y.j_):Pt.kn (op==10)=ot op x y:=by rw[ot,azf (fun h=>h1 h.1),azf h1,azf h2,azg h]
def tx_d(h1:¬x.op_=1)(h2:¬y.op_=1)(h:¬x.j_=y.j_)(h3:op=11):Pt.pat ⟨7,min x.j_ y.j_,max x.j_ y.j_,zT,zTe⟩=ot op x y:=by rw[ot,azf (fun h=>h1 h.1),azf h1,azf h2,azf h,azg h3]
def tx_e(h1:¬x.op_=1)(h2:¬y.op_=1)(h:¬x.j_=y.j_)(h3:¬op=11):Pt.pat ⟨6,min x.j_ y.j_,max x.j_ y.j_,zT,zTe⟩=ot op x y:=by rw[ot,azf (fun h=>h1 h.1),azf h1,azf h2,azf h,azf h3]
end
def PtR(o:Option Pt)(g:GPrt)(e:Int):Prop:=(e=0->∃p,o=some p/\g=ptG p)/\(e≠0->o=none/\e=3)
def Mn{o:GTm}(h:wo (dt o) t e)(he:e=0):dt o=some t:=h.1 he
def aig{o:GTm}(h:dt o=some t):smR (tmA t)=true:=(j6 h).2|>fun h2=>by rw[(j6 h).1];exact h2
def ala{o:GTm}(h:dt o=some t):t.a_.length=o.a_.length:=by rw[(j6 h).1]
def Ay(x y:GTm):(qq x y).a_.length<=x.a_.length+y.a_.length:=pc _ _
theorem FzP.one{η:bm}:FzP fp η (.agg [vI 1,.v (.slice none 0 0)]) (.agg (tmA one1)):=FzP.aggL (.cons (.pure rfl) (.cons (FzP.nil (n:=5)) .nil))
def w7:FitTm one1:=m8
def Ck:smR (tmA one1)=true:=(fb one1).2 ⟨⟨by decide,by simp[one1]⟩,by rw[ni];show cq 1+0<=_;decide⟩
def Mp(op:Int)(t:GTm):Option Pt:=
 if t.a_=[]then some (.kn (n7 op (Fg t.f_)))else if op=10 then some (.pat ⟨3,0,0,t,zTe⟩)else if op=11 then some (.pat ⟨4,0,0,t,zTe⟩)else
  (if op=14\/op=15 then dt (scT (-1) t)else some t).bind fun u=>(if op=12\/op=14 then dt (qq u one1)else some u).bind fun w=>some (.pat ⟨2,0,0,w,zTe⟩)
section
variable{op:Int}{x y:List AV}{a b c t u w:GTm}
def apk(ha:ofT x=some a)(hb:ofT y=some b)(hc:dt (scT (-1) b)=some c)(ht:dt (qq a c)=some t):Ct op x y=Mp op t:=by simp only[Ct,ha,hb,hc,ht,az6];rfl
def it_1(ha:ofT x=some a)(hb:ofT y=some b)(hc:dt (scT (-1) b)=none):Ct op x y=none:=by simp only[Ct,ha,hb,hc,az6,Option.bind_none]
def it_2(ha:ofT x=some a)(hb:ofT y=some b)(hc:dt (scT (-1) b)=some c)(ht:dt (qq a c)=none):Ct op x y=none:=by simp only[Ct,ha,hb,hc,ht,az6,Option.bind_none]
theorem nl{l:List α}(h:¬l.length=0):¬l=[]:=fun e=>h (by rw[e];rfl)
def ik_0(h:t.a_.length=0):Mp op t=some (.kn (n7 op (Fg t.f_))):=by rw[Mp,azg (az1 h)]
def apr(hn:¬t.a_.length=0)(ho:op=10):Mp op t=some (.pat ⟨3,0,0,t,zTe⟩):=by rw[Mp,azf (nl hn),azg ho]
def apq(hn:¬t.a_.length=0)(ho:op=11):Mp op t=some (.pat ⟨4,0,0,t,zTe⟩):=by rw[Mp,azf (nl hn),azf (by omega),azg ho]
def ik_g(hn:¬t.a_.length=0)(h0:¬op=10)(h1:¬op=11)(hu:(if op=14\/op=15 then dt (scT (-1) t)else some t)=some u)(hw:(if op=12\/op=14 then dt (qq u one1)else some u)=some w):Mp op t=some (.pat ⟨2,0,0,w,zTe⟩):=by grind[Mp]
def ik_u(hn:¬t.a_.length=0)(h0:¬op=10)(h1:¬op=11)(hu:(if op=14\/op=15 then dt (scT (-1) t)else some t)=none):Mp op t=none:=by rw[Mp,azf (nl hn),azf h0,azf h1,hu,Option.bind_none]
def ik_w(hn:¬t.a_.length=0)(h0:¬op=10)(h1:¬op=11)(hu:(if op=14\/op=15 then dt (scT (-1) t)else some t)=some u)(hw:(if op=12\/op=14 then dt (qq u one1)else some u)=none):Mp op t=none:=by grind[Mp]
def ai4(h:FitTm t):FitPrt ⟨false,false,⟨k,0,0,t,zTe⟩⟩:=⟨⟨h,th.x_⟩⟩
def Hl{k v:Bool}:FitPrt ⟨k,v,zAt⟩:=⟨th⟩
def ti{op:Int}(h:jw s):jw (qk op s).s:=by grind[qk]
def K3{op:Int}{x y:GEx}(hx:FitEx x)(hy:FitEx y):FitPrt (ptG (ot op x y)):=by unfold ot;split;exact Hl;split;exact⟨⟨c8,ti hx.k_.l_⟩⟩;split;exact⟨⟨c8,ti hy.k_.l_⟩⟩;split;exact Hl;exact⟨⟨c8,th.x_⟩⟩
def apf{x y:GEx}(hx:FitEx x)(hy:FitEx y):FitPrt (ptG (G1 x y pos)):=by unfold G1;split;exact Hl;exact⟨⟨c8,hy.k_.l_⟩⟩
theorem Ol(h:OpE l d r)(hn:¬HasN r)(ht:¬TextE l r):∃t,ofT r=some t:=by
 rcases h with⟨y,rfl,h1,h2,_⟩|h|⟨_,h⟩
 ·exact absurd (pf.2 (.inl ⟨h1,h2⟩)) hn
 ·exact absurd h.1 ht
 cases h with
 |tm d r t _ h=>exact⟨t,h.2.2.2.2.2⟩
 |nul d x h _ _=>exact absurd h hn
theorem R6{op:Int}{x y:GEx}(h:op=16):ptS l op (exA x) (exA y) pos=some (G1 x y pos):=by rw[ptS,azg h,rh,rh]
theorem ag5{op o2:Int}{x y:GEx}(h:¬op=16)(ht:TextE l (exA x)\/TextE l (exA y))(ho:(if pos=true then op else sr op)=o2):ptS l op (exA x) (exA y) pos=some (ot o2 x y):=by rw[ptS,azf h,azg ht,rh,rh,ho]
theorem ak8{op o2:Int}{x y:GEx}(h:¬op=16)(h1:¬TextE l (exA x))(h2:¬TextE l (exA y))(ho:(if pos=true then op else sr op)=o2):ptS l op (exA x) (exA y) pos=Ct o2 (exA x) (exA y):=by rw[ptS,azf h,azf (fun h=>h.elim h1 h2),ho]
def ptY{p:Pt}(h:o=some p):PtR o (ptG p) 0:=⟨fun _=>⟨p,h,rfl⟩,fun h=>absurd rfl h⟩
def ptN{g:GPrt}{r:Option GTm}(h:wo r q e)(he:¬e=0)(ho:o=none):PtR o g e:=⟨fun h=>absurd h he,fun h2=>⟨ho,(h.2 h2).2.1⟩⟩
end
def aep:cw prog 192=true:=by kernel_rfl
def d6:ey prog 313=some (some 11):=by kernel_rfl
def m7(b:Bool):PRet prog 299 [vB b] (fun q=>q=.agg (Fh (ptG (.kn b)))):=ovT [] [] func299 rfl rfl (rtK rfl d6 rfl ⟨[],kj⟩ rfl)
def apd(x:GEx)(hx:FitEx x)(y:GEx)(hy:FitEx y)(pos:Bool):PRet prog 250 [.agg (exA x),.agg (exA y),vB pos] (fun q=>q=.agg (Fh (ptG (G1 x y pos)))):=by refine ovT [] [] func250 rfl rfl (cE (fun h0=>?_) (fun h0=>?_));refine ArgG.mk (Tr x.k_.l_ hx.k_.l_ y.k_.l_ hy.k_.l_) rfl ?_;rintro _ rfl;refine ArgG.mk (m7 ((re x.k_.l_ y.k_.l_==pos))) rfl ?_;rintro _ rfl;refine rtK rfl d6 rfl ⟨[],FzP.pure rfl⟩ ?_;rw[G1,azg ‹_›];refine rtK rfl d6 rfl ⟨[],kj⟩ ?_;rw[G1,azf ‹_›];rfl
def K7(op:Int)(x:GEx)(hx:FitEx x)(y:GEx)(hy:FitEx y):PRet prog 253 [vI op,.agg (exA x),.agg (exA y)] (fun q=>q=.agg (Fh (ptG (ot op x y)))):=by refine ovT [75,80] [] func253 rfl rfl ?_;apply cB<;>intro hb;have h5:=hb;simp at h5;apply cB<;>intro hc;have h6:=hc;simp at h6;apply cB<;>intro ha;refine ArgG.mk (se op ((-1))) rfl ?_;rintro _ rfl;refine ArgG.mk (m7 ((n7 op ((-1))))) rfl ?_;rintro _ rfl;refine rtK rfl d6 rfl ⟨[],FzP.pure rfl⟩ ?_;exact congrArg (fun z=>AV.agg (Fh (ptG z))) (auf h5 h6 ha);apply cB<;>intro hd;refine ArgG.mk (se op 1) rfl ?_;rintro _ rfl;refine ArgG.mk (m7 ((n7 op 1))) rfl ?_;rintro _ rfl;refine rtK rfl d6 rfl ⟨[],FzP.pure rfl⟩ ?_;exact congrArg (fun z=>AV.agg (Fh (ptG z))) (aug h5 h6 ha (alu hd));refine ArgG.mk (se op 0) rfl ?_;rintro _ rfl;refine ArgG.mk (m7 ((n7 op 0))) rfl ?_;rintro _ rfl;refine rtK rfl d6 rfl ⟨[],FzP.pure rfl⟩ ?_;exact congrArg (fun z=>AV.agg (Fh (ptG z))) (auh h5 h6 ha (afz ha hd));have h6:=hc;simp at h6;apply cB<;>intro h7;have h1:=h7;simp at h1;refine ArgG.mk (Cg op) rfl ?_;rintro _ rfl;refine⟨by kernel_rfl,?_⟩;apply cB<;>intro h3;have h0:=h3;simp at h0;refine ArgG.mk (K8 ((ye op)) x.k_.l_ hx.k_.l_) rfl ?_;rintro _ rfl;refine⟨by kernel_rfl,?_⟩;refine rtK rfl d6 rfl ⟨[],kj⟩ ?_;exact congrArg (fun z=>AV.agg (Fh (ptG z))) (tx_x h1 ‹_›);have h0:=h3;simp at h0;exact absurd h1 h0;have h1:=h7;simp at h1;apply cB<;>intro h3;have h0:=h3;simp at h0;refine ArgG.mk (K8 op y.k_.l_ hy.k_.l_) rfl ?_;rintro _ rfl;refine⟨by kernel_rfl,?_⟩;refine rtK rfl d6 rfl ⟨[],kj⟩ ?_;exact congrArg (fun z=>AV.agg (Fh (ptG z))) (tx_y h1 h0);have h0:=h3;simp at h0;apply cB<;>intro h8;have h2:=h8;simp at h2;refine ArgG.mk (m7 ((op==10))) rfl ?_;rintro _ rfl;refine rtK rfl d6 rfl ⟨[],FzP.pure rfl⟩ ?_;exact congrArg (fun z=>AV.agg (Fh (ptG z))) (tx_s h1 h0 h2);have h2:=h8;simp at h2;apply cB<;>intro h9;have h4:=h9;simp at h4;refine OpG.lk (jb rfl rfl) ?_;refine OpG.lk (ld rfl rfl) ?_;refine rtK rfl d6 rfl ⟨[],kj⟩ ?_;exact congrArg (fun z=>AV.agg (Fh (ptG z))) (tx_d h1 h0 h2 h4);have h4:=h9;simp at h4;refine OpG.lk (jb rfl rfl) ?_;refine OpG.lk (ld rfl rfl) ?_;refine rtK rfl d6 rfl ⟨[],kj⟩ ?_;exact congrArg (fun z=>AV.agg (Fh (ptG z))) (tx_e h1 h0 h2 h4);have h5:=hb;simp at h5;refine cF (cB (fun h7=>?_) (fun h7=>?_));have h1:=h7;simp at h1;refine ArgG.mk (Cg op) rfl ?_;rintro _ rfl;refine⟨by kernel_rfl,?_⟩;apply cB<;>intro h3;have h0:=h3;simp at h0;refine ArgG.mk (K8 ((ye op)) x.k_.l_ hx.k_.l_) rfl ?_;rintro _ rfl;refine⟨by kernel_rfl,?_⟩;refine rtK rfl d6 rfl ⟨[],kj⟩ ?_;exact absurd h1 h5;have h0:=h3;simp at h0;exact absurd h1 h0;have h1:=h7;simp at h1;apply cB<;>intro h3;have h0:=h3;simp at h0;refine ArgG.mk (K8 op y.k_.l_ hy.k_.l_) rfl ?_;rintro _ rfl;refine⟨by kernel_rfl,?_⟩;refine rtK rfl d6 rfl ⟨[],kj⟩ ?_;exact congrArg (fun z=>AV.agg (Fh (ptG z))) (tx_y h1 h0);have h0:=h3;simp at h0;apply cB<;>intro h8;have h2:=h8;simp at h2;refine ArgG.mk (m7 ((op==10))) rfl ?_;rintro _ rfl;refine rtK rfl d6 rfl ⟨[],FzP.pure rfl⟩ ?_;exact congrArg (fun z=>AV.agg (Fh (ptG z))) (tx_s h1 h0 h2);have h2:=h8;simp at h2;apply cB<;>intro h9;have h4:=h9;simp at h4;refine OpG.lk (jb rfl rfl) ?_;refine OpG.lk (ld rfl rfl) ?_;refine rtK rfl d6 rfl ⟨[],kj⟩ ?_;exact congrArg (fun z=>AV.agg (Fh (ptG z))) (tx_d h1 h0 h2 h4);have h4:=h9;simp at h4;refine OpG.lk (jb rfl rfl) ?_;refine OpG.lk (ld rfl rfl) ?_;refine rtK rfl d6 rfl ⟨[],kj⟩ ?_;exact congrArg (fun z=>AV.agg (Fh (ptG z))) (tx_e h1 h0 h2 h4)
theorem Cs(op:Int)(x:GEx)(hx:FitEx x)(y:GEx)(hy:FitEx y)(a b:GTm)(h1:ofT (exA x)=some a)(h2:ofT (exA y)=some b)(h7:IsSh 11 (exA x))(h8:IsSh 11 (exA y)):PRet prog 254 [vI op,.agg (exA x),.agg (exA y)] (fun q=>∃(g:GPrt) (e:Int),q=.tup [.agg (Fh g),vI e]/\FitPrt g/\PtR (Ct op (exA x) (exA y)) g e):=by
 obtain⟨ha,h9,hla⟩:=j4 (exA x) (ko hx) 11 (by omega) h7 a h1;obtain⟨hb,hd,hlb⟩:=j4 (exA y) (ko hy) 11 (by omega) h8 b h2;have e13:2^(11+1)=4096:=rfl
 refine ovT [94] [] func254 rfl rfl (ArgG.mk (aoe (exA x) (ko hx) 11 (by omega) h7 a h1) rfl ?_);rintro _ rfl;refine cF (ArgG.mk (aoe (exA y) (ko hy) 11 (by omega) h8 b h2) rfl ?_);rintro _ rfl;refine cF (ArgG.mk (px b hb (-1) (by omega) (fw hd) (by omega)) rfl ?_);rintro _ ⟨t2,e2,rfl,he,h5⟩;refine cN (fun h=>rtC rfl d6 rfl ⟨[],kj⟩ ⟨⟨false,false,zAt⟩,_,rfl,Hl,ptN h5 h (it_1 h1 h2 (h5.2 h).1)⟩) (fun h=>have hS:=Mn h5 h;have hs1:=ala hS;have hs2:=F6 (-1) b;ArgG.mk (Bn a ha t2 he (fw h9) (fw (aig hS)) (by omega) (by omega)) rfl ?_);rintro _ ⟨t3,e3,rfl,h3,h6⟩;refine cN (fun h=>rtC rfl d6 rfl ⟨[],kj⟩ ⟨⟨false,false,zAt⟩,_,rfl,Hl,ptN h6 h (it_2 h1 h2 hS (h6.2 h).1)⟩) (fun h=>have hA:=Mn h6 h;have I:=apk (op:=op) h1 h2 hS hA;have hl3:t3.a_.length<=16384:=(by have:=ala hA;have:=Ay a t2;omega);LenG.of (cE (fun _=>by refine ArgG.mk (amu t3.f_) rfl ?_;rintro _ rfl;refine ArgG.mk (se op _) rfl ?_;rintro _ rfl;refine ArgG.mk (m7 _) rfl ?_;rintro _ rfl;exact rtP rfl d6 rfl ⟨ptG (.kn (n7 op (Fg t3.f_))),0,rfl,Hl,ptY (I.trans (ik_0 (by omega)))⟩) (fun _=>?_)))
 repeat' first
  |refine cT ?_|refine cF ?_|refine cE (fun _=>?_) (fun _=>?_)<;>try omega|refine cN (fun _=>?_) (fun _=>?_)<;>try omega
  |refine ArgG.mk (px t3 h3 (-1) (by omega) (fw (aig hA)) (by omega)) rfl ?_;rintro _ ⟨t4,e4,rfl,hf,h0⟩
  |obtain⟨_,⟨t5,e5,rfl,hg,h4⟩,hc⟩:=Bn t4 hf one1 w7 (fw (aig (Mn h0 ‹_›))) (fw Ck) (by have:=ala (Mn h0 ‹_›);have:=F6 (-1) t3;omega) (by decide);refine OpG.lk (dc aep (.cons (.pure rfl) (.cons FzP.one .nil)) hc) ?_
  |obtain⟨_,⟨t5,e5,rfl,hg,h4⟩,hc⟩:=Bn t3 h3 one1 w7 (fw (aig hA)) (fw Ck) (by omega) (by decide);refine OpG.lk (dc aep (.cons (.pure rfl) (.cons FzP.one .nil)) hc) ?_
 all_goals first
  |exact rtP rfl d6 rfl ⟨ptG (.pat ⟨3,0,0,t3,zTe⟩),0,rfl,ai4 h3,ptY (I.trans (apr (by omega) ‹_›))⟩
  |exact rtP rfl d6 rfl ⟨ptG (.pat ⟨4,0,0,t3,zTe⟩),0,rfl,ai4 h3,ptY (I.trans (apq (by omega) ‹_›))⟩
  |exact rtC rfl d6 rfl ⟨[],kj⟩ ⟨⟨false,false,zAt⟩,_,rfl,Hl,ptN h4 ‹_› (I.trans (ik_w (by omega) ‹_› ‹_› (by first|(rw[azg (by omega)];exact Mn h0 ‹_›)|rw[azf (by omega)]) (by rw[azg (by omega)];exact(h4.2 ‹_›).1)))⟩
  |exact rtC rfl d6 rfl ⟨[],kj⟩ ⟨⟨false,false,zAt⟩,_,rfl,Hl,ptN h0 ‹_› (I.trans (ik_u (by omega) ‹_› ‹_› (by rw[azg (by omega)];exact(h0.2 ‹_›).1)))⟩
  |exact rtP rfl d6 rfl ⟨ptG (.pat ⟨2,0,0,_,zTe⟩),0,rfl,ai4 ‹_›,ptY (I.trans (ik_g (by omega) ‹_› ‹_› (by first|(rw[azg (by omega)];exact Mn h0 ‹_›)|rw[azf (by omega)]) (by first|(rw[azg (by omega)];exact Mn h4 ‹_›)|rw[azf (by omega)])))⟩
def y9(x:GEx)(hx:FitEx x)(l:List PVar)(hl:bq l (fun _=>True))(d:Nat)(ho:OpE l d (exA x)):PRet prog 252 [.tp [.tree 5 (l.map vA)] 0,.agg (exA x)] (fun q=>∃b:Bool,q=vB b/\(b=true↔TextE l (exA x))):=by refine ovT [28] [] func252 rfl rfl ?_;apply cB<;>intro h8;have h1:=h8;simp at h1;apply cB<;>intro h3;have h5:=azi h3;refine LenG.of (cB (fun h2=>?_) (fun h2=>?_));have h6:=azi h2;obtain⟨j1,h7,hj1l⟩:∃j:Nat,x.j_=((j:Nat):Int)/\j<l.length:=⟨x.j_.toNat,by omega,by omega⟩;refine OpG.lk (ae underlying54 uw rfl rfl h7 hj1l) ?_;refine⟨by kernel_rfl,?_⟩;exact rV rfl rfl ⟨_,rfl,fun h=>txIs ho (.inl ⟨h1,j1,hj1l,h7,by simpa using h⟩),fun h=>by simpa using auk h h1 h7 hj1l⟩;have h6:=azh h2;refine⟨by kernel_rfl,?_⟩;exact rV rfl rfl ⟨_,rfl,fun h=>absurd h (by decide),fun h=>(Ye h).elim (fun⟨_,j,hj,e,g⟩=>by omega) (fun h=>by omega)⟩;have h5:=azh h3;exact cF ⟨by kernel_rfl,rV rfl rfl ⟨_,rfl,fun h=>absurd h (by decide),fun h=>(Ye h).elim (fun⟨_,j,hj,e,g⟩=>by omega) (fun h=>by omega)⟩⟩;have h1:=h8;simp at h1;apply cB<;>intro h4;have h0:=h4;simp at h0;exact rV rfl rfl ⟨_,rfl,fun h=>txIs ho (.inr ⟨h0,by simpa using h⟩),fun h=>(Ye h).elim (fun h=>absurd h.1 h1) (fun h=>by simpa using h.2)⟩;have h0:=h4;simp at h0;exact rV rfl rfl ⟨_,rfl,fun h=>absurd h (by decide),fun h=>(Ye h).elim (fun h=>absurd h.1 h1) (fun h=>absurd h.1 h0)⟩
def anp(x:GEx)(hx:FitEx x)(m:Int)(l:List PVar)(hl:bq l (fun _=>True))(a0 a1:GEx)(h5:FitEx a0)(h6:FitEx a1)(hg:x.b_=[exA a0,exA a1])(hop:10<=x.op_/\x.op_<=16)(h7:OpE l 11 (exA a0))(h1:x.op_≠16->OpE l 11 (exA a1))(hm:¬HasN (exA a0))(hn:¬HasN (exA a1))(ha:IsSh 11 (exA a0))(hb:IsSh 11 (exA a1)):PRet prog 214 [.tp [.tree 5 (l.map vA)] 0,.agg (exA x),vI m] (fun q=>∃(g:GPrt) (e:Int),q=.tup [.agg (Fh g),vI e]/\FitPrt g/\PtR (ptS l x.op_ (exA a0) (exA a1) (o9 m)) g e):=by
 have hal:x.b_.length=2:=by rw[hg];rfl
 have hd:x.b_[0]'(by omega)=exA a0:=by simp[hg]
 have he:x.b_[1]'(by omega)=exA a1:=by simp[hg]
 refine ovT [] [] func214 rfl rfl (cb (j:=0) (by omega) hd (cb (j:=1) (by omega) he ⟨by kernel_rfl,cE (fun h2=>?_) (fun h2=>?_)⟩));refine ArgG.mk (o8 m) rfl ?_;rintro _ rfl;refine ArgG.mk (apd a0 h5 a1 h6 ((o9 m))) rfl ?_;rintro _ rfl;refine⟨by kernel_rfl,?_⟩;first|refine rtP rfl d6 rfl ?_
 exact⟨ptG (G1 a0 a1 (o9 m)),0,rfl,apf h5 h6,ptY (R6 h2)⟩;have h1:=h1 h2
 refine ArgG.mk (o8 m) rfl ?_;rintro _ rfl;apply cB<;>intro h0;refine ArgG.mk (Oi x.op_ (by omega)) rfl ?_;rintro _ rfl;refine ArgG.mk (y9 a0 h5 l hl 11 h7) rfl ?_;rintro _ ⟨b4,rfl,ho⟩;apply cB<;>intro h3;have hc:TextE l (exA a0)\/TextE l (exA a1):=.inl (ho.1 h3)
 refine cT (ArgG.mk (K7 ((sr x.op_)) a0 h5 a1 h6) rfl ?_);rintro _ rfl;first|refine rtP rfl d6 rfl ?_
 exact⟨ptG (ot _ a0 a1),0,rfl,K3 h5 h6,ptY (ag5 h2 hc (by first|rw[azg (by simpa using h0)]|rw[azf (by simpa using h0)]))⟩;have h8:¬TextE l (exA a0):=fun h=>by rw[ho.2 h]at h3;cases h3
 refine ArgG.mk (y9 a1 h6 l hl 11 h1) rfl ?_;rintro _ ⟨b6,rfl,hp⟩;apply cB<;>intro h4;have hc:TextE l (exA a0)\/TextE l (exA a1):=.inr (hp.1 h4)
 refine ArgG.mk (K7 ((sr x.op_)) a0 h5 a1 h6) rfl ?_;rintro _ rfl;first|refine rtP rfl d6 rfl ?_
 exact⟨ptG (ot _ a0 a1),0,rfl,K3 h5 h6,ptY (ag5 h2 hc (by first|rw[azg (by simpa using h0)]|rw[azf (by simpa using h0)]))⟩;have h9:¬TextE l (exA a1):=fun h=>by rw[hp.2 h]at h4;cases h4
 obtain⟨t0,hh⟩:=Ol h7 hm h8;obtain⟨t1,hi⟩:=Ol h1 hn h9;refine ArgG.mk (Cs ((sr x.op_)) a0 h5 a1 h6 t0 t1 hh hi ha hb) rfl ?_;rintro _ ⟨g8,e8,rfl,hr,hs⟩;first|refine rtP rfl d6 rfl ?_
 exact⟨g8,e8,rfl,hr,by rw[ak8 (pos:=o9 m) h2 h8 h9 (by first|rw[azg (by simpa using h0)]|rw[azf (by simpa using h0)])];exact hs⟩;refine ArgG.mk (y9 a0 h5 l hl 11 h7) rfl ?_;rintro _ ⟨b9,rfl,hq⟩;apply cB<;>intro h3;have hc:TextE l (exA a0)\/TextE l (exA a1):=.inl (hq.1 h3)
 refine cT (ArgG.mk (K7 x.op_ a0 h5 a1 h6) rfl ?_);rintro _ rfl;first|refine rtP rfl d6 rfl ?_
 exact⟨ptG (ot _ a0 a1),0,rfl,K3 h5 h6,ptY (ag5 h2 hc (by first|rw[azg (by simpa using h0)]|rw[azf (by simpa using h0)]))⟩;have h8:¬TextE l (exA a0):=fun h=>by rw[hq.2 h]at h3;cases h3
 refine ArgG.mk (y9 a1 h6 l hl 11 h1) rfl ?_;rintro _ ⟨b11,rfl,hf⟩;apply cB<;>intro h4;have hc:TextE l (exA a0)\/TextE l (exA a1):=.inr (hf.1 h4)
 refine ArgG.mk (K7 x.op_ a0 h5 a1 h6) rfl ?_;rintro _ rfl;first|refine rtP rfl d6 rfl ?_
 exact⟨ptG (ot _ a0 a1),0,rfl,K3 h5 h6,ptY (ag5 h2 hc (by first|rw[azg (by simpa using h0)]|rw[azf (by simpa using h0)]))⟩;have h9:¬TextE l (exA a1):=fun h=>by rw[hf.2 h]at h4;cases h4
 obtain⟨t0,hh⟩:=Ol h7 hm h8;obtain⟨t1,hi⟩:=Ol h1 hn h9;refine ArgG.mk (Cs x.op_ a0 h5 a1 h6 t0 t1 hh hi ha hb) rfl ?_;rintro _ ⟨g13,e13,rfl,hj,hk⟩;first|refine rtP rfl d6 rfl ?_
 exact⟨g13,e13,rfl,hj,by rw[ak8 (pos:=o9 m) h2 h8 h9 (by first|rw[azg (by simpa using h0)]|rw[azf (by simpa using h0)])];exact hk⟩
def oc(l:List GPart):Nat:=(l.flatMap lm).length
theorem p9(p:GPart)(l:List GPart):oc (p::l)=(lm p).length+oc l:=by simp[oc]
theorem adk(p:GPart):∀l:List GPart,oc (j9 p l)<=oc l+(lm p).length
 |[]=>by simp[j9,oc]
 |q::l=>by have ih:=adk p l;unfold j9;split;split;rw[p9];omega;rw[p9,p9];show(lm q).length+_<=_;omega;split;rw[p9,p9];omega;rw[p9,p9];omega
theorem G3:∀m l:List GPart,oc (dx l m)<=oc l+oc m
 |[],l=>Nat.le_add_right _ _
 |p::m,l=>by have h:=G3 m (j9 p l);have g:=adk p l;rw[p9];have e:dx l (p::m)=dx (j9 p l) m:=rfl;rw[e];omega
def Ix(n:Int)(x:GTm):oc (scT n x).a_<=oc x.a_:=by unfold scT;split;simp[oc,zT];show oc (x.a_.map fun p=>{p with i_:=p.i_*n})<=_;unfold oc;rw[List.flatMap_map];exact azm _
theorem aw3(x:GTm)(b:Int):oc (dvT x b).a_=oc x.a_:=by show oc [dvP x b]=_;rw[p9];have e:lm (dvP x b)=x.a_.flatMap lm:=(by show(if(2:Int)=2 then ve [tmA x]else _)=_;rw[azg rfl];simp only[ve,dj]);rw[e];simp[oc]
theorem mz{o:GTm}(h:dt o=some t):oc t.a_=oc o.a_:=by rw[(j6 h).1]
def aqd{a:GTm}{b:Int}(h:ym a b=some q):oc q.a_<=oc a.a_:=by unfold ym at h;split at h;cases h;exact azm _;split at h;cases h;simp[oc];rw[mz h,aw3];exact azm _
def H3(a b:GTm):oc (qq a b).a_<=oc a.a_+oc b.a_:=G3 _ _
def ar2{a b u:GTm}{N:Nat}(ha:oc a.a_<=N)(hb:oc b.a_<=N)(h:kw op a b=some u):oc u.a_<=2*N:=by
 unfold kw at h;split at h;rw[mz h];have:=H3 a b;omega
 split at h;obtain⟨c,hc,h⟩:=azt.1 h;have:=H3 a c
 have:=Ix (-1) b;have:=mz hc
 rw[mz h];omega;split at h;split at h;cases h;split at h;rw[mz h];have:=Ix a.f_ b;omega
 rw[mz h];have:=Ix b.f_ a;omega
 split at h;cases h;obtain⟨q,hq,h⟩:=azt.1 h;have g:=aqd hq
 split at h;cases h;omega;obtain⟨m,hm,h⟩:=azt.1 h;have:=H3 a m
 have:=Ix (-b.f_) q;have:=mz hm
 rw[mz h];omega
theorem aoa(r:List AV)(hr:IsEx r):∀d,IsSh d r->∀u,ofT r=some u->oc u.a_<=2^d:=
 IsEx.ind (M:=fun r=>∀d,IsSh d r->∀u,ofT r=some u->oc u.a_<=2^d) (fun x hx ih d hs u hu=>by
  obtain⟨d',rfl,h2,h3⟩:=fx hs;have hp:1<=2^d':=Nat.one_le_two_pow
  have hq:2^(d'+1)=2*2^d':=by rw[Nat.pow_succ];omega
  rw[hq];cases ofV hu with
  |len t h hl hu=>
   obtain⟨a,_,_,_,⟨_,_,rfl⟩|⟨_,_,rfl⟩⟩:=alb hx hl<;>rw[mz hu]
   ·show 0<=_;omega
   ·show 1<=_;omega
  |lit h ha hk hu=>rw[mz hu];show 0<=_;omega
  |col h ha hi hu=>subst hu;show 1<=_;omega
  |neg r s h ha hr hu=>
   have hm:r∈x.b_:=by rw[ha];simp
   have g:=ih r hm d' (h3 r hm) s hr
   rw[mz hu];have:=Ix (-1) s;omega
  |bin r q a b h ha hr h1 hu=>
   have hm:r∈x.b_:=by rw[ha];simp
   have h0:q∈x.b_:=by rw[ha];simp
   exact ar2 (ih r hm d' (h3 r hm) a hr) (ih q h0 d' (h3 q h0) b h1) hu) hr
theorem Su(t:GTm):(d7 (tmA t)).length=oc t.a_:=by rw[dj];rfl
def apn{x:List AV}(hx:IsEx x)(hy:IsEx y)(sx:IsSh 11 x)(sy:IsSh 11 y)(h:Ct op x y=some (.pat a)):(d7 (tmA a.o_)).length<=4096:=by
 unfold Ct at h;obtain⟨p,hp,h⟩:=azt.1 h;obtain⟨q,hq,h⟩:=azt.1 h;obtain⟨c,hc,h⟩:=azt.1 h;obtain⟨t,ht,h⟩:=azt.1 h;have h1:=aoa x hx 11 sx p hp
 have h2:=aoa y hy 11 sy q hq;have h3:oc t.a_<=4096:=by have:=H3 p c;have:=Ix (-1) q;have:=mz hc;rw[mz ht];omega
 split at h;cases h;split at h;cases h;rw[Su];exact h3;split at h;cases h;rw[Su];exact h3;obtain⟨u,hu,h⟩:=azt.1 h;obtain⟨w,hw,h⟩:=azt.1 h;cases h;rw[Su]
 have h4:oc u.a_<=4096:=by
  split at hu;have:=Ix (-1) t
  rw[mz hu];omega;cases hu;exact h3
 split at hw;have:=H3 u one1
 have e:oc one1.a_=0:=rfl;show oc w.a_<=_
 rw[mz hw];omega;cases hw;exact h4
def ag6{x:List AV}(hx:IsEx x)(hy:IsEx y)(sx:IsSh 11 x)(sy:IsSh 11 y)(h:ptS l op x y pos=some (.pat a)):(d7 (tmA a.o_)).length<=4096:=by unfold ptS at h;split at h;unfold G1 at h;split at h;cases h;cases h;simp[dj,zT];split at h;unfold ot at h;simp only[aza]at h;split at h;cases h;split at h;cases h;simp[dj,zT];split at h;cases h;simp[dj,zT];split at h;cases h;cases h;simp[dj,zT];exact apn hx hy sx sy h
theorem D3(r:List AV)(hr:IsEx r):∀d,IsSh d r->(dw r).length+1<=2^(d+1):=
 IsEx.ind (M:=fun r=>∀d,IsSh d r->(dw r).length+1<=2^(d+1)) (fun x hx ih d hs=>by
  obtain⟨d',rfl,h2,h3⟩:=fx hs
  have hq:2^(d'+1+1)=2*2^(d'+1):=by rw[Nat.pow_succ];omega
  rw[dg,azb,hq]
  have h0:(if x.op_=2 then[x.j_]else[]).length<=1:=by split<;>simp
  have h4:(bi x.b_).length+x.b_.length<=x.b_.length*2^(d'+1):=by
   have:∀es:List (List AV),(∀r∈es,(dw r).length+1<=2^(d'+1))->(bi es).length+es.length<=es.length*2^(d'+1):=by
    intro es
    induction es with
    |nil=>intro _;simp[bi]
    |cons a es ih2=>
     intro h
     have h1:=h a (by simp)
     have h2:=ih2 fun r hr=>h r (by simp[hr])
     simp only[bi,azb,azu]
     rw[Nat.add_mul]
     omega
   exact this x.b_ fun r hr=>ih r hr d' (h3 r hr)
  have h5:1<=2^(d'+1):=Nat.one_le_two_pow
  generalize 2^(d'+1)=N at*
  generalize x.b_.length=k at*
  match k,h2,h4 with
  |0,_,h4=>omega
  |1,_,h4=>omega
  |2,_,h4=>omega
  |k+3,h,_=>omega) hr
theorem y5{d:Nat}:∀{es:List (List AV)},(∀r∈es,IsEx r/\IsSh d r)->(bi es).length<=es.length*2^(d+1)
 |[],_=>by simp[bi]
 |a::es,h=>by have h1:=D3 a (h a (by simp)).1 d (h a (by simp)).2;have h2:=y5 fun r hr=>h r (List.mem_cons_of_mem a hr);simp only[bi,azb,azu];rw[Nat.add_mul];omega
def TyV(l:List PVar)(k v:Int):Prop:=∃j,∃h:j<l.length,v=((j:Nat):Int)/\l[j].t=k
inductive TmV(l:List PVar):List AV->Prop
 |mk (x:GTm) (hb:∀p∈x.a_,(p.c_≠2->p.by_=0)/\(p.c_=2->p.p_=0)) (h0:∀p∈x.a_,p.c_=0->TyV l 1 p.p_) (h1:∀p∈x.a_,p.c_=1->TyV l 2 p.p_) (h2:∀p∈x.a_,p.c_=2->∀r∈p.of_,TmV l r):TmV l (tmA x)
def PtV(l:List PVar)(p:GPart):Prop:=(p.c_=0->TyV l 1 p.p_)/\(p.c_=1->TyV l 2 p.p_)/\(p.c_=2->∀r∈p.of_,TmV l r)/\(p.c_≠2->p.by_=0)/\(p.c_=2->p.p_=0)
theorem tmV{x:GTm}:TmV l (tmA x)↔∀p∈x.a_,PtV l p:=by
 constructor
 ·intro h
  generalize e:tmA x=r at h
  cases h with
  |mk y hb h0 h1 h2=>rw[Qz e];exact fun p hp=>⟨h0 p hp,h1 p hp,h2 p hp,hb p hp⟩
 ·exact fun h=>.mk x (fun p hp=>(h p hp).2.2.2) (fun p hp=>(h p hp).1) (fun p hp=>(h p hp).2.1) (fun p hp=>(h p hp).2.2.1)
section
variable{l:List PVar}{a b t u:GTm}
def ato :TmV l (tmA ⟨c,[]⟩):=tmV.2 (by simp)
def Fw(ha:TmV l (tmA a))(hb:TmV l (tmA b)):TmV l (tmA (qq a b)):=tmV.2 (pd (fun q c h=>h) (tmV.1 ha) (tmV.1 hb))
def Ip(ha:TmV l (tmA a)):TmV l (tmA (scT n a)):=by unfold scT;split;exact tmV.2 (by simp[zT]);refine tmV.2 fun p hp=>?_;obtain⟨q,hq,rfl⟩:=azy.1 hp;exact tmV.1 ha q hq
def aul(ha:TmV l (tmA a)):TmV l (tmA (dvT a n)):=tmV.2 fun p hp=>by rw[azc.1 hp];exact⟨fun h=>absurd h (by decide:¬(2:Int)=0),fun h=>absurd h (by decide:¬(2:Int)=1),fun _ r hr=>(by rw[azc.1 hr];exact ha),fun h=>absurd rfl h,fun _=>rfl⟩
def mc{o:GTm}(h:dt o=some t)(ho:TmV l (tmA o)):TmV l (tmA t):=by rw[(j6 h).1];exact ho
def acc(h0:k=0->TyV l 1 v)(h1:k=1->TyV l 2 v)(h2:k≠2):TmV l (tmA (ue k v)):=tmV.2 fun p hp=>by rw[azc.1 hp];exact⟨h0,h1,fun h=>absurd h h2,fun _=>rfl,fun h=>absurd h h2⟩
def al0(ha:TmV l (tmA a))(hb:TmV l (tmA b))(h:kw op a b=some u):TmV l (tmA u):=by
 unfold kw at h;split at h;exact mc h (Fw ha hb);split at h;obtain⟨c,hc,h⟩:=azt.1 h;exact mc h (Fw ha (mc hc (Ip hb)));split at h;split at h;cases h;split at h;exact mc h (Ip hb);exact mc h (Ip ha);split at h;cases h;obtain⟨q,hq,h⟩:=azt.1 h
 have g:TmV l (tmA q):=by
  unfold ym at hq;split at hq;cases hq;exact ha;split at hq;cases hq;exact ato;exact mc hq (aul ha)
 split at h;cases h;exact g;obtain⟨m,hm,h⟩:=azt.1 h;exact mc h (Fw ha (mc hm (Ip g)))
theorem an9(r:List AV)(hr:IsEx r):IntE l r->∀u,ofT r=some u->TmV l (tmA u):=
 IsEx.ind (M:=fun r=>IntE l r->∀u,ofT r=some u->TmV l (tmA u)) (fun x hx ih hi u hu=>by
  cases ofV hu with
  |len t h hl hu=>
   obtain⟨a,ha,_,_,⟨_,_,rfl⟩|⟨a2,_,rfl⟩⟩:=alb hx hl
   ·exact mc hu ato
   ·refine mc hu (acc (fun h=>by omega) (fun _=>?_) (by decide))
    rcases d8 hi with g|g|⟨_,a',g1,_,g⟩|g|g
    ·omega
    ·omega
    ·rw[ha]at g1
     have ea:a'=a:=(au (by simpa using g1)).symm
     subst ea
     rcases g with g|g
     ·obtain⟨_,⟨_,j,hj,e2,e3⟩|g⟩:=cp g
      ·exact⟨j,hj,e2,e3⟩
      ·omega
     ·omega
    ·omega
    ·omega
  |lit h ha hk hu=>exact mc hu ato
  |col h ha hi' hu=>
   subst hu
   rcases d8 hi with g|⟨_,_,j,hj,e2,e3⟩|g|g|g
   ·omega
   ·exact acc (fun _=>⟨j,hj,e2,e3⟩) (fun h=>by omega) (by decide)
   ·omega
   ·omega
   ·omega
  |neg r s h ha hr hu=>
   have hm:r∈x.b_:=by rw[ha];simp
   rcases d8 hi with g|g|g|⟨_,_,g⟩|g
   ·omega
   ·omega
   ·omega
   ·exact mc hu (Ip (ih r hm (g r hm) s hr))
   ·omega
  |bin r q a b h ha hr h1 hu=>
   have hm:r∈x.b_:=by rw[ha];simp
   have h0:q∈x.b_:=by rw[ha];simp
   rcases d8 hi with g|g|g|g|⟨_,_,g⟩
   ·omega
   ·omega
   ·omega
   ·omega
   ·exact al0 (ih r hm (g r hm) a hr) (ih q h0 (g q h0) b h1) hu) hr
end
def FmR(o:Option (List AV))(f:GFm)(e:Int):Prop:=(e=0->o=some (fmA f))/\(e≠0->o=none/\e=3)
def fmY{o:Option (List AV)}(h:o=some (fmA f)):FmR o f 0:=⟨fun _=>h,fun h=>absurd rfl h⟩
def fmN{o:Option (List AV)}(h:o=none)(he:e=3):FmR o f e:=⟨fun h0=>by omega,fun _=>⟨h,he⟩⟩
theorem au4(v:Int):srtU [v]=[v]:=Rd (by simp)
def va_t(h:a.c_=2\/a.c_=3\/a.c_=4):srtU (srtU (d7 (tmA a.o_)))=jh a:=by rw[Rd qv,jh,azg h]
theorem va_p(h:¬(a.c_=2\/a.c_=3\/a.c_=4))(h2:a.c_=6\/a.c_=7):srtU [a.p_,a.w_]=jh a:=by rw[jh,azf h,azg h2]
def va_1(h:¬(a.c_=2\/a.c_=3\/a.c_=4))(h2:¬(a.c_=6\/a.c_=7)):srtU [a.p_]=jh a:=by rw[au4,jh,azf h,azf h2]
def Fs :(jh a).length<=(d7 (tmA a.o_)).length+2:=by unfold jh;split;exact azp (db _) (Nat.le_add_right _ _);split;exact azp (db _) (Nat.le_add_left _ _);simp
def Tp(kd:Int)(L:List GFm)(hl:L.length<=140737488355328)(hL:∀x∈L,FitFm x):PRet prog 183 [vI kd,.tree 11 (L.map fmA)] (fun q=>∃y:GFm,q=.agg (fmA y)/\FitFm y/\lsF kd (L.map fmA)=fmA y):=by have hf:bq (L.map fmA) (fun y=>IsFm y):=⟨by rw[aze];exact hl,fun r hr=>by obtain⟨x,hx,rfl⟩:=azy.1 hr;exact yk (hL x hx)⟩;have h:=apb kd (L.map fmA) hf (by simp[bz,AV.pureB]);rw[fk]at h;obtain⟨q,rfl,h⟩:=h;obtain⟨y,e,hy⟩:=(D7 (k:=kd) hf).open_;exact⟨_,⟨y,by rw[e],hy,e⟩,h⟩
def k9 :∀x∈jk k vs,FitFm x:=by grind[jk,ma,qt]
theorem d9 :(jk k vs).length=vs.length:=by simp[jk]
def jm{a:GFm}(h:∀x∈L,FitFm x)(ha:FitFm a):∀x∈L++[a],FitFm x:=by grind
open Classical in
noncomputable def cmO(l:List PVar)(x:GEx)(m:Int):Option (List AV):=if∃r∈x.b_,HasN r then some (fmA (cnF (ip m)))else cmS l x.op_ m x.b_
section
variable{l:List PVar}{x a0 a1:GEx}{m:Int}{g:GPrt}{p:Pt}{y:GFm}
abbrev csX(x:GEx):List Int:=srtU (bi x.b_)
theorem Na(h:HasN (exA x))(ho:¬x.op_=1):cmO l x m=some (fmA (cnF (ip m))):=by grind[cmO,pf]
theorem aav(h:¬HasN (exA x))(h0:x.b_=[exA a0,exA a1]):cmO l x m=(ptS l x.op_ (exA a0) (exA a1) (o9 m)).map (cmF m (csX x)):=by rw[cmO,azf (fun g=>h (pf.2 (.inr g)))];have e:srtU (dw (exA a0)++dw (exA a1))=csX x:=(by unfold csX;rw[h0];simp only[bi,List.append_nil]);rw[h0,cmS,e]
def aq0(h:¬HasN (exA x))(h0:x.b_=[exA a0,exA a1])(hp:ptS l x.op_ (exA a0) (exA a1) (o9 m)=none):cmO l x m=none:=by rw[aav h h0,hp];rfl
theorem Ht(h:¬HasN (exA x))(h0:x.b_=[exA a0,exA a1])(hp:ptS l x.op_ (exA a0) (exA a1) (o9 m)=some p)(hr:cmF m (csX x) p=r):cmO l x m=some r:=by rw[aav h h0,hp,<-hr];rfl
variable{cs:List Int}
theorem axi(hg:g=ptG p)(hw:ip m=true)(hk:g.kn=true)(hv:g.vl=true):cmF m cs p=fmA (cnF true):=by
 subst hg;cases p with
 |kn b=>rw[cmF,azg hw,azg (show b=true from hv)]
 |pat a=>cases hk
theorem axh(hg:g=ptG p)(hw:ip m=true)(hk:g.kn=true)(hv:g.vl=false)(hy:lsF 1 ((jk 0 cs).map fmA)=fmA y):cmF m cs p=fmA y:=by
 subst hg;cases p with
 |kn b=>rw[cmF,azg hw,azf (by rw[show b=false from hv];decide),<-mj];exact hy
 |pat a=>cases hk
theorem axg(hg:g=ptG p)(hw:ip m=true)(hk:g.kn=false)(hy:lsF 1 ((jk 0 cs++[atF g.at_]).map fmA)=fmA y):cmF m cs p=fmA y:=by
 subst hg;cases p with
 |kn b=>cases hk
 |pat a=>rw[cmF,azg hw,<-mj];rw[azx]at hy;exact hy
theorem axl(hg:g=ptG p)(hw:ip m=false)(hk:g.kn=true)(hv:g.vl=false):cmF m cs p=fmA (cnF false):=by
 subst hg;cases p with
 |kn b=>rw[cmF,azf (by rw[hw];decide),azf (by rw[show b=false from hv];decide)]
 |pat a=>cases hk
theorem axk(hg:g=ptG p)(hw:ip m=false)(hk:g.kn=true)(hv:g.vl=true)(hy:lsF 0 ((jk 1 cs).map fmA)=fmA y):cmF m cs p=fmA y:=by
 subst hg;cases p with
 |kn b=>rw[cmF,azf (by rw[hw];decide),azg (show b=true from hv),<-mj];exact hy
 |pat a=>cases hk
theorem axj(hg:g=ptG p)(hw:ip m=false)(hk:g.kn=false)(hy:lsF 0 ((jk 1 (cs.filter (kpB (jh g.at_)))++[atF g.at_]).map fmA)=fmA y):cmF m cs p=fmA y:=by
 subst hg;cases p with
 |kn b=>cases hk
 |pat a=>rw[cmF,azf (by rw[hw];decide),<-mj];rw[azx]at hy;exact hy
end
def Ng:cw prog 184=true:=by kernel_rfl
def ars:cw prog 185=true:=by kernel_rfl
def arr:cw prog 216=true:=by kernel_rfl
def aro:cw prog 255=true:=by kernel_rfl
theorem aft(x:GFm)(hx:FitFm x)(h0:x.c_=2)(h1:x.b_=[])(h2:(d7 (tmA x.e_.o_)).length<=1099511627776):PRet prog 215 [.agg (fmA x)] (fun q=>q=isA (jh x.e_)):=by
 have hoc2:=db (d7 (tmA x.e_.o_));refine ovT [35,47,49] [] func215 rfl rfl (LenG.of (LpG.exit (cB (fun h=>by rw[h1]at h;exact absurd h (by decide)) (fun h=>cE (fun _=>?_) fun h=>absurd h0 h))));repeat' first|refine cE (fun _=>?_) (fun _=>?_)<;>try omega
 all_goals first
  |have:x.e_.c_=2\/x.e_.c_=3\/x.e_.c_=4:=by omega
   refine OpG.mk _ _ _ 2 (bg [(1,1)] aro (at9 x.e_.o_ hx.e_.o_ h2) rfl rfl rfl rfl trivial trivial ⟨c9 ai _ _,trivial⟩ rfl rfl rfl rfl (bv ai rfl) rfl) rfl rfl (OpG.mk _ _ _ 2 (bg [(TOP,1)] v8 (ux (srtU (d7 (tmA x.e_.o_))) 0 (by first|omega|(simp;done))) rfl rfl rfl rfl ⟨ig ai,trivial⟩ ⟨d5 ai,trivial⟩ ⟨c9 ai _ _,trivial⟩ rfl rfl rfl rfl (bv ai rfl) rfl) rfl rfl ?_)
   exact OpG.mk _ _ _ 2 (bg [(TOP,1)] ya (lq (srtU (d7 (tmA x.e_.o_))) 0 (by first|omega|(simp;done))) rfl rfl rfl rfl ⟨ig ai,trivial⟩ ⟨ac6 fq,trivial⟩ ⟨c9 ai _ _,trivial⟩ rfl rfl rfl rfl (bv ai rfl) rfl) rfl rfl (rtA rfl ⟨[1],FzP.srtU rfl⟩ (congrArg isA (va_t (by omega))))
  |refine OpG.mk _ _ _ 2 (bg [(TOP,1)] v8 (ux [x.e_.p_,x.e_.w_] TV (by first|omega|(simp;done))) rfl rfl rfl rfl ⟨ig ai (l:=[x.e_.p_,x.e_.w_]),trivial⟩ ⟨d5 ai,trivial⟩ ⟨c9 ai _ _,trivial⟩ rfl rfl rfl rfl (bv ai rfl) rfl) rfl rfl (OpG.mk _ _ _ 2 (bg [(TOP,1)] ya (lq [x.e_.p_,x.e_.w_] TV (by first|omega|(simp;done))) rfl rfl rfl rfl ⟨ig ai,trivial⟩ ⟨ac6 fq,trivial⟩ ⟨c9 ai _ _,trivial⟩ rfl rfl rfl rfl (bv ai rfl) rfl) rfl rfl ?_);exact rtA rfl ⟨[1],FzP.srtU rfl⟩ (congrArg isA (va_p (by omega) (by omega)))
  |refine OpG.mk _ _ _ 2 (bg [(TOP,1)] v8 (ux [x.e_.p_] TV (by first|omega|(simp;done))) rfl rfl rfl rfl ⟨ig ai (l:=[x.e_.p_]),trivial⟩ ⟨d5 ai,trivial⟩ ⟨c9 ai _ _,trivial⟩ rfl rfl rfl rfl (bv ai rfl) rfl) rfl rfl (OpG.mk _ _ _ 2 (bg [(TOP,1)] ya (lq [x.e_.p_] TV (by first|omega|(simp;done))) rfl rfl rfl rfl ⟨ig ai,trivial⟩ ⟨ac6 fq,trivial⟩ ⟨c9 ai _ _,trivial⟩ rfl rfl rfl rfl (bv ai rfl) rfl) rfl rfl ?_);exact rtA rfl ⟨[1],FzP.srtU rfl⟩ (congrArg isA (va_1 (by omega) (by omega)))
def aqj(own:List Int)(h1:bq own (fun _=>True)):aby prog 216 [.sl 1000000 0 0 0,.clo 217 [.tp [isA own] 0]] [(1000000,⟨0,[],1,true⟩)] [(1000000,none)] (fun q=>q=isA []):=by refine aby.of_vc ua [10] [] func216 rfl ntmps216 rfl (by kernel_rfl) ?_;obtain⟨_,⟨i0,rfl,h4⟩,h2⟩:=G6 [] ⟨azk _,fun _ _=>trivial⟩ own h1;refine OpG.lk (rn [1000000] ael rfl (fun i h h'=>match i,h with|0,_=>Kq (azc.2 rfl) rfl|1,_=>FzP.pure rfl) h2) (cB (fun h0=>by have h3:=h0;simp at h3;exact⟨.inr rfl,_,Pn.of [1000000] (cy rfl (.cons (ay3.tmp rfl) .nil)) rfl ⟨.gone,trivial⟩ (.fz (Kq (azc.2 rfl) rfl)),rfl⟩) (fun h0=>?_));exfalso;rcases h4 with h|⟨j,_,h,_⟩;exact absurd h.1 (by simpa using h0);exact absurd h (by simp)
def axb(l own:List Int)(hl:l.length<=140737488355328)(h1:bq own (fun _=>True)):jy prog 216 [.sl TOP 0 0 l.length,.clo 217 [.tp [isA own] 0]] [(TOP,⟨0,rF iA l,1,Nat.beq l.length 0⟩)] [(TOP,none)] (isA (l.filter (kpB own))):=by by_cases h0:0<l.length;exact delF l own h0 hl h1;obtain rfl:=az1 (Nat.eq_zero_of_not_pos h0);obtain⟨_,rfl,h⟩:=aqj own h1;exact h
def Hq(x:GEx)(hx:FitEx x)(m:Int)(l:List PVar)(hl:bq l (fun _=>True))(a0 a1:GEx)(ho:FitEx a0)(hq:FitEx a1)(h3:x.b_=[exA a0,exA a1])(ht:10<=x.op_/\x.op_<=16)(he:OpE l 11 (exA a0))(hf:x.op_≠16->OpE l 11 (exA a1))(h4:IsSh 11 (exA a0))(h5:IsSh 11 (exA a1)):PRet prog 187 [.tp [.tree 5 (l.map vA)] 0,.agg (exA x),vI m] (fun q=>∃(f:GFm) (e:Int),q=.tup [.agg (fmA f),vI e]/\FitFm f/\FmR (cmO l x m) f e):=by
 have hu:(bi x.b_).length<=8192:=by have h:=y5 (d:=11) (es:=x.b_) (fun r hr=>⟨hx.b_.2 r hr,by rw[h3]at hr;rcases azz.1 hr with rfl|hr;exact h4;rw[azc.1 hr];exact h5⟩);rw[h3]at h ⊢;exact azp h (show 2*2^12<=8192 by decide)
 have hcl:(csX x).length<=8192:=azp (db _) hu;skip;refine ovT [32,43,52,66,72,73,74,80] [10,13,18,20,22] func187 rfl rfl (ArgG.mk (vg (exA x) (ko hx)) rfl ?_);rintro _ ⟨bN,rfl,hs⟩;apply cB<;>intro h9;refine ArgG.mk (ab5 m) rfl ?_;rintro _ rfl;refine ArgG.mk (sd ((ip m))) rfl ?_;rintro _ rfl;exact rtP rfl bu rfl ⟨cnF (ip m),0,rfl,fe,fmY (Na (hs.1 h9) (by omega))⟩;have h6:¬HasN (exA x):=fun h=>by rw[hs.2 h]at h9;cases h9
 refine ArgG.mk (anp x hx m l hl a0 a1 ho hq h3 ht he hf (fun h=>h6 (pf.2 (.inr ⟨_,by rw[h3];simp,h⟩))) (fun h=>h6 (pf.2 (.inr ⟨_,by rw[h3];simp,h⟩))) h4 h5) rfl ?_;rintro _ ⟨g,e,rfl,hg,hp⟩;apply cN<;>intro hh;exact rtC rfl bu rfl ⟨[],i6⟩ ⟨cnF true,e,rfl,fe,fmN (aq0 h6 h3 (hp.2 hh).1) (hp.2 hh).2⟩;obtain⟨p,ha,hb⟩:=hp.1 (by omega);have hfl:=List.length_filter_le (kpB (jh g.at_)) (csX x)
 have hv:(d7 (tmA g.at_.o_)).length<=4096:=by subst hb;cases p with|kn b=>simp[ptG,zAt,zT,dj]|pat a=>exact ag6 (ko ho) (ko hq) h4 h5 ha
 refine OpG.mk _ _ _ 4 (bg [(0,3)] ars (axf x.b_ hx.b_ (by omega)) rfl rfl rfl rfl trivial trivial ⟨c9 ai _ _,trivial⟩ rfl rfl rfl rfl (bv ai rfl) rfl) rfl rfl (ArgG.mk (ab5 m) rfl ?_);rintro _ rfl;apply cB<;>intro h0;apply cB<;>intro hi;have hc:=hi
 apply cB<;>intro hj;refine ArgG.mk (sd true) rfl ?_;rintro _ rfl;exact rtP rfl bu rfl ⟨cnF true,0,rfl,fe,fmY (Ht h6 h3 ha (axi hb h0 hc hj))⟩;refine RegG.via (fun _ h=>bc [3] 10 (isA (csX x)) (FzP.rows ai (azc.2 rfl) rfl) rfl h) (ay ?_);refine OpG.mk _ _ _ 5 (bg [(0,4)] Ng (L7 0 (csX x) ⟨by omega,fun _ _=>trivial⟩ (by omega)) rfl rfl rfl rfl trivial trivial ⟨c9 aq _ _,trivial⟩ rfl rfl rfl rfl (bv aq rfl) rfl) rfl rfl (cB (fun h7=>?_) (fun h7=>?_));exact absurd h7 (by rw[hc];decide);refine RegG.via (fun _ h=>bc [4] 11 (.tree 11 ((jk 0 (csX x)).map fmA)) (FzP.rows aq (azc.2 rfl) rfl) rfl h) (ay ?_);refine ArgG.mk (Tp 1 (jk 0 (csX x)) (by(rw[d9];omega)) k9) rfl ?_;rintro _ ⟨y,rfl,hy,hd⟩;exact rtP rfl bu rfl ⟨y,0,rfl,hy,fmY (Ht h6 h3 ha (axh hb h0 hc hj hd))⟩;have hk:=hi
 refine cF (RegG.via (fun _ h=>bc [3] 10 (isA (csX x)) (FzP.rows ai (azc.2 rfl) rfl) rfl h) ?_);refine ay (OpG.mk _ _ _ 5 (bg [(0,4)] Ng (L7 0 (csX x) ⟨by omega,fun _ _=>trivial⟩ (by omega)) rfl rfl rfl rfl trivial trivial ⟨c9 aq _ _,trivial⟩ rfl rfl rfl rfl (bv aq rfl) rfl) rfl rfl ?_);apply cB<;>intro h7;refine ArgG.mk (kh g.at_ hg.at_) rfl ?_;rintro _ rfl;refine OpG.mk _ _ _ 6 (ah aq (l:=(jk 0 (csX x))) (a:=atF g.at_) underlying67 zv yr Bx rfl rfl rfl (am rfl rfl rfl rfl) rfl (by rw[d9];omega) (by rw[d9];omega) (by decide)) rfl rfl (RegG.via (fun _ h=>bc [4] 11 (.tree 11 ((jk 0 (csX x)++[atF g.at_]).map fmA)) (FzP.rows aq (azc.2 rfl) rfl) rfl h) ?_);refine ay (ArgG.mk (Tp 1 (jk 0 (csX x)++[atF g.at_]) (by(rw[azb,d9];simp only[azu,azv];omega)) (jm k9 (ma hg.at_))) rfl ?_);rintro _ ⟨y,rfl,hy,hd⟩;exact rtP rfl bu rfl ⟨y,0,rfl,hy,fmY (Ht h6 h3 ha (axg hb h0 hk hd))⟩;exact absurd h7 (by rw[hk];decide);apply cB<;>intro hm;have hc:=hm
 apply cB<;>intro hn;refine ArgG.mk (sd false) rfl ?_;rintro _ rfl;exact rtP rfl bu rfl ⟨cnF false,0,rfl,fe,fmY (Ht h6 h3 ha (axl hb h0 hc (by simpa using hn)))⟩;apply cB<;>intro h8;refine RegG.via (fun _ h=>bc [3] 10 (isA (csX x)) (FzP.rows ai (azc.2 rfl) rfl) rfl h) (ay ?_);refine OpG.mk _ _ _ 5 (bg [(0,4)] Ng (L7 1 (csX x) ⟨by omega,fun _ _=>trivial⟩ (by omega)) rfl rfl rfl rfl trivial trivial ⟨c9 aq _ _,trivial⟩ rfl rfl rfl rfl (bv aq rfl) rfl) rfl rfl (RegG.via (fun _ h=>bc [4] 12 (.tree 11 ((jk 1 (csX x)).map fmA)) (FzP.rows aq (azc.2 rfl) rfl) rfl h) ?_);refine ay (ArgG.mk (Tp 0 (jk 1 (csX x)) (by(rw[d9];omega)) k9) rfl ?_);rintro _ ⟨y,rfl,hy,hd⟩;exact rtP rfl bu rfl ⟨y,0,rfl,hy,fmY (Ht h6 h3 ha (axk hb h0 hc (by simpa using hn) hd))⟩;exact absurd h8 (by rw[hc];decide);have hk:=hm
 refine cF (cB (fun h8=>?_) (fun h8=>?_));exact absurd h8 (by rw[hk];decide);refine ArgG.mk (kh g.at_ hg.at_) rfl ?_;rintro _ rfl;refine ArgG.mk (aft (atF g.at_) (ma hg.at_) rfl rfl (azp hv (by decide))) rfl ?_;rintro _ rfl;refine RegG.via (fun _ h=>bc [4] 13 (.tp [isA (jh g.at_)] 0) (FzP.ptr (b:=⟨0,[isA (jh g.at_)],0,false⟩) (azc.2 rfl) rfl rfl rfl rfl (fun i h1 h2=>match i,h1 with|0,_=>FzP.pure rfl)) rfl h) (ay ?_);refine OpG.lk (LOp.makeFunc) (OpG.mk _ _ _ 5 (bg [(TOP,3)] arr (axb (csX x) (jh g.at_) (by omega) ⟨by have:=Fs (a:=g.at_);omega,fun _ _=>trivial⟩) rfl rfl rfl rfl ⟨ig ai,trivial⟩ ⟨d5 ai,trivial⟩ ⟨trivial,trivial⟩ rfl rfl rfl rfl rfl rfl) rfl rfl ?_);refine OpG.mk _ _ _ 6 (bg [(0,5)] Ng (L7 1 ((csX x).filter (kpB (jh g.at_))) ⟨by omega,fun _ _=>trivial⟩ (by omega)) rfl rfl rfl rfl trivial trivial ⟨c9 aq _ _,trivial⟩ rfl rfl rfl rfl (bv aq rfl) rfl) rfl rfl (ArgG.mk (kh g.at_ hg.at_) rfl ?_);rintro _ rfl;refine OpG.mk _ _ _ 7 (ah aq (l:=(jk 1 ((csX x).filter (kpB (jh g.at_))))) (a:=atF g.at_) underlying67 zv yr Bx rfl rfl rfl (am rfl rfl rfl rfl) rfl (by rw[d9];omega) (by rw[d9];omega) (by decide)) rfl rfl (RegG.via (fun _ h=>bc [5] 12 (.tree 11 ((jk 1 ((csX x).filter (kpB (jh g.at_)))++[atF g.at_]).map fmA)) (FzP.rows aq (azc.2 rfl) rfl) rfl h) ?_);refine ay (ArgG.mk (Tp 0 (jk 1 ((csX x).filter (kpB (jh g.at_)))++[atF g.at_]) (by(rw[azb,d9];simp only[azu,azv];omega)) (jm k9 (ma hg.at_))) rfl ?_);rintro _ ⟨y,rfl,hy,hd⟩;exact rtP rfl bu rfl ⟨y,0,rfl,hy,fmY (Ht h6 h3 ha (axj hb h0 hk hd))⟩
theorem IsSh.mono(h:IsSh d r):IsSh (d+1) r:=by
 induction h with
 |mk x h ha ih=>exact .mk x h ih
def aab{a:GEx}(h:IsEx (exA a)):FitEx a:=by obtain⟨y,e,hy⟩:=h.open_;rw[au e];exact hy
theorem yu(l:List PVar)(m:Int):∀a b:List (List AV),km l (a++b) m=(km l a m).bind fun x=>(km l b m).map (x++·)
 |[],b=>by simp[km]
 |r::a,b=>by
  simp only[List.cons_append,km,yu l m a b]
  cases trS l r m with
  |none=>rfl
  |some f=>
   simp only[az6]
   cases km l a m with
   |none=>rfl
   |some x=>
    simp only[az5,az6]
    cases km l b m with
    |none=>rfl
    |some y=>rfl
theorem Qx(l:List PVar)(m:Int)(r:List AV):km l [r] m=(trS l r m).map fun f=>[f]:=by
 simp only[km]
 cases trS l r m with
 |none=>rfl
 |some f=>rfl
section
variable{l:List PVar}{m:Int}{es:List (List AV)}{k:Nat}
def us(hk:k<es.length)(h:km l (es.take k) m=some (L.map fmA))(hf:trS l es[k] m=some (fmA f)):km l (es.take (k+1)) m=some ((L++[f]).map fmA):=by grind[azj,yu,Qx]
def ut(hk:k<es.length)(hf:trS l es[k] m=none):km l es m=none:=by have e:es=es.take k++([es[k]]++es.drop (k+1)):=(by rw[List.singleton_append,<-az3 hk,List.take_append_drop]);rw[e,yu,yu,Qx,hf];cases km l (es.take k) m<;>rfl
def kr(hk:¬k<es.length)(h:km l (es.take k) m=some (L.map fmA)):km l es m=some (L.map fmA):=by rwa [az0 (by omega)]at h
def al4(ho:x.op_=18\/x.op_=19)(h:km l x.b_ m=some (L.map fmA))(hk:(if(x.op_==18)=o9 m then(0:Int)else 1)=kd):trS l (exA x) m=some (fmA ⟨kd,zAt,L.map fmA⟩):=by rw[sw,azg ho,h,az5,hk]
def Qy(ho:x.op_=18\/x.op_=19)(h:km l x.b_ m=none):trS l (exA x) m=none:=by rw[sw,azg ho,h];rfl
theorem Yg(ho:x.op_=20)(ha:x.b_.length=1):trS l (exA x) m=trS l (x.b_[0]'(by omega)) (Ii m):=by obtain⟨r,hr⟩:=az4.1 ha;have e:x.b_[0]'(by omega)=r:=(by simp[hr]);rw[sw,azf (by omega),azg ho,e,hr,Qx];cases trS l r (Ii m)<;>rfl
def acd{a0:GEx}(ho:x.op_=17)(ha:x.b_=[exA a0])(hn:HasN (exA a0)):trS l (exA x) m=some (fmA (cnF (o9 m))):=by simp_all [sw]
def al5{a0:GEx}{y:GFm}(ho:x.op_=17)(ha:x.b_=[exA a0])(hn:¬HasN (exA a0))(hb:o9 m=b)(hy:lsF (if b=true then 1 else 0) ((jk (if b=true then 0 else 1) (srtU (bi [exA a0]))).map fmA)=fmA y):trS l (exA x) m=some (fmA y):=by rw[sw,azf (by omega),azf (by omega),azg ho,azf (by rintro⟨r,hr,h⟩;rw[ha,azc]at hr;subst hr;exact hn h),hb,ha,<-hy];cases b<;>simp[mj]
theorem Ir(ho:10<=x.op_/\x.op_<=16):trS l (exA x) m=cmO l x m:=by rw[sw,azf (by omega),azf (by omega),azf (by omega)];rfl
theorem U9(h:CondE l (exA x)):10<=x.op_/\x.op_<=20:=by
 generalize e:exA x=r at h
 cases h with
 |bin y h hl ha=>rw[au e];omega
 |not y h hl ha=>rw[au e];omega
 |isn y h hl ha=>rw[au e];omega
 |like y a b h ha hb ho _=>rw[au e];omega
 |cmp y a b h ha h0 h1 hs=>rw[au e];omega
theorem Vc(h:CondE l (exA x))(ho:x.op_=18\/x.op_=19):x.b_.length=2/\∀r∈x.b_,CondE l r:=by
 generalize e:exA x=r at h
 cases h with
 |bin y h hl ha=>rw[au e];exact⟨hl,ha⟩
 |not y h hl ha=>rw[au e]at ho;omega
 |isn y h hl ha=>rw[au e]at ho;omega
 |like y a b h ha hb ho' _=>rw[au e]at ho;omega
 |cmp y a b h ha h0 h1 hs=>rw[au e]at ho;omega
theorem Vb(h:CondE l (exA x))(ho:x.op_=20):x.b_.length=1/\∀r∈x.b_,CondE l r:=by
 generalize e:exA x=r at h
 cases h with
 |not y h hl ha=>rw[au e];exact⟨hl,ha⟩
 |bin y h hl ha=>rw[au e]at ho;omega
 |isn y h hl ha=>rw[au e]at ho;omega
 |like y a b h ha hb ho' _=>rw[au e]at ho;omega
 |cmp y a b h ha h0 h1 hs=>rw[au e]at ho;omega
theorem Vd(h:CondE l (exA x))(ho:x.op_=17):x.b_.length=1/\∀r∈x.b_,OpE l 11 r:=by
 generalize e:exA x=r at h
 cases h with
 |isn y h hl ha=>rw[au e];exact⟨hl,ha⟩
 |bin y h hl ha=>rw[au e]at ho;omega
 |not y h hl ha=>rw[au e]at ho;omega
 |like y a b h ha hb ho' _=>rw[au e]at ho;omega
 |cmp y a b h ha h0 h1 hs=>rw[au e]at ho;omega
theorem Va(h:CondE l (exA x))(ho:x.op_<=16):∃a0 a1,x.b_=[exA a0,exA a1]/\OpE l 11 (exA a0)/\(x.op_≠16->OpE l 11 (exA a1))/\(x.op_=16->a1.op_=1/\a1.k_.c_=2)/\(x.op_≠16->atu l a0 a1):=by
 generalize e:exA x=r at h
 cases h with
 |like y a b h ha hb h2 _=>rw[au e];exact⟨a,b,ha,h2,fun g=>absurd h g,fun _=>⟨hb.1,hb.2.1⟩,fun g=>absurd h g⟩
 |cmp y a b h ha h0 h1 hs=>rw[au e];exact⟨a,b,ha,h0,fun _=>h1,fun g=>by omega,fun _=>hs⟩
 |bin y h hl ha=>rw[au e]at ho;omega
 |not y h hl ha=>rw[au e]at ho;omega
 |isn y h hl ha=>rw[au e]at ho;omega
end
def Bt{η:bm} :FzP fp η (.agg [vI k,vI 0,vI 0,vI 0,vI 0,.v (.slice none 0 0),vI 0,vI 0,vB false,.v (.string ⟨#[]⟩),.tree 11 (L.map fmA)]) (.agg (fmA ⟨k,zAt,L.map fmA⟩)):=by have h:=wf (fp:=fp) (η:=η) (k:=k) (rs:=L.map fmA) (by simp[bz,AV.pureB]);simp only[fmA,fk]at h ⊢;exact h
theorem Uj(h0:L.length<=140737488355328)(h:∀x∈L,FitFm x):FitFm ⟨k,zAt,L.map fmA⟩:=⟨th,by show(L.map fmA).length<=_;rw[aze];exact h0,fun r hr=>by obtain⟨x,hx,rfl⟩:=azy.1 hr;exact yk (h x hx)⟩
def aet:cw prog 136=true:=by kernel_rfl
def sz32:aj prog 32=some 8:=by kernel_rfl
def atl:bp prog 32=some (.agg #[.int .i64 0,.string ⟨#[]⟩,.string ⟨#[]⟩,.int .i64 0,.int .i64 0,.int .i64 0,.string ⟨#[]⟩,.slice none 0 0]):=by kernel_rfl
def S8:PRet prog 180 [vI 0] (fun q=>q=vI 1):=ovT [5] [] func180 rfl rfl (OpG.lk (vi (u:=0) (r:=⟨[],[],vI 1,0⟩) rfl) (rV rfl rfl rfl))
def S7:PRet prog 180 [vI 1] (fun q=>q=vI 0):=ovT [5] [] func180 rfl rfl (OpG.lk (vi (u:=0) (r:=⟨[],[],vI 0,0⟩) rfl) (rV rfl rfl rfl))
def S6:PRet prog 180 [vI 2] (fun q=>q=vI 3):=ovT [5] [] func180 rfl rfl (OpG.lk (vi (u:=0) (r:=⟨[],[],vI 3,0⟩) rfl) (rV rfl rfl rfl))
def S5:PRet prog 180 [vI 3] (fun q=>q=vI 2):=ovT [5] [] func180 rfl rfl (OpG.lk (vi (u:=0) (r:=⟨[],[],vI 2,0⟩) rfl) (rV rfl rfl rfl))
def S4(m:Int)(hm:0<=m/\m<=3):PRet prog 180 [vI m] (fun q=>q=vI (Ii m)):=by obtain rfl|rfl|rfl|rfl:m=0\/m=1\/m=2\/m=3:=(by omega);exact S8;exact S7;exact S6;exact S5
def ahx(kd:Int)(vs:List Int)(h4:bq vs (fun y=>True))(hvl:vs.length<=100000):PRet prog 184 [vI kd,.tree 1 (vs.map iA)] (fun q=>q=.tree 11 ((jk kd vs).map fmA)):=by refine ovT [18] [] func184 rfl rfl (LenG.of ?_);refine LpG.via (fun _ h=>bl 5 11 rfl 1 rfl h) (LpG.on (fun k0:KL GFm=>(⟨fL [(0,vI kd),(5,.sl 0 k0.L.length 0 k0.L.length),(8,.tree 1 (vs.map iA)),(9,vI vs.length),(10,vI k0.k)],hLz [(0,⟨k0.L.length,rF fmA k0.L,11,Nat.beq k0.L.length 0⟩)],1⟩:St)) (fun k0=>(vs.length-k0.k)) (fun k0=>(k0.k<=vs.length/\(k0.L=jk kd (vs.take k0.k)/\k0.L.length=k0.k))) (⟨0,[]⟩:KL GFm) (cnS (by rfl) (hpS (ab aq _ _) (by rfl) trivial)) ⟨azk _,⟨rfl,rfl⟩⟩ ?_);rintro k0 h2;have hgr_k0:vs.length<=140737488355328:=h4.1;obtain⟨hle_k0,h0⟩:=h2;apply cL<;>intro h1;have hl2:=h0.2;refine IdxG.of ‹_› ?_;obtain⟨_,rfl,h3⟩:=kh (vAt kd vs[k0.k]) qt;refine OpG.lk (dc aes (.cons xo .nil) h3) (OpG.mk _ _ _ 2 (ah aq (a:=(atF (vAt kd vs[k0.k]))) underlying67 zv yr Bx rfl rfl rfl (am rfl rfl rfl rfl) rfl (by omega) (by omega) (by unfold TV;omega)) rfl rfl ?_);refine⟨by omega,⟨(⟨k0.k+1,k0.L++[(atF (vAt kd vs[k0.k]))]⟩:KL GFm),(nsA ‹_›),(cO (.cons rfl rfl (.cons (by(rw[azb];rfl)) rfl (.cons rfl rfl (.cons rfl rfl (.cons rfl rfl .nil))))) (.cons (by(rw[azb];rfl)) rfl (ab aq _ _) .nil)),?_⟩⟩;exact⟨‹_›,⟨by show _++[_]=_;rw[h0.1,azj h1];unfold jk;rw[azx];rfl,by show(_++[_]).length=_;rw[azb,h0.2];rfl⟩⟩;refine rtA rfl ⟨[0],FzP.rows aq (azc.2 rfl) rfl⟩ ?_;have e:=h0.1;rw[az0 (by omega)]at e;rw[e]
def Iq(x:GEx)(hx:FitEx x)(m:Int)(hm:0<=m/\m<=3)(l:List PVar)(hl:bq l (fun _=>True))(hc:CondE l (exA x))(hk:IsSh 12 (exA x))(ih:∀r∈x.b_,CondE l r->IsSh 12 r->∀m,(0<=m/\m<=3)->PRet prog 136 [.tp [.tree 5 (l.map vA)] 0,.agg (rwA r),vI m] (fun q=>∃(f:GFm) (e:Int),q=.tup [.agg (fmA f),vI e]/\FitFm f/\FmR (trS l r m) f e)):PRet prog 136 [.tp [.tree 5 (l.map vA)] 0,.agg (exA x),vI m] (fun q=>∃(f:GFm) (e:Int),q=.tup [.agg (fmA f),vI e]/\FitFm f/\FmR (trS l (exA x) m) f e):=by
 have hco:=U9 hc;obtain⟨d11,hd11,hsh0,h4⟩:=fx hk;obtain rfl:d11=11:=by omega
 have hh:∀r∈x.b_,IsSh 12 r:=fun r hr=>(h4 r hr).mono;refine ovT [58,80,88] [15,26] func136 rfl rfl (cE (fun h=>cE (fun _=>?_) fun _=>by omega) fun h=>cE (fun _=>?_) fun _=>?_);rotate_left 2
 ·refine cE (fun h=>?_) (fun h=>cE (fun h=>?_) fun h=>cE (fun _=>by omega) fun h=>?_)
  ·have h9:=Vb hc h;refine IdxG.of (j:=0) (by omega) (OpG.lk (ci n6 rfl (jd (hx.b_.2 _ (ay7 _)))) (ArgG.mk (S4 m hm) rfl ?_));rintro _ rfl;refine ArgG.mk (ih x.b_[0] (ay7 _) (h9.2 _ (ay7 _)) (hh _ (ay7 _)) (Ii m) (by unfold Ii;split<;>(try split)<;>(try split)<;>omega)) (by simp[bz,AV.pureB,kc (hx.b_.2 _ (ay7 _))]) ?_;rintro _ ⟨f4,e4,rfl,hn,ho⟩;exact⟨rfl,.inr rfl,_,dh rfl (afe.cellN f136 bu rfl rfl rfl rfl rfl ⟨[],FzP.pure rfl⟩) (afe.tmp ⟨[],FzP.pure rfl⟩),f4,e4,rfl,hn,by rw[Yg h h9.1];exact ho⟩
  ·have hl1:=(Vd hc h).1;obtain⟨a0,h3,ha⟩:=(hx.b_.2 (x.b_[0]'(by omega)) (ay7 _)).open_;have h5:x.b_=[exA a0]:=co (by omega) h3
   have hp:(bi [exA a0]).length<=4096:=by have h:=y5 (d:=11) (es:=[exA a0]) (fun r hr=>by rw[azc.1 hr];exact⟨ko ha,h4 _ (by rw[h5];simp)⟩);exact azp h (show 1*2^12<=4096 by decide)
   have hsl:=db (bi [exA a0]);refine cb (j:=0) (by omega) h3 (ArgG.mk (vg (exA a0) (ko ha)) rfl ?_);rintro _ ⟨bN,rfl,hi⟩;apply cB<;>intro h6;refine ArgG.mk (o8 m) rfl ?_;rintro _ rfl;refine ArgG.mk (sd ((o9 m))) rfl ?_;rintro _ rfl;exact rtP rfl bu rfl ⟨cnF (o9 m),0,rfl,fe,fmY (acd h h5 (hi.1 h6))⟩;refine ArgG.mk (o8 m) rfl ?_;rintro _ rfl;apply cB<;>intro hb
   all_goals
    refine cb (j:=0) (by omega) h3 (OpG.nw (cm (de underlying25 sz32 atl rfl rfl rfl rfl) (fun η' h=>ba (f:=exA) (l:=[a0]) (azc.2 rfl) h rfl rfl rfl rfl rfl (fun a _=>⟨rfl,rfl⟩))) rfl ?_)
    refine ArgG.mk (J6 [exA a0] ⟨by simp,fun r hr=>by rw[azc.1 hr];exact ko ha⟩ (azp hp (by decide))) rfl ?_
    rintro _ rfl
    refine ArgG.mk (ahx _ (srtU (bi [exA a0])) ⟨by omega,fun _ _=>trivial⟩ (by omega)) rfl ?_
    rintro _ rfl
    refine ArgG.mk (Tp _ _ (by rw[d9];omega) k9) rfl ?_
    rintro _ ⟨y,rfl,hy,hq⟩
    exact rtP rfl bu rfl ⟨y,0,rfl,hy,fmY (al5 h h5 (fun h=>by rw[hi.2 h]at h6;cases h6) hb hq)⟩
  have hd:10<=x.op_/\x.op_<=16:=by omega
  obtain⟨a0,a1,h5,hs,ht,_,_⟩:=Va hc hd.2;have m0:exA a0∈x.b_:=by rw[h5];simp
  have m1:exA a1∈x.b_:=by rw[h5];simp
  refine ay (ArgG.mk (Hq x hx m l hl a0 a1 (aab (hx.b_.2 _ m0)) (aab (hx.b_.2 _ m1)) h5 hd hs ht (h4 _ m0) (h4 _ m1)) rfl ?_);rintro _ ⟨f,e,rfl,hf,hr⟩;exact rtP rfl bu rfl ⟨f,e,rfl,hf,by rw[Ir hd];exact hr⟩
 all_goals
  have h9:=Vc hc (by omega)
  refine ArgG.mk (o8 m) rfl ?_
  rintro _ rfl
  refine⟨rfl,cB (fun h7=>?_) (fun h7=>?_)⟩
  all_goals
   refine LenG.of (LpG.via (fun _ h=>cn 2 10 11 rfl rfl rfl rfl rfl 4 rfl h) ?_)
   refine LpG.on (fun k1:KL GFm=>(⟨fL [(0,.tp [.tree 5 (l.map vA)] 0),(2,vI m),(6,.ptr 1 0 0),(8,.ptr 2 0 0),(27,.tree 8 (x.b_.map rwA)),(28,vI x.b_.length),(29,vI k1.k)],hLz [(1,⟨0,[vI 0,vI 0,vI 0,vI 0,vI 0,.v (.slice none 0 0),vI 0,vI 0,vB false,.v (.string ⟨#[]⟩),.v (.slice none 0 0)],0,false⟩),(2,⟨0,[vI _,vI 0,vI 0,vI 0,vI 0,.v (.slice none 0 0),vI 0,vI 0,vB false,.v (.string ⟨#[]⟩),.sl 3 k1.L.length 0 k1.L.length],0,false⟩),(3,⟨k1.L.length,rF fmA k1.L,11,Nat.beq k1.L.length 0⟩)],4⟩:St)) (fun k1=>(x.b_.length-k1.k)) (fun k1=>(k1.k<=x.b_.length/\(km l (x.b_.take k1.k) m=some (k1.L.map fmA)/\k1.L.length=k1.k/\∀y∈k1.L,FitFm y))) (⟨0,[]⟩:KL GFm) (cnS rfl (hpR rfl (hpR (by rfl) (hpS (ab aq _ _) (by rfl) trivial)))) ⟨azk _,⟨by simp[km],rfl,by simp⟩⟩ ?_
   rintro k1 ⟨hle_k1,h1,hu,hj⟩
   have hgr_k1:x.b_.length<=140737488355328:=hx.b_.1
   apply cL<;>intro h0
   ·obtain⟨x1,h2,hx1⟩:=(hx.b_.2 _ (ay7 h0)).open_
    have he:exA x1∈x.b_:=h2▸ay7 h0
    refine cb h0 h2 (ArgG.mk (ih (exA x1) he (h9.2 _ he) (hh _ he) m hm) rfl ?_)
    rintro _ ⟨f1,e1,rfl,hv,hg⟩
    apply cN<;>intro h8
    ·exact rtC rfl bu rfl ⟨[],i6⟩ ⟨cnF true,e1,rfl,fe,fmN (Qy (by omega) (ut h0 (by rw[h2];exact(hg.2 h8).1))) (hg.2 h8).2⟩
    refine OpG.mk _ _ _ 7 (ah aq (a:=f1) underlying67 zv yr Bx rfl rfl rfl (am rfl rfl rfl rfl) rfl (by omega) (by omega) (by unfold TV;omega)) rfl rfl ⟨by omega,⟨(⟨k1.k+1,k1.L++[f1]⟩:KL GFm),(nsA ‹_›),(cnS rfl (hpR rfl (.cons (by(rw[azb];rfl)) rfl rfl (.cons (by(rw[azb];rfl)) rfl (ab aq _ _) .nil)))),?_⟩⟩
    exact⟨‹_›,us h0 h1 (by rw[h2];exact hg.1 (by omega)),by show(_++[_]).length=_;rw[azb,hu];rfl,jm hj hv⟩
   refine RegG.via (fun _ h=>cz [3] 2 0 0 _ _ rfl rfl (.keep (.keep (.keep (.keep (.keep (.keep (.keep (.keep (.keep (.keep (.fz (FzP.rows aq (azc.2 rfl) rfl) (.same _)))))))))))) rfl h) (ay ?_)
   exact rtC rfl bu rfl ⟨[],Bt⟩ ⟨⟨_,zAt,k1.L.map fmA⟩,0,rfl,Uj (by omega) hj,fmY (al4 (by omega) (kr h0 h1) (by first|rw[azg (by simpa using h7)]|rw[azf (by simpa using h7)]))⟩
def zr(l:List PVar)(hl:bq l (fun _=>True))(r:List AV)(hr:IsEx r):CondE l r->IsSh 12 r->∀m,(0<=m/\m<=3)->PRet prog 136 [.tp [.tree 5 (l.map vA)] 0,.agg (rwA r),vI m] (fun q=>∃(f:GFm) (e:Int),q=.tup [.agg (fmA f),vI e]/\FitFm f/\FmR (trS l r m) f e):=IsEx.ind (M:=fun r=>CondE l r->IsSh 12 r->∀m,(0<=m/\m<=3)->PRet prog 136 [.tp [.tree 5 (l.map vA)] 0,.agg (rwA r),vI m] (fun q=>∃(f:GFm) (e:Int),q=.tup [.agg (fmA f),vI e]/\FitFm f/\FmR (trS l r m) f e)) (fun x hx ih hc hs m hm=>Iq x hx m hm l hl hc hs ih) hr
def B6(x:GEx)(hx:FitEx x)(l:List PVar)(hl:bq l (fun y=>True))(hc:CondE l (exA x))(h4:IsSh 12 (exA x)):PRet prog 79 [.agg (exA x),.tree 5 (l.map vA)] (fun q=>∃(f:GFm) (e:Int),q=.tup [.agg (fmA f),vI e]/\FitFm f/\FmR (trS l (exA x) 0) f e):=by
 refine ovT [10] [] func79 rfl rfl ?_;obtain⟨_,⟨f,e,rfl,hf,hr⟩,h0⟩:=zr l hl (exA x) (ko hx) hc h4 0 (by omega);refine OpG.mk _ _ _ 3 (iz [2] aet rfl (fun i h h'=>match i,h with|0,_=>FzP.ptr (b:=⟨0,[.tree 5 (l.map vA)],0,false⟩) (azc.2 rfl) rfl rfl rfl rfl (fun i h1 h2=>match i,h1 with|0,_=>FzP.pure rfl)|1,_=>FzP.pure rfl|2,_=>FzP.pure rfl) (fun id h3=>by simp at h3;rcases h3 with rfl;rfl) h0) rfl rfl ?_;first|refine rtP rfl bu rfl ?_
 exact⟨f,e,rfl,hf,hr⟩
def ol(x:GEx)(hx:FitEx x)(l:List PVar)(hl:bq l (fun y=>True))(hc:CondE l (exA x))(h4:IsSh 12 (exA x)):PRet prog 125 [.agg (exA x),.tree 5 (l.map vA)] (fun q=>∃(f:GFm) (e:Int),q=.tup [.agg (fmA f),vI e]/\FitFm f/\FmR (trS l (exA x) 2) f e):=by
 refine ovT [10] [] func125 rfl rfl ?_;obtain⟨_,⟨f,e,rfl,hf,hr⟩,h0⟩:=zr l hl (exA x) (ko hx) hc h4 2 (by omega);refine OpG.mk _ _ _ 3 (iz [2] aet rfl (fun i h h'=>match i,h with|0,_=>FzP.ptr (b:=⟨0,[.tree 5 (l.map vA)],0,false⟩) (azc.2 rfl) rfl rfl rfl rfl (fun i h1 h2=>match i,h1 with|0,_=>FzP.pure rfl)|1,_=>FzP.pure rfl|2,_=>FzP.pure rfl) (fun id h3=>by simp at h3;rcases h3 with rfl;rfl) h0) rfl rfl ?_;first|refine rtP rfl bu rfl ?_
 exact⟨f,e,rfl,hf,hr⟩
structure KI2 where
 k:Nat
 L:List Int
 put:Bool
def Cj(l:List Int)(n:Int):List Int:=l.filter (fun y=>decide (y<n))++[n]++l.filter (fun y=>decide (y>n))
theorem R1(l:List Int)(n:Int):Cj (srtU l) n=srtU (l++[n]):=by refine W8 ?_ qv fun y=>?_;unfold Cj;have h:=qv (l:=l);rw[List.append_assoc,List.pairwise_append,List.singleton_append,List.pairwise_cons];refine⟨h.filter _,⟨fun a ha=>?_,h.filter _⟩,fun a ha b hb=>?_⟩;have:=(List.mem_filter.1 ha).2;simpa using this;have h1:=(List.mem_filter.1 ha).2;simp only[az9]at h1;rcases azz.1 hb with rfl|hb;exact h1;have h2:=(List.mem_filter.1 hb).2;simp only[az9]at h2;omega;unfold Cj;rw[la,azd,azd,azd,List.mem_filter,List.mem_filter,azc,la];simp only[az9];by_cases h:y=n;subst h;simp;constructor;rintro((⟨h1,_⟩|h1)|⟨h1,_⟩);exact .inl h1;exact absurd h1 h;exact .inl h1;rintro(h1|h1);rcases Int.lt_or_gt_of_ne h with h2|h2;exact .inl (.inl ⟨h1,h2⟩);exact .inr ⟨h1,h2⟩;exact absurd h1 h
theorem pg{l:List Int}{k:Nat}(h:k<l.length):(l.take (k+1)).filter p=(l.take k).filter p++(if p l[k]=true then[l[k]]else[]):=by grind[azj]
def r8{l:List Int}{k:Nat}:((l.take k).filter p).length<=l.length:=azp (List.length_filter_le _ _) (by rw[List.length_take];omega)
theorem six{P:Nat->Prop}(h0:P 0)(h1:P 1)(h2:P 2)(h3:P 3)(h4:P 4)(h5:P 5):∀{j},j<6->P j
 |0,_=>h0|1,_=>h1|2,_=>h2|3,_=>h3|4,_=>h4|5,_=>h5
def anz(h:j<6)(ho:op=10+((j:Nat):Int)):[11,10,15,14,13,12][j]'h=sr op:=by subst ho;exact six (P:=fun j=>∀h:j<6,[11,10,15,14,13,12][j]'h=sr (10+((j:Nat):Int))) (fun _=>rfl) (fun _=>rfl) (fun _=>rfl) (fun _=>rfl) (fun _=>rfl) (fun _=>rfl) h h
def am6(h:j<6)(ho:op=10+((j:Nat):Int)):[10,11,14,15,12,13][j]'h=ye op:=by subst ho;exact six (P:=fun j=>∀h:j<6,[10,11,14,15,12,13][j]'h=ye (10+((j:Nat):Int))) (fun _=>rfl) (fun _=>rfl) (fun _=>rfl) (fun _=>rfl) (fun _=>rfl) (fun _=>rfl) h h
def aqz(h:j<6)(ho:op=10+((j:Nat):Int)):[(c==0),(c !=0),decide (c<0),decide (c<=0),decide (c>0),decide (c≥0)][j]'h=n7 op c:=by subst ho;exact six (P:=fun j=>∀h:j<6,[(c==0),(c !=0),decide (c<0),decide (c<=0),decide (c>0),decide (c≥0)][j]'h=n7 (10+((j:Nat):Int)) c) (fun _=>rfl) (fun _=>rfl) (fun _=>rfl) (fun _=>rfl) (fun _=>rfl) (fun _=>rfl) h h
theorem Qu(h:j<6)(ho:op=10+((j:Nat):Int))(hb:b=(op==11||op==14||op==15)):(⟨0,[0,0,2,3,3,2][j]'h,b,s⟩:PTest)=qk op s:=by subst ho;subst hb;exact six (P:=fun j=>∀h:j<6,(⟨0,[0,0,2,3,3,2][j]'h,((10+((j:Nat):Int))==11||(10+((j:Nat):Int))==14||(10+((j:Nat):Int))==15),s⟩:PTest)=qk (10+((j:Nat):Int)) s) (fun _=>rfl) (fun _=>rfl) (fun _=>rfl) (fun _=>rfl) (fun _=>rfl) (fun _=>rfl) h h
theorem aoy(h:j<4)(hm:m=((j:Nat):Int)):[1,0,3,2][j]'h=Ii m:=by
 subst hm;match j,h with
 |0,_=>rfl
 |1,_=>rfl
 |2,_=>rfl
 |3,_=>rfl
theorem amo:srtU []=[]:=az1 (Nat.le_zero.1 (db []))
def Ue{η:bm}:FzP fp η (.v (.slice none 0 0)) (isA (srtU [])):=by rw[amo];exact FzP.nil
theorem Fy{l:List α}{k:Nat}(a:List α)(h:k<l.length):a++l.take k++[l[k]]=a++l.take (k+1):=by rw[azj h,List.append_assoc]
theorem Sr(a b:List (List AV)):bi (a++b)=bi a++bi b:=by rw[dq,dq,dq,List.flatMap_append]
def Cl{l:List (List AV)}{k:Nat}(h:k<l.length):bi (l.take (k+1))=bi (l.take k)++dw l[k]:=by rw[azj h,Sr];simp only[bi,List.append_nil]
def Gp{l:List (List AV)}{k:Nat}:(bi (l.take k)).length<=(bi l).length:=by rw[dq,dq];exact vo _ _ _
def Ss{l:List (List AV)}{k:Nat}(h:k<l.length):(dw l[k]).length<=(bi l).length:=by rw[dq];exact zd dw (ay7 h)
def Lj(a b:List Int):srtU (a++srtU b)=srtU (a++b):=ow fun y=>by rw[azd,azd,la]
structure MkI(l:List Int)(v:Int)(s:KI2):Prop where
 no:s.put=false->s.L=l.take s.k/\∀y∈l.take s.k,y<v
 yes:s.put=true->s.L=Cj (l.take s.k) v/\∀y∈l.drop s.k,y > v
section
variable{l:List Int}{v:Int}{s:KI2}
def mk0:MkI l v ⟨0,[],false⟩:=⟨fun _=>⟨rfl,by simp⟩,fun h=>by cases(show false=true from h)⟩
theorem Uq{l:List Int}(h:∀y∈l,p y=true):l.filter p=l:=List.filter_eq_self.2 h
theorem adx{l:List Int}(h:∀y∈l,p y=false):l.filter p=[]:=List.filter_eq_nil_iff.2 fun y hy=>by rw[h y hy];decide
theorem R2{l:List Int}(h:∀y∈l,y<v):Cj l v=l++[v]:=by grind[Cj,Uq,adx]
theorem R4{a b:List Int}(hb:∀y∈b,y>v):Cj (a++b) v=Cj a v++b:=by unfold Cj;rw[List.filter_append,List.filter_append,adx (l:=b) (fun y hy=>by have:=hb y hy;simp;omega),Uq (l:=b) (fun y hy=>by simpa using hb y hy)];simp
theorem anh{a:List Int}:Cj (a++[v]) v=Cj a v:=by unfold Cj;rw[List.filter_append,List.filter_append];simp
def Nm(ha:l.Pairwise (·<·)){k:Nat}(hk:k<l.length):∀y∈l.drop (k+1),y>l[k]:=by grind[azs,List.pairwise_iff_getElem]
def mkA(h:MkI l v s)(hp:s.put=true)(hk:s.k<l.length):MkI l v ⟨s.k+1,s.L++[l[s.k]],true⟩:=by obtain⟨e,g⟩:=h.yes hp;have hg:=g l[s.k] (by rw[az3 hk];exact List.mem_cons_self);refine⟨fun h=>(by cases(show true=false from h)),fun _=>⟨?_,fun y hy=>g y (by rw[az3 hk];exact List.mem_cons_of_mem _ hy)⟩⟩;show s.L++[l[s.k]]=Cj (l.take (s.k+1)) v;rw[azj hk,R4 (by simpa using hg),e]
def mkB(h:MkI l v s)(hp:s.put=false)(hk:s.k<l.length)(hc:l[s.k]<v):MkI l v ⟨s.k+1,s.L++[l[s.k]],false⟩:=by obtain⟨e,g⟩:=h.no hp;refine⟨fun _=>⟨?_,?_⟩,fun h=>by cases(show false=true from h)⟩;show s.L++[l[s.k]]=_;rw[azj hk,e];intro y hy;have hy:y∈l.take (s.k+1):=hy;rw[azj hk]at hy;rcases azd.1 hy with hy|hy;exact g y hy;rw[azc.1 hy];exact hc
def mkC(ha:l.Pairwise (·<·))(h:MkI l v s)(hp:s.put=false)(hk:s.k<l.length)(hc:l[s.k]>v):MkI l v ⟨s.k+1,s.L++[v]++[l[s.k]],true⟩:=by obtain⟨e,g⟩:=h.no hp;refine⟨fun h=>(by cases(show true=false from h)),fun _=>⟨?_,fun y hy=>by have:=Nm ha hk y hy;omega⟩⟩;show s.L++[v]++[l[s.k]]=Cj (l.take (s.k+1)) v;rw[azj hk,R4 (by simpa using hc),R2 g,e]
def mkD(ha:l.Pairwise (·<·))(h:MkI l v s)(hp:s.put=false)(hk:s.k<l.length)(hc:l[s.k]=v):MkI l v ⟨s.k+1,s.L++[l[s.k]],true⟩:=by obtain⟨e,g⟩:=h.no hp;refine⟨fun h=>(by cases(show true=false from h)),fun _=>⟨?_,fun y hy=>by have:=Nm ha hk y hy;omega⟩⟩;show s.L++[l[s.k]]=Cj (l.take (s.k+1)) v;rw[azj hk,hc,anh,R2 g,e]
def mkA2(h:MkI l v s)(hp:s.put=true)(hk:s.k<l.length):MkI l v ⟨s.k+1,s.L++[l[s.k]],s.put⟩:=by rw[hp];exact mkA h hp hk
def mkB2(h:MkI l v s)(hp:s.put=false)(hk:s.k<l.length)(hc:l[s.k]<v):MkI l v ⟨s.k+1,s.L++[l[s.k]],s.put⟩:=by rw[hp];exact mkB h hp hk hc
def alr(h:¬(a.c_=2\/a.c_=3\/a.c_=4))(h2:a.c_=6\/a.c_=7):srtU ([]++[a.w_]++[a.p_])=jh a:=by rw[<-va_p h h2];exact ow fun y=>by simp[or_comm]
def va_2(h:¬(a.c_=2\/a.c_=3\/a.c_=4))(h2:¬(a.c_=6\/a.c_=7)):srtU ([]++[a.p_])=jh a:=va_1 h h2
def afw(h:a.c_=2\/a.c_=3\/a.c_=4):srtU (d7 (tmA a.o_))=jh a:=by rw[jh,azg h]
def mkE(h:MkI l v s)(hk:¬s.k<l.length)(hp:s.put=true):s.L=Cj l v:=by have:=(h.yes hp).1;rwa [az0 (by omega)]at this
def mkF(h:MkI l v s)(hk:¬s.k<l.length)(hp:s.put=false):s.L++[v]=Cj l v:=by obtain⟨e,g⟩:=h.no hp;rw[az0 (by omega)]at e g;rw[e,R2 g]
theorem adf(h:MkI l v s):s.L.length<=l.length+1+l.length:=by
 cases hp:s.put with
 |false=>rw[(h.no hp).1,List.length_take];omega
 |true=>
  rw[(h.yes hp).1];unfold Cj
  have h1:=r8 (p:=fun y=>decide (y<v)) (l:=l) (k:=s.k)
  have h2:=r8 (p:=fun y=>decide (y>v)) (l:=l) (k:=s.k)
  simp only[azb,azu,azv];omega
end
abbrev boA(b:Bool):List AV:=[.v (.bool b)]
def s9:cw prog 115=true:=by kernel_rfl
def aru:cw prog 173=true:=by kernel_rfl
def y4(op:Int)(ho:10<=op/\op<=15):PRet prog 111 [vI op] (fun r=>∃p:Int,r=vI p/\p=op-10):=ovT [] [] func111 rfl rfl (eu (ULp.step (cT ⟨(by first|assumption|omega|decide),cB (fun h0=>by have h1:(10:Int)=(op:Int):=(by simpa using h0);exact rV rfl rfl ⟨_,rfl,by omega⟩) (fun h0=>have h1:¬((10:Int)=(op:Int)):=(by simpa using h0);⟨by omega,ULp.step (cT ⟨(by first|assumption|omega|decide),cB (fun h0=>by have h1:(11:Int)=(op:Int):=(by simpa using h0);exact rV rfl rfl ⟨_,rfl,by omega⟩) (fun h0=>have h1:¬((11:Int)=(op:Int)):=(by simpa using h0);⟨by omega,ULp.step (cT ⟨(by first|assumption|omega|decide),cB (fun h0=>by have h1:(12:Int)=(op:Int):=(by simpa using h0);exact rV rfl rfl ⟨_,rfl,by omega⟩) (fun h0=>have h1:¬((12:Int)=(op:Int)):=(by simpa using h0);⟨by omega,ULp.step (cT ⟨(by first|assumption|omega|decide),cB (fun h0=>by have h1:(13:Int)=(op:Int):=(by simpa using h0);exact rV rfl rfl ⟨_,rfl,by omega⟩) (fun h0=>have h1:¬((13:Int)=(op:Int)):=(by simpa using h0);⟨by omega,ULp.step (cT ⟨(by first|assumption|omega|decide),cB (fun h0=>by have h1:(14:Int)=(op:Int):=(by simpa using h0);exact rV rfl rfl ⟨_,rfl,by omega⟩) (fun h0=>have h1:¬((14:Int)=(op:Int)):=(by simpa using h0);⟨by omega,ULp.step (cT ⟨(by first|assumption|omega|decide),cE (fun h1=>rV rfl rfl ⟨_,rfl,by omega⟩) (fun h1=>⟨by omega,ULp.step (cF (rV rfl rfl ⟨_,rfl,by omega⟩))⟩)⟩)⟩)⟩)⟩)⟩)⟩)⟩)⟩)⟩)⟩)⟩)))
def Je(op:Int)(ho:10<=op/\op<=15):PRet prog 118 [vI op] (fun q=>q=vI (sr op)):=by obtain⟨j,hj,h0⟩:∃j:Nat,op=10+((j:Nat):Int)/\j<6:=⟨(op-10).toNat,by omega,by omega⟩;refine ovT [3] [] func118 rfl rfl (OpG.nw (cm (de underlying53 sz3 zr3 rfl rfl rfl rfl) (fun η' h=>ba (f:=iA) (l:=[11,10,15,14,13,12]) (azc.2 rfl) h rfl rfl rfl rfl rfl (fun a _=>⟨rfl,rfl⟩))) rfl (ArgG.mk ((show PRet prog 111 [vI op] (fun r=>r=vI j)by obtain⟨_,⟨p,rfl,hp⟩,h⟩:=y4 op (by omega);exact⟨_,by rw[show p=((j:Nat):Int)by omega],h⟩)) rfl ?_));rintro _ rfl;exact IdxG.of ‹_› (rV rfl rfl (congrArg vI (anz h0 hj)))
def I6(op:Int)(ho:10<=op/\op<=15):PRet prog 123 [vI op] (fun q=>q=vI (ye op)):=by obtain⟨j,hj,h0⟩:∃j:Nat,op=10+((j:Nat):Int)/\j<6:=⟨(op-10).toNat,by omega,by omega⟩;refine ovT [3] [] func123 rfl rfl (OpG.nw (cm (de underlying53 sz3 zr3 rfl rfl rfl rfl) (fun η' h=>ba (f:=iA) (l:=[10,11,14,15,12,13]) (azc.2 rfl) h rfl rfl rfl rfl rfl (fun a _=>⟨rfl,rfl⟩))) rfl (ArgG.mk ((show PRet prog 111 [vI op] (fun r=>r=vI j)by obtain⟨_,⟨p,rfl,hp⟩,h⟩:=y4 op (by omega);exact⟨_,by rw[show p=((j:Nat):Int)by omega],h⟩)) rfl ?_));rintro _ rfl;exact IdxG.of ‹_› (rV rfl rfl (congrArg vI (am6 h0 hj)))
def aod(op:Int)(c:Int)(ho:10<=op/\op<=15):PRet prog 120 [vI op,vI c] (fun q=>q=vB (n7 op c)):=by obtain⟨j,hj,h0⟩:∃j:Nat,op=10+((j:Nat):Int)/\j<6:=⟨(op-10).toNat,by omega,by omega⟩;refine ovT [17] [] func120 rfl rfl (OpG.nw (cm (de underlying265 sz4 zr4 rfl rfl rfl rfl) (fun η' h=>ba (f:=boA) (l:=[(c==0),(c !=0),decide (c<0),decide (c<=0),decide (c>0),decide (c≥0)]) (azc.2 rfl) h rfl rfl rfl rfl rfl (fun a _=>⟨rfl,rfl⟩))) rfl (ArgG.mk ((show PRet prog 111 [vI op] (fun r=>r=vI j)by obtain⟨_,⟨p,rfl,hp⟩,h⟩:=y4 op (by omega);exact⟨_,by rw[show p=((j:Nat):Int)by omega],h⟩)) rfl ?_));rintro _ rfl;exact IdxG.of (by first|assumption|omega|decide|(show _<6;omega)|(show _<4;omega)) (rV rfl rfl (congrArg vB (aqz h0 hj)))
def Ot(m:Int)(hm:0<=m/\m<=3):PRet prog 65 [vI m] (fun q=>q=vI (Ii m)):=by obtain⟨j,hj,h0⟩:∃j:Nat,m=((j:Nat):Int)/\j<4:=⟨m.toNat,by omega,by omega⟩;refine ovT [3,5] [] func65 rfl rfl ?_;refine OpG.nw (cm (de underlying53 sz3 zr3 rfl rfl rfl rfl) (fun η' h=>ba (f:=iA) (l:=[1,0,3,2]) (azc.2 rfl) h rfl rfl rfl rfl rfl (fun a _=>⟨rfl,rfl⟩))) rfl ?_;refine OpG.lk (ae underlying53 sz3 rfl rfl hj (by show j<4;exact h0)) ?_;exact rV rfl rfl (congrArg vI (aoy h0 hj))
def m9(b:Bool):PRet prog 66 [vB b] (fun q=>q=.agg (fmA (cnF b))):=by refine ovT [] [] func66 rfl rfl (cB (fun h0=>?_) (fun h0=>?_));refine rtK rfl bu rfl ⟨[],i6⟩ ?_;(rw[show b=_ from h0];rfl);refine rtK rfl bu rfl ⟨[],i6⟩ ?_;(rw[show b=_ from h0];rfl)
def iw(a:GAt)(ha:FitAt a):PRet prog 115 [.agg (atA a)] (fun q=>q=.agg (fmA (atF a))):=ovT [] [] func115 rfl rfl (rtK rfl bu rfl ⟨[],Fd⟩ rfl)
def aid(kd:Int)(l:List (List AV))(hl:bq l (fun y=>IsFm y))(h1:bz [.tree 11 (l.map rwA)]=true):PRet prog 67 [vI kd,.tree 11 (l.map rwA)] (fun q=>q=.agg (rwA (lsF kd l))):=by refine ovT [] [] func67 rfl rfl (LenG.of ?_);apply cE<;>intro hq7;obtain⟨y,h0,hy⟩:=(hl.2 (l[0]'(by omega)) (ay7 _)).open_;refine cb (j:=0) (by omega) h0 (rtK rfl bu rfl ⟨[],FzP.pure rfl⟩ ?_);rw[Zo (by omega),h0];exact rtK rfl bu rfl ⟨[],wf h1⟩ (congrArg AV.agg (xx (by omega)).symm)
def Cq(kd:Int)(L:List GFm)(hl:L.length<=140737488355328)(hL:∀x∈L,FitFm x):PRet prog 67 [.v (.int .i64 kd),.tree 11 (L.map fmA)] (fun q=>∃y:GFm,q=.agg (fmA y)/\FitFm y/\lsF kd (L.map fmA)=fmA y):=by have hf:bq (L.map fmA) (fun y=>IsFm y):=⟨by rw[aze];exact hl,fun r hr=>by obtain⟨x,hx,rfl⟩:=azy.1 hr;exact yk (hL x hx)⟩;have h:=aid kd (L.map fmA) hf (by simp[bz,AV.pureB]);rw[fk]at h;obtain⟨q,rfl,h⟩:=h;obtain⟨y,e,hy⟩:=(D7 (k:=kd) hf).open_;exact⟨_,⟨y,by rw[e],hy,e⟩,h⟩
def ark(b:Bool):PRet prog 68 [vB b] (fun q=>q=vI (if b=true then 1 else 0)):=ovT [] [] func68 rfl rfl (cB (fun h0=>rV rfl rfl (congrArg vI (by(rw[azg h0];done)))) (fun h0=>rV rfl rfl (congrArg vI (by(rw[azf (by rw[h0];decide)];done)))))
def Z5(l:List Int)(hl:bq l (fun y=>True))(n:Int):PRet prog 73 [.tree 1 (l.map iA),vI n] (fun q=>q=vB (l.contains n)):=by refine ovT [] [] func73 rfl rfl (LpG.on (fun k0:Nat=>(⟨fL [(0,.tree 1 (l.map iA)),(1,vI n),(5,vI k0)],hLz [],0⟩:St)) (fun k0=>(l.length-k0)) (fun k0=>(k0<=l.length/\∀j (hl:j<l.length),j<k0->¬l[j]=n)) 0 (cnR rfl) ⟨azk _,fun j _ h=>absurd h (azl j)⟩ ?_);rintro k0 h2;have hgr_k0:l.length<=140737488355328:=hl.1;obtain⟨hle_k0,h1⟩:=h2;refine LenG.of (cL (fun h3=>?_) (fun hge9=>?_));refine IdxG.of ‹_› (cB (fun h0=>by have h4:(l[k0]:Int)=(n:Int):=(by simpa using h0);exact rV rfl rfl (congrArg vB (List.contains_iff_mem.2 (by rw[<-show l[k0]=n from by simpa using h0];exact ay7 h3)).symm)) (fun h0=>have h4:¬((l[k0]:Int)=(n:Int)):=(by simpa using h0);⟨by omega,⟨(k0+1),by omega,(cnR rfl),⟨by omega,fun j hl h=>?_⟩⟩⟩));rcases azn.1 h with h|rfl;exact h1 j hl h;simpa using h0;exact rV rfl rfl (congrArg vB (Eq.symm (by rw[Bool.eq_false_iff];intro h;obtain⟨j,hj,e⟩:=azs (List.contains_iff_mem.1 h);exact h1 j hj (by omega) e)))
def avg(l:List Int)(hl:bq l (fun y=>True))(n:Int)(hll:l.length<=4398046511104):PRet prog 116 [.tree 1 (l.map iA),vI n] (fun q=>q=isA (Cj l n)):=by
 refine ovT [] [] func116 rfl rfl (LpG.via (fun _ h=>bl 5 1 rfl 1 rfl h) (LpG.on (fun k0:KL Int=>(⟨fL [(0,.tree 1 (l.map iA)),(1,vI n),(5,.sl 0 k0.L.length 0 k0.L.length),(6,vI k0.k)],hLz [(0,⟨k0.L.length,rF iA k0.L,1,Nat.beq k0.L.length 0⟩)],1⟩:St)) (fun k0=>(l.length-k0.k)) (fun k0=>(k0.k<=l.length/\(k0.L=(l.take k0.k).filter (fun y=>decide (y<n))))) (⟨0,[]⟩:KL Int) (cnS (by rfl) (hpS (ab ai _ _) (by rfl) trivial)) ⟨azk _,rfl⟩ ?_));rintro k0 h6;have hgr_k0:l.length<=140737488355328:=hl.1
 obtain⟨hle_k0,h0⟩:=h6;refine LenG.of (cL (fun h4=>?_) (fun hge11=>?_))
 ·have h9:k0.L.length<=l.length:=by rw[h0];exact r8
  refine IdxG.of ‹_› (cB (fun h2=>?_) (fun h2=>?_))
  ·have h7:=azi h2;refine IdxG.of ‹_› (OpG.mk _ _ _ 2 (ah ai (a:=(l[k0.k])) underlying53 sz3 zr3 by3 rfl rfl rfl (am rfl rfl rfl rfl) rfl (by omega) (by omega) (by unfold TV;omega)) rfl rfl ?_);refine⟨by omega,⟨(⟨k0.k+1,k0.L++[(l[k0.k])]⟩:KL Int),(nsA ‹_›),(cO (.cons rfl rfl (.cons rfl rfl (.cons (by(rw[azb];rfl)) rfl (.cons rfl rfl .nil)))) (.cons (by(rw[azb];rfl)) rfl (ab ai _ _) .nil)),⟨‹_›,?_⟩⟩⟩;(show _++[_]=_;rw[pg h4,<-h0,azg (by simpa using h2)];done)
  have h7:=azh h2;refine⟨by omega,⟨(⟨k0.k+1,k0.L⟩:KL Int),(nsA ‹_›),(cnS (by rfl) (hpS (ab ai _ _) (by rfl) trivial)),⟨‹_›,?_⟩⟩⟩;(show k0.L=_;rw[pg h4,<-h0,azf (by simpa using h2),List.append_nil];done)
 have h9:k0.L.length<=l.length:=by rw[h0];exact r8
 refine OpG.mk _ _ _ 2 (ah ai (a:=n) underlying53 sz3 zr3 by3 rfl rfl rfl (am rfl rfl rfl rfl) rfl (by omega) (by omega) (by unfold TV;omega)) rfl rfl (LpG.on (fun k2:KL Int=>(⟨fL [(0,.tree 1 (l.map iA)),(1,vI n),(5,.sl 0 k2.L.length 0 k2.L.length),(7,vI k2.k)],hLz [(0,⟨k2.L.length,rF iA k2.L,1,Nat.beq k2.L.length 0⟩)],2⟩:St)) (fun k2=>(l.length-k2.k)) (fun k2=>(k2.k<=l.length/\(k2.L=k0.L++[n]++(l.take k2.k).filter (fun y=>decide (y>n))))) (⟨0,k0.L++[n]⟩:KL Int) (cO (.cons rfl rfl (.cons rfl rfl (.cons (by(rw[azb];rfl)) rfl (.cons rfl rfl .nil)))) (.cons (by(rw[azb];rfl)) rfl (ab ai _ _) .nil)) ⟨azk _,(by simp)⟩ ?_);rintro k2 h6;have hgr_k2:l.length<=140737488355328:=hl.1
 obtain⟨hle_k2,h1⟩:=h6;refine LenG.of (cL (fun h5=>?_) (fun hge34=>?_))
 ·have hl1:k2.L.length<=l.length+1+l.length:=by rw[h1,azb,azb];have h:=r8 (p:=fun y=>decide (y>n)) (l:=l) (k:=k2.k);simp only[azu,azv];omega
  refine IdxG.of ‹_› (cB (fun h3=>?_) (fun h3=>?_))
  ·have h8:=azi h3;refine IdxG.of ‹_› (OpG.mk _ _ _ 3 (ah ai (a:=(l[k2.k])) underlying53 sz3 zr3 by3 rfl rfl rfl (am rfl rfl rfl rfl) rfl (by omega) (by omega) (by unfold TV;omega)) rfl rfl ?_);refine⟨by omega,⟨(⟨k2.k+1,k2.L++[(l[k2.k])]⟩:KL Int),(nsA ‹_›),(cO (.cons rfl rfl (.cons rfl rfl (.cons (by(rw[azb];rfl)) rfl (.cons rfl rfl .nil)))) (.cons (by(rw[azb];rfl)) rfl (ab ai _ _) .nil)),⟨‹_›,?_⟩⟩⟩;(show _++[_]=_;rw[pg h5,h1,azg (by simpa using h3)];simp;done)
  have h8:=azh h3;refine⟨by omega,⟨(⟨k2.k+1,k2.L⟩:KL Int),(nsA ‹_›),(cnS (by rfl) (hpS (ab ai _ _) (by rfl) trivial)),⟨‹_›,?_⟩⟩⟩;(show k2.L=_;rw[pg h5,h1,azf (by simpa using h3),List.append_nil];done)
 refine rtA rfl ⟨[0],FzP.rows ai (azc.2 rfl) rfl⟩ (have e1:=h0;have e2:=h1;?_);rw[az0 (by omega)]at e1 e2;rw[e2,e1];rfl
theorem xg{l:List GPart}{k:Nat}(h:k<l.length):(l.take (k+1)).flatMap lm=(l.take k).flatMap lm++lm l[k]:=Hk lm h
def Ul{l:List GPart}{k:Nat}(h:k<l.length):((l.take k).flatMap lm).length+(lm l[k]).length<=(l.flatMap lm).length:=by have h1:=vo lm l (k+1);rw[xg h,azb]at h1;exact h1
def mkN{l:List GPart}{m:List Int}{k:Nat}{L M:List Int}(hL:L=srtU (m++(l.take k).flatMap lm))(h:k<l.length)(hv:lm l[k]=[v])(hM:M=Cj L v):M=srtU (m++(l.take (k+1)).flatMap lm):=by rw[hM,hL,R1,xg h,hv,List.append_assoc]
def acy(l m:List Int)(n:Int)(hm:l=srtU m)(hb:m.length<=4398046511104):PRet prog 116 [isA l,.v (.int .i64 n)] (fun q=>q=isA (srtU (m++[n]))):=by have hl:l.length<=4398046511104:=(by rw[hm];exact azp (db m) hb);have h:=avg l ⟨by omega,fun _ _=>trivial⟩ n hl;rwa [hm,R1,<-hm]at h
def Pa(x:GEx)(hx:FitEx x)(he:(dw (exA x)).length<=1099511627776)(ih:∀r∈x.b_,(dw r).length<=1099511627776->PRet prog 70 [.agg (rwA r)] (fun q=>q=isA (srtU (dw r)))):PRet prog 70 [.agg (exA x)] (fun q=>q=isA (srtU (dw (exA x)))):=by
 rw[dg,azb]at he
 refine ovT [25] [2] func70 rfl rfl (RegG.via (fun _ h=>bc [] 3 (isA (srtU ([]:List Int))) Ue rfl h) ?_)
 refine ay (cE (fun hf=>?_) (fun hf=>?_))
 ·skip -- isC T
  refine ArgG.mk (acy (srtU ([]:List Int)) ([]:List Int) x.j_ rfl (azk _)) rfl ?_
  rintro _ rfl
  refine LpG.on (fun k0:KL Int=>(⟨fL [(1,.ptr 0 0 0),(3,.tree 1 (k0.L.map iA)),(4,vI k0.k)],hLz [(0,⟨0,exA x,0,false⟩)],1⟩:St)) (fun k0=>(x.b_.length-k0.k)) (fun k0=>(k0.k<=x.b_.length/\(k0.L=srtU (([]++[x.j_])++bi (x.b_.take k0.k))))) (⟨0,srtU ([]++[x.j_])⟩:KL Int) (cnR rfl) ⟨azk _,(by simp[bi])⟩ ?_
  rintro k0 h6
  have h8:x.b_.length<=140737488355328:=hx.b_.1
  obtain⟨h9,h0⟩:=h6
  refine LenG.of (cL (fun h4=>?_) (fun hb=>?_))
  ·have hg:=Ss h4
   refine IdxG.of ‹_› (OpG.lk (ci n6 rfl (jd (hx.b_.2 _ (ay7 _)))) ?_)
   refine ArgG.mk (ih x.b_[k0.k] (ay7 _) (by omega)) (show bz [.agg (rwA x.b_[k0.k])]=true by simp[bz,AV.pureB,kc (hx.b_.2 _ (ay7 _))]) ?_
   rintro _ rfl
   refine LpG.on (fun k2:KL Int=>(⟨fL [(1,.ptr 0 0 0),(3,.tree 1 (k2.L.map iA)),(4,vI k0.k),(5,.tree 1 (((srtU (dw x.b_[k0.k]))).map iA)),(6,vI k2.k)],hLz [(0,⟨0,exA x,0,false⟩)],1⟩:St)) (fun k2=>(((srtU (dw x.b_[k0.k]))).length-k2.k)) (fun k2=>(k2.k<=((srtU (dw x.b_[k0.k]))).length/\(k2.L=srtU (([]++[x.j_])++bi (x.b_.take k0.k)++(srtU (dw x.b_[k0.k])).take k2.k)))) (⟨0,k0.L⟩:KL Int) (cnR rfl) ⟨azk _,(by rw[List.take_zero,List.append_nil];exact h0)⟩ ?_
   rintro k2 h6
   obtain⟨ha,h5⟩:=h6
   refine LenG.of (cL (fun h7=>?_) (fun hc=>?_))
   ·have hd:=db (dw x.b_[k0.k])
    refine IdxG.of ‹_› (ArgG.mk (acy k2.L (([]++[x.j_])++bi (x.b_.take k0.k)++(srtU (dw x.b_[k0.k])).take k2.k) (srtU (dw x.b_[k0.k]))[k2.k] h5 (by have h1:=Gp (l:=x.b_) (k:=k0.k);have h2:=db (dw x.b_[k0.k]);have h3:((srtU (dw x.b_[k0.k])).take k2.k).length<=(srtU (dw x.b_[k0.k])).length:=(by rw[List.length_take];omega);simp only[azb,azu,azv];omega)) rfl ?_)
    rintro _ rfl
    refine⟨by omega,⟨(⟨k2.k+1,(srtU ((([]++[x.j_])++bi (x.b_.take k0.k)++(srtU (dw x.b_[k0.k])).take k2.k)++[(srtU (dw x.b_[k0.k]))[k2.k]]))⟩:KL Int),(by show((srtU (dw x.b_[k0.k]))).length-(k2.k+1)<((srtU (dw x.b_[k0.k]))).length-k2.k;omega),(cnR rfl),?_⟩⟩
    refine⟨‹_›,?_⟩
    show srtU _=srtU _;rw[Fy _ h7]
   refine⟨by omega,⟨(⟨k0.k+1,k2.L⟩:KL Int),(nsA ‹_›),(cnR rfl),?_⟩⟩
   refine⟨‹_›,?_⟩
   show k2.L=_;rw[h5,az0 (show(srtU (dw x.b_[k0.k])).length<=k2.k by omega),Lj,Cl h4,List.append_assoc]
  refine rV rfl rfl ?_
  rw[h0,az0 (by omega),dg]
  (rw[azg ‹_›];rfl)
 skip -- isC F
 refine LpG.on (fun k0:KL Int=>(⟨fL [(1,.ptr 0 0 0),(3,.tree 1 (k0.L.map iA)),(4,vI k0.k)],hLz [(0,⟨0,exA x,0,false⟩)],1⟩:St)) (fun k0=>(x.b_.length-k0.k)) (fun k0=>(k0.k<=x.b_.length/\(k0.L=srtU (([]:List Int)++bi (x.b_.take k0.k))))) (⟨0,srtU ([]:List Int)⟩:KL Int) (cnR rfl) ⟨azk _,(by simp[bi])⟩ ?_
 rintro k0 h6
 have h8:x.b_.length<=140737488355328:=hx.b_.1
 obtain⟨h9,h0⟩:=h6
 refine LenG.of (cL (fun h4=>?_) (fun hb=>?_))
 ·have hg:=Ss h4
  refine IdxG.of ‹_› (OpG.lk (ci n6 rfl (jd (hx.b_.2 _ (ay7 _)))) ?_)
  refine ArgG.mk (ih x.b_[k0.k] (ay7 _) (by omega)) (show bz [.agg (rwA x.b_[k0.k])]=true by simp[bz,AV.pureB,kc (hx.b_.2 _ (ay7 _))]) ?_
  rintro _ rfl
  refine LpG.on (fun k2:KL Int=>(⟨fL [(1,.ptr 0 0 0),(3,.tree 1 (k2.L.map iA)),(4,vI k0.k),(5,.tree 1 (((srtU (dw x.b_[k0.k]))).map iA)),(6,vI k2.k)],hLz [(0,⟨0,exA x,0,false⟩)],1⟩:St)) (fun k2=>(((srtU (dw x.b_[k0.k]))).length-k2.k)) (fun k2=>(k2.k<=((srtU (dw x.b_[k0.k]))).length/\(k2.L=srtU (([]:List Int)++bi (x.b_.take k0.k)++(srtU (dw x.b_[k0.k])).take k2.k)))) (⟨0,k0.L⟩:KL Int) (cnR rfl) ⟨azk _,(by rw[List.take_zero,List.append_nil];exact h0)⟩ ?_
  rintro k2 h6
  obtain⟨ha,h5⟩:=h6
  refine LenG.of (cL (fun h7=>?_) (fun hc=>?_))
  ·have hd:=db (dw x.b_[k0.k])
   refine IdxG.of ‹_› (ArgG.mk (acy k2.L (([]:List Int)++bi (x.b_.take k0.k)++(srtU (dw x.b_[k0.k])).take k2.k) (srtU (dw x.b_[k0.k]))[k2.k] h5 (by have h1:=Gp (l:=x.b_) (k:=k0.k);have h2:=db (dw x.b_[k0.k]);have h3:((srtU (dw x.b_[k0.k])).take k2.k).length<=(srtU (dw x.b_[k0.k])).length:=(by rw[List.length_take];omega);simp only[azb,azu,azv];omega)) rfl ?_)
   rintro _ rfl
   refine⟨by omega,⟨(⟨k2.k+1,(srtU ((([]:List Int)++bi (x.b_.take k0.k)++(srtU (dw x.b_[k0.k])).take k2.k)++[(srtU (dw x.b_[k0.k]))[k2.k]]))⟩:KL Int),(by show((srtU (dw x.b_[k0.k]))).length-(k2.k+1)<((srtU (dw x.b_[k0.k]))).length-k2.k;omega),(cnR rfl),?_⟩⟩
   refine⟨‹_›,?_⟩
   show srtU _=srtU _;rw[Fy _ h7]
  refine⟨by omega,⟨(⟨k0.k+1,k2.L⟩:KL Int),(nsA ‹_›),(cnR rfl),?_⟩⟩
  refine⟨‹_›,?_⟩
  show k2.L=_;rw[h5,az0 (show(srtU (dw x.b_[k0.k])).length<=k2.k by omega),Lj,Cl h4,List.append_assoc]
 refine rV rfl rfl ?_
 rw[h0,az0 (by omega),dg]
 (rw[azf ‹_›];rfl)
def xj(r:List AV)(hr:IsEx r):(dw r).length<=1099511627776->PRet prog 70 [.agg (rwA r)] (fun q=>q=isA (srtU (dw r))):=IsEx.ind (M:=fun r=>(dw r).length<=1099511627776->PRet prog 70 [.agg (rwA r)] (fun q=>q=isA (srtU (dw r)))) (fun x hx ih ho=>Pa x hx ho ih) hr
def ao3(x:GTm)(hx:FitTm x)(l:List Int)(hl:bq l (fun y=>True))(m:List Int)(hm:l=srtU m)(hb:m.length+(d7 (tmA x)).length<=1099511627776)(ih:∀p∈x.a_,∀r∈p.of_,∀l m:List Int,l=srtU m->m.length+(d7 r).length<=1099511627776->PRet prog 173 [.agg (rwA r),isA l] (fun q=>q=isA (srtU (m++d7 r)))):PRet prog 173 [.agg (tmA x),.tree 1 (l.map iA)] (fun q=>q=isA (srtU (m++d7 (tmA x)))):=by
 rw[dj]at hb
 refine ovT [] [19] func173 rfl rfl (LpG.on (fun k0:KL Int=>(⟨fL [(1,.tree 1 (k0.L.map iA)),(2,.ptr 0 0 0),(5,vI k0.k)],hLz [(0,⟨0,tmA x,0,false⟩)],1⟩:St)) (fun k0=>(x.a_.length-k0.k)) (fun k0=>(k0.k<=x.a_.length/\(k0.L=srtU (m++(x.a_.take k0.k).flatMap lm)))) (⟨0,l⟩:KL Int) (cnR rfl) ⟨azk _,(by simpa using hm)⟩ ?_)
 rintro k0 ha
 have hgr_k0:x.a_.length<=140737488355328:=hx.a_.1
 obtain⟨hle_k0,h3⟩:=ha
 refine LenG.of (cL (fun h2=>?_) (fun hge14=>?_))
 ·refine IdxG.of ‹_› (cE (fun h6=>?_) (fun h6=>?_))
  ·have hi:0<x.a_[k0.k].of_.length:=by have:=(hx.a_.2 _ (ay7 h2)).kd.2.1 h6;omega
   obtain⟨y0,h9,hy0⟩:=((hx.a_.2 _ (ay7 h2)).of_.2 (x.a_[k0.k].of_[0]) (ay7 hi)).open_
   have hkd:=(hx.a_.2 _ (ay7 h2)).kd.2.1 h6
   have hf:x.a_[k0.k].of_=[tmA y0]:=co (by omega) h9
   have hg:lm x.a_[k0.k]=d7 (tmA y0):=by unfold lm;rw[azg h6,hf];simp only[ve]
   refine cb (j:=0) ‹_› h9 (ArgG.mk (ih x.a_[k0.k] (ay7 _) (tmA y0) (by rw[hf];simp) k0.L (m++(x.a_.take k0.k).flatMap lm) h3 (by rw[azb];have h1:=Ul h2;rw[hg]at h1;omega)) rfl ?_)
   rintro _ rfl
   refine⟨by omega,⟨(⟨k0.k+1,(srtU (m++(x.a_.take k0.k).flatMap lm++d7 (tmA y0)))⟩:KL Int),(nsA ‹_›),(cnR rfl),?_⟩⟩
   refine⟨‹_›,?_⟩
   (show srtU _=srtU _;rw[xg h2,hg,List.append_assoc];done)
  have hh:lm x.a_[k0.k]=[x.a_[k0.k].p_]:=by unfold lm;rw[azf h6]
  have hll:k0.L.length<=1099511627776:=by rw[h3];refine azp (db _) ?_;rw[azb];have h1:=vo lm x.a_ k0.k;omega
  have hc:k0.L.Pairwise (·<·):=by rw[h3];exact qv
  refine LpG.via (fun _ h=>bl 7 1 rfl 3 rfl h) (LpG.on (fun k2:KI2=>(⟨fL [(1,.tree 1 (k0.L.map iA)),(2,.ptr 0 0 0),(5,vI k0.k),(6,.ptr 1 0 0),(7,.sl 2 k2.L.length 0 k2.L.length),(8,vB k2.put),(9,vI k2.k)],hLz [(0,⟨0,tmA x,0,false⟩),(1,⟨0,ptA x.a_[k0.k],0,false⟩),(2,⟨k2.L.length,rF iA k2.L,1,Nat.beq k2.L.length 0⟩)],3⟩:St)) (fun k2=>(k0.L.length-k2.k)) (fun k2=>(k2.k<=k0.L.length/\MkI k0.L x.a_[k0.k].p_ k2)) (⟨0,[],false⟩:KI2) (cnS (by rfl) (hpR rfl (hpR rfl (hpS (ab ai _ _) (by rfl) trivial)))) ⟨azk _,mk0⟩ ?_)
  rintro k2 ha
  obtain⟨hle_k2,h0⟩:=ha
  refine LenG.of (cL (fun h4=>?_) (fun h5=>?_))
  ·have hj:=adf h0
   apply cB<;>intro h7
   ·refine IdxG.of ‹_› ⟨by kernel_rfl,cD (fun he=>?_) (fun he=>?_)⟩
    ·refine IdxG.of ‹_› ⟨by kernel_rfl,cD (fun hd=>?_) (fun hd=>?_)⟩
     ·refine OpG.mk _ _ _ 4 (ah ai (a:=(x.a_[k0.k].p_)) underlying53 sz3 zr3 by3 rfl rfl rfl (am rfl rfl rfl rfl) rfl (by omega) (by omega) (by unfold TV;omega)) rfl rfl (IdxG.of ‹_› ?_)
      refine OpG.mk _ _ _ 5 (ah ai (a:=(k0.L[k2.k])) underlying53 sz3 zr3 by3 rfl rfl rfl (am rfl rfl rfl rfl) rfl (by(simp only[azb,azu,azv];omega)) (by(simp only[azb,azu,azv];omega)) (by unfold TV;omega)) rfl rfl ⟨by omega,⟨(⟨k2.k+1,k2.L++[(x.a_[k0.k].p_)]++[(k0.L[k2.k])],true⟩:KI2),(nsA ‹_›),(cO (.cons rfl rfl (.cons rfl rfl (.cons rfl rfl (.cons rfl rfl (.cons (by(rw[azb,azb,azb];rfl)) rfl (.cons rfl rfl (.cons rfl rfl .nil))))))) (.cons rfl rfl rfl (.cons rfl rfl rfl (.cons (by(rw[azb,azb,azb];rfl)) rfl (ab ai _ _) .nil)))),?_⟩⟩
      exact⟨‹_›,mkC hc h0 (by simpa using h7) h4 hd⟩
     refine IdxG.of ‹_› (OpG.mk _ _ _ 4 (ah ai (a:=(k0.L[k2.k])) underlying53 sz3 zr3 by3 rfl rfl rfl (am rfl rfl rfl rfl) rfl (by omega) (by omega) (by unfold TV;omega)) rfl rfl ?_)
     refine⟨by omega,⟨(⟨k2.k+1,k2.L++[(k0.L[k2.k])],true⟩:KI2),(nsA ‹_›),(cO (.cons rfl rfl (.cons rfl rfl (.cons rfl rfl (.cons rfl rfl (.cons (by(rw[azb];rfl)) rfl (.cons rfl rfl (.cons rfl rfl .nil))))))) (.cons rfl rfl rfl (.cons rfl rfl rfl (.cons (by(rw[azb];rfl)) rfl (ab ai _ _) .nil)))),?_⟩⟩
     exact⟨‹_›,mkD hc h0 (by simpa using h7) h4 (by omega)⟩
    refine IdxG.of ‹_› (OpG.mk _ _ _ 4 (ah ai (a:=(k0.L[k2.k])) underlying53 sz3 zr3 by3 rfl rfl rfl (am rfl rfl rfl rfl) rfl (by omega) (by omega) (by unfold TV;omega)) rfl rfl ?_)
    refine⟨by omega,⟨(⟨k2.k+1,k2.L++[(k0.L[k2.k])],k2.put⟩:KI2),(nsA ‹_›),(cO (.cons rfl rfl (.cons rfl rfl (.cons rfl rfl (.cons rfl rfl (.cons (by(rw[azb];rfl)) rfl (.cons rfl rfl (.cons rfl rfl .nil))))))) (.cons rfl rfl rfl (.cons rfl rfl rfl (.cons (by(rw[azb];rfl)) rfl (ab ai _ _) .nil)))),?_⟩⟩
    exact⟨‹_›,mkB2 h0 (by simpa using h7) h4 (by omega)⟩
   refine⟨by kernel_rfl,cF ?_⟩
   refine IdxG.of ‹_› (OpG.mk _ _ _ 4 (ah ai (a:=(k0.L[k2.k])) underlying53 sz3 zr3 by3 rfl rfl rfl (am rfl rfl rfl rfl) rfl (by omega) (by omega) (by unfold TV;omega)) rfl rfl ?_)
   refine⟨by omega,⟨(⟨k2.k+1,k2.L++[(k0.L[k2.k])],k2.put⟩:KI2),(nsA ‹_›),(cO (.cons rfl rfl (.cons rfl rfl (.cons rfl rfl (.cons rfl rfl (.cons (by(rw[azb];rfl)) rfl (.cons rfl rfl (.cons rfl rfl .nil))))))) (.cons rfl rfl rfl (.cons rfl rfl rfl (.cons (by(rw[azb];rfl)) rfl (ab ai _ _) .nil)))),?_⟩⟩
   exact⟨‹_›,mkA2 h0 (by simpa using h7) h4⟩
  have hj:=adf h0
  apply cB<;>intro h8
  ·skip -- mkT
   refine OpG.mk _ _ _ 4 (ah ai (a:=(x.a_[k0.k].p_)) underlying53 sz3 zr3 by3 rfl rfl rfl (am rfl rfl rfl rfl) rfl (by omega) (by omega) (by unfold TV;omega)) rfl rfl (RegG.via (fun _ h=>bc [2] 7 (isA (k2.L++[x.a_[k0.k].p_])) (FzP.rows ai (azc.2 rfl) rfl) rfl h) ?_)
   refine ay ⟨by omega,⟨(⟨k0.k+1,(k2.L++[x.a_[k0.k].p_])⟩:KL Int),(nsA ‹_›),(cnR rfl),?_⟩⟩
   exact⟨‹_›,mkN h3 h2 hh (by first|exact mkE h0 h5 (by simpa using h8)|exact mkF h0 h5 (by simpa using h8))⟩
  skip -- mkF
  refine RegG.via (fun _ h=>bc [2] 7 (isA k2.L) (FzP.rows ai (azc.2 rfl) rfl) rfl h) (ay ?_)
  refine⟨by omega,⟨(⟨k0.k+1,k2.L⟩:KL Int),(nsA ‹_›),(cnR rfl),?_⟩⟩
  exact⟨‹_›,mkN h3 h2 hh (by first|exact mkE h0 h5 (by simpa using h8)|exact mkF h0 h5 (by simpa using h8))⟩
 exact rtA rfl ⟨[],FzP.pure rfl⟩ (congrArg isA (by rw[h3,az0 (by omega),dj]))
def ao4(r:List AV)(hr:IsTm r):∀l m:List Int,l=srtU m->m.length+(d7 r).length<=1099511627776->PRet prog 173 [.agg (rwA r),isA l] (fun q=>q=isA (srtU (m++d7 r))):=IsTm.ind (M:=fun r=>∀l m:List Int,l=srtU m->m.length+(d7 r).length<=1099511627776->PRet prog 173 [.agg (rwA r),isA l] (fun q=>q=isA (srtU (m++d7 r)))) (fun x hx ih l m hm hb=>ao3 x hx l ⟨by rw[hm];have:=db m;omega,fun _ _=>trivial⟩ m hm hb ih) hr
def Dm(x:GTm)(hx:FitTm x)(h1:(d7 (tmA x)).length<=1099511627776):PRet prog 124 [.agg (tmA x)] (fun q=>q=isA (srtU (d7 (tmA x)))):=by refine ovT [4] [] func124 rfl rfl ?_;obtain⟨_,rfl,h0⟩:=ao4 (tmA x) (Cr hx) (srtU []) [] rfl (by simpa using h1);exact OpG.lk (dc aru (.cons (.pure rfl) (.cons Ue .nil)) h0) (rV rfl rfl rfl)
def afo(x:GFm)(hx:FitFm x)(h6:x.c_=2)(h4:(d7 (tmA x.e_.o_)).length<=1099511627776):PRet prog 72 [.agg (fmA x)] (fun q=>q=isA (jh x.e_)):=by refine ovT [] [3] func72 rfl rfl (cB (fun h5=>?_) (fun h5=>?_));have h7:=h5;simp at h7;refine RegG.via (fun _ h=>bc [] 3 (isA (srtU ([]:List Int))) Ue rfl h) (ay ?_);apply cB<;>intro h1;have h0:=h1;simp at h0;refine cB (fun _=>?_) (fun hz=>by exfalso;have h:=(by simpa using hz:¬(x.e_.c_:Int)=2);omega);refine ArgG.mk (Dm x.e_.o_ hx.e_.o_ h4) rfl ?_;rintro _ rfl;exact rV rfl rfl (congrArg isA (afw (by omega)));have h0:=h1;simp at h0;apply cB<;>intro h1;have h0:=h1;simp at h0;refine cB (fun _=>?_) (fun hz=>by exfalso;have h:=(by simpa using hz:¬(x.e_.c_:Int)=3);omega);refine ArgG.mk (Dm x.e_.o_ hx.e_.o_ h4) rfl ?_;rintro _ rfl;exact rV rfl rfl (congrArg isA (afw (by omega)));have h0:=h1;simp at h0;apply cE<;>intro h0;refine ArgG.mk (Dm x.e_.o_ hx.e_.o_ h4) rfl ?_;rintro _ rfl;exact rV rfl rfl (congrArg isA (afw (by omega)));apply cB<;>intro h3;have h2:=h3;simp at h2;refine cB (fun _=>?_) (fun hz=>by exfalso;have h:=(by simpa using hz:¬(x.e_.c_:Int)=6);omega);refine ArgG.mk (acy (srtU []) [] x.e_.w_ rfl (by simp)) rfl ?_;rintro _ rfl;refine ArgG.mk (acy (srtU ([]++[x.e_.w_])) ([]++[x.e_.w_]) x.e_.p_ rfl (by simp)) rfl ?_;rintro _ rfl;exact rV rfl rfl (congrArg isA (alr (by omega) (by omega)));have h2:=h3;simp at h2;apply cE<;>intro h2;refine ArgG.mk (acy (srtU []) [] x.e_.w_ rfl (by simp)) rfl ?_;rintro _ rfl;refine ArgG.mk (acy (srtU ([]++[x.e_.w_])) ([]++[x.e_.w_]) x.e_.p_ rfl (by simp)) rfl ?_;rintro _ rfl;exact rV rfl rfl (congrArg isA (alr (by omega) (by omega)));refine ArgG.mk (acy (srtU ([]:List Int)) [] x.e_.p_ rfl (by simp)) rfl ?_;rintro _ rfl;exact rV rfl rfl (congrArg isA (va_2 (by omega) (by omega)));exact absurd h6 (by simpa using h5)
def afp(x:GFm)(hx:FitFm x)(h2:¬x.c_=2)(h3:x.b_=[]):PRet prog 72 [.agg (fmA x)] (fun q=>q=isA []):=ovT [] [] func72 rfl rfl (cB (fun h1=>absurd (by simpa using h1) h2) (fun h1=>have hq9:¬((x.c_:Int)=(2:Int)):=(by simpa using h1);LpG.exit (LenG.of (cB (fun h0=>by exfalso;rw[h3]at h0;exact absurd h0 (by decide)) (fun h0=>have hq38:=azh h0;rtA rfl ⟨[],FzP.nil (n:=1)⟩ rfl)))))
def Zd(l:List Int)(hl:bq l (fun y=>True))(is_:Bool)(hvl:l.length<=100000):Fa prog 69 [.tree 1 (l.map iA),vB is_] [] (fun q hb'=>q=.sl 0 l.length 0 l.length/\hb'=[(0,some ⟨l.length,rF fmA (jk (if is_=true then 0 else 1) l),11,Nat.beq l.length 0⟩)]):=by
 refine Fa.of_vc ua [23] [] func69 rfl ntmps69 rfl (by kernel_rfl) (LpG.via (fun _ h=>bl 5 11 rfl 1 rfl h) ?_)
 refine LpG.on (fun k0:KL GFm=>(⟨fL [(0,.tree 1 (l.map iA)),(1,vB is_),(5,.sl 0 k0.L.length 0 k0.L.length),(6,vI k0.k)],hLz [(0,⟨k0.L.length,rF fmA k0.L,11,Nat.beq k0.L.length 0⟩)],1⟩:St)) (fun k0=>(l.length-k0.k)) (fun k0=>(k0.k<=l.length/\(k0.L=jk (if is_=true then 0 else 1) (l.take k0.k)/\k0.L.length=k0.k))) (⟨0,[]⟩:KL GFm) (cnS (by rfl) (hpS (ab aq _ _) (by rfl) trivial)) ⟨azk _,⟨rfl,rfl⟩⟩ ?_
 rintro k0 h3
 have hgr_k0:l.length<=140737488355328:=hl.1
 obtain⟨hle_k0,h0⟩:=h3
 refine LenG.of (cL (fun h1=>?_) (fun hge11=>?_))
 ·have hl2:=h0.2
  refine IdxG.of ‹_› (cB (fun h2=>?_) (fun h2=>?_))
  ·have hb:(if is_=true then 0 else 1)=(0:Int):=azg h2 -- isT
   obtain⟨_,rfl,h4⟩:=iw (vAt 0 l[k0.k]) qt
   refine OpG.lk (dc s9 (.cons xo .nil) h4) (OpG.mk _ _ _ 3 (ah aq (a:=(atF (vAt 0 l[k0.k]))) underlying67 zv yr Bx rfl rfl rfl (am rfl rfl rfl rfl) rfl (by omega) (by omega) (by unfold TV;omega)) rfl rfl ?_)
   refine⟨by omega,⟨(⟨k0.k+1,k0.L++[(atF (vAt 0 l[k0.k]))]⟩:KL GFm),(nsA ‹_›),(cO (.cons rfl rfl (.cons rfl rfl (.cons (by(rw[azb];rfl)) rfl (.cons rfl rfl .nil)))) (.cons (by(rw[azb];rfl)) rfl (ab aq _ _) .nil)),?_⟩⟩
   exact⟨‹_›,⟨by show _++[_]=_;rw[h0.1,azj h1,hb];unfold jk;rw[azx];rfl,by show(_++[_]).length=_;rw[azb,h0.2];rfl⟩⟩
  have hb:(if is_=true then 0 else 1)=(1:Int):=azf (by rw[h2];decide) -- isF
  obtain⟨_,rfl,h5⟩:=iw (vAt 1 l[k0.k]) qt
  refine OpG.lk (dc s9 (.cons xo .nil) h5) (OpG.mk _ _ _ 3 (ah aq (a:=(atF (vAt 1 l[k0.k]))) underlying67 zv yr Bx rfl rfl rfl (am rfl rfl rfl rfl) rfl (by omega) (by omega) (by unfold TV;omega)) rfl rfl ?_)
  refine⟨by omega,⟨(⟨k0.k+1,k0.L++[(atF (vAt 1 l[k0.k]))]⟩:KL GFm),(nsA ‹_›),(cO (.cons rfl rfl (.cons rfl rfl (.cons (by(rw[azb];rfl)) rfl (.cons rfl rfl .nil)))) (.cons (by(rw[azb];rfl)) rfl (ab aq _ _) .nil)),?_⟩⟩
  exact⟨‹_›,⟨by show _++[_]=_;rw[h0.1,azj h1,hb];unfold jk;rw[azx];rfl,by show(_++[_]).length=_;rw[azb,h0.2];rfl⟩⟩
 refine⟨.inr rfl,_,_,Pn.of (hb':=[(0,some ⟨k0.L.length,rF fmA k0.L,11,Nat.beq k0.L.length 0⟩)]) [] (cy rfl (.cons (ay3.tmp rfl) .nil)) rfl ⟨.same rfl (by decide),trivial⟩ .same,?_⟩
 have e:=h0.1
 rw[az0 (by omega)]at e
 have el:k0.L.length=l.length:=by rw[e];simp[jk]
 exact⟨by rw[<-el];rfl,by rw[<-el,<-e]⟩
def Sy(vs:List Int)(is_:Bool)(h0:bq vs (fun _=>True))(h1:vs.length<=100000):jy prog 69 [.tree 1 (vs.map iA),.v (.bool is_)] [] [(0,some ⟨0,rF fmA (jk (if is_=true then 0 else 1) vs),11,Nat.beq (jk (if is_=true then 0 else 1) vs).length 0⟩)] (.sl 0 0 0 (jk (if is_=true then 0 else 1) vs).length):=by obtain⟨_,_,⟨rfl,rfl⟩,h⟩:=Zd vs h0 is_ h1;have e:(jk (if is_=true then 0 else 1) vs).length=vs.length:=(by simp[jk]);rw[e];refine xn (zs:=[]) (by rw[List.append_nil];exact h) (by decide) (fun hb=>⟨?_,rfl⟩) (Aj aq _);rw[az1 (ay9 hb)];rfl
section
variable{P:Program}{τ:Nat->AV}{η:bm}{d:Option Tmp}{ty:TypeId}{pos:String}{af:Array Edge}{g:Option (Nat×Bool)}
def ja{t:Nat}{x i:Operand}(hu:P.underlying t=some .string)(hx:aev τ x=.v (.string s))(hi:aev τ i=.v (.int .i64 m))(h0:0<=m)(h1:m<=s.size):
 LOp P ⟨d,.slice t x (some i) none none,ty,pos,af,g⟩ τ η [] [] (.v (.string (s.extract m.toNat s.size))):=
 .look [] fun C a hg h2 _=>by have e1:=h2 x (by simp[Op.operands]);have e2:=h2 i (by simp[Op.operands]);rw[hx]at e1;rw[hi]at e2;refine⟨_,?_,VR.v C _⟩;simp only[execOp,e1.v_inv,az5,Option.map_none,e2.v_inv];rw[Sem.run_bind,Go.run_sliceAt_string C.w t _ _ _ _ hu,Go.run_slice_string_l C.w t s hu .i64 m h0 h1];rfl
def Nu{t t':Nat}{x:Operand}{td:TypeDesc}{k:IntKind}(hs:P.underlying t=some td)(hd:P.underlying t'=some (.int .i64))(hx:aev τ x=.v (.int k m))(h1:-9223372036854775808<=m)(h2:m<=9223372036854775807):
 LOp P ⟨d,.convert t t' x,ty,pos,af,g⟩ τ η [] [] (.v (.int .i64 m)):=
 .look [] fun C a _ h0 _=>by have e1:=h0 x (by simp[Op.operands]);rw[hx]at e1;refine⟨.int .i64 m,?_,VR.v C _⟩;simp[execOp,e1.v_inv,convert,run_underlying hs,run_underlying hd,Conv.intToInt,Go.IntWalk.i64_in m ⟨h1,h2⟩]
end
inductive Mt:List UInt8->List UInt8->Prop
 |nil:Mt [] []
 |star0 {p s:List UInt8} (h:Mt p s):Mt (37 :: p) s
 |star1 {p s:List UInt8} {x:UInt8} (h:Mt (37 :: p) s):Mt (37 :: p) (x :: s)
 |one {c x:UInt8} {p s:List UInt8} (hc:c≠37) (hx:c=95\/c=x) (h:Mt p s):Mt (c :: p) (x :: s)
theorem Tc{s:List UInt8}:Mt [] s↔s=[]:=⟨fun h=>by cases h;rfl,fun h=>by subst h;exact .nil⟩
theorem Tb{p s:List UInt8}:Mt (37::p) s↔∃a b,s=a++b/\Mt p b:=by
 constructor
 ·intro h
  generalize e:(37:UInt8)::p=q at h
  induction h with
  |nil=>cases e
  |star0 h=>cases e;exact⟨[],_,rfl,h⟩
  |star1 h ih=>obtain⟨a,b,rfl,hb⟩:=ih e;exact⟨_::a,b,rfl,hb⟩
  |one hc hx h=>cases e;exact absurd rfl hc
 ·rintro⟨a,b,rfl,hb⟩
  induction a with
  |nil=>exact .star0 hb
  |cons x a ih=>exact .star1 ih
theorem Gv{c:UInt8}{p s:List UInt8}(hc:c≠37):Mt (c::p) s↔∃x t,s=x::t/\(c=95\/c=x)/\Mt p t:=by
 constructor
 ·intro h
  cases h with
  |star0 h=>exact absurd rfl hc
  |star1 h=>exact absurd rfl hc
  |one _ hx h=>exact⟨_,_,rfl,hx,h⟩
 ·rintro⟨x,t,rfl,hx,h⟩;exact .one hc hx h
theorem ade:∀{p q s:List UInt8},Mt (p++q) s↔∃a b,s=a++b/\Mt p a/\Mt q b
 |[],q,s=>⟨fun h=>⟨[],s,rfl,.nil,h⟩,fun⟨a,b,e,h1,h2⟩=>by rw[Tc.1 h1]at e;subst e;exact h2⟩
 |c::p,q,s=>by rw[List.cons_append];by_cases hc:c=37;subst hc;rw[Tb];constructor;rintro⟨a,b,rfl,h⟩;obtain⟨b1,b2,rfl,h1,h2⟩:=ade.1 h;exact⟨a++b1,b2,by rw[List.append_assoc],Tb.2 ⟨a,b1,rfl,h1⟩,h2⟩;rintro⟨a,b,rfl,h1,h2⟩;obtain⟨a1,a2,rfl,h3⟩:=Tb.1 h1;exact⟨a1,a2++b,by rw[List.append_assoc],ade.2 ⟨a2,b,rfl,h3,h2⟩⟩;rw[Gv hc];constructor;rintro⟨x,t,rfl,hx,h⟩;obtain⟨a,b,rfl,h1,h2⟩:=ade.1 h;exact⟨x::a,b,rfl,.one hc hx h1,h2⟩;rintro⟨a,b,rfl,h1,h2⟩;obtain⟨x,t,rfl,hx,h3⟩:=(Gv hc).1 h1;exact⟨x,t++b,rfl,hx,ade.2 ⟨t,b,rfl,h3,h2⟩⟩
theorem mt_s{p s:List UInt8}:Mt (p++[37]) s↔∃a b,s=a++b/\Mt p a:=by rw[ade];exact⟨fun⟨a,b,e,h1,_⟩=>⟨a,b,e,h1⟩,fun⟨a,b,e,h1⟩=>⟨a,b,e,h1,Tb.2 ⟨b,[],by simp,.nil⟩⟩⟩
theorem mt_o{c:UInt8}{p s:List UInt8}(hc:c≠37):Mt (p++[c]) s↔∃a x,s=a++[x]/\(c=95\/c=x)/\Mt p a:=by grind[ade,Gv,Tc]
section
variable{s p:ByteArray}
theorem E0{s:ByteArray}{k:Nat}(h:k<s.data.toList.length):bAt s k=s.data.toList[k]:=by unfold bAt;simp only[Array.length_toList]at h;have h':k<s.size:=h;simp[Array.getD,h,h']
def u8{a b:UInt8}:a.toNat=b.toNat↔a=b:=⟨fun h=>UInt8.toNat_inj.1 h,fun h=>by rw[h]⟩
theorem ao7:∀k,k<=p.data.toList.length->∀i,i<=s.data.toList.length->(lk s p k i=true↔Mt (p.data.toList.take k) (s.data.toList.take i))
 |0,_,i,hi=>by rw[List.take_zero,Tc,List.take_eq_nil_iff];show(i==0)=true↔_;rw[beq_iff_eq];constructor;exact .inl;rintro(h|h);exact h;rw[h]at hi;simpa using hi
 |k+1,hk,i,hi=>by
  have ih:=ao7 k (by omega);rw[azj (by omega:k<p.data.toList.length)];have hb:=E0 (s:=p) (k:=k) (by omega)
  show iv s (bAt p k).toNat (lk s p k) i=true↔_;rw[hb];clear hb;generalize p.data.toList[k]=c;by_cases hc:c=37;subst hc;rw[mt_s];induction i with
  |zero=>
   show(((37:UInt8).toNat==37)&&lk s p k 0)=true↔_
   rw[az8,ih 0 hi]
   constructor
   ·rintro⟨_,h⟩;exact⟨[],[],rfl,h⟩
   ·rintro⟨a,b,e,h⟩
    have:a=[]:=(List.append_eq_nil_iff.1 (by rw[<-e,List.take_zero])).1
    subst this;exact⟨rfl,h⟩
  |succ i ihi=>
   have h2:=ihi (by omega)
   show(if(37:UInt8).toNat=37 then lk s p k (i+1)||iv s (37:UInt8).toNat (lk s p k) i else _)=true↔_
   rw[azg (by decide),Bool.or_eq_true,ih _ hi,h2]
   constructor
   ·rintro(h|⟨a,b,e,h⟩)
    ·exact⟨_,[],by simp,h⟩
    ·exact⟨a,b++[s.data.toList[i]'(by omega)],by rw[azj (by omega),e,List.append_assoc],h⟩
   ·rintro⟨a,b,e,h⟩
    rcases List.eq_nil_or_concat b with rfl|⟨b',x,rfl⟩
    ·left;rw[List.append_nil]at e;rw[e];exact h
    ·right
     rw[azj (by omega),List.concat_eq_append,<-List.append_assoc]at e
     exact⟨a,b',List.append_inj_left' e rfl,h⟩
  rw[mt_o hc];have hn:¬c.toNat=37:=fun h=>hc (u8.1 h)
  cases i with
  |zero=>
   show((c.toNat==37)&&lk s p k 0)=true↔_
   rw[beq_eq_false_iff_ne.2 hn]
   simp
  |succ i=>
   show(if c.toNat=37 then _ else lk s p k i&&(c.toNat==95||c.toNat==(bAt s i).toNat))=true↔_
   rw[azf hn,az8,Bool.or_eq_true,beq_iff_eq,beq_iff_eq,ih i (by omega),E0 (by omega),azj (by omega:i<s.data.toList.length)]
   constructor
   ·rintro⟨h,hx⟩;exact⟨_,_,rfl,hx.imp (fun h=>u8.1 h) (fun h=>u8.1 h),h⟩
   ·rintro⟨a,x,e,hx,h⟩
    have e1:=List.append_inj_left' e rfl
    have e2:=List.append_inj_right' e rfl
    simp only[List.cons.injEq,and_true]at e2
    subst e1;subst e2
    exact⟨h,hx.imp (fun h=>by rw[h];rfl) (fun h=>by rw[h])⟩
def awh:re s p=true↔Mt p.data.toList s.data.toList:=by unfold re;have h:=ao7 (s:=s) (p:=p) p.data.toList.length (azm _) s.data.toList.length (azm _);rw[List.take_length,List.take_length]at h;exact h
theorem Eo(s:ByteArray)(i:Nat):(s.extract i s.size).data.toList=s.data.toList.drop i:=by simp_all [List.extract_eq_take_drop,az0,List.length_drop,azm]
theorem zf(s:ByteArray)(i:Nat):(s.extract i s.size).size=s.size-i:=by simp
theorem M2{s:ByteArray}:(s.toList==(⟨#[]⟩:ByteArray).toList)=true↔s.data.toList=[]:=by rw[beq_iff_eq,Go.ByteArray.toList_eq,Go.ByteArray.toList_eq]
theorem rl{s:ByteArray}(h:¬s.data.toList=[]):0<s.size/\s.data.toList=bAt s 0::(s.extract 1 s.size).data.toList:=by have hl:0<s.data.toList.length:=List.length_pos_iff.2 h;refine⟨by simpa using hl,?_⟩;rw[Eo,E0 hl];exact(az3 (i:=0) hl)
def ao1{s p:ByteArray}(hp:¬p.data.toList=[])(hc:(bAt p 0).toNat=37):Mt p.data.toList s.data.toList↔∃i,i<=s.size/\Mt (p.extract 1 p.size).data.toList (s.extract i s.size).data.toList:=by rw[(rl hp).2,u8.1 (show(bAt p 0).toNat=(37:UInt8).toNat from hc),Tb];constructor;rintro⟨a,b,e,h⟩;exact⟨a.length,by have:s.size=s.data.toList.length:=(by simp);rw[this,e];simp,by rw[Eo s,e,List.drop_left];exact h⟩;rintro⟨i,hi,h⟩;rw[Eo s]at h;exact⟨s.data.toList.take i,_,(List.take_append_drop i _).symm,h⟩
def ao0{s p:ByteArray}(hp:¬p.data.toList=[])(hs:¬s.data.toList=[])(hc:¬(bAt p 0).toNat=37):Mt p.data.toList s.data.toList↔((bAt p 0).toNat=95\/(bAt p 0).toNat=(bAt s 0).toNat)/\Mt (p.extract 1 p.size).data.toList (s.extract 1 s.size).data.toList:=by rw[(rl hp).2,(rl hs).2,Gv (fun e=>hc (by rw[e];rfl))];constructor;rintro⟨x,t,e,hx,h⟩;cases e;exact⟨hx.imp (fun h=>by rw[h];rfl) (fun h=>by rw[h]),h⟩;rintro⟨hx,h⟩;exact⟨_,_,rfl,hx.imp (fun h=>u8.1 h) (fun h=>u8.1 h),h⟩
def awc{s p:ByteArray}(hp:¬p.data.toList=[])(hs:s.data.toList=[])(hc:¬(bAt p 0).toNat=37):¬Mt p.data.toList s.data.toList:=by rw[(rl hp).2,hs,Gv (fun e=>hc (by rw[e];rfl))];rintro⟨x,t,e,_⟩;cases e
end
def Am(t:PTest)(s:ByteArray):Bool:=(if t.kd=0 then(s.toList==t.s.toList)else if t.kd=1 then re s t.s else if t.kd=2 then fj s t.s else if t.kd=3 then !fj t.s s else false) !=t.ng
def xh(h:jw s)(i:Nat):jw (s.extract i s.size):=by grind[zf]
def aqb(h:(s.toList==(⟨#[]⟩:ByteArray).toList)=false):¬s.data.toList=[]:=fun e=>by rw[M2.2 e]at h;cases h
def aw1 :(!(s.toList==(⟨#[]⟩:ByteArray).toList))=true↔¬s.data.toList=[]:=by rw[Bool.not_eq_true',<-Bool.not_eq_true,M2]
def adz(h:¬s.data.toList=[]):0<s.size:=(rl h).1
def nE{n m:Nat}(h:(((n:Nat):Int)==c)=true)(hc:c=((m:Nat):Int)):n=m:=by rw[beq_iff_eq]at h;omega
def nF{n m:Nat}(h:(((n:Nat):Int)==c)=false)(hc:c=((m:Nat):Int)):¬n=m:=by rw[beq_eq_false_iff_ne]at h;omega
def aqa(h:(!(s.toList==(⟨#[]⟩:ByteArray).toList))=false):s.data.toList=[]:=by rw[Bool.not_eq_false']at h;exact M2.1 h
def Zw(s:ByteArray)(hs:jw s)(p:ByteArray)(hp:jw p)(ih:∀p1 s1:ByteArray,p1.size<p.size->jw p1->jw s1->PRet prog 169 [.v (.string s1),.v (.string p1)] (fun q=>∃b:Bool,q=vB b/\(b=true↔Mt (p1).data.toList (s1).data.toList))):PRet prog 169 [.v (.string s),.v (.string p)] (fun q=>∃b:Bool,q=vB b/\(b=true↔Mt p.data.toList s.data.toList)):=by
 have hs1:s.size<=140737488351232:=hs;have hp1:p.size<=140737488351232:=hp
 refine ovT [21,23,41,43] [] func169 rfl rfl (cB (fun h9=>?_) (fun h9=>?_));exact rV rfl rfl ⟨_,rfl,by rw[M2,M2.1 h9,Tc]⟩;have h0:=aqb h9
 have hpz:=adz h0;refine⟨‹_›,cB (fun h4=>?_) (fun h4=>?_)⟩;have h1:(bAt p 0).toNat=37:=nE h4 rfl
 refine LpG.on (fun k0:Nat=>(⟨fL [(0,.v (.string s)),(1,.v (.string p)),(5,vI k0)],hLz [],0⟩:St)) (fun k0=>((s.size+1)-k0)) (fun k0=>(k0<=(s.size+1)/\∀j (hl:j<s.size+1),j<k0->¬Mt (p.extract 1 p.size).data.toList (s.extract j s.size).data.toList)) 0 (cnR rfl) ⟨azk _,fun j _ h=>absurd h (azl j)⟩ ?_;rintro k0 ha;obtain⟨hle_k0,h3⟩:=ha;apply cD<;>intro hq16;have hb:k0<=s.size:=by omega
 refine OpG.lk (ja underlying9 rfl rfl (by omega) (by omega)) (OpG.lk (ja underlying9 rfl rfl (by omega) (by omega)) ?_);refine ArgG.mk (ih (p.extract 1 p.size) (s.extract k0 s.size) (by rw[zf];omega) (xh hp 1) (xh hs k0)) rfl ?_;rintro _ ⟨b0,rfl,hc⟩;refine⟨by kernel_rfl,cB (fun h2=>?_) (fun h2=>?_)⟩;exact rV rfl rfl ⟨_,rfl,fun _=>(ao1 h0 h1).2 ⟨k0,hb,hc.1 h2⟩,fun _=>rfl⟩;refine⟨by omega,⟨(k0+1),by omega,(cnR rfl),?_⟩⟩;refine⟨by omega,fun j hl h=>?_⟩;rcases azn.1 h with h|rfl;exact h3 j hl h;exact fun h=>by rw[hc.2 h]at h2;cases h2
 exact rV rfl rfl ⟨_,rfl,fun h=>absurd h az7,fun h=>by obtain⟨i,hi,h⟩:=(ao1 h0 h1).1 h;exact absurd h (h3 i (by omega) (by omega))⟩;have h1:¬(bAt p 0).toNat=37:=nF h4 rfl
 apply cB<;>intro h7;have h6:=aw1.1 h7
 have hsz:=adz h6;refine⟨‹_›,cB (fun h5=>?_) (fun h5=>?_)⟩;refine cT (OpG.lk (ja underlying9 rfl rfl (by omega) (by omega)) ?_);refine OpG.lk (ja underlying9 rfl rfl (by omega) (by omega)) (ArgG.mk (ih (p.extract 1 p.size) (s.extract 1 s.size) (by rw[zf];omega) (xh hp 1) (xh hs 1)) rfl ?_);rintro _ ⟨b1,rfl,hd⟩;exact⟨by kernel_rfl,rV rfl rfl ⟨_,rfl,fun h=>(ao0 h0 h6 h1).2 ⟨.inl (nE h5 rfl),hd.1 h⟩,fun h=>hd.2 ((ao0 h0 h6 h1).1 h).2⟩⟩;refine⟨‹_›,⟨‹_›,?_⟩⟩;apply cB<;>intro h8;refine OpG.lk (ja underlying9 rfl rfl (by omega) (by omega)) (OpG.lk (ja underlying9 rfl rfl (by omega) (by omega)) ?_);refine ArgG.mk (ih (p.extract 1 p.size) (s.extract 1 s.size) (by rw[zf];omega) (xh hp 1) (xh hs 1)) rfl ?_;rintro _ ⟨b2,rfl,he⟩;exact⟨by kernel_rfl,rV rfl rfl ⟨_,rfl,fun h=>(ao0 h0 h6 h1).2 ⟨.inr (nE h8 rfl),he.1 h⟩,fun h=>he.2 ((ao0 h0 h6 h1).1 h).2⟩⟩;exact⟨by kernel_rfl,rV rfl rfl ⟨_,rfl,fun h=>absurd h az7,fun h=>absurd ((ao0 h0 h6 h1).1 h).1 (by rintro(h|h);exact nF h5 rfl h;exact nF h8 rfl h)⟩⟩;exact cF ⟨by kernel_rfl,rV rfl rfl ⟨_,rfl,fun h=>absurd h az7,fun h=>absurd h (awc h0 (aqa h7) h1)⟩⟩
theorem Zx(p:ByteArray)(hp:jw p)(s:ByteArray)(hs:jw s):PRet prog 169 [.v (.string s),.v (.string p)] (fun q=>q=vB (re s p)):=by
 have key:∀n,∀p s:ByteArray,p.size<n->jw p->jw s->PRet prog 169 [.v (.string s),.v (.string p)] (fun q=>∃b:Bool,q=vB b/\(b=true↔Mt (p).data.toList (s).data.toList)):=by
  intro n
  induction n with
  |zero=>intro p s h;omega
  |succ n ih=>intro p s h hp hs;exact Zw s hs p hp fun p1 s1 h1 h0 h2=>ih p1 s1 (by omega) h0 h2
 obtain⟨_,⟨b,rfl,hb⟩,h⟩:=key _ p s (Nat.lt_succ_self _) hp hs
 exact⟨_,by rw[Bool.eq_iff_iff.2 (hb.trans awh.symm)],h⟩
def Y6(l m:List UInt8):Int:=if Op.bytesLess l m=true then -1 else if Op.bytesLess m l=true then 1 else 0
theorem ac2(a b:ByteArray):wm a b=Y6 a.data.toList b.data.toList:=by unfold wm Y6 fj;rw[Go.ByteArray.toList_eq,Go.ByteArray.toList_eq]
theorem Sj(x:UInt8)(l m:List UInt8):Y6 (x::l) (x::m)=Y6 l m:=by unfold Y6;simp[Op.bytesLess]
theorem ahg{x y:UInt8}(l m:List UInt8)(h:¬x=y):Y6 (x::l) (y::m)=jj ((x.toNat:Nat):Int) ((y.toNat:Nat):Int):=by unfold Y6 jj;have hn:¬x.toNat=y.toNat:=fun e=>h (u8.1 e);by_cases h1:x<y;have h2:x.toNat<y.toNat:=UInt8.lt_iff_toNat_lt.1 h1;rw[azg (by simp[Op.bytesLess,h1]),azg (by omega)];have h2:¬x.toNat<y.toNat:=fun g=>h1 (UInt8.lt_iff_toNat_lt.2 g);have h3:y<x:=UInt8.lt_iff_toNat_lt.2 (by omega);rw[azf (by simp[Op.bytesLess,h1,h]),azg (by simp[Op.bytesLess,h3]),azf (by omega),azg (by omega)]
def bE{n m:Nat}(h:(((n:Nat):Int) !=((m:Nat):Int))=false):n=m:=by simp only[bne_eq_false_iff_eq]at h;omega
def bNe{x y:UInt8}(h:(((x.toNat:Nat):Int) !=((y.toNat:Nat):Int))=true):¬x=y:=fun e=>by subst e;simp at h
theorem Au:∀{l m:List UInt8},Op.bytesLess l m=true->Op.bytesLess m l=false
 |[],[],h=>by simp[Op.bytesLess]at h
 |[],_::_,_=>by simp[Op.bytesLess]
 |_::_,[],h=>by simp[Op.bytesLess]at h
 |a::l,b::m,h=>by simp only[Op.bytesLess,Bool.or_eq_true,az9,az8,beq_iff_eq]at h;simp only[Op.bytesLess,Bool.or_eq_false_iff,decide_eq_false_iff_not,Bool.and_eq_false_iff,beq_eq_false_iff_ne];rcases h with h|⟨rfl,h⟩;exact⟨Std.not_lt.2 (Std.le_of_lt h),.inl (fun e=>by subst e;exact absurd h (Std.lt_irrefl))⟩;exact⟨Std.lt_irrefl,.inr (Au h)⟩
theorem anq(a b:ByteArray):decide (wm a b<0)=fj a b:=by grind[wm,fj]
theorem anr(a b:ByteArray):decide (wm a b<=0)=!fj b a:=by grind[wm,fj,Au]
def awo(h:t.a_.length=0)(hc:Fg t.f_=c):Mp op t=some (.kn (n7 op c)):=by rw[<-hc];exact ik_0 h
def ptF:Pt->GFm
 |.kn b=>cnF b
 |.pat a=>atF a
def ptO(o:Option Pt):Option (List AV):=o.map fun p=>fmA (ptF p)
def Dz{p:Pt}(h:o=some p)(hf:ptF p=f):ptO o=some (fmA f):=by rw[h,<-hf];rfl
def Y3(h:o=none):ptO o=none:=by rw[h];rfl
def atp{r:Option GTm}{o:Option (List AV)}(h:wo r q e)(he:¬e=0)(ho:o=none):FmR o f e:=fmN ho (h.2 he).2.1
def TxI(a b:ByteArray)(k:Nat):Prop:=Y6 a.data.toList b.data.toList=Y6 (a.data.toList.drop k) (b.data.toList.drop k)
section
variable{a b:ByteArray}{k:Nat}
def txI0:TxI a b 0:=rfl
theorem dl{a:ByteArray}(h:k<a.size):a.data.toList.drop k=bAt a k::a.data.toList.drop (k+1):=by simp_all [E0,az3]
def alw(h:TxI a b k)(ha:k<a.size)(hb:k<b.size)(he:bAt a k=bAt b k):TxI a b (k+1):=by unfold TxI at h ⊢;rw[h,dl ha,dl hb,he,Sj]
def alx(h:TxI a b k)(ha:k<a.size)(hb:k<b.size)(he:¬bAt a k=bAt b k):jj (((bAt a k).toNat:Nat):Int) (((bAt b k).toNat:Nat):Int)=wm a b:=by rw[ac2,h,dl ha,dl hb,ahg _ _ he]
theorem dz{a:ByteArray}(h:¬k<a.size):a.data.toList.drop k=[]:=List.drop_of_length_le (by simp at h ⊢;omega)
def Qr(h:TxI a b k)(hk:k<=a.size)(hk2:k<=b.size)(he:¬k<a.size\/¬k<b.size):jj ((a.size:Nat):Int) ((b.size:Nat):Int)=wm a b:=by rw[ac2,h];unfold jj;by_cases ha:k<a.size;have hb:¬k<b.size:=he.resolve_left (fun h=>h ha);rw[dz hb,dl ha,azf (by omega),azg (by omega)];rfl;by_cases hb:k<b.size;rw[dz ha,dl hb,azg (by omega)];rfl;rw[dz ha,dz hb,azf (by omega),azf (by omega)];rfl
end
def aeq:cw prog 171=true:=by kernel_rfl
def Ec(a:Int)(b:Int):PRet prog 172 [vI a,vI b] (fun q=>q=vI (jj a b)):=ovT [] [] func172 rfl rfl (cD (fun h1=>rV rfl rfl (congrArg vI (by unfold jj;(rw[azg (by omega)];done)))) (fun h1=>cD (fun h0=>rV rfl rfl (congrArg vI (by unfold jj;(rw[azf (by omega),azg (by omega)];done)))) (fun h0=>rV rfl rfl (congrArg vI (by unfold jj;(rw[azf (by omega),azf (by omega)];done))))))
def zu(a:ByteArray)(ha:jw a)(b:ByteArray)(hb:jw b):PRet prog 121 [.v (.string a),.v (.string b)] (fun q=>q=vI (wm a b)):=by have ha1:a.size<=140737488351232:=ha;have hb1:b.size<=140737488351232:=hb;refine ovT [28,32] [] func121 rfl rfl ?_;refine LpG.on (fun k0:K1=>(⟨fL [(0,.v (.string a)),(1,.v (.string b)),(5,vI k0.k)],hLz [],0⟩:St)) (fun k0=>((min a.size b.size)-k0.k)) (fun k0=>(k0.k<=(min a.size b.size)/\TxI a b k0.k)) (⟨0⟩:K1) (cnR rfl) ⟨azk _,txI0⟩ ?_;rintro k0 h6;obtain⟨hle_k0,h0⟩:=h6;refine cB (fun h3=>?_) (fun h3=>?_);have h1:k0.k<a.size:=Int.ofNat_lt.1 (azi h3);refine cB (fun h4=>?_) (fun h4=>?_);have h2:k0.k<b.size:=Int.ofNat_lt.1 (azi h4);refine⟨‹_›,?_⟩;refine⟨‹_›,?_⟩;refine⟨by kernel_rfl,?_⟩;refine cB (fun h5=>?_) (fun h5=>?_);refine⟨‹_›,?_⟩;refine OpG.lk (Nu underlying5 underlying2 rfl (by omega) (by have:=(bAt a k0.k).toNat_lt;omega)) ?_;refine⟨‹_›,?_⟩;refine OpG.lk (Nu underlying5 underlying2 rfl (by omega) (by have:=(bAt b k0.k).toNat_lt;omega)) ?_;refine ArgG.mk (Ec ((((bAt a k0.k).toNat:Nat):Int)) ((((bAt b k0.k).toNat:Nat):Int))) rfl ?_;rintro _ rfl;refine⟨by kernel_rfl,?_⟩;exact rV rfl rfl (congrArg vI (alx h0 h1 h2 (bNe h5)));refine⟨by omega,?_⟩;refine⟨(⟨k0.k+1⟩:K1),(by show(min a.size b.size)-(k0.k+1)<(min a.size b.size)-k0.k;omega),(cnR rfl),?_⟩;refine⟨by show k0.k+1<=_;omega,?_⟩;exact alw h0 h1 h2 (u8.1 (bE h5));have hge15:¬k0.k<b.size:=fun h=>azh h4 (Int.ofNat_lt.2 h);refine ArgG.mk (Ec (((a.size:Nat):Int)) (((b.size:Nat):Int))) rfl ?_;rintro _ rfl;exact rV rfl rfl (congrArg vI (Qr h0 (by omega) (by omega) (by omega)));have hge10:¬k0.k<a.size:=fun h=>azh h3 (Int.ofNat_lt.2 h);refine cF (ArgG.mk (Ec (((a.size:Nat):Int)) (((b.size:Nat):Int))) rfl ?_);rintro _ rfl;exact rV rfl rfl (congrArg vI (Qr h0 (by omega) (by omega) (by omega)))
def Sc(t:PTest)(s:ByteArray)(hs:jw s)(h0:jw t.s):PRet prog 117 [.agg (teA t),.v (.string s)] (fun q=>q=vB (Am t s)):=by refine ovT [] [] func117 rfl rfl (cE (fun h1=>?_) (fun h1=>?_));exact rV rfl rfl (congrArg vB (by rw[Am,azg ‹_›];rfl));apply cE<;>intro hq14;refine ArgG.mk (Zx t.s h0 s hs) rfl ?_;rintro _ rfl;exact rV rfl rfl (congrArg vB (by rw[Am,azf (by omega),azg ‹_›];rfl));apply cE<;>intro hq20;refine ArgG.mk (zu s hs t.s h0) rfl ?_;rintro _ rfl;exact rV rfl rfl (congrArg vB (by rw[Am,azf (by omega),azf (by omega),azg ‹_›,<-anq];rfl));apply cE<;>intro hq27;refine ArgG.mk (zu s hs t.s h0) rfl ?_;rintro _ rfl;exact rV rfl rfl (congrArg vB (by rw[Am,azf (by omega),azf (by omega),azf (by omega),azg ‹_›,<-anr];rfl));exact rV rfl rfl (congrArg vB (by rw[Am,azf (by omega),azf (by omega),azf (by omega),azf (by omega)];rfl))
def of13(x:GEx)(hx:FitEx x)(hs:IsSh 11 (exA x))(a:GTm)(ho:ofT (exA x)=some a):PRet prog 168 [.agg (exA x)] (fun q=>q=.tup [.agg (tmA a),vI 0]):=by obtain⟨_,⟨t,e,rfl,h1,h2,h3⟩,h⟩:=an8 (exA x) (ko hx) 11 (by omega) hs;have he:=h3 a ho;have h4:=(h2 he).2.2.2.2.2;rw[ho]at h4;cases h4;exact⟨_,by rw[he],h⟩
theorem aim(x:GEx)(hx:FitEx x)(y:GEx)(hy:FitEx y)(op:Int)(h9:10<=op/\op<=15)(a b:GTm)(h1:ofT (exA x)=some a)(h2:ofT (exA y)=some b)(h6:IsSh 11 (exA x))(h7:IsSh 11 (exA y)):PRet prog 119 [.agg (exA x),.agg (exA y),vI op] (fun q=>∃(f:GFm) (e:Int),q=.tup [.agg (fmA f),vI e]/\FitFm f/\FmR (ptO (Ct op (exA x) (exA y))) f e):=by
 obtain⟨ha,hd,hla⟩:=j4 (exA x) (ko hx) 11 (by omega) h6 a h1;obtain⟨hb,hsb,hlb⟩:=j4 (exA y) (ko hy) 11 (by omega) h7 b h2;have e13:2^(11+1)=4096:=rfl
 refine ovT [91] [] func119 rfl rfl (ArgG.mk (of13 x hx h6 a h1) rfl ?_);rintro _ rfl;refine ArgG.mk (of13 y hy h7 b h2) rfl ?_;rintro _ rfl;refine cF (cF (ArgG.mk (pw b hb (-1) (by omega)) rfl ?_));rintro _ ⟨t2,e2,rfl,he,h4⟩;refine cN (fun h=>rtC rfl bu rfl ⟨[],i6⟩ ⟨cnF true,e2,rfl,fe,atp h4 h (Y3 (it_1 h1 h2 (h4.2 h).1))⟩) (fun h=>have hS:=Mn h4 h;have hs1:=ala hS;have hs2:=F6 (-1) b;ArgG.mk (Kj a ha t2 he (fw hd) (fw (aig hS)) (by omega) (by omega)) rfl ?_);rintro _ ⟨t3,e3,rfl,h8,h5⟩;refine cN (fun h=>rtC rfl bu rfl ⟨[],i6⟩ ⟨cnF true,e3,rfl,fe,atp h5 h (Y3 (it_2 h1 h2 hS (h5.2 h).1))⟩) (fun h=>have hA:=Mn h5 h;have I:=apk (op:=op) h1 h2 hS hA;have hl3:t3.a_.length<=16384:=(by have:=ala hA;have:=Ay a t2;omega);have at1:∀{t:GTm} (k:Int),FitTm t->FitAt ⟨k,0,0,t,zTe⟩:=fun _ h=>⟨h,th.x_⟩;LenG.of ?_)
 repeat' first
  |refine cT ?_|refine cF ?_|refine cE (fun _=>?_) (fun _=>?_)<;>try omega|refine cN (fun _=>?_) (fun _=>?_)<;>try omega|refine cD (fun _=>?_) (fun _=>?_)<;>try omega
  |refine ArgG.mk (aod op _ h9) rfl ?_;rintro _ rfl
  |refine ArgG.mk (m9 _) rfl ?_;rintro _ rfl
  |refine ArgG.mk (pw t3 h8 (-1) (by omega)) rfl ?_;rintro _ ⟨t4,e4,rfl,hf,h0⟩
  |obtain⟨_,⟨t5,e5,rfl,hg,h3⟩,hc⟩:=Kj t4 hf one1 w7 (fw (aig (Mn h0 ‹_›))) (fw Ck) (by have:=ala (Mn h0 ‹_›);have:=F6 (-1) t3;omega) (by decide);refine OpG.lk (dc aeq (.cons (.pure rfl) (.cons FzP.one .nil)) hc) ?_
  |obtain⟨_,⟨t5,e5,rfl,hg,h3⟩,hc⟩:=Kj t3 h8 one1 w7 (fw (aig hA)) (fw Ck) (by omega) (by decide);refine OpG.lk (dc aeq (.cons (.pure rfl) (.cons FzP.one .nil)) hc) ?_
  |refine ArgG.mk (iw _ (at1 _ ‹_›)) rfl ?_;rintro _ rfl
 all_goals first
  |exact rtP rfl bu rfl ⟨cnF (n7 op _),0,rfl,fe,fmY (Dz (I.trans (awo (by omega) (by unfold Fg;first|rw[azg (by omega)]|rw[azf (by omega),azg (by omega)]|rw[azf (by omega),azf (by omega)]))) rfl)⟩
  |exact rtP rfl bu rfl ⟨atF _,0,rfl,ma (at1 _ ‹_›),fmY (Dz (I.trans (by first|exact apr (by omega) ‹_›|exact apq (by omega) ‹_›)) rfl)⟩
  |exact rtC rfl bu rfl ⟨[],i6⟩ ⟨cnF true,_,rfl,fe,atp h3 ‹_› (Y3 (I.trans (ik_w (by omega) ‹_› ‹_› (by first|(rw[azg (by omega)];exact Mn h0 ‹_›)|rw[azf (by omega)]) (by rw[azg (by omega)];exact(h3.2 ‹_›).1))))⟩
  |exact rtC rfl bu rfl ⟨[],i6⟩ ⟨cnF true,_,rfl,fe,atp h0 ‹_› (Y3 (I.trans (ik_u (by omega) ‹_› ‹_› (by rw[azg (by omega)];exact(h0.2 ‹_›).1))))⟩
  |exact rtP rfl bu rfl ⟨atF ⟨2,0,0,_,zTe⟩,0,rfl,ma (at1 _ ‹_›),fmY (Dz (I.trans (ik_g (by omega) ‹_› ‹_› (by first|(rw[azg (by omega)];exact Mn h0 ‹_›)|rw[azf (by omega)]) (by first|(rw[azg (by omega)];exact Mn h3 ‹_›)|rw[azf (by omega)]))) rfl)⟩
def Fe{η:bm} :FzP fp η (.agg [vI 5,vI c,vI 0,vI 0,.v (.slice none 0 0),vI v,vI kd,vB ng,.v (.string s)]) (.agg (atA ⟨5,c,0,zT,⟨v,kd,ng,s⟩⟩)):=
 FzP.aggL (.cons (.pure rfl) (.cons (.pure rfl) (.cons (.pure rfl) (.cons (.pure rfl) (.cons (FzP.nil (n:=5)) (.cons (.pure rfl) (.cons (.pure rfl) (.cons (.pure rfl) (.cons (.pure rfl) .nil)))))))))
def Xr{η:bm}{o:Int}:FzP fp η (.agg [vI k,vI v,vI o,vI 0,.v (.slice none 0 0),vI 0,vI 0,vB false,.v (.string ⟨#[]⟩)]) (.agg (atA ⟨k,v,o,zT,zTe⟩)):=
 FzP.aggL (.cons (.pure rfl) (.cons (.pure rfl) (.cons (.pure rfl) (.cons (.pure rfl) (.cons (FzP.nil (n:=5)) (.cons (.pure rfl) (.cons (.pure rfl) (.cons (.pure rfl) (.cons (.pure rfl) .nil)))))))))
section
variable{x y:GEx}{op:Int}{ng:Bool}
def lk_l(h:x.op_=1):ptF (G1 x y (!ng))=cnF (Am ⟨0,1,ng,y.k_.l_⟩ x.k_.l_):=by rw[G1,azg h];show cnF _=cnF _;congr 1;unfold Am;rw[azf (show¬(1:Int)=0 by decide),azg (show(1:Int)=1 from rfl)];cases re x.k_.l_ y.k_.l_<;>cases ng<;>rfl
def lk_a(h:¬x.op_=1):ptF (G1 x y (!ng))=atF ⟨5,x.j_,0,zT,⟨0,1,ng,y.k_.l_⟩⟩:=by rw[G1,azf h,Bool.not_not];rfl
def tx_1(h1:x.op_=1)(h2:y.op_=1):ptF (ot op x y)=cnF (n7 op (wm x.k_.l_ y.k_.l_)):=by rw[ot,azg ⟨h1,h2⟩];rfl
def tx_2(h1:x.op_=1)(h2:¬y.op_=1):ptF (ot op x y)=atF ⟨5,y.j_,0,zT,qk (ye op) x.k_.l_⟩:=by rw[ot,azf (fun h=>h2 h.2),azg h1];rfl
def tx_3(h1:¬x.op_=1)(h2:y.op_=1):ptF (ot op x y)=atF ⟨5,x.j_,0,zT,qk op y.k_.l_⟩:=by rw[ot,azf (fun h=>h1 h.1),azf h1,azg h2];rfl
def tx_4(h1:¬x.op_=1)(h2:¬y.op_=1)(h:x.j_=y.j_):ptF (ot op x y)=cnF (op==10):=by rw[ot,azf (fun h=>h1 h.1),azf h1,azf h2,azg h];rfl
def tx_5(h1:¬x.op_=1)(h2:¬y.op_=1)(h:¬x.j_=y.j_)(hk:(if op=11 then 7 else 6)=k):ptF (ot op x y)=atF ⟨k,min x.j_ y.j_,max x.j_ y.j_,zT,zTe⟩:=by rw[ot,azf (fun h=>h1 h.1),azf h1,azf h2,azf h,hk];rfl
end
def ifP7{o:Int}(h:o=11):(if o=11 then(7:Int)else 6)=7:=azg h
def ifN7{o:Int}(h:¬o=11):(if o=11 then(7:Int)else 6)=6:=azf h
def inF(f:GFm):List Int:=if f.c_=2 then jh f.e_ else[]
def air :(inF f).length<=(d7 (tmA f.e_.o_)).length+2:=by unfold inF;split;exact Fs;simp
def acl(h:10<=op/\op<=15):10<=ye op/\ye op<=15:=by unfold ye;split<;>(try split)<;>(try split)<;>(try split)<;>omega
def an0(h:10<=op/\op<=15):10<=sr op/\sr op<=15:=by grind[sr]
def Dh{o:Int}:FitAt ⟨k,v,o,zT,zTe⟩:=⟨c8,th.x_⟩
def af7(cl:Int)(op:Int)(s:ByteArray)(hs:jw s)(ho:10<=op/\op<=15):PRet prog 122 [vI cl,vI op,.v (.string s)] (fun q=>q=.agg (fmA (atF ⟨5,cl,0,zT,qk op s⟩))):=by obtain⟨j,hj,h0⟩:∃j:Nat,op=10+((j:Nat):Int)/\j<6:=⟨(op-10).toNat,by omega,by omega⟩;refine ovT [10,30] [] func122 rfl rfl (OpG.nw (cm (de underlying53 sz3 zr3 rfl rfl rfl rfl) (fun η' h=>ba (f:=iA) (l:=[0,0,2,3,3,2]) (azc.2 rfl) h rfl rfl rfl rfl rfl (fun a _=>⟨rfl,rfl⟩))) rfl (ArgG.mk ((show PRet prog 111 [vI op] (fun r=>r=vI j)by obtain⟨_,⟨p,rfl,hp⟩,h⟩:=y4 op (by omega);exact⟨_,by rw[show p=((j:Nat):Int)by omega],h⟩)) rfl ?_));rintro _ rfl;refine IdxG.of ‹_› (cE (fun h1=>cT ?_) (fun h1=>?_));obtain⟨_,rfl,h2⟩:=iw ⟨5,cl,0,zT,qk op s⟩ ⟨c8,ti hs⟩;exact OpG.lk (dc s9 (.cons (show FzP _ _ _ (.agg (atA ⟨5,cl,0,zT,qk op s⟩))by(rw[<-Qu (b:=true) (s:=s) h0 hj (by simp_all)];exact Fe)) .nil) h2) (rtK rfl bu rfl ⟨[],FzP.pure rfl⟩ rfl);refine cE (fun h3=>by obtain⟨_,rfl,h4⟩:=iw ⟨5,cl,0,zT,qk op s⟩ ⟨c8,ti hs⟩;exact OpG.lk (dc s9 (.cons (show FzP _ _ _ (.agg (atA ⟨5,cl,0,zT,qk op s⟩))by(rw[<-Qu (b:=true) (s:=s) h0 hj (by simp_all)];exact Fe)) .nil) h4) (rtK rfl bu rfl ⟨[],FzP.pure rfl⟩ rfl)) (fun h3=>?_);obtain⟨_,rfl,h5⟩:=iw ⟨5,cl,0,zT,qk op s⟩ ⟨c8,ti hs⟩;exact OpG.lk (dc s9 (.cons (show FzP _ _ _ (.agg (atA ⟨5,cl,0,zT,qk op s⟩))by(rw[<-Qu (b:=(op==15)) (s:=s) h0 hj (by simp_all)];exact Fe)) .nil) h5) (rtK rfl bu rfl ⟨[],FzP.pure rfl⟩ rfl)
theorem ahd(x:GEx)(hx:FitEx x)(l:List PVar)(hl:bq l (fun y=>True))(ng:Bool)(a0 a1:GEx)(h2:FitEx a0)(h0:FitEx a1)(h9:x.b_=[exA a0,exA a1])(hop:10<=x.op_/\x.op_<=16)(h3:OpE l 11 (exA a0))(h4:x.op_≠16->OpE l 11 (exA a1))(hd:¬HasN (exA a0))(he:¬HasN (exA a1))(h5:IsSh 11 (exA a0))(h6:IsSh 11 (exA a1)):PRet prog 71 [.agg (exA x),.tree 5 (l.map vA),vB ng] (fun q=>∃(f:GFm) (e:Int),q=.tup [.agg (fmA f),vI e]/\FitFm f/\FmR (ptO (ptS l x.op_ (exA a0) (exA a1) (!ng))) f e):=by
 have hal:x.b_.length=2:=by rw[h9];rfl
 have h7:x.b_[0]'(by omega)=exA a0:=by simp[h9]
 have h8:x.b_[1]'(by omega)=exA a1:=by simp[h9]
 refine ovT [42,118,123,125] [] func71 rfl rfl (cb (j:=0) (by omega) h7 (cb (j:=1) (by omega) h8 ⟨rfl,cE (fun h=>cE (fun h1=>?_) fun h1=>?_) fun h=>cB (fun g=>?_) fun g=>?_⟩));refine ArgG.mk (Sc ⟨0,1,ng,a1.k_.l_⟩ a0.k_.l_ h2.k_.l_ h0.k_.l_) rfl ?_;rintro _ rfl;refine ArgG.mk (m9 _) rfl ?_;rintro _ rfl;exact rtP rfl bu rfl ⟨cnF _,0,rfl,fe,fmY (Dz (R6 h) (lk_l h1))⟩;obtain⟨_,rfl,ha⟩:=iw ⟨5,a0.j_,0,zT,⟨0,1,ng,a1.k_.l_⟩⟩ ⟨c8,h0.k_.l_⟩;exact OpG.lk (dc s9 (.cons Fe .nil) ha) (rtP rfl bu rfl ⟨atF _,0,rfl,ma ⟨c8,h0.k_.l_⟩,fmY (Dz (R6 h) (lk_a h1))⟩);have hb:(if(!ng)=true then x.op_ else sr x.op_)=sr x.op_:=by rw[g];rfl
 refine ArgG.mk (Je x.op_ (by omega)) rfl ?_;rintro _ rfl;rotate_left;have hb:(if(!ng)=true then x.op_ else sr x.op_)=x.op_:=by rw[g];rfl
 all_goals
  have hg:=an0 (op:=x.op_) (by omega)
  have hv:=acl (op:=sr x.op_) hg
  have hw:=acl (op:=x.op_) (by omega)
  repeat' first
   |refine cT ?_|refine cF ?_|refine cE (fun _=>?_) (fun _=>?_)<;>try omega
   |refine⟨rfl,?_⟩
   |refine ArgG.mk (xt (exA a0) (ko h2) l hl) rfl ?_;rintro _ ⟨_|_,rfl,t0,t2⟩
   |refine ArgG.mk (xt (exA a1) (ko h0) l hl) rfl ?_;rintro _ ⟨_|_,rfl,t1,t3⟩
   |obtain⟨u0,i0⟩:=Ol h3 hd (t2 rfl);obtain⟨u1,i1⟩:=Ol (h4 h) he (t3 rfl);refine ArgG.mk (aim a0 h2 a1 h0 _ (by omega) u0 u1 i0 i1 h5 h6) rfl ?_;rintro _ ⟨f,e,rfl,hf,hr⟩;exact rtP rfl bu rfl ⟨f,e,rfl,hf,(ak8 h (t2 rfl) (t3 rfl) hb).symm▸hr⟩
   |refine ArgG.mk (zu a0.k_.l_ h2.k_.l_ a1.k_.l_ h0.k_.l_) rfl ?_;rintro _ rfl
   |refine ArgG.mk (aod _ _ (by omega)) rfl ?_;rintro _ rfl
   |refine ArgG.mk (m9 _) rfl ?_;rintro _ rfl
   |refine ArgG.mk (I6 _ (by omega)) rfl ?_;rintro _ rfl
   |refine ArgG.mk (af7 _ _ _ (by first|exact h2.k_.l_|exact h0.k_.l_) (by omega)) rfl ?_;rintro _ rfl
   |obtain⟨_,rfl,hc⟩:=iw ⟨7,min a0.j_ a1.j_,max a0.j_ a1.j_,zT,zTe⟩ Dh;refine OpG.lk (jb rfl rfl) (OpG.lk (ld rfl rfl) (OpG.lk (dc s9 (.cons Xr .nil) hc) ?_))
   |obtain⟨_,rfl,hc⟩:=iw ⟨6,min a0.j_ a1.j_,max a0.j_ a1.j_,zT,zTe⟩ Dh;refine OpG.lk (jb rfl rfl) (OpG.lk (ld rfl rfl) (OpG.lk (dc s9 (.cons Xr .nil) hc) ?_))
  all_goals
   have X:TextE l (exA a0)\/TextE l (exA a1):=by first|exact .inl (t0 rfl)|exact .inr (t1 rfl)
   have T:=ag5 h X hb
   first
    |exact rtP rfl bu rfl ⟨cnF _,0,rfl,fe,fmY (Dz T (by first|exact tx_1 ‹_› ‹_›|exact tx_4 ‹_› ‹_› ‹_›))⟩
    |exact rtP rfl bu rfl ⟨atF _,0,rfl,ma ⟨c8,ti h2.k_.l_⟩,fmY (Dz T (tx_2 ‹_› ‹_›))⟩
    |exact rtP rfl bu rfl ⟨atF _,0,rfl,ma ⟨c8,ti h0.k_.l_⟩,fmY (Dz T (tx_3 ‹_› ‹_›))⟩
    |exact rtP rfl bu rfl ⟨atF _,0,rfl,ma Dh,fmY (Dz T (tx_5 ‹_› ‹_› ‹_› (by first|exact ifP7 ‹_›|exact ifN7 ‹_›)))⟩
theorem xf{x y:GFm}(h:fmA x=fmA y):x=y:=by obtain⟨k,⟨ak,av,ao,⟨c,ps⟩,⟨tv,tk,ng,s⟩⟩,ag⟩:=x;obtain⟨k',⟨ak',av',ao',⟨c',ps'⟩,⟨tv',tk',ng',s'⟩⟩,ag'⟩:=y;simp only[fmA,List.cons.injEq,AV.v.injEq,Value.int.injEq,Value.bool.injEq,Value.string.injEq,AV.tree.injEq,true_and,and_true,fk]at h;obtain⟨rfl,rfl,rfl,rfl,rfl,h,rfl,rfl,rfl,rfl,rfl⟩:=h;obtain rfl:ps=ps':=List.map_inj_right (fun a b=>R5)|>.1 h;rfl
theorem ag4(h:ptO o=some (fmA f)):∃p,o=some p/\f=ptF p:=by
 cases o with
 |none=>cases h
 |some p=>exact⟨p,rfl,(xf (Option.some.inj h)).symm⟩
theorem Y2(h:ptO o=none):o=none:=by
 cases o with
 |none=>rfl
 |some p=>cases h
def kdR1(ho:op=18\/op=19)(hm:0<=m/\m<=3)(hb:b=(m==1||m==3))(h:((op==19) !=b)=true)(hk:kd=1):(if(op==18)=o9 m then(0:Int)else 1)=kd:=by obtain rfl|rfl|rfl|rfl:m=0\/m=1\/m=2\/m=3:=(by omega);all_goals(subst hb;subst hk;rcases ho with rfl|rfl<;>revert h<;>decide)
def kdR0(ho:op=18\/op=19)(hm:0<=m/\m<=3)(hb:b=(m==1||m==3))(h:((op==19) !=b)=false)(hk:kd=0):(if(op==18)=o9 m then(0:Int)else 1)=kd:=by obtain rfl|rfl|rfl|rfl:m=0\/m=1\/m=2\/m=3:=(by omega);all_goals(subst hb;subst hk;rcases ho with rfl|rfl<;>revert h<;>decide)
def b1R(h:(m==1)=true):true=(m==1||m==3):=by rw[h];rfl
def b0R(h:(m==1)=false):(m==3)=(m==1||m==3):=by rw[h];rfl
theorem ng1(h:(m==1)=true)(hm:0<=m/\m<=3):(!true)=o9 m:=by rw[show m=1 by simpa using h];rfl
theorem ng0(h:(m==1)=false)(hm:0<=m/\m<=3):(!(m==3))=o9 m:=by obtain rfl|rfl|rfl|rfl:m=0\/m=1\/m=2\/m=3:=(by omega);all_goals(revert h;decide)
def ps1(h:(m==0)=true):true=o9 m:=by unfold o9;rw[h];rfl
def ps0(h:(m==0)=false):(m==2)=o9 m:=by unfold o9;rw[h];rfl
def wk1(h:(m==2)=true):true=ip m:=by unfold ip;rw[h];rfl
def wk0(h:(m==2)=false):(m==3)=ip m:=by unfold ip;rw[h];rfl
def st1(h:m=0\/m=1):ip m=false:=by rcases h with rfl|rfl<;>rfl
def st0(hm:0<=m/\m<=3)(h0:¬m=0)(h1:¬m=1):ip m=true:=by obtain rfl|rfl:m=2\/m=3:=(by omega);all_goals rfl
section
variable{l:List PVar}{m:Int}{x a0 a1:GEx}
def aun{g:GFm}(h0:trS l r0 m=some (fmA f))(h1:trS l r1 m=some (fmA g)):km l [r0,r1] m=some ([f,g].map fmA):=by simp only[km,h0,h1,az6,az5];rfl
def al3(h0:trS l r0 m=none):km l [r0,r1] m=none:=by simp only[km,h0];rfl
def al2(h1:trS l r1 m=none):km l [r0,r1] m=none:=by simp only[km,h1];cases trS l r0 m<;>rfl
theorem alz:∀{es:List (List AV)} (h:es.length=2),es=[es[0]'(by omega),es[1]'(by omega)]
 |[a,b],_=>rfl
def fit2{g:GFm}(h0:FitFm f)(h1:FitFm g):FitFm ⟨k,zAt,[f,g].map fmA⟩:=by grind[Uj,azc]
def af3(hb:b=o9 m)(ho:x.op_=17)(ha:x.b_=[exA a0])(hn:HasN (exA a0)):trS l (exA x) m=some (fmA (cnF b)):=by rw[hb];exact acd ho ha hn
def ajp(hb:b=ip m)(h:HasN (exA x))(ho:¬x.op_=1):cmO l x m=some (fmA (cnF b)):=by rw[hb];exact Na h ho
theorem ada{x a0:GEx}(ho:x.op_=17)(hxa:x.b_=[exA a0]):HasN (exA x)↔HasN (exA a0):=by simp_all [pf,azc]
theorem avx{x a0:GEx}(ho:x.op_=17)(h0:x.b_=[exA a0]):dw (exA x)=bi [exA a0]:=by rw[dg,azf (by omega),h0];rfl
theorem avw{x:GEx}(ho:10<=x.op_):srtU (dw (exA x))=csX x:=by rw[dg,azf (by omega)];rfl
def sl_n{x a0:GEx}{y:GFm}(hy:lsF (if b=true then 1 else 0) ((jk (if b=true then 0 else 1) (srtU (dw (exA x)))).map fmA)=fmA y)(ho:x.op_=17)(h0:x.b_=[exA a0]):lsF (if b=true then 1 else 0) ((jk (if b=true then 0 else 1) (srtU (bi [exA a0]))).map fmA)=fmA y:=by rw[<-avx ho h0];exact hy
variable{cs L:List Int}{p:Pt}{f y:GFm}
theorem ann(hf:f=ptF p)(h:f.c_=1):p=.kn false:=by
 subst hf;cases p with
 |kn b=>cases b with
  |false=>rfl
  |true=>exact absurd h (by decide)
 |pat a=>exact absurd (show(2:Int)=1 from h) (by decide)
theorem ano(hf:f=ptF p)(h:f.c_=0):p=.kn true:=by
 subst hf;cases p with
 |kn b=>cases b with
  |true=>rfl
  |false=>exact absurd h (by decide)
 |pat a=>exact absurd (show(2:Int)=0 from h) (by decide)
theorem anm(hf:f=ptF p)(h:f.c_=2):∃a,p=.pat a:=by
 subst hf;cases p with
 |kn b=>cases b with
  |true=>exact absurd h (by decide)
  |false=>exact absurd h (by decide)
 |pat a=>exact⟨a,rfl⟩
theorem anl(hf:f=ptF p):f.c_=0\/f.c_=1\/f.c_=2:=by
 subst hf;cases p with
 |kn b=>cases b with
  |true=>exact .inl rfl
  |false=>exact .inr (.inl rfl)
 |pat a=>exact .inr (.inr rfl)
def rs_1(hw:ip m=false)(hf:f=ptF p)(h:f.c_=1):cmF m cs p=fmA f:=by have hp:=ann hf h;subst hp;subst hf;rw[cmF,azf (by rw[hw];decide)];rfl
def rs_2(hw:ip m=false)(hf:f=ptF p)(h:f.c_=2)(hk:L=cs.filter (kpB (inF f)))(hy:lsF 0 ((jk 1 L++[f]).map fmA)=fmA y):cmF m cs p=fmA y:=by subst hk;obtain⟨a,rfl⟩:=anm hf h;subst hf;rw[cmF,azf (by rw[hw];decide),<-mj,<-hy,azx];rfl
def rs_3(hw:ip m=false)(hf:f=ptF p)(h1:¬f.c_=1)(h2:¬f.c_=2)(hk:L=cs.filter (kpB (inF f)))(hy:lsF 0 ((jk 1 L).map fmA)=fmA y):cmF m cs p=fmA y:=by grind[ano,anl,kpB,inF,ptF,List.filter_eq_self,cmF,mj]
def rw_1(hw:ip m=true)(hf:f=ptF p)(h:f.c_=0):cmF m cs p=fmA f:=by have hp:=ano hf h;subst hp;subst hf;rw[cmF,azg hw];rfl
def rw_2(hw:ip m=true)(hf:f=ptF p)(h:f.c_=2)(hk:L=cs)(hy:lsF 1 ((jk 0 L++[f]).map fmA)=fmA y):cmF m cs p=fmA y:=by subst hk;obtain⟨a,rfl⟩:=anm hf h;subst hf;rw[cmF,azg hw,<-mj,<-hy,azx];rfl
def rw_3(hw:ip m=true)(hf:f=ptF p)(h1:¬f.c_=0)(h2:¬f.c_=2)(hk:L=cs)(hy:lsF 1 ((jk 0 L).map fmA)=fmA y):cmF m cs p=fmA y:=by grind[ann,anl,cmF,mj]
end
def ai7{l L:List Int}{k:Nat}(h:L=(l.take k).filter p)(hk:¬k<l.length):L=l.filter p:=by rw[h,az0 (by omega)]
theorem anj{x:List AV}{p:Pt}(hx:IsEx x)(hy:IsEx y)(sx:IsSh 11 x)(sy:IsSh 11 y)(h:ptS l op x y pos=some p)(hf:f=ptF p):(d7 (tmA f.e_.o_)).length<=4096:=by
 subst hf;cases p with
 |kn b=>simp[ptF,cnF,zAt,zT,dj]
 |pat a=>exact ag6 hx hy sx sy h
def arl:cw prog 69=true:=by kernel_rfl
def Zc(l:List Int)(hl:bq l (fun y=>True))(is_:Bool)(hvl:l.length<=100000):PRet prog 69 [.tree 1 (l.map iA),vB is_] (fun q=>q=.tree 11 ((jk (if is_=true then 0 else 1) l).map fmA)):=by
 refine ovT [23] [] func69 rfl rfl (LpG.via (fun _ h=>bl 5 11 rfl 1 rfl h) ?_)
 refine LpG.on (fun k0:KL GFm=>(⟨fL [(0,.tree 1 (l.map iA)),(1,vB is_),(5,.sl 0 k0.L.length 0 k0.L.length),(6,vI k0.k)],hLz [(0,⟨k0.L.length,rF fmA k0.L,11,Nat.beq k0.L.length 0⟩)],1⟩:St)) (fun k0=>(l.length-k0.k)) (fun k0=>(k0.k<=l.length/\(k0.L=jk (if is_=true then 0 else 1) (l.take k0.k)/\k0.L.length=k0.k))) (⟨0,[]⟩:KL GFm) (cnS (by rfl) (hpS (ab aq _ _) (by rfl) trivial)) ⟨azk _,⟨rfl,rfl⟩⟩ ?_
 rintro k0 h3
 have hgr_k0:l.length<=140737488355328:=hl.1
 obtain⟨hle_k0,h0⟩:=h3
 refine LenG.of (cL (fun h1=>?_) (fun hge11=>?_))
 ·have hl2:=h0.2
  refine IdxG.of ‹_› (cB (fun h2=>?_) (fun h2=>?_))
  ·have hb:(if is_=true then 0 else 1)=(0:Int):=azg h2 -- isT
   obtain⟨_,rfl,h4⟩:=iw (vAt 0 l[k0.k]) qt
   refine OpG.lk (dc s9 (.cons xo .nil) h4) (OpG.mk _ _ _ 3 (ah aq (a:=(atF (vAt 0 l[k0.k]))) underlying67 zv yr Bx rfl rfl rfl (am rfl rfl rfl rfl) rfl (by omega) (by omega) (by unfold TV;omega)) rfl rfl ?_)
   refine⟨by omega,⟨(⟨k0.k+1,k0.L++[(atF (vAt 0 l[k0.k]))]⟩:KL GFm),(nsA ‹_›),(cO (.cons rfl rfl (.cons rfl rfl (.cons (by(rw[azb];rfl)) rfl (.cons rfl rfl .nil)))) (.cons (by(rw[azb];rfl)) rfl (ab aq _ _) .nil)),?_⟩⟩
   exact⟨‹_›,⟨by show _++[_]=_;rw[h0.1,azj h1,hb];unfold jk;rw[azx];rfl,by show(_++[_]).length=_;rw[azb,h0.2];rfl⟩⟩
  have hb:(if is_=true then 0 else 1)=(1:Int):=azf (by rw[h2];decide) -- isF
  obtain⟨_,rfl,h5⟩:=iw (vAt 1 l[k0.k]) qt
  refine OpG.lk (dc s9 (.cons xo .nil) h5) (OpG.mk _ _ _ 3 (ah aq (a:=(atF (vAt 1 l[k0.k]))) underlying67 zv yr Bx rfl rfl rfl (am rfl rfl rfl rfl) rfl (by omega) (by omega) (by unfold TV;omega)) rfl rfl ?_)
  refine⟨by omega,⟨(⟨k0.k+1,k0.L++[(atF (vAt 1 l[k0.k]))]⟩:KL GFm),(nsA ‹_›),(cO (.cons rfl rfl (.cons rfl rfl (.cons (by(rw[azb];rfl)) rfl (.cons rfl rfl .nil)))) (.cons (by(rw[azb];rfl)) rfl (ab aq _ _) .nil)),?_⟩⟩
  exact⟨‹_›,⟨by show _++[_]=_;rw[h0.1,azj h1,hb];unfold jk;rw[azx];rfl,by show(_++[_]).length=_;rw[azb,h0.2];rfl⟩⟩
 refine rtA rfl ⟨[0],FzP.rows aq (azc.2 rfl) rfl⟩ ?_
 have e:=h0.1
 rw[az0 (by omega)]at e
 rw[e]
theorem afn(f:GFm)(hf:FitFm f)(p:Pt)(h0:f=ptF p)(ho:(d7 (tmA f.e_.o_)).length<=4096):PRet prog 72 [.agg (fmA f)] (fun q=>q=isA (inF f)):=by
 subst h0;cases p with
 |kn b=>
  have h:=afp (ptF (.kn b)) hf (by show¬(if b=true then(0:Int)else 1)=2;split<;>decide) rfl
  rwa [show inF (ptF (.kn b))=[]from by unfold inF;rw[azf (by show¬(if b=true then(0:Int)else 1)=2;split<;>decide)]]
 |pat a=>exact afo (ptF (.pat a)) hf rfl (azp ho (by decide))
def Ze(vs:List Int)(h0:bq vs (fun _=>True))(h1:vs.length<=100000):jy prog 69 [.tree 1 (vs.map iA),vB true] [] [(0,some ⟨0,rF fmA (jk 0 vs),11,Nat.beq (jk 0 vs).length 0⟩)] (.sl 0 0 0 (jk 0 vs).length):=Sy vs true h0 h1
def Zf(vs:List Int)(h0:bq vs (fun _=>True))(h1:vs.length<=100000):jy prog 69 [.tree 1 (vs.map iA),vB false] [] [(0,some ⟨0,rF fmA (jk 1 vs),11,Nat.beq (jk 1 vs).length 0⟩)] (.sl 0 0 0 (jk 1 vs).length):=Sy vs false h0 h1
def Fx(x:GEx)(hx:FitEx x)(l:List PVar)(hl:bq l (fun y=>True))(m:Int)(hm:0<=m/\m<=3)(hc:CondE l (exA x))(g2:IsSh 12 (exA x))(ih:∀r∈x.b_,CondE l r->IsSh 12 r->∀m,(0<=m/\m<=3)->PRet prog 30 [.agg (rwA r),.tree 5 (l.map vA),vI m] (fun q=>∃(f:GFm) (e:Int),q=.tup [.agg (fmA f),vI e]/\FitFm f/\FmR (trS l r m) f e)):PRet prog 30 [.agg (exA x),.tree 5 (l.map vA),vI m] (fun q=>∃(f:GFm) (e:Int),q=.tup [.agg (fmA f),vI e]/\FitFm f/\FmR (trS l (exA x) m) f e):=by
 have hco:=U9 hc;obtain⟨d11,hd11,hsh0,h7⟩:=fx g2;obtain rfl:d11=11:=by omega
 have hv:∀r∈x.b_,IsSh 12 r:=fun r hr=>(h7 r hr).mono;have hoce:(dw (exA x)).length+1<=8192:=D3 (exA x) (ko hx) 12 g2
 have g3:(srtU (dw (exA x))).length<=8192:=azp (db _) (by omega);refine ovT [31,41,67,74,160,167,176,183] [35,38,44] func30 rfl rfl (cB (fun h=>?_) fun h=>cB (fun h=>?_) fun h=>cB (fun h=>?_) fun h=>cB (fun h=>?_) fun h=>?_);rotate_left 2
 ·have hp:x.op_=20:=by simpa using h
  have ho:=Vb hc hp;have ht:=ho.1
  refine IdxG.of (j:=0) (by omega) (OpG.lk (ci n6 rfl (jd (hx.b_.2 _ (ay7 _)))) (ArgG.mk (Ot m hm) rfl ?_));rintro _ rfl;refine ArgG.mk (ih x.b_[0] (ay7 _) (ho.2 _ (ay7 _)) (hv _ (ay7 _)) (Ii m) (by unfold Ii;split<;>(try split)<;>(try split)<;>omega)) (by simp[bz,AV.pureB,kc (hx.b_.2 _ (ay7 _))]) ?_;rintro _ ⟨f5,e5,rfl,g7,g8⟩;exact⟨rfl,.inr rfl,_,dh rfl (afe.cellN f30 bu rfl rfl rfl rfl rfl ⟨[],FzP.pure rfl⟩) (afe.tmp ⟨[],FzP.pure rfl⟩),f5,e5,rfl,g7,(Yg hp ht).symm▸g8⟩
 ·have h6:x.op_=17:=by simpa using h
  have ht:=(Vd hc h6).1;obtain⟨a0,hq,ha0⟩:=(hx.b_.2 (x.b_[0]'(by omega)) (ay7 _)).open_;have h8:x.b_=[exA a0]:=co (by omega) hq
  apply cB<;>intro h
  all_goals
   refine ArgG.mk (Cn (exA x) (ko hx)) rfl ?_
   rintro _ ⟨bN,rfl,hs⟩
   apply cB<;>intro hn
   ·refine ArgG.mk (m9 _) rfl ?_
    rintro _ rfl
    exact rtP rfl bu rfl ⟨cnF _,0,rfl,fe,fmY (af3 (by first|exact ps1 h|exact ps0 h) h6 h8 ((ada h6 h8).1 (hs.1 hn)))⟩
   refine ArgG.mk (ark _) rfl ?_
   rintro _ rfl
   refine ArgG.mk (xj (exA x) (ko hx) (by omega)) rfl ?_
   rintro _ rfl
   refine ArgG.mk (Zc (srtU (dw (exA x))) ⟨by omega,fun _ _=>trivial⟩ _ (by omega)) rfl ?_
   rintro _ rfl
   refine ArgG.mk (Cq _ _ (by rw[d9];omega) k9) rfl ?_
   rintro _ ⟨y,rfl,hy,hd⟩
   exact⟨rfl,.inr rfl,_,dh rfl (afe.cellN f30 bu rfl rfl rfl rfl rfl ⟨[],FzP.pure rfl⟩) (afe.tmp ⟨[],FzP.pure rfl⟩),y,0,rfl,hy,fmY (al5 h6 h8 (fun g=>by rw[hs.2 ((ada h6 h8).2 g)]at hn;cases hn) (by first|exact(ps1 h).symm|exact(ps0 h).symm) (sl_n hd h6 h8))⟩
 ·have hh:10<=x.op_/\x.op_<=16:=by simp_all;omega
  refine ArgG.mk (Cn (exA x) (ko hx)) rfl ?_;rintro _ ⟨bN,rfl,hs⟩;apply cB<;>intro h9
  ·apply cB<;>intro h
   all_goals
    refine ArgG.mk (m9 _) rfl ?_
    rintro _ rfl
    exact rtP rfl bu rfl ⟨cnF _,0,rfl,fe,fmY ((Ir hh).trans (ajp (by first|exact wk1 h|exact wk0 h) (hs.1 h9) (by omega)))⟩
  obtain⟨a0,a1,h8,g9,ga,_,_⟩:=Va hc hh.2;have g0:¬HasN (exA x):=fun h=>by rw[hs.2 h]at h9;cases h9
  have hM:∀a,exA a∈x.b_->¬HasN (exA a):=fun a ha h=>g0 (pf.2 (.inr ⟨_,ha,h⟩));have m0:exA a0∈x.b_:=by rw[h8];simp
  have m1:exA a1∈x.b_:=by rw[h8];simp
  apply cB<;>intro hg
  all_goals
   refine ArgG.mk (ahd x hx l hl _ a0 a1 (aab (hx.b_.2 _ m0)) (aab (hx.b_.2 _ m1)) h8 hh g9 ga (hM _ m0) (hM _ m1) (h7 _ m0) (h7 _ m1)) rfl ?_
   rintro _ ⟨f,e,rfl,hf,hr⟩
   first|rw[ng1 hg hm]at hr|rw[ng0 hg hm]at hr
   apply cB<;>intro he
   ·have he:=hr.2 (by simpa using he)
    exact rtC rfl bu rfl ⟨[],i6⟩ ⟨cnF true,e,rfl,fe,fmN ((Ir hh).trans (aq0 g0 h8 (Y2 he.1))) he.2⟩
   obtain⟨p,g4,hi⟩:=ag4 (hr.1 (by simpa using he))
   have g1:=anj (hx.b_.2 _ m0) (hx.b_.2 _ m1) (h7 _ m0) (h7 _ m1) g4 hi
   have F:∀g,_->FmR (trS l (exA x) m) g 0:=fun g hg=>fmY ((Ir hh).trans (Ht g0 h8 g4 hg))
  refine cB (fun z=>by simp at z hg;omega) fun _=>cB (fun _=>?_) fun z=>by simp at z hg;omega
  rotate_left;refine cB (fun h=>cT ?_) (fun h=>cB (fun z=>by simp at z hg;omega) fun _=>?_);rotate_left;simp at hg h;have hw:=st0 hm (by omega) (by omega)
  refine cB (fun h0=>rtP rfl bu rfl ⟨f,0,rfl,hf,F _ (rw_1 hw hi (by simpa using h0))⟩) (fun h0=>ArgG.mk (xj (exA x) (ko hx) (by omega)) rfl ?_);rintro _ rfl;refine OpG.mk _ _ _ 4 (bg [(0,3)] arl (Ze (srtU (dw (exA x))) ⟨by omega,fun _ _=>trivial⟩ (by omega)) rfl rfl rfl rfl trivial trivial ⟨c9 aq _ _,trivial⟩ rfl rfl rfl rfl (bv aq rfl) rfl) rfl rfl (cB (fun h1=>?_) (fun h1=>?_));refine OpG.mk _ _ _ 5 (ah aq (l:=(jk 0 (srtU (dw (exA x))))) (a:=f) underlying67 zv yr Bx rfl rfl rfl (am rfl rfl rfl rfl) rfl (by rw[d9];omega) (by rw[d9];omega) (by decide)) rfl rfl (RegG.via (fun _ h=>bc [3] 21 (.tree 11 (((jk 0 (srtU (dw (exA x))))++[f]).map fmA)) (FzP.rows aq (azc.2 rfl) rfl) rfl h) (ay ?_));refine ArgG.mk (Cq 1 _ (by(rw[azb,d9];simp only[azu,azv];omega)) (jm k9 hf)) rfl ?_;rintro _ ⟨y,rfl,hy,hd⟩;exact rtP rfl bu rfl ⟨y,0,rfl,hy,F _ (rw_2 hw hi (by simpa using h1) (avw hh.1) hd)⟩;refine RegG.via (fun _ h=>bc [3] 21 (.tree 11 ((jk 0 (srtU (dw (exA x)))).map fmA)) (FzP.rows aq (azc.2 rfl) rfl) rfl h) (ay ?_);refine ArgG.mk (Cq 1 _ (by rw[d9];omega) k9) rfl ?_;rintro _ ⟨y,rfl,hy,hd⟩;exact rtP rfl bu rfl ⟨y,0,rfl,hy,F _ (rw_3 hw hi (by simpa using h0) (by simpa using h1) (avw hh.1) hd)⟩
  all_goals
   have hw:=st1 (m:=m) (by simp_all)
   apply cB<;>intro h0
   ·exact rtP rfl bu rfl ⟨f,0,rfl,hf,F _ (rs_1 hw hi (by simpa using h0))⟩
   refine ArgG.mk (afn f hf p hi g1) rfl ?_
   rintro _ rfl
   refine ArgG.mk (xj (exA x) (ko hx) (by omega)) rfl ?_
   rintro _ rfl
   refine LpG.via (fun _ h=>bl 17 1 rfl 4 rfl h) ?_
   refine LpG.on (fun k1:KL Int=>(⟨fL [(6,.ptr 1 0 0),(14,.ptr 2 0 0),(16,.tree 1 (((inF f)).map iA)),(17,.sl 3 k1.L.length 0 k1.L.length),(18,.tree 1 (((srtU (dw (exA x)))).map iA)),(19,vI k1.k)],hLz [(1,⟨0,[vI 0,vI 0,vI 0,vI 0,vI 0,.v (.slice none 0 0),vI 0,vI 0,vB false,.v (.string ⟨#[]⟩),.v (.slice none 0 0)],0,false⟩),(2,⟨0,fmA f,0,false⟩),(3,⟨k1.L.length,rF iA k1.L,1,Nat.beq k1.L.length 0⟩)],4⟩:St)) (fun k1=>(((srtU (dw (exA x)))).length-k1.k)) (fun k1=>(k1.k<=((srtU (dw (exA x)))).length/\(k1.L=((srtU (dw (exA x))).take k1.k).filter (kpB (inF f))))) (⟨0,[]⟩:KL Int) (cnS (by rfl) (hpR rfl (hpR rfl (hpS (ab ai _ _) (by rfl) trivial)))) ⟨azk _,rfl⟩ ?_
   rintro k1 ⟨hle_k1,h5⟩
   refine LenG.of (cB (fun hb=>?_) (fun hb=>?_))
   ·have h4:k1.k<((srtU (dw (exA x)))).length:=Int.ofNat_lt.1 (azi hb)
    have gb:k1.L.length<=8192:=by rw[h5];exact azp r8 g3
    refine IdxG.of h4 (ArgG.mk (Z5 (inF f) ⟨by have:=air (f:=f);omega,fun _ _=>trivial⟩ _) rfl ?_)
    rintro _ rfl
    apply cB<;>intro hj
    ·exact IdxG.of h4 (OpG.mk _ _ _ 5 (ah ai (a:=((srtU (dw (exA x)))[k1.k])) underlying53 sz3 zr3 by3 rfl rfl rfl (am rfl rfl rfl rfl) rfl (by omega) (by omega) (by unfold TV;omega)) rfl rfl ⟨by omega,(⟨k1.k+1,k1.L++[((srtU (dw (exA x)))[k1.k])]⟩:KL Int),(by show((srtU (dw (exA x)))).length-(k1.k+1)<((srtU (dw (exA x)))).length-k1.k;omega),(cO (.cons rfl rfl (.cons rfl rfl (.cons rfl rfl (.cons (by(rw[azb];rfl)) rfl (.cons rfl rfl (.cons rfl rfl .nil)))))) (.cons rfl rfl rfl (.cons rfl rfl rfl (.cons (by(rw[azb];rfl)) rfl (ab ai _ _) .nil)))),‹_›,by show _++[_]=_;rw[pg h4,<-h5,azg (show kpB (inF f) _=true from hj)]⟩)
    exact⟨by omega,(⟨k1.k+1,k1.L⟩:KL Int),(by show((srtU (dw (exA x)))).length-(k1.k+1)<((srtU (dw (exA x)))).length-k1.k;omega),(cnS (by rfl) (hpR rfl (hpR rfl (hpS (ab ai _ _) (by rfl) trivial)))),‹_›,by show k1.L=_;rw[pg h4,<-h5,azf (by unfold kpB;rw[hj];decide),List.append_nil]⟩
   have hu:=ai7 h5 fun h=>azh hb (Int.ofNat_lt.2 h)
   have gb:k1.L.length<=8192:=by rw[hu];exact azp (List.length_filter_le _ _) g3
   rw[avw hh.1]at hu
   refine RegG.via (fun _ h=>bc [3] 17 (isA k1.L) (FzP.rows ai (azc.2 rfl) rfl) rfl h) (ay ?_)
   refine OpG.mk _ _ _ 5 (bg [(0,4)] arl (Zf k1.L ⟨by omega,fun _ _=>trivial⟩ (by omega)) rfl rfl rfl rfl trivial trivial ⟨c9 aq _ _,trivial⟩ rfl rfl rfl rfl (bv aq rfl) rfl) rfl rfl (cB (fun h1=>?_) (fun h1=>?_))
   ·refine OpG.mk _ _ _ 6 (ah aq (l:=(jk 1 k1.L)) (a:=f) underlying67 zv yr Bx rfl rfl rfl (am rfl rfl rfl rfl) rfl (by rw[d9];omega) (by rw[d9];omega) (by decide)) rfl rfl (RegG.via (fun _ h=>bc [4] 20 (.tree 11 (((jk 1 k1.L)++[f]).map fmA)) (FzP.rows aq (azc.2 rfl) rfl) rfl h) (ay ?_))
    refine ArgG.mk (Cq 0 _ (by(rw[azb,d9];simp only[azu,azv];omega)) (jm k9 hf)) rfl ?_
    rintro _ ⟨y,rfl,hy,hd⟩
    exact rtP rfl bu rfl ⟨y,0,rfl,hy,F _ (rs_2 hw hi (by simpa using h1) hu hd)⟩
   refine RegG.via (fun _ h=>bc [4] 20 (.tree 11 ((jk 1 k1.L).map fmA)) (FzP.rows aq (azc.2 rfl) rfl) rfl h) (ay ?_)
   refine ArgG.mk (Cq 0 _ (by rw[d9];omega) k9) rfl ?_
   rintro _ ⟨y,rfl,hy,hd⟩
   exact rtP rfl bu rfl ⟨y,0,rfl,hy,F _ (rs_3 hw hi (by simpa using h0) (by simpa using h1) hu hd)⟩
 all_goals
  have hk:x.op_=18\/x.op_=19:=by simp at h;omega
  have ho:=Vc hc hk
  have ht:=ho.1
  try refine cB (fun _=>?_) (fun hz=>by simp_all)
  refine IdxG.of (j:=0) (by omega) (OpG.lk (ci n6 rfl (jd (hx.b_.2 _ (ay7 _)))) ?_)
  refine ArgG.mk (ih x.b_[0] (ay7 _) (ho.2 _ (ay7 _)) (hv _ (ay7 _)) m hm) (by simp[bz,AV.pureB,kc (hx.b_.2 _ (ay7 _))]) ?_
  rintro _ ⟨f0,e0,rfl,gc,g5⟩
  refine IdxG.of (j:=1) (by omega) (OpG.lk (ci n6 rfl (jd (hx.b_.2 _ (ay7 _)))) ?_)
  refine ArgG.mk (ih x.b_[1] (ay7 _) (ho.2 _ (ay7 _)) (hv _ (ay7 _)) m hm) (by simp[bz,AV.pureB,kc (hx.b_.2 _ (ay7 _))]) ?_
  rintro _ ⟨f1,e1,rfl,gd,g6⟩
  have T:=congrArg (fun z=>km l z m) (alz ht)
  apply cB<;>intro h0
  ·exact cT (rtC rfl bu rfl ⟨[],i6⟩ ⟨cnF true,3,rfl,fe,fmN (Qy hk (T.trans (al3 (g5.2 (by simpa using h0)).1))) rfl⟩)
  apply cB<;>intro h1
  ·exact rtC rfl bu rfl ⟨[],i6⟩ ⟨cnF true,3,rfl,fe,fmN (Qy hk (T.trans (al2 (g6.2 (by simpa using h1)).1))) rfl⟩
  have ge:=T.trans (aun (g5.1 (by simpa using h0)) (g6.1 (by simpa using h1)))
  refine cB (fun h2=>cB (fun h3=>?_) fun h3=>?_) (fun h2=>cB (fun h3=>?_) fun h3=>?_)
  all_goals exact OpG.nw (cm (de underlying67 zv yr rfl rfl rfl rfl) (fun η' h=>ba (f:=fmA) (l:=[f0,f1]) (azc.2 rfl) h rfl rfl rfl rfl rfl (fun a _=>⟨rfl,rfl⟩))) rfl (rtC rfl bu rfl ⟨[],Bt⟩ ⟨⟨_,zAt,_⟩,0,rfl,fit2 gc gd,fmY (al4 hk ge (by first|exact kdR1 hk hm (b1R h2) h3 rfl|exact kdR0 hk hm (b1R h2) h3 rfl|exact kdR1 hk hm (b0R h2) h3 rfl|exact kdR0 hk hm (b0R h2) h3 rfl))⟩)
def xq(l:List PVar)(hl:bq l (fun _=>True))(r:List AV)(hr:IsEx r):CondE l r->IsSh 12 r->∀m,(0<=m/\m<=3)->PRet prog 30 [.agg (rwA r),.tree 5 (l.map vA),vI m] (fun q=>∃(f:GFm) (e:Int),q=.tup [.agg (fmA f),vI e]/\FitFm f/\FmR (trS l r m) f e):=IsEx.ind (M:=fun r=>CondE l r->IsSh 12 r->∀m,(0<=m/\m<=3)->PRet prog 30 [.agg (rwA r),.tree 5 (l.map vA),vI m] (fun q=>∃(f:GFm) (e:Int),q=.tup [.agg (fmA f),vI e]/\FitFm f/\FmR (trS l r m) f e)) (fun x hx ih hc hs m hm=>Fx x hx l hl m hm hc hs ih) hr
end Go.Proofs.YtfpfdfhlljjckaaGreatDoor
