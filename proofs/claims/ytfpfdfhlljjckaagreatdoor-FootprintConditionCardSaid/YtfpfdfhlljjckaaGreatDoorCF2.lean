/- Texts of the claim. -/
import Derived.Test.YtfpfdfhlljjckaaGreatDoorCF1
import Derived.Test.YtfpfdfhlljjckaaGreatDoorCQ2
set_option linter.all false
namespace Go.Proofs.YtfpfdfhlljjckaaGreatDoor
open Tryz
set_option maxRecDepth 1000000
set_option maxHeartbeats 0
set_option linter.unusedVariables false
set_option linter.unusedSimpArgs false
open Go.RowKit
variable{x:GEx}{p:GPart}{t u:GTm}{a v:GVal}{b n op:Int}{es l rs:List (List AV)}{cs e:List AV}{r:List GVal}{fp:List Nat}{d i j k:Nat}
structure K1 where
 k:Nat
def ca:ey prog 62=some (some 2):=by kernel_rfl
def Sf(p:GPart)(hp:FitPart p)(q:GPart)(hq:FitPart q)(ih:∀r∈p.of_,∀s,IsTm s->PRet prog 287 [.agg (rwA r),.agg (rwA s)] (fun q=>q=vI (lx (cdT r) (cdT s)))):PRet prog 246 [.agg (ptA p),.agg (ptA q)] (fun r=>r=vI (jo p q)):=by refine ovT [55,59] [] func246 rfl rfl (cN (fun h2=>?_) (fun h2=>?_));refine ArgG.mk (lb p.c_ q.c_) rfl ?_;rintro _ ⟨i0,rfl,h3⟩;refine rV rfl rfl (congrArg vI ?_);exact M8 ‹_› h3;apply cN<;>intro hq19;refine ArgG.mk (lb p.p_ q.p_) rfl ?_;rintro _ ⟨i1,rfl,h4⟩;refine rV rfl rfl (congrArg vI ?_);exact Vr ‹_› ‹_› h4;apply cN<;>intro hq29;refine ArgG.mk (lb p.by_ q.by_) rfl ?_;rintro _ ⟨i2,rfl,h5⟩;refine rV rfl rfl (congrArg vI ?_);exact aeb ‹_› ‹_› ‹_› h5;refine LenG.of (cE (fun h0=>?_) (fun h0=>?_));refine cT (LenG.of ?_);refine LenG.of (ArgG.mk (lb ((p.of_.length:Nat):Int) ((q.of_.length:Nat):Int)) rfl ?_);rintro _ ⟨i3,rfl,h6⟩;refine rV rfl rfl (congrArg vI ?_);exact Vt hp.kd hq.kd ‹_› ‹_› ‹_› (by omega) h6;refine LenG.of (cE (fun h1=>?_) (fun h1=>?_));refine LenG.of (LenG.of ?_);refine ArgG.mk (lb ((p.of_.length:Nat):Int) ((q.of_.length:Nat):Int)) rfl ?_;rintro _ ⟨i4,rfl,h7⟩;refine rV rfl rfl (congrArg vI ?_);exact Vt hp.kd hq.kd ‹_› ‹_› ‹_› (by omega) h7;refine IdxG.of (j:=0) (by omega) (OpG.lk (ci ca rfl (Ca (hp.of_.2 _ (ay7 _)))) ?_);refine IdxG.of (j:=0) (by omega) (OpG.lk (ci ca rfl (Ca (hq.of_.2 _ (ay7 _)))) ?_);refine ArgG.mk (ih (p.of_[0]) (ay7 _) (q.of_[0]) (hq.of_.2 _ (ay7 _))) (show bz [.agg (rwA p.of_[0]),.agg (rwA q.of_[0])]=true by simp[bz,AV.pureB,Cb (hp.of_.2 _ (ay7 _)),Cb (hq.of_.2 _ (ay7 _))]) ?_;rintro _ rfl;refine⟨by kernel_rfl,rV rfl rfl ?_⟩;exact congrArg vI (aea ‹_› ‹_› ‹_› (by omega) (by omega) rfl)
def Vi(x:GTm)(hx:FitTm x)(y:GTm)(hy:FitTm y)(ih:∀p∈x.a_,∀r∈p.of_,∀s,IsTm s->PRet prog 287 [.agg (rwA r),.agg (rwA s)] (fun q=>q=vI (lx (cdT r) (cdT s)))):PRet prog 287 [.agg (tmA x),.agg (tmA y)] (fun r=>r=vI (lx (cdT (tmA x)) (cdT (tmA y)))):=by refine ovT [] [] func287 rfl rfl (LpG.on (fun k0:K1=>(⟨fL [(2,.ptr 0 0 0),(3,.ptr 1 0 0),(5,vI k0.k)],hLz [(0,⟨0,tmA x,0,false⟩),(1,⟨0,tmA y,0,false⟩)],2⟩:St)) (fun k0=>(x.a_.length-k0.k)) (fun k0=>(k0.k<=x.a_.length/\(k0.k<=y.a_.length/\CmI x y k0.k))) (⟨0⟩:K1) (cnR rfl) ⟨azk _,⟨azk _,cmI0 x y⟩⟩ ?_);rintro k0 h8;have hgr_k0:x.a_.length<=140737488355328:=hx.a_.1;obtain⟨h1,h0⟩:=h8;refine LenG.of (cL (fun h2=>?_) (fun hge12=>?_));refine LenG.of (cL (fun h3=>?_) (fun hge18=>?_));refine IdxG.of ‹_› (IdxG.of ‹_› ?_);refine ArgG.mk (Sf (x.a_[k0.k]) (hx.a_.2 _ (ay7 _)) (y.a_[k0.k]) (hy.a_.2 _ (ay7 _)) (ih _ (ay7 _))) rfl ?_;rintro _ rfl;refine⟨by kernel_rfl,cN (fun h4=>?_) (fun h4=>?_)⟩;refine rV rfl rfl ?_;have h5:=h0.1;exact congrArg vI (Vx hx hy h0.2 h2 h3 h4);refine IdxG.of ‹_› (IdxG.of ‹_› ?_);refine⟨by kernel_rfl,cN (fun h6=>?_) (fun h6=>?_)⟩;refine IdxG.of ‹_› (IdxG.of ‹_› ?_);refine ArgG.mk (lb (x.a_[k0.k].i_) (y.a_[k0.k].i_)) rfl ?_;rintro _ ⟨i1,rfl,h9⟩;refine⟨by kernel_rfl,rV rfl rfl ?_⟩;have h5:=h0.1;exact congrArg vI (V0 hx hy h0.2 h2 h3 h4 h6 h9);refine⟨by omega,⟨(⟨k0.k+1⟩:K1),(nsA ‹_›),(cnR rfl),?_⟩⟩;exact⟨‹_›,⟨‹_›,Vy hx hy h0.2 h2 h3 h4 h6⟩⟩;refine LenG.of (LenG.of ?_);apply cN<;>intro h7;refine LenG.of (LenG.of ?_);refine ArgG.mk (lb ((x.a_.length:Nat):Int) ((y.a_.length:Nat):Int)) rfl ?_;rintro _ ⟨i2,rfl,ha⟩;refine rV rfl rfl ?_;have h5:=h0.1;exact congrArg vI (Vz hx hy h0.2 h1 h5 (by omega) (by omega) ha);refine ArgG.mk (lb x.f_ y.f_) rfl ?_;rintro _ ⟨i3,rfl,hb⟩;refine rV rfl rfl ?_;have h5:=h0.1;exact congrArg vI (Ew hx hy h0.2 h1 h5 (by omega) (by omega) hb);refine cF (LenG.of ?_);refine LenG.of (cN (fun h7=>?_) (fun h7=>?_));refine LenG.of (LenG.of ?_);refine ArgG.mk (lb ((x.a_.length:Nat):Int) ((y.a_.length:Nat):Int)) rfl ?_;rintro _ ⟨i4,rfl,hc⟩;refine rV rfl rfl ?_;have h5:=h0.1;exact congrArg vI (Vz hx hy h0.2 h1 h5 (by omega) (by omega) hc);refine ArgG.mk (lb x.f_ y.f_) rfl ?_;rintro _ ⟨i5,rfl,hd⟩;refine rV rfl rfl ?_;have h5:=h0.1;exact congrArg vI (Ew hx hy h0.2 h1 h5 (by omega) (by omega) hd)
def Vj(r:List AV)(hr:IsTm r):∀s,IsTm s->PRet prog 287 [.agg (rwA r),.agg (rwA s)] (fun q=>q=vI (lx (cdT r) (cdT s))):=IsTm.ind (M:=fun r=>∀s,IsTm s->PRet prog 287 [.agg (rwA r),.agg (rwA s)] (fun q=>q=vI (lx (cdT r) (cdT s)))) (fun x hx ih s hs=>by obtain⟨y,rfl,hy⟩:=hs.open_;exact Vi x hx y hy ih) hr
def ahc(p:GPart)(hp:FitPart p)(q:GPart)(hq:FitPart q):PRet prog 246 [.agg (ptA p),.agg (ptA q)] (fun r=>r=vI (jo p q)):=Sf p hp q hq (fun r hr=>Vj r (hp.of_.2 r hr))
def be:RowF ptA 5:=⟨fun _=>rfl,fun _=>rfl,fun _ _=>rfl,fun _ _=>rfl,fun _ _=>rfl,fun _=>rfl⟩
def yn:(prog.info? 206).map (·.bytes)=some 56:=by kernel_rfl
def nu:aj prog 206=some 5:=by kernel_rfl
def qn:bp prog 206=some (.agg #[.int .i64 0,.int .i64 0,.int .i64 0,.int .i64 0,.slice none 0 0]):=by kernel_rfl
def Z0(l:List GPart)(hl:bq l (fun y=>FitPart y))(p:GPart)(hp:FitPart p)(M N:Int)(hM:0<=M/\M<=1152921504606846976)(hN:0<=N/\N<=1152921504606846976)(hl2:l.length<=500000)(hc:Cf M l)(hp2:-N<=p.i_/\p.i_<=N):PRet prog 208 [.tree 5 (l.map ptA),.agg (ptA p)] (fun r=>r=.tree 5 ((j9 p l).map ptA)):=by refine ovT [] [] func208 rfl rfl (LpG.via (fun _ h=>bl 5 5 rfl 2 rfl h) ?_);refine LpG.on (fun k0:KI=>(⟨fL [(0,.tree 5 (l.map ptA)),(3,.ptr 0 0 0),(5,.sl 1 k0.L.length 0 k0.L.length),(6,vB k0.put),(7,vI k0.k)],hLz [(0,⟨0,ptA p,0,false⟩),(1,⟨k0.L.length,rF ptA k0.L,5,Nat.beq k0.L.length 0⟩)],2⟩:St)) (fun k0=>(l.length-k0.k)) (fun k0=>(k0.k<=l.length/\Kp l p k0)) (⟨0,[],false⟩:KI) (cnS (by rfl) (hpR rfl (hpS (ab be _ _) (by rfl) trivial))) ⟨azk _,ins0⟩ ?_;rintro k0 h8;have hgr_k0:l.length<=140737488355328:=hl.1;obtain⟨hle_k0,h0⟩:=h8;refine LenG.of (cL (fun h1=>?_) (fun h3=>?_));have h7:=hl.2 _ (ay7 h1);have hck:=hc _ (ay7 h1);have h9:=Mr h0;apply cB<;>intro h2;refine IdxG.of ‹_› (ArgG.mk (ahc (l[k0.k]) (hl.2 _ (ay7 _)) p hp) rfl ?_);rintro _ rfl;refine⟨by kernel_rfl,cE (fun h4=>?_) (fun h4=>?_)⟩;refine IdxG.of ‹_› ⟨by omega,cB (fun h5=>?_) (fun h5=>?_)⟩;refine OpG.mk _ _ _ 4 (ah be (a:=({l[k0.k]with i_:=l[k0.k].i_+p.i_}:GPart)) underlying60 nu qn yn rfl rfl rfl (am rfl rfl rfl rfl) rfl (by omega) (by omega) (by unfold TV;omega)) rfl rfl ⟨by omega,⟨(⟨k0.k+1,k0.L++[({l[k0.k]with i_:=l[k0.k].i_+p.i_}:GPart)],true⟩:KI),(nsA ‹_›),(cO (.cons rfl rfl (.cons rfl rfl (.cons (by(rw[azb];rfl)) rfl (.cons rfl rfl (.cons rfl rfl .nil))))) (.cons rfl rfl rfl (.cons (by(rw[azb];rfl)) rfl (ab be _ _) .nil))),?_⟩⟩;exact⟨‹_›,aio h0 (by simpa using h2) h1 h4 h7 (by simpa using h5)⟩;refine⟨by omega,⟨(⟨k0.k+1,k0.L,true⟩:KI),(nsA ‹_›),(cnS (by rfl) (hpR rfl (hpS (ab be _ _) (by rfl) trivial))),?_⟩⟩;exact⟨‹_›,aip h0 (by simpa using h2) h1 h4 (by simpa using h5)⟩;apply cD<;>intro hq44;refine OpG.mk _ _ _ 3 (ah be (a:=p) underlying60 nu qn yn rfl rfl rfl (am rfl rfl rfl rfl) rfl (by omega) (by omega) (by unfold TV;omega)) rfl rfl (IdxG.of ‹_› ?_);refine OpG.mk _ _ _ 4 (ah be (a:=(l[k0.k])) underlying60 nu qn yn rfl rfl rfl (am rfl rfl rfl rfl) rfl (by(simp only[azb,azu,azv];omega)) (by(simp only[azb,azu,azv];omega)) (by unfold TV;omega)) rfl rfl ⟨by omega,⟨(⟨k0.k+1,k0.L++[p]++[(l[k0.k])],true⟩:KI),(nsA ‹_›),(cO (.cons rfl rfl (.cons rfl rfl (.cons (by(rw[azb,azb,azb];rfl)) rfl (.cons rfl rfl (.cons rfl rfl .nil))))) (.cons rfl rfl rfl (.cons (by(rw[azb,azb,azb];rfl)) rfl (ab be _ _) .nil))),?_⟩⟩;exact⟨‹_›,apo h0 (by simpa using h2) h1 (by omega) h7 hp⟩;refine IdxG.of ‹_› (OpG.mk _ _ _ 3 (ah be (a:=(l[k0.k])) underlying60 nu qn yn rfl rfl rfl (am rfl rfl rfl rfl) rfl (by omega) (by omega) (by unfold TV;omega)) rfl rfl ?_);refine⟨by omega,⟨(⟨k0.k+1,k0.L++[(l[k0.k])],k0.put⟩:KI),(nsA ‹_›),(cO (.cons rfl rfl (.cons rfl rfl (.cons (by(rw[azb];rfl)) rfl (.cons rfl rfl (.cons rfl rfl .nil))))) (.cons rfl rfl rfl (.cons (by(rw[azb];rfl)) rfl (ab be _ _) .nil))),?_⟩⟩;exact⟨‹_›,T2 h0 h1 h7 (.inr (by omega))⟩;refine cF (cF ?_);refine IdxG.of ‹_› (OpG.mk _ _ _ 3 (ah be (a:=(l[k0.k])) underlying60 nu qn yn rfl rfl rfl (am rfl rfl rfl rfl) rfl (by omega) (by omega) (by unfold TV;omega)) rfl rfl ?_);refine⟨by omega,⟨(⟨k0.k+1,k0.L++[(l[k0.k])],k0.put⟩:KI),(nsA ‹_›),(cO (.cons rfl rfl (.cons rfl rfl (.cons (by(rw[azb];rfl)) rfl (.cons rfl rfl (.cons rfl rfl .nil))))) (.cons rfl rfl rfl (.cons (by(rw[azb];rfl)) rfl (ab be _ _) .nil))),?_⟩⟩;exact⟨‹_›,T2 h0 h1 h7 (.inl (by simpa using h2))⟩;have h9:=Mr h0;apply cB<;>intro h6;exact OpG.mk _ _ _ 3 (ah be (a:=p) underlying60 nu qn yn rfl rfl rfl (am rfl rfl rfl rfl) rfl (by omega) (by omega) (by unfold TV;omega)) rfl rfl (rtA rfl ⟨[1],FzP.rows be (azc.2 rfl) rfl⟩ (congrArg (fun z:List GPart=>AV.tree 5 (z.map ptA)) (aiq h0 h3 (by simpa using h6))));exact rtA rfl ⟨[1],FzP.rows be (azc.2 rfl) rfl⟩ (congrArg (fun z:List GPart=>AV.tree 5 (z.map ptA)) (app h0 h3 (by simpa using h6)))
def ama{v:Int}(hv:0<=v/\v<=1152921504606846977)(hb:1<=b/\b<=1000):0<=v.tdiv b/\v.tdiv b<=1152921504606846977:=by rw[Int.tdiv_eq_ediv_of_nonneg hv.1];exact⟨Int.ediv_nonneg hv.1 (by omega),Int.le_trans (Int.ediv_le_self _ hv.1) hv.2⟩
def aj5{r:List AV}(h:IsTm r):0<=zj r/\zj r<=1152921504606846977:=by
 obtain⟨x,rfl,hx⟩:=h.open_;unfold zj;split;rename_i e;have:=(Ws h).1;have:=((fb x).1 e).2;omega
 unfold big;omega
theorem bdK2(h:p.c_=2)(hp:FitPart p)(hl:0<p.of_.length):(zj p.of_[0]).tdiv p.by_+1=bdK p:=by
 unfold bdK;rw[azg h];have e:zj p.of_[0]=bdL p.of_[0]:=by unfold zj;rw[azg (hp.sm _ (ay7 hl))]
 rw[e];match h0:p.of_,hl with
 |r::_,_=>simp only[h0,List.getElem_cons_zero,ale]
def bdK1(h:p.c_=1):16=bdK p:=by unfold bdK;rw[azf (by omega),azg h]
def bdK0(h:¬p.c_=2):p.c_=1\/2147483648=bdK p:=by grind[bdK]
def Q0(a:Int)(b:Int):PRet prog 207 [vI a,vI b] (fun r=>∃v:Int,r=vI v/\v=xr a b):=by
 refine ovT [24,29] [] func207 rfl rfl (cE (fun h8=>cT (rV rfl rfl ⟨_,rfl,yw (.inl ‹_›)⟩)) (fun h8=>cB (fun h0=>by have h3:(b:Int)=(0:Int):=(by simpa using h0);exact rV rfl rfl ⟨_,rfl,yw (.inr ‹_›)⟩) (fun h0=>have h3:¬((b:Int)=(0:Int)):=(by simpa using h0);have h9:b≠0:=(by simpa using h0);ArgG.mk (ry a ((-1152921504606846976)) 1152921504606846976) rfl ?_)));rintro _ ⟨b0,rfl,h6⟩;apply cB<;>intro h4
 have hb:cq a>1152921504606846976:=by
  have h1:¬(-1152921504606846976<=a/\a<=1152921504606846976):=fun h=>by have:=h6.2 h;simp_all
  have:=ap a;omega
 exact cT (cT (rV rfl rfl ⟨_,rfl,Is ‹_› ‹_› (.inl hb)⟩));have ha:=h6.1 (by simpa using h4)
 refine ArgG.mk (ry b ((-1152921504606846976)) 1152921504606846976) rfl ?_;rintro _ ⟨b1,rfl,h7⟩;apply cB<;>intro h5
 have hc:cq b>1152921504606846976:=by
  have h1:¬(-1152921504606846976<=b/\b<=1152921504606846976):=fun h=>by have:=h7.2 h;simp_all
  have:=ap b;omega
 exact cT (rV rfl rfl ⟨_,rfl,Is ‹_› ‹_› (.inr (.inl hc))⟩);have hbb:=h7.1 (by simpa using h5)
 refine ArgG.mk (Bp a (by omega)) rfl ?_;rintro _ rfl;have habs2:=ap a
 refine ArgG.mk (Bp b (by omega)) rfl ?_;rintro _ rfl;have habs3:=ap b
 refine OpG.lk (qg rfl rfl (by omega) (by omega) (by omega)) (cB (fun h2=>rV rfl rfl ⟨_,rfl,Is ‹_› ‹_› (.inr (.inr (azi h2)))⟩) (fun h2=>have hr:=al6 h9 (azh h2);?_));unfold big at hr;exact OpG.lk (ki rfl rfl (by omega) (by omega)) (rV rfl rfl ⟨_,rfl,hr.2⟩)
def aj3(x:GTm)(hx:FitTm x)(ih:∀p∈x.a_,∀r∈p.of_,PRet prog 284 [.agg (rwA r)] (fun q=>q=vI (zj r))):PRet prog 284 [.agg (tmA x)] (fun q=>q=vI (zj (tmA x))):=by
 refine ovT [35,39,40,54,63,64] [15] func284 rfl rfl (ArgG.mk (ry x.f_ (-1099511627776) 1099511627776) rfl ?_);have T:∀{z:Int},z=zj (tmA x)->vI z=vI (zj (tmA x)):=fun h=>by rw[h]
 rintro _ ⟨_|_,rfl,h9⟩;exact cT (rV rfl rfl (T (abc fun h=>by simp_all)));have h8:=h9.1 rfl
 have:=ap x.f_;refine cF (ArgG.mk (Bp x.f_ (by omega)) rfl ?_);rintro _ rfl;refine LpG.on (fun k0:KS=>(⟨fL [(1,.ptr 0 0 0),(3,vI k0.s),(4,vI k0.k)],hLz [(0,⟨0,tmA x,0,false⟩)],1⟩:St)) (fun k0=>(x.a_.length-k0.k)) (fun k0=>(k0.k<=x.a_.length/\BdI x k0)) (⟨0,_⟩:KS) (cnR rfl) ⟨azk _,bd0 h8⟩ ?_;rintro k0 ⟨hc,hi⟩;have hgr:x.a_.length<=140737488355328:=hx.a_.1
 refine LenG.of (cL (fun h4=>?_) (fun hd=>?_));rotate_left;exact rV rfl rfl (T (ash hi hd h8));have h7:=hx.a_.2 _ (ay7 h4)
 have he:=hi.1;have ha:=ap (x.a_[k0.k].i_)
 unfold big at he;have bf:∀{K},K=bdK x.a_[k0.k]->0<=K->_->0<=cq x.a_[k0.k].i_*K/\cq x.a_[k0.k].i_*K<=1152921504606846976:=fun _=>ae0
 refine IdxG.of h4 (cE (fun h1=>cE (fun _=>by omega) fun _=>have h3:=bdK1 h1;?_) (fun h1=>cE (fun h2=>?_) fun h2=>?_));rotate_left;have hf:=h7.kd.2.1 h2
 have hg:=aj5 (h7.of_.2 x.a_[k0.k].of_[0] (ay7 (by omega)));have htq:=ama hg hf.2
 have h3:=bdK2 h2 h7 (by omega);refine IdxG.of (j:=0) (by omega) (OpG.lk (ci ca rfl (Ca ((hx.a_.2 _ (ay7 _)).of_.2 _ (ay7 _)))) (ArgG.mk (ih x.a_[k0.k] (ay7 _) (x.a_[k0.k].of_[0]) (ay7 _)) (by simp[bz,AV.pureB,Cb ((hx.a_.2 _ (ay7 _)).of_.2 _ (ay7 _))]) ?_));rintro _ rfl;refine OpG.lk (qg rfl rfl (by omega) (by omega) (by omega)) (OpG.lk (lJ rfl rfl (by omega) (by omega)) ⟨rfl,?_⟩);rotate_left;have h3:=(bdK0 h2).resolve_left h1
 all_goals
  refine ArgG.mk (ry (x.a_[k0.k].i_) (-1048576) 1048576) rfl ?_
  rintro _ ⟨_|_,rfl,hb⟩
  ·exact cT (cT (rV rfl rfl (T (ake h4 fun h=>by simp_all))))
  have hh:=hb.1 rfl
  refine cF (cN (fun h0=>?_) (fun h0=>cF ?_))
  refine ArgG.mk (Bp _ (by omega)) rfl ?_
  rintro _ rfl
  refine OpG.lk (qg rfl rfl (by omega) (by omega) (by omega)) (cB (fun h5=>?_) (fun h5=>?_))
  ·refine rV rfl rfl (T (Wr hx h4 hi ?_))
   rw[<-h3]
   have hj:=ae1 h0 (by omega) (azi h5)
   unfold big at hj ⊢;omega
  have hk:=bf h3 (by omega) (.inr (azh h5))
  rotate_left
  have hk:=bf h3 (by omega) (.inl h0)
  all_goals
   refine ay (ArgG.mk (Bp _ (by omega)) rfl ?_)
   rintro _ rfl
   refine OpG.lk (ki rfl rfl (by omega) (by omega)) (OpG.lk (lJ rfl rfl (by omega) (by omega)) (cB (fun h6=>?_) (fun h6=>?_)))
   ·exact rV rfl rfl (T (Wr hx h4 hi (by rw[<-h3];exact azi h6)))
   have hc:=azh h6
   exact⟨by omega,(⟨k0.k+1,_⟩:KS),(nsA ‹_›),(cnR rfl),‹_›,akd hi h4 hh (by rw[<-h3]) (by unfold big;omega)⟩
def aj4(r:List AV)(hr:IsTm r):PRet prog 284 [.agg (rwA r)] (fun q=>q=vI (zj r)):=IsTm.ind (M:=fun r=>PRet prog 284 [.agg (rwA r)] (fun q=>q=vI (zj r))) (fun x hx ih=>aj3 x hx ih) hr
def afe.cellN{P:Program}{N:Nat}{s:St}{ret:AV}(fn:Func){t ty n id ver:Nat}{b:Blk}(ht:ey P ty=some (some n))(hx:s.τ t=.ptr id ver 0)(hb:s.η id=some b)(hv:b.ver=ver)(hn:b.nilp=false)(hl:b.cs.length=n)
 (h:∃fp,FzP fp s.η (.agg b.cs) ret):afe P N s (.cell t ty) ret:=
 yb (fn:={fn with results:=#[.cell t ty]}) rfl (P8.cell rfl ht hx hb hv hn hl h)
theorem ev{η:bm}:FzP fp η (.agg [vI 0,.v (.slice none 0 0)]) (.agg (tmA ⟨0,[]⟩)):=
 FzP.agg rfl (fun i h h'=>match i,h with
  |0,_=>FzP.pure rfl
  |1,_=>FzP.nil)
theorem Df{η:bm}(c:Int):FzP fp η (.agg [vI c,.v (.slice none 0 0)]) (.agg (tmA ⟨c,[]⟩)):=
 FzP.agg rfl (fun i h h'=>match i,h with
  |0,_=>FzP.pure rfl
  |1,_=>FzP.nil)
def wo(o:Option GTm)(t:GTm)(e:Int):Prop:=(e=0->o=some t)/\(e≠0->o=none/\e=3/\t=zT)
def At{x:GTm}(h:smR (tmA x)=true):wo (dt x) x 0:=⟨fun _=>by unfold dt;rw[azg h],fun h=>absurd rfl h⟩
def rd{x:GTm}(h:¬smR (tmA x)=true):wo (dt x) ⟨0,[]⟩ 3:=⟨fun h=>absurd h (by decide),fun _=>⟨by unfold dt;rw[azf h],rfl,rfl⟩⟩
structure AddI(x y:GTm)(s:KL GPart):Prop where
 eq:s.L=dx x.a_ (y.a_.take s.k)
 cf:Cf (1048576*((s.k:Int)+1)) s.L
def add0{x y:GTm}(hc:Fk x):AddI x y ⟨0,x.a_⟩:=⟨rfl,fun q hq=>by have:=hc.2 q hq;show -(1048576*(((0:Nat):Int)+1))<=_/\_<=1048576*(((0:Nat):Int)+1);omega⟩
section
variable{x y:GTm}{s:KL GPart}
def Xe(h:AddI x y s)(hk:s.k<=y.a_.length):s.L.length<=x.a_.length+s.k:=by rw[h.eq];have:=pc (y.a_.take s.k) x.a_;rw[List.length_take]at this;omega
def abn(h:AddI x y s)(hx:FitTm x)(hy:FitTm y)(hk:s.k<=y.a_.length)(hl:x.a_.length+y.a_.length<=140737488355328):bq s.L (fun p=>FitPart p):=
 ⟨by have:=Xe h hk;omega,by rw[h.eq];exact pd (fun q c hq=>r7 hq) hx.a_.2 (fun q hq=>hy.a_.2 q (List.mem_of_mem_take hq))⟩
def aks(h:AddI x y s)(h0:Fk y)(hk:s.k<y.a_.length):AddI x y ⟨s.k+1,j9 y.a_[s.k] s.L⟩:=by refine⟨by show j9 _ s.L=dx _ (y.a_.take (s.k+1));rw[Jp hk,h.eq],?_⟩;have:=T1 (N:=1048576) (by decide) (h0.2 _ (ay7 hk)) (by omega) h.cf;have e:1048576*((s.k:Int)+1)+1048576=1048576*(((s.k+1:Nat):Int)+1):=(by omega);rw[e]at this;exact this
theorem afd(h:AddI x y s)(h0:¬s.k<y.a_.length):(⟨x.f_+y.f_,s.L⟩:GTm)=qq x y:=by unfold qq;rw[h.eq,Oz h0]
end
def Ri(x:GTm)(hx:FitTm x):PRet prog 242 [.agg (tmA x)] (fun r=>∃b:Bool,r=vB b/\(b=true↔smR (tmA x)=true)):=by refine ovT [] [] func242 rfl rfl (ArgG.mk (aj4 (tmA x) (Cr hx)) rfl ?_);rintro _ rfl;exact rV rfl rfl ⟨_,rfl,by rw[decide_eq_true_iff];exact Wh⟩
def rc(x:GTm)(hx:FitTm x):PRet prog 205 [.agg (tmA x)] (fun r=>∃(t:GTm) (e:Int),r=.tup [.agg (tmA t),vI e]/\FitTm t/\wo (dt x) t e):=by refine ovT [] [] func205 rfl rfl (ArgG.mk (Ri x hx) rfl ?_);rintro _ ⟨b0,rfl,h0⟩;exact cB (fun h1=>rtC rfl ca rfl ⟨[],ev⟩ ⟨⟨0,[]⟩,3,rfl,c8,rd fun h=>by have:=h0.2 h;simp_all⟩) (fun h1=>rtP rfl ca rfl ⟨x,0,rfl,hx,At (h0.1 (by simpa using h1))⟩)
def Kj(x:GTm)(hx:FitTm x)(y:GTm)(hy:FitTm y)(h6:Fk x)(h4:Fk y)(hlx:x.a_.length<=200000)(hly:y.a_.length<=200000):PRet prog 171 [.agg (tmA x),.agg (tmA y)] (fun r=>∃(t:GTm) (e:Int),r=.tup [.agg (tmA t),vI e]/\FitTm t/\wo (dt (qq x y)) t e):=by have hc1:=h6.1;have hc2:=h4.1;refine ovT [] [] func171 rfl rfl ⟨by omega,LpG.on (fun k0:KL GPart=>(⟨fL [(3,.ptr 1 0 0),(4,.ptr 2 0 0),(6,.ptr 3 0 0),(7,vI k0.k)],hLz [(1,⟨0,tmA y,0,false⟩),(2,⟨0,[vI 0,.v (.slice none 0 0)],0,false⟩),(3,⟨0,[vI (x.f_+y.f_),.tree 5 (k0.L.map ptA)],0,false⟩)],4⟩:St)) (fun k0=>(y.a_.length-k0.k)) (fun k0=>(k0.k<=y.a_.length/\AddI x y k0)) (⟨0,x.a_⟩:KL GPart) (cnR rfl) ⟨azk _,add0 h6⟩ ?_⟩;rintro k0 h5;have hgr_k0:y.a_.length<=140737488355328:=hy.a_.1;obtain⟨h1,h0⟩:=h5;refine LenG.of (cL (fun h3=>?_) (fun h2=>?_));have hll:=Xe h0 h1;have h7:=abn h0 hx hy h1 (by omega);refine IdxG.of ‹_› (ArgG.mk (Z0 k0.L h7 (y.a_[k0.k]) (hy.a_.2 _ (ay7 _)) (1048576*((k0.k:Int)+1)) 1048576 (by omega) (by omega) (by omega) h0.cf (h4.2 _ (ay7 _))) rfl ?_);rintro _ rfl;refine⟨by kernel_rfl,⟨by omega,?_⟩⟩;refine⟨(⟨k0.k+1,j9 y.a_[k0.k] k0.L⟩:KL GPart),(nsA ‹_›),(cnR rfl),⟨‹_›,?_⟩⟩;exact aks h0 h4 h3;have h8:FitTm (⟨x.f_+y.f_,k0.L⟩:GTm):=(by rw[afd h0 h2];exact Kk hx hy (by omega));refine ArgG.mk (rc (⟨x.f_+y.f_,k0.L⟩:GTm) h8) rfl ?_;rintro _ ⟨t1,e1,rfl,h9,ha⟩;exact rtP rfl ca rfl ⟨_,_,rfl,h9,by rw[<-afd h0 h2];exact ha⟩
def pw(x:GTm)(hx:FitTm x)(n:Int)(hlx:x.a_.length<=500000):PRet prog 170 [.agg (tmA x),vI n] (fun r=>∃(t:GTm) (e:Int),r=.tup [.agg (tmA t),vI e]/\FitTm t/\wo (dt (scT n x)) t e):=by refine ovT [] [9] func170 rfl rfl (ArgG.mk (Q0 x.f_ n) rfl ?_);rintro _ ⟨v0,rfl,h5⟩;refine LpG.via (fun _ h=>cn 2 1 5 rfl rfl rfl rfl rfl 4 rfl h) (LpG.on (fun k0:KL GPart=>(⟨fL [(1,vI n),(2,.ptr 0 0 0),(4,.ptr 1 0 0),(6,.ptr 2 0 0),(7,vI k0.k)],hLz [(0,⟨0,tmA x,0,false⟩),(1,⟨0,[vI 0,.v (.slice none 0 0)],0,false⟩),(2,⟨0,[vI v0,.sl 3 k0.L.length 0 k0.L.length],0,false⟩),(3,⟨k0.L.length,rF ptA k0.L,5,Nat.beq k0.L.length 0⟩)],4⟩:St)) (fun k0=>(x.a_.length-k0.k)) (fun k0=>(k0.k<=x.a_.length/\ScI x n k0)) (⟨0,[]⟩:KL GPart) (cnS rfl (hpR rfl (hpR rfl (hpR (by rfl) (hpS (ab be _ _) (by rfl) trivial))))) ⟨azk _,sc0 x n⟩ ?_);rintro k0 h4;have hgr_k0:x.a_.length<=140737488355328:=hx.a_.1;obtain⟨hle_k0,h0⟩:=h4;refine LenG.of (cL (fun h1=>?_) (fun h2=>?_));have hfk:=hx.a_.2 _ (ay7 h1);have hll:=h0.len;refine IdxG.of ‹_› (ArgG.mk (Q0 (x.a_[k0.k].i_) n) rfl ?_);rintro _ ⟨v1,rfl,h6⟩;apply cB<;>intro h3;refine OpG.mk _ _ _ 6 (ah be (a:=({x.a_[k0.k]with i_:=v1}:GPart)) underlying60 nu qn yn rfl rfl rfl (am rfl rfl rfl rfl) rfl (by omega) (by omega) (by unfold TV;omega)) rfl rfl ⟨by omega,⟨(⟨k0.k+1,k0.L++[({x.a_[k0.k]with i_:=v1}:GPart)]⟩:KL GPart),(nsA ‹_›),(cnS rfl (hpR rfl (hpR rfl (.cons (by(rw[azb];rfl)) rfl rfl (.cons (by(rw[azb];rfl)) rfl (ab be _ _) .nil))))),?_⟩⟩;exact⟨‹_›,amy h0 h1 h6 (by simpa using h3)⟩;refine⟨by omega,⟨(⟨k0.k+1,k0.L⟩:KL GPart),(nsA ‹_›),(cnS rfl (hpR rfl (hpR rfl (hpR (by rfl) (hpS (ab be _ _) (by rfl) trivial))))),?_⟩⟩;exact⟨‹_›,amz hx h0 h1 h6 (by simpa using h3)⟩;have h7:FitTm ⟨v0,k0.L⟩:=(by rw[am1 h0 h2 h5];exact ago hx);refine RegG.via (fun _ h=>cz [3] 2 0 0 [vI v0,.sl 3 k0.L.length 0 k0.L.length] [vI v0,.tree 5 (k0.L.map ptA)] rfl rfl (.keep (.fz (FzP.rows be (azc.2 rfl) rfl) (.same _))) rfl h) (ay ?_);refine ArgG.mk (rc ⟨v0,k0.L⟩ h7) rfl ?_;rintro _ ⟨t2,e2,rfl,h8,h9⟩;exact rtP rfl ca rfl ⟨_,_,rfl,h8,by rw[<-apc,<-am1 h0 h2 h5];exact h9⟩
def Fc{η:bm}{id n v:Nat}{ds:List AV}(h0:id∈fp)(hb:η id=some ⟨v,cs,n,false⟩)(hl:cs.length=n)(hd:ds.length=n)(h:∀i (h:i<cs.length) (h':i<ds.length),FzP fp η cs[i] ds[i]):FzP fp η (.sl id v 0 1) (.tree n [ds]):=
 FzP.sl (b:=⟨v,cs,n,false⟩) (rows:=[ds]) h0 hb rfl rfl rfl (fun k hk=>by
  have:k=0:=by simp at hk;omega
  subst this;exact hd) (fun k hk j hj=>by
  have:k=0:=by simp at hk;omega
  subst this;have h1:j<ds.length:=hj
  refine⟨cs[j]'(by omega),?_,h j (by omega) h1⟩;simp only[Nat.zero_mul,Nat.zero_add];exact ay8 (by show j<cs.length;omega))
def ag3{η:bm}(h:bz cs=true):∀i (h:i<cs.length) (h':i<cs.length),FzP fp η cs[i] cs[i]:=fun i h1 _=>FzP.pure (n9 h i h1)
theorem FzP.dv{η:bm}{x:GTm}{v w:Nat}(hi:η i=some ⟨v,tmA x,2,false⟩)(hj:η j=some ⟨w,[vI 1,vI 2,vI 0,vI b,.sl i v 0 1],5,false⟩):FzP [i,j] η (.agg [vI 0,.sl j w 0 1]) (.agg (tmA (dvT x b))):=
 FzP.agg rfl (fun k h h'=>match k,h with
  |0,_=>FzP.pure rfl
  |1,_=>Fc (by simp) hj rfl rfl (fun k h h'=>match k,h with
   |0,_=>FzP.pure rfl
   |1,_=>FzP.pure rfl
   |2,_=>FzP.pure rfl
   |3,_=>FzP.pure rfl
   |4,_=>Fc (by simp) hi rfl rfl (ag3 rfl)))
def div1{x:GTm}(h:b=1):wo (ym x b) x 0:=⟨fun _=>by unfold ym;rw[azg h],fun h=>absurd rfl h⟩
def divC{x:GTm}{f:Int}(h1:¬b=1)(hz:x.a_.length=0)(hf:f=x.f_.fdiv b):wo (ym x b) ⟨f,[]⟩ 0:=⟨fun _=>by unfold ym;rw[azf h1,azg (az1 hz),hf],fun h=>absurd rfl h⟩
def aw8{x:GTm}{e:Int}(h1:¬b=1)(hz:¬x.a_.length=0)(h:wo (dt (dvT x b)) t e):wo (ym x b) t e:=by unfold ym;rw[azf h1,azf (fun h=>hz (by rw[h];rfl))];exact h
def aeo:cw prog 205=true:=by kernel_rfl
def aw7(x:GTm)(hx:FitTm x)(by_:Int)(hs:smR (tmA x)=true)(h9:x.a_.length<=1000000):PRet prog 244 [.agg (tmA x),vI by_] (fun r=>∃(t:GTm) (e:Int),r=.tup [.agg (tmA t),vI e]/\FitTm t/\(e=0->(1<=by_/\by_<=1000)/\ym x by_=some t)/\(e≠0->(1<=by_/\by_<=1000)->ym x by_=none)):=by have hcc:=(fw hs).1;refine ovT [28] [] func244 rfl rfl (ArgG.mk (ry by_ 1 1000) rfl ?_);rintro _ ⟨b0,rfl,h6⟩;refine cB (fun h1=>rtC rfl ca rfl ⟨[],ev⟩ ⟨⟨0,[]⟩,1,rfl,c8,fun h=>absurd h (by decide),fun _ h=>by rw[h6.2 h]at h1;cases h1⟩) (fun h1=>have h2:=h6.1 (by simpa using h1);cB (fun h0=>by have h3:(by_:Int)=(1:Int):=(by simpa using h0);exact rtP rfl ca rfl ⟨x,0,rfl,hx,fun h=>⟨h2,(div1 (by simpa using h0)).1 h⟩,fun h=>absurd rfl h⟩) (fun h0=>have h3:¬((by_:Int)=(1:Int)):=(by simpa using h0);LenG.of (cE (fun h4=>by refine ArgG.mk (Uk x.f_ by_ (by omega) (by omega)) rfl ?_;rintro _ ⟨f1,rfl,ha⟩;exact rtC rfl ca rfl ⟨[],Df _⟩ ⟨⟨_,[]⟩,0,rfl,m8,fun h=>⟨h2,(divC (by simpa using h0) (by omega) ha).1 h⟩,fun h=>absurd rfl h⟩) (fun h4=>?_))));obtain⟨_,⟨t2,e2,rfl,hb,h7⟩,h5⟩:=rc (dvT x by_) (U4 hx h2 hs h9);exact OpG.mk _ _ _ 4 (iz [2,3] aeo rfl (fun i h h'=>match i,h with|0,_=>FzP.dv rfl rfl) (fun id h8=>by simp at h8;rcases h8 with rfl|rfl<;>rfl) h5) rfl rfl (rtP rfl ca rfl ⟨_,_,rfl,hb,fun h=>⟨h2,(aw8 (by simpa using h0) (by omega) h7).1 h⟩,fun h _=>((aw8 (by simpa using h0) (by omega) h7).2 h).1⟩)
theorem tz(h:¬((es.length:Nat):Int)=1):Av es=none:=by
 match es,h with
 |[],_=>rfl
 |[r],h=>exact absurd rfl h
 |r::q::rs,_=>simp[Av]
def tw{a:GEx}(ha:es=[exA a])(h:¬((a.b_.length:Nat):Int)=0):Av es=none:=by simp_all [exA,Av]
theorem tu{a:GEx}(ha:es=[exA a])(h1:¬(a.op_=1/\a.k_.c_=2))(h2:¬(a.op_=2/\0<=a.j_)):Av es=none:=by
 subst ha;obtain⟨o1,o2,o3,o4,o5,o6⟩:=a;match o6 with
 |[]=>simp only[exA,Av,List.map_nil];rw[azf h1,azf h2]
 |z::zs=>simp[exA,Av]
theorem FzP.col{η:bm}{kd i:Int}{w:Nat}(hj:η j=some ⟨w,[vI 1,vI kd,vI i,vI 0,.v (.slice none 0 0)],5,false⟩):FzP [j] η (.agg [vI 0,.sl j w 0 1]) (.agg (tmA (ue kd i))):=
 FzP.agg rfl (fun k h h'=>match k,h with
  |0,_=>FzP.pure rfl
  |1,_=>Fc (by simp) hj rfl rfl (fun k h h'=>match k,h with
   |0,_=>FzP.pure rfl
   |1,_=>FzP.pure rfl
   |2,_=>FzP.pure rfl
   |3,_=>FzP.pure rfl
   |4,_=>FzP.nil))
def Zz(x:GEx)(hx:FitEx x):PRet prog 204 [.agg (exA x)] (fun r=>∃(t:GTm) (b:Bool),r=.tup [.agg (tmA t),vB b]/\FitTm t/\(b=true->abq x t)/\(b=false->x.op_=9->Av x.b_=none)):=by refine ovT [] [] func204 rfl rfl (cB (fun ha=>by have hf:¬((x.op_:Int)=(9:Int)):=(by simpa using ha);exact cT (cT (rtC rfl ca rfl ⟨_,ev (fp:=[])⟩ ⟨⟨0,[]⟩,false,rfl,c8,fun h=>absurd h az7,fun _ h9=>by first|exact absurd h9 ‹_›|exact tz (by omega)|exact tw (co (by omega) h0) (by omega)|exact tu (co (by omega) h0) (by omega) (by omega)⟩))) (fun ha=>have hf:(x.op_:Int)=(9:Int):=(by simpa using ha);LenG.of (cB (fun h3=>by have hb:¬(((x.b_.length:Nat):Int)=(1:Int)):=(by simpa using h3);exact cT (rtC rfl ca rfl ⟨_,ev (fp:=[])⟩ ⟨⟨0,[]⟩,false,rfl,c8,fun h=>absurd h az7,fun _ h9=>by first|exact absurd h9 ‹_›|exact tz (by omega)|exact tw (co (by omega) h0) (by omega)|exact tu (co (by omega) h0) (by omega) (by omega)⟩)) (fun h3=>have hb:((x.b_.length:Nat):Int)=(1:Int):=(by simpa using h3);?_))));obtain⟨a0,h0,ha0⟩:=ac5 hx 0 (by omega);exact cb (j:=0) (by omega) h0 (LenG.of (cB (fun h4=>by have hc:¬(((a0.b_.length:Nat):Int)=(0:Int)):=(by simpa using h4);exact rtC rfl ca rfl ⟨_,ev (fp:=[])⟩ ⟨⟨0,[]⟩,false,rfl,c8,fun h=>absurd h az7,fun _ h9=>by first|exact absurd h9 ‹_›|exact tz (by omega)|exact tw (co (by omega) h0) (by omega)|exact tu (co (by omega) h0) (by omega) (by omega)⟩) (fun h4=>have hc:((a0.b_.length:Nat):Int)=(0:Int):=(by simpa using h4);cb (j:=0) (by omega) h0 (cB (fun h5=>by have hd:(a0.op_:Int)=(1:Int):=(by simpa using h5);exact cB (fun h6=>by have he:(a0.k_.c_:Int)=(2:Int):=(by simpa using h6);exact rtC rfl ca rfl ⟨_,Df (fp:=[]) _⟩ ⟨⟨_,[]⟩,true,rfl,m8,fun _=>⟨by assumption,a0,co ‹_› h0,by simpa using(by assumption:((a0.b_.length:Nat):Int)=0),.inl ⟨by assumption,by simp_all,rfl⟩⟩,fun h=>absurd h (by decide)⟩) (fun h6=>have he:¬((a0.k_.c_:Int)=(2:Int)):=(by simpa using h6);cB (fun h1=>by have h7:(a0.op_:Int)=(2:Int):=(by simpa using h1);exact cB (fun h2=>by have h8:=azi h2;exact rtC rfl ca rfl ⟨_,FzP.col rfl⟩ ⟨ue 1 _,true,rfl,nf (.inr rfl),fun _=>⟨by assumption,a0,co ‹_› h0,by simpa using(by assumption:((a0.b_.length:Nat):Int)=0),.inr ⟨by assumption,by simp_all,rfl⟩⟩,fun h=>absurd h (by decide)⟩) (fun h2=>have h8:=azh h2;rtC rfl ca rfl ⟨_,ev (fp:=[])⟩ ⟨⟨0,[]⟩,false,rfl,c8,fun h=>absurd h az7,fun _ h9=>by first|exact absurd h9 ‹_›|exact tz (by omega)|exact tw (co (by omega) h0) (by omega)|exact tu (co (by omega) h0) (by omega) (by omega)⟩)) (fun h1=>have h7:¬((a0.op_:Int)=(2:Int)):=(by simpa using h1);cF (rtC rfl ca rfl ⟨_,ev (fp:=[])⟩ ⟨⟨0,[]⟩,false,rfl,c8,fun h=>absurd h az7,fun _ h9=>by first|exact absurd h9 ‹_›|exact tz (by omega)|exact tw (co (by omega) h0) (by omega)|exact tu (co (by omega) h0) (by omega) (by omega)⟩)))) (fun h5=>have hd:¬((a0.op_:Int)=(1:Int)):=(by simpa using h5);cF (cB (fun h1=>by have h7:(a0.op_:Int)=(2:Int):=(by simpa using h1);exact cB (fun h2=>by have h8:=azi h2;exact rtC rfl ca rfl ⟨_,FzP.col rfl⟩ ⟨ue 1 _,true,rfl,nf (.inr rfl),fun _=>⟨by assumption,a0,co ‹_› h0,by simpa using(by assumption:((a0.b_.length:Nat):Int)=0),.inr ⟨by assumption,by simp_all,rfl⟩⟩,fun h=>absurd h (by decide)⟩) (fun h2=>have h8:=azh h2;rtC rfl ca rfl ⟨_,ev (fp:=[])⟩ ⟨⟨0,[]⟩,false,rfl,c8,fun h=>absurd h az7,fun _ h9=>by first|exact absurd h9 ‹_›|exact tz (by omega)|exact tw (co (by omega) h0) (by omega)|exact tu (co (by omega) h0) (by omega) (by omega)⟩)) (fun h1=>have h7:¬((a0.op_:Int)=(2:Int)):=(by simpa using h1);cF (rtC rfl ca rfl ⟨_,ev (fp:=[])⟩ ⟨⟨0,[]⟩,false,rfl,c8,fun h=>absurd h az7,fun _ h9=>by first|exact absurd h9 ‹_›|exact tz (by omega)|exact tw (co (by omega) h0) (by omega)|exact tu (co (by omega) h0) (by omega) (by omega)⟩))))))))
section
variable{op:Int}{a b s t q m:GTm}
def ax8(h:op=4)(h1:dt (qq a b)=some t):kw op a b=some t:=by unfold kw;rw[azg h];exact h1
def ax7(h:op=5)(h1:dt (scT (-1) b)=some s)(h2:dt (qq a s)=some t):kw op a b=some t:=by unfold kw;rw[azf (by omega),azg h,h1];exact h2
def aex(h:op=6)(ha:¬(a.a_.length>0/\b.a_.length>0))(hb:b.a_.length>0)(h1:dt (scT a.f_ b)=some t):kw op a b=some t:=by grind[kw,List.length_pos_iff]
def aew(h:op=6)(hb:¬b.a_.length>0)(h1:dt (scT b.f_ a)=some t):kw op a b=some t:=by grind[kw,List.length_pos_iff]
theorem aez(h:op=6)(ha:¬(a.a_.length>0/\b.a_.length>0))(hb:b.a_.length>0):kw op a b=dt (scT a.f_ b):=by grind[kw,List.length_pos_iff]
theorem aey(h:op=6)(hb:¬b.a_.length>0):kw op a b=dt (scT b.f_ a):=by grind[kw,List.length_pos_iff]
def ax6(h:op=7)(hz:¬b.a_.length>0)(hd:1<=b.f_/\b.f_<=1000)(h1:ym a b.f_=some t):kw op a b=some t:=by grind[kw,List.length_pos_iff]
def ax5(h:op=8)(hz:¬b.a_.length>0)(hd:1<=b.f_/\b.f_<=1000)(h1:ym a b.f_=some q)(h2:dt (scT (-b.f_) q)=some m)(h3:dt (qq a m)=some t):kw op a b=some t:=by grind[kw,List.length_pos_iff]
end
def aa8(op:Int)(a:GTm)(ha:FitTm a)(b:GTm)(hb:FitTm b)(hop:4<=op/\op<=8)(he:smR (tmA a)=true)(g1:smR (tmA b)=true)(hla:a.a_.length<=50000)(hlb:b.a_.length<=50000):PRet prog 206 [vI op,.agg (tmA a),.agg (tmA b)] (fun r=>∃(t:GTm) (e:Int),r=.tup [.agg (tmA t),vI e]/\FitTm t/\(e=0->kw op a b=some t)/\(e≠0->kw op a b=none)):=by
 have hc:=fw he;have hq:=fw g1
 have hka:=hc.1;have hkb:=hq.1
 refine ovT [96] [] func206 rfl rfl (cE (fun hf=>?_) (fun hf=>?_));refine ArgG.mk (Kj a ha b hb hc hq (by omega) (by omega)) rfl ?_;rintro _ ⟨t0,e0,rfl,g2,hr⟩;exact rtP rfl ca rfl ⟨_,_,rfl,g2,fun h=>ax8 (by omega) (hr.1 h),fun h=>by rw[asf (by omega)];exact(hr.2 h).1⟩;apply cE<;>intro hq21;refine ArgG.mk (pw b hb (-1) (by omega)) rfl ?_;rintro _ ⟨t1,e1,rfl,g3,hg⟩;apply cB<;>intro h2;have hh:¬((e1:Int)=(0:Int)):=by simpa using h2
 exact rtC rfl ca rfl ⟨_,ev (fp:=[])⟩ ⟨_,_,rfl,c8,fun h=>absurd h ‹_›,fun h=>by first|exact akc (by omega) (hg.2 h).1|exact akb (by omega) (by omega) (by omega) (by omega) hd.2 (hg.2 h).1⟩;have hh:(e1:Int)=(0:Int):=by simpa using h2
 have h3:=hg.1 (by simpa using h2);have hs:=il hb h3
 refine ArgG.mk (Kj a ha t1 g3 hc (fw hs.2.1) (by omega) (by have:=hs.2.2.1;omega)) rfl ?_;rintro _ ⟨t2,e2,rfl,g4,ht⟩;exact rtP rfl ca rfl ⟨_,_,rfl,g4,fun h=>ax7 (by omega) h3 (ht.1 h),fun h=>by rw[ase (by omega) h3];exact(ht.2 h).1⟩;apply cE<;>intro hq37;refine LenG.of (cD (fun hi=>?_) (fun hi=>?_));refine LenG.of (cD (fun hj=>?_) (fun hj=>?_));exact rtC rfl ca rfl ⟨_,ev (fp:=[])⟩ ⟨_,_,rfl,c8,fun h=>absurd h (by decide),fun _=>by first|exact aa9 (by omega) (by omega) (by omega)|exact Pl (by omega) (by omega) (by omega) (by omega)⟩;refine LenG.of (cD (fun h6=>?_) (fun h6=>?_));refine ArgG.mk (pw b hb a.f_ (by omega)) rfl ?_;rintro _ ⟨t3,e3,rfl,g5,hu⟩;exact rtP rfl ca rfl ⟨_,_,rfl,g5,fun h=>aex (by omega) (by omega) (by omega) (hu.1 h),fun h=>by rw[aez (by omega) (by omega) (by omega)];exact(hu.2 h).1⟩;refine ArgG.mk (pw a ha b.f_ (by omega)) rfl ?_;rintro _ ⟨t4,e4,rfl,g6,hv⟩;exact rtP rfl ca rfl ⟨_,_,rfl,g6,fun h=>aew (by omega) (by omega) (hv.1 h),fun h=>by rw[aey (by omega) (by omega)];exact(hv.2 h).1⟩;refine cF (LenG.of ?_);apply cD<;>intro h6;refine ArgG.mk (pw b hb a.f_ (by omega)) rfl ?_;rintro _ ⟨t5,e5,rfl,g7,hw⟩;exact rtP rfl ca rfl ⟨_,_,rfl,g7,fun h=>aex (by omega) (by omega) (by omega) (hw.1 h),fun h=>by rw[aez (by omega) (by omega) (by omega)];exact(hw.2 h).1⟩;refine ArgG.mk (pw a ha b.f_ (by omega)) rfl ?_;rintro _ ⟨t6,e6,rfl,g8,hx⟩;exact rtP rfl ca rfl ⟨_,_,rfl,g8,fun h=>aew (by omega) (by omega) (hx.1 h),fun h=>by rw[aey (by omega) (by omega)];exact(hx.2 h).1⟩;refine LenG.of (cD (fun hk=>?_) (fun hk=>?_));exact cT (rtC rfl ca rfl ⟨_,ev (fp:=[])⟩ ⟨_,_,rfl,c8,fun h=>absurd h (by decide),fun _=>by first|exact aa9 (by omega) (by omega) (by omega)|exact Pl (by omega) (by omega) (by omega) (by omega)⟩);refine ArgG.mk (ry b.f_ 1 1000) rfl ?_;rintro _ ⟨b7,rfl,hy⟩;apply cB<;>intro h4;have hnw:¬(1<=b.f_/\b.f_<=1000):=fun h=>by rw[hy.2 h]at h4;cases h4
 exact rtC rfl ca rfl ⟨_,ev (fp:=[])⟩ ⟨_,_,rfl,c8,fun h=>absurd h (by decide),fun _=>by first|exact aa9 (by omega) (by omega) (by omega)|exact Pl (by omega) (by omega) (by omega) (by omega)⟩;have hz:=hy.1 (by simpa using h4)
 refine ArgG.mk (aw7 a ha b.f_ he (by omega)) rfl ?_;rintro _ ⟨t8,e8,rfl,hl,h7⟩;apply cB<;>intro h5;have hm:¬((e8:Int)=(0:Int)):=by simpa using h5
 exact cT (rtP rfl ca rfl ⟨_,_,rfl,hl,fun h=>absurd h ‹_›,fun h=>Wp (by omega) (by omega) (by omega) (by omega) (by omega) (by omega) (h7.2 h hz)⟩);have hm:(e8:Int)=(0:Int):=by simpa using h5
 have hd:=h7.1 (by simpa using h5);have hn:=U5 ha (by omega) he hd.1 hd.2
 apply cE<;>intro hq89;exact rtP rfl ca rfl ⟨_,_,rfl,hl,fun h=>ax6 (by omega) (by omega) (h7.1 h).1 (h7.1 h).2,fun h=>Wp (by omega) (by omega) (by omega) (by omega) (by omega) (by omega) (h7.2 h hz)⟩;refine OpG.lk (oh rfl (by omega) (by omega)) (ArgG.mk (pw t8 hl (-b.f_) (by have:=hn.2.2.1;omega)) rfl ?_);rintro _ ⟨t9,e9,rfl,g9,ho⟩;apply cB<;>intro h0;have h8:¬((e9:Int)=(0:Int)):=by simpa using h0
 exact rtC rfl ca rfl ⟨_,ev (fp:=[])⟩ ⟨_,_,rfl,c8,fun h=>absurd h ‹_›,fun h=>by first|exact akc (by omega) (ho.2 h).1|exact akb (by omega) (by omega) (by omega) (by omega) hd.2 (ho.2 h).1⟩;have h8:(e9:Int)=(0:Int):=by simpa using h0
 have h1:=ho.1 (by simpa using h0);have g0:=il hn.1 h1
 refine ArgG.mk (Kj a ha t9 g9 hc (fw g0.2.1) (by omega) (by have:=g0.2.2.1;have:=hn.2.2.1;omega)) rfl ?_;rintro _ ⟨t10,e10,rfl,hp,h9⟩;exact rtP rfl ca rfl ⟨_,_,rfl,hp,fun h=>ax5 (by omega) (by omega) hd.1 hd.2 h1 (h9.1 h),fun h=>by rw[ar9 (by omega) (by omega) (by omega) (by omega) hd.2 h1];exact(h9.2 h).1⟩
def Ds:RowF tmA 2:=⟨fun _=>rfl,fun _=>rfl,fun _ _=>rfl,fun _ _=>rfl,fun _ _=>rfl,fun _=>rfl⟩
inductive OfR:List AV->GTm->Prop
 |len (x:GEx) (t:GTm) (h:abq x t) (h6:B60 t):OfR (exA x) t
 |lit (x:GEx) (h:x.op_=1) (ha:x.b_=[]) (hk:x.k_.c_=1) (h6:B60 ⟨x.k_.v_,[]⟩):OfR (exA x) ⟨x.k_.v_,[]⟩
 |col (x:GEx) (h:x.op_=2) (ha:x.b_=[]) (hi:0<=x.j_) (h6:B60 (ue 0 x.j_)):OfR (exA x) (ue 0 x.j_)
 |neg (x:GEx) (r:List AV) (s t:GTm) (h:x.op_=3) (ha:x.b_=[r]) (hr:OfR r s) (ht:∀ρ,tvL ρ (tmA t)=-1*tvL ρ (tmA s)) (h6:B60 t):OfR (exA x) t
 |bin (x:GEx) (r q:List AV) (a b t:GTm) (h:4<=x.op_/\x.op_<=8) (ha:x.b_=[r,q]) (hr:OfR r a) (hq:OfR q b) (ht:BinOk x.op_ a b t):OfR (exA x) t
theorem OfR.b6{r:List AV}(h:OfR r t):B60 t:=by
 cases h with
 |len x t h h6=>exact h6
 |lit x h ha hk h6=>exact h6
 |col x h ha hi h6=>exact h6
 |neg x r s t h ha hr ht h6=>exact h6
 |bin x r q a b t h ha hr hq ht=>exact ht.b6
theorem s5(x:GEx):ofT (exA x)=if x.op_=9 then(Av x.b_).bind dt else(Jd x.b_).bind fun l=>match l with
 |[]=>if x.op_=1/\x.k_.c_=1 then dt ⟨x.k_.v_,[]⟩else if x.op_=2/\0<=x.j_ then some (ue 0 x.j_)else none
 |[a]=>if x.op_=3 then dt (scT (-1) a)else none
 |[a,b]=>if 4<=x.op_/\x.op_<=8 then kw x.op_ a b else none
 |_=>none:=by
 simp only[exA,ofT,fk]
 congr 2
def mv{r:List AV}{l:List GTm}(h:Jd (r::rs)=some l):∃t l',ofT r=some t/\Jd rs=some l'/\l=t::l':=by simp only[Jd]at h;obtain⟨t,ht,h⟩:=azt.1 h;obtain⟨l',hl,rfl⟩:=Option.map_eq_some_iff.1 h;exact⟨t,l',ht,hl,rfl⟩
def D1{l:List GTm}(h:Jd []=some l):l=[]:=by simp only[Jd]at h;cases h;rfl
inductive OfV(x:GEx)(u:GTm):Prop
 |len (t:GTm) (h:x.op_=9) (hl:Av x.b_=some t) (hu:dt t=some u)
 |lit (h:x.op_=1) (ha:x.b_=[]) (hk:x.k_.c_=1) (hu:dt ⟨x.k_.v_,[]⟩=some u)
 |col (h:x.op_=2) (ha:x.b_=[]) (hi:0<=x.j_) (hu:u=ue 0 x.j_)
 |neg (r:List AV) (s:GTm) (h:x.op_=3) (ha:x.b_=[r]) (hr:ofT r=some s) (hu:dt (scT (-1) s)=some u)
 |bin (r q:List AV) (a b:GTm) (h:4<=x.op_/\x.op_<=8) (ha:x.b_=[r,q]) (hr:ofT r=some a) (hq:ofT q=some b) (hu:kw x.op_ a b=some u)
theorem ofV(h:ofT (exA x)=some u):OfV x u:=by
 rw[s5]at h;split at h;rename_i h9;obtain⟨t,ht,h⟩:=azt.1 h;exact .len t h9 ht h;obtain⟨l,hl,h⟩:=azt.1 h;generalize ha:x.b_=es at hl;match es,ha,hl with
 |[],ha,hl=>
  have:=D1 hl;subst this
  simp only at h
  split at h
  ·rename_i e;exact .lit e.1 ha e.2 h
  ·split at h
   ·rename_i e;cases h;exact .col e.1 ha e.2 rfl
   ·cases h
 |[r],ha,hl=>
  obtain⟨t,l',h1,h2,rfl⟩:=mv hl
  have:=D1 h2;subst this
  simp only at h
  split at h
  ·rename_i e;exact .neg r t e ha h1 h
  ·cases h
 |[r,q],ha,hl=>
  obtain⟨t,l',h1,h2,rfl⟩:=mv hl
  obtain⟨s,l2,h3,h4,rfl⟩:=mv h2
  have:=D1 h4;subst this
  simp only at h
  split at h
  ·rename_i e;exact .bin r q t s e ha h1 h3 h
  ·cases h
 |r::q::p::rs,ha,hl=>
  obtain⟨t,l',h1,h2,rfl⟩:=mv hl
  obtain⟨s,l2,h3,h4,rfl⟩:=mv h2
  obtain⟨z,l3,h5,h6,rfl⟩:=mv h4
  cases h
theorem alb(hx:FitEx x)(h:Av x.b_=some t):∃a,x.b_=[exA a]/\FitEx a/\a.b_=[]/\((a.op_=1/\a.k_.c_=2/\t=⟨((a.k_.l_.size:Nat):Int),[]⟩)\/(a.op_=2/\0<=a.j_/\t=ue 1 a.j_)):=by
 generalize ha:x.b_=es at h;match es,ha,h with
 |[],ha,h=>cases h
 |[r],ha,h=>
  obtain⟨a,rfl,hf⟩:=(hx.b_.2 r (by rw[ha];simp)).open_
  refine⟨a,rfl,hf,?_⟩
  obtain⟨o1,o2,o3,o4,o5,o6⟩:=a
  match o6,h with
  |[],h=>
   refine⟨rfl,?_⟩
   simp only[exA,Av,List.map_nil]at h
   split at h
   ·rename_i e;cases h;exact .inl ⟨e.1,e.2,rfl⟩
   ·split at h
    ·rename_i e;cases h;exact .inr ⟨e.1,e.2,rfl⟩
    ·cases h
  |z::zs,h=>simp[exA,Av]at h
 |r::q::rs,ha,h=>simp[Av]at h
def aif{o:GTm}{e:Int}(h:wo (dt o) t e)(hu:dt o=some u):e=0:=Classical.byContradiction fun he=>by rw[(h.2 he).1]at hu;cases hu
section
variable{x:GEx}{t s u a b:GTm}{e:Int}{r q:List AV}
def an5(h9:x.op_=9)(hl:Av x.b_=some s)(he:wo (dt s) t e)(hu:ofT (exA x)=some u):e=0:=by rw[s5,azg h9,hl]at hu;exact aif he hu
theorem an4(h1:x.op_=1)(he:wo (dt ⟨x.k_.v_,[]⟩) t e)(hu:ofT (exA x)=some u):e=0:=by
 cases ofV hu with
 |lit h ha hk hu=>exact aif he hu
 |len t h hl hu=>omega
 |col h ha hi hu=>omega
 |neg r s h ha hr hu=>omega
 |bin r q a b h ha hr hq hu=>omega
theorem ahm(h1:x.op_=1)(hx:¬((x.b_.length:Nat):Int)=0\/¬x.k_.c_=1)(hu:ofT (exA x)=some u):e=0:=by
 cases ofV hu with
 |lit h ha hk hu=>exact absurd hk (hx.resolve_left (fun g=>g (by rw[ha];rfl)))
 |len t h hl hu=>omega
 |col h ha hi hu=>omega
 |neg r s h ha hr hu=>omega
 |bin r q a b h ha hr hq hu=>omega
theorem ahn(h1:x.op_=2)(hx:¬((x.b_.length:Nat):Int)=0\/x.j_<0)(hu:ofT (exA x)=some u):e=0:=by
 cases ofV hu with
 |col h ha hi hu=>have:=hx.resolve_left (fun g=>g (by rw[ha];rfl));omega
 |lit h ha hk hu=>omega
 |len t h hl hu=>omega
 |neg r s h ha hr hu=>omega
 |bin r q a b h ha hr hq hu=>omega
theorem an3(h1:x.op_=3)(h2:x.b_=[r])(hr:ofT r=some s)(he:wo (dt (scT (-1) s)) t e)(hu:ofT (exA x)=some u):e=0:=by
 cases ofV hu with
 |neg r' s' h ha h0 hu=>
  rw[h2]at ha;cases ha
  rw[hr]at h0;cases h0
  exact aif he hu
 |lit h ha hk hu=>omega
 |col h ha hi hu=>omega
 |len t h hl hu=>omega
 |bin r q a b h ha hr hq hu=>omega
theorem ahl(h1:x.op_=3)(hx:¬((x.b_.length:Nat):Int)=1)(hu:ofT (exA x)=some u):e=0:=by
 cases ofV hu with
 |neg r' s' h ha hr' hu=>exact absurd (by rw[ha];rfl) hx
 |lit h ha hk hu=>omega
 |col h ha hi hu=>omega
 |len t h hl hu=>omega
 |bin r q a b h ha hr hq hu=>omega
theorem an6(h1:4<=x.op_/\x.op_<=8)(h3:x.b_=[r,q])(hr:ofT r=some a)(hq:ofT q=some b)(he:e≠0->kw x.op_ a b=none)(hu:ofT (exA x)=some u):e=0:=by
 cases ofV hu with
 |bin r' q' a' b' h ha h0 h2 hu=>
  rw[h3]at ha;cases ha
  rw[hr]at h0;cases h0
  rw[hq]at h2;cases h2
  exact Classical.byContradiction fun h=>by rw[he h]at hu;cases hu
 |lit h ha hk hu=>omega
 |col h ha hi hu=>omega
 |len t h hl hu=>omega
 |neg r s h ha hr hu=>omega
theorem aho(h1:4<=x.op_/\x.op_<=8)(hx:¬((x.b_.length:Nat):Int)=2)(hu:ofT (exA x)=some u):e=0:=by
 cases ofV hu with
 |bin r' q' a' b' h ha hr' hq' hu=>exact absurd (by rw[ha];rfl) hx
 |lit h ha hk hu=>omega
 |col h ha hi hu=>omega
 |len t h hl hu=>omega
 |neg r s h ha hr hu=>omega
theorem an2(h:¬x.op_=1/\¬x.op_=2/\¬x.op_=3/\¬(4<=x.op_/\x.op_<=8))(h9:x.op_=9->Av x.b_=none)(hu:ofT (exA x)=some u):e=0:=by
 cases ofV hu with
 |len t h hl hu=>rw[h9 h]at hl;cases hl
 |bin r' q' a' b' h ha hr' hq' hu=>omega
 |lit h ha hk hu=>omega
 |col h ha hi hu=>omega
 |neg r s h ha hr hu=>omega
theorem an7(hk:k<x.b_.length)(he:∀u,ofT x.b_[k]=some u->e=0)(h9:x.op_=9->Av x.b_=none)(hu:ofT (exA x)=some u):e=0:=by
 have key:∀{l:List (List AV)} {k:Nat} (hk:k<l.length) {L:List GTm},Jd l=some L->∃s,ofT l[k]=some s:=by
  intro l
  induction l with
  |nil=>intro k hk;simp at hk
  |cons r rs ih=>
   intro k hk L hL
   obtain⟨t,l',h1,h2,_⟩:=mv hL
   match k,hk with
   |0,_=>exact⟨t,h1⟩
   |k+1,hk=>exact ih (by simpa using hk) h2
 rw[s5]at hu
 split at hu
 ·rename_i h;rw[h9 h]at hu;cases hu
 obtain⟨L,hL,_⟩:=azt.1 hu
 obtain⟨s,hs⟩:=key hk hL
 exact he s hs
end
def OfP(d:Nat)(r:List AV)(t:GTm):Prop:=OfR r t/\B60 t/\Fk t/\t.a_.length+1<=2^(d+1)/\smR (tmA t)=true/\ofT r=some t
def ag8(h:d<=12):2^(d+1)<=8192:=Nat.pow_le_pow_right (by decide) (by omega:d+1<=13)
def Fv :2<=2^(d+1):=by have:=Nat.pow_le_pow_right (by decide:0<2) (by omega:1<=d+1);simpa using this
def ahq{P:List AV->GTm->Prop}{L:List GTm}{n:Nat}(h:∀j (hl:j<L.length) (h2:j<rs.length),P rs[j] L[j])(hL:L.length=n)(hn:n<rs.length)(ht:P rs[n] t):∀j (hl:j<(L++[t]).length) (h2:j<rs.length),P rs[j] (L++[t])[j]:=by intro j hl h2;by_cases e:j<L.length;rw[List.getElem_append_left e];exact h j e h2;have e2:j=n:=(by simp at hl;omega);subst e2;rw[List.getElem_append_right (by omega)];simpa[hL]using ht
section
variable{x:GEx}{d:Nat}{t s:GTm}{k:Nat}{L:List GTm}
def avs(h:abq x s)(hs:FitTm s)(h1:dt s=some t):OfP (d+1) (exA x) t:=by obtain⟨rfl,h2⟩:=xy h1;have h3:=uy hs h2;refine⟨.len x t h h3,h3,fw h2,?_,h2,?_⟩;obtain⟨_,a,_,_,⟨_,_,e⟩|⟨_,_,e⟩⟩:=h;rw[e];exact azp (by show 0+1<=2;decide) (Fv (d:=d+1));rw[e];exact Fv (d:=d+1);rw[s5,azg h.1,apg h];exact h1
def ops0(hL:L.length=k)(hge:¬k<x.b_.length)(hz:((L.length:Nat):Int)=0)(hle:k<=x.b_.length):x.b_=[]:=az1 (by omega)
def avr(h:x.op_=1)(hL:L.length=k)(h0:¬k<x.b_.length)(hz:((L.length:Nat):Int)=0)(h4:k<=x.b_.length)(hk:x.k_.c_=1)(h1:dt ⟨x.k_.v_,[]⟩=some t):OfP (d+1) (exA x) t:=by obtain⟨rfl,h2⟩:=xy h1;have h3:=uy m8 h2;have e:=ops0 hL h0 hz h4;refine⟨.lit x h e hk h3,h3,fw h2,azp (by show 0+1<=2;decide) (Fv (d:=d+1)),h2,?_⟩;rw[s5,azf (by omega),e];simp only[Jd,az6];rw[azg ⟨h,hk⟩];exact h1
theorem Bh{v:Int}:smR (tmA (ue 0 v))=true:=by refine(fb _).2 ⟨⟨⟨by show -1099511627776<=(0:Int);decide,by show(0:Int)<=_;decide⟩,fun p hp=>by rw[azc.1 hp];exact⟨by show -1048576<=(1:Int);decide,by show(1:Int)<=_;decide⟩⟩,?_⟩;rw[ni];simp[ue,bdS,bdK,cq]
def avu(h:x.op_=2)(hL:L.length=k)(h0:¬k<x.b_.length)(hz:((L.length:Nat):Int)=0)(h1:k<=x.b_.length)(hi:¬x.j_<0):OfP (d+1) (exA x) (ue 0 x.j_):=by have h2:=Bh (v:=x.j_);have h6:=uy (nf (k:=0) (.inl rfl)) h2;have e:=ops0 hL h0 hz h1;refine⟨.col x h e (by omega) h6,h6,fw h2,Fv (d:=d+1),h2,?_⟩;rw[s5,azf (by omega),e];simp only[Jd,az6];rw[azf (by omega),azg ⟨h,by omega⟩]
def avq(h:x.op_=3)(hL:L.length=k)(hge:¬k<x.b_.length)(hle:k<=x.b_.length)(hz:((L.length:Nat):Int)=1)(hf:∀y∈L,FitTm y)(hi:∀j (hl:j<L.length) (h2:j<x.b_.length),OfP d x.b_[j] L[j])(h1:dt (scT (-1) (L[0]'(by omega)))=some t):OfP (d+1) (exA x) t:=by have h0:=hi 0 (by omega) (by omega);have hp:2^(d+1)<=2^(d+1+1):=Nat.pow_le_pow_right (by decide) (by omega);obtain⟨g1,g2,g3,g4⟩:=il (hf _ (ay7 (by omega))) h1;have g5:=uy g1 g2;have e:=co (l:=x.b_) (by omega) rfl;refine⟨.neg x _ _ t h e h0.1 g4 g5,g5,fw g2,by have:=h0.2.2.2.1;omega,g2,?_⟩;rw[s5,azf (by omega),e];simp only[Jd,h0.2.2.2.2.2,az6,az5];rw[azg h];exact h1
theorem uo{α:Type}{l:List α}(h:l.length=2):l=[l[0]'(by omega),l[1]'(by omega)]:=by
 match l,h with
 |[a,b],_=>rfl
def avv(h:4<=x.op_/\x.op_<=8)(hL:L.length=k)(hge:¬k<x.b_.length)(hle:k<=x.b_.length)(hz:((L.length:Nat):Int)=2)(hf:∀y∈L,FitTm y)(hi:∀j (hl:j<L.length) (h2:j<x.b_.length),OfP d x.b_[j] L[j])(hd:2^(d+1)<=8192)(h1:kw x.op_ (L[0]'(by omega)) (L[1]'(by omega))=some t):OfP (d+1) (exA x) t:=by have h0:=hi 0 (by omega) (by omega);have h2:=hi 1 (by omega) (by omega);have hp:2^(d+1+1)=2*2^(d+1):=(by rw[Nat.pow_succ];omega);obtain⟨g1,g2,g3⟩:=aeu h (hf _ (ay7 (by omega))) (hf _ (ay7 (by omega))) h0.2.2.2.2.1 (by have:=h0.2.2.2.1;have:=h2.2.2.2.1;omega) h1;have e:=uo (l:=x.b_) (by omega);refine⟨.bin x _ _ _ _ t h e h0.1 h2.1 g3,g3.b6,g3.cf,by have:=h0.2.2.2.1;have:=h2.2.2.2.1;have:=g3.len;omega,g2,?_⟩;rw[s5,azf (by omega),e];simp only[Jd,h0.2.2.2.2.2,h2.2.2.2.2.2,az6,az5];rw[azg h];exact h1
end
theorem fx(h:IsSh d (exA x)):∃d',d=d'+1/\x.b_.length<=2/\∀r∈x.b_,IsSh d' r:=by
 generalize e:exA x=r at h
 cases h with
 |mk y h1 h2=>rw[au e];exact⟨_,rfl,h1,h2⟩
def by62:(prog.info? 62).map (·.bytes)=some 32:=by kernel_rfl
def amb:aj prog 62=some 2:=by kernel_rfl
def afh:bp prog 62=some (.agg #[.int .i64 0,.slice none 0 0]):=by kernel_rfl
theorem of_w(x:GEx)(hx:FitEx x)(d:Nat)(hd:d<=11)(hsh:x.b_.length<=2)(ih:∀r∈x.b_,PRet prog 168 [.agg (rwA r)] (fun q=>∃(t:GTm) (e:Int),q=.tup [.agg (tmA t),vI e]/\FitTm t/\(e=0->OfP d r t)/\∀u,ofT r=some u->e=0)):PRet prog 168 [.agg (exA x)] (fun q=>∃(t:GTm) (e:Int),q=.tup [.agg (tmA t),vI e]/\FitTm t/\(e=0->OfP (d+1) (exA x) t)/\∀u,ofT (exA x)=some u->e=0):=by
 have hh:=ag8 (d:=d) (by omega);refine ovT [32,62] [12] func168 rfl rfl (ArgG.mk (Zz x hx) rfl ?_);rintro _ ⟨t0,_|_,rfl,ha,hb⟩;rotate_left;refine cT (ArgG.mk (rc t0 ha) rfl ?_);rintro _ ⟨t1,e1,rfl,hi,hf⟩;have h0:=hb.1 rfl
 exact rtP rfl ca rfl ⟨_,_,rfl,hi,fun h=>avs h0 ha (hf.1 h),fun u hu=>an5 h0.1 (apg h0) hf hu⟩;have h9:x.op_=9->Av x.b_=none:=hb.2 rfl
 refine cF (LpG.via (fun _ h=>bl 6 2 rfl 4 rfl h) ?_);refine LpG.on (fun k0:KL GTm=>(⟨fL [(1,.ptr 0 0 0),(2,.ptr 1 0 0),(6,.sl 3 k0.L.length 0 k0.L.length),(7,vI k0.k)],hLz [(0,⟨0,exA x,0,false⟩),(1,⟨0,[vI 0,.v (.slice none 0 0)],0,false⟩),(3,⟨k0.L.length,rF tmA k0.L,2,Nat.beq k0.L.length 0⟩)],4⟩:St)) (fun k0=>(x.b_.length-k0.k)) (fun k0=>(k0.k<=x.b_.length/\k0.L.length=k0.k/\(∀x∈k0.L,FitTm x)/\(∀j (hl:j<k0.L.length) (h2:j<x.b_.length),OfP d x.b_[j] k0.L[j]))) (⟨0,[]⟩:KL GTm) (cnS (by rfl) (hpR rfl (hpR rfl (hpS (ab Ds _ _) (by rfl) trivial)))) ⟨azk _,rfl,by simp,by simp⟩ ?_;rintro k0 ⟨h4,h1,h3,h5⟩;have hgr_k0:x.b_.length<=140737488355328:=hx.b_.1
 refine LenG.of (cL (fun h7=>?_) (fun h6=>?_));refine IdxG.of h7 (OpG.lk (ci n6 rfl (jd (hx.b_.2 _ (ay7 _)))) ?_);refine ArgG.mk (ih x.b_[k0.k] (ay7 _)) (by simp[bz,AV.pureB,kc (hx.b_.2 _ (ay7 _))]) ?_;rintro _ ⟨t2,e2,rfl,hj,hg⟩;apply cN<;>intro h;exact rtC rfl ca rfl ⟨_,ev (fp:=[])⟩ ⟨_,_,rfl,c8,fun g=>absurd g h,fun u hu=>an7 h7 hg.2 h9 hu⟩;exact OpG.mk _ _ _ 6 (ah Ds (a:=t2) underlying204 amb afh by62 rfl rfl rfl (am rfl rfl rfl rfl) rfl (by omega) (by omega) (by unfold TV;omega)) rfl rfl ⟨by omega,(⟨k0.k+1,k0.L++[t2]⟩:KL GTm),(nsA ‹_›),(cO (.cons rfl rfl (.cons rfl rfl (.cons (by(rw[azb];rfl)) rfl (.cons rfl rfl .nil)))) (.cons rfl rfl rfl (.cons rfl rfl rfl (.cons (by(rw[azb];rfl)) rfl (ab Ds _ _) .nil)))),‹_›,by show(_++[_]).length=k0.k+1;rw[azb,h1];rfl,fun y_ h8=>(azd.1 h8).elim (h3 y_) (fun h8=>by rw[azc.1 h8];exact hj),ahq h5 h1 h7 (hg.1 h)⟩;have hp:∀{j} (h:j<k0.L.length),OfP d (x.b_[j]'(by omega)) k0.L[j]:=fun h=>h5 _ h (by omega)
 refine RegG.via (fun _ h=>bc [3] 6 (.tree 2 (k0.L.map tmA)) (FzP.rows Ds (azc.2 rfl) rfl) rfl h) (ay ?_)
 repeat'
  (try(conv=>whnf))
  first
  |refine cT ?_|refine cF ?_|refine cE (fun _=>?_) (fun _=>?_)<;>try omega|refine cN (fun _=>?_) (fun _=>?_)<;>try omega|apply cD<;>intro _
  |refine LenG.of ?_
  |refine IdxG.of (j:=0) (by omega) ?_|refine IdxG.of (j:=1) (by omega) ?_
  |obtain⟨_,⟨t,e,rfl,ht,he⟩,hc⟩:=rc ⟨x.k_.v_,[]⟩ m8;refine OpG.lk (iz [] aeo rfl (fun i h h'=>match i,h with|0,_=>Df _) (fun id hk=>absurd hk (by simp)) hc) ?_
  |refine ArgG.mk (pw k0.L[0] (h3 _ (ay7 _)) (-1) (by have:=(hp (j:=0) (by omega)).2.2.2.1;omega)) rfl ?_;rintro _ ⟨t,e,rfl,ht,he⟩
  |refine ArgG.mk (aa8 x.op_ k0.L[0] (h3 _ (ay7 _)) k0.L[1] (h3 _ (ay7 _)) (by omega) (hp _).2.2.2.2.1 (hp _).2.2.2.2.1 (by have:=(hp (j:=0) (by omega)).2.2.2.1;omega) (by have:=(hp (j:=1) (by omega)).2.2.2.1;omega)) rfl ?_;rintro _ ⟨t,e,rfl,ht,he⟩;refine⟨rfl,?_⟩
 all_goals first
  |refine rtP rfl ca rfl ⟨_,_,rfl,ht,fun h=>?_,fun u hu=>?_⟩
   all_goals first
    |have o:x.op_=1:=(by omega)
     first|exact avr o h1 h6 ‹_› h4 ‹_› (he.1 h)|exact an4 o he hu
    |have o:x.op_=3:=(by omega)
     first|exact avq o h1 h6 h4 ‹_› h3 h5 (he.1 h)|exact an3 o (co (l:=x.b_) (by omega) rfl) (hp (j:=0) (by omega)).2.2.2.2.2 he hu
    |first|exact avv (by omega) h1 h6 h4 ‹_› h3 h5 hh (he.1 h)|exact an6 (by omega) (uo (l:=x.b_) (by omega)) (hp (j:=0) (by omega)).2.2.2.2.2 (hp (j:=1) (by omega)).2.2.2.2.2 he.2 hu
  |have h2:x.op_=2:=‹_›;exact rtC rfl ca rfl ⟨_,FzP.col rfl⟩ ⟨_,_,rfl,nf (.inl rfl),fun h=>avu ‹_› h1 h6 ‹_› h4 ‹_›,fun _ _=>rfl⟩
  |exact rtC rfl ca rfl ⟨_,ev (fp:=[])⟩ ⟨_,_,rfl,c8,fun h=>absurd h (by decide),fun u hu=>by first|exact ahm ‹_› (by omega) hu|exact ahn ‹_› (by omega) hu|exact ahl ‹_› (by omega) hu|exact aho (by omega) (by omega) hu|exact an2 (by omega) h9 hu⟩
def an8(r:List AV)(hr:IsEx r):∀d,d<=12->IsSh d r->PRet prog 168 [.agg (rwA r)] (fun q=>∃(t:GTm) (e:Int),q=.tup [.agg (tmA t),vI e]/\FitTm t/\(e=0->OfP d r t)/\∀u,ofT r=some u->e=0):=IsEx.ind (M:=fun r=>∀d,d<=12->IsSh d r->PRet prog 168 [.agg (rwA r)] (fun q=>∃(t:GTm) (e:Int),q=.tup [.agg (tmA t),vI e]/\FitTm t/\(e=0->OfP d r t)/\∀u,ofT r=some u->e=0)) (fun x hx ih d hd hs=>by obtain⟨d',h1,h2,h3⟩:=fx hs;subst h1;exact of_w x hx d' (by omega) h2 (fun r hr=>ih r hr d' (by omega) (h3 r hr))) hr
def of_p(r:List AV)(hr:IsEx r)(d:Nat)(hd:d<=12)(hs:IsSh d r):PRet prog 168 [.agg (rwA r)] (fun q=>∃(t:GTm) (e:Int),q=.tup [.agg (tmA t),vI e]/\FitTm t/\(e=0->OfP d r t)):=by obtain⟨_,⟨t,e,rfl,h1,h2,_⟩,h⟩:=an8 r hr d hd hs;exact⟨_,⟨t,e,rfl,h1,h2⟩,h⟩
inductive FitE:Nat->List AV->Prop
 |tm (d:Nat) (r:List AV) (t:GTm) (hn:¬HasN r) (h:OfP d r t):FitE d r
 |nul (d:Nat) (x:GEx) (hn:HasN (exA x)) (h:¬(x.op_=6\/x.op_=7\/x.op_=8)) (ha:x.op_≠9->∀r∈x.b_,FitE d r):FitE (d+1) (exA x)
def OpE(l:List PVar)(d:Nat)(r:List AV):Prop:=(∃x:GEx,r=exA x/\x.op_=1/\x.k_.c_=0/\x.b_=[])\/(TextE l r/\∀y,r=exA y->y.op_=1->Fl y.k_)\/(IntE l r/\FitE d r)
def kf(h:(v.c_==0&&(v.v_==0&&v.l_.toList==(⟨#[]⟩:ByteArray).toList))=true):Fl v:=by simp only[az8,beq_iff_eq]at h;exact⟨fun _=>⟨h.2.1,vx (by unfold jt;rw[beq_iff_eq];exact h.2.2)⟩,fun h1=>by omega,fun h1=>by omega⟩
def Sm{l:List PVar}(h:HasN (exA x))(h1:x.op_=1)(h2:((x.b_.length:Nat):Int)=0):OpE l d (exA x):=by have e:x.b_=[]:=az1 (by omega);refine .inl ⟨x,rfl,h1,?_,e⟩;rcases pf.1 h with h|⟨r,hr,_⟩;exact h.2;rw[e]at hr;exact absurd hr (by simp)
def apz(x:GEx)(hx:FitEx x)(d:Nat)(hd:d<=11)(hf:IsSh (d+1) (exA x))(ih:∀r∈x.b_,PRet prog 113 [.agg (rwA r)] (fun q=>∃b:Bool,q=vB b/\(b=true->FitE d r))):PRet prog 113 [.agg (exA x)] (fun r=>∃b:Bool,r=vB b/\(b=true->FitE (d+1) (exA x))):=by refine ovT [44] [] func113 rfl rfl ?_;refine ArgG.mk (Cn (exA x) (ko hx)) rfl ?_;rintro _ ⟨b0,rfl,he⟩;apply cB<;>intro hg;refine ArgG.mk (of_p (exA x) (ko hx) (d+1) (by omega) hf) rfl ?_;rintro _ ⟨t1,e1,rfl,ht1,hh⟩;exact rV rfl rfl ⟨_,rfl,fun hr=>.tm _ _ t1 (fun h=>by have:=he.2 h;simp_all) (hh (by simpa using hr))⟩;apply cB<;>intro h6;have h1:=h6;simp at h1;refine cT (cT ?_);exact rV rfl rfl bF;have h1:=h6;simp at h1;apply cB<;>intro h7;have h2:=h7;simp at h2;exact cT (rV rfl rfl bF);have h2:=h7;simp at h2;apply cB<;>intro h8;have h3:=h8;simp at h3;exact rV rfl rfl bF;have h3:=h8;simp at h3;refine LpG.on (fun k0:Nat=>(⟨fL [(1,.ptr 0 0 0),(5,vI k0)],hLz [(0,⟨0,exA x,0,false⟩)],1⟩:St)) (fun k0=>(x.b_.length-k0)) (fun k0=>(k0<=x.b_.length/\∀j (hl:j<x.b_.length),j<k0->x.op_≠9->FitE d x.b_[j])) 0 (cnR rfl) ⟨azk _,fun j _ h=>absurd h (azl j)⟩ ?_;rintro k0 hb;have hgr_k0:x.b_.length<=140737488355328:=hx.b_.1;obtain⟨hle_k0,h0⟩:=hb;refine LenG.of (cB (fun h4=>?_) (fun h4=>?_));have hlt33:k0<x.b_.length:=Int.ofNat_lt.1 (azi h4);apply cB<;>intro ha;have h5:=ha;simp at h5;refine IdxG.of ‹_› (OpG.lk (ci n6 rfl (jd (hx.b_.2 _ (ay7 _)))) ?_);refine ArgG.mk (ih (x.b_[k0]) (ay7 _)) (show bz [.agg (rwA x.b_[k0])]=true by simp[bz,AV.pureB,kc (hx.b_.2 _ (ay7 _))]) ?_;rintro _ ⟨b2,rfl,hi⟩;apply cB<;>intro hc;exact rV rfl rfl bF;refine⟨by omega,?_⟩;refine⟨(k0+1),by omega,(cnR rfl),?_⟩;refine⟨by omega,fun j hl h=>?_⟩;rcases azn.1 h with h|rfl;exact h0 j hl h;intro h9;exact hi (by simpa using hc);have h5:=ha;simp at h5;refine cF ⟨by omega,⟨(k0+1),by omega,(cnR rfl),?_⟩⟩;refine⟨by omega,fun j hl h=>?_⟩;rcases azn.1 h with h|rfl;exact h0 j hl h;intro h9;exact absurd ‹_› h9;have hge33:¬k0<x.b_.length:=fun h=>azh h4 (Int.ofNat_lt.2 h);exact rV rfl rfl ⟨_,rfl,fun _=>.nul d x (he.1 (by simpa using hg)) (by omega) (fun h9 r hr=>by obtain⟨j,hj,rfl⟩:=azs hr;exact h0 j hj (by omega) h9)⟩
def Un(r:List AV)(hr:IsEx r):∀d,d<=12->IsSh d r->PRet prog 113 [.agg (rwA r)] (fun q=>∃b:Bool,q=vB b/\(b=true->FitE d r)):=IsEx.ind (M:=fun r=>∀d,d<=12->IsSh d r->PRet prog 113 [.agg (rwA r)] (fun q=>∃b:Bool,q=vB b/\(b=true->FitE d r))) (fun x hx ih d hd hs=>by obtain⟨d',h1,h2,h3⟩:=fx hs;subst h1;exact apz x hx d' (by omega) hs (fun r hr=>ih r hr d' (by omega) (h3 r hr))) hr
def Sl(x:GEx)(hx:FitEx x)(l:List PVar)(hl:bq l (fun y=>True))(d:Nat)(hd:d<=12)(h8:IsSh d (exA x)):PRet prog 61 [.agg (exA x),.tree 5 (l.map vA)] (fun r=>∃b:Bool,r=vB b/\(b=true->OpE l d (exA x))):=by refine ovT [] [] func61 rfl rfl (ArgG.mk (Cn (exA x) (ko hx)) rfl ?_);rintro _ ⟨b0,rfl,h9⟩;apply cB<;>intro hg7;apply cE<;>intro hq12;refine LenG.of (cE (fun ha=>?_) (fun ha=>?_));refine cT (cE (fun h2=>?_) (fun h2=>?_));exact cT (rV rfl rfl ⟨_,rfl,fun _=>Sm (h9.1 ‹_›) ‹_› ‹_›⟩);refine OpG.lk (pm rfl rfl) (cB (fun h0=>?_) (fun h0=>?_));exact rV rfl rfl ⟨_,rfl,fun _=>Sm (h9.1 ‹_›) ‹_› ‹_›⟩;refine ArgG.mk (mr x.k_ hx.k_) rfl ?_;rintro _ ⟨b1,rfl,ho,hbc1⟩;exact rV rfl rfl ⟨_,rfl,fun _=>Sm (h9.1 ‹_›) ‹_› ‹_›⟩;refine ArgG.mk (xt (exA x) (ko hx) l hl) rfl ?_;rintro _ ⟨b2,rfl,hb,hbn2⟩;apply cB<;>intro h4;apply cE<;>intro h2;exact cT (rV rfl rfl ⟨_,rfl,fun hr=>.inr (.inl ⟨by first|exact hb ‹_›|exact ho ‹_›,fun y hy h1=>by obtain rfl:=au hy;first|omega|exact hc hr|exact kf h0⟩)⟩);refine OpG.lk (pm rfl rfl) (cB (fun h0=>?_) (fun h0=>?_));exact rV rfl rfl ⟨_,rfl,fun hr=>.inr (.inl ⟨by first|exact hb ‹_›|exact ho ‹_›,fun y hy h1=>by obtain rfl:=au hy;first|omega|exact hc hr|exact kf h0⟩)⟩;refine ArgG.mk (mr x.k_ hx.k_) rfl ?_;rintro _ ⟨b3,rfl,hp,he⟩;exact rV rfl rfl ⟨_,rfl,fun hr=>.inr (.inl ⟨by first|exact hp ‹_›|exact hb ‹_›,fun y hy h1=>by obtain rfl:=au hy;first|omega|exact he hr|exact kf h0⟩)⟩;refine ArgG.mk (Aw (exA x) (ko hx) l hl) rfl ?_;rintro _ ⟨b4,rfl,hq⟩;apply cB<;>intro h5;refine ArgG.mk (Un (exA x) (ko hx) d hd h8) rfl ?_;rintro _ ⟨b5,rfl,hf⟩;exact rV rfl rfl ⟨_,rfl,fun hr=>.inr (.inr ⟨hq ‹_›,hf hr⟩)⟩;exact rV rfl rfl bF;refine cF (ArgG.mk (xt (exA x) (ko hx) l hl) rfl ?_);rintro _ ⟨b6,rfl,hg,hbn6⟩;apply cB<;>intro h4;apply cE<;>intro h2;exact cT (rV rfl rfl ⟨_,rfl,fun hr=>.inr (.inl ⟨by first|exact hg ‹_›|exact hf ‹_›,fun y hy h1=>by obtain rfl:=au hy;first|omega|exact hh hr|exact kf h0⟩)⟩);refine OpG.lk (pm rfl rfl) (cB (fun h0=>?_) (fun h0=>?_));exact rV rfl rfl ⟨_,rfl,fun hr=>.inr (.inl ⟨by first|exact hg ‹_›|exact hf ‹_›,fun y hy h1=>by obtain rfl:=au hy;first|omega|exact hh hr|exact kf h0⟩)⟩;refine ArgG.mk (mr x.k_ hx.k_) rfl ?_;rintro _ ⟨b7,rfl,hs,hi⟩;exact rV rfl rfl ⟨_,rfl,fun hr=>.inr (.inl ⟨by first|exact hs ‹_›|exact hg ‹_›,fun y hy h1=>by obtain rfl:=au hy;first|omega|exact hi hr|exact kf h0⟩)⟩;refine ArgG.mk (Aw (exA x) (ko hx) l hl) rfl ?_;rintro _ ⟨b8,rfl,ht⟩;apply cB<;>intro h5;refine ArgG.mk (Un (exA x) (ko hx) d hd h8) rfl ?_;rintro _ ⟨b9,rfl,hj⟩;exact rV rfl rfl ⟨_,rfl,fun hr=>.inr (.inr ⟨ht ‹_›,hj hr⟩)⟩;exact rV rfl rfl bF;refine cF (cF ?_);refine ArgG.mk (xt (exA x) (ko hx) l hl) rfl ?_;rintro _ ⟨b10,rfl,h3,hbn10⟩;apply cB<;>intro h4;apply cE<;>intro h2;exact cT (rV rfl rfl ⟨_,rfl,fun hr=>.inr (.inl ⟨by first|exact h3 ‹_›|exact hj ‹_›,fun y hy h1=>by obtain rfl:=au hy;first|omega|exact h6 hr|exact kf h0⟩)⟩);refine OpG.lk (pm rfl rfl) (cB (fun h0=>?_) (fun h0=>?_));exact rV rfl rfl ⟨_,rfl,fun hr=>.inr (.inl ⟨by first|exact h3 ‹_›|exact hj ‹_›,fun y hy h1=>by obtain rfl:=au hy;first|omega|exact h6 hr|exact kf h0⟩)⟩;refine ArgG.mk (mr x.k_ hx.k_) rfl ?_;rintro _ ⟨b11,rfl,hk,h7⟩;exact rV rfl rfl ⟨_,rfl,fun hr=>.inr (.inl ⟨by first|exact hk ‹_›|exact h3 ‹_›,fun y hy h1=>by obtain rfl:=au hy;first|omega|exact h7 hr|exact kf h0⟩)⟩;refine ArgG.mk (Aw (exA x) (ko hx) l hl) rfl ?_;rintro _ ⟨b12,rfl,hm⟩;apply cB<;>intro h5;refine ArgG.mk (Un (exA x) (ko hx) d hd h8) rfl ?_;rintro _ ⟨b13,rfl,hn⟩;exact rV rfl rfl ⟨_,rfl,fun hr=>.inr (.inr ⟨hm ‹_›,hn hr⟩)⟩;exact rV rfl rfl bF
def Gl(r:List AV)(hr:IsEx r)(l:List PVar)(hl:bq l (fun y=>True))(d:Nat)(hd:d<=12)(h0:IsSh d r):PRet prog 61 [.agg (rwA r),.tree 5 (l.map vA)] (fun q=>∃b:Bool,q=vB b/\(b=true->OpE l d r)):=by obtain⟨x,rfl,hx⟩:=hr.open_;exact Sl x hx l hl d hd h0
def atu(l:List PVar)(a b:GEx):Prop:=(¬TextE l (exA a)/\¬TextE l (exA b))\/(TextE l (exA a)/\TextE l (exA b))\/(a.op_=1/\HasN (exA a))\/(b.op_=1/\HasN (exA b))
inductive CondE(l:List PVar):List AV->Prop
 |bin (x:GEx) (h:x.op_=18\/x.op_=19) (hl:x.b_.length=2) (ha:∀r∈x.b_,CondE l r) (hsh:IsSh 12 (exA x)):CondE l (exA x)
 |not (x:GEx) (h:x.op_=20) (hl:x.b_.length=1) (ha:∀r∈x.b_,CondE l r) (hsh:IsSh 12 (exA x)):CondE l (exA x)
 |isn (x:GEx) (h:x.op_=17) (hl:x.b_.length=1) (ha:∀r∈x.b_,OpE l 11 r) (hsh:IsSh 12 (exA x)):CondE l (exA x)
 |like (x a b:GEx) (h:x.op_=16) (ha:x.b_=[exA a,exA b]) (hb:b.op_=1/\b.k_.c_=2/\Fl b.k_/\b.b_=[]) (ho:OpE l 11 (exA a)) (ht:TextE l (exA a)\/HasN (exA a)) (hsh:IsSh 12 (exA x)):CondE l (exA x)
 |cmp (x a b:GEx) (h:10<=x.op_/\x.op_<=15) (ha:x.b_=[exA a,exA b]) (h0:OpE l 11 (exA a)) (h1:OpE l 11 (exA b)) (hs:atu l a b) (hop:TextE l (exA a)->a.op_=1\/b.op_=1\/x.op_=10\/x.op_=11) (hsh:IsSh 12 (exA x)):CondE l (exA x)
def na{l:List PVar}{r:List AV}(h:CondE l r):IsSh 12 r:=by cases h<;>assumption
theorem acb{a b:List AV}(h:((l.length:Nat):Int)=2)(h0:l[0]'(by omega)=a)(h1:l[1]'(by omega)=b):l=[a,b]:=by
 match l,h,h0,h1 with
 |[c,d],_,h0,h1=>rw[<-h0,<-h1];rfl
def shC(h:IsSh 12 (exA x)):x.b_.length<=2/\∀r∈x.b_,IsSh 11 r:=by grind[fx]
theorem aap(x:GEx)(hx:FitEx x)(l:List PVar)(hl:bq l (fun y=>True))(dp:Int)(hdp:0<=dp/\dp<=1000)(ih:∀r∈x.b_,∀d:Int,(0<=d/\d<=1000)->PRet prog 59 [.agg (rwA r),.tree 5 (l.map vA),vI d] (fun q=>∃b:Bool,q=vB b/\(b=true->CondE l r))):PRet prog 59 [.agg (exA x),.tree 5 (l.map vA),vI dp] (fun r=>∃b:Bool,r=vB b/\(b=true->CondE l (exA x))):=by
 obtain⟨a0,e0,h0⟩:=opD hx 0;obtain⟨a1,e1,h1⟩:=opD hx 1;refine ovT [] [] func59 rfl rfl ?_
 repeat' first
  |refine cT ?_|refine cF ?_|refine cE (fun _=>?_) (fun _=>?_)<;>try omega|refine cN (fun _=>?_) (fun _=>?_)<;>try omega|apply cD<;>intro _
  |refine LenG.of ?_|refine cb (j:=0) (by omega) (e0 (by omega)) ?_|refine cb (j:=1) (by omega) (e1 (by omega)) ?_
  |refine⟨by omega,?_⟩|refine⟨rfl,?_⟩
  |refine ArgG.mk (agm (exA x) (ko hx) 12 (by omega)) rfl ?_;rintro _ ⟨_|_,rfl,sh⟩<;>try have hh:=shC (sh rfl)
  |refine ArgG.mk (ih (exA a0) (e0 (by omega)▸ay7 _) (dp-1) (by omega)) rfl ?_;rintro _ ⟨_|_,rfl,i0⟩
  |refine ArgG.mk (ih (exA a1) (e1 (by omega)▸ay7 _) (dp-1) (by omega)) rfl ?_;rintro _ ⟨_|_,rfl,i1⟩
  |refine ArgG.mk (xt (exA a0) (ko h0) l hl) rfl ?_;rintro _ ⟨_|_,rfl,t0,t2⟩
  |refine ArgG.mk (xt (exA a1) (ko h1) l hl) rfl ?_;rintro _ ⟨_|_,rfl,t1,t3⟩
  |refine ArgG.mk (Cn (exA a0) (ko h0)) rfl ?_;rintro _ ⟨_|_,rfl,n0⟩
  |refine ArgG.mk (Cn (exA a1) (ko h1)) rfl ?_;rintro _ ⟨_|_,rfl,n1⟩
  |refine ArgG.mk (Gl (exA a0) (ko h0) l hl 11 (by omega) (e0 (by omega)▸hh.2 _ (ay7 _))) rfl ?_;rintro _ ⟨_|_,rfl,o0⟩
  |refine ArgG.mk (Gl (exA a1) (ko h1) l hl 11 (by omega) (e1 (by omega)▸hh.2 _ (ay7 _))) rfl ?_;rintro _ ⟨_|_,rfl,o1⟩
  |refine ArgG.mk (mr a1.k_ h1.k_) rfl ?_;rintro _ ⟨_|_,rfl,_,cv⟩
  |refine ArgG.mk (ag9 x.op_) rfl ?_;rintro _ ⟨p,rfl,hp⟩
 all_goals first
  |exact rV rfl rfl bF
  |refine rV rfl rfl ⟨_,rfl,fun _=>?_⟩
   first
    |exact .bin x (by omega) (by omega) (all2 ‹_› (e0 (by omega)▸i0 rfl) (e1 (by omega)▸i1 rfl)) (sh rfl)
    |exact .not x ‹_› (by omega) (ayv ‹_› (e0 (by omega)▸i0 rfl)) (sh rfl)
    |exact .isn x ‹_› (by omega) (ayv ‹_› (e0 (by omega)▸o0 rfl)) (sh rfl)
    |exact .like x a0 a1 ‹_› (acb ‹_› (e0 (by omega)) (e1 (by omega))) ⟨by assumption,by assumption,cv rfl,az1 (by omega)⟩ (o0 rfl) (by first|exact .inl (t0 rfl)|exact .inr (n0.1 rfl)) (sh rfl)
    |exact .cmp x a0 a1 (hp (by omega)) (acb (by omega) (e0 (by omega)) (e1 (by omega))) (o0 rfl) (o1 rfl) (by first|exact .inl ⟨t2 rfl,t3 rfl⟩|exact .inr (.inl ⟨t0 rfl,t1 rfl⟩)|exact .inr (.inr (.inl ⟨by assumption,n0.1 rfl⟩))|exact .inr (.inr (.inr ⟨by assumption,n1.1 rfl⟩))) (by first|exact fun h=>absurd h (t2 rfl)|(intro _;omega)|(intro _;simp_all)) (sh rfl)
def aaq(r:List AV)(hr:IsEx r)(l:List PVar)(hl:bq l (fun y=>True)):∀d:Int,(0<=d/\d<=1000)->PRet prog 59 [.agg (rwA r),.tree 5 (l.map vA),vI d] (fun q=>∃b:Bool,q=vB b/\(b=true->CondE l r)):=IsEx.ind (M:=fun r=>∀d:Int,(0<=d/\d<=1000)->PRet prog 59 [.agg (rwA r),.tree 5 (l.map vA),vI d] (fun q=>∃b:Bool,q=vB b/\(b=true->CondE l r))) (fun x hx ih d hd=>aap x hx l hl d hd ih) hr
def jc:RowF vA 5:=⟨fun _=>rfl,fun _=>rfl,fun _ _=>rfl,fun _ _=>rfl,fun _ _=>rfl,fun _=>rfl⟩
def zq(c:GCol):PVar:=⟨c.D_,c.H_,c.G_,c.I_,!c.A_⟩
def aa(t:GTab):List PVar:=t.d_.map zq
theorem Fq{t:GTab}(h:k<t.d_.length):(aa t).take (k+1)=(aa t).take k++[zq t.d_[k]]:=by rw[azj (by simpa[aa]using h)];simp[aa]
theorem Kx{t:GTab}(h:¬k<t.d_.length):(aa t).take k=aa t:=az0 (by simp[aa];omega)
def ay4(v:GVal)(x:PVar):Prop:=(v.c_=0/\v.v_=0)\/(v.c_=1/\x.t=1/\x.lo<=v.v_/\v.v_<=x.hi)\/(v.c_=2/\x.t=2/\v.v_=0/\v.l_.size<=16)
def po(v:GVal)(x:PVar):Bool:=if Bv v=true then(if v.c_=0 then x.nl else if v.c_=1 then(x.t==1&&decide (v.v_≥x.lo)&&decide (v.v_<=x.hi))else(x.t==2&&decide ((v.l_.size:Int)<=x.mx)))else false
def Up{x:PVar}(h:po v x=true):ay4 v x:=by grind[ay4,po,Qk]
theorem ai6{x:PVar}(h:v.c_=0->x.nl=true):po v {x with nl:=true}=po v x:=by grind[po]
theorem ai5{x:PVar}(h:v.c_=0)(h2:x.nl=false):po v x=false:=by unfold po;rw[azg h,h2];split<;>rfl
structure KE where
 k:Nat
 e:Int
def FtI(t:GTab)(r:List GVal)(s:KE):Prop:=s.e=0↔∀j (hl:j<r.length) (h2:j<t.d_.length),j<s.k->po r[j] (zq t.d_[j])=true
section
variable{t:GTab}{r:List GVal}{s:KE}
def Uf(h:FtI t r s)(h2:s.k<t.d_.length)(hk:s.k<r.length)(hf:po r[s.k] (zq t.d_[s.k])=true):FtI t r ⟨s.k+1,s.e⟩:=by grind[po,zq,FtI]
def adn{e:Int}(h2:s.k<t.d_.length)(hk:s.k<r.length)(hf:po r[s.k] (zq t.d_[s.k])=false)(he:e≠0):FtI t r ⟨s.k+1,e⟩:=by grind[po,zq,FtI]
end
def Wd:(prog.info? 109).map (·.bytes)=some 40:=by kernel_rfl
def Qc:bp prog 109=some (.agg #[.int .i64 0,.int .i64 0,.int .i64 0,.int .i64 0,.bool false]):=by kernel_rfl
def vy(x:GEx)(hx:FitEx x)(l:List PVar)(hl:bq l (fun y=>True)):PRet prog 47 [.agg (exA x),.tree 5 (l.map vA)] (fun r=>∃b:Bool,r=vB b/\(b=true->x.op_=0\/CondE l (exA x))):=by refine ovT [] [] func47 rfl rfl (ArgG.mk (ajc x hx) rfl ?_);rintro _ ⟨b0,rfl,h0⟩;refine cB (fun h1=>rV rfl rfl ⟨_,rfl,fun _=>.inl (h0 ‹_›)⟩) (fun h1=>ArgG.mk (aaq (exA x) (ko hx) l hl 6 (by omega)) rfl ?_);rintro _ ⟨b1,rfl,h2⟩;exact rV rfl rfl ⟨_,rfl,fun hr=>.inr (h2 hr)⟩
def jz(t:GTab)(ht:FitTab t)(hcl:t.d_.length<=3518437208883):PRet prog 11 [.agg (ic t)] (fun r=>r=.tree 5 ((aa t).map vA)):=by refine ovT [] [] func11 rfl rfl (LpG.via (fun _ h=>bl 3 5 rfl 2 rfl h) ?_);refine LpG.on (fun k0:KL PVar=>(⟨fL [(1,.ptr 0 0 0),(3,.sl 1 k0.L.length 0 k0.L.length),(4,vI k0.k)],hLz [(0,⟨0,ic t,0,false⟩),(1,⟨k0.L.length,rF vA k0.L,5,Nat.beq k0.L.length 0⟩)],2⟩:St)) (fun k0=>(t.d_.length-k0.k)) (fun k0=>(k0.k<=t.d_.length/\k0.L.length=k0.k/\(∀x∈k0.L,True)/\k0.L=(aa t).take k0.k)) (⟨0,[]⟩:KL PVar) (cnS (by rfl) (hpR rfl (hpS (ab jc _ _) (by rfl) trivial))) ⟨azk _,rfl,by simp,rfl⟩ ?_;rintro k0 h4;have hgr_k0:t.d_.length<=140737488355328:=ht.d_.1;obtain⟨hle_k0,h1,hf_k0,h0⟩:=h4;refine LenG.of (cL (fun h2=>?_) (fun h3=>?_));refine IdxG.of ‹_› (OpG.mk _ _ _ 4 (ah jc (a:=(zq t.d_[k0.k])) underlying54 uw Qc Wd rfl rfl rfl (am rfl rfl rfl rfl) rfl (by omega) (by omega) (by unfold TV;omega)) rfl rfl ?_);refine⟨by omega,⟨(⟨k0.k+1,k0.L++[(zq t.d_[k0.k])]⟩:KL PVar),(nsA ‹_›),(cO (.cons rfl rfl (.cons (by(rw[azb];rfl)) rfl (.cons rfl rfl .nil))) (.cons rfl rfl rfl (.cons (by(rw[azb];rfl)) rfl (ab jc _ _) .nil))),?_⟩⟩;refine⟨‹_›,by show(_++[_]).length=k0.k+1;rw[azb,h1];rfl,fun _ _=>trivial,?_⟩;show _++[_]=(aa t).take (k0.k+1);rw[Fq h2,h0];refine rtA rfl ⟨[1],FzP.rows jc (azc.2 rfl) rfl⟩ ?_;show AV.tree 5 (k0.L.map vA)=_;rw[h0,Kx h3]
def Mx(v:GVal)(hv:FitVal v)(x:PVar):PRet prog 28 [.agg (gvA v),.agg (vA x)] (fun r=>r=vB (po v x)):=by
 refine ovT [] [] func28 rfl rfl ?_;refine ArgG.mk (B8 v hv) rfl ?_;rintro _ rfl;apply cB<;>intro hc7
 ·refine rV rfl rfl ?_;refine je ?_;unfold po;(simp_all;done)
 apply cB<;>intro h0
 ·have h5:(v.c_:Int)=(0:Int):=by simpa using h0
  refine rV rfl rfl ?_;refine je ?_;unfold po;(simp_all;done)
 have h5:¬((v.c_:Int)=(0:Int)):=by simpa using h0
 apply cB<;>intro h1
 ·have h6:(v.c_:Int)=(1:Int):=by simpa using h1
  apply cB<;>intro h2
  ·have h7:(x.t:Int)=(1:Int):=by simpa using h2
   apply cB<;>intro h3
   ·have h8:=azi h3;refine rV rfl rfl ?_;refine je ?_;unfold po;(simp_all;done)
   have h8:=azh h3;refine rV rfl rfl ?_;refine je ?_;unfold po;(simp_all;omega)
  have h7:¬((x.t:Int)=(1:Int)):=by simpa using h2
  refine cF (rV rfl rfl ?_);refine je ?_;unfold po;(simp_all;done)
 have h6:¬((v.c_:Int)=(1:Int)):=by simpa using h1
 apply cB<;>intro h4
 ·have h9:(x.t:Int)=(2:Int):=by simpa using h4
  refine rV rfl rfl ?_;refine je ?_;unfold po;(simp_all;done)
 have h9:¬((x.t:Int)=(2:Int)):=by simpa using h4
 refine rV rfl rfl ?_;refine je ?_;unfold po;(simp_all;done)
def Dc(t:GTab)(r:List GVal):Prop:=r.length=t.d_.length/\∀j (hl:j<r.length) (h2:j<t.d_.length),po r[j] (zq t.d_[j])=true
def Z9{t:GTab}{b:Bool}(h1:k<(aa t).length)(h2:k<t.d_.length)(hb:po v {(aa t)[k]with nl:=true}=b)(hn:v.c_=0->t.d_[k].A_=false):po v (zq t.d_[k])=b:=by grind[aa,zq,ai6]
def El(t:GTab)(ht:FitTab t)(w:List GVal)(hw:bq w (fun y=>FitVal y))(hcl:t.d_.length<=1000):PRet prog 7 [.agg (ic t),.tree 3 (w.map gvA)] (fun q=>∃e:Int,q=vI e/\(e=0↔Dc t w)):=by
 refine ovT [] [] func7 rfl rfl (LenG.of (LenG.of (cB (fun h6=>by have hb:¬(((w.length:Nat):Int)=((t.d_.length:Nat):Int)):=(by simpa using h6);have h7:¬w.length=t.d_.length:=(by have h:=h6;simp at h;omega);exact rV rfl rfl ⟨_,rfl,fun h=>absurd h (by decide),fun h=>absurd h.1 h7⟩) (fun h6=>have hb:((w.length:Nat):Int)=((t.d_.length:Nat):Int):=(by simpa using h6);have h7:w.length=t.d_.length:=(by have h:=h6;simp at h;omega);ArgG.mk (jz t ht (by omega)) rfl ?_))));rintro _ rfl;refine LpG.on (fun k0:KE=>(⟨fL [(1,.tree 3 (w.map gvA)),(2,.ptr 0 0 0),(5,.tree 5 (((aa t)).map vA)),(6,vI k0.e),(7,vI k0.k)],hLz [(0,⟨0,ic t,0,false⟩)],1⟩:St)) (fun k0=>(w.length-k0.k)) (fun k0=>(k0.k<=w.length/\FtI t w k0)) (⟨0,0⟩:KE) (cnR rfl) ⟨azk _,⟨fun _ j _ _ h=>absurd h (azl j),fun _=>rfl⟩⟩ ?_;rintro k0 hc;have hgr_k0:w.length<=140737488355328:=hw.1
 obtain⟨hle_k0,h5⟩:=hc;refine LenG.of (cL (fun h3=>?_) (fun hge20=>?_));have ha:k0.k<(aa t).length:=by simp[aa];omega
 have h0:k0.k<t.d_.length:=by omega
 refine IdxG.of ‹_› (IdxG.of ‹_› (cE (fun hd=>?_) (fun hd=>?_)));refine IdxG.of ‹_› (cB (fun h8=>rV rfl rfl ⟨_,rfl,fun h=>absurd h (by decide),fun h=>by have h1:=h.2 k0.k h3 h0;rw[ai5 ‹_› (by show(!t.d_[k0.k].A_)=false;simp_all)]at h1;cases h1⟩) (fun h8=>IdxG.of ‹_› (ArgG.mk (Mx (w[k0.k]) (hw.2 _ (ay7 _)) (({(aa t)[k0.k]with nl:=true}:PVar))) rfl ?_)));rintro _ rfl;refine⟨by kernel_rfl,cB (fun h4=>?_) (fun h4=>?_)⟩;refine⟨by omega,⟨(⟨k0.k+1,_⟩:KE),(nsA ‹_›),(cnR rfl),⟨‹_›,?_⟩⟩⟩;have h9:w[k0.k].c_=0->t.d_[k0.k].A_=false:=fun h=>by(simpa using h8)
 exact adn h0 h3 (Z9 ha h0 (by simpa using h4) h9) (by decide);refine⟨by omega,⟨(⟨k0.k+1,_⟩:KE),(nsA ‹_›),(cnR rfl),⟨‹_›,?_⟩⟩⟩;have h9:w[k0.k].c_=0->t.d_[k0.k].A_=false:=fun h=>by(simpa using h8)
 exact Uf h5 h0 h3 (Z9 ha h0 (by simpa using h4) h9);refine cF (IdxG.of ‹_› (ArgG.mk (Mx (w[k0.k]) (hw.2 _ (ay7 _)) (({(aa t)[k0.k]with nl:=true}:PVar))) rfl ?_));rintro _ rfl;refine⟨by kernel_rfl,cB (fun h4=>?_) (fun h4=>?_)⟩;refine⟨by omega,⟨(⟨k0.k+1,_⟩:KE),(nsA ‹_›),(cnR rfl),⟨‹_›,?_⟩⟩⟩;have h9:w[k0.k].c_=0->t.d_[k0.k].A_=false:=fun h=>by exact absurd h ‹_›
 exact adn h0 h3 (Z9 ha h0 (by simpa using h4) h9) (by decide);refine⟨by omega,⟨(⟨k0.k+1,_⟩:KE),(nsA ‹_›),(cnR rfl),⟨‹_›,?_⟩⟩⟩;have h9:w[k0.k].c_=0->t.d_[k0.k].A_=false:=fun h=>by exact absurd h ‹_›
 exact Uf h5 h0 h3 (Z9 ha h0 (by simpa using h4) h9);exact rV rfl rfl ⟨_,rfl,fun h=>⟨h7,fun j hl h2=>h5.1 h j hl h2 (by omega)⟩,fun h=>h5.2 fun j hl h2 _=>h.2 j hl h2⟩
section
variable{P:Program}{τ:Nat->AV}{η:bm}{d:Option Tmp}{ty:TypeId}{pos:String}{af:Array Edge}{g:Option (Nat×Bool)}
def E4{t t':Nat}{x y:Operand}{m:Int}(hx:aev τ x=vI m)(hy:aev τ y=vI n)(h3:1<=n):
 LOp P ⟨d,.binOp .rem t x y t',ty,pos,af,g⟩ τ η [] [] (vI (m.tmod n)):=
 .look [] fun C a _ h1 _=>by have e1:=h1 x (by simp[Op.operands]);have e2:=h1 y (by simp[Op.operands]);rw[hx]at e1;rw[hy]at e2;refine⟨.int .i64 (m.tmod n),?_,VR.v C _⟩;have h0:¬(n=0):=(by omega);simp only[execOp,e1.v_inv,e2.v_inv];simp[binOp,Op.intArith,Op.intDiv,eqGuard,h0,Sem.run_bind]
end
def fl14{a:Int}(hb:1<=b):(a.tmod b≠0->a<0->a.tdiv b-1=a.fdiv b)/\(¬(a.tmod b≠0/\a<0)->a.tdiv b=a.fdiv b):=by
 have hf:=uu (a:=a) hb;have h1:=Int.tmod_add_mul_tdiv a b
 have h4:b*a.tdiv b=a.tdiv b*b:=Int.mul_comm _ _;refine⟨fun hn ha=>?_,fun h=>?_⟩;have h2:a.tmod b<=0:=by have:=Int.tmod_nonneg b (by omega:0<=-a);rw[Int.neg_tmod]at this;omega
 rw[<-hf,azg (by omega)]
 have h2:0<=a.tmod b:=by
  by_cases ha:a<0;by_cases hz:a.tmod b=0;omega;exact absurd ⟨hz,ha⟩ h;exact Int.tmod_nonneg b (by omega)
 rw[<-hf,azf (by omega)]
def awq{b:GVal}(h:(!(a.c_==b.c_&&(a.v_==b.v_&&a.l_.toList==b.l_.toList)))=false):a=b:=by obtain⟨k,i,t⟩:=a;obtain⟨k',i',t'⟩:=b;simp at h;obtain⟨h1,h2,h3⟩:=h;subst h1;subst h2;rw[toList_inj h3]
def awp{b:GVal}(h:(!(a.c_==b.c_&&(a.v_==b.v_&&a.l_.toList==b.l_.toList)))=true):a≠b:=by intro e;subst e;simp at h
def wy:ey prog 30=some (some 3):=by kernel_rfl
def jq(n:Int):PRet prog 157 [vI n] (fun r=>r=.agg (gvA ⟨1,n,⟨#[]⟩⟩)):=ovT [] [] func157 rfl rfl (rtK rfl wy rfl ⟨[],FzP.pure rfl⟩ rfl)
def Hj(a:Int)(b:Int)(ha:-4611686018427387904<=a/\a<=4611686018427387904)(hb:1<=b/\b<=4611686018427387904):PRet prog 158 [vI a,vI b] (fun r=>∃v:Int,r=vI v/\v=a.fdiv b):=by have hf:=fl14 (a:=a) hb.1;have hq:=Do ha hb;exact ovT [8,11,21] [] func158 rfl rfl (OpG.lk (qg rfl rfl (by omega) (by omega) (by omega)) (OpG.lk (E4 rfl rfl (by omega)) (cN (fun h0=>cB (fun h1=>OpG.lk (qf rfl rfl (by omega) (by omega)) (rV rfl rfl ⟨_,rfl,hf.1 ‹_› (by simp_all;omega)⟩)) (fun h1=>rV rfl rfl ⟨_,rfl,hf.2 (by simp_all;omega)⟩)) (fun h0=>cF (rV rfl rfl ⟨_,rfl,hf.2 (by simp_all)⟩)))))
def aog(b:Bool):PRet prog 100 [vB b] (fun r=>∃v:Int,r=vI v/\v=if b=true then 1 else 0):=ovT [] [] func100 rfl rfl (cB (fun h0=>rV rfl rfl ⟨_,rfl,by simp_all⟩) (fun h0=>rV rfl rfl ⟨_,rfl,by simp_all⟩))
def bw(t:GTab)(ht:FitTab t)(hcl:t.d_.length<=1000):PRet prog 75 [.agg (ic t)] (fun r=>r=.tree 5 ((aa t).map vA)):=by refine ovT [] [] func75 rfl rfl (LenG.of ?_);refine LpG.via (fun _ h=>bl 3 5 rfl 2 rfl h) (LpG.on (fun k0:KL PVar=>(⟨fL [(3,.sl 1 k0.L.length 0 k0.L.length),(7,.tree 6 (t.d_.map zh)),(8,vI t.d_.length),(9,vI k0.k)],hLz [(1,⟨k0.L.length,rF vA k0.L,5,Nat.beq k0.L.length 0⟩)],2⟩:St)) (fun k0=>(t.d_.length-k0.k)) (fun k0=>(k0.k<=t.d_.length/\k0.L.length=k0.k/\(∀x∈k0.L,True)/\k0.L=(aa t).take k0.k)) (⟨0,[]⟩:KL PVar) (cnS (by rfl) (hpS (ab jc _ _) (by rfl) trivial)) ⟨azk _,rfl,by simp,rfl⟩ ?_);rintro k0 h3;have hgr_k0:t.d_.length<=140737488355328:=ht.d_.1;obtain⟨hle_k0,h2,hf_k0,h0⟩:=h3;apply cL<;>intro h1;refine IdxG.of ‹_› (OpG.mk _ _ _ 4 (ah jc (a:=(zq t.d_[k0.k])) underlying54 uw Qc Wd rfl rfl rfl (am rfl rfl rfl rfl) rfl (by omega) (by omega) (by unfold TV;omega)) rfl rfl ?_);refine⟨by omega,⟨(⟨k0.k+1,k0.L++[(zq t.d_[k0.k])]⟩:KL PVar),(nsA ‹_›),(cO (.cons (by(rw[azb];rfl)) rfl (.cons rfl rfl (.cons rfl rfl (.cons rfl rfl .nil)))) (.cons (by(rw[azb];rfl)) rfl (ab jc _ _) .nil)),?_⟩⟩;refine⟨‹_›,by show(_++[_]).length=k0.k+1;rw[azb,h2];rfl,fun _ _=>trivial,?_⟩;show _++[_]=(aa t).take (k0.k+1);rw[Fq h1,h0];refine rtA rfl ⟨[1],FzP.rows jc (azc.2 rfl) rfl⟩ ?_;show AV.tree 5 (k0.L.map vA)=_;rw[h0,Kx h1]
def Cz(a:List GVal)(ha:bq a (fun y=>FitVal y))(b:List GVal)(hb:bq b (fun y=>FitVal y)):PRet prog 87 [.tree 3 (a.map gvA),.tree 3 (b.map gvA)] (fun r=>∃v:Bool,r=vB v/\(v=true↔a=b)):=by refine ovT [] [] func87 rfl rfl ?_;refine LenG.of (LenG.of ?_);apply cB<;>intro h0;have h4:=h0;simp at h4;refine rV rfl rfl ?_;refine⟨_,rfl,fun h=>absurd h az7,fun h=>?_⟩;subst h;simp at h0;have h4:=h0;simp at h4;have h7:a.length=b.length:=(by have h:=h0;simp at h;omega);refine LenG.of (LpG.on (fun k0:Nat=>(⟨fL [(0,.tree 3 (a.map gvA)),(1,.tree 3 (b.map gvA)),(12,vI a.length),(13,vI k0)],hLz [],0⟩:St)) (fun k0=>(a.length-k0)) (fun k0=>(k0<=a.length/\∀j (hl:j<a.length),j<k0->∀h2:j<b.length,a[j]=b[j])) 0 (cnR rfl) ⟨azk _,fun j _ h=>absurd h (azl j)⟩ ?_);rintro k0 h6;have hgr_k0:a.length<=140737488355328:=ha.1;obtain⟨hle_k0,h3⟩:=h6;apply cL<;>intro hlt14;refine IdxG.of ‹_› (IdxG.of (by omega) ?_);refine OpG.lk (H9 rfl rfl) ?_;refine⟨by kernel_rfl,?_⟩;apply cB<;>intro h5;exact rV rfl rfl ⟨_,rfl,fun h=>absurd h az7,fun h=>by subst h;exact absurd rfl (awp h5)⟩;refine⟨by omega,?_⟩;refine⟨(k0+1),by omega,(cnR rfl),?_⟩;refine⟨by omega,fun j hl h=>?_⟩;rcases azn.1 h with h|rfl;exact h3 j hl h;exact fun _=>awq h5;exact rV rfl rfl ⟨_,rfl,fun _=>List.ext_getElem h7 (fun i h1 h2=>h3 i h1 (by omega) h2),fun _=>rfl⟩
def zV:GVal:=⟨0,0,⟨#[]⟩⟩
def iV(n:Int):GVal:=⟨1,n,⟨#[]⟩⟩
def yp(op a b:Int):Int:=if op=4 then a+b else if op=5 then a-b else if op=6 then a*b else if op=7 then a.fdiv b else a-b*a.fdiv b
def opS(op:Int):List GVal->GVal
 |[]=>zV
 |a::rest=>if a.c_=0 then zV else if op=3 then iV (-a.v_)else if op=9 then iV ((a.l_.size:Nat):Int)else
  match rest with
  |[]=>zV
  |b::_=>if b.c_=0 then zV else iV (yp op a.v_ b.v_)
mutual
def vS(R:Int->GVal):List AV->GVal
 | [.v (.int _ op),.v _,.v _,.v (.int _ ix),.v (.int _ k),.v (.int _ i),.v (.string s),.tree _ es]=>if op=1 then⟨k,i,s⟩else if op=2 then R ix else opS op (vsS R es)
 |_=>zV
def vsS(R:Int->GVal):List (List AV)->List GVal
 | []=>[]
 |r :: rs=>vS R r :: vsS R rs
end
theorem jf(R:Int->GVal)(x:GEx):vS R (exA x)=if x.op_=1 then x.k_ else if x.op_=2 then R x.j_ else opS x.op_ (vsS R x.b_):=by simp only[exA,vS,fk]
def bj(r:List GVal)(i:Int):GVal:=r.getD i.toNat zV
def mq(r:List GVal)(k v:Int):Int:=if k=0 then(if(bj r v).c_=1 then(bj r v).v_ else 0)else if k=1 then(if(bj r v).c_=2 then((bj r v).l_.size:Nat)else 0)else 0
def X3(l:List PVar)(r:List GVal):Prop:=r.length=l.length/\∀j (hl:j<r.length) (h2:j<l.length),ay4 r[j] l[j]
def LOk(l:List PVar):Prop:=∀x∈l,x.t=1->-2147483648<=x.lo/\x.hi<=2147483647
theorem qx(h:j<r.length):bj r ((j:Nat):Int)=r[j]:=by simp[bj,List.getD,h]
def Z7{l:List PVar}(hr:X3 l r)(hl:LOk l):Xq (mq r):=by
 intro v
 have key:(bj r v).c_=1->-2147483648<=(bj r v).v_/\(bj r v).v_<=2147483648:=fun h=>by
  by_cases hj:v.toNat<r.length;have e:bj r v=r[v.toNat]:=by simp[bj,List.getD,hj]
  rw[e]at h ⊢;rcases hr.2 v.toNat hj (by have:=hr.1;omega)with h1|h1|h1;omega;have:=hl _ (ay7 (by have:=hr.1;omega:v.toNat<l.length)) h1.2.1
  omega;omega;have e:bj r v=zV:=by simp[bj,List.getD,List.getElem?_eq_none (Nat.le_of_not_lt hj)]
  rw[e]at h;exact absurd h (by decide)
 have key2:(bj r v).c_=2->(bj r v).l_.size<=16:=fun h=>by
  by_cases hj:v.toNat<r.length;have e:bj r v=r[v.toNat]:=by simp[bj,List.getD,hj]
  rw[e]at h ⊢;rcases hr.2 v.toNat hj (by have:=hr.1;omega)with h1|h1|h1<;>omega;have e:bj r v=zV:=by simp[bj,List.getD,List.getElem?_eq_none (Nat.le_of_not_lt hj)]
  rw[e]at h;exact absurd h (by decide)
 refine⟨fun k=>?_,?_⟩;unfold mq;split;split;rename_i h;exact key h;omega;split;split;rename_i h;have:=key2 h;omega
 omega;omega;rw[<-and_assoc];refine⟨?_,rfl⟩;unfold mq;rw[azf (by decide),azg rfl];split;rename_i h;have:=key2 h;omega
 omega
def NV(v:GVal)(n:Int):Prop:=v.c_=0\/(v.c_=1/\v.v_=n)
theorem d8{l:List PVar}(h:IntE l (exA x)):(x.op_=1/\x.b_=[]/\(x.k_.c_=1\/x.k_.c_=0))\/(x.op_=2/\x.b_=[]/\∃j,∃h:j<l.length,x.j_=((j:Nat):Int)/\l[j].t=1)\/(x.op_=9/\∃a:GEx,x.b_=[exA a]/\a.b_=[]/\(TextE l (exA a)\/(a.op_=1/\a.k_.c_=0)))\/(x.op_=3/\x.b_.length=1/\∀r∈x.b_,IntE l r)\/((4<=x.op_/\x.op_<=8)/\x.b_.length=2/\∀r∈x.b_,IntE l r):=by
 generalize e:exA x=r at h
 cases h with
 |lit y h ha hk _=>rw[au e];exact .inl ⟨h,ha,hk⟩
 |col y h ha hj=>rw[au e];exact .inr (.inl ⟨h,ha,hj⟩)
 |len y a h ha h0 ht=>rw[au e];exact .inr (.inr (.inl ⟨h,a,ha,h0,ht⟩))
 |neg y h ha hs=>rw[au e];exact .inr (.inr (.inr (.inl ⟨h,ha,hs⟩)))
 |bin y h ha hs=>rw[au e];exact .inr (.inr (.inr (.inr ⟨h,ha,hs⟩)))
def aon(h:NV a n):NV (opS 3 [a]) (-1*n):=by grind[NV,opS,zV,iV]
def aoo{b:GVal}{m:Int}(h1:4<=op/\op<=8)(ha:NV a m)(hb:NV b n):NV (opS op [a,b]) (yp op m n):=by rcases ha with h|⟨h,e⟩;exact .inl (by simp[opS,h,zV]);rcases hb with g|⟨g,f⟩;left;simp only[opS,g];rw[azf (by omega),azf (by omega),azf (by omega)];rfl;right;simp only[opS,g,h,e,f];rw[azf (by omega),azf (by omega),azf (by omega),azf (by omega)];exact⟨rfl,rfl⟩
theorem sem{l:List PVar}(hr:X3 l r)(hl:LOk l)(h:OfR e t)(hi:IntE l e):NV (vS (bj r) e) (tvL (mq r) (tmA t)):=by
 induction h with
 |len x t h h6=>
  obtain⟨h9,a,ha,haa,h⟩:=h
  have e1:vS (bj r) (exA x)=opS 9 [vS (bj r) (exA a)]:=by
   rw[jf,azf (by omega),azf (by omega),h9,ha];simp only[vsS]
  rw[e1]
  rcases h with⟨h1,h2,h3⟩|⟨h1,h2,h3⟩
  ·right
   rw[jf,azg h1,h3,kp]
   simp[opS,h2,iV,pn]
  ·rcases d8 hi with g|g|⟨_,a',g1,g2,g⟩|g|g
   ·omega
   ·omega
   ·rw[ha]at g1
    have ea:a'=a:=(au (by simpa using g1)).symm
    subst ea
    rcases g with g|g
    ·obtain⟨_,⟨_,j,hj,e2,e3⟩|g⟩:=cp g
     ·have h0:j<r.length:=by have:=hr.1;omega
      have hv:vS (bj r) (exA a')=r[j]:=by rw[jf,azf (by omega),azg h1,e2,qx h0]
      rw[hv,h3,kp]
      rcases hr.2 j h0 hj with f|f|f
      ·exact .inl (by simp[opS,f.1,zV])
      ·omega
      ·right
       simp[opS,f.1,iV,ue,pn,P3,B1,mq,e2,qx h0]
     ·omega
    ·omega
   ·omega
   ·omega
 |lit x h ha hk h6=>
  right
  rw[jf,azg h,kp]
  exact⟨hk,by simp[pn]⟩
 |col x h ha hi' h6=>
  rcases d8 hi with g|⟨_,_,j,hj,e2,e3⟩|g|g|g
  ·omega
  ·have h0:j<r.length:=by have:=hr.1;omega
   rw[jf,azf (by omega),azg h,e2,qx h0,kp]
   rcases hr.2 j h0 hj with f|f|f
   ·exact .inl f.1
   ·right
    refine⟨f.1,?_⟩
    simp[ue,pn,P3,B1,mq,qx h0,f.1]
   ·omega
  ·omega
  ·omega
  ·omega
 |neg x r' s t h ha h4 ht h6 ih=>
  rcases d8 hi with g|g|g|⟨_,_,g⟩|g
  ·omega
  ·omega
  ·omega
  ·have:=ih (g r' (by rw[ha];simp))
   rw[jf,azf (by omega),azf (by omega),h,ha,ht]
   simp only[vsS]
   exact aon this
  ·omega
 |bin x r' q a b t h ha h4 hq ht iha ihb=>
  rcases d8 hi with g|g|g|g|⟨_,_,g⟩
  ·omega
  ·omega
  ·omega
  ·omega
  ·have g1:=iha (g r' (by rw[ha];simp))
   have g2:=ihb (g q (by rw[ha];simp))
   rw[jf,azf (by omega),azf (by omega),ha]
   simp only[vsS]
   have e:=aoo h g1 g2
   have e2:yp x.op_ (tvL (mq r) (tmA a)) (tvL (mq r) (tmA b))=tvL (mq r) (tmA t):=by
    unfold yp
    split
    ·rename_i o;exact(ht.add o _).symm
    ·split
     ·rename_i o;exact(ht.sub o _).symm
     ·split
      ·rename_i o;exact(ht.mul o _).symm
      ·have hd:=ht.dv (by omega)
       have hb:tvL (mq r) (tmA b)=b.f_:=ur (by rw[hd.1];simp) _
       rw[hb]
       split
       ·rename_i o;exact(ht.quo0 o _ rfl).symm
       ·exact(ht.md0 (by omega) _ rfl).symm
   rw[<-e2];exact e
def Rg(n:Int):Prop:=-1152921504606846976<=n/\n<=1152921504606846976
inductive EvR(r:List GVal):List AV->Prop
 |val (x:GEx) (h:x.op_=1):EvR r (exA x)
 |col (x:GEx) (h:x.op_=2) (j:Nat) (hj:j<r.length) (e:x.j_=((j:Nat):Int)):EvR r (exA x)
 |len (x:GEx) (a:List AV) (h:x.op_=9) (ha:x.b_=[a]) (he:EvR r a):EvR r (exA x)
 |neg (x:GEx) (a:List AV) (h:x.op_=3) (ha:x.b_=[a]) (he:EvR r a) (hv:(vS (bj r) a).c_≠0->Rg (vS (bj r) a).v_):EvR r (exA x)
 |bin (x:GEx) (a b:List AV) (h:4<=x.op_/\x.op_<=8) (ha:x.b_=[a,b]) (he:EvR r a) (hf:EvR r b) (hv:(vS (bj r) a).c_≠0->(vS (bj r) b).c_≠0->Rg (vS (bj r) a).v_/\Rg (vS (bj r) b).v_/\Rg (yp x.op_ (vS (bj r) a).v_ (vS (bj r) b).v_)/\(7<=x.op_->1<=(vS (bj r) b).v_/\(vS (bj r) b).v_<=1000)):EvR r (exA x)
theorem ap8(h:EvR r (exA x))(h2:x.op_=2):∃j:Nat,x.j_=((j:Nat):Int)/\j<r.length:=by
 generalize e:exA x=q at h
 cases h with
 |val y h=>rw[<-au e]at h;omega
 |col y h j hj e'=>rw[<-au e]at e';exact⟨j,e',hj⟩
 |len y a h=>rw[<-au e]at h;omega
 |neg y a h=>rw[<-au e]at h;omega
 |bin y a b h=>rw[<-au e]at h;omega
theorem ap7(h:EvR r (exA x))(h1:¬x.op_=1)(h2:¬x.op_=2):∃h0:0<x.b_.length,EvR r (x.b_[0]'h0)/\(x.op_=3->(vS (bj r) (x.b_[0]'h0)).c_≠0->Rg (vS (bj r) (x.b_[0]'h0)).v_)/\(x.op_=3\/x.op_=9->x.b_.length=1)/\(¬x.op_=3->¬x.op_=9->(4<=x.op_/\x.op_<=8)/\x.b_.length=2):=by
 generalize e:exA x=q at h
 cases h with
 |val y h=>rw[<-au e]at h;omega
 |col y h j hj e'=>rw[<-au e]at h;omega
 |len y a h ha he=>rw[<-au e]at h ha;simp only[ha];exact⟨by simp,he,fun h'=>by omega,fun _=>rfl,fun _ h'=>absurd h h'⟩
 |neg y a h ha he hv=>rw[<-au e]at h ha;simp only[ha];exact⟨by simp,he,fun _=>hv,fun _=>rfl,fun h'=>absurd h h'⟩
 |bin y a b h ha he hf hv=>rw[<-au e]at h ha;simp only[ha];exact⟨by simp,he,fun h'=>by omega,fun h'=>by omega,fun _ _=>⟨h,rfl⟩⟩
theorem ap5(h:EvR r (exA x))(h4:4<=x.op_/\x.op_<=8)(hl:x.b_.length=2):EvR r (x.b_[1]'(by omega))/\((vS (bj r) (x.b_[0]'(by omega))).c_≠0->(vS (bj r) (x.b_[1]'(by omega))).c_≠0->Rg (vS (bj r) (x.b_[0]'(by omega))).v_/\Rg (vS (bj r) (x.b_[1]'(by omega))).v_/\Rg (yp x.op_ (vS (bj r) (x.b_[0]'(by omega))).v_ (vS (bj r) (x.b_[1]'(by omega))).v_)/\(7<=x.op_->1<=(vS (bj r) (x.b_[1]'(by omega))).v_/\(vS (bj r) (x.b_[1]'(by omega))).v_<=1000)):=by
 generalize e:exA x=q at h
 cases h with
 |val y h=>rw[<-au e]at h;omega
 |col y h j hj e'=>rw[<-au e]at h;omega
 |len y a h ha he=>rw[<-au e]at h;omega
 |neg y a h ha he hv=>rw[<-au e]at h;omega
 |bin y a b h ha he hf hv=>rw[<-au e]at h ha hv;simp only[ha];exact⟨hf,hv⟩
section
variable{R:Int->GVal}{x:GEx}
theorem aub(h:x.op_=1):x.k_=vS R (exA x):=by rw[jf,azg h]
def aud(h1:¬x.op_=1)(h:x.op_=2):R x.j_=vS R (exA x):=by rw[jf,azf h1,azg h]
theorem als(h1:¬x.op_=1)(h2:¬x.op_=2):vS R (exA x)=opS x.op_ (vsS R x.b_):=by rw[jf,azf h1,azf h2]
theorem Il(h:0<l.length):∃t,vsS R l=vS R l[0]::t:=by
 cases l with
 |nil=>simp at h
 |cons a t=>exact⟨vsS R t,by simp only[vsS];rfl⟩
theorem ab6(h:l.length=2):vsS R l=[vS R (l[0]'(by omega)),vS R (l[1]'(by omega))]:=by
 match l,h with
 |[a,b],_=>simp only[vsS];rfl
theorem Ql(h1:¬x.op_=1)(h2:¬x.op_=2)(h:0<x.b_.length)(hk:(vS R x.b_[0]).c_=0):zV=vS R (exA x):=by obtain⟨t,e⟩:=Il (R:=R) h;rw[als h1 h2,e];simp[opS,hk]
theorem aua(h:x.op_=3)(h0:0<x.b_.length)(hk:¬(vS R x.b_[0]).c_=0):iV (-(vS R x.b_[0]).v_)=vS R (exA x):=by obtain⟨t,e⟩:=Il (R:=R) h0;rw[als (by omega) (by omega),e,h];simp[opS,hk]
theorem auc(h:x.op_=9)(h0:0<x.b_.length)(hk:¬(vS R x.b_[0]).c_=0):iV (((vS R x.b_[0]).l_.size:Nat):Int)=vS R (exA x):=by obtain⟨t,e⟩:=Il (R:=R) h0;rw[als (by omega) (by omega),e,h];simp[opS,hk]
theorem ab8(h:4<=x.op_/\x.op_<=8)(hl:x.b_.length=2)(hk:¬(vS R (x.b_[0]'(by omega))).c_=0)(hq:(vS R (x.b_[1]'(by omega))).c_=0):zV=vS R (exA x):=by grind[als,ab6,opS]
def Qm(h:4<=x.op_/\x.op_<=8)(hl:x.b_.length=2)(hk:¬(vS R (x.b_[0]'(by omega))).c_=0)(hq:¬(vS R (x.b_[1]'(by omega))).c_=0)(hn:n=yp x.op_ (vS R (x.b_[0]'(by omega))).v_ (vS R (x.b_[1]'(by omega))).v_):iV n=vS R (exA x):=by grind[als,ab6,opS]
end
theorem ar6{a:Int}:yp 6 a b=a*b:=rfl
theorem ar7{a:Int}:yp 7 a b=a.fdiv b:=rfl
theorem ar8{a:Int}:yp 8 a b=a-b*a.fdiv b:=rfl
def yx:aj prog 30=some 3:=by kernel_rfl
def Qh(x:GEx)(hx:FitEx x)(r:List GVal)(hr:bq r (fun y=>FitVal y))(ht:EvR r (exA x))(ih:∀e∈x.b_,EvR r e->PRet prog 101 [.agg (rwA e),.tree 3 (r.map gvA)] (fun q=>q=.agg (gvA (vS (bj r) e)))):PRet prog 101 [.agg (exA x),.tree 3 (r.map gvA)] (fun q=>q=.agg (gvA (vS (bj r) (exA x)))):=by
 refine ovT [18,23,35,47,78,97] [] func101 rfl rfl ?_;apply cB<;>intro hv
 ·have hu:(x.op_:Int)=(1:Int):=by simpa using hv
  refine rtK rfl wy rfl ⟨[],FzP.pure rfl⟩ ?_;(show AV.agg (gvA x.k_)=_;rw[aub (R:=bj r) ‹_›];done)
 have hu:¬((x.op_:Int)=(1:Int)):=by simpa using hv
 apply cB<;>intro he;have h5:(x.op_:Int)=(2:Int):=by simpa using he
 obtain⟨j1,hf,hg⟩:=ap8 ht h5;refine OpG.lk (ae underlying36 yx rfl rfl hf hg) ?_;refine rtK rfl wy rfl ⟨[],FzP.pure rfl⟩ ?_;(exact(congrArg (fun z=>AV.agg (gvA z)) (show r[j1]=vS (bj r) (exA x)by rw[<-qx hg,<-hf];exact aud (R:=bj r) hu h5)));have h5:¬((x.op_:Int)=(2:Int)):=by simpa using he
 obtain⟨h0,h7⟩:=ap7 ht hu h5;refine IdxG.of (j:=0) ‹_› (OpG.lk (ci n6 rfl (jd (hx.b_.2 _ (ay7 _)))) ?_);refine ArgG.mk (ih x.b_[0] (ay7 _) h7.1) (show bz [.agg (rwA x.b_[0]),.tree 3 (r.map gvA)]=true by simp[bz,AV.pureB,kc (hx.b_.2 _ (ay7 _))]) ?_;rintro _ rfl;apply cB<;>intro hh
 ·have h9:((vS (bj r) x.b_[0]).c_:Int)=(0:Int):=by simpa using hh
  refine rtK rfl wy rfl ⟨[],FzP.pure rfl⟩ ?_;(show AV.agg (gvA zV)=_;rw[Ql (R:=bj r) ‹_› ‹_› h0 ‹_›];done)
 have h9:¬(((vS (bj r) x.b_[0]).c_:Int)=(0:Int)):=by simpa using hh
 apply cB<;>intro hi
 ·have ha:(x.op_:Int)=(3:Int):=by simpa using hi
  have hz:=h7.2.1 ha h9;unfold Rg at hz;refine OpG.lk (oh rfl (by omega) (by omega)) ?_;refine ArgG.mk (jq ((-(vS (bj r) x.b_[0]).v_))) rfl ?_;rintro _ rfl;refine rtK rfl wy rfl ⟨[],FzP.pure rfl⟩ ?_;(show AV.agg (gvA (iV _))=_;rw[aua (R:=bj r) ‹_› h0 ‹_›];done)
 have ha:¬((x.op_:Int)=(3:Int)):=by simpa using hi
 apply cB<;>intro hj
 ·have hk:(x.op_:Int)=(9:Int):=by simpa using hj
  refine ArgG.mk (jq (((vS (bj r) x.b_[0]).l_.size:Nat):Int)) rfl ?_;rintro _ rfl;refine rtK rfl wy rfl ⟨[],FzP.pure rfl⟩ ?_;(show AV.agg (gvA (iV _))=_;rw[auc (R:=bj r) ‹_› h0 ‹_›];done)
 have hk:¬((x.op_:Int)=(9:Int)):=by simpa using hj
 obtain⟨hb,hc⟩:=h7.2.2.2 ha hk;have hl:=ap5 ht hb hc
 refine IdxG.of (j:=1) (by omega) (OpG.lk (ci n6 rfl (jd (hx.b_.2 _ (ay7 _)))) ?_);refine ArgG.mk (ih x.b_[1] (ay7 _) hl.1) (show bz [.agg (rwA x.b_[1]),.tree 3 (r.map gvA)]=true by simp[bz,AV.pureB,kc (hx.b_.2 _ (ay7 _))]) ?_;rintro _ rfl;apply cB<;>intro hm
 ·have hn:((vS (bj r) x.b_[1]).c_:Int)=(0:Int):=by simpa using hm
  refine rtK rfl wy rfl ⟨[],FzP.pure rfl⟩ ?_;(show AV.agg (gvA zV)=_;rw[ab8 (R:=bj r) hb hc ‹_› ‹_›];done)
 have hn:¬(((vS (bj r) x.b_[1]).c_:Int)=(0:Int)):=by simpa using hm
 obtain⟨g0,g1,hw,hy⟩:=hl.2 h9 hn;unfold Rg at g0 g1;apply cB<;>intro ho;have h2:(x.op_:Int)=(4:Int):=by simpa using ho
 refine⟨by omega,?_⟩;refine ArgG.mk (jq ((((vS (bj r) x.b_[0]).v_)+((vS (bj r) x.b_[1]).v_)))) rfl ?_;rintro _ rfl;refine rtK rfl wy rfl ⟨[],FzP.pure rfl⟩ ?_;(exact congrArg (fun z=>AV.agg (gvA z)) (Qm (R:=bj r) hb hc ‹_› ‹_› (by first|(rw[h2];rfl)|(rw[h3];rfl)|(rw[h1];rfl)|(rw[h4,ar7];assumption)|(rw[show x.op_=8 by omega,ar8];simp_all))));have h2:¬((x.op_:Int)=(4:Int)):=by simpa using ho
 apply cB<;>intro hp;have h3:(x.op_:Int)=(5:Int):=by simpa using hp
 refine⟨by omega,?_⟩;refine ArgG.mk (jq ((((vS (bj r) x.b_[0]).v_)-((vS (bj r) x.b_[1]).v_)))) rfl ?_;rintro _ rfl;refine rtK rfl wy rfl ⟨[],FzP.pure rfl⟩ ?_;(exact congrArg (fun z=>AV.agg (gvA z)) (Qm (R:=bj r) hb hc ‹_› ‹_› (by first|(rw[h2];rfl)|(rw[h3];rfl)|(rw[h1];rfl)|(rw[h4,ar7];assumption)|(rw[show x.op_=8 by omega,ar8];simp_all))));have h3:¬((x.op_:Int)=(5:Int)):=by simpa using hp
 apply cB<;>intro hq;have h1:(x.op_:Int)=(6:Int):=by simpa using hq
 have h6:Rg ((vS (bj r) x.b_[0]).v_*(vS (bj r) x.b_[1]).v_):=by have:=hw;rw[h1,ar6]at this;exact this
 unfold Rg at h6;refine OpG.lk (ki rfl rfl (by omega) (by omega)) ?_;refine ArgG.mk (jq ((((vS (bj r) x.b_[0]).v_)*((vS (bj r) x.b_[1]).v_)))) rfl ?_;rintro _ rfl;refine rtK rfl wy rfl ⟨[],FzP.pure rfl⟩ ?_;(exact congrArg (fun z=>AV.agg (gvA z)) (Qm (R:=bj r) hb hc ‹_› ‹_› (by first|(rw[h2];rfl)|(rw[h3];rfl)|(rw[h1];rfl)|(rw[h4,ar7];assumption)|(rw[show x.op_=8 by omega,ar8];simp_all))));have h1:¬((x.op_:Int)=(6:Int)):=by simpa using hq
 apply cB<;>intro hs;have h4:(x.op_:Int)=(7:Int):=by simpa using hs
 have hd:=hy (by omega);refine ArgG.mk (Hj (vS (bj r) x.b_[0]).v_ (vS (bj r) x.b_[1]).v_ (by omega) (by omega)) rfl ?_;rintro _ ⟨f7,rfl,hf7⟩;refine ArgG.mk (jq f7) rfl ?_;rintro _ rfl;refine rtK rfl wy rfl ⟨[],FzP.pure rfl⟩ ?_;(exact congrArg (fun z=>AV.agg (gvA z)) (Qm (R:=bj r) hb hc ‹_› ‹_› (by first|(rw[h2];rfl)|(rw[h3];rfl)|(rw[h1];rfl)|(rw[h4,ar7];assumption)|(rw[show x.op_=8 by omega,ar8];simp_all))));have h4:¬((x.op_:Int)=(7:Int)):=by simpa using hs
 have hd:=hy (by omega);refine ArgG.mk (Hj (vS (bj r) x.b_[0]).v_ (vS (bj r) x.b_[1]).v_ (by omega) (by omega)) rfl ?_;rintro _ ⟨f9,rfl,g2⟩;have h8:Rg ((vS (bj r) x.b_[0]).v_-(vS (bj r) x.b_[1]).v_*f9):=by have:=hw;rw[show x.op_=8 by omega,ar8]at this;rw[g2];exact this
 unfold Rg at h8;refine OpG.lk (ki rfl rfl (by omega) (by omega)) ?_;refine⟨by omega,?_⟩;refine ArgG.mk (jq ((((vS (bj r) x.b_[0]).v_)-(((vS (bj r) x.b_[1]).v_*f9))))) rfl ?_;rintro _ rfl;refine⟨by kernel_rfl,?_⟩;refine rtK rfl wy rfl ⟨[],FzP.pure rfl⟩ ?_;(exact congrArg (fun z=>AV.agg (gvA z)) (Qm (R:=bj r) hb hc ‹_› ‹_› (by first|(rw[h2];rfl)|(rw[h3];rfl)|(rw[h1];rfl)|(rw[h4,ar7];assumption)|(rw[show x.op_=8 by omega,ar8];simp_all))))
def Qi(r:List GVal)(hr:bq r (fun y=>FitVal y))(e:List AV)(he:IsEx e):EvR r e->PRet prog 101 [.agg (rwA e),.tree 3 (r.map gvA)] (fun q=>q=.agg (gvA (vS (bj r) e))):=IsEx.ind (M:=fun e=>EvR r e->PRet prog 101 [.agg (rwA e),.tree 3 (r.map gvA)] (fun q=>q=.agg (gvA (vS (bj r) e)))) (fun x hx ih h0=>Qh x hx r hr h0 ih) he
section
variable{l:List PVar}{r:List GVal}
def Uw(hr:X3 l r)(h:TextE l (exA x)):EvR r (exA x):=by obtain⟨_,⟨h1,j,hj,e,_⟩|⟨h1,_⟩⟩:=cp h;exact .col x h1 j (by have:=hr.1;omega) e;exact .val x h1
def ady(hr:X3 l r){a:GEx}(h9:x.op_=9)(ha:x.b_=[exA a])(h:TextE l (exA a)\/(a.op_=1/\a.k_.c_=0)):EvR r (exA x):=by refine .len x _ h9 ha ?_;rcases h with h|h;exact Uw hr h;exact .val a h.1
theorem aj9{a b:GTm}(h:4<=op/\op<=8)(ht:BinOk op a b t)(ρ:Int->Int->Int)(hz:ρ 2 0=0):yp op (tvL ρ (tmA a)) (tvL ρ (tmA b))=tvL ρ (tmA t):=by unfold yp;split;rename_i o;exact(ht.add o _).symm;split;rename_i o;exact(ht.sub o _).symm;split;rename_i o;exact(ht.mul o _).symm;have hd:=ht.dv (by omega);have hb:tvL ρ (tmA b)=b.f_:=ur (by rw[hd.1];simp) _;rw[hb];split;rename_i o;exact(ht.quo0 o _ hz).symm;exact(ht.md0 (by omega) _ hz).symm
theorem Gq(h:NV v n)(hk:v.c_≠0):v.v_=n:=by rcases h with h|h;exact absurd h hk;exact h.2
theorem ap6(hr:X3 l r)(hl:LOk l)(h:OfR e t)(hi:IntE l e):EvR r e:=by
 have hg:=Z7 hr hl;induction h with
 |len x t h h6=>
  rcases d8 hi with g|g|⟨_,a,g1,_,g⟩|g|g
  ·have:=h.1;omega
  ·have:=h.1;omega
  ·exact ady hr h.1 g1 g
  ·have:=h.1;omega
  ·have:=h.1;omega
 |lit x h ha hk h6=>exact .val x h
 |col x h ha hi' h6=>
  rcases d8 hi with g|⟨_,_,j,hj,e2,e3⟩|g|g|g
  ·omega
  ·exact .col x h j (by have:=hr.1;omega) e2
  ·omega
  ·omega
  ·omega
 |neg x r' s t h ha h0 ht h6 ih=>
  rcases d8 hi with g|g|g|⟨_,_,g⟩|g
  ·omega
  ·omega
  ·omega
  ·have gi:=g r' (by rw[ha];simp)
   exact .neg x r' h ha (ih gi) (fun hk=>by rw[Gq (sem hr hl h0 gi) hk];exact h0.b6 _ hg)
  ·omega
 |bin x r' q a b t h ha h0 hq ht iha ihb=>
  rcases d8 hi with g|g|g|g|⟨_,_,g⟩
  ·omega
  ·omega
  ·omega
  ·omega
  ·have g1:=g r' (by rw[ha];simp)
   have g2:=g q (by rw[ha];simp)
   refine .bin x r' q h ha (iha g1) (ihb g2) (fun hk h1=>?_)
   rw[Gq (sem hr hl h0 g1) hk,Gq (sem hr hl hq g2) h1,aj9 h ht _ rfl]
   refine⟨h0.b6 _ hg,hq.b6 _ hg,ht.b6 _ hg,fun h7=>?_⟩
   have hd:=ht.dv (by omega)
   rw[ur (by rw[hd.1];simp)]
   exact hd.2
theorem y6(h:IntE l e)(hn:HasN e):(vS (bj r) e).c_=0:=by
 induction h with
 |lit x h ha hk _=>
  rw[jf,azg h]
  rcases pf.1 hn with g|⟨q,hq,_⟩
  ·exact g.2
  ·rw[ha]at hq;exact absurd hq (by simp)
 |col x h ha hj=>
  rcases pf.1 hn with g|⟨q,hq,_⟩
  ·omega
  ·rw[ha]at hq;exact absurd hq (by simp)
 |len x a h ha h2 ht=>
  rcases pf.1 hn with g|⟨q,hq,h1⟩
  ·omega
  ·rw[ha,azc]at hq
   subst hq
   rcases pf.1 h1 with g|⟨q,hq,_⟩
   ·have e:vS (bj r) (exA a)=a.k_:=by rw[jf,azg g.1]
    rw[jf,azf (by omega),azf (by omega),ha]
    simp[vsS,opS,e,g.2,zV]
   ·rw[h2]at hq;exact absurd hq (by simp)
 |neg x h ha hs ih=>
  rcases pf.1 hn with g|⟨q,hq,h1⟩
  ·omega
  ·obtain⟨j,hj,rfl⟩:=azs hq
   obtain rfl:j=0:=by omega
   have e:=ih _ hq h1
   rw[<-Ql (R:=bj r) (by omega) (by omega) hj e];rfl
 |bin x h ha hs ih=>
  rcases pf.1 hn with g|⟨q,hq,h1⟩
  ·omega
  ·obtain⟨j,hj,rfl⟩:=azs hq
   have e:=ih _ hq h1
   by_cases h0:(vS (bj r) (x.b_[0]'(by omega))).c_=0
   ·rw[<-Ql (R:=bj r) (by omega) (by omega) (by omega) h0];rfl
   ·obtain rfl|rfl:j=0\/j=1:=by omega
    ·exact absurd e h0
    ·rw[<-ab8 (R:=bj r) h ha h0 e];rfl
theorem awy(hr:X3 l r)(hl:LOk l)(hi:IntE l e):∀d,FitE d e->EvR r e:=by
 induction hi with
 |lit x h ha hk _=>intro d _;exact .val x h
 |col x h ha hj=>intro d _;obtain⟨j,hj,e,_⟩:=hj;exact .col x h j (by have:=hr.1;omega) e
 |len x a h ha haa ht=>intro d _;exact ady hr h ha ht
 |neg x h ha hs ih=>
  intro d hf
  generalize e:exA x=q at hf
  cases hf with
  |tm d q t hn ho=>subst e;exact ap6 hr hl ho.1 (.neg x h ha hs)
  |nul d y hn h' hc=>
   have:=au e;subst this
   obtain⟨c,h0⟩:∃c,x.b_=[c]:=az4.1 ha
   have hm:c∈x.b_:=by rw[h0];simp
   refine .neg x c h h0 (ih c hm d (hc (by omega) c hm)) (fun hk=>absurd (y6 (hs c hm) ?_) hk)
   rcases pf.1 hn with g|⟨q,hq,h1⟩
   ·omega
   ·rw[h0,azc]at hq;subst hq;exact h1
 |bin x h ha hs ih=>
  intro d hf
  generalize e:exA x=q at hf
  cases hf with
  |tm d q t hn ho=>subst e;exact ap6 hr hl ho.1 (.bin x h ha hs)
  |nul d y hn h' hc=>
   have:=au e;subst this
   obtain⟨a,b,h0⟩:∃a b,x.b_=[a,b]:=⟨_,_,uo ha⟩
   have hm:a∈x.b_:=by rw[h0];simp
   have h2:b∈x.b_:=by rw[h0];simp
   refine .bin x a b h h0 (ih a hm d (hc (by omega) a hm)) (ih b h2 d (hc (by omega) b h2)) (fun hk h3=>?_)
   exfalso
   rcases pf.1 hn with g|⟨q,hq,h1⟩
   ·omega
   ·rw[h0]at hq
    rcases azz.1 hq with rfl|hq
    ·exact hk (y6 (hs _ hm) h1)
    ·rw[azc]at hq;subst hq;exact h3 (y6 (hs _ h2) h1)
def aai(hr:X3 l r)(hl:LOk l)(h:OpE l d e)(he:IsEx e):EvR r e:=by rcases h with⟨x,rfl,h1,_⟩|h|⟨h1,h2⟩;exact .val x h1;obtain⟨x,rfl,_⟩:=he.open_;exact Uw hr h.1;exact awy hr hl h1 d h2
end
def iv(s:ByteArray)(c:Nat)(prev:Nat->Bool):Nat->Bool
 |0=>c==37&&prev 0
 |i+1=>if c=37 then prev (i+1)||iv s c prev i else prev i&&(c==95||c==(bAt s i).toNat)
def lk(s p:ByteArray):Nat->Nat->Bool
 |0=>fun i=>i==0
 |k+1=>iv s (bAt p k).toNat (lk s p k)
def re(s p:ByteArray):Bool:=lk s p p.size s.size
def ofS(b:Bool):Int:=if b=true then 1 else 0
def fj(a b:ByteArray):Bool:=Op.bytesLess a.toList b.toList
def Fj(a b:GVal):Int:=if a.v_<b.v_\/fj a.l_ b.l_=true then -1 else if a.v_>b.v_\/(fj a.l_ b.l_=false/\¬a.l_.toList=b.l_.toList)then 1 else 0
def Ij(op:Int)(a b:GVal):Int:=
 if a.c_=0\/b.c_=0 then 2 else
 if op=10 then ofS (Fj a b==0)else if op=11 then ofS (Fj a b !=0)else if op=12 then ofS (decide (Fj a b<0))else if op=13 then ofS (decide (Fj a b<=0))else
 if op=14 then ofS (decide (Fj a b>0))else if op=15 then ofS (decide (Fj a b≥0))else ofS (re a.l_ b.l_)
def two(strong a b:Int):Int:=if a=strong\/b=strong then strong else if a=2\/b=2 then 2 else 1-strong
def at0(l:List GVal)(i:Nat):GVal:=l.getD i zV
mutual
def cS(R:Int->GVal):List AV->Int
 | [.v (.int _ op),.v _,.v _,.v _,.v _,.v _,.v _,.tree _ es]=>
  if op=1 then 2 else if op=17 then ofS ((at0 (vsS R es) 0).c_==0)else
  if op=18\/op=19 then two (op-18) ((csS R es).getD 0 0) ((csS R es).getD 1 0)else
  if op=20 then(if(csS R es).getD 0 0=2 then 2 else 1-(csS R es).getD 0 0)else Ij op (at0 (vsS R es) 0) (at0 (vsS R es) 1)
 |_=>0
def csS(R:Int->GVal):List (List AV)->List Int
 | []=>[]
 |r :: rs=>cS R r :: csS R rs
end
theorem Pj(R:Int->GVal)(x:GEx):cS R (exA x)=if x.op_=1 then 2 else if x.op_=17 then ofS ((at0 (vsS R x.b_) 0).c_==0)else
 if x.op_=18\/x.op_=19 then two (x.op_-18) ((csS R x.b_).getD 0 0) ((csS R x.b_).getD 1 0)else
 if x.op_=20 then(if(csS R x.b_).getD 0 0=2 then 2 else 1-(csS R x.b_).getD 0 0)else Ij x.op_ (at0 (vsS R x.b_) 0) (at0 (vsS R x.b_) 1):=by
 simp only[exA,cS,fk]
theorem ad3(R:Int->GVal)(h:i<l.length):(csS R l).getD i 0=cS R l[i]:=by
 induction l generalizing i with
 |nil=>simp at h
 |cons a t ih=>
  cases i with
  |zero=>simp only[csS];rfl
  |succ i=>simp only[csS];exact ih (by simpa using h)
theorem ab7(R:Int->GVal)(h:i<l.length):at0 (vsS R l) i=vS R l[i]:=by
 unfold at0
 induction l generalizing i with
 |nil=>simp at h
 |cons a t ih=>
  cases i with
  |zero=>simp only[vsS];rfl
  |succ i=>simp only[vsS];exact ih (by simpa using h)
end Go.Proofs.YtfpfdfhlljjckaaGreatDoor
