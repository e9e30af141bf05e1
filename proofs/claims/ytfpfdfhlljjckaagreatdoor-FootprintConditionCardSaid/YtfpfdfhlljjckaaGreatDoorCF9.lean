/- Texts of the claim. -/
import Derived.Test.YtfpfdfhlljjckaaGreatDoorCF8
import Derived.Test.YtfpfdfhlljjckaaGreatDoorCQ2
import Derived.Test.YtfpfdfhlljjckaaGreatDoorCQ1
set_option linter.all false
namespace Go.Proofs.YtfpfdfhlljjckaaGreatDoor
open Tryz
set_option maxRecDepth 1000000
set_option maxHeartbeats 0
set_option linter.unusedVariables false
set_option linter.unusedSimpArgs false
open Go.RowKit
variable{q:AV}{b:Bool}{a:GAt}{w:GEx}{f:GFm}{p:GPart}{t:GTab}{x:GTm}{e v:Int}{ys:List (List AV)}{r:List AV}{L:List GFm}{s:List GTab}{V l:List PVar}{k n:Nat}{y:Operand}{P:Prop}
theorem G2{p:GPart}:∀{l:List GPart},(∀q∈l,jo q p<0)->j9 p l=l++[p]
 |[],_=>rfl
 |q::l,h=>by have h1:=h q (by simp);unfold j9;rw[azf (by omega),azg h1,G2 (fun x hx=>h x (by simp[hx]))];rfl
def Yo{l:List GPart}(h:Srt l)(k:Nat):Srt (l.take k):=⟨h.1.sublist (List.take_sublist k l),fun q hq=>h.2 q (List.mem_of_mem_take hq)⟩
theorem abm(hs:Srt x.a_)(hk:k<x.a_.length):qq ⟨x.f_,x.a_.take k⟩ ⟨0,[x.a_[k]]⟩=⟨x.f_,x.a_.take (k+1)⟩:=by unfold qq;have e:dx (x.a_.take k) [x.a_[k]]=x.a_.take (k+1):=(by show j9 x.a_[k] (x.a_.take k)=_;rw[G2 fun q hq=>?_,azj hk];obtain⟨i,hi,rfl⟩:=azs hq;rw[List.getElem_take];have h0:i<k:=(by simp at hi;omega);exact List.pairwise_iff_getElem.1 hs.1 i k _ hk h0);simp only[e,Int.add_zero]
theorem abd{l:List GPart}(hl:∀p∈l,FitPart p)(k:Nat):bdS (l.take k)<=bdS l:=by
 have e:bdS l=bdS (l.take k)+bdS (l.drop k):=by
  have:∀a b:List GPart,bdS (a++b)=bdS a+bdS b:=fun a b=>by
   induction a with
   |nil=>simp[bdS]
   |cons p a ih=>simp only[List.cons_append,bdS,ih];omega
  rw[<-this,List.take_append_drop]
 have:=H0 (l:=l.drop k) fun p hp=>hl p (List.mem_of_mem_drop hp)
 omega
def Yt(hx:FitTm x)(h:smR (tmA x)=true)(k:Nat):smR (tmA ⟨x.f_,x.a_.take k⟩)=true:=by obtain⟨h1,h2⟩:=(fb x).1 h;rw[ni]at h2;refine(fb _).2 ⟨⟨h1.1,fun p hp=>h1.2 p (List.mem_of_mem_take hp)⟩,?_⟩;rw[ni];have:=abd (fun p hp=>hx.a_.2 p hp) k;show cq x.f_+bdS (x.a_.take k)<=_;omega
def My(hx:FitTm x)(k:Nat):FitTm ⟨x.f_,x.a_.take k⟩:=⟨⟨by show(x.a_.take k).length<=_;have:=hx.a_.1;rw[List.length_take];omega,fun p hp=>hx.a_.2 p (List.mem_of_mem_take hp)⟩,Yo hx.srt k⟩
def Uo(hx:FitTm x)(hk:k<x.a_.length):FitTm ⟨0,[x.a_[k]]⟩:=by have h:=hx.a_.2 _ (ay7 hk);refine⟨⟨by show 1<=_;decide,fun p hp=>by rw[azc.1 hp];exact h⟩,Rb.cons (hx.srt.2 _ (ay7 hk)) (by simp)⟩
theorem Mm{t:GTm}(hx:FitTm x)(h:smR (tmA x)=true)(hk:k<x.a_.length)(hl:wo (dt (qq ⟨x.f_,x.a_.take k⟩ ⟨0,[x.a_[k]]⟩)) t e):t=⟨x.f_,x.a_.take (k+1)⟩:=by rw[abm hx.srt hk]at hl;have hs:=Yt hx h (k+1);have e1:dt ⟨x.f_,x.a_.take (k+1)⟩=some ⟨x.f_,x.a_.take (k+1)⟩:=(by unfold dt;rw[azg hs]);rw[e1]at hl;by_cases he:e=0;exact(Option.some.inj (hl.1 he)).symm;exact absurd (hl.2 he).1 (by simp)
def V8(h:smR (tmA x)=true)(k:Nat):Fk ⟨x.f_,x.a_.take k⟩:=by obtain⟨h1,_⟩:=(fb x).1 h;exact⟨h1.1,fun p hp=>h1.2 p (List.mem_of_mem_take hp)⟩
def aeg(h:smR (tmA x)=true)(hk:k<x.a_.length):Fk ⟨0,[x.a_[k]]⟩:=by obtain⟨h1,_⟩:=(fb x).1 h;exact⟨⟨by show(_:Int)<=0;decide,by show(0:Int)<=_;decide⟩,fun p hp=>by rw[azc.1 hp];exact h1.2 _ (ay7 hk)⟩
abbrev idL(n:Nat):List Int:=(List.range n).map fun i=>((i:Nat):Int)
theorem jg :(idL n).length=n:=by simp[idL]
theorem od{i:Nat}(h:i<(idL n).length):(idL n)[i]=((i:Nat):Int):=by simp[idL]
def rnW(r:List AV):Nat:=(d7 r).length+nxT r
def agw :1<=(lm p).length+nxP p:=by unfold lm nxP;by_cases h:p.c_=2;rw[azf (show¬p.c_=0 by omega)];omega;rw[azf h];show 1<=1+_;omega
theorem acq:∀l:List GPart,l.length<=(l.flatMap lm).length+(l.map nxP).sum
 |[]=>azk _
 |p::l=>by have h:=acq l;have g:=agw (p:=p);rw[List.flatMap_cons,azb,azw,List.sum_cons,azu];omega
def acr(x:GTm):x.a_.length<=rnW (tmA x):=by unfold rnW;rw[dj,Cm];exact acq _
def Rp(hx:FitTm x)(hp:p∈x.a_)(hr:r∈p.of_):rnW r<=rnW (tmA x):=by
 have h1:=Sp hx hp hr;have hk:=(hx.a_.2 p hp).kd
 have k2:p.c_=2:=Classical.byContradiction fun e=>by rw[hk.2.2 e]at hr;exact absurd hr (by simp)
 obtain⟨q,hq⟩:=az4.1 (hk.2.1 k2).1;rw[hq]at hr;have e:nxT r<=nxP p:=by unfold nxP;rw[hq,Sw,azc.1 hr];omega
 have g:nxP p<=nxT (tmA x):=by rw[Cm];exact It (List.mem_map_of_mem hp)
 unfold rnW;omega
def acp(h:PtV l p)(hk:0<=p.c_/\p.c_<=2)(h2:¬p.c_=2):∃j:Nat,j<l.length/\p.p_=((j:Nat):Int):=by by_cases h0:p.c_=0;obtain⟨j,hj,e,_⟩:=h.1 h0;exact⟨j,hj,e⟩;obtain⟨j,hj,e,_⟩:=h.2.1 (by omega);exact⟨j,hj,e⟩
def Lt(x:GTm)(hx:FitTm x)(h0:smR (tmA x)=true)(hw:rnW (tmA x)<=100000)(k:Nat)(hk:k<x.a_.length)(q:GPart)(hq:q=x.a_[k]):PRet prog 192 [.agg (tmA ⟨x.f_,x.a_.take k⟩),.agg (tmA ⟨0,[q]⟩)] (fun r=>∃e:Int,r=.tup [.agg (tmA ⟨x.f_,x.a_.take (k+1)⟩),vI e]):=by subst hq;have hl:=acr x;refine(Bn ⟨x.f_,x.a_.take k⟩ (My hx k) ⟨0,[x.a_[k]]⟩ (Uo hx hk) (V8 h0 k) (aeg h0 hk) (by show(x.a_.take k).length<=_;rw[List.length_take];omega) (by show 1<=_;decide)).mono ?_;rintro r ⟨t,e,rfl,_,h⟩;rw[Mm hx h0 hk h];exact⟨e,rfl⟩
def Ls(x:GTm)(hx:FitTm x)(h0:smR (tmA x)=true)(hw:rnW (tmA x)<=100000)(k:Nat)(hk:k<x.a_.length)(q:GPart)(hq:q=x.a_[k]):PRet prog 171 [.agg (tmA ⟨x.f_,x.a_.take k⟩),.agg (tmA ⟨0,[q]⟩)] (fun r=>∃e:Int,r=.tup [.agg (tmA ⟨x.f_,x.a_.take (k+1)⟩),vI e]):=by subst hq;have hl:=acr x;refine(Kj ⟨x.f_,x.a_.take k⟩ (My hx k) ⟨0,[x.a_[k]]⟩ (Uo hx hk) (V8 h0 k) (aeg h0 hk) (by show(x.a_.take k).length<=_;rw[List.length_take];omega) (by show 1<=_;decide)).mono ?_;rintro r ⟨t,e,rfl,_,h⟩;rw[Mm hx h0 hk h];exact⟨e,rfl⟩
def pl62:i9 prog 62=some [(0,1),(1,1)]:=by kernel_rfl
def Od(x:GTm)(hx:FitTm x)(l:List PVar)(hll:l.length<=1000)(hv:TmV l (tmA x))(h6:smR (tmA x)=true)(hw:rnW (tmA x)<=100000)(ih:∀p∈x.a_,∀r∈p.of_,TmV l r->smR r=true->rnW r<=100000->PRet prog 140 [.agg (rwA r),.tree 1 ((idL l.length).map iA)] (fun q=>q=.agg (rwA r))):PRet prog 140 [.agg (tmA x),.tree 1 ((idL l.length).map iA)] (fun q=>q=.agg (tmA x)):=by
 refine ovT [10,27,32,38] [] func140 rfl rfl ?_
 refine OpG.lk (nr (LOp.bd afh pl62 rfl rfl) (fun _=>FzP.aggL (.cons (.pure rfl) (.cons (FzP.nil (n:=5)) .nil)))) ?_
 refine LenG.of (LpG.on (fun k0:Nat=>(⟨fL [(1,.tree 1 ((idL l.length).map iA)),(4,.ptr 1 0 0),(5,.ptr 2 0 0),(12,.tree 5 (x.a_.map ptA)),(13,vI x.a_.length),(14,vI k0)],hLz [(1,⟨0,[vI 0,.v (.slice none 0 0)],0,false⟩),(2,⟨0,tmA ⟨x.f_,x.a_.take k0⟩,0,false⟩)],3⟩:St)) (fun k0=>(x.a_.length-k0)) (fun k0=>(k0<=x.a_.length)) 0 (cnR rfl) (azk _) ?_)
 rintro k0 h4
 have hgr_k0:x.a_.length<=140737488355328:=hx.a_.1
 have hle_k0:=h4
 apply cL<;>intro h0
 ·refine IdxG.of ‹_› (cE (fun h1=>?_) (fun h1=>?_))
  ·have hkd:=(hx.a_.2 _ (ay7 h0)).kd.2.1 h1
   have h8:0<x.a_[k0].of_.length:=by omega
   obtain⟨y0,h2,hy0⟩:=((hx.a_.2 _ (ay7 h0)).of_.2 (x.a_[k0].of_[0]) (ay7 h8)).open_
   skip -- q2
   have h7:x.a_[k0].of_=[tmA y0]:=co (by omega) h2
   have h3:tmA y0∈x.a_[k0].of_:=by rw[h7];simp
   have h5:(⟨x.a_[k0].i_,x.a_[k0].c_,x.a_[k0].p_,x.a_[k0].by_,[tmA y0]⟩:GPart)=x.a_[k0]:=by rw[<-h7]
   refine cb (j:=0) ‹_› h2 (ArgG.mk (ih x.a_[k0] (ay7 _) (tmA y0) h3 ((tmV.1 hv _ (ay7 _)).2.2.1 h1 (tmA y0) h3) ((hx.a_.2 _ (ay7 _)).sm (tmA y0) h3) (azp (Rp hx (ay7 _) h3) hw)) rfl ?_)
   rintro _ rfl
   refine OpG.nw (cm (de underlying204 amb afh rfl rfl rfl rfl) (fun η' h=>ba (f:=tmA) (l:=[y0]) (azc.2 rfl) h rfl rfl rfl rfl rfl (fun a _=>⟨rfl,rfl⟩))) rfl ?_
   refine OpG.nw (cm (de underlying60 nu qn rfl rfl rfl rfl) (fun η' h=>ba (f:=ptA) (l:=[(⟨x.a_[k0].i_,x.a_[k0].c_,x.a_[k0].p_,x.a_[k0].by_,[tmA y0]⟩:GPart)]) (azc.2 rfl) h rfl rfl rfl rfl rfl (fun a _=>⟨rfl,rfl⟩))) rfl ?_
   refine ArgG.mk (Lt x hx h6 hw k0 h0 (⟨x.a_[k0].i_,x.a_[k0].c_,x.a_[k0].p_,x.a_[k0].by_,[tmA y0]⟩:GPart) h5) rfl ?_
   rintro _ ⟨e1,rfl⟩
   refine⟨by omega,?_⟩
   refine⟨(k0+1),by omega,(cnR rfl),?_⟩
   omega
  skip -- q1
  obtain⟨j1,h9,hj1v⟩:∃j:Nat,j<l.length/\x.a_[k0].p_=((j:Nat):Int):=acp (tmV.1 hv _ (ay7 h0)) (hx.a_.2 _ (ay7 h0)).kd.1 h1
  have hj1l:j1<(idL l.length).length:=by rw[jg];exact h9
  have h5:(⟨x.a_[k0].i_,x.a_[k0].c_,(idL l.length)[j1],x.a_[k0].by_,x.a_[k0].of_⟩:GPart)=x.a_[k0]:=by rw[od,<-hj1v]
  refine OpG.lk (ae underlying53 sz3 rfl rfl hj1v hj1l) ?_
  refine OpG.nw (cm (de underlying60 nu qn rfl rfl rfl rfl) (fun η' h=>ba (f:=ptA) (l:=[(⟨x.a_[k0].i_,x.a_[k0].c_,(idL l.length)[j1],x.a_[k0].by_,x.a_[k0].of_⟩:GPart)]) (azc.2 rfl) h rfl rfl rfl rfl rfl (fun a _=>⟨rfl,rfl⟩))) rfl ?_
  refine ArgG.mk (Lt x hx h6 hw k0 h0 (⟨x.a_[k0].i_,x.a_[k0].c_,(idL l.length)[j1],x.a_[k0].by_,x.a_[k0].of_⟩:GPart) h5) rfl ?_
  rintro _ ⟨e2,rfl⟩
  refine⟨by omega,?_⟩
  refine⟨(k0+1),by omega,(cnR rfl),?_⟩
  omega
 refine rtK rfl ca rfl ⟨[],FzP.pure rfl⟩ ?_
 rw[az0 (by omega)]
def wz(l:List PVar)(h0:l.length<=1000)(r:List AV)(hr:IsTm r):TmV l r->smR r=true->rnW r<=100000->PRet prog 140 [.agg (rwA r),.tree 1 ((idL l.length).map iA)] (fun q=>q=.agg (rwA r)):=
 IsTm.ind (M:=fun r=>TmV l r->smR r=true->rnW r<=100000->PRet prog 140 [.agg (rwA r),.tree 1 ((idL l.length).map iA)] (fun q=>q=.agg (rwA r))) (fun x hx ih hv hs hw=>Od x hx l h0 hv hs hw ih) hr
def Ob(x:GTm)(hx:FitTm x)(l:List PVar)(hll:l.length<=1000)(hv:TmV l (tmA x))(h6:smR (tmA x)=true)(hw:rnW (tmA x)<=100000)(ih:∀p∈x.a_,∀r∈p.of_,TmV l r->smR r=true->rnW r<=100000->PRet prog 156 [.agg (rwA r),.tree 1 ((idL l.length).map iA)] (fun q=>q=.agg (rwA r))):PRet prog 156 [.agg (tmA x),.tree 1 ((idL l.length).map iA)] (fun q=>q=.agg (tmA x)):=by
 refine ovT [10,32,37,43] [] func156 rfl rfl ?_
 refine OpG.lk (nr (LOp.bd afh pl62 rfl rfl) (fun _=>FzP.aggL (.cons (.pure rfl) (.cons (FzP.nil (n:=5)) .nil)))) ?_
 refine LpG.on (fun k0:Nat=>(⟨fL [(1,.tree 1 ((idL l.length).map iA)),(2,.ptr 0 0 0),(4,.ptr 1 0 0),(5,.ptr 2 0 0),(6,vI k0)],hLz [(0,⟨0,tmA x,0,false⟩),(1,⟨0,[vI 0,.v (.slice none 0 0)],0,false⟩),(2,⟨0,tmA ⟨x.f_,x.a_.take k0⟩,0,false⟩)],3⟩:St)) (fun k0=>(x.a_.length-k0)) (fun k0=>(k0<=x.a_.length)) 0 (cnR rfl) (azk _) ?_
 rintro k0 h4
 have hgr_k0:x.a_.length<=140737488355328:=hx.a_.1
 have hle_k0:=h4
 refine LenG.of (cL (fun h0=>?_) (fun hge15=>?_))
 ·refine IdxG.of ‹_› (cE (fun h1=>?_) (fun h1=>?_))
  ·have hkd:=(hx.a_.2 _ (ay7 h0)).kd.2.1 h1
   have h8:0<x.a_[k0].of_.length:=by omega
   obtain⟨y0,h2,hy0⟩:=((hx.a_.2 _ (ay7 h0)).of_.2 (x.a_[k0].of_[0]) (ay7 h8)).open_
   skip -- q2
   have h7:x.a_[k0].of_=[tmA y0]:=co (by omega) h2
   have h3:tmA y0∈x.a_[k0].of_:=by rw[h7];simp
   have h5:(⟨x.a_[k0].i_,x.a_[k0].c_,x.a_[k0].p_,x.a_[k0].by_,[tmA y0]⟩:GPart)=x.a_[k0]:=by rw[<-h7]
   refine cb (j:=0) ‹_› h2 (ArgG.mk (ih x.a_[k0] (ay7 _) (tmA y0) h3 ((tmV.1 hv _ (ay7 _)).2.2.1 h1 (tmA y0) h3) ((hx.a_.2 _ (ay7 _)).sm (tmA y0) h3) (azp (Rp hx (ay7 _) h3) hw)) rfl ?_)
   rintro _ rfl
   refine OpG.nw (cm (de underlying204 amb afh rfl rfl rfl rfl) (fun η' h=>ba (f:=tmA) (l:=[y0]) (azc.2 rfl) h rfl rfl rfl rfl rfl (fun a _=>⟨rfl,rfl⟩))) rfl ?_
   refine OpG.nw (cm (de underlying60 nu qn rfl rfl rfl rfl) (fun η' h=>ba (f:=ptA) (l:=[(⟨x.a_[k0].i_,x.a_[k0].c_,x.a_[k0].p_,x.a_[k0].by_,[tmA y0]⟩:GPart)]) (azc.2 rfl) h rfl rfl rfl rfl rfl (fun a _=>⟨rfl,rfl⟩))) rfl ?_
   refine ArgG.mk (Ls x hx h6 hw k0 h0 (⟨x.a_[k0].i_,x.a_[k0].c_,x.a_[k0].p_,x.a_[k0].by_,[tmA y0]⟩:GPart) h5) rfl ?_
   rintro _ ⟨e1,rfl⟩
   refine⟨by omega,?_⟩
   refine⟨(k0+1),by omega,(cnR rfl),?_⟩
   omega
  skip -- q1
  obtain⟨j1,h9,hj1v⟩:∃j:Nat,j<l.length/\x.a_[k0].p_=((j:Nat):Int):=acp (tmV.1 hv _ (ay7 h0)) (hx.a_.2 _ (ay7 h0)).kd.1 h1
  have hj1l:j1<(idL l.length).length:=by rw[jg];exact h9
  have h5:(⟨x.a_[k0].i_,x.a_[k0].c_,(idL l.length)[j1],x.a_[k0].by_,x.a_[k0].of_⟩:GPart)=x.a_[k0]:=by rw[od,<-hj1v]
  refine OpG.lk (ae underlying53 sz3 rfl rfl hj1v hj1l) ?_
  refine OpG.nw (cm (de underlying60 nu qn rfl rfl rfl rfl) (fun η' h=>ba (f:=ptA) (l:=[(⟨x.a_[k0].i_,x.a_[k0].c_,(idL l.length)[j1],x.a_[k0].by_,x.a_[k0].of_⟩:GPart)]) (azc.2 rfl) h rfl rfl rfl rfl rfl (fun a _=>⟨rfl,rfl⟩))) rfl ?_
  refine ArgG.mk (Ls x hx h6 hw k0 h0 (⟨x.a_[k0].i_,x.a_[k0].c_,(idL l.length)[j1],x.a_[k0].by_,x.a_[k0].of_⟩:GPart) h5) rfl ?_
  rintro _ ⟨e2,rfl⟩
  refine⟨by omega,?_⟩
  refine⟨(k0+1),by omega,(cnR rfl),?_⟩
  omega
 refine rtK rfl ca rfl ⟨[],FzP.pure rfl⟩ ?_
 rw[az0 (by omega)]
def Oc(l:List PVar)(h0:l.length<=1000)(r:List AV)(hr:IsTm r):TmV l r->smR r=true->rnW r<=100000->PRet prog 156 [.agg (rwA r),.tree 1 ((idL l.length).map iA)] (fun q=>q=.agg (rwA r)):=
 IsTm.ind (M:=fun r=>TmV l r->smR r=true->rnW r<=100000->PRet prog 156 [.agg (rwA r),.tree 1 ((idL l.length).map iA)] (fun q=>q=.agg (rwA r))) (fun x hx ih hv hs hw=>Ob x hx l h0 hv hs hw ih) hr
def Lq(h:AtG l a)(hk:a.c_=0\/a.c_=1\/a.c_=5):∃j:Nat,j<l.length/\a.p_=((j:Nat):Int):=by rcases hk with hk|hk|hk;obtain⟨j,hj,e⟩:=h.v0 (.inl hk);exact⟨j,hj,e⟩;obtain⟨j,hj,e⟩:=h.v0 (.inr hk);exact⟨j,hj,e⟩;obtain⟨j,hj,e,_⟩:=(h.v5 hk).1;exact⟨j,hj,e⟩
def Lr(h:AtG l a)(hk:a.c_=6\/a.c_=7):∃i j:Nat,i<l.length/\j<l.length/\i<j/\a.p_=((i:Nat):Int)/\a.w_=((j:Nat):Int):=by obtain⟨⟨i,hi,e,_⟩,⟨j,hj,g,_⟩,h3⟩:=h.v6 hk;exact⟨i,j,hi,hj,by omega,e,g⟩
def act(h:L.map fmA=ys.take k)(hk:¬k<ys.length):L.map fmA=ys:=by rw[h,az0 (by omega)]
def ana{x1:GFm}(h:L.map fmA=ys.take k)(hk:k<ys.length)(e:ys[k]=fmA x1):(L++[x1]).map fmA=ys.take (k+1):=by rw[azx,h,azj hk,e];rfl
def acs{x:GFm}(h:L.map fmA=x.b_)(hz:x.e_=zAt):fmA ⟨x.c_,zAt,L.map fmA⟩=fmA x:=by rw[h,<-hz]
def yh{x:GFm}{q:GAt}(hk:x.c_=2)(ha:x.b_=[])(hq:q=x.e_):fmA (atF q)=fmA x:=by subst hq;obtain⟨k,a,es⟩:=x;have hk:k=2:=hk;have ha:es=[]:=ha;subst hk;subst ha;rfl
def Ru(x:GFm)(hx:FitFm x)(l:List PVar)(hb:l.length<=1000)(hp:FmP (AtG l) (fmA x))(ih:∀r∈x.b_,FmP (AtG l) r->PRet prog 84 [.agg (rwA r),.tree 1 ((idL l.length).map iA)] (fun q=>q=.agg (rwA r))):PRet prog 84 [.agg (fmA x),.tree 1 ((idL l.length).map iA)] (fun q=>q=.agg (fmA x)):=by
 have ho:=Ej hp
 have hz:=apy hp
 have hal:=ho.2.1
 refine ovT [41,59,64,68,71] [8,11,15,18] func84 rfl rfl ?_
 apply cN<;>intro hq13
 ·refine LenG.of (LpG.via (fun _ h=>cn 2 10 11 rfl rfl rfl rfl rfl 4 rfl h) ?_)
  refine LpG.on (fun k0:KL GFm=>(⟨fL [(1,.tree 1 ((idL l.length).map iA)),(4,.ptr 1 0 0),(5,.ptr 2 0 0),(18,.tree 11 (x.b_.map rwA)),(19,.v (.int .i64 ((x.b_.length:Nat):Int))),(20,.v (.int .i64 ((k0.k:Nat):Int)))],hLz [(1,⟨0,[.v (.int .i64 0),.v (.int .i64 0),.v (.int .i64 0),.v (.int .i64 0),.v (.int .i64 0),.v (.slice none 0 0),.v (.int .i64 0),.v (.int .i64 0),.v (.bool false),.v (.string ⟨#[]⟩),.v (.slice none 0 0)],0,false⟩),(2,⟨0,[.v (.int .i64 x.c_),.v (.int .i64 0),.v (.int .i64 0),.v (.int .i64 0),.v (.int .i64 0),.v (.slice none 0 0),.v (.int .i64 0),.v (.int .i64 0),.v (.bool false),.v (.string ⟨#[]⟩),.sl 3 k0.L.length 0 k0.L.length],0,false⟩),(3,⟨k0.L.length,rF fmA k0.L,11,Nat.beq k0.L.length 0⟩)],4⟩:St)) (fun k0=>(x.b_.length-k0.k)) (fun k0=>(k0.k<=x.b_.length/\(k0.L.map fmA=x.b_.take k0.k/\k0.L.length=k0.k))) (⟨0,[]⟩:KL GFm) (cO (.cons rfl rfl (.cons rfl rfl (.cons rfl rfl (.cons rfl rfl (.cons rfl rfl (.cons rfl rfl .nil)))))) (.cons rfl rfl rfl (.cons (by rfl) rfl rfl (.cons (by rfl) rfl (ab aq _ _) .nil)))) ⟨azk _,⟨rfl,rfl⟩⟩ ?_
  rintro k0 hc
  have hgr_k0:x.b_.length<=140737488355328:=hx.b_.1
  obtain⟨hle_k0,h2⟩:=hc
  apply cL<;>intro h3
  ·obtain⟨x1,h4,hx1⟩:=(hx.b_.2 _ (ay7 h3)).open_
   have hg:fmA x1∈x.b_:=h4▸ay7 h3
   have hh:x.c_≠2:=by omega
   have hll2:=h2.2
   refine cb (j:=k0.k) ‹_› h4 (ArgG.mk (ih (fmA x1) hg (ho.2.2.2 hh _ hg)) rfl ?_)
   rintro _ rfl
   refine OpG.mk _ _ _ 6 (ah aq (a:=x1) underlying67 zv yr Bx rfl rfl rfl (am rfl rfl rfl rfl) rfl (by omega) (by omega) (by unfold TV;omega)) rfl rfl ?_
   refine⟨by kernel_rfl,?_⟩
   refine⟨by omega,?_⟩
   refine⟨(⟨k0.k+1,k0.L++[x1]⟩:KL GFm),(nsA ‹_›),(cO (.cons rfl rfl (.cons rfl rfl (.cons rfl rfl (.cons rfl rfl (.cons rfl rfl (.cons rfl rfl .nil)))))) (.cons rfl rfl rfl (.cons (by(rw[azb];rfl)) rfl rfl (.cons (by(rw[azb];rfl)) rfl (ab aq _ _) .nil)))),?_⟩
   refine⟨‹_›,?_⟩
   exact⟨ana h2.1 h3 h4,by show(_++[_]).length=_;rw[azb,h2.2];rfl⟩
  refine RegG.via (fun _ h=>cz [3] 2 0 0 [.v (.int .i64 x.c_),.v (.int .i64 0),.v (.int .i64 0),.v (.int .i64 0),.v (.int .i64 0),.v (.slice none 0 0),.v (.int .i64 0),.v (.int .i64 0),.v (.bool false),.v (.string ⟨#[]⟩),.sl 3 k0.L.length 0 k0.L.length] [.v (.int .i64 x.c_),.v (.int .i64 0),.v (.int .i64 0),.v (.int .i64 0),.v (.int .i64 0),.v (.slice none 0 0),.v (.int .i64 0),.v (.int .i64 0),.v (.bool false),.v (.string ⟨#[]⟩),.tree 11 (k0.L.map fmA)] rfl rfl (.keep (.keep (.keep (.keep (.keep (.keep (.keep (.keep (.keep (.keep (.fz (FzP.rows aq (azc.2 rfl) rfl) (.same _)))))))))))) rfl h) ?_
  refine ay ?_
  refine⟨.inr rfl,_,P8.cell rfl bu rfl rfl rfl rfl rfl ⟨[],Bt⟩,?_⟩
  exact congrArg AV.agg (acs (act h2.1 ‹_›) (hz.1 (by omega)))
 apply cB<;>intro h5
 ·have h6:(x.e_.c_:Int)=(2:Int):=by simpa using h5
  refine cB (fun _=>?_) (fun hz=>by exfalso;have h:=(by simpa using hz:¬(x.e_.c_:Int)=2);omega)
  skip -- aT
  have h0:=ho.2.2.1 (by omega)
  have hd:=h0.k
  have h7:=h0.tm (by omega)
  have h1:x.e_=x.e_:=rfl
  refine ay ?_
  refine ArgG.mk (wz l hb (tmA x.e_.o_) (Cr h0.fit.o_) h7.tv h7.sm (by unfold rnW;have:=h0.oc;have:=h0.nx;omega)) rfl ?_
  rintro _ rfl
  refine ArgG.mk (kh x.e_ (by rw[h1];exact h0.fit)) rfl ?_
  rintro _ rfl
  refine⟨.inr rfl,_,P8.cell rfl bu rfl rfl rfl rfl rfl ⟨[],FzP.pure rfl⟩,?_⟩
  exact congrArg AV.agg (yh (by omega) (hz.2 (by omega)) h1)
 have h6:¬((x.e_.c_:Int)=(2:Int)):=by simpa using h5
 apply cB<;>intro h5
 ·have h6:(x.e_.c_:Int)=(3:Int):=by simpa using h5
  refine cB (fun _=>?_) (fun hz=>by exfalso;have h:=(by simpa using hz:¬(x.e_.c_:Int)=3);omega)
  skip -- aT
  have h0:=ho.2.2.1 (by omega)
  have hd:=h0.k
  have h7:=h0.tm (by omega)
  have h1:x.e_=x.e_:=rfl
  refine ay ?_
  refine ArgG.mk (wz l hb (tmA x.e_.o_) (Cr h0.fit.o_) h7.tv h7.sm (by unfold rnW;have:=h0.oc;have:=h0.nx;omega)) rfl ?_
  rintro _ rfl
  refine ArgG.mk (kh x.e_ (by rw[h1];exact h0.fit)) rfl ?_
  rintro _ rfl
  refine⟨.inr rfl,_,P8.cell rfl bu rfl rfl rfl rfl rfl ⟨[],FzP.pure rfl⟩,?_⟩
  exact congrArg AV.agg (yh (by omega) (hz.2 (by omega)) h1)
 have h6:¬((x.e_.c_:Int)=(3:Int)):=by simpa using h5
 apply cE<;>intro h6
 ·skip -- aT
  have h0:=ho.2.2.1 (by omega)
  have hd:=h0.k
  have h7:=h0.tm (by omega)
  have h1:x.e_=x.e_:=rfl
  refine ay ?_
  refine ArgG.mk (wz l hb (tmA x.e_.o_) (Cr h0.fit.o_) h7.tv h7.sm (by unfold rnW;have:=h0.oc;have:=h0.nx;omega)) rfl ?_
  rintro _ rfl
  refine ArgG.mk (kh x.e_ (by rw[h1];exact h0.fit)) rfl ?_
  rintro _ rfl
  refine⟨.inr rfl,_,P8.cell rfl bu rfl rfl rfl rfl rfl ⟨[],FzP.pure rfl⟩,?_⟩
  exact congrArg AV.agg (yh (by omega) (hz.2 (by omega)) h1)
 apply cB<;>intro h8
 ·have h9:(x.e_.c_:Int)=(6:Int):=by simpa using h8
  refine cB (fun _=>?_) (fun hz=>by exfalso;have h:=(by simpa using hz:¬(x.e_.c_:Int)=6);omega)
  skip -- aS
  have h0:=ho.2.2.1 (by omega)
  obtain⟨j1,j2,ha,he,hf,hj1v,hj2v⟩:=Lr h0 (by omega)
  have hj1l:j1<(idL l.length).length:=by rw[jg];exact ha
  have hj2l:j2<(idL l.length).length:=by rw[jg];exact he
  have h1:(⟨x.e_.c_,min (idL l.length)[j1] (idL l.length)[j2],max (idL l.length)[j1] (idL l.length)[j2],x.e_.o_,x.e_.x_⟩:GAt)=x.e_:=by rw[od,od,Int.min_eq_left (by omega),Int.max_eq_right (by omega),<-hj1v,<-hj2v]
  refine ay ?_
  refine OpG.lk (ae underlying53 sz3 rfl rfl hj1v hj1l) ?_
  refine OpG.lk (ae underlying53 sz3 rfl rfl hj2v hj2l) ?_
  refine⟨by kernel_rfl,?_⟩
  refine OpG.lk (jb rfl rfl) ?_
  refine OpG.lk (ld rfl rfl) ?_
  refine ArgG.mk (kh (⟨x.e_.c_,min (idL l.length)[j1] (idL l.length)[j2],max (idL l.length)[j1] (idL l.length)[j2],x.e_.o_,x.e_.x_⟩:GAt) (by rw[h1];exact h0.fit)) rfl ?_
  rintro _ rfl
  refine⟨.inr rfl,_,P8.cell rfl bu rfl rfl rfl rfl rfl ⟨[],FzP.pure rfl⟩,?_⟩
  exact congrArg AV.agg (yh (by omega) (hz.2 (by omega)) h1)
 have h9:¬((x.e_.c_:Int)=(6:Int)):=by simpa using h8
 apply cE<;>intro h9
 ·skip -- aS
  have h0:=ho.2.2.1 (by omega)
  obtain⟨j1,j2,ha,he,hf,hj1v,hj2v⟩:=Lr h0 (by omega)
  have hj1l:j1<(idL l.length).length:=by rw[jg];exact ha
  have hj2l:j2<(idL l.length).length:=by rw[jg];exact he
  have h1:(⟨x.e_.c_,min (idL l.length)[j1] (idL l.length)[j2],max (idL l.length)[j1] (idL l.length)[j2],x.e_.o_,x.e_.x_⟩:GAt)=x.e_:=by rw[od,od,Int.min_eq_left (by omega),Int.max_eq_right (by omega),<-hj1v,<-hj2v]
  refine ay ?_
  refine OpG.lk (ae underlying53 sz3 rfl rfl hj1v hj1l) ?_
  refine OpG.lk (ae underlying53 sz3 rfl rfl hj2v hj2l) ?_
  refine⟨by kernel_rfl,?_⟩
  refine OpG.lk (jb rfl rfl) ?_
  refine OpG.lk (ld rfl rfl) ?_
  refine ArgG.mk (kh (⟨x.e_.c_,min (idL l.length)[j1] (idL l.length)[j2],max (idL l.length)[j1] (idL l.length)[j2],x.e_.o_,x.e_.x_⟩:GAt) (by rw[h1];exact h0.fit)) rfl ?_
  rintro _ rfl
  refine⟨.inr rfl,_,P8.cell rfl bu rfl rfl rfl rfl rfl ⟨[],FzP.pure rfl⟩,?_⟩
  exact congrArg AV.agg (yh (by omega) (hz.2 (by omega)) h1)
 skip -- aV
 have h0:=ho.2.2.1 (by omega)
 have hd:=h0.k
 obtain⟨j1,ha,hj1v⟩:=Lq h0 (by omega)
 have hj1l:j1<(idL l.length).length:=by rw[jg];exact ha
 have h1:(⟨x.e_.c_,(idL l.length)[j1],x.e_.w_,x.e_.o_,x.e_.x_⟩:GAt)=x.e_:=by rw[od,<-hj1v]
 refine ay ?_
 refine OpG.lk (ae underlying53 sz3 rfl rfl hj1v hj1l) ?_
 refine ArgG.mk (kh (⟨x.e_.c_,(idL l.length)[j1],x.e_.w_,x.e_.o_,x.e_.x_⟩:GAt) (by rw[h1];exact h0.fit)) rfl ?_
 rintro _ rfl
 refine⟨.inr rfl,_,P8.cell rfl bu rfl rfl rfl rfl rfl ⟨[],FzP.pure rfl⟩,?_⟩
 exact congrArg AV.agg (yh (by omega) (hz.2 (by omega)) h1)
def Rv(l:List PVar)(h0:l.length<=1000)(r:List AV)(hr:IsFm r):FmP (AtG l) r->PRet prog 84 [.agg (rwA r),.tree 1 ((idL l.length).map iA)] (fun q=>q=.agg (rwA r)):=IsFm.ind (M:=fun r=>FmP (AtG l) r->PRet prog 84 [.agg (rwA r),.tree 1 ((idL l.length).map iA)] (fun q=>q=.agg (rwA r))) (fun x hx ih hp=>Ru x hx l h0 hp ih) hr
def Rs(x:GFm)(hx:FitFm x)(l:List PVar)(hg:l.length<=1000)(hp:FmP (AtG l) (fmA x))(ih:∀r∈x.b_,FmP (AtG l) r->PRet prog 99 [.agg (rwA r),.tree 1 ((idL l.length).map iA)] (fun q=>q=.agg (rwA r))):PRet prog 99 [.agg (fmA x),.tree 1 ((idL l.length).map iA)] (fun q=>q=.agg (fmA x)):=by
 have ho:=Ej hp
 have hz:=apy hp
 have hal:=ho.2.1
 refine ovT [27,36,41,43,47,52,54] [4,8,11,18] func99 rfl rfl ?_
 apply cE<;>intro hq10
 ·apply cB<;>intro h3
  ·have h6:(x.e_.c_:Int)=(0:Int):=by simpa using h3
   refine cB (fun _=>?_) (fun hz=>by exfalso;have h:=(by simpa using hz:¬(x.e_.c_:Int)=0);omega)
   skip -- aV
   have h0:=ho.2.2.1 (by omega)
   have ha:=h0.k
   obtain⟨j1,h7,hj1v⟩:=Lq h0 (by omega)
   have hj1l:j1<(idL l.length).length:=by rw[jg];exact h7
   have h1:(⟨x.e_.c_,(idL l.length)[j1],x.e_.w_,x.e_.o_,x.e_.x_⟩:GAt)=x.e_:=by rw[od,<-hj1v]
   refine ay ?_
   refine OpG.lk (ae underlying53 sz3 rfl rfl hj1v hj1l) ?_
   refine ArgG.mk (iw (⟨x.e_.c_,(idL l.length)[j1],x.e_.w_,x.e_.o_,x.e_.x_⟩:GAt) (by rw[h1];exact h0.fit)) rfl ?_
   rintro _ rfl
   refine⟨.inr rfl,_,P8.cell rfl bu rfl rfl rfl rfl rfl ⟨[],FzP.pure rfl⟩,?_⟩
   exact congrArg AV.agg (yh (by omega) (hz.2 (by omega)) h1)
  have h6:¬((x.e_.c_:Int)=(0:Int)):=by simpa using h3
  apply cB<;>intro h3
  ·have h6:(x.e_.c_:Int)=(1:Int):=by simpa using h3
   refine cB (fun _=>?_) (fun hz=>by exfalso;have h:=(by simpa using hz:¬(x.e_.c_:Int)=1);omega)
   skip -- aV
   have h0:=ho.2.2.1 (by omega)
   have ha:=h0.k
   obtain⟨j1,h7,hj1v⟩:=Lq h0 (by omega)
   have hj1l:j1<(idL l.length).length:=by rw[jg];exact h7
   have h1:(⟨x.e_.c_,(idL l.length)[j1],x.e_.w_,x.e_.o_,x.e_.x_⟩:GAt)=x.e_:=by rw[od,<-hj1v]
   refine ay ?_
   refine OpG.lk (ae underlying53 sz3 rfl rfl hj1v hj1l) ?_
   refine ArgG.mk (iw (⟨x.e_.c_,(idL l.length)[j1],x.e_.w_,x.e_.o_,x.e_.x_⟩:GAt) (by rw[h1];exact h0.fit)) rfl ?_
   rintro _ rfl
   refine⟨.inr rfl,_,P8.cell rfl bu rfl rfl rfl rfl rfl ⟨[],FzP.pure rfl⟩,?_⟩
   exact congrArg AV.agg (yh (by omega) (hz.2 (by omega)) h1)
  have h6:¬((x.e_.c_:Int)=(1:Int)):=by simpa using h3
  apply cE<;>intro h6
  ·skip -- aV
   have h0:=ho.2.2.1 (by omega)
   have ha:=h0.k
   obtain⟨j1,h7,hj1v⟩:=Lq h0 (by omega)
   have hj1l:j1<(idL l.length).length:=by rw[jg];exact h7
   have h1:(⟨x.e_.c_,(idL l.length)[j1],x.e_.w_,x.e_.o_,x.e_.x_⟩:GAt)=x.e_:=by rw[od,<-hj1v]
   refine ay ?_
   refine OpG.lk (ae underlying53 sz3 rfl rfl hj1v hj1l) ?_
   refine ArgG.mk (iw (⟨x.e_.c_,(idL l.length)[j1],x.e_.w_,x.e_.o_,x.e_.x_⟩:GAt) (by rw[h1];exact h0.fit)) rfl ?_
   rintro _ rfl
   refine⟨.inr rfl,_,P8.cell rfl bu rfl rfl rfl rfl rfl ⟨[],FzP.pure rfl⟩,?_⟩
   exact congrArg AV.agg (yh (by omega) (hz.2 (by omega)) h1)
  apply cB<;>intro h8
  ·have h9:(x.e_.c_:Int)=(6:Int):=by simpa using h8
   refine cB (fun _=>?_) (fun hz=>by exfalso;have h:=(by simpa using hz:¬(x.e_.c_:Int)=6);omega)
   skip -- aS
   have h0:=ho.2.2.1 (by omega)
   obtain⟨j1,j2,h7,hb,hc,hj1v,hj2v⟩:=Lr h0 (by omega)
   have hj1l:j1<(idL l.length).length:=by rw[jg];exact h7
   have hj2l:j2<(idL l.length).length:=by rw[jg];exact hb
   have h1:(⟨x.e_.c_,min (idL l.length)[j1] (idL l.length)[j2],max (idL l.length)[j1] (idL l.length)[j2],x.e_.o_,x.e_.x_⟩:GAt)=x.e_:=by rw[od,od,Int.min_eq_left (by omega),Int.max_eq_right (by omega),<-hj1v,<-hj2v]
   refine ay ?_
   refine OpG.lk (ae underlying53 sz3 rfl rfl hj1v hj1l) ?_
   refine OpG.lk (ae underlying53 sz3 rfl rfl hj2v hj2l) ?_
   refine OpG.lk (jb rfl rfl) ?_
   refine OpG.lk (ae underlying53 sz3 rfl rfl hj1v hj1l) ?_
   refine OpG.lk (ae underlying53 sz3 rfl rfl hj2v hj2l) ?_
   refine OpG.lk (ld rfl rfl) ?_
   refine⟨by kernel_rfl,?_⟩
   refine ArgG.mk (iw (⟨x.e_.c_,min (idL l.length)[j1] (idL l.length)[j2],max (idL l.length)[j1] (idL l.length)[j2],x.e_.o_,x.e_.x_⟩:GAt) (by rw[h1];exact h0.fit)) rfl ?_
   rintro _ rfl
   refine⟨.inr rfl,_,P8.cell rfl bu rfl rfl rfl rfl rfl ⟨[],FzP.pure rfl⟩,?_⟩
   exact congrArg AV.agg (yh (by omega) (hz.2 (by omega)) h1)
  have h9:¬((x.e_.c_:Int)=(6:Int)):=by simpa using h8
  apply cE<;>intro h9
  ·skip -- aS
   have h0:=ho.2.2.1 (by omega)
   obtain⟨j1,j2,h7,hb,hc,hj1v,hj2v⟩:=Lr h0 (by omega)
   have hj1l:j1<(idL l.length).length:=by rw[jg];exact h7
   have hj2l:j2<(idL l.length).length:=by rw[jg];exact hb
   have h1:(⟨x.e_.c_,min (idL l.length)[j1] (idL l.length)[j2],max (idL l.length)[j1] (idL l.length)[j2],x.e_.o_,x.e_.x_⟩:GAt)=x.e_:=by rw[od,od,Int.min_eq_left (by omega),Int.max_eq_right (by omega),<-hj1v,<-hj2v]
   refine ay ?_
   refine OpG.lk (ae underlying53 sz3 rfl rfl hj1v hj1l) ?_
   refine OpG.lk (ae underlying53 sz3 rfl rfl hj2v hj2l) ?_
   refine OpG.lk (jb rfl rfl) ?_
   refine OpG.lk (ae underlying53 sz3 rfl rfl hj1v hj1l) ?_
   refine OpG.lk (ae underlying53 sz3 rfl rfl hj2v hj2l) ?_
   refine OpG.lk (ld rfl rfl) ?_
   refine⟨by kernel_rfl,?_⟩
   refine ArgG.mk (iw (⟨x.e_.c_,min (idL l.length)[j1] (idL l.length)[j2],max (idL l.length)[j1] (idL l.length)[j2],x.e_.o_,x.e_.x_⟩:GAt) (by rw[h1];exact h0.fit)) rfl ?_
   rintro _ rfl
   refine⟨.inr rfl,_,P8.cell rfl bu rfl rfl rfl rfl rfl ⟨[],FzP.pure rfl⟩,?_⟩
   exact congrArg AV.agg (yh (by omega) (hz.2 (by omega)) h1)
  skip -- aT
  have h0:=ho.2.2.1 (by omega)
  have ha:=h0.k
  have he:=h0.tm (by omega)
  have h1:x.e_=x.e_:=rfl
  refine ay ?_
  refine ArgG.mk (Oc l hg (tmA x.e_.o_) (Cr h0.fit.o_) he.tv he.sm (by unfold rnW;have:=h0.oc;have:=h0.nx;omega)) rfl ?_
  rintro _ rfl
  refine ArgG.mk (iw x.e_ (by rw[h1];exact h0.fit)) rfl ?_
  rintro _ rfl
  refine⟨.inr rfl,_,P8.cell rfl bu rfl rfl rfl rfl rfl ⟨[],FzP.pure rfl⟩,?_⟩
  exact congrArg AV.agg (yh (by omega) (hz.2 (by omega)) h1)
 refine LpG.via (fun _ h=>cn 2 10 11 rfl rfl rfl rfl rfl 4 rfl h) ?_
 refine LpG.on (fun k0:KL GFm=>(⟨fL [(1,.tree 1 ((idL l.length).map iA)),(2,.ptr 0 0 0),(4,.ptr 1 0 0),(6,.ptr 2 0 0),(7,.v (.int .i64 ((k0.k:Nat):Int)))],hLz [(0,⟨0,fmA x,0,false⟩),(1,⟨0,[.v (.int .i64 0),.v (.int .i64 0),.v (.int .i64 0),.v (.int .i64 0),.v (.int .i64 0),.v (.slice none 0 0),.v (.int .i64 0),.v (.int .i64 0),.v (.bool false),.v (.string ⟨#[]⟩),.v (.slice none 0 0)],0,false⟩),(2,⟨0,[.v (.int .i64 x.c_),.v (.int .i64 0),.v (.int .i64 0),.v (.int .i64 0),.v (.int .i64 0),.v (.slice none 0 0),.v (.int .i64 0),.v (.int .i64 0),.v (.bool false),.v (.string ⟨#[]⟩),.sl 3 k0.L.length 0 k0.L.length],0,false⟩),(3,⟨k0.L.length,rF fmA k0.L,11,Nat.beq k0.L.length 0⟩)],4⟩:St)) (fun k0=>(x.b_.length-k0.k)) (fun k0=>(k0.k<=x.b_.length/\(k0.L.map fmA=x.b_.take k0.k/\k0.L.length=k0.k))) (⟨0,[]⟩:KL GFm) (cO (.cons rfl rfl (.cons rfl rfl (.cons rfl rfl (.cons rfl rfl (.cons rfl rfl .nil))))) (.cons rfl rfl rfl (.cons rfl rfl rfl (.cons (by rfl) rfl rfl (.cons (by rfl) rfl (ab aq _ _) .nil))))) ⟨azk _,⟨rfl,rfl⟩⟩ ?_
 rintro k0 hd
 have hgr_k0:x.b_.length<=140737488355328:=hx.b_.1
 obtain⟨hle_k0,h2⟩:=hd
 refine LenG.of (cL (fun h4=>?_) (fun hge66=>?_))
 ·obtain⟨x1,h5,hx1⟩:=(hx.b_.2 _ (ay7 h4)).open_
  have hf:fmA x1∈x.b_:=h5▸ay7 h4
  have hh:x.c_≠2:=by omega
  have hll2:=h2.2
  refine cb (j:=k0.k) ‹_› h5 (ArgG.mk (ih (fmA x1) hf (ho.2.2.2 hh _ hf)) rfl ?_)
  rintro _ rfl
  refine OpG.mk _ _ _ 5 (ah aq (a:=x1) underlying67 zv yr Bx rfl rfl rfl (am rfl rfl rfl rfl) rfl (by omega) (by omega) (by unfold TV;omega)) rfl rfl ?_
  refine⟨by kernel_rfl,?_⟩
  refine⟨by omega,?_⟩
  refine⟨(⟨k0.k+1,k0.L++[x1]⟩:KL GFm),(nsA ‹_›),(cO (.cons rfl rfl (.cons rfl rfl (.cons rfl rfl (.cons rfl rfl (.cons rfl rfl .nil))))) (.cons rfl rfl rfl (.cons rfl rfl rfl (.cons (by(rw[azb];rfl)) rfl rfl (.cons (by(rw[azb];rfl)) rfl (ab aq _ _) .nil))))),?_⟩
  refine⟨‹_›,?_⟩
  exact⟨ana h2.1 h4 h5,by show(_++[_]).length=_;rw[azb,h2.2];rfl⟩
 refine RegG.via (fun _ h=>cz [3] 2 0 0 [.v (.int .i64 x.c_),.v (.int .i64 0),.v (.int .i64 0),.v (.int .i64 0),.v (.int .i64 0),.v (.slice none 0 0),.v (.int .i64 0),.v (.int .i64 0),.v (.bool false),.v (.string ⟨#[]⟩),.sl 3 k0.L.length 0 k0.L.length] [.v (.int .i64 x.c_),.v (.int .i64 0),.v (.int .i64 0),.v (.int .i64 0),.v (.int .i64 0),.v (.slice none 0 0),.v (.int .i64 0),.v (.int .i64 0),.v (.bool false),.v (.string ⟨#[]⟩),.tree 11 (k0.L.map fmA)] rfl rfl (.keep (.keep (.keep (.keep (.keep (.keep (.keep (.keep (.keep (.keep (.fz (FzP.rows aq (azc.2 rfl) rfl) (.same _)))))))))))) rfl h) ?_
 refine ay ?_
 refine⟨.inr rfl,_,P8.cell rfl bu rfl rfl rfl rfl rfl ⟨[],Bt⟩,?_⟩
 exact congrArg AV.agg (acs (act h2.1 ‹_›) (hz.1 (by omega)))
def Rt(l:List PVar)(h0:l.length<=1000)(r:List AV)(hr:IsFm r):FmP (AtG l) r->PRet prog 99 [.agg (rwA r),.tree 1 ((idL l.length).map iA)] (fun q=>q=.agg (rwA r)):=IsFm.ind (M:=fun r=>FmP (AtG l) r->PRet prog 99 [.agg (rwA r),.tree 1 ((idL l.length).map iA)] (fun q=>q=.agg (rwA r))) (fun x hx ih hp=>Rs x hx l h0 hp ih) hr
section
variable{P:Program}{τ:Nat->AV}{η:bm}{d:Option Tmp}{ty:TypeId}{pos:String}{af:Array Edge}{g:Option (Nat×Bool)}
theorem Xl(u:Nat){t e len by_:Nat}{z:Value}{x:Operand}(he:P.underlying t=some (.slice e))(hs:aj P e=some 1)(hz:bp P e=some z)(h1:(P.info? e).map (·.bytes)=some by_)
 (hx:aev τ x=.v (.int .i64 v))(hy:aev τ y=.v (.int .i64 v))(hv:v=((len:Nat):Int))(hl:by_*len<=140737488355328)(hl2:len<=140737488355328)(h0:len≠0):
 LOp P ⟨d,.makeSlice t x y,ty,pos,af,g⟩ τ η [] [(u,some ⟨0,dk z (len*1),1,false⟩)] (.sl u 0 0 len):=by
 subst hv
 intro C a hg h6 _ h2 K Q hK
 have hu:¬C.U u:=h2 (u,some ⟨0,dk z (len*1),1,false⟩) (by simp) (by simp)
 have e1:=h6 x (by simp[Op.operands])
 have e2:=h6 y (by simp[Op.operands])
 rw[hx]at e1
 rw[hy]at e2
 unfold aj at hs
 unfold bp at hz
 cases hi:P.info? e with
 |none=>rw[hi]at hz;cases hz
 |some inf=>
  rw[hi]at hz hs h1
  simp only[az6]at hz
  simp only[az5,aza]at hs h1
  let es:Array Value:=(Array.range (len*inf.size)).map fun i=>z.cells[i%z.cells.size]!
  have z1:(dk z (len*inf.size)).length=es.size:=by simp[dk,es]
  have z2:∀i (h:i<(dk z (len*inf.size)).length) (h':i<es.size),VR C (dk z (len*inf.size))[i] es[i]:=fun i h h'=>by simp only[dk,List.getElem_map,List.getElem_range,es,Array.getElem_map,Array.getElem_range];exact VR.v C _
  have gsz:es.size=len*inf.size:=by simp[es]
  have h5:(execOp a.eval ⟨d,.makeSlice t x y,ty,pos,af,g⟩).run P C.w=.ok (.value (.slice (some ⟨C.w.heap.size,0,none⟩) len len)) (C.w.alloc (.cells es e)):=by
   have h0:¬(len*inf.size=0):=by rw[hs,Nat.mul_one];exact h0
   have hw:IntKind.i64.wrap (Int.ofNat len)=Int.ofNat len:=IntWalk.i64_in _ (by constructor<;>simp<;>omega);have c1:¬(((inf.bytes:Int)*Int.ofNat len>2^48)):=by have:(inf.bytes:Int)*Int.ofNat len=((inf.bytes*len:Nat):Int):=(by simp);rw[this,h1];omega
   have c2:¬((Int.ofNat len:Int)<0):=by simp
   have e1':a.eval x=.int .i64 (Int.ofNat len):=e1.v_inv;have e2':a.eval y=.int .i64 (Int.ofNat len):=e2.v_inv
   simp only[execOp,e1',e2',Instr.makeSlice,Sem.run_bind,run_underlying he,azq,asInt,typeInfo,run_program,hi,azr];have a1:∀w:World,(asIntOf (Value.int IntKind.i64 (Int.ofNat len))).run P w=.ok (IntKind.i64,Int.ofNat len) w:=fun w=>rfl
   simp only[a1,azq,hw];have cc:(decide ((Int.ofNat len:Int)<0)||decide ((inf.bytes:Int)*Int.ofNat len>2^48)||decide ((Int.ofNat len:Int)<0)||decide ((Int.ofNat len:Int)>Int.ofNat len))=false:=by simp only[Bool.or_eq_false_iff,decide_eq_false_iff_not];exact⟨⟨⟨c2,c1⟩,c2⟩,Int.lt_irrefl _⟩
   rw[azf (by rw[cc];exact az7)];have tn:(Int.ofNat len).toNat=len:=rfl
   simp only[tn,Sem.run_bind];have ar:∀w:World,(askRoom (len*inf.bytes)).run P w=.ok () w:=fun w=>by unfold askRoom;split<;>rfl
   simp only[ar,azq,sizeOf,typeInfo,Sem.run_bind,run_program,hi,azr];rw[azf h0];simp only[Sem.run_bind,zeroValue,typeInfo,run_program,hi,azr,azq,hz];rfl
  have h7:(1:Nat)=inf.size:=hs.symm
  rw[h7]at hK
  unfold Oper.wp
  rw[h5]
  refine hK _ (C.alloc u es e ⟨0,dk z (len*inf.size),inf.size,false⟩) rfl (fun i=>by simp[Ctx.alloc]) (jl hg hu rfl (Nat.le_of_eq z1) z2) (jx hg hu rfl) ?_
  have h3:(C.alloc u es e ⟨0,dk z (len*inf.size),inf.size,false⟩).ρ u=(C.w.heap.size,0):=by simp[Ctx.alloc]
  have h4:(C.alloc u es e ⟨0,dk z (len*inf.size),inf.size,false⟩).sz u=es.size:=by simp[Ctx.alloc]
  have:=VR.sl (C:=C.alloc u es e ⟨0,dk z (len*inf.size),inf.size,false⟩) (id:=u) (ver:=0) (off:=0) (len:=len) (cap:=len) (b:=⟨0,dk z (len*inf.size),inf.size,false⟩) (aw _ _ _) rfl rfl (azm _) (by unfold maxLen;omega) (by omega)
   (by rw[h3,h4,gsz];simp)
  rw[h3]at this
  exact this
theorem X5(n:Nat):dk (.int .i64 0) (n*1)=rF iA (List.replicate n 0):=by
 have hR:∀m:List Int,rF iA m=m.map fun x=>.v (.int .i64 x):=fun m=>by
  induction m with
  |nil=>rfl
  |cons a m ih=>rw[ly,ih];rfl
 rw[hR,Nat.mul_one]
 refine List.ext_getElem (by simp[dk]) fun i h h'=>?_
 have h0:(Value.int IntKind.i64 0).cells=#[.int .i64 0]:=rfl
 have e:i%(Value.int IntKind.i64 0).cells.size=0:=by rw[h0];exact Nat.mod_one i
 simp only[dk,List.getElem_map,List.getElem_range,List.getElem_replicate,e];rfl
def Ia(u:Nat){t e len:Nat}{x:Operand}(he:P.underlying t=some (.slice e))(hs:aj P e=some 1)(hz:bp P e=some (.int .i64 0))(h1:(P.info? e).map (·.bytes)=some 8)
 (hx:aev τ x=.v (.int .i64 v))(hy:aev τ y=.v (.int .i64 v))(hv:v=((len:Nat):Int))(hl:8*len<=140737488355328)(h0:len≠0):
 LOp P ⟨d,.makeSlice t x y,ty,pos,af,g⟩ τ η [] [(u,some ⟨0,rF iA (List.replicate len 0),1,false⟩)] (.sl u 0 0 len):=by
 rw[<-X5];exact Xl u he hs hz h1 hx hy hv hl (by omega) h0
def E8{α:Type}{t e m a b:Nat}{k k':IntKind}{v':Int}{x z:Operand}{f:α->List AV}{l:List α}(hu:P.underlying t=some (.slice e))(hs:aj P e=some m)(hx:aev τ x=.tree m (l.map f))(hy:aev τ y=.v (.int k v))(hz:aev τ z=.v (.int k' v'))(hv:v=((a:Nat):Int))(h4:v'=((b:Nat):Int))(h5:a<=b)(hb:b<=l.length):
 LOp P ⟨d,.slice t x (some y) (some z) none,ty,pos,af,g⟩ τ η [] [] (.tree m (((l.drop a).take (b-a)).map f)):=by
 subst hv;subst h4
 have h:s4 P τ η 0 t x (some y) (some z)=some ⟨[],[],.tree m (((l.drop a).take (b-a)).map f),0⟩:=by have h0:Nat.ble a b=true:=Nat.ble_eq_true_of_le h5;have h1:Nat.ble b l.length=true:=Nat.ble_eq_true_of_le hb;have h2:aev τ y=.v (.int k (Int.ofNat a)):=hy;have h3:aev τ z=.v (.int k' (Int.ofNat b)):=hz;unfold s4;rw[hu];simp only[hs,hx,yj,h2,h3,aze,h0,h1,Nat.beq_refl,Bool.and_true,cond_true];congr 3;simp[List.map_take,List.map_drop]
 exact uz h
def idP(n k:Nat):List Int:=((List.range k).map fun i=>((i:Nat):Int))++List.replicate (n-k) 0
theorem A5(h:k<=n):(idP n k).length=n:=by simp[idP];omega
theorem T6(h:k<n):(idP n k).set k ((k:Nat):Int)=idP n (k+1):=by unfold idP;rw[List.set_append_right _ _ (by simp),show n-k=(n-(k+1))+1 by omega,List.replicate_succ];simp[List.range_succ]
theorem Jr(h:¬k<n)(hk:k<=n):idP n k=(List.range n).map fun i=>((i:Nat):Int):=by have e:k=n:=(by omega);subst e;simp[idP]
def idB(h:k<n):some (⟨0,rF iA ((idP n k).set k (((k:Nat):Int)-0)),1,false⟩:Blk)=some ⟨0,rF iA (idP n (k+1)),1,false⟩:=by rw[Int.sub_zero,T6 h]
end
def aff{η:bm}{id v m:Nat}{l:List Int}(hb:η id=some ⟨v,rF iA l,1,false⟩)(hl:l.length=m):FzP [id] η (.sl id v 0 m) (.tree 1 (l.map iA)):=by subst hl;exact fg ai (azc.2 rfl) hb
abbrev Pk(fr:AV)(T:List Int)(w:GEx)(l:List PVar):List AV:=[.v (.int .i64 5),.v (.string ⟨#[]⟩),.v (.slice none 0 0),.v (.slice none 0 0),.v (.slice none 0 0),.v (.slice none 0 0),.v (.slice none 0 0),.v (.slice none 0 0),.v (.slice none 0 0),fr]++exA w++[.v (.slice none 0 0),.v (.slice none 0 0),.v (.int .i64 0),.v (.string ⟨#[]⟩),.v (.int .i64 0),.tree 1 (T.map iA),.tree 5 (l.map vA),.v (.slice none 0 0)]
def A8(s:List GTab)(hs:bq s (fun y=>FitTab y))(F:List ByteArray)(w:GEx)(hw:FitEx w)(j:Nat)(hj:j<s.length):PRet prog 98 [.tree 5 (s.map ic),.agg (Pk (.tree 2 (F.map fun n=>[.v (.string n),.v (.string ⟨#[]⟩)])) [((j:Nat):Int)] w (aa s[j])),vI 0] (fun q=>q=vI 0):=ovT [] [] func98 rfl rfl (eu (ULp.step (cF (rV rfl rfl rfl))))
def Sh(s:List GTab)(hs:bq s (fun y=>FitTab y))(F:List ByteArray)(w:GEx)(hw:FitEx w)(j:Nat)(hj:j<s.length)(hcl:s[j].d_.length<=1000)(hc1:1<=s[j].d_.length):PRet prog 97 [.tree 5 (s.map ic),.agg (Pk (.tree 2 (F.map fun n=>[.v (.string n),.v (.string ⟨#[]⟩)])) [((j:Nat):Int)] w (aa s[j])),vI 0] (fun q=>q=.tup [.tree 5 ((aa s[j]).map vA),.tree 1 ((idL (aa s[j]).length).map iA)]):=by have hvl:=i7 s[j];have h2:(((aa s[j]).drop 0).take (s[j].d_.length-0))=(aa s[j]):=(by rw[List.drop_zero,Nat.sub_zero,az0 (by omega)]);have hcl2:(((aa s[j]).drop 0).take (s[j].d_.length-0)).length=(aa s[j]).length:=(by rw[h2]);refine ovT [21,23,27,33,34,35,39,61,62,100062] [] func97 rfl rfl ?_;refine ArgG.mk (A8 s hs F w hw j hj) rfl ?_;rintro _ rfl;refine OpG.lk (ae underlying53 sz3 rfl rfl rfl (by simp)) ?_;refine OpG.lk (ae underlying42 uv rfl rfl rfl hj) ?_;refine LenG.of ⟨by kernel_rfl,OpG.nw (rr 1 underlying54 uw) rfl ?_⟩;refine OpG.lk (lJ rfl rfl (by omega) (by omega)) ?_;refine OpG.lk (E8 (a:=0) (b:=s[j].d_.length) (l:=(aa s[j])) (f:=vA) underlying54 uw rfl rfl rfl rfl (by omega) (by omega) (by omega)) ?_;refine OpG.mk _ _ _ 2 (mo jc (l:=([]:List PVar)) (l':=(((aa s[j]).drop 0).take (s[j].d_.length-0))) underlying54 uw Qc Wd rfl rfl rfl rfl (by simp only[azv];omega) (by simp only[azv];omega) (by decide)) rfl rfl ?_;refine LenG.of (OpG.nw (Ia 2 underlying53 sz3 zr3 by3 rfl rfl rfl (by omega) (by omega)) rfl ?_);refine LpG.on (fun k0:Nat=>(⟨fL [(4,.ptr 0 0 0),(8,vI 0),(9,vI ((s[j].d_.length:Nat):Int)),(10,.sl 1 (0+1) 0 ([]++(((aa s[j]).drop 0).take (s[j].d_.length-0))).length),(11,.sl 2 0 0 (aa s[j]).length),(12,vI k0)],hLz [(0,⟨0,(Pk (.tree 2 (F.map fun n=>[.v (.string n),.v (.string ⟨#[]⟩)])) [((j:Nat):Int)] w (aa s[j])),0,false⟩),(1,⟨0+1,rF vA ([]++(((aa s[j]).drop 0).take (s[j].d_.length-0))),5,false⟩),(2,⟨0,rF iA (idP (aa s[j]).length k0),1,false⟩)],3⟩:St)) (fun k0=>(((aa s[j])).length-k0)) (fun k0=>(k0<=((aa s[j])).length)) 0 (cnS rfl (hpR rfl (hpS (ab jc _ _) rfl (hpS (ab ai _ _) (by rfl) trivial)))) (azk _) ?_;rintro k0 h4;have h0:=h4;refine LenG.of (cL (fun hlt44=>?_) (fun h3=>?_));apply cB<;>intro h1;have h5:=azi h1;refine⟨by omega,?_⟩;apply cB<;>intro h6;refine OpG.lk (qf rfl rfl (by omega) (by omega)) ?_;refine OpG.lk (dy (k:=k0) ai underlying53 sz3 rfl rfl rfl (by omega) rfl) ?_;refine OpG.wr (lu (k:=k0) (o:=0) (v:=((k0:Int)-0)) ai sz3 rfl rfl rfl rfl rfl rfl (by rw[A5 (by omega)];omega) (by decide) rfl) rfl ?_;refine⟨by omega,?_⟩;refine⟨(k0+1),by omega,(cnS rfl (hpR rfl (hpS (ab jc _ _) rfl (.cons (by exact idB (by omega)) rfl (ab ai _ _) .nil)))),?_⟩;omega;exfalso;simp at h6;omega;have h5:=azh h1;exfalso;simp at h1;refine⟨.inr rfl,_,dh rfl (afe.tmp ⟨[1],fg jc (azc.2 rfl) rfl⟩) (afe.tmp ⟨[2],aff (l:=idP (aa s[j]).length k0) rfl (A5 (by omega))⟩),?_⟩;show AV.tup [.tree 5 (([]++(((aa s[j]).drop 0).take (s[j].d_.length-0))).map vA),.tree 1 ((idP (aa s[j]).length k0).map iA)]=_;rw[List.nil_append,h2,Jr h3 h0]
def Gb(h0:l.length<=1000)(hf:FitFm f)(hp:FmP (AtG l) (fmA f))(L:List Int)(hL:L=idL l.length):PRet prog 99 [.agg (fmA f),.tree 1 (L.map iA)] (fun q=>q=.agg (fmA f)):=by subst hL;exact Rt l h0 (fmA f) (yk hf) hp
def Gc(h0:l.length<=1000)(hf:FitFm f)(hp:FmP (AtG l) (fmA f))(L:List Int)(hL:L=idL l.length):PRet prog 84 [.agg (fmA f),.tree 1 (L.map iA)] (fun q=>q=.agg (fmA f)):=by subst hL;exact Rv l h0 (fmA f) (yk hf) hp
def Yf{m:Int}(hr:IsEx r)(hc:CondE l r)(h:trS l r m=some (fmA f)):FmP (AtG l) (fmA f):=(K6 r hr hc 12 (by decide) (na hc) m _ h).p
def aqm{a:Nat}(h:n=a):((idL n).drop 0).take (a-0)=idL n:=by rw[List.drop_zero,Nat.sub_zero,az0 (by rw[jg];omega)]
def Ab(s:List GTab)(hs:bq s (fun y=>FitTab y))(F:List ByteArray)(w:GEx)(hw:FitEx w)(j:Nat)(hj:j<s.length)(hh:s[j].d_.length<=1000)(hl:1<=s[j].d_.length)(hck:s[j].h_.length<=10)(h9:∀r∈s[j].h_,CondE (aa s[j]) r)(ha:¬w.op_=0->CondE (aa s[j]) (exA w)):PRet prog 48 [.tree 5 (s.map ic),.agg (Pk (.tree 2 (F.map fun n=>[.v (.string n),.v (.string ⟨#[]⟩)])) [((j:Nat):Int)] w (aa s[j])),.v (.int .i64 0)] (fun q=>∃(f:GFm) (V:List PVar) (e:Int),q=.tup [.agg (fmA f),.tree 5 (V.map vA),.v (.int .i64 e)]/\FitFm f/\FmR (ny s[j] w) f e/\(e=0->V=(aa s[j]))/\V.length<=1000):=by
 have hm:=i7 s[j]
 have hi:bq (aa s[j]) (fun _=>True):=pp hh
 have hb:(((idL (aa s[j]).length).drop 0).take (s[j].d_.length-0))=idL (aa s[j]).length:=aqm hm
 refine ovT [38,40,54,55] [20] func48 rfl rfl ?_
 refine ArgG.mk (Sh s hs F w hw j hj hh hl) rfl ?_
 rintro _ rfl
 refine eu (ULp.step ?_)
 refine LenG.of (cB (fun h1=>?_) (fun h1=>?_))
 ·have h8:=azi h1
  refine OpG.lk (ae underlying53 sz3 rfl rfl rfl (by simp)) ?_
  refine OpG.lk (ae underlying42 uv rfl rfl rfl hj) ?_
  refine ArgG.mk (A8 s hs F w hw j hj) rfl ?_
  rintro _ rfl
  refine ArgG.mk (A8 s hs F w hw j hj) rfl ?_
  rintro _ rfl
  refine LenG.of (OpG.lk (lJ rfl rfl (by omega) (by omega)) ?_)
  refine OpG.lk (E8 (a:=0) (b:=s[j].d_.length) (l:=idL (aa s[j]).length) (f:=iA) underlying53 sz3 rfl rfl rfl rfl (by omega) (by omega) (by rw[jg];omega)) ?_
  refine⟨by kernel_rfl,?_⟩
  refine LpG.via (fun _ h=>bl 11 11 rfl 4 rfl h) ?_
  refine LpG.on (fun k2:KL GFm=>(⟨fL [(0,.tree 5 (s.map ic)),(4,.ptr 0 0 0),(6,.ptr 1 0 0),(9,.tree 5 (((aa s[j])).map vA)),(10,.tree 1 (((idL (aa s[j]).length)).map iA)),(11,.sl 3 k2.L.length 0 k2.L.length),(12,.v (.int .i64 0)),(13,.ptr 2 0 0),(14,.tree 1 (((((idL (aa s[j]).length).drop 0).take (s[j].d_.length-0))).map iA)),(15,.v (.int .i64 ((k2.k:Nat):Int)))],hLz [(0,⟨0,(Pk (.tree 2 (F.map fun n=>[.v (.string n),.v (.string ⟨#[]⟩)])) [((j:Nat):Int)] w (aa s[j])),0,false⟩),(1,⟨0,[.v (.int .i64 0),.v (.int .i64 0),.v (.int .i64 0),.v (.int .i64 0),.v (.int .i64 0),.v (.slice none 0 0),.v (.int .i64 0),.v (.int .i64 0),.v (.bool false),.v (.string ⟨#[]⟩),.v (.slice none 0 0)],0,false⟩),(2,⟨0,ic s[j],0,false⟩),(3,⟨k2.L.length,rF fmA k2.L,11,Nat.beq k2.L.length 0⟩)],4⟩:St)) (fun k2=>(s[j].h_.length-k2.k)) (fun k2=>(k2.k<=s[j].h_.length/\(km (aa s[j]) (s[j].h_.take k2.k) 2=some (k2.L.map fmA)/\k2.L.length=k2.k/\∀y∈k2.L,FitFm y))) (⟨0,[]⟩:KL GFm) (cO (.cons rfl rfl (.cons rfl rfl (.cons rfl rfl (.cons rfl rfl (.cons rfl rfl (.cons (by rfl) rfl (.cons rfl rfl (.cons rfl rfl (.cons rfl rfl (.cons rfl rfl .nil)))))))))) (.cons rfl rfl rfl (.cons rfl rfl rfl (.cons rfl rfl rfl (.cons (by rfl) rfl (ab aq _ _) .nil))))) ⟨azk _,⟨by simp[km],rfl,by simp⟩⟩ ?_
  rintro k2 hc
  have hgr_k2:s[j].h_.length<=140737488355328:=(hs.2 _ (ay7 _)).h_.1
  obtain⟨hle_k2,h0⟩:=hc
  refine LenG.of (cL (fun h2=>?_) (fun h5=>?_))
  ·obtain⟨x1,h3,hk⟩:=((hs.2 _ (ay7 hj)).h_.2 _ (ay7 h2)).open_
   have hd:exA x1∈s[j].h_:=h3▸ay7 h2
   have hn:=h0.2.1
   refine cb (j:=k2.k) ‹_› h3 (ArgG.mk (jz s[j] (hs.2 _ (ay7 hj)) (by omega)) rfl ?_)
   rintro _ rfl
   refine ArgG.mk (xq (aa s[j]) hi (exA x1) (ko hk) (h9 _ hd) (na (h9 _ hd)) 2 (by omega)) rfl ?_
   rintro _ ⟨f4,e4,rfl,ho,he⟩
   refine⟨by kernel_rfl,?_⟩
   apply cN<;>intro h6
   ·refine⟨.inr rfl,_,du rfl (afe.cellN f48 bu rfl rfl rfl rfl rfl ⟨[],i6⟩) (afe.tmp ⟨[],FzP.nil (n:=5)⟩) (afe.tmp ⟨[],FzP.pure rfl⟩),?_⟩
    exact⟨zFm,[],e4,rfl,Qd,fmN (I1 (ut h2 (by rw[h3];exact(he.2 h6).1))) (he.2 h6).2,fun h=>absurd h h6,by simp⟩
   have hr1_0:=he.1 h6
   have hf1_0:=ho
   refine ArgG.mk (Gb (by omega) hf1_0 (Yf (ko hk) (h9 _ hd) hr1_0) (((idL (aa s[j]).length).drop 0).take (s[j].d_.length-0)) hb) rfl ?_
   rintro _ rfl
   refine OpG.mk _ _ _ 6 (ah aq (a:=f4) underlying67 zv yr Bx rfl rfl rfl (am rfl rfl rfl rfl) rfl (by omega) (by omega) (by unfold TV;omega)) rfl rfl ?_
   refine⟨by omega,?_⟩
   refine⟨(⟨k2.k+1,k2.L++[f4]⟩:KL GFm),(nsA ‹_›),(cO (.cons rfl rfl (.cons rfl rfl (.cons rfl rfl (.cons rfl rfl (.cons rfl rfl (.cons (by(rw[azb];rfl)) rfl (.cons rfl rfl (.cons rfl rfl (.cons rfl rfl (.cons rfl rfl .nil)))))))))) (.cons rfl rfl rfl (.cons rfl rfl rfl (.cons rfl rfl rfl (.cons (by(rw[azb];rfl)) rfl (ab aq _ _) .nil))))),?_⟩
   refine⟨‹_›,?_⟩
   exact⟨us h2 h0.1 (by rw[h3];exact hr1_0),by show(_++[_]).length=_;rw[azb,h0.2.1];rfl,jm h0.2.2 hf1_0⟩
  have hn:=h0.2.1
  refine⟨by omega,?_⟩
  refine ULp.step ?_
  refine LenG.of (cB (fun h1=>?_) (fun h1=>?_))
  ·have h8:=azi h1
   exfalso;simp at h1
  have h8:=azh h1
  apply cN<;>intro h4
  ·skip -- apT
   refine ArgG.mk (xq (aa s[j]) hi (exA w) (ko hw) (ha h4) (na (ha h4)) 0 (by omega)) rfl ?_
   rintro _ ⟨f6,e6,rfl,hp,hf⟩
   apply cN<;>intro h7
   ·refine⟨.inr rfl,_,du rfl (afe.cellN f48 bu rfl rfl rfl rfl rfl ⟨[],i6⟩) (afe.tmp ⟨[],FzP.nil (n:=5)⟩) (afe.tmp ⟨[],FzP.pure rfl⟩),?_⟩
    exact⟨zFm,[],e6,rfl,Qd,fmN (agr (kr h5 h0.1) h4 (hf.2 h7).1) (hf.2 h7).2,fun h=>absurd h h7,by simp⟩
   have hr2_0:=hf.1 h7
   have hf2_0:=hp
   refine ArgG.mk (Gb (by omega) hf2_0 (Yf (ko hw) (ha h4) hr2_0) (idL (aa s[j]).length) rfl) rfl ?_
   rintro _ rfl
   refine OpG.mk _ _ _ 6 (ah aq (a:=f6) underlying67 zv yr Bx rfl rfl rfl (am rfl rfl rfl rfl) rfl (by omega) (by omega) (by unfold TV;omega)) rfl rfl ?_
   refine RegG.via (fun _ h=>bc [3] 11 (.tree 11 ((k2.L++[f6]).map fmA)) (FzP.rows aq (azc.2 rfl) rfl) rfl h) ?_
   refine ay ?_
   refine ArgG.mk (afa (k2.L++[f6]) (by(rw[azb];show k2.L.length+1<=_;omega)) (jm h0.2.2 hf2_0)) rfl ?_
   rintro _ ⟨y,rfl,hy,hg⟩
   refine⟨.inr rfl,_,du rfl (afe.cellN f48 bu rfl rfl rfl rfl rfl ⟨[],FzP.pure rfl⟩) (afe.tmp ⟨[],FzP.pure rfl⟩) (afe.tmp ⟨[],FzP.pure rfl⟩),?_⟩
   exact⟨y,_,0,rfl,hy,fmY (ags (kr h5 h0.1) h4 hr2_0 hg),fun _=>rfl,by omega⟩
  skip -- apF
  refine RegG.via (fun _ h=>bc [3] 11 (.tree 11 (k2.L.map fmA)) (FzP.rows aq (azc.2 rfl) rfl) rfl h) ?_
  refine ay ?_
  refine ArgG.mk (afa k2.L (by omega) h0.2.2) rfl ?_
  rintro _ ⟨y,rfl,hy,hg⟩
  refine⟨.inr rfl,_,du rfl (afe.cellN f48 bu rfl rfl rfl rfl rfl ⟨[],FzP.pure rfl⟩) (afe.tmp ⟨[],FzP.pure rfl⟩) (afe.tmp ⟨[],FzP.pure rfl⟩),?_⟩
  exact⟨y,_,0,rfl,hy,fmY (agt (kr h5 h0.1) h4 hg),fun _=>rfl,by omega⟩
 have h8:=azh h1
 exfalso;simp at h1
def aw0(h:FmR (ny t w) f e)(hV:e=0->V=aa t)(hb:Nw t w):(if e=0 then(if kq V (fmA f)>256 then(3:Int)else 0)else e)=3:=by by_cases he:e=0;have h0:=awz h hb;rw[hV he];exact h0;rw[azf he];exact(h.2 he).2
def as7(L:List GFm)(hl:L.length<=140737488355328)(hL:∀x∈L,FitFm x):PRet prog 105 [.tree 11 (L.map fmA)] (fun q=>∃y:GFm,q=.agg (fmA y)/\FitFm y/\lsF 0 (L.map fmA)=fmA y):=by have hf:bq (L.map fmA) (fun y=>IsFm y):=⟨by rw[aze];exact hl,fun r hr=>by obtain⟨x,hx,rfl⟩:=azy.1 hr;exact yk (hL x hx)⟩;have h:=afc (L.map fmA) hf (by simp[bz,AV.pureB]);rw[fk]at h;obtain⟨q,rfl,h⟩:=h;obtain⟨y,e,hy⟩:=(D7 (k:=0) hf).open_;exact⟨_,⟨y,by rw[e],hy,e⟩,h⟩
def aof(hV:V=l)(tb nc:Int)(h0:bq l (fun y=>True))(f:GFm)(hf:FitFm f)(h1:FmOk l (fmA f))(h2:l.length<=1000):PRet prog 80 [vI tb,vI nc,.tree 5 (V.map vA),.agg (fmA f)] (fun q=>∃(p:PPred) (e:Int),q=.tup [.agg (prA p),vI e]/\((kq l (fmA f)>256/\e=3)\/(kq l (fmA f)<=256/\e=0/\p.tab=tb/\p.cols=nc/\p.vars=l/\ClsR l ((l.length:Nat):Int) (exR (lf l (fmA f))) p.cls))):=by subst hV;exact Y9 tb nc V h0 f hf h1 h2
def Yu(s:List GTab)(hs:bq s (fun y=>FitTab y))(F:List ByteArray)(w:GEx)(hw:FitEx w)(j:Nat)(hj:j<s.length)(h6:s[j].d_.length<=1000)(h7:1<=s[j].d_.length)(h2:s[j].h_.length<=10)(h3:∀r∈s[j].h_,CondE (aa s[j]) r)(h4:¬w.op_=0->CondE (aa s[j]) (exA w))(hb:Nw s[j] w):PRet prog 19 [.tree 5 (s.map ic),.agg (Pk (.tree 2 (F.map fun n=>[.v (.string n),.v (.string ⟨#[]⟩)])) [((j:Nat):Int)] w (aa s[j]))] (fun q=>q=vI 3):=by refine ovT [] [] func19 rfl rfl (eu (ULp.step ?_));refine LenG.of (cB (fun h0=>?_) (fun h0=>?_));have h1:=azi h0;refine ArgG.mk (Ab s hs F w hw j hj h6 h7 h2 h3 h4) rfl ?_;rintro _ ⟨f,V,e,rfl,hf,h5,hV,hV1⟩;refine ArgG.mk ((Ux f hf V ⟨by omega,fun _ _=>trivial⟩ e (fun h=>by rw[hV h];exact(o7 (hs.2 _ (ay7 hj)) hw h2 h3 h4 (h5.1 h)).ok.k)).mono (fun q h=>h.trans (congrArg vI (aw0 h5 hV hb)))) rfl ?_;rintro _ rfl;exact cT (rV rfl rfl rfl);have h1:=azh h0;exfalso;simp at h0
def axe{l:Nat}(h:¬k<n)(hk:k<=n)(hl:l=n):((idP n k).drop 0).take (n-0)=idL l:=by subst hl;rw[Jr h hk,List.drop_zero,Nat.sub_zero,az0 (by simp)]
def idC{L:List PVar}(h:k<n)(hL:L.length=k):some (⟨0,rF iA ((idP n k).set k (((L.length:Nat):Int))),1,false⟩:Blk)=some ⟨0,rF iA (idP n (k+1)),1,false⟩:=by rw[hL,T6 h]
def Yr(s:List GTab)(hs:bq s (fun y=>FitTab y))(F:List ByteArray)(w:GEx)(hw:FitEx w)(j:Nat)(hj:j<s.length)(hm:s[j].d_.length<=1000)(hc1:1<=s[j].d_.length)(hu:s[j].h_.length<=10)(hh:∀r∈s[j].h_,CondE (aa s[j]) r)(hi:¬w.op_=0->CondE (aa s[j]) (exA w)):PRet prog 74 [.tree 5 (s.map ic),.agg (Pk (.tree 2 (F.map fun n=>[.v (.string n),.v (.string ⟨#[]⟩)])) [((j:Nat):Int)] w (aa s[j])),.v (.int .i64 0)] (fun q=>∃(p:PPred) (e:Int),q=.tup [.agg (prA p),.v (.int .i64 e)]/\xk s[j] w ((j:Nat):Int) p e):=by
 have hv:=i7 s[j]
 have hl:bq (aa s[j]) (fun _=>True):=pp hm
 refine ovT [36,41,45,49,52,68,73,79,81,93,96,98,99,112,117,121,125,129,130,133,145,190,195,100099] [6,9,28,48] func74 rfl rfl ?_
 refine LenG.of (eu (ULp.step ?_))
 apply cB<;>intro h5
 ·have hc:=azi h5
  refine OpG.lk (ae underlying53 sz3 rfl rfl rfl (by simp)) ?_
  refine RegG.via (fun _ h=>bl 8 1 rfl 3 rfl h) ?_
  refine ay ?_
  refine OpG.mk _ _ _ 4 (ah ai (l:=([]:List Int)) (a:=(0:Int)) underlying53 sz3 zr3 by3 rfl rfl rfl (am rfl rfl rfl rfl) rfl (by simp only[azv];omega) (by simp only[azv];omega) (by unfold TV;omega)) rfl rfl ?_
  refine OpG.lk (ae underlying42 uv rfl rfl rfl hj) ?_
  refine LenG.of (OpG.lk (lJ rfl rfl (by omega) (by omega)) ?_)
  refine⟨by omega,?_⟩
  refine ULp.step ?_
  apply cB<;>intro h5
  ·have hc:=azi h5
   exfalso;simp at h5
  have hc:=azh h5
  refine RegG.via (fun _ h=>bc [2] 8 (.tree 1 (([]++[(0:Int)]).map iA)) (FzP.rows ai (azc.2 rfl) rfl) rfl h) ?_
  refine ay ?_
  refine OpG.nw (cm (de underlying53 sz3 zr3 rfl rfl rfl rfl) (fun η' h=>ba (f:=iA) (l:=[(0:Int)]) (azc.2 rfl) h rfl rfl rfl rfl rfl (fun a _=>⟨rfl,rfl⟩))) rfl ?_
  refine LenG.of (eu (ULp.step ?_))
  apply cB<;>intro h6
  ·have hd:=azi h6
   refine cF ⟨by omega,ULp.step ?_⟩
   apply cB<;>intro h6
   ·have hd:=azi h6
    exfalso;simp at h6
   have hd:=azh h6
   refine OpG.nw (Ia (len:=s[j].d_.length) 5 underlying53 sz3 zr3 by3 rfl rfl (by omega) (by omega) (by omega)) rfl ?_
   refine LenG.of (eu (ULp.step ?_))
   apply cB<;>intro h7
   ·have he:=azi h7
    refine OpG.lk (ae underlying53 sz3 rfl rfl rfl (by simp)) ?_
    refine OpG.lk (ae underlying53 sz3 rfl rfl rfl (by simp)) ?_
    refine OpG.lk (ae underlying42 uv rfl rfl rfl hj) ?_
    refine ArgG.mk (bw s[j] (hs.2 _ (ay7 hj)) hm) rfl ?_
    rintro _ rfl
    refine LenG.of (LpG.via (fun _ h=>bl 15 5 rfl 7 rfl h) ?_)
    refine LpG.on (fun k6:KL PVar=>(⟨fL [(0,.tree 5 (s.map ic)),(2,.v (.int .i64 0)),(4,.ptr 0 0 0),(6,.ptr 1 0 0),(8,.tree 1 ((([]++[(0:Int)])).map iA)),(14,.sl 5 0 0 s[j].d_.length),(15,.sl 6 k6.L.length 0 k6.L.length),(17,.v (.int .i64 0)),(69,.tree 1 (([(0:Int)]).map iA)),(70,.v (.int .i64 ((([(0:Int)]).length:Nat):Int))),(71,.v (.int .i64 0)),(83,.tree 5 (((aa s[j])).map vA)),(84,.v (.int .i64 ((((aa s[j])).length:Nat):Int))),(85,.v (.int .i64 ((k6.k:Nat):Int)))],hLz [(0,⟨0,(Pk (.tree 2 (F.map fun n=>[.v (.string n),.v (.string ⟨#[]⟩)])) [((j:Nat):Int)] w (aa s[j])),0,false⟩),(1,⟨0,[.v (.int .i64 0),.v (.int .i64 0),.v (.slice none 0 0),.v (.slice none 0 0)],0,false⟩),(5,⟨0,rF iA (idP s[j].d_.length k6.k),1,false⟩),(6,⟨k6.L.length,rF vA k6.L,5,Nat.beq k6.L.length 0⟩)],7⟩:St)) (fun k6=>(((aa s[j])).length-k6.k)) (fun k6=>(k6.k<=((aa s[j])).length/\(k6.L=(aa s[j]).take k6.k/\k6.L.length=k6.k))) (⟨0,[]⟩:KL PVar) (cO (.cons rfl rfl (.cons rfl rfl (.cons rfl rfl (.cons rfl rfl (.cons rfl rfl (.cons rfl rfl (.cons (by rfl) rfl (.cons rfl rfl (.cons rfl rfl (.cons rfl rfl (.cons rfl rfl (.cons rfl rfl (.cons rfl rfl (.cons rfl rfl .nil)))))))))))))) (.cons rfl rfl rfl (.cons rfl rfl rfl (.cons (by rfl) rfl (ab ai _ _) (.cons (by rfl) rfl (ab jc _ _) .nil))))) ⟨azk _,⟨rfl,rfl⟩⟩ ?_
    rintro k6 hf
    obtain⟨hle_k6,h4⟩:=hf
    apply cL<;>intro hk
    ·have g0:=h4.2
     refine IdxG.of ‹_› (OpG.lk (ae underlying53 sz3 rfl rfl rfl (by simp)) ?_)
     refine OpG.lk (lJ (m:=0) (n:=((k6.k:Nat):Int)) rfl rfl (by omega) (by omega)) ?_
     refine OpG.lk (we rfl underlying54 rfl rfl rfl) ?_
     refine OpG.lk (dy (k:=k6.k) ai underlying53 sz3 rfl rfl (by omega) (by omega) rfl) ?_
     refine OpG.wr (lu (k:=k6.k) (o:=0) (v:=((k6.L.length:Nat):Int)) ai sz3 rfl rfl rfl rfl rfl rfl (by rw[A5 (by omega)];omega) (by decide) rfl) rfl ?_
     refine OpG.mk _ _ _ 9 (ah jc (a:=(aa s[j])[k6.k]) underlying54 uw Qc Wd rfl rfl rfl (am rfl rfl rfl rfl) rfl (by omega) (by omega) (by unfold TV;omega)) rfl rfl ?_
     refine⟨by omega,?_⟩
     refine⟨(⟨k6.k+1,k6.L++[(aa s[j])[k6.k]]⟩:KL PVar),(by show((aa s[j])).length-(k6.k+1)<((aa s[j])).length-k6.k;omega),(cO (.cons rfl rfl (.cons rfl rfl (.cons rfl rfl (.cons rfl rfl (.cons rfl rfl (.cons rfl rfl (.cons (by(simp only[azb,azu,azv];rfl)) rfl (.cons rfl rfl (.cons rfl rfl (.cons rfl rfl (.cons rfl rfl (.cons rfl rfl (.cons rfl rfl (.cons rfl rfl .nil)))))))))))))) (.cons rfl rfl rfl (.cons rfl rfl rfl (.cons (by exact idC (by omega) h4.2) rfl (ab ai _ _) (.cons (by(simp only[azb,azu,azv];rfl)) rfl (ab jc _ _) .nil))))),?_⟩
     refine⟨‹_›,?_⟩
     exact⟨by show k6.L++[_]=_;rw[h4.1,azj hk],by show(_++[_]).length=_;rw[azb,h4.2];rfl⟩
    have g0:=h4.2
    have hx:k6.L=(aa s[j]):=by rw[h4.1,az0 (by omega)]
    have hn:(((idP s[j].d_.length k6.k).drop 0).take (s[j].d_.length-0))=idL (aa s[j]).length:=axe (by omega) (by omega) hv
    have ho:idP s[j].d_.length k6.k=idL (aa s[j]).length:=by rw[hv];exact Jr (by omega) (by omega)
    refine⟨by omega,?_⟩
    refine ULp.step ?_
    apply cB<;>intro h7
    ·have he:=azi h7
     exfalso;simp at h7
    have he:=azh h7
    refine RegG.via (fun _ h=>bc [5] 14 (.tree 1 ((idP s[j].d_.length k6.k).map iA)) (aff rfl (A5 (by omega))) rfl h) ?_
    refine RegG.via (fun _ h=>bc [6] 15 (.tree 5 (k6.L.map vA)) (FzP.rows jc (azc.2 rfl) rfl) rfl h) ?_
    refine ay ?_
    refine LenG.of (eu (ULp.step ?_))
    apply cB<;>intro h3
    ·have h9:=azi h3
     refine OpG.lk (ae underlying53 sz3 rfl rfl rfl (by simp)) ?_
     refine OpG.lk (ae underlying53 sz3 rfl rfl rfl (by simp)) ?_
     refine OpG.lk (ae underlying53 sz3 rfl rfl rfl (by simp)) ?_
     refine OpG.lk (ae underlying42 uv rfl rfl rfl hj) ?_
     refine LenG.of (OpG.lk (lJ (m:=0) (n:=((s[j].d_.length:Nat):Int)) rfl rfl (by omega) (by omega)) ?_)
     refine OpG.lk (E8 (a:=0) (b:=s[j].d_.length) (l:=idP s[j].d_.length k6.k) (f:=iA) underlying53 sz3 rfl rfl rfl rfl (by omega) (by omega) (by rw[A5 (by omega)];omega)) ?_
     refine⟨by kernel_rfl,?_⟩
     refine OpG.lk (ae underlying42 uv rfl rfl rfl hj) ?_
     refine LenG.of (LpG.via (fun _ h=>bl 20 11 rfl 8 rfl h) ?_)
     refine LpG.on (fun k10:KL GFm=>(⟨fL [(0,.tree 5 (s.map ic)),(2,.v (.int .i64 0)),(4,.ptr 0 0 0),(6,.ptr 1 0 0),(8,.tree 1 ((([]++[(0:Int)])).map iA)),(14,.tree 1 (((idP s[j].d_.length k6.k)).map iA)),(15,.tree 5 (k6.L.map vA)),(20,.sl 7 k10.L.length 0 k10.L.length),(22,.v (.int .i64 ((j:Nat):Int))),(23,.tree 1 (((((idP s[j].d_.length k6.k).drop 0).take (s[j].d_.length-0))).map iA)),(107,.tree 1 (([((j:Nat):Int)]).map iA)),(108,.v (.int .i64 ((([((j:Nat):Int)]).length:Nat):Int))),(109,.v (.int .i64 0)),(135,.tree 8 ((s[j].h_).map rwA)),(136,.v (.int .i64 ((s[j].h_.length:Nat):Int))),(137,.v (.int .i64 ((k10.k:Nat):Int)))],hLz [(0,⟨0,(Pk (.tree 2 (F.map fun n=>[.v (.string n),.v (.string ⟨#[]⟩)])) [((j:Nat):Int)] w (aa s[j])),0,false⟩),(1,⟨0,[.v (.int .i64 0),.v (.int .i64 0),.v (.slice none 0 0),.v (.slice none 0 0)],0,false⟩),(7,⟨k10.L.length,rF fmA k10.L,11,Nat.beq k10.L.length 0⟩)],8⟩:St)) (fun k10=>(s[j].h_.length-k10.k)) (fun k10=>(k10.k<=s[j].h_.length/\(km (aa s[j]) (s[j].h_.take k10.k) 2=some (k10.L.map fmA)/\k10.L.length=k10.k/\∀y∈k10.L,FitFm y))) (⟨0,[]⟩:KL GFm) (cO (.cons rfl rfl (.cons rfl rfl (.cons rfl rfl (.cons rfl rfl (.cons rfl rfl (.cons rfl rfl (.cons rfl rfl (.cons (by rfl) rfl (.cons rfl rfl (.cons rfl rfl (.cons rfl rfl (.cons rfl rfl (.cons rfl rfl (.cons rfl rfl (.cons rfl rfl (.cons rfl rfl .nil)))))))))))))))) (.cons rfl rfl rfl (.cons rfl rfl rfl (.cons (by rfl) rfl (ab aq _ _) .nil)))) ⟨azk _,⟨by simp[km],rfl,by simp⟩⟩ ?_
     rintro k10 hf
     have hgr_k10:s[j].h_.length<=140737488355328:=(hs.2 _ (ay7 _)).h_.1
     obtain⟨hle_k10,h0⟩:=hf
     apply cL<;>intro h1
     ·obtain⟨x1,h8,hz⟩:=((hs.2 _ (ay7 hj)).h_.2 _ (ay7 h1)).open_
      have hq:exA x1∈s[j].h_:=h8▸ay7 h1
      have g1:=h0.2.1
      refine cb (j:=k10.k) ‹_› h8 (OpG.lk (ae underlying42 uv rfl rfl rfl hj) ?_)
      refine ArgG.mk (bw s[j] (hs.2 _ (ay7 hj)) hm) rfl ?_
      rintro _ rfl
      refine ArgG.mk (ol x1 hz (aa s[j]) hl (hh _ hq) (na (hh _ hq))) rfl ?_
      rintro _ ⟨f2,e2,rfl,g2,hr⟩
      refine⟨by kernel_rfl,?_⟩
      apply cN<;>intro ha
      ·refine⟨.inr rfl,_,dh rfl (afe.cellN f74 yg rfl rfl rfl rfl rfl ⟨[],FzP.aggL (.cons (.pure rfl) (.cons (.pure rfl) (.cons (FzP.nil (n:=5)) (.cons (FzP.nil (n:=7)) .nil))))⟩) (afe.tmp ⟨[],FzP.pure rfl⟩),?_⟩
       exact⟨zPr,e2,rfl,.inl ⟨(hr.2 ha).2,.inl (I1 (ut h1 (by rw[h8];exact(hr.2 ha).1)))⟩⟩
      have hr1_0:=hr.1 ha
      have hf1_0:=g2
      refine ArgG.mk (Gc (by omega) hf1_0 (Yf (ko hz) (hh _ hq) hr1_0) (((idP s[j].d_.length k6.k).drop 0).take (s[j].d_.length-0)) hn) rfl ?_
      rintro _ rfl
      refine OpG.mk _ _ _ 11 (ah aq (a:=f2) underlying67 zv yr Bx rfl rfl rfl (am rfl rfl rfl rfl) rfl (by omega) (by omega) (by unfold TV;omega)) rfl rfl ?_
      refine⟨by omega,?_⟩
      refine⟨(⟨k10.k+1,k10.L++[f2]⟩:KL GFm),(nsA ‹_›),(cO (.cons rfl rfl (.cons rfl rfl (.cons rfl rfl (.cons rfl rfl (.cons rfl rfl (.cons rfl rfl (.cons rfl rfl (.cons (by(rw[azb];rfl)) rfl (.cons rfl rfl (.cons rfl rfl (.cons rfl rfl (.cons rfl rfl (.cons rfl rfl (.cons rfl rfl (.cons rfl rfl (.cons rfl rfl .nil)))))))))))))))) (.cons rfl rfl rfl (.cons rfl rfl rfl (.cons (by(rw[azb];rfl)) rfl (ab aq _ _) .nil)))),?_⟩
      refine⟨‹_›,?_⟩
      exact⟨us h1 h0.1 (by rw[h8];exact hr1_0),by show(_++[_]).length=_;rw[azb,h0.2.1];rfl,jm h0.2.2 hf1_0⟩
     have g1:=h0.2.1
     refine⟨by omega,?_⟩
     refine ULp.step ?_
     apply cB<;>intro h3
     ·have h9:=azi h3
      exfalso;simp at h3
     have h9:=azh h3
     apply cN<;>intro h2
     ·skip -- apT
      refine ArgG.mk (B6 w hw (aa s[j]) hl (hi h2) (na (hi h2))) rfl ?_
      rintro _ ⟨f4,e4,rfl,g3,ht⟩
      apply cN<;>intro hb
      ·refine⟨.inr rfl,_,dh rfl (afe.cellN f74 yg rfl rfl rfl rfl rfl ⟨[],FzP.aggL (.cons (.pure rfl) (.cons (.pure rfl) (.cons (FzP.nil (n:=5)) (.cons (FzP.nil (n:=7)) .nil))))⟩) (afe.tmp ⟨[],FzP.pure rfl⟩),?_⟩
       exact⟨zPr,e4,rfl,.inl ⟨(ht.2 hb).2,.inl (agr (kr h1 h0.1) h2 (ht.2 hb).1)⟩⟩
      have hr2_0:=ht.1 hb
      have hf2_0:=g3
      refine ArgG.mk (Gc (by omega) hf2_0 (Yf (ko hw) (hi h2) hr2_0) (idP s[j].d_.length k6.k) ho) rfl ?_
      rintro _ rfl
      refine OpG.mk _ _ _ 10 (ah aq (a:=f4) underlying67 zv yr Bx rfl rfl rfl (am rfl rfl rfl rfl) rfl (by omega) (by omega) (by unfold TV;omega)) rfl rfl ?_
      refine OpG.lk (ae underlying53 sz3 rfl rfl rfl (by simp)) ?_
      refine RegG.via (fun _ h=>bc [7] 20 (.tree 11 ((k10.L++[f4]).map fmA)) (FzP.rows aq (azc.2 rfl) rfl) rfl h) ?_
      refine ay ?_
      refine OpG.lk (ae underlying42 uv rfl rfl rfl hj) ?_
      refine LenG.of (ArgG.mk (as7 (k10.L++[f4]) (by(rw[azb];show k10.L.length+1<=_;omega)) (jm h0.2.2 hf2_0)) rfl ?_)
      rintro _ ⟨y,rfl,hy,hg⟩
      refine ArgG.mk (aof hx ((j:Nat):Int) ((s[j].d_.length:Nat):Int) hl y hy (o7 (hs.2 _ (ay7 hj)) hw hu hh hi (ags (kr h1 h0.1) h2 hr2_0 hg)).ok (by omega)) rfl ?_
      rintro _ ⟨p,e,rfl,hp⟩
      refine⟨by kernel_rfl,?_⟩
      refine⟨.inr rfl,_,dh rfl (afe.cellN f74 yg rfl rfl rfl rfl rfl ⟨[],FzP.pure rfl⟩) (afe.tmp ⟨[],FzP.pure rfl⟩),?_⟩
      exact⟨p,e,rfl,hp.elim (fun h=>.inl ⟨h.2,.inr ⟨_,ags (kr h1 h0.1) h2 hr2_0 hg,h.1⟩⟩) (fun h=>.inr ⟨h.2.1,_,ags (kr h1 h0.1) h2 hr2_0 hg,h.1,h.2.2.1,h.2.2.2.1,h.2.2.2.2.1,h.2.2.2.2.2⟩)⟩
     skip -- apF
     refine OpG.lk (ae underlying53 sz3 rfl rfl rfl (by simp)) ?_
     refine RegG.via (fun _ h=>bc [7] 20 (.tree 11 (k10.L.map fmA)) (FzP.rows aq (azc.2 rfl) rfl) rfl h) ?_
     refine ay ?_
     refine OpG.lk (ae underlying42 uv rfl rfl rfl hj) ?_
     refine LenG.of (ArgG.mk (as7 k10.L (by omega) h0.2.2) rfl ?_)
     rintro _ ⟨y,rfl,hy,hg⟩
     refine ArgG.mk (aof hx ((j:Nat):Int) ((s[j].d_.length:Nat):Int) hl y hy (o7 (hs.2 _ (ay7 hj)) hw hu hh hi (agt (kr h1 h0.1) h2 hg)).ok (by omega)) rfl ?_
     rintro _ ⟨p,e,rfl,hp⟩
     refine⟨by kernel_rfl,?_⟩
     refine⟨.inr rfl,_,dh rfl (afe.cellN f74 yg rfl rfl rfl rfl rfl ⟨[],FzP.pure rfl⟩) (afe.tmp ⟨[],FzP.pure rfl⟩),?_⟩
     exact⟨p,e,rfl,hp.elim (fun h=>.inl ⟨h.2,.inr ⟨_,agt (kr h1 h0.1) h2 hg,h.1⟩⟩) (fun h=>.inr ⟨h.2.1,_,agt (kr h1 h0.1) h2 hg,h.1,h.2.2.1,h.2.2.2.1,h.2.2.2.2.1,h.2.2.2.2.2⟩)⟩
    have h9:=azh h3
    exfalso;simp at h3
   have he:=azh h7
   exfalso;simp at h7
  have hd:=azh h6
  exfalso;simp at h6
 have hc:=azh h5
 exfalso;simp at h5
def ag2(s:List GTab)(hs:bq s (fun y=>FitTab y))(F:List ByteArray)(w:GEx)(hw:FitEx w)(j:Nat)(hj:j<s.length)(h3:s[j].d_.length<=1000)(h4:1<=s[j].d_.length)(h5:s[j].h_.length<=10)(h6:∀r∈s[j].h_,CondE (aa s[j]) r)(h7:¬w.op_=0->CondE (aa s[j]) (exA w)):PRet prog 33 [.tree 5 (s.map ic),.agg (Pk (.tree 2 (F.map fun n=>[.v (.string n),.v (.string ⟨#[]⟩)])) [((j:Nat):Int)] w (aa s[j]))] (fun q=>∃(p:PPred) (e:Int),xk s[j] w ((j:Nat):Int) p e/\((e=3/\q=.tup [.tree 5 [],vI 3])\/(e=0/\q=.tup [.tree 5 (([(⟨false,p⟩:PAcc)]).map acA),vI 0]))):=by refine ovT [30] [8] func33 rfl rfl (LenG.of ?_);refine eu (ULp.step ?_);apply cB<;>intro h0;have h1:=azi h0;refine ArgG.mk (Yr s hs F w hw j hj h3 h4 h5 h6 h7) rfl ?_;rintro _ ⟨p,e,rfl,hp⟩;apply cN<;>intro h2;refine⟨.inr rfl,_,dh rfl (afe.tmp (ret:=.tree 5 []) ⟨([]:List Nat),FzP.nil⟩) (afe.tmp ⟨([]:List Nat),FzP.pure rfl⟩),?_⟩;obtain he:e=3:=hp.elim (fun h=>h.1) (fun h=>absurd h.1 h2);subst he;exact⟨p,3,hp,.inl ⟨rfl,rfl⟩⟩;refine RegG.via (fun _ h=>bl 6 5 rfl 3 rfl h) (ay ?_);refine OpG.mk _ _ _ 4 (ah jp (l:=([]:List PAcc)) (a:=(⟨false,p⟩:PAcc)) underlying74 La afg ald rfl rfl rfl (am rfl rfl rfl rfl) rfl (by simp only[azv];omega) (by simp only[azv];omega) (by unfold TV;omega)) rfl rfl ⟨by omega,ULp.step ?_⟩;apply cB<;>intro h0;have h1:=azi h0;exfalso;simp at h0;have h1:=azh h0;refine⟨.inr rfl,_,dh rfl (afe.tmp ⟨[2],FzP.rows (l:=[(⟨false,p⟩:PAcc)]) jp (azc.2 rfl) rfl⟩) (afe.tmp ⟨[],FzP.pure rfl⟩),?_⟩;subst h2;exact⟨p,0,hp,.inr ⟨rfl,rfl⟩⟩;have h1:=azh h0;exfalso;simp at h0
def Lh(s:List GTab)(hs:bq s (fun y=>FitTab y))(F:List ByteArray)(w:GEx)(hw:FitEx w)(j:Nat)(hj:j<s.length)(X:List PAcc)(e:Int)(h0:PRet prog 33 [.tree 5 (s.map ic),.agg (Pk (.tree 2 (F.map fun n=>[.v (.string n),.v (.string ⟨#[]⟩)])) [((j:Nat):Int)] w (aa s[j]))] (fun q=>q=.tup [.tree 5 (X.map acA),vI e])):PRet prog 12 [.tree 5 (s.map ic),.agg (Pk (.tree 2 (F.map fun n=>[.v (.string n),.v (.string ⟨#[]⟩)])) [((j:Nat):Int)] w (aa s[j]))] (fun q=>q=.tup [.tree 5 (X.map acA),vI e]):=by refine ovT [] [] func12 rfl rfl (cT (ArgG.mk (h0) rfl ?_));rintro _ rfl;exact rtB rfl rfl rfl
def Li(s:List GTab)(hs:bq s (fun y=>FitTab y))(F:List ByteArray)(w:GEx)(hw:FitEx w)(j:Nat)(hj:j<s.length)(h0:s[j].d_.length<=1000)(h1:1<=s[j].d_.length)(h2:s[j].h_.length<=10)(h3:∀r∈s[j].h_,CondE (aa s[j]) r)(h4:¬w.op_=0->CondE (aa s[j]) (exA w)):PRet prog 12 [.tree 5 (s.map ic),.agg (Pk (.tree 2 (F.map fun n=>[.v (.string n),.v (.string ⟨#[]⟩)])) [((j:Nat):Int)] w (aa s[j]))] (fun q=>∃(p:PPred) (e:Int),xk s[j] w ((j:Nat):Int) p e/\((e=3/\q=.tup [.tree 5 [],vI 3])\/(e=0/\q=.tup [.tree 5 (([(⟨false,p⟩:PAcc)]).map acA),vI 0]))):=by obtain⟨q,⟨p,e,hp,⟨rfl,rfl⟩|⟨rfl,rfl⟩⟩,hc⟩:=ag2 s hs F w hw j hj h0 h1 h2 h3 h4;exact(Lh s hs F w hw j hj [] 3 (PRet.of_call hc)).mono fun r h=>⟨p,3,hp,.inl ⟨rfl,h⟩⟩;exact(Lh s hs F w hw j hj [(⟨false,p⟩:PAcc)] 0 (PRet.of_call hc)).mono fun r h=>⟨p,0,hp,.inr ⟨rfl,h⟩⟩
structure GCas9 where
 s_:List GTab
 E_:List Int
 r_:GEx
abbrev Wb(x:GCas9):List AV:=[.tree 5 (x.s_.map ic),.tree 1 (x.E_.map iA),.v (.int .i64 x.r_.op_),.v (.string x.r_.n_),.v (.string x.r_.q_),.v (.int .i64 x.r_.j_),.v (.int .i64 x.r_.k_.c_),.v (.int .i64 x.r_.k_.v_),.v (.string x.r_.k_.l_),.tree 8 (x.r_.b_.map rwA)]
structure FitCas9(x:GCas9):Prop where
 s_:bq x.s_ (fun y=>FitTab y)
 E_:bq x.E_ (fun y=>True)
 r_:FitEx x.r_
def srA(n:ByteArray):List AV:=[.v (.string n),.v (.string ⟨#[]⟩)]
def wx:RowF srA 2:=⟨fun _=>rfl,fun _=>rfl,fun _ _=>rfl,fun _ _=>rfl,fun _ _=>rfl,fun _=>rfl⟩
structure KSel where
 k:Nat
 T:List Int
 F:List ByteArray
 V:List PVar
 v:Nat
structure KSI(s:List GTab)(x:KSel):Prop where
 T:x.T.length=x.k
 F:x.F.length=x.k
 V:x.V.length<=5*x.k
 v:x.v<=x.k
 z:x.k=0->x.T=[]/\x.V=[]
 o:x.k=1->∃j:Nat,∃h:j<s.length,x.T=[((j:Nat):Int)]/\x.V=aa s[j]
def kr0 :KSI s ⟨0,[],[],[],0⟩:=⟨rfl,rfl,azk _,azk _,fun _=>⟨rfl,rfl⟩,fun h=>absurd h (by decide)⟩
def awj{x:KSel}{nm:ByteArray}{j1:Nat}(h:KSI s x)(hv:v=((j1:Nat):Int))(hj:j1<s.length)(h5:s[j1].d_.length<=5):KSI s ⟨x.k+1,x.T++[v],x.F++[nm],x.V++aa s[j1],vbX x.v (x.V++aa s[j1]).length⟩ where
 T:=by show(_++[_]).length=_;rw[azb,h.T];rfl
 F:=by show(_++[_]).length=_;rw[azb,h.F];rfl
 V:=by show(_++aa s[j1]).length<=5*(x.k+1);have:=h.V;rw[azb,i7];omega
 v:=by have:=h.v;show vbX x.v _<=x.k+1;unfold vbX;cases Nat.beq (x.V++aa s[j1]).length 0;exact Nat.succ_le_succ this;exact Nat.le_succ_of_le this
 z:=fun e=>absurd e (Nat.succ_ne_zero _)
 o:=fun e=>by have e:x.k=0:=(by have e:x.k+1=1:=e;omega);obtain⟨h1,h2⟩:=h.z e;exact⟨j1,hj,by show x.T++[v]=_;rw[h1,hv];rfl,by show x.V++_=_;rw[h2];rfl⟩
structure RightS(s:List GTab)(w:GEx)(T:List Int)(V:List PVar):Prop where
 sch:SchS s
 wh:w.op_=0\/CondE V (exA w)
 one:T.length=1->∃j:Nat,∃h:j<s.length,T=[((j:Nat):Int)]/\V=aa s[j]
abbrev Wi(fr tb vr:AV)(w:GEx):List AV:=[.v (.int .i64 5),.v (.string ⟨#[]⟩),.v (.slice none 0 0),.v (.slice none 0 0),.v (.slice none 0 0),.v (.slice none 0 0),.v (.slice none 0 0),.v (.slice none 0 0),.v (.slice none 0 0),fr]++exA w++[.v (.slice none 0 0),.v (.slice none 0 0),.v (.int .i64 0),.v (.string ⟨#[]⟩),.v (.int .i64 0),tb,vr,.v (.slice none 0 0)]
def axw:(prog.info? 136).map (·.bytes)=some 32:=by kernel_rfl
def auv:aj prog 136=some 2:=by kernel_rfl
def atx:bp prog 136=some (.agg #[.string ⟨#[]⟩,.string ⟨#[]⟩]):=by kernel_rfl
def Rq(c:GCas9)(hc:FitCas9 c):PRet prog 18 [.agg (Wb c)] (fun q=>∃(F:List ByteArray) (T:List Int) (V:List PVar) (b:Bool),q=.tup [.agg (Wi (.tree 2 (F.map srA)) (.tree 1 (T.map iA)) (.tree 5 (V.map vA)) c.r_),vB b]/\T.length<=3/\V.length<=15/\(b=true->RightS c.s_ c.r_ T V)):=by refine ovT [60,86] [8,13] func18 rfl rfl (ArgG.mk (N6 c.s_ hc.s_) rfl ?_);rintro _ ⟨b0,rfl,h9⟩;apply cB<;>intro h2;refine cT (cT ?_);exact rtC rfl I4 rfl ⟨[],FzP.aggL (.cons (.pure rfl) (.cons (.pure rfl) (.cons (.pure rfl) (.cons (.pure rfl) (.cons (.pure rfl) (.cons (.pure rfl) (.cons (.pure rfl) (.cons (.pure rfl) (.cons (.pure rfl) (.cons (FzP.nil (n:=2)) (.cons (.pure rfl) (.cons (.pure rfl) (.cons (.pure rfl) (.cons (.pure rfl) (.cons (.pure rfl) (.cons (.pure rfl) (.cons (.pure rfl) (.cons (.pure rfl) (.cons (.pure rfl) (.cons (.pure rfl) (.cons (.pure rfl) (.cons (.pure rfl) (.cons (.pure rfl) (.cons (FzP.nil (n:=1)) (.cons (FzP.nil (n:=5)) (.cons (.pure rfl) .nil))))))))))))))))))))))))))⟩ ⟨[],[],[],false,rfl,by simp,by simp,fun h=>absurd h az7⟩;have h8:=h9 (by simpa using h2);refine LenG.of (cL (fun hlt21=>?_) (fun hge21=>?_));exact cT (rtC rfl I4 rfl ⟨[],FzP.aggL (.cons (.pure rfl) (.cons (.pure rfl) (.cons (.pure rfl) (.cons (.pure rfl) (.cons (.pure rfl) (.cons (.pure rfl) (.cons (.pure rfl) (.cons (.pure rfl) (.cons (.pure rfl) (.cons (FzP.nil (n:=2)) (.cons (.pure rfl) (.cons (.pure rfl) (.cons (.pure rfl) (.cons (.pure rfl) (.cons (.pure rfl) (.cons (.pure rfl) (.cons (.pure rfl) (.cons (.pure rfl) (.cons (.pure rfl) (.cons (.pure rfl) (.cons (.pure rfl) (.cons (.pure rfl) (.cons (.pure rfl) (.cons (FzP.nil (n:=1)) (.cons (FzP.nil (n:=5)) (.cons (.pure rfl) .nil))))))))))))))))))))))))))⟩ ⟨[],[],[],false,rfl,by simp,by simp,fun h=>absurd h az7⟩);refine LenG.of (cD (fun h3=>?_) (fun h3=>?_));exact rtC rfl I4 rfl ⟨[],FzP.aggL (.cons (.pure rfl) (.cons (.pure rfl) (.cons (.pure rfl) (.cons (.pure rfl) (.cons (.pure rfl) (.cons (.pure rfl) (.cons (.pure rfl) (.cons (.pure rfl) (.cons (.pure rfl) (.cons (FzP.nil (n:=2)) (.cons (.pure rfl) (.cons (.pure rfl) (.cons (.pure rfl) (.cons (.pure rfl) (.cons (.pure rfl) (.cons (.pure rfl) (.cons (.pure rfl) (.cons (.pure rfl) (.cons (.pure rfl) (.cons (.pure rfl) (.cons (.pure rfl) (.cons (.pure rfl) (.cons (.pure rfl) (.cons (FzP.nil (n:=1)) (.cons (FzP.nil (n:=5)) (.cons (.pure rfl) .nil))))))))))))))))))))))))))⟩ ⟨[],[],[],false,rfl,by simp,by simp,fun h=>absurd h az7⟩;refine LpG.via (fun _ h=>cn 2 23 1 rfl rfl rfl rfl rfl 4 rfl h) (LpG.via (fun _ h=>cn 2 9 2 rfl rfl rfl rfl rfl 5 rfl h) ?_);refine LpG.via (fun _ h=>cn 2 24 5 rfl rfl rfl rfl rfl 6 rfl h) (LpG.on (fun k0:KSel=>(⟨fL [(1,.ptr 0 0 0),(2,.ptr 1 0 0),(4,.ptr 2 0 0),(5,vI k0.k)],hLz [(0,⟨0,Wb c,0,false⟩),(1,⟨0,[vI 0,.v (.string ⟨#[]⟩),.v (.slice none 0 0),.v (.slice none 0 0),.v (.slice none 0 0),.v (.slice none 0 0),.v (.slice none 0 0),.v (.slice none 0 0),.v (.slice none 0 0),.v (.slice none 0 0),vI 0,.v (.string ⟨#[]⟩),.v (.string ⟨#[]⟩),vI 0,vI 0,vI 0,.v (.string ⟨#[]⟩),.v (.slice none 0 0),.v (.slice none 0 0),.v (.slice none 0 0),vI 0,.v (.string ⟨#[]⟩),vI 0,.v (.slice none 0 0),.v (.slice none 0 0),.v (.slice none 0 0)],0,false⟩),(2,⟨0,(Wi (.sl 4 k0.F.length 0 k0.F.length) (.sl 3 k0.T.length 0 k0.T.length) (.sl 5 k0.v 0 k0.V.length) c.r_),0,false⟩),(3,⟨k0.T.length,rF iA k0.T,1,Nat.beq k0.T.length 0⟩),(4,⟨k0.F.length,rF srA k0.F,2,Nat.beq k0.F.length 0⟩),(5,⟨k0.v,rF vA k0.V,5,Nat.beq k0.V.length 0⟩)],6⟩:St)) (fun k0=>(c.E_.length-k0.k)) (fun k0=>(k0.k<=c.E_.length/\KSI c.s_ k0)) (⟨0,[],[],[],0⟩:KSel) (cnS rfl (hpR rfl (hpR rfl (hpR (by rfl) (hpS (ab ai _ _) (by rfl) (hpS (ab wx _ _) (by rfl) (hpS (ab jc _ _) (by rfl) trivial))))))) ⟨azk _,kr0⟩ ?_);rintro k0 h4;have hgr_k0:c.E_.length<=140737488355328:=hc.E_.1;obtain⟨hle_k0,h0⟩:=h4;refine LenG.of (cL (fun hlt32=>?_) (fun hge32=>?_));have hT:=h0.T;have hF:=h0.F;have hV:=h0.V;have hv:=h0.v;refine IdxG.of ‹_› (cD (fun h5=>?_) (fun h5=>?_));refine⟨by kernel_rfl,cT ?_⟩;refine RegG.via (fun _ h=>cz [3,4,5] 2 0 0 (Wi (.sl 4 k0.F.length 0 k0.F.length) (.sl 3 k0.T.length 0 k0.T.length) (.sl 5 k0.v 0 k0.V.length) c.r_) (Wi (.tree 2 (k0.F.map srA)) (.tree 1 (k0.T.map iA)) (.tree 5 (k0.V.map vA)) c.r_) rfl rfl (.keep (.keep (.keep (.keep (.keep (.keep (.keep (.keep (.keep (.fz (FzP.rows wx (by simp) rfl) (.keep (.keep (.keep (.keep (.keep (.keep (.keep (.keep (.keep (.keep (.keep (.keep (.keep (.fz (FzP.rows ai (by simp) rfl) (.fz (FzP.rows jc (by simp) rfl) (.same _)))))))))))))))))))))))))) rfl h) (ay ?_);exact rtP rfl I4 rfl ⟨k0.F,k0.T,k0.V,false,rfl,by omega,by omega,fun h=>absurd h az7⟩;refine IdxG.of ‹_› (LenG.of ?_);refine⟨by kernel_rfl,cD (fun h6=>?_) (fun h6=>?_)⟩;refine RegG.via (fun _ h=>cz [3,4,5] 2 0 0 (Wi (.sl 4 k0.F.length 0 k0.F.length) (.sl 3 k0.T.length 0 k0.T.length) (.sl 5 k0.v 0 k0.V.length) c.r_) (Wi (.tree 2 (k0.F.map srA)) (.tree 1 (k0.T.map iA)) (.tree 5 (k0.V.map vA)) c.r_) rfl rfl (.keep (.keep (.keep (.keep (.keep (.keep (.keep (.keep (.keep (.fz (FzP.rows wx (by simp) rfl) (.keep (.keep (.keep (.keep (.keep (.keep (.keep (.keep (.keep (.keep (.keep (.keep (.keep (.fz (FzP.rows ai (by simp) rfl) (.fz (FzP.rows jc (by simp) rfl) (.same _)))))))))))))))))))))))))) rfl h) (ay ?_);exact rtP rfl I4 rfl ⟨k0.F,k0.T,k0.V,false,rfl,by omega,by omega,fun h=>absurd h az7⟩;obtain⟨j1,hj1v,hj1l⟩:∃j:Nat,c.E_[k0.k]=((j:Nat):Int)/\j<c.s_.length:=⟨(c.E_[k0.k]).toNat,by omega,by omega⟩;have ha:=(h8.tab _ (ay7 hj1l)).c5;refine IdxG.of ‹_› (OpG.lk (ae underlying42 uv rfl rfl hj1v hj1l) ?_);refine⟨by kernel_rfl,IdxG.of ‹_› ?_⟩;refine OpG.mk _ _ _ 8 (ah ai (a:=c.E_[k0.k]) underlying53 sz3 zr3 by3 rfl rfl rfl (am rfl rfl rfl rfl) rfl (by omega) (by omega) (by unfold TV;omega)) rfl rfl ⟨by kernel_rfl,OpG.mk _ _ _ 9 (ah wx (a:=c.s_[j1].q_) underlying49 auv atx axw rfl rfl rfl (am rfl rfl rfl rfl) rfl (by omega) (by omega) (by unfold TV;omega)) rfl rfl ?_⟩;refine ArgG.mk (jz c.s_[j1] (hc.s_.2 _ (ay7 hj1l)) (by omega)) rfl ?_;rintro _ rfl;refine OpG.mk _ _ _ 9 (d4 jc (l:=k0.V) (l':=aa c.s_[j1]) underlying54 uw Qc Wd rfl rfl rfl rfl (by rw[i7];omega) (by rw[i7];omega) (by unfold TV;omega)) rfl rfl ⟨by kernel_rfl,⟨by omega,?_⟩⟩;refine⟨(⟨k0.k+1,_,_,_,_⟩:KSel),(nsA ‹_›),(cnS rfl (hpR rfl (hpR rfl (.cons (by(rw[azb,azb];rfl)) rfl rfl (.cons (by(rw[azb];rfl)) rfl (ab ai _ _) (.cons (by(rw[azb,azb];rfl)) rfl (ab wx _ _) (hpS (ab jc _ _) (by rfl) trivial))))))),⟨‹_›,?_⟩⟩;exact awj h0 hj1v hj1l ha;have hT:=h0.T;have hF:=h0.F;have hV:=h0.V;have hv:=h0.v;refine RegG.via (fun _ h=>cz [3,4,5] 2 0 0 (Wi (.sl 4 k0.F.length 0 k0.F.length) (.sl 3 k0.T.length 0 k0.T.length) (.sl 5 k0.v 0 k0.V.length) c.r_) (Wi (.tree 2 (k0.F.map srA)) (.tree 1 (k0.T.map iA)) (.tree 5 (k0.V.map vA)) c.r_) rfl rfl (.keep (.keep (.keep (.keep (.keep (.keep (.keep (.keep (.keep (.fz (FzP.rows wx (by simp) rfl) (.keep (.keep (.keep (.keep (.keep (.keep (.keep (.keep (.keep (.keep (.keep (.keep (.keep (.fz (FzP.rows ai (by simp) rfl) (.fz (FzP.rows jc (by simp) rfl) (.same _)))))))))))))))))))))))))) rfl h) (ay ?_);refine LenG.of (cD (fun h7=>?_) (fun h7=>?_));refine ArgG.mk (vy c.r_ hc.r_ k0.V ⟨by omega,fun _ _=>trivial⟩) rfl ?_;rintro _ ⟨b2,rfl,hd⟩;refine⟨by kernel_rfl,rtP rfl I4 rfl ?_⟩;exact⟨k0.F,k0.T,k0.V,_,rfl,by omega,by omega,fun hb=>⟨h8,hd hb,fun h1=>h0.o (by omega)⟩⟩;refine⟨by kernel_rfl,rtP rfl I4 rfl ?_⟩;exact⟨k0.F,k0.T,k0.V,false,rfl,by omega,by omega,fun h=>absurd h az7⟩
def ccT{d:Bool}(h:b=true↔P)(h2:d=true↔P):vB (b==d)=vB true:=by have:b=true↔d=true:=h.trans h2.symm;cases b<;>cases d<;>simp_all
def ccF(h:b=true↔P)(h2:¬P):vB (b==false)=vB true:=by cases b;rfl;exact absurd (h.1 rfl) h2
def auz{tb:Int}{x:PPred->List PAcc}(hb:Nw t w)(h:∃(p:PPred) (e:Int),xk t w tb p e/\((e=3/\q=.tup [.tree 5 [],vI 3])\/(e=0/\q=.tup [.tree 5 ((x p).map acA),vI 0]))):q=.tup [.tree 5 (([]:List PAcc).map acA),vI 3]:=by obtain⟨p,e,hp,⟨_,h⟩|⟨rfl,_⟩⟩:=h;exact h;exact absurd hb (ayb hp)
def auy{j:Nat}{x:PPred->List PAcc}(ht:FitTab t)(hw:FitEx w)(h0:TabS t)(h1:¬w.op_=0->CondE (aa t) (exA w))(hb:¬Nw t w)(h:∃(p:PPred) (e:Int),xk t w ((j:Nat):Int) p e/\((e=3/\q=.tup [.tree 5 [],vI 3])\/(e=0/\q=.tup [.tree 5 ((x p).map acA),vI 0]))):∃p:PPred,q=.tup [.tree 5 ((x p).map acA),vI 0]/\RowsK t w p:=by obtain⟨p,e,hp,⟨rfl,_⟩|⟨rfl,h⟩⟩:=h;exact absurd (akg hp) hb;exact⟨p,h,(I2 ht hw h0 h1 (Int.natCast_nonneg _) hp).2⟩
def aik(c:GCas9)(hc:FitCas9 c)(r:List GVal)(hr:bq r (fun y=>FitVal y))(F:List ByteArray)(T:List Int)(V:List PVar)(b:Bool)(h3:PRet prog 18 [.agg (Wb c)] (fun q=>q=.tup [.agg (Wi (.tree 2 (F.map srA)) (.tree 1 (T.map iA)) (.tree 5 (V.map vA)) c.r_),vB b]))(hn:b=true->T.length=1->False):PRet prog 4 [.agg (Wb c),.tree 3 (r.map gvA)] (fun q=>q=vB true):=by refine ovT [] [] func4 rfl rfl (ArgG.mk (h3) rfl ?_);rintro _ rfl;refine ArgG.mk (nj) rfl ?_;rintro _ rfl;refine cF (cB (fun h2=>?_) (fun h2=>?_));refine cT ⟨by kernel_rfl,cT ?_⟩;refine ArgG.mk (nj) rfl ?_;rintro _ rfl;exact rV rfl rfl rfl;refine LenG.of (cB (fun h0=>?_) (fun h0=>?_));have h1:=h0;simp at h1;refine⟨by kernel_rfl,cT ?_⟩;refine ArgG.mk (nj) rfl ?_;rintro _ rfl;exact rV rfl rfl rfl;have h1:=h0;simp at h1;exfalso;have h9:=h0;simp at h9;exact hn (by simpa using h2) (by omega)
def ail(c:GCas9)(hc:FitCas9 c)(r:List GVal)(hr:bq r (fun y=>FitVal y))(F:List ByteArray)(j:Nat)(hj:j<c.s_.length)(h6:PRet prog 18 [.agg (Wb c)] (fun q=>q=.tup [.agg (Wi (.tree 2 (F.map srA)) (.tree 1 ([((j:Nat):Int)].map iA)) (.tree 5 ((aa c.s_[j]).map vA)) c.r_),vB true]))(h4:RightS c.s_ c.r_ [((j:Nat):Int)] (aa c.s_[j]))(h1:Nw c.s_[j] c.r_):PRet prog 4 [.agg (Wb c),.tree 3 (r.map gvA)] (fun q=>q=vB true):=by have h0:=h4.sch.tab _ (ay7 hj);have h5:¬c.r_.op_=0->CondE (aa c.s_[j]) (exA c.r_):=fun h=>h4.wh.resolve_left h;refine ovT [31,33] [] func4 rfl rfl ?_;refine ArgG.mk (h6) rfl ?_;rintro _ rfl;refine ArgG.mk (nj) rfl ?_;rintro _ rfl;refine cF (cB (fun h2=>?_) (fun h2=>?_));refine cT ⟨by kernel_rfl,cT ?_⟩;refine ArgG.mk (nj) rfl ?_;rintro _ rfl;exact rV rfl rfl rfl;refine LenG.of (cN (fun h3=>?_) (fun h3=>?_));refine⟨by kernel_rfl,?_⟩;refine cT (ArgG.mk (nj) rfl ?_);rintro _ rfl;exact rV rfl rfl rfl;refine OpG.lk (ae underlying53 sz3 rfl rfl rfl (by simp)) ?_;refine OpG.lk (ae underlying42 uv rfl rfl rfl hj) ?_;refine ArgG.mk (El c.s_[j] (hc.s_.2 _ (ay7 hj)) r hr (by have:=h0.c5;omega)) rfl ?_;rintro _ ⟨e4,rfl,he4⟩;refine⟨by kernel_rfl,?_⟩;apply cN<;>intro hq38;refine ArgG.mk (nj) rfl ?_;rintro _ rfl;exact rV rfl rfl rfl;refine ArgG.mk ((Li c.s_ hc.s_ F c.r_ hc.r_ j hj (by have:=h0.c5;omega) h0.c1 h0.sm.chks h0.ck h5).mono (fun q h=>auz h1 h)) rfl ?_;rintro _ rfl;refine cT (ArgG.mk (Yu c.s_ hc.s_ F c.r_ hc.r_ j hj (by have:=h0.c5;omega) h0.c1 h0.sm.chks h0.ck h5 h1) rfl ?_);rintro _ rfl;exact rV rfl rfl rfl
def aij(c:GCas9)(hc:FitCas9 c)(r:List GVal)(hr:bq r (fun y=>FitVal y))(F:List ByteArray)(j:Nat)(hj:j<c.s_.length)(hb:PRet prog 18 [.agg (Wb c)] (fun q=>q=.tup [.agg (Wi (.tree 2 (F.map srA)) (.tree 1 ([((j:Nat):Int)].map iA)) (.tree 5 ((aa c.s_[j]).map vA)) c.r_),vB true]))(ha:RightS c.s_ c.r_ [((j:Nat):Int)] (aa c.s_[j]))(h3:¬Nw c.s_[j] c.r_):PRet prog 4 [.agg (Wb c),.tree 3 (r.map gvA)] (fun q=>q=vB true):=by have h0:=ha.sch.tab _ (ay7 hj);have h4:¬c.r_.op_=0->CondE (aa c.s_[j]) (exA c.r_):=fun h=>ha.wh.resolve_left h;refine ovT [31,33,60,69,71] [] func4 rfl rfl ?_;refine ArgG.mk (hb) rfl ?_;rintro _ rfl;refine ArgG.mk (nj) rfl ?_;rintro _ rfl;refine cF (cB (fun h5=>?_) (fun h5=>?_));refine cT ⟨by kernel_rfl,cT ?_⟩;refine ArgG.mk (nj) rfl ?_;rintro _ rfl;exact rV rfl rfl rfl;refine LenG.of (cN (fun h6=>?_) (fun h6=>?_));refine⟨by kernel_rfl,?_⟩;refine cT (ArgG.mk (nj) rfl ?_);rintro _ rfl;exact rV rfl rfl rfl;refine OpG.lk (ae underlying53 sz3 rfl rfl rfl (by simp)) ?_;refine OpG.lk (ae underlying42 uv rfl rfl rfl hj) ?_;refine ArgG.mk (El c.s_[j] (hc.s_.2 _ (ay7 hj)) r hr (by have:=h0.c5;omega)) rfl ?_;rintro _ ⟨e4,rfl,he4⟩;refine⟨by kernel_rfl,?_⟩;apply cN<;>intro hq38;refine ArgG.mk (nj) rfl ?_;rintro _ rfl;exact rV rfl rfl rfl;refine ArgG.mk ((Li c.s_ hc.s_ F c.r_ hc.r_ j hj (by have:=h0.c5;omega) h0.c1 h0.sm.chks h0.ck h4).mono (fun q h=>auy (hc.s_.2 _ (ay7 hj)) hc.r_ h0 h4 h3 h)) rfl ?_;rintro _ ⟨p,rfl,hk⟩;refine cF (LenG.of ?_);apply cB<;>intro h2;have h7:((([(⟨false,p⟩:PAcc)]).length:Nat):Int)=(1:Int):=(by simpa using h2);refine OpG.lk (lI (j:=0) underlying74 La rfl rfl (by omega)) ?_;refine ArgG.mk (xa p r hr hk.cols (by rw[hk.vars];exact pp h0.to.cl) (hk.hg r) hk.cl) rfl ?_;rintro _ ⟨b7,rfl,h8⟩;rw[hk.sem]at h8;refine OpG.lk (ae underlying53 sz3 rfl rfl rfl (by simp)) ?_;refine OpG.lk (ae underlying42 uv rfl rfl rfl hj) ?_;refine ArgG.mk (Gi c.s_[j] (hc.s_.2 _ (ay7 hj)) r hr h0.to) rfl ?_;rintro _ ⟨b8,rfl,h9⟩;apply cB<;>intro h1;refine ArgG.mk (Jk c.r_ hc.r_ r hr (fun h=>aq7 (Rn (h9.1 h1).1) h0.to.lk (h4 h) (ko hc.r_))) rfl ?_;rintro _ ⟨b9,rfl,hd⟩;refine⟨by kernel_rfl,?_⟩;exact rV rfl rfl (ccT h8 (by unfold Xi;rw[hd];exact⟨fun h=>⟨h9.1 h1,h⟩,fun h=>h.2⟩));refine⟨by kernel_rfl,?_⟩;exact rV rfl rfl (ccF h8 (fun h=>by rw[h9.2 h.1]at h1;cases h1));have h7:¬(((([(⟨false,p⟩:PAcc)]).length:Nat):Int)=(1:Int)):=(by simpa using h2);exfalso;simp at h2
def lawC_p(c:GCas9)(hc:FitCas9 c)(r:List GVal)(hr:bq r (fun y=>FitVal y)):PRet prog 4 [.agg (Wb c),.tree 3 (r.map gvA)] (fun q=>q=vB true):=by obtain⟨q,⟨F,T,V,b,rfl,hT,hV,hb⟩,h3⟩:=Rq c hc;have h0:=PRet.of_call h3;by_cases h1:b=true/\T.length=1;obtain⟨rfl,h1⟩:=h1;obtain⟨j,hj,rfl,rfl⟩:=(hb rfl).one h1;by_cases h:Nw c.s_[j] c.r_;exact ail c hc r hr F j hj h0 (hb rfl) h;exact aij c hc r hr F j hj h0 (hb rfl) h;exact aik c hc r hr F T V b h0 (fun h h2=>h1 ⟨h,h2⟩)
open Go.RowKit Go.ChangeShapes Go.WideShapes Go.Deep
set_option maxRecDepth 100000
def avy:nq prog (fun l:List GTab=>[.tree 5 (l.map ic)]) (fun l=>l.length<=140737488355328/\∀a∈l,(FitTab a/\a.d_.length<=3518437208883)) 42:=nq.slice oTab underlying42 (show prog.cellsOf 27=5 by kernel_rfl) (fun _=>rfl) (by decide) (azo (by kernel_rfl))
def aoi:nq prog Wb FitCas9 92:=by intro H enc W fuel cs d ps h hw;obtain⟨n,hn,h3,hf⟩:=ir underlying92 h hw;rw[show prog.cellsOf 92=10 by kernel_rfl]at h3;obtain⟨_,_,h0,w0⟩:=hf 0 _ rfl;obtain⟨x0,r0,e0⟩:=(avy) enc W _ _ _ _ h0 w0;change TRL _ _ _ (List.take (prog.cellsOf 42) (List.drop 0 cs))at e0;rw[show prog.cellsOf 42=1 by kernel_rfl]at e0;obtain⟨_,_,h1,w1⟩:=hf 1 _ rfl;obtain⟨x1,r1,e1⟩:=(ahs) enc W _ _ _ _ h1 w1;change TRL _ _ _ (List.take (prog.cellsOf 53) (List.drop 1 cs))at e1;rw[show prog.cellsOf 53=1 by kernel_rfl]at e1;obtain⟨_,_,h2,w2⟩:=hf 2 _ rfl;obtain⟨x2,r2,e2⟩:=(oExG) enc W _ _ _ _ h2 w2;change TRL _ _ _ (List.take (prog.cellsOf 32) (List.drop 2 cs))at e2;rw[show prog.cellsOf 32=8 by kernel_rfl]at e2;have hh:=(ce (o:=0) (m:=1) e0 (ce (o:=1) (m:=1) e1 (ce (o:=2) (m:=8) e2 (TRL.done h3))));exact⟨⟨x0,x1,x2⟩,⟨⟨r0.1,fun y h=>(r0.2 y h).1⟩,⟨r1.1,fun _ _=>trivial⟩,r2⟩,hh⟩
def open_case9{r:Reach}{b0:Nat}{H:Type}{enc:TypeId×Value->H}{W:World}{v:Value}{d:DataW H}{ps:List MemPlace}(hv:Value.okWide prog W r b0 92 v)
 (h:DataW.Trod enc prog W 0 (fun _=>true) true 92 v d ps)(hw:∀m∈d.weights prog 92,m<=140737488351232):
 ∃c:GCas9,FitCas9 c/\TR (LtB W.heap.size) W (.agg (Wb c)) v:=by
 obtain⟨cs,rfl,hsz⟩:=okWide_struct underlying92 hv
 obtain⟨fuel,hf⟩:=h
 obtain⟨c,h1,h3⟩:=aoi enc W fuel _ d ps hf hw
 refine⟨c,h1,.agg ?_ (fun i hi h0=>?_)⟩
 ·have:=h3.1
  simpa[Value.cells]using this
 ·have:=h3.2 i hi (by simpa[Value.cells]using h0)
  simpa[Value.cells]using this
end Go.Proofs.YtfpfdfhlljjckaaGreatDoor
