/- Texts of the claim. -/
import Derived.Lib.MinMaxS
import Derived.Test.YtmbmbhkemgmhfaaGreatDoorB2
import Derived.Test.YtmbmbhkemgmhfaaGreatDoorShelf
import Derived.Test.YtmbmbhkemgmhfaaGreatDoorQ2
namespace Go.Proofs.YtmbmbhkemgmhfaaGreatDoor
set_option maxRecDepth 1000000
set_option maxHeartbeats 0
set_option linter.unusedVariables false
set_option linter.unusedSimpArgs false
open Go.RowKit
theorem Rw{P:Program}{τ:Nat->AV}{η:bf}{d:Option Tmp}{ty:TypeId}{pos:String}{af:Array Edge}{g:Option (Nat×Bool)}{t:Nat}{x:Operand}{m r:Int}(hx:aev τ x=.v (.int .i64 m))(h1:-9223372036854775807<=m)(h2:m<=9223372036854775807)(hr:-m=r):LOp P ⟨d,.unOp .neg t x,ty,pos,af,g⟩ τ η [] [] (.v (.int .i64 r)):=by subst hr;exact js hx h1 h2
structure SdS where
 nu:Bool
 ot:Bool
 lo:Int
 hi:Int
 fr:ByteArray
 up:ByteArray
abbrev sdA(s:SdS):List AV:=[.v (.bool s.nu),.v (.bool s.ot),.v (.int .i64 s.lo),.v (.int .i64 s.hi),.v (.string s.fr),.v (.string s.up)]
theorem eh:RowF sdA 6:=⟨fun _=>rfl,fun _=>rfl,fun _ _=>rfl,fun _ _=>rfl,fun _ _=>rfl,fun _=>rfl⟩
def se(v:GVal):SdS:=if v.c_=2 then⟨false,true,0,0,v.d_,v.d_⟩else if v.c_=1 then⟨false,true,v.e_,v.e_,⟨#[]⟩,⟨#[]⟩⟩else⟨true,false,0,0,⟨#[]⟩,⟨#[]⟩⟩
theorem LOp.maxS{P:Program}{τ:Nat->AV}{η:bf}{d:Option Tmp}{ty:TypeId}{pos:String}{af:Array Edge}{g:Option (Nat×Bool)}{x y:Operand}{a b:ByteArray}{ats:Array TypeId}(hx:aev τ x=.v (.string a))(hy:aev τ y=.v (.string b)):
 LOp P ⟨d,.call {callee:=.builtin .max,args:=#[x,y],argTypes:=ats},ty,pos,af,g⟩ τ η [] [] (.v (.string (Lib.maxS a b))):=
 .look [] fun C a hg h0 _=>by
  have h1:=h0 x (by simp[Op.operands,Call.operands])
  have h2:=h0 y (by simp[Op.operands,Call.operands])
  rw[hx]at h1
  rw[hy]at h2
  have e1:=h1.v_inv
  have e2:=h2.v_inv
  refine⟨_,?_,VR.v C _⟩
  simp[execOp,e1,e2,resolve,invoke,builtin,Lib.run_max_strs]
theorem LOp.minS{P:Program}{τ:Nat->AV}{η:bf}{d:Option Tmp}{ty:TypeId}{pos:String}{af:Array Edge}{g:Option (Nat×Bool)}{x y:Operand}{a b:ByteArray}{ats:Array TypeId}(hx:aev τ x=.v (.string a))(hy:aev τ y=.v (.string b)):
 LOp P ⟨d,.call {callee:=.builtin .min,args:=#[x,y],argTypes:=ats},ty,pos,af,g⟩ τ η [] [] (.v (.string (Lib.minS a b))):=
 .look [] fun C a hg h0 _=>by
  have h1:=h0 x (by simp[Op.operands,Call.operands])
  have h2:=h0 y (by simp[Op.operands,Call.operands])
  rw[hx]at h1
  rw[hy]at h2
  have e1:=h1.v_inv
  have e2:=h2.v_inv
  refine⟨_,?_,VR.v C _⟩
  simp[execOp,e1,e2,resolve,invoke,builtin,Lib.run_min_strs]
abbrev tld(c:Nat):ByteArray:=⟨(Lib.repeatL [126] c).toArray⟩
theorem Px{c:Nat}(hc:c<=1000):eu Tryz.prog 39 [.v (.string ⟨#[126]⟩),.v (.int .i64 ((c:Nat):Int))] (.v (.string (tld c))):=by
 intro T w vals ⟨h2,hv⟩ hT
 have h0:=(hv 0 (by simp) (by simp at h2;omega)).v_inv
 have h1:=(hv 1 (by simp) (by simp at h2;omega)).v_inv
 have h3:vals=#[.string ⟨#[126]⟩,.int .i64 ((c:Nat):Int)]:=by
  have e0:vals[0]'(by simp at h2;omega)=.string ⟨#[126]⟩:=h0
  have e1:vals[1]'(by simp at h2;omega)=.int .i64 ((c:Nat):Int):=h1
  apply Array.ext
  ·simpa using h2.symm
  ·intro i hi h4
   have:i=0\/i=1:=by simp at h4;omega
   rcases this with rfl|rfl
   ·exact e0
   ·exact e1
 rw[h3]
 refine(Tryz.strings_Repeat ⟨#[126]⟩ c w (by omega) (by show 1*c<=_;omega)).mono ?_
 rintro e w' ⟨rfl,hb⟩
 exact⟨_,T,rfl,.v _,fun _ h=>h,fun _ h=>.inl h,fun b hb'=>Nat.lt_of_lt_of_le (hT b hb') hb.size,hb⟩
theorem aaf(w:ByteArray):Lib.maxS ⟨#[]⟩ w=w:=by
 unfold Lib.maxS
 split
 ·rfl
 next h=>
 obtain⟨⟨l⟩⟩:=w
 cases l with
 |nil=>rfl
 |cons a r=>exact absurd (List.nil_lt_cons a r) h
theorem aae(w:ByteArray):Lib.maxS w w=w:=by unfold Lib.maxS;split<;>rfl
theorem aac(w:ByteArray):Lib.minS w w=w:=by unfold Lib.minS;split<;>rfl
theorem Sg:∀(c:Nat) (l:List UInt8),l.length<=c->(∀b∈l,b.toNat<=126)->¬Lib.repeatL [126] c<l
 |0,l,h,_=>by
  have:l=[]:=ahm (by omega)
  subst this;exact List.not_lt_nil _
 |c+1,[],_,_=>List.not_lt_nil _
 |c+1,b::l,h,hb=>by
  intro h0
  rcases List.cons_lt_cons_iff.1 (show(126:UInt8)::Lib.repeatL [126] c<b::l from h0)with g|⟨_,g⟩
  ·have h1:=hb b (List.mem_cons_self ..)
   have h2:(126:UInt8).toNat<b.toNat:=UInt8.lt_iff_toNat_lt.1 g
   have h3:(126:UInt8).toNat=126:=rfl
   omega
  ·exact Sg c l (by simpa using h) (fun x hx=>hb x (List.mem_cons_of_mem _ hx)) g
theorem aab{c:Nat}{w:ByteArray}(hc:w.size<=c)(hp:PrT w):Lib.minS (tld c) w=w:=by
 unfold Lib.minS
 split
 ·next h=>
  rcases h with h|h
  ·refine absurd h (Sg c _ (by simpa using hc) fun b hb=>?_)
   obtain⟨k,hk,rfl⟩:=ahe hb
   have h0:k<w.data.size:=by simpa using hk
   have:=(hp k h0).2
   unfold bAt at this
   simp only[Array.getD,h0,dif_pos]at this
   simpa using this
  obtain⟨⟨l⟩⟩:=w
  have h:Lib.repeatL [126] c=l:=h
  subst h;rfl
 rfl
structure KS1 where
 k:Nat
 s:SdS
structure IsN(Is:List PCon)(N:List Int)(f:Int->Int):Prop where
 len:Is.length=N.length
 cs:∀i (h:i<Is.length) (h':i<N.length),Is[i].l.cs=[⟨N[i],1⟩]/\Is[i].l.k=-f N[i]/\Is[i].eq=true
structure TsN(Ts:List GTst)(N:List Int)(tx:Int->ByteArray):Prop where
 len:Ts.length=N.length
 ts:∀i (h:i<Ts.length) (h':i<N.length),Ts[i]=tE N[i] (tx N[i])
theorem Uq{N:List Int}{k:Nat}(h:k<N.length){j:Int}:(j∈N.take (k+1))↔j∈N.take k\/j=N[k]:=by
 rw[ag5 h,agz,agy]
theorem Pw{m:Int}{c:Nat}(hm:m=((c:Nat):Int))(hc:c<=1000):eu Tryz.prog 39 [.v (.string ⟨#[126]⟩),.v (.int .i64 m)] (.v (.string (tld c))):=by subst hm;exact Px hc
theorem zu{lo hi a:Int}(h1:lo<=a)(h2:a<=hi):({{(⟨false,true,lo,hi,⟨#[]⟩,⟨#[]⟩⟩:SdS)with hi:=min hi (- -a)}with lo:=max lo (- -a)}:SdS)=⟨false,true,a,a,⟨#[]⟩,⟨#[]⟩⟩:=by
 rw[Int.neg_neg,Int.min_eq_right h2,Int.max_eq_right h1]
def NrI(N:List Int)(j:Int)(base fin:SdS)(s:KS1):Prop:=(j∈N.take s.k->s.s=fin)/\(s.s=base\/s.s=fin)
theorem aeq{N:List Int}{j:Int}{base fin:SdS}:NrI N j base fin ⟨0,base⟩:=⟨fun h=>by simp at h,.inl rfl⟩
theorem Vk{N:List Int}{j:Int}{base fin:SdS}{s:KS1}(h:NrI N j base fin s)(hk:s.k<N.length)(h0:¬N[s.k]=j):NrI N j base fin ⟨s.k+1,s.s⟩:=
 ⟨fun hj=>h.1 ((Uq hk).1 hj|>.resolve_right fun e=>h0 e.symm),h.2⟩
theorem Ld{N:List Int}{j:Int}{base fin:SdS}{s:KS1}{s':SdS}(h:NrI N j base fin s)(hb:s.s=base->s'=fin)(hf:s.s=fin->s'=fin):NrI N j base fin ⟨s.k+1,s'⟩:=
 ⟨fun _=>h.2.elim hb hf,.inr (h.2.elim hb hf)⟩
theorem Le{N:List Int}{j:Int}{base fin:SdS}{s:KS1}(h:NrI N j base fin s)(hk:N.length<=s.k)(hj:j∈N):s.s=fin:=h.1 (by rw[ahl hk];exact hj)
theorem Bp:c9 Tryz.prog 57=some (some 6):=by kernel_rfl
theorem G1(a:Int)(ha:-2147483648<=a/\a<=2147483648):PRet Tryz.prog 41 [.v (.int .i64 a),.v (.int .i64 1)] (fun q=>q=.v (.int .i64 a)):=by
 refine ovT [] [] Tryz.func41 rfl rfl (OpG.lk (lP rfl (fun _ _=>nofun) (fun _=>rfl)) ?_)
 refine OpG.lk (lP rfl (fun _ _=>nofun) (fun _=>rfl)) (cB (fun h0=>?_) (fun h0=>?_))
 ·exfalso;simp at h0
 refine rV rfl rfl ?_
 show AV.v (.int .i64 (IntKind.i64.wrap (Int.tdiv a 1)))=_
 rw[Int.tdiv_one,IntKind.wrap_i64];congr 2;omega
theorem Z8(s:SdS)(k:Int)(hk:-2147483648<=k/\k<=2147483648):PRet Tryz.prog 29 [.agg (sdA s),.v (.int .i64 1),.v (.int .i64 k)] (fun q=>q=.agg (sdA {s with hi:=min s.hi (-k)})):=by
 refine ovT [13,16] [] Tryz.func29 rfl rfl (cT ?_)
 refine OpG.lk (js rfl (by omega) (by omega)) (ArgG.mk (G1 _ (by omega)) rfl ?_)
 rintro _ rfl
 refine OpG.lk (rl rfl rfl) ⟨by kernel_rfl,⟨.inr rfl,_,Og.cell rfl Bp rfl rfl rfl rfl rfl ⟨[],FzP.pure rfl⟩,?_⟩⟩
 rfl
theorem Z7(s:SdS)(k:Int)(hk:-2147483648<=k/\k<=2147483648):PRet Tryz.prog 29 [.agg (sdA s),.v (.int .i64 (-1)),.v (.int .i64 k)] (fun q=>q=.agg (sdA {s with lo:=max s.lo k})):=by
 refine ovT [24,26,28,29] [] Tryz.func29 rfl rfl (cF ?_)
 refine cT (OpG.lk (js rfl (by omega) (by omega)) ?_)
 refine OpG.lk (Rw (r:=1) rfl (by decide) (by decide) (by decide)) (ArgG.mk (G1 _ (by omega)) rfl ?_)
 rintro _ rfl
 refine OpG.lk (js rfl (by omega) (by omega)) (OpG.lk (Hz (r:=max s.lo k) rfl rfl (by rw[Int.neg_neg])) ?_)
 refine⟨by kernel_rfl,⟨.inr rfl,_,Og.cell rfl Bp rfl rfl rfl rfl rfl ⟨[],FzP.pure rfl⟩,?_⟩⟩
 rfl
theorem Mg(M:List Int)(hM:fy M (fun y=>True))(v:Int):PRet Tryz.prog 27 [.tree 1 (M.map iA),.v (.int .i64 v)] (fun q=>∃b:Bool,q=.v (.bool b)/\(b=true↔v∈M)):=by
 refine ovT [] [] Tryz.func27 rfl rfl (LenG.of ?_)
 refine LpG.on (fun k0:Nat=>(⟨fL [(1,.v (.int .i64 v)),(7,.tree 1 (M.map iA)),(8,.v (.int .i64 ((M.length:Nat):Int))),(9,.v (.int .i64 ((k0:Nat):Int)))],hLz [],0⟩:St)) (fun k0=>(M.length-k0)) (fun k0=>(k0<=M.length/\∀j (hl:j<M.length),j<k0->M[j]≠v)) 0 (cO (.cons rfl rfl (.cons rfl rfl (.cons rfl rfl (.cons rfl rfl .nil)))) .nil) ⟨ag6 _,fun j _ h=>absurd h (ag7 j)⟩ ?_
 rintro k0 h2
 have hgr_k0:M.length<=140737488355328:=hM.1
 obtain⟨hle_k0,h0⟩:=h2
 refine cL (fun hlt10=>?_) (fun hge10=>?_)
 ·refine IdxG.of ‹_› (cE (fun h1=>?_) (fun h1=>?_))
  ·exact rV rfl rfl ⟨_,rfl,fun _=>by rw[<-show M[k0]=v from h1];exact agt _,fun _=>rfl⟩
  refine⟨by omega,⟨(k0+1),by omega,(cO (.cons rfl rfl (.cons rfl rfl (.cons rfl rfl (.cons rfl rfl .nil)))) .nil),?_⟩⟩
  refine⟨by omega,fun j hl h=>?_⟩
  rcases ag9.1 h with h|rfl
  ·exact h0 j hl h
  exact fun e=>h1 e
 exact rV rfl rfl ⟨_,rfl,fun h=>absurd h ahr,fun h=>by obtain⟨j,hj,e⟩:=ahe h;exact absurd e (h0 j hj (by omega))⟩
theorem Hk(s:SdS)(x:PVar)(j Mx:Nat)(nu M N:List Int)(Is:List PCon)(Ts:List GTst)(tx:Int->ByteArray)(hx:x.mx=((Mx:Nat):Int))(hMx:Mx<=16)(h9:TsN Ts N tx)(hj:((j:Nat):Int)∈N)(hNl:N.length<=1000)(hc:(tx ((j:Nat):Int)).size<=Mx)(hp:PrT (tx ((j:Nat):Int)))(hd:s.fr=⟨#[]⟩):PRet Tryz.prog 28 [.agg (sdA s),.agg (vA x),.v (.int .i64 ((j:Nat):Int)),.agg (clX nu M Is Ts)] (fun q=>q=.agg (sdA ⟨s.nu,s.ot,0,0,tx ((j:Nat):Int),tx ((j:Nat):Int)⟩)):=by
 have htl:=h9.len
 refine ovT [43,48] [] Tryz.func28 rfl rfl (ArgG.mk (PRet.of_call (Pw hx (by omega))) rfl ?_)
 rintro _ rfl
 refine LenG.of (LpG.on (fun k0:KS1=>(⟨fL [(2,.v (.int .i64 ((j:Nat):Int))),(4,.ptr 0 0 0),(5,.ptr 1 0 0),(8,.ptr 3 0 0),(20,.tree 4 (Ts.map tsA)),(21,.v (.int .i64 ((Ts.length:Nat):Int))),(22,.v (.int .i64 ((k0.k:Nat):Int)))],hLz [(0,⟨0,sdA k0.s,0,false⟩),(1,⟨0,vA x,0,false⟩),(2,⟨0,clX nu M Is Ts,0,false⟩),(3,⟨0,sdA ⟨false,false,0,0,⟨#[]⟩,⟨#[]⟩⟩,0,false⟩)],4⟩:St)) (fun k0=>(Ts.length-k0.k)) (fun k0=>(k0.k<=Ts.length/\NrI N ((j:Nat):Int) ⟨s.nu,s.ot,0,0,s.fr,tld Mx⟩ ⟨s.nu,s.ot,0,0,tx ((j:Nat):Int),tx ((j:Nat):Int)⟩ k0)) (⟨0,⟨s.nu,s.ot,0,0,s.fr,tld Mx⟩⟩:KS1) (cO (.cons rfl rfl (.cons rfl rfl (.cons rfl rfl (.cons rfl rfl (.cons rfl rfl (.cons rfl rfl (.cons rfl rfl .nil))))))) (.cons rfl rfl rfl (.cons rfl rfl rfl (.cons rfl rfl rfl (.cons rfl rfl rfl .nil))))) ⟨ag6 _,aeq⟩ ?_)
 rintro k0 h5
 obtain⟨hle_k0,h0⟩:=h5
 refine cL (fun h4=>?_) (fun hge23=>?_)
 ·have ha:k0.k<N.length:=by omega
  have he:=h9.ts k0.k h4 ha
  refine IdxG.of ‹_› (cB (fun h1=>?_) (fun h1=>?_))
  ·have h6:¬((Ts[k0.k].h_:Int)=((j:Nat):Int)):=by simpa using h1
   have hf:¬N[k0.k]=((j:Nat):Int):=by have h:=h1;rw[he]at h;simpa using h
   refine⟨by omega,⟨(⟨k0.k+1,k0.s⟩:KS1),(by show Ts.length-(k0.k+1)<Ts.length-k0.k;omega),(cO (.cons rfl rfl (.cons rfl rfl (.cons rfl rfl (.cons rfl rfl (.cons rfl rfl (.cons rfl rfl (.cons rfl rfl .nil))))))) (.cons rfl rfl rfl (.cons rfl rfl rfl (.cons rfl rfl rfl (.cons rfl rfl rfl .nil))))),?_⟩⟩
   exact⟨by show k0.k+1<=_;omega,Vk h0 ha hf⟩
  have h6:(Ts[k0.k].h_:Int)=((j:Nat):Int):=by simpa using h1
  have hb:N[k0.k]=((j:Nat):Int):=by have h:=h1;rw[he]at h;simpa using h
  refine cB (fun h2=>?_) (fun h2=>?_)
  ·have h7:(Ts[k0.k].c_:Int)=(0:Int):=by simpa using h2
   refine cB (fun h3=>?_) (fun h3=>?_)
   ·refine OpG.lk (LOp.maxS rfl rfl) (OpG.lk (LOp.minS rfl rfl) ?_)
    refine⟨by kernel_rfl,⟨by omega,?_⟩⟩
    refine⟨(⟨k0.k+1,{k0.s with fr:=Lib.maxS k0.s.fr Ts[k0.k].d_,up:=Lib.minS k0.s.up Ts[k0.k].d_}⟩:KS1),(by show Ts.length-(k0.k+1)<Ts.length-k0.k;omega),(cO (.cons rfl rfl (.cons rfl rfl (.cons rfl rfl (.cons rfl rfl (.cons rfl rfl (.cons rfl rfl (.cons rfl rfl .nil))))))) (.cons rfl rfl rfl (.cons rfl rfl rfl (.cons rfl rfl rfl (.cons rfl rfl rfl .nil))))),⟨by show k0.k+1<=_;omega,?_⟩⟩
    exact Ld h0 (fun e=>by rw[e,he,hb,hd];simp only[tE,aaf,aab hc hp]) (fun e=>by rw[e,he,hb];simp only[tE,aae,aac])
   exfalso;rw[he]at h3;simp at h3
  have h7:¬((Ts[k0.k].c_:Int)=(0:Int)):=by simpa using h2
  exfalso;rw[he]at h2;simp at h2
 refine⟨.inr rfl,_,Og.cell rfl Bp rfl rfl rfl rfl rfl ⟨[],FzP.pure rfl⟩,?_⟩
 have h8:=Le h0 (by omega) hj
 show AV.agg (sdA k0.s)=_
 rw[h8]
theorem Uy(x:PVar)(j:Nat)(nu M:List Int)(Is:List PCon)(Ts:List GTst)(hnl:nu.length<=1000)(hml:M.length<=1000)(h0:((j:Nat):Int)∈nu):PRet Tryz.prog 21 [.agg (vA x),.v (.int .i64 ((j:Nat):Int)),.agg (clX nu M Is Ts)] (fun q=>q=.agg (sdA ⟨true,false,0,0,⟨#[]⟩,⟨#[]⟩⟩)):=by
 refine ovT [] [] Tryz.func21 rfl rfl (ArgG.mk (Mg nu ⟨by omega,fun _ _=>trivial⟩ ((j:Nat):Int)) rfl ?_)
 rintro _ ⟨b0,rfl,h2⟩
 refine cB (fun h1=>?_) (fun h1=>?_)
 ·refine⟨.inr rfl,_,Og.cell rfl Bp rfl rfl rfl rfl rfl ⟨[],FzP.pure rfl⟩,?_⟩
  rfl
 exact absurd (h1.symm.trans (h2.2 h0)) ahr
theorem Mi{M:List Int}(hM:fy M (fun _=>True)){v:Int}(h:v∈M):PRet Tryz.prog 27 [.tree 1 (M.map iA),.v (.int .i64 v)] (fun q=>q=.v (.bool true)):=(Mg M hM v).mono fun _ ⟨b,hq,hb⟩=>by rw[hq,hb.2 h]
theorem Mh{M:List Int}(hM:fy M (fun _=>True)){v:Int}(h:v∉M):PRet Tryz.prog 27 [.tree 1 (M.map iA),.v (.int .i64 v)] (fun q=>q=.v (.bool false)):=(Mg M hM v).mono fun _ ⟨b,hq,hb⟩=>by
 cases b with
 |false=>exact hq
 |true=>exact absurd (hb.1 rfl) h
theorem S5{s:SdS}{a k:Int}(ha:a=1)(hk:-2147483648<=k/\k<=2147483648):PRet Tryz.prog 29 [.agg (sdA s),.v (.int .i64 a),.v (.int .i64 k)] (fun q=>q=.agg (sdA {s with hi:=min s.hi (-k)})):=by subst ha;exact Z8 s k hk
theorem S4{s:SdS}{a k:Int}(ha:a=-1)(hk:-2147483648<=k/\k<=2147483648):PRet Tryz.prog 29 [.agg (sdA s),.v (.int .i64 a),.v (.int .i64 k)] (fun q=>q=.agg (sdA {s with lo:=max s.lo k})):=by subst ha;exact Z7 s k hk
theorem Ux(x:PVar)(j:Nat)(nu M:List Int)(Is:List PCon)(Ts:List GTst)(hnl:nu.length<=1000)(hml:M.length<=1000)(h0:((j:Nat):Int)∉nu)(hj:((j:Nat):Int)∈M)(N:List Int)(f:Int->Int)(ht:x.t=1)(hm:IsN Is N f)(hr:((j:Nat):Int)∈N)(hNl:N.length<=1000)(hf:x.lo<=f ((j:Nat):Int)/\f ((j:Nat):Int)<=x.hi)(hb:-2147483648<=f ((j:Nat):Int)/\f ((j:Nat):Int)<=2147483647):PRet Tryz.prog 21 [.agg (vA x),.v (.int .i64 ((j:Nat):Int)),.agg (clX nu M Is Ts)] (fun q=>q=.agg (sdA ⟨false,true,f ((j:Nat):Int),f ((j:Nat):Int),⟨#[]⟩,⟨#[]⟩⟩)):=by
 have hil:=hm.len
 refine ovT [79,83] [] Tryz.func21 rfl rfl (ArgG.mk (Mh (M:=nu) ⟨by omega,fun _ _=>trivial⟩ h0) rfl ?_)
 rintro _ rfl
 refine cF (cB (fun hn=>?_) (fun hn=>?_))
 ·refine ArgG.mk (Mi (M:=M) ⟨by omega,fun _ _=>trivial⟩ hj) rfl ?_
  rintro _ rfl
  refine⟨by kernel_rfl,cB (fun h4=>?_) (fun h4=>?_)⟩
  ·exfalso;rw[ht]at h4;simp at h4
  have ho:¬((x.t:Int)=(2:Int)):=by simpa using h4
  refine LenG.of (LpG.on (fun k0:KS1=>(⟨fL [(1,.v (.int .i64 ((j:Nat):Int))),(6,.ptr 2 0 0),(7,.ptr 3 0 0),(38,.tree 3 (Is.map cnA)),(39,.v (.int .i64 ((Is.length:Nat):Int))),(40,.v (.int .i64 ((k0.k:Nat):Int)))],hLz [(0,⟨0,vA x,0,false⟩),(1,⟨0,clX nu M Is Ts,0,false⟩),(2,⟨0,sdA ⟨false,false,0,0,⟨#[]⟩,⟨#[]⟩⟩,0,false⟩),(3,⟨0,sdA k0.s,0,false⟩)],4⟩:St)) (fun k0=>(Is.length-k0.k)) (fun k0=>(k0.k<=Is.length/\NrI N ((j:Nat):Int) ⟨false,true,x.lo,x.hi,⟨#[]⟩,⟨#[]⟩⟩ ⟨false,true,f ((j:Nat):Int),f ((j:Nat):Int),⟨#[]⟩,⟨#[]⟩⟩ k0)) (⟨0,⟨false,true,x.lo,x.hi,⟨#[]⟩,⟨#[]⟩⟩⟩:KS1) (cO (.cons rfl rfl (.cons rfl rfl (.cons rfl rfl (.cons rfl rfl (.cons rfl rfl (.cons rfl rfl .nil)))))) (.cons rfl rfl rfl (.cons rfl rfl rfl (.cons rfl rfl rfl (.cons rfl rfl rfl .nil))))) ⟨ag6 _,aeq⟩ ?_)
  rintro k0 h8
  obtain⟨h9,h1⟩:=h8
  refine cL (fun h5=>?_) (fun hk=>?_)
  ·have hl:k0.k<N.length:=by omega
   obtain⟨ha,hc,hd⟩:=hm.cs k0.k h5 hl
   have h0c:0<Is[k0.k].l.cs.length:=by rw[ha];exact Nat.zero_lt_one
   obtain⟨_,h6⟩:=ahn.1 (show Is[k0.k].l.cs[0]? =some ⟨N[k0.k],1⟩by rw[ha];rfl)
   have hs:Is[k0.k].l.cs[0].n=1:=by rw[h6]
   refine IdxG.of ‹_› (LenG.of ?_)
   refine cB (fun h2=>?_) (fun h2=>?_)
   ·have he:¬(((Is[k0.k].l.cs.length:Nat):Int)=(1:Int)):=by simpa using h2
    exfalso;rw[ha]at h2;simp at h2
   have he:((Is[k0.k].l.cs.length:Nat):Int)=(1:Int):=by simpa using h2
   refine IdxG.of (j:=0) ‹_› (cB (fun h3=>?_) (fun h3=>?_))
   ·have hg:¬((Is[k0.k].l.cs[0].v:Int)=((j:Nat):Int)):=by simpa using h3
    have hp:¬N[k0.k]=((j:Nat):Int):=by have h:=h3;rw[h6]at h;simpa using h
    refine⟨by omega,⟨(⟨k0.k+1,k0.s⟩:KS1),(by show Is.length-(k0.k+1)<Is.length-k0.k;omega),(cO (.cons rfl rfl (.cons rfl rfl (.cons rfl rfl (.cons rfl rfl (.cons rfl rfl (.cons rfl rfl .nil)))))) (.cons rfl rfl rfl (.cons rfl rfl rfl (.cons rfl rfl rfl (.cons rfl rfl rfl .nil))))),?_⟩⟩
    exact⟨by show k0.k+1<=_;omega,Vk h1 hl hp⟩
   have hg:(Is[k0.k].l.cs[0].v:Int)=((j:Nat):Int):=by simpa using h3
   have hq:N[k0.k]=((j:Nat):Int):=by have h:=h3;rw[h6]at h;simpa using h
   rw[hq]at hc
   refine IdxG.of (j:=0) ‹_› (ArgG.mk (S5 (s:=k0.s) (by rw[h6]) (by omega)) rfl ?_)
   rintro _ rfl
   refine⟨by kernel_rfl,cB (fun h7=>?_) (fun h7=>?_)⟩
   ·refine IdxG.of (j:=0) ‹_› (OpG.lk (js rfl (by omega) (by omega)) ?_)
    refine OpG.lk (js rfl (by omega) (by omega)) (ArgG.mk (S4 (s:={k0.s with hi:=min k0.s.hi (-Is[k0.k].l.k)}) (by rw[h6]) (by omega)) rfl ?_)
    rintro _ rfl
    refine⟨by kernel_rfl,⟨by omega,?_⟩⟩
    refine⟨(⟨k0.k+1,{{k0.s with hi:=min k0.s.hi (-Is[k0.k].l.k)}with lo:=max k0.s.lo (-Is[k0.k].l.k)}⟩:KS1),(by show Is.length-(k0.k+1)<Is.length-k0.k;omega),(cO (.cons rfl rfl (.cons rfl rfl (.cons rfl rfl (.cons rfl rfl (.cons rfl rfl (.cons rfl rfl .nil)))))) (.cons rfl rfl rfl (.cons rfl rfl rfl (.cons rfl rfl rfl (.cons rfl rfl rfl .nil))))),⟨by show k0.k+1<=_;omega,?_⟩⟩
    exact Ld h1 (fun e=>by rw[e,hc];exact zu hf.1 hf.2) (fun e=>by rw[e,hc];exact zu (Int.le_refl _) (Int.le_refl _))
   exact absurd (hd.symm.trans h7) Bool.noConfusion
  refine⟨.inr rfl,_,Og.cell rfl Bp rfl rfl rfl rfl rfl ⟨[],FzP.pure rfl⟩,?_⟩
  have hh:=Le h1 (by omega) hr
  show AV.agg (sdA k0.s)=_
  rw[hh]
 refine⟨by kernel_rfl,cB (fun h4=>?_) (fun h4=>?_)⟩
 ·exfalso;rw[ht]at h4;simp at h4
 have ho:¬((x.t:Int)=(2:Int)):=by simpa using h4
 refine LenG.of (LpG.on (fun k0:KS1=>(⟨fL [(1,.v (.int .i64 ((j:Nat):Int))),(6,.ptr 2 0 0),(7,.ptr 3 0 0),(38,.tree 3 (Is.map cnA)),(39,.v (.int .i64 ((Is.length:Nat):Int))),(40,.v (.int .i64 ((k0.k:Nat):Int)))],hLz [(0,⟨0,vA x,0,false⟩),(1,⟨0,clX nu M Is Ts,0,false⟩),(2,⟨0,sdA ⟨false,false,0,0,⟨#[]⟩,⟨#[]⟩⟩,0,false⟩),(3,⟨0,sdA k0.s,0,false⟩)],4⟩:St)) (fun k0=>(Is.length-k0.k)) (fun k0=>(k0.k<=Is.length/\NrI N ((j:Nat):Int) ⟨false,true,x.lo,x.hi,⟨#[]⟩,⟨#[]⟩⟩ ⟨false,true,f ((j:Nat):Int),f ((j:Nat):Int),⟨#[]⟩,⟨#[]⟩⟩ k0)) (⟨0,⟨false,true,x.lo,x.hi,⟨#[]⟩,⟨#[]⟩⟩⟩:KS1) (cO (.cons rfl rfl (.cons rfl rfl (.cons rfl rfl (.cons rfl rfl (.cons rfl rfl (.cons rfl rfl .nil)))))) (.cons rfl rfl rfl (.cons rfl rfl rfl (.cons rfl rfl rfl (.cons rfl rfl rfl .nil))))) ⟨ag6 _,aeq⟩ ?_)
 rintro k0 h8
 obtain⟨h9,h1⟩:=h8
 refine cL (fun h5=>?_) (fun hk=>?_)
 ·have hl:k0.k<N.length:=by omega
  obtain⟨ha,hc,hd⟩:=hm.cs k0.k h5 hl
  have h0c:0<Is[k0.k].l.cs.length:=by rw[ha];exact Nat.zero_lt_one
  obtain⟨_,h6⟩:=ahn.1 (show Is[k0.k].l.cs[0]? =some ⟨N[k0.k],1⟩by rw[ha];rfl)
  have hs:Is[k0.k].l.cs[0].n=1:=by rw[h6]
  refine IdxG.of ‹_› (LenG.of ?_)
  refine cB (fun h2=>?_) (fun h2=>?_)
  ·have he:¬(((Is[k0.k].l.cs.length:Nat):Int)=(1:Int)):=by simpa using h2
   exfalso;rw[ha]at h2;simp at h2
  have he:((Is[k0.k].l.cs.length:Nat):Int)=(1:Int):=by simpa using h2
  refine IdxG.of (j:=0) ‹_› (cB (fun h3=>?_) (fun h3=>?_))
  ·have hg:¬((Is[k0.k].l.cs[0].v:Int)=((j:Nat):Int)):=by simpa using h3
   have hp:¬N[k0.k]=((j:Nat):Int):=by have h:=h3;rw[h6]at h;simpa using h
   refine⟨by omega,⟨(⟨k0.k+1,k0.s⟩:KS1),(by show Is.length-(k0.k+1)<Is.length-k0.k;omega),(cO (.cons rfl rfl (.cons rfl rfl (.cons rfl rfl (.cons rfl rfl (.cons rfl rfl (.cons rfl rfl .nil)))))) (.cons rfl rfl rfl (.cons rfl rfl rfl (.cons rfl rfl rfl (.cons rfl rfl rfl .nil))))),?_⟩⟩
   exact⟨by show k0.k+1<=_;omega,Vk h1 hl hp⟩
  have hg:(Is[k0.k].l.cs[0].v:Int)=((j:Nat):Int):=by simpa using h3
  have hq:N[k0.k]=((j:Nat):Int):=by have h:=h3;rw[h6]at h;simpa using h
  rw[hq]at hc
  refine IdxG.of (j:=0) ‹_› (ArgG.mk (S5 (s:=k0.s) (by rw[h6]) (by omega)) rfl ?_)
  rintro _ rfl
  refine⟨by kernel_rfl,cB (fun h7=>?_) (fun h7=>?_)⟩
  ·refine IdxG.of (j:=0) ‹_› (OpG.lk (js rfl (by omega) (by omega)) ?_)
   refine OpG.lk (js rfl (by omega) (by omega)) (ArgG.mk (S4 (s:={k0.s with hi:=min k0.s.hi (-Is[k0.k].l.k)}) (by rw[h6]) (by omega)) rfl ?_)
   rintro _ rfl
   refine⟨by kernel_rfl,⟨by omega,?_⟩⟩
   refine⟨(⟨k0.k+1,{{k0.s with hi:=min k0.s.hi (-Is[k0.k].l.k)}with lo:=max k0.s.lo (-Is[k0.k].l.k)}⟩:KS1),(by show Is.length-(k0.k+1)<Is.length-k0.k;omega),(cO (.cons rfl rfl (.cons rfl rfl (.cons rfl rfl (.cons rfl rfl (.cons rfl rfl (.cons rfl rfl .nil)))))) (.cons rfl rfl rfl (.cons rfl rfl rfl (.cons rfl rfl rfl (.cons rfl rfl rfl .nil))))),⟨by show k0.k+1<=_;omega,?_⟩⟩
   exact Ld h1 (fun e=>by rw[e,hc];exact zu hf.1 hf.2) (fun e=>by rw[e,hc];exact zu (Int.le_refl _) (Int.le_refl _))
  exact absurd (hd.symm.trans h7) Bool.noConfusion
 refine⟨.inr rfl,_,Og.cell rfl Bp rfl rfl rfl rfl rfl ⟨[],FzP.pure rfl⟩,?_⟩
 have hh:=Le h1 (by omega) hr
 show AV.agg (sdA k0.s)=_
 rw[hh]
theorem Uw(x:PVar)(j:Nat)(nu M:List Int)(Is:List PCon)(Ts:List GTst)(hnl:nu.length<=1000)(hml:M.length<=1000)(h0:((j:Nat):Int)∉nu)(hj:((j:Nat):Int)∈M)(N:List Int)(tx:Int->ByteArray)(Mx:Nat)(ht:x.t=2)(hx:x.mx=((Mx:Nat):Int))(h4:Mx<=16)(h5:TsN Ts N tx)(h6:((j:Nat):Int)∈N)(h7:N.length<=1000)(h8:(tx ((j:Nat):Int)).size<=Mx)(hp:PrT (tx ((j:Nat):Int))):PRet Tryz.prog 21 [.agg (vA x),.v (.int .i64 ((j:Nat):Int)),.agg (clX nu M Is Ts)] (fun q=>q=.agg (sdA ⟨false,true,0,0,tx ((j:Nat):Int),tx ((j:Nat):Int)⟩)):=by
 refine ovT [] [] Tryz.func21 rfl rfl (ArgG.mk (Mh (M:=nu) ⟨by omega,fun _ _=>trivial⟩ h0) rfl ?_)
 rintro _ rfl
 refine cF (cB (fun h2=>?_) (fun h2=>?_))
 ·refine ArgG.mk (Mi (M:=M) ⟨by omega,fun _ _=>trivial⟩ hj) rfl ?_
  rintro _ rfl
  refine⟨by kernel_rfl,cB (fun h1=>?_) (fun h1=>?_)⟩
  ·have h3:(x.t:Int)=(2:Int):=by simpa using h1
   refine ArgG.mk (Hk ⟨false,true,x.lo,x.hi,⟨#[]⟩,⟨#[]⟩⟩ x j Mx nu M N Is Ts tx hx h4 h5 h6 h7 h8 hp rfl) rfl ?_
   rintro _ rfl
   refine⟨.inr rfl,_,Og.cell rfl Bp rfl rfl rfl rfl rfl ⟨[],FzP.pure rfl⟩,?_⟩
   rfl
  exfalso;rw[ht]at h1;simp at h1
 refine⟨by kernel_rfl,cB (fun h1=>?_) (fun h1=>?_)⟩
 ·have h3:(x.t:Int)=(2:Int):=by simpa using h1
  refine ArgG.mk (Hk ⟨false,true,x.lo,x.hi,⟨#[]⟩,⟨#[]⟩⟩ x j Mx nu M N Is Ts tx hx h4 h5 h6 h7 h8 hp rfl) rfl ?_
  rintro _ rfl
  refine⟨.inr rfl,_,Og.cell rfl Bp rfl rfl rfl rfl rfl ⟨[],FzP.pure rfl⟩,?_⟩
  rfl
 exfalso;rw[ht]at h1;simp at h1
theorem Oc{α:Type}{f:α->List AV}{η:bf}{q:Nat}{S:List α}:Src η [] (.tree q (S.map f)) S.length (rF f S):=by
 have h:=Src.tree (η:=η) (n:=q) (xs:=S.map f)
 rw[ag0]at h;exact h
theorem r9(w:World)(d:Nat)(e:TypeId)(x y:Bool)(hu:Tryz.prog.underlying e=some .bool):(Op.equalIn (d+1) e (.bool x) (.bool y)).run Tryz.prog w=.ok (x==y) w:=run_equalIn_bool w d e x y hu
theorem Qz(s t:SdS)(w:World):(Op.equalIn 10000 52 (.agg #[.bool s.nu,.bool s.ot,.int .i64 s.lo,.int .i64 s.hi,.string s.fr,.string s.up]) (.agg #[.bool t.nu,.bool t.ot,.int .i64 t.lo,.int .i64 t.hi,.string t.fr,.string t.up])).run Tryz.prog w=.ok (s.nu==t.nu&&(s.ot==t.ot&&(s.lo==t.lo&&(s.hi==t.hi&&(s.fr.toList==t.fr.toList&&s.up.toList==t.up.toList))))) w:=by
 rw[run_equalIn_agg w 9999 52 _ _ (show Tryz.prog.underlying 52=some (.struct (Tryz.prog.fieldsOf 52))by kernel_rfl) (by kernel_rfl)]
 simp only[Program.fieldsOf,Tryz.underlying52]
 simp[Op.eqFields,part,r9 _ 9998 4 _ _ Tryz.underlying4,run_equalIn_int _ 9998 2 _ _ _ _ Tryz.underlying2,run_equalIn_string _ 9998 9 _ _ Tryz.underlying9,Mf]
theorem egSd:Tryz.prog.eqGuardType Tryz.prog.depth 52=false:=by kernel_rfl
theorem Ry{τ:Nat->AV}{η:bf}{d:Option Tmp}{ty:TypeId}{pos:String}{af:Array Edge}{g:Option (Nat×Bool)}{t':Nat}{x y:Operand}{s:SdS}(hx:aev τ x=.agg (sdA s))(hy:aev τ y=.agg (sdA s)):
 LOp Tryz.prog ⟨d,.binOp .neq 52 x y t',ty,pos,af,g⟩ τ η [] [] (.v (.bool false)):=
 .look [] fun C a _ hq _=>by
  have e1:=hq x (by simp[Op.operands])
  have e2:=hq y (by simp[Op.operands])
  rw[hx]at e1
  rw[hy]at e2
  have f1:=rx (y:=.agg #[.bool s.nu,.bool s.ot,.int .i64 s.lo,.int .i64 s.hi,.string s.fr,.string s.up]) e1 rfl
  have f2:=rx (y:=.agg #[.bool s.nu,.bool s.ot,.int .i64 s.lo,.int .i64 s.hi,.string s.fr,.string s.up]) e2 rfl
  refine⟨_,?_,VR.v C _⟩
  simp only[execOp,f1,f2,Sem.run_bind,run_eqGuard_agg C.w .neq 52 x y _ _ egSd,ahc,run_neq_struct,Qz,ahd,BEq.rfl,Bool.and_self,Bool.not_true]
theorem M7{β:Type}{f:GVal->Int->List β}{w:List GVal}{x:β}{j:Nat}:∀{k:Nat},j<k->x∈f (w.getD j zV) ((j:Nat):Int)->x∈exL f w k
 |0,h,_=>absurd h (ag7 _)
 |k+1,h,hx=>by
  by_cases e:j=k
  ·subst e;exact List.mem_append_right _ hx
  ·exact List.mem_append_left _ (M7 (by omega) hx)
theorem Pq{l:List PVar}{w:List GVal}(hb:Bel l w)(h5:LOk l)(h8:l.length<=8){j:Nat}(hj:j<w.length)(h1:j<l.length):PRet Tryz.prog 21 [.agg (vA l[j]),.v (.int .i64 ((j:Nat):Int)),.agg (clA (exC w))] (fun q=>q=.agg (sdA (se w[j]))):=by
 have hwl:=hb.1
 have hM:=aaa w
 have hml:=hM.len
 have h6:∀k,(exL nOf w k).length<=k:=fun k=>by
  induction k with
  |zero=>exact ag8 _
  |succ k ih=>
   show(exL nOf w k++_).length<=k+1
   rw[agx]
   have:(nOf (w.getD k zV) ((k:Nat):Int)).length<=1:=by unfold nOf;split<;>simp
   omega
 have hnl:=h6 w.length
 have hIl:((MM w).filter (isI l)).length<=(MM w).length:=List.length_filter_le ..
 have hTl:((MM w).filter (isT l)).length<=(MM w).length:=List.length_filter_le ..
 have h3:=gW hj
 have hg:=gD (l:=l) (v:=((j:Nat):Int)) rfl h1
 have hlj:=h5 _ (agt h1)
 have h4:w[j].c_≠0->((j:Nat):Int)∉exL nOf w w.length:=fun hk h=>by
  obtain⟨i,hi,h⟩:=sv h
  rw[gW hi]at h
  obtain⟨e,h0⟩:=Ln h
  have:i=j:=by omega
  subst this;exact hk h0
 have h2:w[j].c_≠0->((j:Nat):Int)∈MM w:=fun hk=>M7 hj (by rw[h3];unfold mOf;rw[ag1 hk];exact agy.2 rfl)
 rw[abv hb]
 rcases sq (hb.2 j hj h1)with g|g|g
 ·have e:se w[j]=⟨true,false,0,0,⟨#[]⟩,⟨#[]⟩⟩:=by unfold se;rw[ag1 (by omega),ag1 (by omega)]
  rw[e]
  exact Uy _ j _ _ _ _ (by omega) (by omega) (M7 hj (by rw[h3];unfold nOf;rw[ag2 g.1];exact agy.2 rfl))
 ·have ei:inO w ((j:Nat):Int)=w[j].e_:=by simp[inO,List.getD,hj]
  have e:se w[j]=⟨false,true,inO w ((j:Nat):Int),inO w ((j:Nat):Int),⟨#[]⟩,⟨#[]⟩⟩:=by unfold se;rw[ag1 (by omega),ag2 g.1,ei]
  rw[e]
  refine Ux _ j _ _ _ _ (by omega) (by omega) (h4 (by omega)) (h2 (by omega)) ((MM w).filter (isI l)) (inO w) g.2.1 ⟨by simp,fun i h h'=>by simp⟩ (List.mem_filter.2 ⟨h2 (by omega),?_⟩) (by omega) (by rw[ei];exact g.2.2) (by rw[ei];omega)
  show decide ((l.getD _ default).t=1)=true
  rw[hg];exact decide_eq_true g.2.1
 have et:txO w ((j:Nat):Int)=w[j].d_:=by simp[txO,List.getD,hj]
 have e:se w[j]=⟨false,true,0,0,txO w ((j:Nat):Int),txO w ((j:Nat):Int)⟩:=by unfold se;rw[ag2 g.1,et]
 rw[e]
 have hf:=fit2 (hb.2 j hj h1) g.1
 refine Uw _ j _ _ _ _ (by omega) (by omega) (h4 (by omega)) (h2 (by omega)) ((MM w).filter (isT l)) (txO w) l[j].mx.toNat g.2.1 (by omega) (by omega) ⟨by simp,fun i h h'=>by simp⟩ (List.mem_filter.2 ⟨h2 (by omega),?_⟩) (by omega) (by rw[et];omega) (by rw[et];exact hf.2)
 show decide ((l.getD _ default).t=2)=true
 rw[hg];exact decide_eq_true g.2.1
theorem ue{w:List GVal}{L:List SdS}{k:Nat}{s:SdS}(h:L=(w.map se).take k)(hk:k<w.length)(hs:s=se w[k]):L++[s]=(w.map se).take (k+1):=by
 have h0:k<(w.map se).length:=by simpa using hk
 rw[ag5 h0,h,hs];simp
theorem Y2{v:GVal}(h:v.c_=1):(⟨false,true,v.e_,v.e_,⟨#[]⟩,⟨#[]⟩⟩:SdS)=se v:=by unfold se;rw[ag1 (by omega),ag2 h]
theorem Y1{v:GVal}(h:v.c_=2):(⟨false,true,0,0,v.d_,v.d_⟩:SdS)=se v:=by unfold se;rw[ag2 h]
theorem Y3{v:GVal}(h1:¬v.c_=1)(h2:¬v.c_=2):(⟨true,false,0,0,⟨#[]⟩,⟨#[]⟩⟩:SdS)=se v:=by unfold se;rw[ag1 h2,ag1 h1]
theorem ada:(Tryz.prog.info? 52).map (·.bytes)=some 56:=by kernel_rfl
theorem by57:(Tryz.prog.info? 57).map (·.bytes)=some 56:=by kernel_rfl
theorem Y7:c9 Tryz.prog 35=some (some 2):=by kernel_rfl
theorem Y6:c9 Tryz.prog 39=some (some 2):=by kernel_rfl
theorem acx:ap Tryz.prog 52=some 6:=by kernel_rfl
theorem sz57:ap Tryz.prog 57=some 6:=by kernel_rfl
theorem acs:bi Tryz.prog 52=some (.agg #[.bool false,.bool false,.int .i64 0,.int .i64 0,.string ⟨#[]⟩,.string ⟨#[]⟩]):=by kernel_rfl
theorem zr57:bi Tryz.prog 57=some (.agg #[.bool false,.bool false,.int .i64 0,.int .i64 0,.string ⟨#[]⟩,.string ⟨#[]⟩]):=by kernel_rfl
theorem Wd(tb:Int)(S:List SdS)(h1:1<=S.length)(h8:S.length<=1000):PRet Tryz.prog 12 [.agg [.v (.int .i64 tb),xf],.agg [.v (.int .i64 tb),.tree 6 (S.map sdA)]] (fun q=>q=.agg [.v (.int .i64 tb),.tree 6 (S.map sdA)]):=by
 refine ovT [19] [] Tryz.func12 rfl rfl (cT ?_)
 refine OpG.nw (Fl (kl (u:=3) (m:=S.length) (news:=rF sdA S) Tryz.underlying37 sz57 zr57 by57 rfl rfl (by simp) Oc (by omega) (by rw[ib eh]) (by omega) (by omega)) (fun η' h=>bn eh (l:=S) (agy.2 rfl) h rfl)) rfl ⟨by kernel_rfl,LpG.exit ?_⟩
 refine cF ⟨.inr rfl,_,Og.cell rfl Y6 rfl rfl rfl rfl rfl ⟨[],FzP.pure rfl⟩,?_⟩
 rfl
theorem Xa(tb:Int)(l:List PVar)(w:List GVal)(hb:Bel l w)(h3:LOk l)(h1:1<=l.length)(h8:l.length<=8):PRet Tryz.prog 9 [.agg [.v (.int .i64 tb),.v (.int .i64 ((l.length:Nat):Int)),vsA l,.tree 7 ([exC w].map clA)]] (fun q=>q=.agg [.v (.int .i64 tb),.tree 6 ((w.map se).map sdA)]):=by
 have hwl:=hb.1
 have h01:0<[exC w].length:=Nat.zero_lt_one
 refine ovT [] [13] Tryz.func9 rfl rfl (LenG.of ?_)
 refine w6 (ULp.step ?_)
 refine cT (IdxG.of (j:=0) ‹_› ?_)
 refine ArgG.mk (Iy hb h3 h1 h8) rfl ?_
 rintro _ ⟨W,rfl⟩
 refine cF (LpG.via (fun _ h=>dc 5 1 6 rfl rfl rfl rfl rfl 7 rfl h) ?_)
 refine LpG.on (fun k2:KL SdS=>(⟨fL [(1,.ptr 0 0 0),(2,.ptr 1 0 0),(3,.ptr 2 0 0),(5,.ptr 3 0 0),(9,.ptr 5 0 0),(15,.tree 7 (([exC w]).map clA)),(16,.v (.int .i64 1)),(17,.v (.int .i64 0)),(35,.v (.int .i64 ((l.length:Nat):Int))),(36,.v (.int .i64 ((k2.k:Nat):Int)))],hLz [(0,⟨0,[.v (.int .i64 tb),.v (.int .i64 ((l.length:Nat):Int)),vsA l,.tree 7 ([exC w].map clA)],0,false⟩),(1,⟨0,[.v (.int .i64 0),xf],0,false⟩),(2,⟨0,[.v (.int .i64 tb),xf],0,false⟩),(3,⟨0,clA (exC w),0,false⟩),(4,⟨0,rf0,0,false⟩),(5,⟨0,[.v (.int .i64 tb),.sl 6 k2.L.length 0 k2.L.length],0,false⟩),(6,⟨k2.L.length,rF sdA k2.L,6,Nat.beq k2.L.length 0⟩)],7⟩:St)) (fun k2=>(l.length-k2.k)) (fun k2=>(k2.k<=l.length/\(k2.L=(w.map se).take k2.k))) (⟨0,[]⟩:KL SdS) (cO (.cons rfl rfl (.cons rfl rfl (.cons rfl rfl (.cons rfl rfl (.cons rfl rfl (.cons rfl rfl (.cons rfl rfl (.cons rfl rfl (.cons rfl rfl (.cons rfl rfl .nil)))))))))) (.cons rfl rfl rfl (.cons rfl rfl rfl (.cons rfl rfl rfl (.cons rfl rfl rfl (.cons rfl rfl rfl (.cons (by rfl) rfl rfl (.cons (by rfl) rfl (aa eh _ _) .nil)))))))) ⟨ag6 _,rfl⟩ ?_
 rintro k2 h2
 obtain⟨hle_k2,h0⟩:=h2
 refine cL (fun hlt37=>?_) (fun hge37=>?_)
 ·have h4:k2.k<w.length:=by omega
  have h6:k2.L.length=k2.k:=by rw[h0];simp;omega
  refine IdxG.of ‹_› (ArgG.mk (Pq hb h3 h8 h4 (by omega)) rfl ?_)
  rintro _ rfl
  refine OpG.mk _ _ _ 8 (bh eh (a:=(se w[k2.k])) Tryz.underlying37 sz57 zr57 by57 rfl rfl rfl (ce rfl rfl rfl rfl) rfl (by omega) (by omega) (by unfold TV;omega)) rfl rfl ⟨by kernel_rfl,⟨by omega,?_⟩⟩
  refine⟨(⟨k2.k+1,k2.L++[se w[k2.k]]⟩:KL SdS),(by show l.length-(k2.k+1)<l.length-k2.k;omega),(cO (.cons rfl rfl (.cons rfl rfl (.cons rfl rfl (.cons rfl rfl (.cons rfl rfl (.cons rfl rfl (.cons rfl rfl (.cons rfl rfl (.cons rfl rfl (.cons rfl rfl .nil)))))))))) (.cons rfl rfl rfl (.cons rfl rfl rfl (.cons rfl rfl rfl (.cons rfl rfl rfl (.cons rfl rfl rfl (.cons (by(rw[agx];rfl)) rfl rfl (.cons (by(rw[agx];rfl)) rfl (aa eh _ _) .nil)))))))),⟨by show k2.k+1<=_;omega,?_⟩⟩
  exact ue h0 h4 rfl
 have h5:k2.L=w.map se:=by rw[h0];exact ahl (by simp;omega)
 have h6:k2.L.length=l.length:=by rw[h5];simp;omega
 refine RegG.via (fun _ h=>b8 [6] 5 0 0 [.v (.int .i64 tb),.sl 6 k2.L.length 0 k2.L.length] [.v (.int .i64 tb),.tree 6 (k2.L.map sdA)] rfl rfl (.keep (.fz (FzP.rows eh (agy.2 rfl) rfl) (.same _))) rfl h) (ba ?_)
 refine ArgG.mk (Wd tb k2.L (by omega) (by omega)) rfl ?_
 rintro _ rfl
 refine⟨by omega,ULp.step ?_⟩
 refine cF ⟨.inr rfl,_,Og.cell rfl Y6 rfl rfl rfl rfl rfl ⟨[],FzP.pure rfl⟩,?_⟩
 rw[<-h5]
theorem ach(tb:Int)(S:List SdS)(h8:S.length<=1000):PRet Tryz.prog 8 [.agg [.v (.int .i64 tb),.tree 6 (S.map sdA)]] (fun q=>q=.agg [.v (.int .i64 tb),.tree 6 (S.map sdA)]):=by
 refine ovT [] [7] Tryz.func8 rfl rfl (LenG.of ?_)
 refine LpG.via (fun _ h=>dc 2 1 6 rfl rfl rfl rfl rfl 4 rfl h) (LpG.on (fun k0:KL SdS=>(⟨fL [(2,.ptr 1 0 0),(3,.ptr 2 0 0),(10,.tree 6 (S.map sdA)),(11,.v (.int .i64 ((S.length:Nat):Int))),(12,.v (.int .i64 ((k0.k:Nat):Int)))],hLz [(0,⟨0,[.v (.int .i64 tb),.tree 6 (S.map sdA)],0,false⟩),(1,⟨0,[.v (.int .i64 0),xf],0,false⟩),(2,⟨0,[.v (.int .i64 tb),.sl 3 k0.L.length 0 k0.L.length],0,false⟩),(3,⟨k0.L.length,rF sdA k0.L,6,Nat.beq k0.L.length 0⟩)],4⟩:St)) (fun k0=>(S.length-k0.k)) (fun k0=>(k0.k<=S.length/\(k0.L=S.take k0.k))) (⟨0,[]⟩:KL SdS) (cO (.cons rfl rfl (.cons rfl rfl (.cons rfl rfl (.cons rfl rfl (.cons rfl rfl .nil))))) (.cons rfl rfl rfl (.cons rfl rfl rfl (.cons (by rfl) rfl rfl (.cons (by rfl) rfl (aa eh _ _) .nil))))) ⟨ag6 _,rfl⟩ ?_)
 rintro k0 h2
 obtain⟨hle_k0,h0⟩:=h2
 refine cL (fun h1=>?_) (fun hge13=>?_)
 ·have hl0:k0.L.length=k0.k:=by rw[h0];simp;omega
  refine IdxG.of ‹_› (OpG.mk _ _ _ 6 (bh eh (a:=S[k0.k]) Tryz.underlying33 acx acs ada rfl rfl rfl (ce rfl rfl rfl rfl) rfl (by omega) (by omega) (by unfold TV;omega)) rfl rfl ?_)
  refine⟨by omega,⟨(⟨k0.k+1,k0.L++[S[k0.k]]⟩:KL SdS),(by show S.length-(k0.k+1)<S.length-k0.k;omega),(cO (.cons rfl rfl (.cons rfl rfl (.cons rfl rfl (.cons rfl rfl (.cons rfl rfl .nil))))) (.cons rfl rfl rfl (.cons rfl rfl rfl (.cons (by(rw[agx];rfl)) rfl rfl (.cons (by(rw[agx];rfl)) rfl (aa eh _ _) .nil))))),?_⟩⟩
  refine⟨by show k0.k+1<=_;omega,?_⟩
  show k0.L++_=S.take (k0.k+1)
  rw[ag5 h1,h0]
 have h3:k0.L=S:=by rw[h0];exact ahl (by omega)
 refine RegG.via (fun _ h=>b8 [3] 2 0 0 [.v (.int .i64 tb),.sl 3 k0.L.length 0 k0.L.length] [.v (.int .i64 tb),.tree 6 (k0.L.map sdA)] rfl rfl (.keep (.fz (FzP.rows eh (agy.2 rfl) rfl) (.same _))) rfl h) (ba ?_)
 refine⟨.inr rfl,_,Og.cell rfl Y7 rfl rfl rfl rfl rfl ⟨[],FzP.pure rfl⟩,?_⟩
 rw[<-h3]
theorem Yz(w:List GVal)(hw:fy w (fun y=>True))(tb:Int)(h8:w.length<=1000):PRet Tryz.prog 11 [.v (.int .i64 tb),.tree 3 (w.map gvA)] (fun q=>q=.agg [.v (.int .i64 tb),.tree 6 ((w.map se).map sdA)]):=by
 refine ovT [] [12] Tryz.func11 rfl rfl (LpG.via (fun _ h=>dc 1 1 6 rfl rfl rfl rfl rfl 3 rfl h) ?_)
 refine LpG.on (fun k0:KL SdS=>(⟨fL [(1,.tree 3 (w.map gvA)),(4,.ptr 0 0 0),(5,.ptr 1 0 0),(6,.v (.int .i64 ((k0.k:Nat):Int)))],hLz [(0,⟨0,[.v (.int .i64 0),xf],0,false⟩),(1,⟨0,[.v (.int .i64 tb),.sl 2 k0.L.length 0 k0.L.length],0,false⟩),(2,⟨k0.L.length,rF sdA k0.L,6,Nat.beq k0.L.length 0⟩)],3⟩:St)) (fun k0=>(w.length-k0.k)) (fun k0=>(k0.k<=w.length/\(k0.L=(w.map se).take k0.k))) (⟨0,[]⟩:KL SdS) (cO (.cons rfl rfl (.cons rfl rfl (.cons rfl rfl (.cons rfl rfl .nil)))) (.cons rfl rfl rfl (.cons (by rfl) rfl rfl (.cons (by rfl) rfl (aa eh _ _) .nil)))) ⟨ag6 _,rfl⟩ ?_
 rintro k0 h4
 have hgr_k0:w.length<=140737488355328:=hw.1
 obtain⟨hle_k0,h0⟩:=h4
 refine LenG.of (cL (fun h1=>?_) (fun hge14=>?_))
 ·have hl0:k0.L.length=k0.k:=by rw[h0];simp;omega
  refine IdxG.of ‹_› (cE (fun h2=>?_) (fun h2=>?_))
  refine cB (fun hz=>by exfalso;have h:=(by simpa using hz:((w[k0.k].c_):Int)=2);omega) (fun _=>?_)
  refine OpG.mk _ _ _ 6 (bh eh (a:=(⟨false,true,w[k0.k].e_,w[k0.k].e_,⟨#[]⟩,⟨#[]⟩⟩:SdS)) Tryz.underlying33 acx acs ada rfl rfl rfl (ce rfl rfl rfl rfl) rfl (by omega) (by omega) (by unfold TV;omega)) rfl rfl ⟨by omega,⟨(⟨k0.k+1,k0.L++[(⟨false,true,w[k0.k].e_,w[k0.k].e_,⟨#[]⟩,⟨#[]⟩⟩:SdS)]⟩:KL SdS),(by show w.length-(k0.k+1)<w.length-k0.k;omega),(cO (.cons rfl rfl (.cons rfl rfl (.cons rfl rfl (.cons rfl rfl .nil)))) (.cons rfl rfl rfl (.cons (by(rw[agx];rfl)) rfl rfl (.cons (by(rw[agx];rfl)) rfl (aa eh _ _) .nil)))),?_⟩⟩
  exact⟨by show k0.k+1<=_;omega,ue h0 h1 (Y2 h2)⟩
  refine cE (fun h3=>?_) (fun h3=>?_)
  ·refine OpG.mk _ _ _ 6 (bh eh (a:=(⟨false,true,0,0,w[k0.k].d_,w[k0.k].d_⟩:SdS)) Tryz.underlying33 acx acs ada rfl rfl rfl (ce rfl rfl rfl rfl) rfl (by omega) (by omega) (by unfold TV;omega)) rfl rfl ⟨by omega,⟨(⟨k0.k+1,k0.L++[(⟨false,true,0,0,w[k0.k].d_,w[k0.k].d_⟩:SdS)]⟩:KL SdS),(by show w.length-(k0.k+1)<w.length-k0.k;omega),(cO (.cons rfl rfl (.cons rfl rfl (.cons rfl rfl (.cons rfl rfl .nil)))) (.cons rfl rfl rfl (.cons (by(rw[agx];rfl)) rfl rfl (.cons (by(rw[agx];rfl)) rfl (aa eh _ _) .nil)))),?_⟩⟩
   exact⟨by show k0.k+1<=_;omega,ue h0 h1 (Y1 h3)⟩
  refine OpG.mk _ _ _ 6 (bh eh (a:=(⟨true,false,0,0,⟨#[]⟩,⟨#[]⟩⟩:SdS)) Tryz.underlying33 acx acs ada rfl rfl rfl (ce rfl rfl rfl rfl) rfl (by omega) (by omega) (by unfold TV;omega)) rfl rfl ⟨by omega,⟨(⟨k0.k+1,k0.L++[(⟨true,false,0,0,⟨#[]⟩,⟨#[]⟩⟩:SdS)]⟩:KL SdS),(by show w.length-(k0.k+1)<w.length-k0.k;omega),(cO (.cons rfl rfl (.cons rfl rfl (.cons rfl rfl (.cons rfl rfl .nil)))) (.cons rfl rfl rfl (.cons (by(rw[agx];rfl)) rfl rfl (.cons (by(rw[agx];rfl)) rfl (aa eh _ _) .nil)))),?_⟩⟩
  exact⟨by show k0.k+1<=_;omega,ue h0 h1 (Y3 h2 h3)⟩
 have h5:k0.L=w.map se:=by rw[h0];exact ahl (by simp;omega)
 refine RegG.via (fun _ h=>b8 [2] 1 0 0 [.v (.int .i64 tb),.sl 2 k0.L.length 0 k0.L.length] [.v (.int .i64 tb),.tree 6 (k0.L.map sdA)] rfl rfl (.keep (.fz (FzP.rows eh (agy.2 rfl) rfl) (.same _))) rfl h) (ba ?_)
 refine⟨.inr rfl,_,Og.cell rfl Y7 rfl rfl rfl rfl rfl ⟨[],FzP.pure rfl⟩,?_⟩
 rw[<-h5]
theorem Yw(tb:Int)(S:List SdS)(h8:S.length<=1000):PRet Tryz.prog 7 [.agg [.v (.int .i64 tb),.tree 6 (S.map sdA)],.agg [.v (.int .i64 tb),.tree 6 (S.map sdA)]] (fun q=>q=.v (.bool true)):=by
 refine ovT [37] [] Tryz.func7 rfl rfl (cB (fun h0=>?_) (fun h0=>?_))
 ·exfalso;simp at h0
 refine LenG.of (LenG.of ?_)
 refine cB (fun h1=>?_) (fun h1=>?_)
 ·exfalso;simp at h1
 refine LpG.on (fun k0:Nat=>(⟨fL [(2,.ptr 0 0 0),(3,.ptr 1 0 0),(5,.v (.int .i64 ((k0:Nat):Int)))],hLz [(0,⟨0,[.v (.int .i64 tb),.tree 6 (S.map sdA)],0,false⟩),(1,⟨0,[.v (.int .i64 tb),.tree 6 (S.map sdA)],0,false⟩)],2⟩:St)) (fun k0=>(S.length-k0)) (fun k0=>(k0<=S.length)) 0 (cO (.cons rfl rfl (.cons rfl rfl (.cons rfl rfl .nil))) (.cons rfl rfl rfl (.cons rfl rfl rfl .nil))) (ag6 _) ?_
 rintro k0 h3
 have hle_k0:=h3
 refine LenG.of (cL (fun hlt24=>?_) (fun hge24=>?_))
 ·refine IdxG.of ‹_› (IdxG.of ‹_› ?_)
  refine OpG.lk (Ry rfl rfl) ⟨by kernel_rfl,cF ?_⟩
  refine⟨by omega,⟨(k0+1),by omega,(cO (.cons rfl rfl (.cons rfl rfl (.cons rfl rfl .nil))) (.cons rfl rfl rfl (.cons rfl rfl rfl .nil))),?_⟩⟩
  omega
 exact rV rfl rfl rfl
end Go.Proofs.YtmbmbhkemgmhfaaGreatDoor
