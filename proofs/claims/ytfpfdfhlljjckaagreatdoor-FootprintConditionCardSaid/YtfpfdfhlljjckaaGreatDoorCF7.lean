/- Texts of the claim. -/
import Derived.Test.YtfpfdfhlljjckaaGreatDoorCF6
import Derived.Test.YtfpfdfhlljjckaaGreatDoorCQ2
set_option linter.all false
namespace Go.Proofs.YtfpfdfhlljjckaaGreatDoor
open Tryz
set_option maxRecDepth 1000000
set_option maxHeartbeats 0
set_option linter.unusedVariables false
set_option linter.unusedSimpArgs false
open Go.RowKit
variable{pos:Bool}{s:ByteArray}{a:GAt}{P:GAt->Prop}{x:GEx}{b c n op u v:Int}{L:List (List AV)}{args e r y:List AV}{w:List GVal}{A cs vs:List Int}{l:List PVar}{N d j:Nat}{k:PCon}{f g:PLin}{t:PTest}{p:Pt}{α:Type}
def vvR(w:List GVal)(A:List Int)(v:Int):Int:=if v≥((w.length:Nat):Int)then A.getD (v-((w.length:Nat):Int)).toNat 0 else(bj w v).v_
def ql(w:List GVal)(A:List Int):List PCoef->Int
 |[]=>0
 |c::cs=>c.n*vvR w A c.v+ql w A cs
def qp(w:List GVal)(A:List Int)(f:PLin):Int:=f.k+ql w A f.cs
theorem Yj(a b:List PCoef):ql w A (a++b)=ql w A a+ql w A b:=by
 induction a with
 |nil=>simp[ql]
 |cons c a ih=>simp only[List.cons_append,ql,ih];omega
structure CmpF(w:List GVal)(A:List Int)(f:PLin):Prop where
 len:f.cs.length<=1000000
 rng:∀c∈f.cs,0<=c.v/\c.v<((w.length:Nat):Int)+((A.length:Nat):Int)
 ok:∀c∈f.cs,c.v<((w.length:Nat):Int)->(bj w c.v).c_=1
 bd:∃bs:List Int,(∀b∈bs,0<=b)/\(∀c∈f.cs,cq (vvR w A c.v)<=bvN ((w.length:Nat):Int) bs c.v)/\bdF ((w.length:Nat):Int) bs f<=1152921504606846977
theorem abp(a b:Int):cq (a*b)=cq a*cq b:=by
 have h:∀x:Int,cq x=((x.natAbs:Nat):Int):=fun x=>by unfold cq;split<;>omega
 rw[h,h,h,Int.natAbs_mul];simp
theorem Iu{w:List GVal}{A bs:List Int}{n:Int}:∀{cs:List PCoef},(∀c∈cs,cq (vvR w A c.v)<=bvN n bs c.v)->cq (ql w A cs)<=pu n bs cs
 |[],_=>by simp[ql,pu,cq]
 |c::cs,h=>by have ih:=Iu fun d hd=>h d (List.mem_cons_of_mem _ hd);have h1:=Int.mul_le_mul_of_nonneg_left (h c (by simp)) (oq c.n);rw[<-abp]at h1;simp only[ql,pu];have a1:=ap (c.n*vvR w A c.v);have a2:=ap (ql w A cs);have a3:=ap (c.n*vvR w A c.v+ql w A cs);omega
section
variable{w:List GVal}{A:List Int}{f:PLin}
theorem CmpF.part(h:CmpF w A f)(k:Nat):cq (f.k+ql w A (f.cs.take k))<=1152921504606846977:=by obtain⟨bs,h0,h5,h4⟩:=h.bd;have h1:=Iu (cs:=f.cs.take k) (fun c hc=>h5 c (List.mem_of_mem_take hc));have h2:=Dp (n:=((w.length:Nat):Int)) h0 (f.cs.drop k);have h3:pu ((w.length:Nat):Int) bs f.cs=pu ((w.length:Nat):Int) bs (f.cs.take k)+pu ((w.length:Nat):Int) bs (f.cs.drop k):=(by rw[<-yz,List.take_append_drop]);unfold bdF at h4;have a1:=ap f.k;have a2:=ap (ql w A (f.cs.take k));have a3:=ap (f.k+ql w A (f.cs.take k));omega
theorem amh{k:Nat}{e:Int}(hk:k<f.cs.length)(h:e=f.k+ql w A (f.cs.take k)):e+f.cs[k].n*vvR w A f.cs[k].v=f.k+ql w A (f.cs.take (k+1)):=by rw[azj hk,Yj,h];simp only[ql];omega
def CmpF.step(h:CmpF w A f){k:Nat}{e:Int}(hk:k<f.cs.length)(he:e=f.k+ql w A (f.cs.take k)):(-1152921504606846977<=e/\e<=1152921504606846977)/\(-1152921504606846977<=e+f.cs[k].n*vvR w A f.cs[k].v/\e+f.cs[k].n*vvR w A f.cs[k].v<=1152921504606846977):=by have h1:=h.part k;have h2:=h.part (k+1);rw[<-he]at h1;rw[<-amh hk he]at h2;have a1:=ap e;have a2:=ap (e+f.cs[k].n*vvR w A f.cs[k].v);omega
theorem afk(hv:v=((j:Nat):Int))(hj:j<w.length):vvR w A v=w[j].v_:=by unfold vvR;rw[azf (by omega),im hv hj]
theorem at5(hv:v-((w.length:Nat):Int)=((j:Nat):Int))(hj:j<A.length):vvR w A v=A[j]:=by unfold vvR;rw[azg (by omega),hv];simp[hj]
end
theorem af2{T:Nat->Prop}{w:World}{a b:Value}{x:Value}(h:TR T w (.tup [.v a,.v b]) x):x=.tuple #[a,b]:=by
 cases h with
 |tup h1 h2=>
  rename_i vs
  have k0:=(h2 0 (by simp) (by simp at h1;omega)).v_inv
  have k1:=(h2 1 (by simp) (by simp at h1;omega)).v_inv
  congr 1
  apply Array.ext
  ·simpa using h1.symm
  ·intro i hi h0
   have:i=0\/i=1:=by simp at h0;omega
   rcases this with rfl|rfl
   ·exact k0
   ·exact k1
def qe.tup2{P:Program}{f:FuncId}{a b:Value}(h:qe P f args (.tup [.v a,.v b])):qe P f args (.v (.tuple #[a,b])):=by intro T w vals hv hT;refine(h T w vals hv hT).mono ?_;rintro e w' ⟨x,T',h1,h2,h3⟩;have e:=af2 h2;subst e;exact⟨_,T',h1,.v _,h3⟩
def P0{P:Program}{τ:Nat->AV}{η:bm}{d:Option Tmp}{ty:TypeId}{pos:String}{af:Array Edge}{g:Option (Nat×Bool)}{f:FuncId}{xs:Array Operand}{ats:Array TypeId}{a b:Value}(fp:List Nat)(hb:cw P f=true)(hl:xs.size=args.length)(hf:∀i (h:i<xs.size) (h':i<args.length),FzP fp η (aev τ xs[i]) args[i])(hc:qe P f args (.tup [.v a,.v b])):
 LOp P ⟨d,.call {callee:=.value (.func f),args:=xs,argTypes:=ats},ty,pos,af,g⟩ τ η fp [] (.tup [.v a,.v b]):=by
 have h:=rn (P:=P) (τ:=τ) (η:=η) (d:=d) (ty:=ty) (pos:=pos) (af:=af) (g:=g) (ats:=ats) fp hb hl hf hc.tup2
 intro C a' hg h0 h6 hn K Q hK
 refine h C a' hg h0 h6 hn K Q fun x C' h1 h2 h3 h4 h5=>hK x C' h1 h2 h3 h4 ?_
 rw[h5.v_inv]
 exact .tup (by simp) fun i hi hi'=>by have:i=0\/i=1:=(by simp at hi;omega);rcases this with rfl|rfl;exact VR.v C' _;exact VR.v C' _
def afv(h:CmpF w A f):-1152921504606846977<=qp w A f/\qp w A f<=1152921504606846977:=by have h1:=h.part f.cs.length;rw[List.take_length]at h1;have a1:=ap (f.k+ql w A f.cs);unfold qp;omega
def aga{a:Int}(hb:1<=b):a.tdiv b<=a\/a.tdiv b<=0:=by by_cases h:0<=a;left;rw[Int.tdiv_eq_ediv_of_nonneg h];exact Int.ediv_le_self _ h;right;have:=Int.tdiv_nonneg (a:=-a) (b:=b) (by omega) (by omega);rw[Int.neg_tdiv]at this;omega
def af9{a:Int}(hb:1<=b)(ha:-1152921504606846977<=a):-1152921504606846977<=a.tdiv b:=by by_cases h:0<=a;have:=Int.tdiv_nonneg (a:=a) (b:=b) h (by omega);omega;have h1:=Int.ediv_le_self b (show 0<=-a by omega);have h2:(-a).tdiv b=(-a)/b:=Int.tdiv_eq_ediv_of_nonneg (by omega);rw[Int.neg_tdiv]at h2;omega
def axV(w:List GVal)(A:List Int)(x:PAux):Int:=if x.by_=0 then(((bj w x.tx).l_.size:Nat):Int)else(qp w A x.of_).fdiv x.by_
def ou(w:List GVal)(L:List PAux):List Int:=L.foldl (fun A x=>A++[axV w A x]) []
theorem wa(w:List GVal)(L:List PAux)(x:PAux):ou w (L++[x])=ou w L++[axV w (ou w L) x]:=by simp[ou,List.foldl_append]
theorem sj(w:List GVal):∀(L:List PAux) (k:Nat),k<=L.length->(ou w (L.take k)).length=k
 |L,0,_=>rfl
 |L,k+1,h=>by rw[azj (by omega),wa,azb,sj w L k (by omega)];rfl
structure AxF(w:List GVal)(A:List Int)(x:PAux):Prop where
 t:x.by_=0->∃j,∃h:j<w.length,x.tx=((j:Nat):Int)/\w[j].c_=2
 d:x.by_≠0->1<=x.by_/\CmpF w A x.of_
def ax_t{x:PAux}(h:x.by_=0)(hv:x.tx=((j:Nat):Int))(hj:j<w.length):((w[j].l_.size:Nat):Int)=axV w A x:=by unfold axV;rw[azg h,im hv hj]
def aye{x:PAux}(h:¬x.by_=0)(hb:1<=x.by_)(hm:(qp w A x.of_).tmod x.by_<0):(qp w A x.of_).tdiv x.by_-1=axV w A x:=by unfold axV;rw[azf h];exact(flE hb).1 hm
def ayf{x:PAux}(h:¬x.by_=0)(hb:1<=x.by_)(hm:¬(qp w A x.of_).tmod x.by_<0):(qp w A x.of_).tdiv x.by_=axV w A x:=by unfold axV;rw[azf h];exact(flE hb).2 hm
def Ww{L:List PAux}{k:Nat}{M:List Int}(hk:k<L.length)(h:M=ou w (L.take k))(hv:v=axV w M L[k]):M++[v]=ou w (L.take (k+1)):=by rw[azj hk,wa,<-h,hv]
def ax0:cw prog 93=true:=by kernel_rfl
def Oy(w:List GVal)(hw:bq w (fun y=>FitVal y))(m:List Int)(hm:bq m (fun y=>True))(v:Int)(hv:0<=v/\v<((w.length:Nat):Int)+((m.length:Nat):Int))(hk:v<((w.length:Nat):Int)->(bj w v).c_=1):PRet prog 152 [vI v,.tree 3 (w.map gvA),.tree 1 (m.map iA)] (fun r=>r=.tup [vI (vvR w m v),vB true]):=by refine ovT [17,21,26] [] func152 rfl rfl (LenG.of (cD (fun h1=>by obtain⟨j,hj,h0⟩:∃j:Nat,v-((w.length:Nat):Int)=((j:Nat):Int)/\j<m.length:=⟨(v-((w.length:Nat):Int)).toNat,by omega,by omega⟩;refine LenG.of ⟨by omega,OpG.lk (ae underlying180 sz2 rfl rfl hj h0) ?_⟩;refine rtB rfl rfl ?_;rw[at5 hj h0];rfl) (fun h1=>?_)));obtain⟨j,hj,h0⟩:∃j:Nat,v=((j:Nat):Int)/\j<w.length:=⟨v.toNat,by omega,by omega⟩;have h2:=hk (by omega);rw[im hj h0]at h2;refine OpG.lk (ae underlying36 yx rfl rfl hj h0) ?_;refine OpG.lk (ae underlying36 yx rfl rfl hj h0) ?_;refine⟨by kernel_rfl,rtB rfl rfl ?_⟩;rw[afk hj h0,h2];rfl
def C5(f:PLin)(w:List GVal)(hw:bq w (fun y=>FitVal y))(m:List Int)(hm:bq m (fun y=>True))(h2:CmpF w m f):PRet prog 93 [.agg (liA f),.tree 3 (w.map gvA),.tree 1 (m.map iA)] (fun r=>r=.tup [vI (qp w m f),vB true]):=by have hfl:=h2.len;refine ovT [36] [] func93 rfl rfl (LenG.of ?_);refine LpG.on (fun k0:KE=>(⟨fL [(1,.tree 3 (w.map gvA)),(2,.tree 1 (m.map iA)),(8,vI k0.e),(16,.tree 2 (f.cs.map cfA)),(17,vI f.cs.length),(18,vI k0.k)],hLz [],1⟩:St)) (fun k0=>(f.cs.length-k0.k)) (fun k0=>(k0.k<=f.cs.length/\(k0.e=f.k+ql w m (f.cs.take k0.k)))) (⟨0,f.k⟩:KE) (cnR rfl) ⟨azk _,(by simp[ql])⟩ ?_;rintro k0 h3;obtain⟨hle_k0,h0⟩:=h3;apply cL<;>intro h1;have hst:=h2.step h1 h0;refine IdxG.of ‹_› (ArgG.mk (Oy w hw m hm f.cs[k0.k].v (h2.rng _ (ay7 _)) (h2.ok _ (ay7 _))) rfl ?_);rintro _ rfl;apply cB<;>intro h4;exact absurd h4 (by decide);refine OpG.lk (ki rfl rfl (by omega) (by omega)) ⟨by omega,⟨by omega,?_⟩⟩;refine⟨(⟨k0.k+1,k0.e+f.cs[k0.k].n*vvR w m f.cs[k0.k].v⟩:KE),(nsA ‹_›),(cnR rfl),⟨‹_›,?_⟩⟩;exact amh h1 h0;refine rtB rfl rfl ?_;have e:=h0;rw[az0 (by omega)]at e;rw[e];rfl
def H2(c:PCl)(w:List GVal)(hw:bq w (fun y=>FitVal y))(hal:c.aux.length<=1000000000)(hc:∀k (h:k<c.aux.length),AxF w (ou w (c.aux.take k)) c.aux[k]):PRet prog 92 [.agg (clA c),.tree 3 (w.map gvA)] (fun r=>r=.tup [.tree 1 ((ou w c.aux).map iA),vB true]):=by
 refine ovT [25,33,44,52,56] [] func92 rfl rfl ?_;refine LenG.of (LpG.via (fun _ h=>bl 6 1 rfl 2 rfl h) ?_);refine LpG.on (fun k0:KL Int=>(⟨fL [(1,.tree 3 (w.map gvA)),(6,.sl 1 k0.L.length 0 k0.L.length),(13,.tree 4 (c.aux.map axA)),(14,vI c.aux.length),(15,vI k0.k)],hLz [(1,⟨k0.L.length,rF iA k0.L,1,Nat.beq k0.L.length 0⟩)],2⟩:St)) (fun k0=>(c.aux.length-k0.k)) (fun k0=>(k0.k<=c.aux.length/\(k0.L=ou w (c.aux.take k0.k)/\k0.L.length=k0.k))) (⟨0,[]⟩:KL Int) (cnS (by rfl) (hpS (ab ai _ _) (by rfl) trivial)) ⟨azk _,⟨rfl,rfl⟩⟩ ?_;rintro k0 h6;obtain⟨hle_k0,h0⟩:=h6;apply cL<;>intro h1;have hll:=h0.2
 have h7:=hc _ h1;rw[<-h0.1]at h7;refine IdxG.of ‹_› (cE (fun h2=>?_) (fun h2=>?_));obtain⟨j1,hj1l,h8,hd⟩:=h7.t h2;refine OpG.lk (ae underlying36 yx rfl rfl h8 hj1l) ?_;apply cB<;>intro h3;exfalso;have h:=h3;rw[hd]at h;exact absurd h (by decide)
 have hq28:(w[j1].c_:Int)=(2:Int):=by simpa using h3
 refine OpG.lk (ae underlying36 yx rfl rfl h8 hj1l) ?_;refine OpG.mk _ _ _ 4 (ah ai (a:=((w[j1].l_.size:Nat):Int)) underlying180 sz2 zr2 by2 rfl rfl rfl (am rfl rfl rfl rfl) rfl (by omega) (by omega) (by unfold TV;omega)) rfl rfl ?_;refine⟨by omega,?_⟩;refine⟨(⟨k0.k+1,k0.L++[((w[j1].l_.size:Nat):Int)]⟩:KL Int),(nsA ‹_›),(cO (.cons rfl rfl (.cons (by(rw[azb];rfl)) rfl (.cons rfl rfl (.cons rfl rfl (.cons rfl rfl .nil))))) (.cons (by(rw[azb];rfl)) rfl (ab ai _ _) .nil)),?_⟩;refine⟨‹_›,?_⟩;exact⟨by exact Ww h1 h0.1 (ax_t h2 h8 hj1l),by show(_++[_]).length=_;rw[azb,h0.2];rfl⟩;obtain⟨h5,h9⟩:=h7.d h2;have hcl:=h9.len
 have he:-1152921504606846977<=qp w k0.L c.aux[k0.k].of_/\qp w k0.L c.aux[k0.k].of_<=1152921504606846977:=afv h9;have htd:=af9 (a:=qp w k0.L c.aux[k0.k].of_) h5 he.1
 have hth:=aga (a:=qp w k0.L c.aux[k0.k].of_) h5;obtain⟨_,rfl,ha⟩:=C5 c.aux[k0.k].of_ w hw k0.L ⟨by omega,fun _ _=>trivial⟩ h9;refine OpG.lk (P0 [1] ax0 rfl (fun i h h'=>match i,h with|0,_=>FzP.pure rfl|1,_=>FzP.pure rfl|2,_=>FzP.rows ai (azc.2 rfl) rfl) ha) ?_;apply cB<;>intro hb;exact absurd hb (by decide);refine OpG.lk (qg rfl rfl (by omega) (by omega) (by omega)) ?_;refine OpG.lk (E4 rfl rfl (by omega)) ?_;apply cD<;>intro h4;refine⟨by omega,?_⟩;refine OpG.mk _ _ _ 4 (ah ai (a:=(((qp w k0.L c.aux[k0.k].of_).tdiv c.aux[k0.k].by_-1))) underlying180 sz2 zr2 by2 rfl rfl rfl (am rfl rfl rfl rfl) rfl (by omega) (by omega) (by unfold TV;omega)) rfl rfl ?_;refine⟨by omega,?_⟩;refine⟨(⟨k0.k+1,k0.L++[(((qp w k0.L c.aux[k0.k].of_).tdiv c.aux[k0.k].by_-1))]⟩:KL Int),(nsA ‹_›),(cO (.cons rfl rfl (.cons (by(rw[azb];rfl)) rfl (.cons rfl rfl (.cons rfl rfl (.cons rfl rfl .nil))))) (.cons (by(rw[azb];rfl)) rfl (ab ai _ _) .nil)),?_⟩;refine⟨‹_›,?_⟩;exact⟨by exact Ww h1 h0.1 (aye h2 h5 h4),by show(_++[_]).length=_;rw[azb,h0.2];rfl⟩;refine OpG.mk _ _ _ 4 (ah ai (a:=(((qp w k0.L c.aux[k0.k].of_).tdiv c.aux[k0.k].by_))) underlying180 sz2 zr2 by2 rfl rfl rfl (am rfl rfl rfl rfl) rfl (by omega) (by omega) (by unfold TV;omega)) rfl rfl ?_;refine⟨by omega,?_⟩;refine⟨(⟨k0.k+1,k0.L++[(((qp w k0.L c.aux[k0.k].of_).tdiv c.aux[k0.k].by_))]⟩:KL Int),(nsA ‹_›),(cO (.cons rfl rfl (.cons (by(rw[azb];rfl)) rfl (.cons rfl rfl (.cons rfl rfl (.cons rfl rfl .nil))))) (.cons (by(rw[azb];rfl)) rfl (ab ai _ _) .nil)),?_⟩;refine⟨‹_›,?_⟩;exact⟨by exact Ww h1 h0.1 (ayf h2 h5 h4),by show(_++[_]).length=_;rw[azb,h0.2];rfl⟩;refine⟨.inr rfl,_,dh rfl (afe.tmp ⟨[1],FzP.rows ai (azc.2 rfl) rfl⟩) (afe.tmp ⟨[],FzP.pure rfl⟩),?_⟩;have e:=h0.1
 rw[az0 (by omega)]at e;rw[e];rfl
theorem adi:∀l m:List UInt8,(Op.bytesLess l m||l==m)=!Op.bytesLess m l
 |[],[]=>by simp[Op.bytesLess]
 |[],_::_=>by simp[Op.bytesLess]
 |_::_,[]=>by simp[Op.bytesLess]
 |a::l,b::m=>by
  have ih:=adi l m;by_cases e:a=b;subst e;have h:¬a<a:=Std.lt_irrefl
  simp only[Op.bytesLess,h,decide_false,Bool.false_or,beq_self_eq_true,Bool.true_and,List.cons_beq_cons];exact ih;have e2:¬b=a:=fun h=>e h.symm
  have hn:¬a.toNat=b.toNat:=fun h=>e (u8.1 h);by_cases h1:a<b;have h2:¬b<a:=fun g=>by have h3:=UInt8.lt_iff_toNat_lt.1 h1;have h4:=UInt8.lt_iff_toNat_lt.1 g;omega
  simp[Op.bytesLess,h1,h2,e,e2];have h2:b<a:=UInt8.lt_iff_toNat_lt.2 (by have h3:¬a.toNat<b.toNat:=fun g=>h1 (UInt8.lt_iff_toNat_lt.2 g);omega)
  simp[Op.bytesLess,h1,h2,e,e2]
def Jb(t:PTest)(s:ByteArray):Bool:=Am ⟨t.v,t.kd,false,t.s⟩ s
theorem Se(t:PTest)(s:ByteArray):Am t s=(Jb t s !=t.ng):=by unfold Jb Am;simp
section
variable{t:PTest}{s:ByteArray}
def pg_0(h:t.kd=0):(s.toList==t.s.toList)=Jb t s:=by unfold Jb Am;simp[h]
def pg_1(h:t.kd=1):re s t.s=Jb t s:=by unfold Jb Am;simp[h]
def pg_2(h:t.kd=2):Op.bytesLess s.toList t.s.toList=Jb t s:=by unfold Jb Am fj;simp[h]
def pg_3(h:t.kd=3):(Op.bytesLess s.toList t.s.toList||s.toList==t.s.toList)=Jb t s:=by unfold Jb Am fj;rw[adi];simp[h]
end
structure HG(c:PCl)(w:List GVal):Prop where
 nul:∀v∈c.nul,0<=v/\v<((w.length:Nat):Int)
 nn:∀v∈c.nn,0<=v/\v<((w.length:Nat):Int)
 ax:(∀v∈c.nn,nnH w v)->∀k (h:k<c.aux.length),AxF w (ou w (c.aux.take k)) c.aux[k]
 it:(∀v∈c.nn,nnH w v)->∀k∈c.ints,CmpF w (ou w c.aux) k.l
 ts:∀t∈c.tests,(0<=t.v/\t.v<((w.length:Nat):Int))/\(0<=t.kd/\t.kd<=3)/\jw t.s
 sm:∀p∈c.same,(0<=p.1/\p.1<((w.length:Nat):Int))/\(0<=p.2/\p.2<((w.length:Nat):Int))
 df:∀p∈c.diff,(0<=p.1/\p.1<((w.length:Nat):Int))/\(0<=p.2/\p.2<((w.length:Nat):Int))
 l1:c.nul.length<=1000000000
 l2:c.nn.length<=1000000000
 l3:c.aux.length<=1000000000
 l4:c.ints.length<=1000000000
 l5:c.tests.length<=1000000000
 l6:c.same.length<=1000000000
 l7:c.diff.length<=1000000000
def ad4(w:List GVal)(A:List Int)(k:PCon):Prop:=qp w A k.l<=0/\(k.eq=true->qp w A k.l=0)
def Xz(w:List GVal)(t:PTest):Prop:=(bj w t.v).c_=2/\Am t (bj w t.v).l_=true
def N7(w:List GVal)(p:Int×Int):Prop:=(bj w p.1).c_=2/\(bj w p.2).c_=2/\(bj w p.1).l_=(bj w p.2).l_
def O4(w:List GVal)(p:Int×Int):Prop:=(bj w p.1).c_=2/\(bj w p.2).c_=2/\¬(bj w p.1).l_=(bj w p.2).l_
structure HoldsG(c:PCl)(w:List GVal):Prop where
 nul:∀v∈c.nul,tq w v
 nn:∀v∈c.nn,nnH w v
 ints:∀k∈c.ints,ad4 w (ou w c.aux) k
 tests:∀t∈c.tests,Xz w t
 same:∀p∈c.same,N7 w p
 diff:∀p∈c.diff,O4 w p
def Db{l:List α}{P:α->Prop}{k:Nat}(hk:¬k<l.length)(h:∀j (hl:j<l.length),j<k->P l[j]):∀a∈l,P a:=by grind[azs]
def P6{c:PCl}(h:¬HoldsG c w):∃b:Bool,vB false=vB b/\(b=true↔HoldsG c w):=⟨false,rfl,fun e=>absurd e az7,fun e=>absurd e h⟩
section
variable{w:List GVal}{v:Int}{j:Nat}(hv:v=((j:Nat):Int))(hj:j<w.length)
include hv hj
theorem av8(h:w[j].c_=0):tq w v:=by unfold tq;rw[im hv hj];exact h
theorem aoq(h:¬w[j].c_=0):¬tq w v:=by unfold tq;rw[im hv hj];exact h
theorem nn_y(h:¬w[j].c_=0):nnH w v:=by unfold nnH;rw[im hv hj];exact h
theorem nn_n(h:w[j].c_=0):¬nnH w v:=by unfold nnH;rw[im hv hj];exact fun g=>g h
end
def aqq(h:¬qp w A k.l>0)(h2:qp w A k.l=0):ad4 w A k:=⟨by omega,fun _=>h2⟩
def aqr(h:¬qp w A k.l>0)(h2:k.eq=false):ad4 w A k:=⟨by omega,fun g=>by rw[h2]at g;cases g⟩
def aqt(h:qp w A k.l>0):¬ad4 w A k:=fun g=>by have:=g.1;omega
def aqu(h:¬qp w A k.l=0)(he:k.eq=true):¬ad4 w A k:=fun g=>h (g.2 he)
section
variable{w:List GVal}{p:Int×Int}{i j:Nat}(h1:p.1=((i:Nat):Int))(hi:i<w.length)(h2:p.2=((j:Nat):Int))(hj:j<w.length)
include h1 hi h2 hj
theorem avb(k1:w[i].c_=2)(k2:w[j].c_=2)(h:(!(w[i].l_.toList==w[j].l_.toList))=false):N7 w p:=by grind[N7,im,toList_inj]
theorem avc(h:(!(w[i].l_.toList==w[j].l_.toList))=true):¬N7 w p:=by grind[N7,im]
theorem am5(h:¬w[i].c_=2):¬N7 w p:=by unfold N7;rw[im h1 hi];exact fun g=>h g.1
theorem am4(h:¬w[j].c_=2):¬N7 w p:=by unfold N7;rw[im h2 hj];exact fun g=>h g.2.1
theorem aw9(k1:w[i].c_=2)(k2:w[j].c_=2)(h:(w[i].l_.toList==w[j].l_.toList)=false):O4 w p:=by grind[O4,im]
theorem axa(h:(w[i].l_.toList==w[j].l_.toList)=true):¬O4 w p:=by grind[O4,im,toList_inj]
theorem aqh(h:¬w[i].c_=2):¬O4 w p:=by unfold O4;rw[im h1 hi];exact fun g=>h g.1
theorem aqg(h:¬w[j].c_=2):¬O4 w p:=by unfold O4;rw[im h2 hj];exact fun g=>h g.2.1
end
def auo(hv:t.v=((j:Nat):Int))(hj:j<w.length)(hk:w[j].c_=2)(h:(Jb t w[j].l_==t.ng)=false):Xz w t:=by grind[Xz,im,Se,Jb]
def auq(hv:t.v=((j:Nat):Int))(hj:j<w.length)(hk:¬w[j].c_=2):¬Xz w t:=by unfold Xz;rw[im hv hj];exact fun h=>hk h.1
def aup(hv:t.v=((j:Nat):Int))(hj:j<w.length)(h:(Jb t w[j].l_==t.ng)=true):¬Xz w t:=by grind[Xz,im,Se,Jb]
def Sd(t:PTest)(s:ByteArray)(hs:jw s)(h3:jw t.s)(hk:0<=t.kd/\t.kd<=3):PRet prog 94 [.agg (teA t),.v (.string s)] (fun r=>r=vB (Jb t s)):=by refine ovT [] [] func94 rfl rfl (cE (fun h2=>rV rfl rfl (congrArg vB (pg_0 h2))) (fun h2=>cE (fun h0=>ArgG.mk (Tr s hs t.s h3) rfl ?_) (fun h0=>?_)));rintro _ rfl;exact rV rfl rfl (congrArg vB (pg_1 h0));exact cE (fun h1=>rV rfl rfl (congrArg vB (pg_2 h1))) (fun h1=>rV rfl rfl (congrArg vB (pg_3 (by omega))))
def Z4(c:PCl)(w:List GVal)(hw:bq w (fun y=>FitVal y))(hc:HG c w):PRet prog 42 [.agg (clA c),.tree 3 (w.map gvA)] (fun r=>∃b:Bool,r=vB b/\(b=true↔HoldsG c w)):=by have hc1:=hc.l1;have hc2:=hc.l2;have g3:=hc.l3;have hc4:=hc.l4;have hc5:=hc.l5;have hc6:=hc.l6;have hc7:=hc.l7;refine ovT [30,44,97,106,123,125,131,133,140,142,146,148,162,164,170,172,179,181,185,187] [16] func42 rfl rfl ?_;refine LenG.of (LpG.on (fun k0:Nat=>(⟨fL [(1,.tree 3 (w.map gvA)),(2,.ptr 0 0 0),(22,.tree 1 (c.nul.map iA)),(23,vI c.nul.length),(24,vI k0)],hLz [(0,⟨0,clA c,0,false⟩)],1⟩:St)) (fun k0=>(c.nul.length-k0)) (fun k0=>(k0<=c.nul.length/\∀j (hl:j<c.nul.length),j<k0->tq w c.nul[j])) 0 (cnR rfl) ⟨azk _,fun j _ h=>absurd h (azl j)⟩ ?_);rintro k0 h3;obtain⟨hle_k0,hg⟩:=h3;apply cL<;>intro h4;obtain⟨j1,h0,hj1l⟩:∃j:Nat,c.nul[k0]=((j:Nat):Int)/\j<w.length:=⟨(c.nul[k0]).toNat,by have:=hc.nul _ (ay7 h4);omega,by have:=hc.nul _ (ay7 h4);omega⟩;refine IdxG.of ‹_› (OpG.lk (ae underlying36 yx rfl rfl h0 hj1l) ?_);apply cB<;>intro ht;have he:=ht;simp at he;exact rV rfl rfl (P6 fun h=>aoq h0 hj1l he (h.nul _ (ay7 h4)));have he:=ht;simp at he;refine⟨by omega,?_⟩;refine⟨(k0+1),by omega,(cnR rfl),?_⟩;refine⟨by omega,fun j hl h=>?_⟩;rcases azn.1 h with h|rfl;exact hg j hl h;exact av8 h0 hj1l (by simpa using ht);refine LenG.of (LpG.on (fun k2:Nat=>(⟨fL [(1,.tree 3 (w.map gvA)),(2,.ptr 0 0 0),(36,.tree 1 (c.nn.map iA)),(37,vI c.nn.length),(38,vI k2)],hLz [(0,⟨0,clA c,0,false⟩)],1⟩:St)) (fun k2=>(c.nn.length-k2)) (fun k2=>(k2<=c.nn.length/\∀j (hl:j<c.nn.length),j<k2->nnH w c.nn[j])) 0 (cnR rfl) ⟨azk _,fun j _ h=>absurd h (azl j)⟩ ?_);rintro k2 h3;obtain⟨hle_k2,hh⟩:=h3;apply cL<;>intro h5;obtain⟨j1,h0,hj1l⟩:∃j:Nat,c.nn[k2]=((j:Nat):Int)/\j<w.length:=⟨(c.nn[k2]).toNat,by have:=hc.nn _ (ay7 h5);omega,by have:=hc.nn _ (ay7 h5);omega⟩;refine IdxG.of ‹_› (OpG.lk (ae underlying36 yx rfl rfl h0 hj1l) ?_);apply cB<;>intro hu;have hf:=hu;simp at hf;exact rV rfl rfl (P6 fun h=>nn_n h0 hj1l hf (h.nn _ (ay7 h5)));have hf:=hu;simp at hf;refine⟨by omega,?_⟩;refine⟨(k2+1),by omega,(cnR rfl),?_⟩;refine⟨by omega,fun j hl h=>?_⟩;rcases azn.1 h with h|rfl;exact hh j hl h;exact nn_y h0 hj1l (by simpa using hu);have hz:=Db h5 hh;refine ArgG.mk (H2 c w hw g3 (hc.ax hz)) rfl ?_;rintro _ rfl;apply cB<;>intro g0;exact absurd g0 (by decide);have g4:(ou w c.aux).length=c.aux.length:=(by have h:=sj w c.aux c.aux.length (azm _);rwa [List.take_length]at h);refine ay ?_;refine LenG.of (LpG.on (fun k4:Nat=>(⟨fL [(1,.tree 3 (w.map gvA)),(2,.ptr 0 0 0),(9,.tree 1 (((ou w c.aux)).map iA)),(58,.tree 3 (c.ints.map cnA)),(59,vI c.ints.length),(60,vI k4)],hLz [(0,⟨0,clA c,0,false⟩)],1⟩:St)) (fun k4=>(c.ints.length-k4)) (fun k4=>(k4<=c.ints.length/\∀j (hl:j<c.ints.length),j<k4->ad4 w (ou w c.aux) c.ints[j])) 0 (cnR rfl) ⟨azk _,fun j _ h=>absurd h (azl j)⟩ ?_);rintro k4 h3;obtain⟨hle_k4,h9⟩:=h3;apply cL<;>intro h6;have g5:=hc.it hz _ (ay7 h6);refine IdxG.of ‹_› (ArgG.mk (C5 c.ints[k4].l w hw (ou w c.aux) ⟨by rw[g4];omega,fun _ _=>trivial⟩ g5) rfl ?_);rintro _ rfl;apply cB<;>intro g1;exact absurd g1 (by decide);apply cD<;>intro hv;exact cT (rV rfl rfl (P6 fun h=>aqt hv (h.ints _ (ay7 h6))));apply cB<;>intro hx;apply cN<;>intro hy;exact rV rfl rfl (P6 fun h=>aqu hy hx (h.ints _ (ay7 h6)));refine⟨by omega,?_⟩;refine⟨(k4+1),by omega,(cnR rfl),?_⟩;refine⟨by omega,fun j hl h=>?_⟩;rcases azn.1 h with h|rfl;exact h9 j hl h;exact aqq hv hy;refine cF ⟨by omega,⟨(k4+1),by omega,(cnR rfl),?_⟩⟩;refine⟨by omega,fun j hl h=>?_⟩;rcases azn.1 h with h|rfl;exact h9 j hl h;exact aqr hv hx;refine LenG.of (LpG.on (fun k6:Nat=>(⟨fL [(1,.tree 3 (w.map gvA)),(2,.ptr 0 0 0),(88,.tree 4 (c.tests.map teA)),(89,vI c.tests.length),(90,vI k6)],hLz [(0,⟨0,clA c,0,false⟩)],1⟩:St)) (fun k6=>(c.tests.length-k6)) (fun k6=>(k6<=c.tests.length/\∀j (hl:j<c.tests.length),j<k6->Xz w c.tests[j])) 0 (cnR rfl) ⟨azk _,fun j _ h=>absurd h (azl j)⟩ ?_);rintro k6 h3;obtain⟨hle_k6,hi⟩:=h3;apply cL<;>intro h7;obtain⟨g2,g6,g7⟩:=hc.ts _ (ay7 h7);obtain⟨j1,h0,hj1l⟩:∃j:Nat,c.tests[k6].v=((j:Nat):Int)/\j<w.length:=⟨(c.tests[k6].v).toNat,by have:=g2;omega,by have:=g2;omega⟩;refine IdxG.of ‹_› (OpG.lk (ae underlying36 yx rfl rfl h0 hj1l) ?_);apply cN<;>intro hj;refine⟨by kernel_rfl,?_⟩;exact cT (rV rfl rfl (P6 fun h=>auq h0 hj1l hj (h.tests _ (ay7 h7))));refine OpG.lk (ae underlying36 yx rfl rfl h0 hj1l) ?_;refine ArgG.mk (Sd c.tests[k6] w[j1].l_ (hw.2 _ (ay7 hj1l)).l_ g7 g6) rfl ?_;rintro _ rfl;refine⟨by kernel_rfl,?_⟩;apply cB<;>intro hk;exact rV rfl rfl (P6 fun h=>aup h0 hj1l hk (h.tests _ (ay7 h7)));refine⟨by omega,?_⟩;refine⟨(k6+1),by omega,(cnR rfl),?_⟩;refine⟨by omega,fun j hl h=>?_⟩;rcases azn.1 h with h|rfl;exact hi j hl h;exact auo h0 hj1l hj hk;refine LenG.of (LpG.on (fun k8:Nat=>(⟨fL [(1,.tree 3 (w.map gvA)),(2,.ptr 0 0 0),(116,.tree 2 (c.same.map paA)),(117,vI c.same.length),(118,vI k8)],hLz [(0,⟨0,clA c,0,false⟩)],1⟩:St)) (fun k8=>(c.same.length-k8)) (fun k8=>(k8<=c.same.length/\∀j (hl:j<c.same.length),j<k8->N7 w c.same[j])) 0 (cnR rfl) ⟨azk _,fun j _ h=>absurd h (azl j)⟩ ?_);rintro k8 h3;obtain⟨hle_k8,hm⟩:=h3;apply cL<;>intro h1;have ha:=(hc.sm _ (ay7 h1)).1;have hb:=(hc.sm _ (ay7 h1)).2;obtain⟨j1,h0,hj1l⟩:∃j:Nat,c.same[k8].1=((j:Nat):Int)/\j<w.length:=⟨(c.same[k8].1).toNat,by have:=ha;omega,by have:=ha;omega⟩;obtain⟨j2,h8,hj2l⟩:∃j:Nat,c.same[k8].2=((j:Nat):Int)/\j<w.length:=⟨(c.same[k8].2).toNat,by have:=hb;omega,by have:=hb;omega⟩;refine IdxG.of ‹_› (OpG.lk (er underlying145 sz3 rfl rfl rfl rfl rfl rfl) ?_);refine OpG.lk (ae underlying36 yx rfl rfl h0 hj1l) ?_;apply cN<;>intro hn;refine cT ⟨by kernel_rfl,cT ?_⟩;exact rV rfl rfl (P6 fun h=>am5 h0 hj1l h8 hj2l hn (h.same _ (ay7 h1)));refine OpG.lk (er underlying145 sz3 rfl rfl rfl rfl rfl rfl) ?_;refine OpG.lk (ae underlying36 yx rfl rfl h8 hj2l) ?_;apply cN<;>intro ho;refine⟨by kernel_rfl,?_⟩;exact cT (rV rfl rfl (P6 fun h=>am4 h0 hj1l h8 hj2l ho (h.same _ (ay7 h1))));refine OpG.lk (er underlying145 sz3 rfl rfl rfl rfl rfl rfl) ?_;refine OpG.lk (ae underlying36 yx rfl rfl h0 hj1l) ?_;refine OpG.lk (er underlying145 sz3 rfl rfl rfl rfl rfl rfl) ?_;refine OpG.lk (ae underlying36 yx rfl rfl h8 hj2l) ?_;refine⟨by kernel_rfl,?_⟩;apply cB<;>intro hp;exact rV rfl rfl (P6 fun h=>avc h0 hj1l h8 hj2l hp (h.same _ (ay7 h1)));refine⟨by omega,?_⟩;refine⟨(k8+1),by omega,(cnR rfl),?_⟩;refine⟨by omega,fun j hl h=>?_⟩;rcases azn.1 h with h|rfl;exact hm j hl h;exact avb h0 hj1l h8 hj2l hn ho hp;refine LenG.of (LpG.on (fun k10:Nat=>(⟨fL [(1,.tree 3 (w.map gvA)),(155,.tree 2 (c.diff.map paA)),(156,vI c.diff.length),(157,vI k10)],hLz [],1⟩:St)) (fun k10=>(c.diff.length-k10)) (fun k10=>(k10<=c.diff.length/\∀j (hl:j<c.diff.length),j<k10->O4 w c.diff[j])) 0 (cnR rfl) ⟨azk _,fun j _ h=>absurd h (azl j)⟩ ?_);rintro k10 h3;obtain⟨hle_k10,hd⟩:=h3;apply cL<;>intro h2;have ha:=(hc.df _ (ay7 h2)).1;have hb:=(hc.df _ (ay7 h2)).2;obtain⟨j1,h0,hj1l⟩:∃j:Nat,c.diff[k10].1=((j:Nat):Int)/\j<w.length:=⟨(c.diff[k10].1).toNat,by have:=ha;omega,by have:=ha;omega⟩;obtain⟨j2,h8,hj2l⟩:∃j:Nat,c.diff[k10].2=((j:Nat):Int)/\j<w.length:=⟨(c.diff[k10].2).toNat,by have:=hb;omega,by have:=hb;omega⟩;refine IdxG.of ‹_› (OpG.lk (er underlying145 sz3 rfl rfl rfl rfl rfl rfl) ?_);refine OpG.lk (ae underlying36 yx rfl rfl h0 hj1l) ?_;apply cN<;>intro hq;refine cT ⟨by kernel_rfl,cT ?_⟩;exact rV rfl rfl (P6 fun h=>aqh h0 hj1l h8 hj2l hq (h.diff _ (ay7 h2)));refine OpG.lk (er underlying145 sz3 rfl rfl rfl rfl rfl rfl) ?_;refine OpG.lk (ae underlying36 yx rfl rfl h8 hj2l) ?_;apply cN<;>intro hr;refine⟨by kernel_rfl,?_⟩;exact cT (rV rfl rfl (P6 fun h=>aqg h0 hj1l h8 hj2l hr (h.diff _ (ay7 h2))));refine OpG.lk (er underlying145 sz3 rfl rfl rfl rfl rfl rfl) ?_;refine OpG.lk (ae underlying36 yx rfl rfl h0 hj1l) ?_;refine OpG.lk (er underlying145 sz3 rfl rfl rfl rfl rfl rfl) ?_;refine OpG.lk (ae underlying36 yx rfl rfl h8 hj2l) ?_;refine⟨by kernel_rfl,?_⟩;apply cB<;>intro hs;exact rV rfl rfl (P6 fun h=>axa h0 hj1l h8 hj2l hs (h.diff _ (ay7 h2)));refine⟨by omega,?_⟩;refine⟨(k10+1),by omega,(cnR rfl),?_⟩;refine⟨by omega,fun j hl h=>?_⟩;rcases azn.1 h with h|rfl;exact hd j hl h;exact aw9 h0 hj1l h8 hj2l hq hr hs;exact rV rfl rfl ⟨true,rfl,fun _=>⟨Db h4 hg,hz,Db h6 h9,Db h7 hi,Db h1 hm,Db h2 hd⟩,fun _=>rfl⟩
def Jj(c:PCl)(w:List GVal)(hw:bq w (fun y=>FitVal y))(hc:HG c w):PRet prog 41 [.agg (clA c),.tp [.tree 3 (w.map gvA)] 0] (fun r=>∃b:Bool,r=vB b/\(b=true↔HoldsG c w)):=by refine ovT [] [] func41 rfl rfl (ArgG.mk (Z4 c w hw hc) rfl ?_);rintro _ ⟨b0,rfl,h0⟩;exact rV rfl rfl ⟨_,rfl,h0⟩
def Z3(l:List PCl)(hl:bq l (fun y=>True))(w:List GVal)(hw:bq w (fun y=>FitVal y))(h6:∀c∈l,HG c w)(hl1:l.length<=1000):PRet prog 91 [.tree 7 (l.map clA),.clo 41 [.tp [.tree 3 (w.map gvA)] 0]] (fun r=>∃i:Int,r=vI i/\(0<=i↔∃c∈l,HoldsG c w)):=by
 refine ovT [16] [] func91 rfl rfl (LenG.of (LpG.on (fun k0:Nat=>(⟨fL [(0,.tree 7 (l.map clA)),(1,.clo 41 [.tp [.tree 3 (w.map gvA)] 0]),(7,vI l.length),(8,vI k0)],hLz [],0⟩:St)) (fun k0=>(l.length-k0)) (fun k0=>(k0<=l.length/\∀j (hl:j<l.length),j<k0->¬HoldsG l[j] w)) 0 (cnR rfl) ⟨azk _,fun j _ h=>absurd h (azl j)⟩ ?_));rintro k0 h5;have hgr_k0:l.length<=140737488355328:=hl.1
 obtain⟨hle_k0,h1⟩:=h5;apply cL<;>intro h2;obtain⟨_,⟨b16,rfl,h3⟩,h4⟩:=Jj l[k0] w hw (h6 _ (ay7 h2));refine IdxG.of ‹_› (OpG.lk (sk ax4 rfl rfl rfl h4) (cB (fun h0=>rV rfl rfl ⟨_,rfl,fun _=>⟨_,ay7 h2,h3.1 h0⟩,fun _=>by omega⟩) (fun h0=>⟨by omega,⟨(k0+1),by omega,(cnR rfl),⟨by omega,fun j hl h=>?_⟩⟩⟩)));rcases azn.1 h with h|rfl;exact h1 j hl h;exact fun h=>by rw[h3.2 h]at h0;cases h0
 exact rV rfl rfl ⟨_,rfl,fun h=>absurd h (by decide),fun⟨c,hc,h⟩=>by obtain⟨j,hj,rfl⟩:=azs hc;exact absurd h (h1 j hj (by omega))⟩
def J3(l:List PCl)(hl:bq l (fun y=>True))(w:List GVal)(hw:bq w (fun y=>FitVal y))(h0:∀c∈l,HG c w)(h1:l.length<=1000):PRet prog 40 [.tree 7 (l.map clA),.clo 41 [.tp [.tree 3 (w.map gvA)] 0]] (fun r=>∃b:Bool,r=vB b/\(b=true↔∃c∈l,HoldsG c w)):=by refine ovT [] [] func40 rfl rfl (ArgG.mk (Z3 l hl w hw h0 h1) rfl ?_);rintro _ ⟨i0,rfl,h2⟩;exact rV rfl rfl ⟨_,rfl,by rw[<-h2];simp⟩
def xa(p:PPred)(w:List GVal)(hw:bq w (fun y=>FitVal y))(h4:p.cols=((p.vars.length:Nat):Int))(ha:bq p.vars (fun _=>True))(hb:Bel p.vars w->∀c∈p.cls,HG c w)(h8:p.cls.length<=1000):PRet prog 15 [.agg (prA p),.tree 3 (w.map gvA)] (fun r=>∃b:Bool,r=vB b/\(b=true↔Bel p.vars w/\∃c∈p.cls,HoldsG c w)):=by refine ovT [12,25] [5] func15 rfl rfl (OpG.lk (Po (n:=p.vars.length) underlying54 uw rfl rfl h4 (azm _)) (ArgG.mk (Hz w hw (p.vars.take p.vars.length) (by rw[List.take_length];exact ha)) rfl ?_));rintro _ ⟨b0,rfl,h6⟩;refine cB (fun h0=>rV rfl rfl ⟨_,rfl,fun h=>absurd h az7,fun h=>by have h1:=h6.2 (by rw[List.take_length];exact h.1);rw[h1]at h0;simp at h0⟩) (fun h0=>LenG.of (cB (fun h3=>by have h7:=h3;simp at h7;refine RegG.via (fun _ h=>bc [1] 3 (.tp [.tree 3 (w.map gvA)] 0) (FzP.ptr (b:=⟨0,[.tree 3 (w.map gvA)],0,false⟩) (azc.2 rfl) rfl rfl rfl rfl (fun i h1 h2=>match i,h1 with|0,_=>FzP.pure rfl)) rfl h) (ay (OpG.lk (LOp.makeFunc) (ArgG.mk (J3 p.cls ⟨by have:=h8;omega,fun _ _=>trivial⟩ w hw (hb (by have h:=h6.1 (nb h0);rwa [List.take_length]at h)) h8) rfl ?_)));rintro _ ⟨b1,rfl,h9⟩;refine rV rfl rfl (have h5:=h6.1 (nb h0);?_);rw[List.take_length]at h5;exact⟨_,rfl,fun h=>⟨h5,h9.1 h⟩,fun h=>h9.2 h.2⟩) (fun h3=>?_)));exfalso;rw[h4]at h3;simp at h3
section
variable{l:List PVar}{w:List GVal}{v:Int}
def S1(hB:Bel l w)(hv:TyV l 1 v)(h:nnH w v):∃j,∃hj:j<w.length,v=((j:Nat):Int)/\w[j].c_=1:=by obtain⟨j,hj,e,ht⟩:=hv;have h0:j<w.length:=(by rw[hB.1];exact hj);refine⟨j,h0,e,?_⟩;unfold nnH at h;rw[im e h0]at h;rcases rf (Nh hB h0)with⟨k,_⟩|⟨k,_⟩|⟨k,_,_,_,g⟩;exact absurd k h;exact k;rw[ht]at g;omega
def S0(hB:Bel l w)(hv:TyV l 2 v)(h:nnH w v):∃j,∃hj:j<w.length,v=((j:Nat):Int)/\w[j].c_=2/\w[j].l_.size<=16:=by obtain⟨j,hj,e,ht⟩:=hv;have h0:j<w.length:=(by rw[hB.1];exact hj);refine⟨j,h0,e,?_⟩;unfold nnH at h;rw[im e h0]at h;rcases rf (Nh hB h0)with⟨k,_⟩|⟨k,_,g,_⟩|⟨k,_,_,g,_⟩;exact absurd k h;rw[ht]at g;omega;exact⟨k,g⟩
end
def aac{a m:Int}(hb:1<=b)(h:cq a<=m):cq (a.fdiv b)<=m/b+1:=by have ha:=ap a;rw[Int.fdiv_eq_ediv_of_nonneg _ (by omega)];have h1:a/b<=m/b:=Int.ediv_le_ediv (by omega) (by omega);have h2:-(m/b)-1<=a/b:=(by refine Int.le_ediv_of_mul_le (by omega) ?_;have h3:=Int.emod_lt_of_pos m (show 0<b by omega);have h4:=Int.mul_ediv_add_emod m b;have h5:(-(m/b)-1)*b=-(b*(m/b))-b:=(by rw[Int.sub_mul,Int.neg_mul,Int.one_mul,Int.mul_comm]);rw[h5];omega);have hc:=ap (a/b);omega
section
variable{l:List PVar}{c:PCl}{N:List Int}{n:Int}{w:List GVal}
def VbI(l:List PVar)(c:PCl)(w:List GVal)(j:Nat):Prop:=∀i,i<j->cq ((ou w (c.aux.take j)).getD i 0)<=(s8 c l j).getD i 0
def ad8(hn:n=((l.length:Nat):Int))(hB:Bel l w)(h0:LOk l)(h1:∀v∈c.nn,nnH w v)(hj:j<=c.aux.length)(hV:VbI l c w j)(hl:LinV l c.nn j g):∀d∈g.cs,cq (vvR w (ou w (c.aux.take j)) d.v)<=bvN ((w.length:Nat):Int) (s8 c l j) d.v:=fun d hd=>by have hr:=hl.rng d hd;have hwl:=hB.1;by_cases h:d.v<((l.length:Nat):Int);obtain⟨ht,hm⟩:=hl.ty d hd h;obtain⟨i,hi,e,hk⟩:=S1 hB ht (h1 _ hm);rw[afk e hi];unfold bvN;rw[azf (by omega)];have:=Wq hB h0 hi hk;have hc:=ap w[i].v_;omega;unfold vvR bvN;rw[azg (by omega),azg (by omega)];exact hV _ (by omega)
def Vw(hn:n=((l.length:Nat):Int))(hN:c.nn=srtU N)(ha:AxW l n N c.aux)(hB:Bel l w)(h2:LOk l)(h1:∀v∈c.nn,nnH w v)(hj:j<=c.aux.length)(hV:VbI l c w j)(h0:g.cs.length<=1000000)(hl:LinV l c.nn j g)(hb:bdF n (s8 c l j) g<=1152921504606846977):CmpF w (ou w (c.aux.take j)) g:=by have hwl:=hB.1;have hal:=sj w c.aux j hj;exact⟨h0,fun d hd=>by have:=hl.rng d hd;omega,fun d hd h=>by obtain⟨ht,hm⟩:=hl.ty d hd (by omega);obtain⟨i,hi,e,hk⟩:=S1 hB ht (h1 _ hm);rw[im e hi];exact hk,s8 c l j,(C9 hn hN ha j hj).nn,ad8 hn hB h2 h1 hj hV hl,by have e:((w.length:Nat):Int)=n:=(by omega);rw[e];exact hb⟩
def asl(hn:n=((l.length:Nat):Int))(hN:c.nn=srtU N)(ha:AxW l n N c.aux)(hB:Bel l w)(h0:LOk l)(h4:∀v∈c.nn,nnH w v)(hj:j<=c.aux.length)(hV:VbI l c w j){o:List AV}(ho:TmG l N o)(hr:RepT n (c.aux.take j) o g):CmpF w (ou w (c.aux.take j)) g:=by have hi:=C9 hn hN ha j hj;obtain⟨y,rfl,hy⟩:=ho.tm.open_;obtain⟨h1,h2,h3⟩:=Ei hn hy ho.tv ho.sm (nn:=c.nn) (fun v hv=>by rw[hN];exact la.2 (ho.oc v hv)) hr hi.ok;rw[List.length_take,Nat.min_eq_left hj]at h1;exact Vw hn hN ha hB h0 h4 hj hV (p7 ho.ln hr) h1 (by omega)
def ajn{bs:List Int}(h:∀d∈f.cs,cq (vvR w A d.v)<=bvN n bs d.v):cq (qp w A f)<=bdF n bs f:=by have h1:=Iu h;unfold qp bdF;have a1:=ap f.k;have a2:=ap (ql w A f.cs);have a3:=ap (f.k+ql w A f.cs);omega
def afm(hn:n=((l.length:Nat):Int))(hN:c.nn=srtU N)(ha:AxW l n N c.aux)(hB:Bel l w)(h2:LOk l)(h0:∀v∈c.nn,nnH w v)(hj:j<c.aux.length)(hV:VbI l c w j):VbI l c w (j+1):=fun i hi=>by
 have h3:=sj w c.aux j (by omega);have h4:=v7 c l j
 rw[azj hj,wa];show cq ((ou w (c.aux.take j)++[axV w (ou w (c.aux.take j)) c.aux[j]]).getD i 0)<=(s8 c l j++[bV c l (s8 c l j) j]).getD i 0
 by_cases h5:i<j;rw[List.getD_eq_getElem?_getD,List.getD_eq_getElem?_getD,List.getElem?_append_left (by omega),List.getElem?_append_left (by omega),<-List.getD_eq_getElem?_getD,<-List.getD_eq_getElem?_getD];exact hV i h5;obtain rfl:i=j:=by omega
 rw[List.getD_eq_getElem?_getD,List.getD_eq_getElem?_getD,List.getElem?_append_right (by omega),List.getElem?_append_right (by omega),h3,h4];simp only[Nat.sub_self,List.getElem?_cons_zero,Option.getD_some];have eD:c.aux.getD i default=c.aux[i]:=by simp[hj]
 unfold bV axV;rw[eD];rcases ha i hj with⟨v,h1,ht,h6⟩|⟨o,g,b,h1,hb,ho,hr⟩;rw[h1];obtain⟨k,hk,e,_,hs⟩:=S0 hB ht (h0 v (by rw[hN];exact la.2 h6));show cq (((bj w v).l_.size:Nat):Int)<=16
 rw[im e hk];have:=ap ((w[k].l_.size:Nat):Int)
 omega;rw[h1];have h7:=C9 hn hN ha i (by omega)
 have hf:=akh hn hN h7 (by omega) ho hr;show cq (if b=0 then _ else(qp w (ou w (c.aux.take i)) g).fdiv b)<=if b=0 then 16 else fV g c.nn l (s8 c l i)/b+1
 rw[azf (by omega),azf (by omega),hf];have hl:=ae4 hn hN ho hr
 rw[List.length_take,Nat.min_eq_left (by omega)]at hl;have h8:((w.length:Nat):Int)=n:=by have:=hB.1;omega
 refine aac hb.1 (ajn fun d hd=>have:=ad8 hn hB h2 h0 (by omega) hV hl d hd;?_);rwa [h8]at this
theorem Qf(hn:n=((l.length:Nat):Int))(hN:c.nn=srtU N)(ha:AxW l n N c.aux)(hB:Bel l w)(h0:LOk l)(h1:∀v∈c.nn,nnH w v):∀j,j<=c.aux.length->VbI l c w j
 |0,_=>fun i hi=>absurd hi (azl i)
 |j+1,hj=>afm hn hN ha hB h0 h1 hj (Qf hn hN ha hB h0 h1 j (by omega))
end
section
variable{l:List PVar}{n:Int}{xs:List GLit}{b:KBl}{w:List GVal}
def inW(hB:Bel l w)(h:pk l v):0<=v/\v<((w.length:Nat):Int):=by obtain⟨j,hj,e⟩:=h;have:=hB.1;omega
def acf(h:af8 t=true):(0<=t.kd/\t.kd<=3)/\t.s.size<=16:=by unfold af8 at h;simp only[az8,az9]at h;omega
def arz(hn:n=((l.length:Nat):Int))(hx:∀x∈xs,LitOk l x)(hv:∀x∈xs,LitV l x)(hxl:xs.length<=100000)(h:BldR l (b00 n) xs b)(hB:Bel l w)(h5:LOk l):HG (l9 b) w:=by
 have h8:=Wl h;have h2:=Hy h
 rw[h8]at h2;have hN:(l9 b).nn=srtU b.N:=rfl
 have h9:=Wj h hx;obtain⟨z1,z2,z3,z4,z5,z6,z7,z8⟩:=h9;have inN:∀{v:Int},(∃x∈xs,nnP x v)->v∈(l9 b).nn:=fun e=>la.2 ((Wn h _).2 e)
 have hu:=db b.U;have hnl:=db b.N
 have pr:∀(P:List (Int×Int)) (k:Int),(k=6\/k=7)->(∀p∈P,∃x∈xs,x.e_.c_=k/\p=(x.e_.p_,x.e_.w_))->∀p∈P,(0<=p.1/\p.1<((w.length:Nat):Int))/\(0<=p.2/\p.2<((w.length:Nat):Int)):=fun P k hk hP p hp=>by obtain⟨x,h1,h7,e⟩:=hP p hp;have h6:=(hv x h1).v6 (by omega);rw[e];exact⟨inW hB h6.1.inn,inW hB h6.2.1.inn⟩
 refine⟨fun v hm=>by obtain⟨x,h1,hk,rfl⟩:=(aa5 h v).1 (la.1 hm);exact inW hB ((hv x h1).v0 (.inl hk)),fun v hm=>inW hB (aos hx hv h v (la.1 hm)),fun h3 k hk=>?_,fun h3 k hk=>?_,fun t ht=>?_,pr _ 6 (.inl rfl) fun p hp=>(aa6 h p).1 hp,pr _ 7 (.inr rfl) fun p hp=>(aa7 h p).1 hp,?_,?_,?_,?_,?_,?_,?_⟩;have hk:k<b.A.length:=hk
 have hV:=Qf (c:=l9 b) hn hN h2 hB h5 h3 k (by show k<=b.A.length;omega);rcases h2 k hk with⟨v,e,ht,ha⟩|⟨o,g,d,e,hd,ho,hr⟩;refine⟨fun _=>?_,fun h0=>absurd (by show b.A[k].by_=0;rw[e];rfl) h0⟩;obtain⟨j,hj,e2,h7,_⟩:=S0 hB ht (h3 v (la.2 ha));exact⟨j,hj,by show b.A[k].tx=_;rw[e];exact e2,h7⟩;have eb:b.A[k].by_=d:=by rw[e]
 have eo:b.A[k].of_=g:=by rw[e]
 refine⟨fun h0=>by have h0:b.A[k].by_=0:=h0;omega,fun _=>⟨by show 1<=b.A[k].by_;omega,?_⟩⟩;show CmpF w (ou w (b.A.take k)) b.A[k].of_
 rw[eo];exact asl (c:=l9 b) hn hN h2 hB h5 h3 (by show k<=b.A.length;omega) hV ho hr;obtain⟨x,h1,hi,f,e,hr⟩:=(Wo h).1 k hk;have ht:=(hx x h1).tm hi
 have h4:=C9 (c:=l9 b) hn hN h2 b.A.length (azm _);have eT:(l9 b).aux.take b.A.length=b.A:=List.take_length
 have hA:atj n b.A (s8 (l9 b) l b.A.length):=by have:=h4.ok;rwa [eT]at this
 obtain⟨g1,g2,g3⟩:=Ei hn ht.tm ht.tv ht.sm (nn:=(l9 b).nn) (fun v hv=>inN ⟨x,h1,.inl ⟨hi,hv⟩⟩) hr hA;obtain⟨k1,k2,k3⟩:=aqs (x:=x) g1 g2 g3;have hV:=Qf (c:=l9 b) hn hN h2 hB h5 h3 b.A.length (azm _)
 have hb:(kv x f).l.cs.length<=1000000:=by
  have:=p7 ht.ln hr;unfold kv Ou;split;exact this;split;split;show(f.cs.map _).length<=_
  rw[aze];exact this;exact this;exact this
 rw[e];have:=Vw (c:=l9 b) hn hN h2 hB h5 h3 (azm b.A.length) hV hb k1 k2
 rwa [eT]at this;obtain⟨x,h1,hk,e⟩:=(Wm h t).1 ht;obtain⟨t1,t2⟩:=(hv x h1).v5 hk;have:=acf t2
 rw[e];exact⟨inW hB t1.inn,this.1,by show(ak7 x).s.size<=140737488351232;omega⟩;show(srtU b.U).length<=_
 omega;show(srtU b.N).length<=_
 omega;show b.A.length<=_
 omega;show b.I.length<=_
 omega;show b.T.length<=_
 omega;show b.S.length<=_
 omega;show b.D.length<=_
 omega
end
section
variable{w:List GVal}
theorem Wx:∀(M:List PAux) (A:List Int),∃z,M.foldl (fun A x=>A++[axV w A x]) A=A++z
 |[],A=>⟨[],by simp⟩
 |x::M,A=>by obtain⟨z,h⟩:=Wx M (A++[axV w A x]);exact⟨axV w A x::z,by rw[List.foldl_cons,h];simp⟩
def Nk(L:List PAux)(j:Nat):∃z,ou w L=ou w (L.take j)++z:=by have h:=Wx (w:=w) (L.drop j) (ou w (L.take j));have e:ou w L=(L.drop j).foldl (fun A x=>A++[axV w A x]) (ou w (L.take j)):=(by unfold ou;rw[<-List.foldl_append,List.take_append_drop]);rw[e];exact h
theorem W0{L:List PAux}{x:PAux}(h:L[j]? =some x):(ou w L).getD j 0=axV w (ou w (L.take j)) x:=by obtain⟨hj,e⟩:=az2.1 h;obtain⟨z,hz⟩:=Nk (w:=w) L (j+1);have hl:=sj w L j (by omega);rw[azj hj,wa,e]at hz;rw[hz,List.append_assoc,List.getD_eq_getElem?_getD,List.getElem?_append_right (by omega),hl];simp
theorem Q4{a b:List PCoef}(h:a.Perm b):ql w A a=ql w A b:=by
 induction h with
 |nil=>rfl
 |cons x _ ih=>simp only[ql,ih]
 |swap x y l=>simp only[ql];omega
 |trans _ _ h1 h2=>rw[h1,h2]
theorem Lc{A z:List Int}:∀{cs:List PCoef},(∀d∈cs,d.v<((w.length:Nat):Int)+((A.length:Nat):Int))->ql w (A++z) cs=ql w A cs
 |[],_=>rfl
 |d::cs,h=>by
  have h1:=h d (by simp)
  have e:vvR w (A++z) d.v=vvR w A d.v:=by
   unfold vvR;split;rw[List.getD_eq_getElem?_getD,List.getD_eq_getElem?_getD,List.getElem?_append_left (by omega)];rfl
  simp only[ql];rw[e,Lc fun d hd=>h d (List.mem_cons_of_mem _ hd)]
theorem Ld{A:List Int}{ρ:Int->Int->Int}:∀(ps:List GPart) (vs:List Int),vs.length=ps.length->(∀i (h:i<ps.length),vvR w A (vs.getD i 0)=B1 ρ ps[i])->ql w A ((vw vs ps).map fun p=>⟨p.1,p.2⟩)=pn ρ ps
 |[],[],_,_=>rfl
 |[],_::_,h,_=>by simp at h
 |_::_,[],h,_=>by simp at h
 |p::ps,v::vs,h,hb=>by have ih:=Ld ps vs (by simpa using h) (fun i hi=>by have:=hb (i+1) (by simp;omega);simpa using this);have h0:=hb 0 (by simp);simp only[vw,azw,List.zip_cons_cons,ql,pn,P3]at ih ⊢;rw[ih];simp only[List.getD_cons_zero,List.getElem_cons_zero]at h0;rw[h0]
end
section
variable{l:List PVar}{N:List Int}{n:Int}{w:List GVal}{L:List PAux}
def agy(hn:n=((l.length:Nat):Int))(hB:Bel l w)(ha:AxW l n N L)(hr:IsTm r):TmV l r->(∀v∈d7 r,nnH w v)->∀f,RepT n L r f->qp w (ou w L) f=tvL (mq w) r:=
 IsTm.ind (M:=fun r=>TmV l r->(∀v∈d7 r,nnH w v)->∀f,RepT n L r f->qp w (ou w L) f=tvL (mq w) r) (fun x hx ih hv h6 f h=>by
  obtain⟨vs,gs,l1,l2,a1,a2,rfl⟩:=mt h;obtain⟨_,hp⟩:=Dx hn hx hv l1 a1 a2;have h8:=tmV.1 hv
  have hwl:=hB.1;rw[kp];show x.f_+ql w (ou w L) (B4 (vw vs x.a_))=_
  rw[Q4 hp,Ld (ρ:=mq w) x.a_ vs l1];intro i hi;have hr:=a1 i hi
  have h3:=ay7 hi;have hf:=hx.a_.2 _ h3
  have hk:=hf.kd;have hm:=h8 _ h3
  have k3:x.a_[i].c_=0\/x.a_[i].c_=1\/x.a_[i].c_=2:=by have:=hk.1;omega
  have h7:¬x.a_[i].c_=2->nnH w x.a_[i].p_:=fun h2=>h6 _ (by rw[dj,List.mem_flatMap];exact⟨_,h3,by unfold lm;rw[azf h2];simp⟩);unfold B1;rcases k3 with k3|k3|k3;obtain⟨j,hj,e,h9⟩:=S1 hB (hm.1 k3) (h7 (by omega));rw[azf (by omega),hr.1 k3,afk e hj,k3];unfold mq;rw[azg rfl,im e hj,azg h9];obtain⟨j,e1,e2⟩:=hr.2.1 k3;obtain⟨i2,hb,e,hc,_⟩:=S0 hB (hm.2.1 k3) (h7 (by omega));rw[azf (by omega),e2,k3];unfold vvR;rw[azg (by omega),show(n+((j:Nat):Int)-((w.length:Nat):Int)).toNat=j by omega,W0 e1];have ea:axV w (ou w (L.take j)) (yo x.a_[i].p_)=(((bj w x.a_[i].p_).l_.size:Nat):Int):=by unfold axV;rw[azg (show(yo x.a_[i].p_).by_=0 from rfl)];rfl
  rw[ea];unfold mq;rw[azf (by decide),azg rfl,im e hb,azg hc];obtain⟨j,e1,e2⟩:=hr.2.2 k3;obtain⟨o,ho⟩:=az4.1 (hk.2.1 k3).1;have h5:o∈x.a_[i].of_:=by rw[ho];simp
  have hby:=(hk.2.1 k3).2;have he:∀v∈d7 o,nnH w v:=fun v hv=>h6 v (by rw[dj,List.mem_flatMap];refine⟨_,h3,?_⟩;unfold lm;rw[azg k3,ho];simpa[ve]using hv)
  have e3:=ih _ h3 o h5 (hm.2.2.1 k3 o h5) he _ (a2 i hi k3 o h5);rw[azg k3,e2];unfold vvR;rw[azg (by omega),show(n+((j:Nat):Int)-((w.length:Nat):Int)).toNat=j by omega,W0 e1];unfold axV;show(if x.a_[i].by_=0 then _ else(qp w (ou w (L.take j)) (gs.getD i wj)).fdiv x.a_[i].by_)=_
  rw[azf (by omega),ho];have e5:ofL (mq w) [o]=tvL (mq w) o:=by simp only[ofL]
  rw[e5,<-e3];obtain⟨hj,ej⟩:=az2.1 e1;obtain⟨z,hz⟩:=Nk (w:=w) L j;have hal:=sj w L j (by omega)
  have hg:∀d∈(gs.getD i wj).cs,d.v<((w.length:Nat):Int)+(((ou w (L.take j)).length:Nat):Int):=fun d hd=>by
   rcases ha j hj with⟨v,h1,_⟩|⟨o',g',b',h1,_,h4,hh⟩;rw[ej]at h1;have:=congrArg PAux.by_ h1
   have h0:x.a_[i].by_=0:=this;omega;rw[ej]at h1;have e6:gs.getD i wj=g':=congrArg PAux.of_ h1
   rw[e6]at hd;obtain⟨y,rfl,hy⟩:=h4.tm.open_;have:=(I8 hn hy h4.tv h4.sm (nn:=N) h4.oc hh).rng d hd
   rw[List.length_take,Nat.min_eq_left (by omega)]at this;omega
  have e7:qp w (ou w L) (gs.getD i wj)=qp w (ou w (L.take j)) (gs.getD i wj):=by unfold qp;rw[hz,Lc hg]
  rw[e7]) hr
end
structure LitH(w:List GVal)(x:GLit):Prop where
 nn:∀v,nnP x v->nnH w v
 h0:x.e_.c_=0->tq w x.e_.p_
 h2:x.e_.c_=2->tvL (mq w) (tmA x.e_.o_)<=0
 h3:x.e_.c_=3->tvL (mq w) (tmA x.e_.o_)=0
 h4:x.e_.c_=4->if x.F_=true then 0<tvL (mq w) (tmA x.e_.o_)else tvL (mq w) (tmA x.e_.o_)<0
 h5:x.e_.c_=5->Xz w (ak7 x)
 h6:x.e_.c_=6->N7 w (x.e_.p_,x.e_.w_)
 h7:x.e_.c_=7->O4 w (x.e_.p_,x.e_.w_)
theorem Lb{w:List GVal}{A:List Int}:∀cs:List PCoef,ql w A (cs.map fun c=>⟨c.v,-c.n⟩)=-ql w A cs
 |[]=>rfl
 |c::cs=>by simp only[azw,ql,Lb cs,Int.neg_mul];omega
def Vh{x:GLit}{t:Int}(hi:isI x)(ht:qp w A f=t):ad4 w A (kv x f)↔(x.e_.c_=2->t<=0)/\(x.e_.c_=3->t=0)/\(x.e_.c_=4->if x.F_=true then 0<t else t<0):=by grind[isI,ad4,kv,qp,Ou,ql,Lb]
section
variable{l:List PVar}{n:Int}{xs:List GLit}{b:KBl}{w:List GVal}
def Hx(hn:n=((l.length:Nat):Int))(hx:∀x∈xs,LitOk l x)(h:BldR l (b00 n) xs b)(hB:Bel l w):HoldsG (l9 b) w↔∀x∈xs,LitH w x:=by
 have hb:=Wl h;have ha:=Hy h
 rw[hb]at ha;have val:∀x∈xs,isI x->(∀v,nnP x v->nnH w v)->∀f,RepT n b.A (tmA x.e_.o_) f->qp w (ou w b.A) f=tvL (mq w) (tmA x.e_.o_):=fun x h1 hi h9 f hr=>by have ht:=(hx x h1).tm hi;exact agy hn hB ha (Cr ht.tm) ht.tv (fun v hv=>h9 v (.inl ⟨hi,hv⟩)) f hr
 constructor;intro hh x h1;have h9:∀v,nnP x v->nnH w v:=fun v hp=>hh.nn v (la.2 ((Wn h v).2 ⟨x,h1,hp⟩))
 have h8:isI x->(x.e_.c_=2->tvL (mq w) (tmA x.e_.o_)<=0)/\(x.e_.c_=3->tvL (mq w) (tmA x.e_.o_)=0)/\(x.e_.c_=4->if x.F_=true then 0<tvL (mq w) (tmA x.e_.o_)else tvL (mq w) (tmA x.e_.o_)<0):=fun hi=>by obtain⟨f,hm,hr⟩:=(Wo h).2 x h1 hi;exact(Vh hi (val x h1 hi h9 f hr)).1 (hh.ints _ hm)
 refine⟨h9,fun e=>hh.nul _ (la.2 ((aa5 h _).2 ⟨x,h1,e,rfl⟩)),fun e=>(h8 (.inl e)).1 e,fun e=>(h8 (.inr (.inl e))).2.1 e,fun e=>(h8 (.inr (.inr e))).2.2 e,fun e=>hh.tests _ ((Wm h _).2 ⟨x,h1,e,rfl⟩),fun e=>hh.same _ ((aa6 h _).2 ⟨x,h1,e,rfl⟩),fun e=>hh.diff _ ((aa7 h _).2 ⟨x,h1,e,rfl⟩)⟩;intro hl;exact⟨fun v hv=>by obtain⟨x,h1,e,rfl⟩:=(aa5 h v).1 (la.1 hv);exact(hl x h1).h0 e,fun v hv=>by obtain⟨x,h1,hp⟩:=(Wn h v).1 (la.1 hv);exact(hl x h1).nn v hp,fun k hk=>by obtain⟨x,h1,hi,f,e,hr⟩:=(Wo h).1 k hk;have hL:=hl x h1;rw[e];exact(Vh hi (val x h1 hi hL.nn f hr)).2 ⟨hL.h2,hL.h3,hL.h4⟩,fun t ht=>by obtain⟨x,h1,e,rfl⟩:=(Wm h t).1 ht;exact(hl x h1).h5 e,fun p hp=>by obtain⟨x,h1,e,rfl⟩:=(aa6 h p).1 hp;exact(hl x h1).h6 e,fun p hp=>by obtain⟨x,h1,e,rfl⟩:=(aa7 h p).1 hp;exact(hl x h1).h7 e⟩
end
def AtH(w:List GVal)(a:GAt):Prop:=if a.c_=4 then LitH w ⟨a,false⟩\/LitH w ⟨a,true⟩else LitH w ⟨a,false⟩
mutual
def FmH(w:List GVal):List AV->Prop
 | [.v (.int _ kd),a1,a2,a3,a4,a5,a6,a7,a8,a9,.tree _ es]=>if kd=2 then AtH w (ad0 [a1,a2,a3,a4,a5,a6,a7,a8,a9])else if kd=1 then Xt w es else Xu w es
 |_=>False
def Xu(w:List GVal):List (List AV)->Prop
 | []=>True
 |r :: rs=>FmH w r/\Xu w rs
def Xt(w:List GVal):List (List AV)->Prop
 | []=>False
 |r :: rs=>FmH w r\/Xt w rs
end
section
variable{w:List GVal}
theorem Hi:∀es,Xu w es↔∀r∈es,FmH w r
 |[]=>by simp[Xu]
 |r::rs=>by simp only[Xu,Hi rs,List.forall_mem_cons]
theorem Hh:∀es,Xt w es↔∃r∈es,FmH w r
 |[]=>by simp[Xt]
 |r::rs=>by simp only[Xt,Hh rs];constructor;rintro(h|⟨q,hq,h⟩);exact⟨r,by simp,h⟩;exact⟨q,by simp[hq],h⟩;rintro⟨q,hq,h⟩;rcases azz.1 hq with rfl|hq;exact .inl h;exact .inr ⟨q,hq,h⟩
theorem vn(x:GFm):FmH w (fmA x)↔if x.c_=2 then AtH w x.e_ else if x.c_=1 then∃r∈x.b_,FmH w r else∀r∈x.b_,FmH w r:=by have h:=J0 x.e_;simp only[fmA,FmH,fk,Hi,Hh];rw[show ad0 _=x.e_ from h]
def CjH(w:List GVal)(c:List GLit):Prop:=∀x∈c,LitH w x
def cj_app{a b:List GLit}:CjH w (a++b)↔CjH w a/\CjH w b:=by grind[CjH]
def Zt(a:GAt):(∃c∈s6 a,CjH w c)↔AtH w a:=by unfold s6 AtH CjH;split<;>simp
theorem Sa:∀(es:List (List AV)) (k:Nat),k<=es.length->((∃c∈Fi ((es.take k).map exR),CjH w c)↔∀r∈es.take k,∃c∈exR r,CjH w c)
 |es,0,_=>by simp[Fi,CjH]
 |es,k+1,hk=>by have ih:=Sa es k (by omega);rw[azj (by omega),azx,List.map_singleton,qz];simp only[List.mem_flatMap,azy];constructor;rintro⟨c,⟨f,hf,g,hg,rfl⟩,h⟩;obtain⟨h1,h2⟩:=cj_app.1 h;intro r hr;rcases azd.1 hr with hr|hr;exact ih.1 ⟨f,hf,h1⟩ r hr;rw[azc.1 hr];exact⟨g,hg,h2⟩;intro h;obtain⟨f,hf,h1⟩:=ih.2 fun r hr=>h r (azd.2 (.inl hr));obtain⟨g,hg,h2⟩:=h es[k] (azd.2 (.inr (azc.2 rfl)));exact⟨f++g,⟨f,hf,g,hg,rfl⟩,cj_app.2 ⟨h1,h2⟩⟩
theorem ach:∀(L:List Int) (s:Int),0<=s->(∀n∈L,0<=n)->L.foldl (fun s n=>min (s+n) 257) s=0->s=0/\∀n∈L,n=0
 |[],s,_,_,h=>⟨h,by simp⟩
 |a::L,s,hs,hn,h=>by have ha:=hn a (by simp);obtain⟨h1,h2⟩:=ach L (min (s+a) 257) (by omega) (fun n h=>hn n (List.mem_cons_of_mem _ h)) h;refine⟨by omega,fun n hm=>?_⟩;rcases azz.1 hm with rfl|hm;omega;exact h2 n hm
theorem ac1:∀(L:List Int) (s:Int),0<=s->(∀n∈L,0<=n)->L.foldl (fun s n=>min (s*n) 257) s=0->s=0\/∃n∈L,n=0
 |[],s,_,_,h=>.inl h
 |a::L,s,hs,hn,h=>by have ha:=hn a (by simp);have hm:=Int.mul_nonneg hs ha;rcases ac1 L (min (s*a) 257) (by omega) (fun n h=>hn n (List.mem_cons_of_mem _ h)) h with h1|⟨n,h1,h2⟩;have h3:s*a=0:=(by omega);rcases Int.mul_eq_zero.1 h3 with h4|h4;exact .inl h4;exact .inr ⟨a,by simp,h4⟩;exact .inr ⟨n,List.mem_cons_of_mem _ h1,h2⟩
def awu(hr:IsFm r):iq r=0->¬FmH w r:=
 IsFm.ind (M:=fun r=>iq r=0->¬FmH w r) (fun x hx ih h=>by rw[ke]at h;rw[vn];have hn:=Bk hx.b_.2;by_cases h2:x.c_=2;rw[azg h2]at h;split at h<;>omega;rw[azf h2]at h ⊢;by_cases h1:x.c_=1;rw[azg h1]at h ⊢;rintro⟨r,hr,hh⟩;exact ih r hr ((ach _ 0 (by omega) hn h).2 _ (List.mem_map_of_mem hr)) hh;rw[azf h1]at h ⊢;intro hh;rcases ac1 _ 1 (by omega) hn h with h3|⟨n,h3,h4⟩;omega;obtain⟨r,hr,rfl⟩:=azy.1 h3;exact ih r hr h4 (hh r hr)) hr
theorem ajd(hr:IsFm r):(∃c∈exR r,CjH w c)↔FmH w r:=
 IsFm.ind (M:=fun r=>(∃c∈exR r,CjH w c)↔FmH w r) (fun x hx ih=>by rw[vv];by_cases h0:iq (fmA x)=0;rw[azg h0];exact⟨fun⟨c,hc,_⟩=>absurd hc (by simp),fun h=>absurd h (awu (yk hx) h0)⟩;rw[azf h0,vn];by_cases h2:x.c_=2;rw[azg h2,azg h2];exact Zt _;rw[azf h2,azf h2];by_cases h1:x.c_=1;rw[azg h1,azg h1];constructor;rintro⟨c,hc,h⟩;obtain⟨L,hL,hc⟩:=List.mem_flatten.1 hc;obtain⟨r,hr,rfl⟩:=azy.1 hL;exact⟨r,hr,(ih r hr).1 ⟨c,hc,h⟩⟩;rintro⟨r,hr,h⟩;obtain⟨c,hc,h⟩:=(ih r hr).2 h;exact⟨c,List.mem_flatten.2 ⟨_,List.mem_map_of_mem hr,hc⟩,h⟩;rw[azf h1,azf h1];have:=Sa (w:=w) x.b_ x.b_.length (azm _);rw[List.take_length]at this;rw[this];exact⟨fun h r hr=>(ih r hr).1 (h r hr),fun h r hr=>(ih r hr).2 (h r hr)⟩) hr
theorem apa{b:Bool}(h:a.c_=0):LitH w ⟨a,b⟩↔tq w a.p_:=by
 constructor;exact fun g=>g.h0 h
 ·intro g;refine⟨fun v hp=>by unfold nnP isI at hp;have h:(⟨a,b⟩:GLit).e_.c_=0:=h;omega,fun _=>g,fun e=>?_,fun e=>?_,fun e=>?_,fun e=>?_,fun e=>?_,fun e=>?_⟩;all_goals(have e:a.c_=_:=e;omega)
theorem ao9{b:Bool}(h:a.c_=1):LitH w ⟨a,b⟩↔nnH w a.p_:=by
 constructor;exact fun g=>g.nn _ (.inr (.inl ⟨.inl h,rfl⟩))
 ·intro g;refine⟨fun v hp=>?_,fun e=>?_,fun e=>?_,fun e=>?_,fun e=>?_,fun e=>?_,fun e=>?_,fun e=>?_⟩;unfold nnP isI at hp;have h:(⟨a,b⟩:GLit).e_.c_=1:=h
  rcases hp with⟨h1,_⟩|⟨_,rfl⟩|⟨h1,_⟩;omega;exact g;omega;all_goals(have e:a.c_=_:=e;omega)
theorem Uh(b:Bool):FmH w (fmA (cnF b))↔b=true:=by rw[vn];cases b;show(if(1:Int)=2 then _ else if(1:Int)=1 then∃r∈([]:List (List AV)),FmH w r else _)↔_;simp;show(if(0:Int)=2 then _ else if(0:Int)=1 then _ else∀r∈([]:List (List AV)),FmH w r)↔_;simp
theorem agj(hB:Bel l w)(h:FmK l r):FmH w (lf l r)↔FmH w r:=by
 induction h with
 |mk x hk hl ha h ih=>
  rw[om]
  by_cases h2:x.c_=2
  ·rw[azg h2]
   by_cases hn:(x.e_.c_=0\/x.e_.c_=1)/\Zg l x.e_.p_=false
   ·rw[azg hn,Uh,vn,azg h2]
    obtain⟨j,hj,e⟩:=ha h2 hn.1
    have h3:j<w.length:=by rw[hB.1];exact hj
    have h5:l[j].nl=false:=by rw[<-Gs hj e];exact hn.2
    have h4:¬w[j].c_=0:=fun h0=>by
     rcases rf (Nh hB h3)with⟨_,_,_,g⟩|⟨g,_⟩|⟨g,_⟩
     ·rw[h5]at g;cases g
     ·omega
     ·omega
    unfold AtH
    rw[azf (by omega)]
    rcases hn.1 with h0|h1
    ·rw[apa h0,h0]
     exact⟨fun(z:(0==(1:Int))=true)=>absurd z (by decide),fun g=>absurd g (aoq e h3 h4)⟩
    ·rw[ao9 h1,h1]
     exact⟨fun _=>nn_y e h3 h4,fun _=>rfl⟩
   ·rw[azf hn]
  ·have e1:FmH w (fmA ⟨x.c_,zAt,x.b_.map (lf l)⟩)↔if x.c_=1 then∃r∈x.b_.map (lf l),FmH w r else∀r∈x.b_.map (lf l),FmH w r:=by
    rw[vn]
    show(if x.c_=2 then _ else if x.c_=1 then∃r∈x.b_.map (lf l),FmH w r else∀r∈x.b_.map (lf l),FmH w r)↔_
    rw[azf h2]
   rw[azf h2,e1,vn,azf h2]
   by_cases h1:x.c_=1
   ·rw[azg h1,azg h1]
    constructor
    ·rintro⟨r,hr,hh⟩
     obtain⟨q,hq,rfl⟩:=azy.1 hr
     exact⟨q,hq,(ih h2 q hq).1 hh⟩
    ·rintro⟨q,hq,hh⟩
     exact⟨_,List.mem_map_of_mem hq,(ih h2 q hq).2 hh⟩
   ·rw[azf h1,azf h1]
    constructor
    ·exact fun hh q hq=>(ih h2 q hq).1 (hh _ (List.mem_map_of_mem hq))
    ·rintro hh r hr
     obtain⟨q,hq,rfl⟩:=azy.1 hr
     exact(ih h2 q hq).2 (hh q hq)
end
structure FmV(l:List PVar)(r:List AV):Prop where
 ok:FmOk l r
 v:∀c∈exR (lf l r),∀x∈c,LitV l x
section
variable{l:List PVar}{r:List AV}{n:Int}{C:List PCl}{w:List GVal}
def aq2(hn:n=((l.length:Nat):Int))(h:FmV l r)(hC:ClsR l n (exR (lf l r)) C):∀c∈C,clB c l=true:=fun c hc=>by obtain⟨xs,h0,b,rfl,hb⟩:=(Bl hC).1 c hc;exact ary hn (h.ok.x xs h0) (h.v xs h0) hb
def aef(hn:n=((l.length:Nat):Int))(h:FmV l r)(hC:ClsR l n (exR (lf l r)) C)(hB:Bel l w)(h1:LOk l):∀c∈C,HG c w:=fun c hc=>by obtain⟨xs,h0,b,rfl,hb⟩:=(Bl hC).1 c hc;exact arz hn (h.ok.x xs h0) (h.v xs h0) (h.ok.len xs h0) hb hB h1
def Ka(hn:n=((l.length:Nat):Int))(h:FmV l r)(hC:ClsR l n (exR (lf l r)) C)(hB:Bel l w):(∃c∈C,HoldsG c w)↔FmH w r:=by rw[<-agj hB h.ok.k,<-ajd (rz l h.ok.fit)];constructor;rintro⟨c,hc,hh⟩;obtain⟨xs,h0,b,rfl,hb⟩:=(Bl hC).1 c hc;exact⟨xs,h0,(Hx hn (h.ok.x xs h0) hb hB).1 hh⟩;rintro⟨xs,h0,hh⟩;obtain⟨b,hm,hb⟩:=(Bl hC).2 xs h0;exact⟨_,hm,(Hx hn (h.ok.x xs h0) hb hB).2 hh⟩
def aee(h:FmV l r)(hc:kq l r<=256)(hC:ClsR l n (exR (lf l r)) C):C.length<=256:=by have e:=ajs hC;have hs:=Vq l h.ok.k;have:=Bb _ (rz l h.ok.fit) (by omega);omega
end
def akn(l:List (List AV))(hl:bq l (fun y=>IsFm y))(h1:bz [.tree 11 (l.map rwA)]=true):PRet prog 81 [.tree 11 (l.map rwA)] (fun q=>q=.agg (rwA (lsF 0 l))):=by refine ovT [] [] func81 rfl rfl (LenG.of ?_);apply cE<;>intro hq5;obtain⟨y,h0,hy⟩:=(hl.2 (l[0]'(by omega)) (ay7 _)).open_;refine cb (j:=0) (by omega) h0 (rtK rfl bu rfl ⟨[],FzP.pure rfl⟩ ?_);rw[Zo (by omega),h0];exact rtK rfl bu rfl ⟨[],wf h1⟩ (congrArg AV.agg (xx (by omega)).symm)
def afb(L:List GFm)(hl:L.length<=140737488355328)(hL:∀x∈L,FitFm x):PRet prog 81 [.tree 11 (L.map fmA)] (fun q=>∃y:GFm,q=.agg (fmA y)/\FitFm y/\lsF 0 (L.map fmA)=fmA y):=by have hf:bq (L.map fmA) (fun y=>IsFm y):=⟨by rw[aze];exact hl,fun r hr=>by obtain⟨x,hx,rfl⟩:=azy.1 hr;exact yk (hL x hx)⟩;have h:=akn (L.map fmA) hf (by simp[bz,AV.pureB]);rw[fk]at h;obtain⟨q,rfl,h⟩:=h;obtain⟨y,e,hy⟩:=(D7 (k:=0) hf).open_;exact⟨_,⟨y,by rw[e],hy,e⟩,h⟩
def afa(L:List GFm)(hl:L.length<=140737488355328)(hL:∀x∈L,FitFm x):PRet prog 31 [.tree 11 (L.map fmA)] (fun q=>∃y:GFm,q=.agg (fmA y)/\FitFm y/\lsF 0 (L.map fmA)=fmA y):=by refine ovT [] [] func31 rfl rfl (ArgG.mk (Cq 0 L (by omega) hL) rfl ?_);rintro _ ⟨y,rfl,hy,h0⟩;exact rtK rfl bu rfl ⟨[],FzP.pure rfl⟩ ⟨y,rfl,hy,h0⟩
theorem i7(t:GTab):(aa t).length=t.d_.length:=by simp[aa]
def Hu(t:GTab)(ht:FitTab t)(h9:t.d_.length<=1000)(hck:t.h_.length<=100000)(h6:∀r∈t.h_,CondE (aa t) r/\IsSh 12 r):PRet prog 78 [.agg (ic t)] (fun q=>∃(L:List GFm) (e:Int),q=.tup [.tree 11 (L.map fmA),vI e]/\(∀x∈L,FitFm x)/\L.length<=t.h_.length/\((e=0/\km (aa t) t.h_ 2=some (L.map fmA))\/(e=3/\km (aa t) t.h_ 2=none))):=by have ha:bq (aa t) (fun _=>True):=⟨by rw[i7];omega,fun _ _=>trivial⟩;refine ovT [] [] func78 rfl rfl (LenG.of ?_);refine LpG.via (fun _ h=>bl 4 11 rfl 2 rfl h) (LpG.on (fun k0:KL GFm=>(⟨fL [(1,.ptr 0 0 0),(4,.sl 1 k0.L.length 0 k0.L.length),(10,.tree 8 (t.h_.map rwA)),(11,vI t.h_.length),(12,vI k0.k)],hLz [(0,⟨0,ic t,0,false⟩),(1,⟨k0.L.length,rF fmA k0.L,11,Nat.beq k0.L.length 0⟩)],2⟩:St)) (fun k0=>(t.h_.length-k0.k)) (fun k0=>(k0.k<=t.h_.length/\(km (aa t) (t.h_.take k0.k) 2=some (k0.L.map fmA)/\k0.L.length=k0.k/\∀y∈k0.L,FitFm y))) (⟨0,[]⟩:KL GFm) (cnS (by rfl) (hpR rfl (hpS (ab aq _ _) (by rfl) trivial))) ⟨azk _,⟨by simp[km],rfl,by simp⟩⟩ ?_);rintro k0 h4;have hgr_k0:t.h_.length<=140737488355328:=ht.h_.1;obtain⟨hle_k0,h0⟩:=h4;apply cL<;>intro h1;obtain⟨x1,h2,hb⟩:=(ht.h_.2 _ (ay7 h1)).open_;have h7:exA x1∈t.h_:=h2▸ay7 h1;have h8:=h0.2.1;refine cb (j:=k0.k) ‹_› h2 (ArgG.mk (bw t ht h9) rfl ?_);rintro _ rfl;refine ArgG.mk (ol x1 hb (aa t) ha (h6 _ h7).1 (h6 _ h7).2) rfl ?_;rintro _ ⟨f1,e1,rfl,hc,h5⟩;refine⟨by kernel_rfl,cN (fun h3=>?_) (fun h3=>?_)⟩;exact⟨.inr rfl,_,dh rfl (afe.tmp ⟨[],FzP.nil (n:=11)⟩) (afe.tmp ⟨[],FzP.pure rfl⟩),⟨[],e1,rfl,by simp,azk _,.inr ⟨(h5.2 h3).2,ut h1 (by rw[h2];exact(h5.2 h3).1)⟩⟩⟩;refine OpG.mk _ _ _ 5 (ah aq (a:=f1) underlying67 zv yr Bx rfl rfl rfl (am rfl rfl rfl rfl) rfl (by omega) (by omega) (by unfold TV;omega)) rfl rfl ⟨by omega,⟨(⟨k0.k+1,k0.L++[f1]⟩:KL GFm),(nsA ‹_›),(cO (.cons rfl rfl (.cons (by(rw[azb];rfl)) rfl (.cons rfl rfl (.cons rfl rfl (.cons rfl rfl .nil))))) (.cons rfl rfl rfl (.cons (by(rw[azb];rfl)) rfl (ab aq _ _) .nil))),?_⟩⟩;exact⟨‹_›,⟨us h1 h0.1 (by rw[h2];exact h5.1 (by omega)),by show(_++[_]).length=_;rw[azb,h8];rfl,jm h0.2.2 hc⟩⟩;have h8:=h0.2.1;exact⟨.inr rfl,_,dh rfl (afe.tmp ⟨[1],FzP.rows aq (azc.2 rfl) rfl⟩) (afe.tmp ⟨[],FzP.pure rfl⟩),⟨k0.L,0,rfl,h0.2.2,by omega,.inl ⟨rfl,kr h1 h0.1⟩⟩⟩
inductive FmP(P:GAt->Prop):List AV->Prop
 |mk (x:GFm) (hk:x.c_=0\/x.c_=1\/x.c_=2) (hl:x.b_.length<=100000) (ha:x.c_=2->P x.e_) (h:x.c_≠2->∀r∈x.b_,FmP P r) (hz:x.c_≠2->x.e_=zAt) (hn:x.c_=2->x.b_=[]):FmP P (fmA x)
theorem Ej{x:GFm}(h:FmP P (fmA x)):(x.c_=0\/x.c_=1\/x.c_=2)/\x.b_.length<=100000/\(x.c_=2->P x.e_)/\(x.c_≠2->∀r∈x.b_,FmP P r):=by
 generalize e:fmA x=r at h
 cases h with
 |mk y hk hl ha h _ _=>rw[xf e];exact⟨hk,hl,ha,h⟩
theorem apy{x:GFm}(h:FmP P (fmA x)):(x.c_≠2->x.e_=zAt)/\(x.c_=2->x.b_=[]):=by
 generalize e:fmA x=r at h
 cases h with
 |mk y hk hl ha h hz hn=>rw[xf e];exact⟨hz,hn⟩
theorem awt(hP:∀a,P a->a.c_=0\/a.c_=1->∃j,j<l.length/\a.p_=((j:Nat):Int))(h:FmP P r):FmK l r:=by
 induction h with
 |mk x hk hl ha h hz hn ih=>exact .mk x hk hl (fun h2=>hP _ (ha h2)) ih
def adv(b:Bool):FmP P (fmA (cnF b)):=.mk _ (by cases b<;>simp[cnF]) (azk _) (fun h=>by cases b<;>simp[cnF]at h) (fun _ r hr=>by simp[cnF]at hr) (fun _=>rfl) (fun _=>rfl)
def adw(h:P a):FmP P (fmA (atF a)):=.mk _ (.inr (.inr rfl)) (azk _) (fun _=>h) (fun h=>absurd rfl h) (fun h=>absurd rfl h) (fun _=>rfl)
theorem ai2(h:FmP P r):FmP P (lf l r):=by
 induction h with
 |mk x hk hl ha h hz hn ih=>
  rw[om]
  by_cases h2:x.c_=2
  ·rw[azg h2]
   split
   ·exact adv _
   ·exact .mk x hk hl ha h hz hn
  ·rw[azf h2]
   refine .mk ⟨x.c_,zAt,x.b_.map (lf l)⟩ hk (by simpa using hl) (fun g=>absurd g h2) (fun _ r hr=>?_) (fun _=>rfl) (fun g=>absurd g h2)
   obtain⟨q,hq,rfl⟩:=azy.1 hr
   exact ih h2 q hq
def avh(L:List (List (List GLit)))(h:∀M∈L,∀c∈M,∀x∈c,P x.e_):∀c∈Fi L,∀x∈c,P x.e_:=
 vm (P:=fun(out:List (List GLit))=>∀c∈out,∀x∈c,P x.e_) L [[]] (by simp) fun b M hM hb c hc x hx=>by obtain⟨f,hf,hc⟩:=List.mem_flatMap.1 hc;obtain⟨g,hg,rfl⟩:=azy.1 hc;rcases azd.1 hx with hx|hx;exact hb f hf x hx;exact h M hM g hg x hx
theorem aib{c:List GLit}(hc:c∈s6 a){x:GLit}(hx:x∈c):x.e_=a:=by unfold s6 at hc;split at hc;rcases azz.1 hc with rfl|hc;rw[azc.1 hx];rw[azc.1 hc]at hx;rw[azc.1 hx];rw[azc.1 hc]at hx;rw[azc.1 hx]
def awx(hr:IsFm r):FmP P r->∀c∈exR r,∀x∈c,P x.e_:=
 IsFm.ind (M:=fun r=>FmP P r->∀c∈exR r,∀x∈c,P x.e_) (fun x hx ih h c hc y hy=>by obtain⟨hk,hl,ha,hs⟩:=Ej h;rw[vv]at hc;by_cases h0:iq (fmA x)=0;rw[azg h0]at hc;simp at hc;rw[azf h0]at hc;by_cases h2:x.c_=2;rw[azg h2]at hc;rw[aib hc hy];exact ha h2;rw[azf h2]at hc;by_cases h1:x.c_=1;rw[azg h1]at hc;obtain⟨L,hL,hc⟩:=List.mem_flatten.1 hc;obtain⟨r,hr,rfl⟩:=azy.1 hL;exact ih r hr (hs h2 r hr) c hc y hy;rw[azf h1]at hc;exact avh _ (fun M hM=>by obtain⟨r,hr,rfl⟩:=azy.1 hM;exact ih r hr (hs h2 r hr)) c hc y hy) hr
structure AtG(l:List PVar)(a:GAt):Prop where
 fit:FitAt a
 k:0<=a.c_/\a.c_<=7
 tm:a.c_=2\/a.c_=3\/a.c_=4->TmB l a.o_
 oc:(d7 (tmA a.o_)).length<=4096
 nx:nxT (tmA a.o_)<=8192
 v0:a.c_=0\/a.c_=1->pk l a.p_
 v5:a.c_=5->TyV l 2 a.p_/\af8 ⟨a.p_,a.x_.kd,a.x_.ng,a.x_.s⟩=true
 v6:a.c_=6\/a.c_=7->TyV l 2 a.p_/\TyV l 2 a.w_/\a.p_<a.w_
def ads(hr:IsFm r)(h:FmP (AtG l) r)(hw:wgR w1 r<=100000):FmV l r:=by have hx:=awx (rz l hr) (ai2 (l:=l) h);exact⟨⟨hr,awt (fun a ha h0=>by obtain⟨j,hj,e⟩:=ha.v0 h0;exact⟨j,hj,e⟩) h,hw,fun c hc x h1=>by have g:=hx c hc x h1;exact⟨⟨g.fit⟩,g.k,g.tm,g.oc,g.nx⟩⟩,fun c hc x h1=>by have g:=hx c hc x h1;exact⟨g.v0,g.v5,g.v6⟩⟩
def nxl(l:List GPart):Nat:=(l.map nxP).sum
theorem mi(p:GPart)(l:List GPart):nxl (p::l)=nxP p+nxl l:=by simp[nxl]
theorem adl(p:GPart):∀l:List GPart,nxl (j9 p l)<=nxl l+nxP p
 |[]=>by simp[j9,nxl]
 |q::l=>by have ih:=adl p l;unfold j9;split;split;rw[mi];omega;rw[mi,mi];show nxP q+_<=_;omega;split;rw[mi,mi];omega;rw[mi,mi];omega
theorem G4:∀m l:List GPart,nxl (dx l m)<=nxl l+nxl m
 |[],l=>Nat.le_add_right _ _
 |p::m,l=>by have h:=G4 m (j9 p l);have g:=adl p l;rw[mi];have e:dx l (p::m)=dx (j9 p l) m:=rfl;rw[e];omega
def Iy(n:Int)(x:GTm):nxl (scT n x).a_<=nxl x.a_:=by unfold scT;split;simp[nxl,zT];show nxl (x.a_.map fun p=>{p with i_:=p.i_*n})<=_;unfold nxl;rw[List.map_map];exact azm _
theorem aw4(x:GTm)(b:Int):nxl (dvT x b).a_=nxl x.a_+1:=by show nxl [dvP x b]=_;rw[mi];have e:nxP (dvP x b)=1+Za [tmA x]:=rfl;rw[e,Sw,Cm];simp[nxl];omega
theorem m3{o t:GTm}(h:dt o=some t):nxl t.a_=nxl o.a_:=by rw[(j6 h).1]
def aqe{a q:GTm}(h:ym a b=some q):nxl q.a_<=nxl a.a_+1:=by unfold ym at h;split at h;cases h;omega;split at h;cases h;simp[nxl];rw[m3 h,aw4];exact azm _
def H4(a b:GTm):nxl (qq a b).a_<=nxl a.a_+nxl b.a_:=G4 _ _
def ar3{a b u:GTm}(ha:nxl a.a_<=N)(hb:nxl b.a_<=N)(h:kw op a b=some u):nxl u.a_<=2*N+1:=by
 unfold kw at h;split at h;rw[m3 h];have:=H4 a b;omega
 split at h;obtain⟨c,hc,h⟩:=azt.1 h;have:=H4 a c
 have:=Iy (-1) b;have:=m3 hc
 rw[m3 h];omega;split at h;split at h;cases h;split at h;rw[m3 h];have:=Iy a.f_ b;omega
 rw[m3 h];have:=Iy b.f_ a;omega
 split at h;cases h;obtain⟨q,hq,h⟩:=azt.1 h;have g:=aqe hq
 split at h;cases h;omega;obtain⟨m,hm,h⟩:=azt.1 h;have:=H4 a m
 have:=Iy (-b.f_) q;have:=m3 hm
 rw[m3 h];omega
theorem aob(r:List AV)(hr:IsEx r):∀d,IsSh d r->∀u,ofT r=some u->nxl u.a_+1<=2^d:=
 IsEx.ind (M:=fun r=>∀d,IsSh d r->∀u,ofT r=some u->nxl u.a_+1<=2^d) (fun x hx ih d hs u hu=>by
  obtain⟨d',rfl,h2,h3⟩:=fx hs;have hp:1<=2^d':=Nat.one_le_two_pow
  have hq:2^(d'+1)=2*2^d':=by rw[Nat.pow_succ];omega
  rw[hq];cases ofV hu with
  |len t h hl hu=>
   obtain⟨a,_,_,_,⟨_,_,rfl⟩|⟨_,_,rfl⟩⟩:=alb hx hl<;>rw[m3 hu]
   ·show 0+1<=_;omega
   ·have e:nxl (ue 1 a.j_).a_=1:=by simp[nxl,ue,nxP,Za]
    rw[e];omega
  |lit h ha hk hu=>rw[m3 hu];show 0+1<=_;omega
  |col h ha hi hu=>
   have e:nxl (ue 0 x.j_).a_=0:=by simp[nxl,ue,nxP,Za]
   subst hu;rw[e];omega
  |neg r s h ha hr hu=>
   have hm:r∈x.b_:=by rw[ha];simp
   have g:=ih r hm d' (h3 r hm) s hr
   rw[m3 hu];have:=Iy (-1) s;omega
  |bin r q a b h ha hr h1 hu=>
   have hm:r∈x.b_:=by rw[ha];simp
   have h0:q∈x.b_:=by rw[ha];simp
   have g1:=ih r hm d' (h3 r hm) a hr
   have g2:=ih q h0 d' (h3 q h0) b h1
   have:=ar3 (N:=2^d'-1) (by omega) (by omega) hu
   omega) hr
theorem ahv(t:GTm):nxT (tmA t)=nxl t.a_:=Cm t
def apm{x:List AV}(hx:IsEx x)(hy:IsEx y)(sx:IsSh 11 x)(sy:IsSh 11 y)(ix:IntE l x)(iy:IntE l y)(h:Ct op x y=some (.pat a)):TmB l a.o_/\nxT (tmA a.o_)<=8192/\FitAt a/\(a.c_=2\/a.c_=3\/a.c_=4):=by
 unfold Ct at h;obtain⟨p,hp,h⟩:=azt.1 h;obtain⟨q,hq,h⟩:=azt.1 h;obtain⟨c,hc,h⟩:=azt.1 h;obtain⟨t,ht,h⟩:=azt.1 h;obtain⟨p1,p2,p3⟩:=j4 x hx 11 (by decide) sx p hp;obtain⟨q1,q2,q3⟩:=j4 y hy 11 (by decide) sy q hq;have p4:=an9 x hx ix p hp
 have q4:=an9 y hy iy q hq;have p5:=aob x hx 11 sx p hp
 have q5:=aob y hy 11 sy q hq;have h1:(2:Nat)^(11+1)=4096:=by decide
 have h0:(2:Nat)^11=2048:=by decide
 rw[h1]at p3 q3;rw[h0]at p5 q5;obtain⟨c1,c2,c3,_⟩:=il q1 hc;have c4:TmV l (tmA c):=mc hc (Ip q4)
 have c5:nxl c.a_<=2047:=by have:=Iy (-1) q;have:=m3 hc;omega
 obtain⟨t1,t2,t3,_⟩:=Bm p1 c1 (by omega) ht;have t4:TmV l (tmA t):=mc ht (Fw p4 c4)
 have t5:nxl t.a_<=4094:=by have:=H4 p c;have:=m3 ht;omega
 have mk:∀{u:GTm},FitTm u->smR (tmA u)=true->u.a_.length<=8190->TmV l (tmA u)->nxl u.a_<=4094->∀k,(k=2\/k=3\/k=4)->TmB l u/\nxT (tmA u)<=8192/\FitAt ⟨k,0,0,u,zTe⟩/\(k=2\/k=3\/k=4):=fun f s n v m k hk=>⟨⟨f,s,(vf _).2 (by omega),v⟩,by rw[ahv];omega,⟨f,th.x_⟩,hk⟩;split at h;cases h;split at h;cases h;exact mk t1 t2 (by omega) t4 t5 3 (by decide);split at h;cases h;exact mk t1 t2 (by omega) t4 t5 4 (by decide);obtain⟨u,hu,h⟩:=azt.1 h;obtain⟨w,hw,h⟩:=azt.1 h;cases h
 have g:FitTm u/\smR (tmA u)=true/\u.a_.length<=8190/\TmV l (tmA u)/\nxl u.a_<=4094:=by
  split at hu;obtain⟨g1,g2,g3,_⟩:=il t1 hu;exact⟨g1,g2,by omega,mc hu (Ip t4),by have:=Iy (-1) t;have:=m3 hu;omega⟩;cases hu;exact⟨t1,t2,by omega,t4,t5⟩
 obtain⟨g1,g2,g3,g4,g5⟩:=g;split at hw;obtain⟨f1,f2,f3,_⟩:=Bm g1 w7 (by show _+0<=_;omega) hw;have f3':w.a_.length<=u.a_.length+0:=f3
 have:=H4 u one1;have e1:nxl one1.a_=0:=rfl
 have:=m3 hw;exact mk f1 f2 (by omega) (mc hw (Fw g4 ato)) (by omega) 2 (by decide);cases hw;exact mk g1 g2 g3 g4 g5 2 (by decide)
def al9{kd:Int}{ng:Bool}(hk:0<=kd/\kd<=3)(hp:Og s=true)(hs:s.size<=16):af8 ⟨v,kd,ng,s⟩=true:=by unfold af8;unfold Og at hp;show(yq s.size (R8 s)&&(decide (kd≥0)&&decide (kd<=3)&&decide ((s.size:Int)<=16)))=true;rw[hp];simp only[Bool.true_and,az8,az9];omega
def Qv(op:Int)(s:ByteArray):(0<=(qk op s).kd/\(qk op s).kd<=3)/\(qk op s).s=s:=by
 unfold qk
 repeat' split
 all_goals exact⟨by simp,rfl⟩
def at2:(d7 (tmA zT)).length=0:=by rw[dj];rfl
def at3:nxT (tmA zT)=0:=by rw[ahv];rfl
def at_v{k:Int}(hk:k=0\/k=1)(hv:pk l v):AtG l (vAt k v) where
 fit:=qt
 k:=by show 0<=k/\k<=7;omega
 tm:=fun h=>by have h:k=2\/k=3\/k=4:=h;omega
 oc:=by have:=at2;show(d7 (tmA zT)).length<=_;omega
 nx:=by have:=at3;show nxT (tmA zT)<=_;omega
 v0:=fun _=>hv
 v5:=fun h=>by have h:k=5:=h;omega
 v6:=fun h=>by have h:k=6\/k=7:=h;omega
def ayt(hv:TyV l 2 v)(hk:0<=t.kd/\t.kd<=3)(hp:Og t.s=true)(hs:t.s.size<=16):AtG l ⟨5,v,0,zT,t⟩ where
 fit:=⟨c8,by show t.s.size<=_;omega⟩
 k:=by show(0:Int)<=5/\(5:Int)<=7;decide
 tm:=fun h=>by have h:(5:Int)=2\/(5:Int)=3\/(5:Int)=4:=h;omega
 oc:=by have:=at2;show(d7 (tmA zT)).length<=_;omega
 nx:=by have:=at3;show nxT (tmA zT)<=_;omega
 v0:=fun h=>by have h:(5:Int)=0\/(5:Int)=1:=h;omega
 v5:=fun _=>⟨hv,al9 hk hp hs⟩
 v6:=fun h=>by have h:(5:Int)=6\/(5:Int)=7:=h;omega
def at_6{k:Int}(hk:k=6\/k=7)(hv:TyV l 2 v)(hu:TyV l 2 u)(h0:v<u):AtG l ⟨k,v,u,zT,zTe⟩ where
 fit:=⟨c8,th.x_⟩
 k:=by show 0<=k/\k<=7;omega
 tm:=fun h=>by have h:k=2\/k=3\/k=4:=h;omega
 oc:=by have:=at2;show(d7 (tmA zT)).length<=_;omega
 nx:=by have:=at3;show nxT (tmA zT)<=_;omega
 v0:=fun h=>by have h:k=0\/k=1:=h;omega
 v5:=fun h=>by have h:k=5:=h;omega
 v6:=fun _=>⟨hv,hu,h0⟩
def at_i(hk:a.c_=2\/a.c_=3\/a.c_=4)(ht:TmB l a.o_)(ho:(d7 (tmA a.o_)).length<=4096)(hn:nxT (tmA a.o_)<=8192)(hf:FitAt a):AtG l a where
 fit:=hf
 k:=by omega
 tm:=fun _=>ht
 oc:=ho
 nx:=hn
 v0:=fun h=>by omega
 v5:=fun h=>by omega
 v6:=fun h=>by omega
def af1(h:OpE l d (exA x))(ht:TextE l (exA x)):(x.op_=2/\TyV l 2 x.j_)\/(x.op_=1/\x.k_.c_=2/\Og x.k_.l_=true/\x.k_.l_.size<=16):=by obtain⟨h0,⟨h1,j,hj,e1,e2⟩|⟨h1,h2⟩⟩:=cp ht;exact .inl ⟨h1,j,hj,e1,e2⟩;right;refine⟨h1,h2,?_⟩;rcases h with⟨y,e,_,g,_⟩|⟨_,g⟩|⟨g,_⟩;have:=au e;subst this;omega;exact((g x rfl h1).2.2 h2).2;rcases d8 g with g|g|g|g|g<;>omega
def aui{y:GEx}(hx:OpE l 11 (exA x))(hy:OpE l 11 (exA y))(tx:TextE l (exA x))(ty:TextE l (exA y))(h:ot op x y=.pat a):AtG l a:=by have gx:=af1 hx tx;have gy:=af1 hy ty;unfold ot at h;split at h;cases h;split at h;cases h;rename_i h1 h2;rcases gy with gy|gy;rcases gx with gx|gx;omega;have:=Qv (ye op) x.k_.l_;exact ayt gy.2 this.1 (by rw[this.2];exact gx.2.2.1) (by rw[this.2];exact gx.2.2.2);exact absurd ⟨h2,gy.1⟩ h1;split at h;cases h;rename_i h1 h2 h3;rcases gx with gx|gx;rcases gy with gy|gy;omega;have:=Qv op y.k_.l_;exact ayt gx.2 this.1 (by rw[this.2];exact gy.2.2.1) (by rw[this.2];exact gy.2.2.2);exact absurd gx.1 h2;split at h;cases h;cases h;rename_i h1 h2 h3 h4;rcases gx with gx|gx;rcases gy with gy|gy;refine at_6 (by split<;>simp) ?_ ?_ (by omega);rcases Int.le_total x.j_ y.j_ with g|g;rw[Int.min_eq_left g];exact gx.2;rw[Int.min_eq_right g];exact gy.2;rcases Int.le_total x.j_ y.j_ with g|g;rw[Int.max_eq_right g];exact gy.2;rw[Int.max_eq_left g];exact gx.2;exact absurd gy.1 h3;exact absurd gx.1 h2
theorem D2{P:Int->Prop}:∀{es:List (List AV)},(∀r∈es,∀v∈dw r,P v)->∀v∈bi es,P v
 |[],_,v,hv=>by simp[bi]at hv
 |r::rs,h,v,hv=>by simp only[bi,azd]at hv;exact hv.elim (h r (by simp) v) (D2 (fun q hq=>h q (List.mem_cons_of_mem _ hq)) v)
def Jg{a:GEx}(h:TextE l (exA a)\/(a.op_=1/\a.k_.c_=0/\a.b_=[])):∀v∈dw (exA a),pk l v:=fun v hv=>by rcases h with h|⟨h1,_,h2⟩;obtain⟨h0,⟨h2,j,hj,e,_⟩|⟨h1,_⟩⟩:=cp h;rw[dg,h0,azg h2]at hv;simp[bi]at hv;subst hv;exact⟨j,hj,e⟩;rw[dg,h0,azf (by omega)]at hv;simp[bi]at hv;rw[dg,h2,azf (by omega)]at hv;simp[bi]at hv
theorem ahr(h:IntE l r):∀v∈dw r,pk l v:=by
 induction h with
 |lit x h ha hk _=>intro v hv;rw[dg,ha,azf (by omega)]at hv;simp[bi]at hv
 |col x h ha hj=>
  intro v hv
  obtain⟨j,hj,e,_⟩:=hj
  rw[dg,ha,azg h]at hv
  simp[bi]at hv;subst hv;exact⟨j,hj,e⟩
 |len x a h ha h0 ht=>
  intro v hv
  rw[dg,ha,azf (by omega)]at hv
  simp only[bi,List.nil_append,List.append_nil]at hv
  exact Jg (ht.imp id fun g=>⟨g.1,g.2,h0⟩) v hv
 |neg x h ha hs ih=>intro v hv;rw[dg,azf (by omega)]at hv;exact D2 ih v (by simpa using hv)
 |bin x h ha hs ih=>intro v hv;rw[dg,azf (by omega)]at hv;exact D2 ih v (by simpa using hv)
def So(h:OpE l d r)(hr:IsEx r):∀v∈dw r,pk l v:=by rcases h with⟨x,rfl,h1,h2,h3⟩|⟨h,_⟩|⟨h,_⟩;exact Jg (.inr ⟨h1,h2,h3⟩);obtain⟨x,rfl,_⟩:=hr.open_;exact Jg (.inl h);exact ahr h
theorem zg(h:CondE l (exA x)):((x.op_=18\/x.op_=19)/\x.b_.length=2/\∀r∈x.b_,CondE l r)\/(x.op_=20/\x.b_.length=1/\∀r∈x.b_,CondE l r)\/(x.op_=17/\x.b_.length=1/\∀r∈x.b_,OpE l 11 r)\/((10<=x.op_/\x.op_<=16)/\∃a b,x.b_=[exA a,exA b]/\OpE l 11 (exA a)/\((x.op_=16/\b.op_=1/\b.k_.c_=2/\Fl b.k_/\b.b_=[]/\(TextE l (exA a)\/HasN (exA a)))\/(x.op_<=15/\OpE l 11 (exA b)/\atu l a b/\(TextE l (exA a)->a.op_=1\/b.op_=1\/x.op_=10\/x.op_=11)))):=by
 generalize e:exA x=r at h
 cases h with
 |bin y h hl ha=>rw[au e];exact .inl ⟨h,hl,ha⟩
 |not y h hl ha=>rw[au e];exact .inr (.inl ⟨h,hl,ha⟩)
 |isn y h hl ha=>rw[au e];exact .inr (.inr (.inl ⟨h,hl,ha⟩))
 |like y a b h ha hb ho ht=>rw[au e];exact .inr (.inr (.inr ⟨by omega,a,b,ha,ho,.inl ⟨h,hb.1,hb.2.1,hb.2.2.1,hb.2.2.2,ht⟩⟩))
 |cmp y a b h ha h0 h1 hs h2=>rw[au e];exact .inr (.inr (.inr ⟨by omega,a,b,ha,h0,.inr ⟨h.2,h1,hs,h2⟩⟩))
def Qs{a b c d:GEx}(h:[exA a,exA b]=[exA c,exA d]):a=c/\b=d:=⟨au (List.cons.inj h).1,au (List.cons.inj (List.cons.inj h).2).1⟩
def ad9{a b:GEx}(hc:atu l a b)(ha:¬HasN (exA a))(hb:¬HasN (exA b)):(TextE l (exA a)/\TextE l (exA b))\/(¬TextE l (exA a)/\¬TextE l (exA b)):=by rcases hc with h|h|h|h;exact .inr h;exact .inl h;exact absurd h.2 ha;exact absurd h.2 hb
theorem L5(h:OpE l d r)(hn:¬HasN r)(ht:¬TextE l r):IntE l r/\∃t,OfP d r t:=by
 rcases h with⟨x,rfl,h1,h2,_⟩|⟨h,_⟩|⟨h,hf⟩
 ·exact absurd (pf.2 (.inl ⟨h1,h2⟩)) hn
 ·exact absurd h ht
 ·refine⟨h,?_⟩
  cases hf with
  |tm d r t _ ho=>exact⟨t,ho⟩
  |nul d x hx _ _=>exact absurd hx hn
section
variable{l:List PVar}{x a b:GEx}{pos:Bool}{t:GAt}
def ank(hx:FitEx x)(ia:IsEx (exA a))(ib:IsEx (exA b))(sa:IsSh 11 (exA a))(sb:IsSh 11 (exA b))(hc:CondE l (exA x))(ho:10<=x.op_/\x.op_<=16)(h3:x.b_=[exA a,exA b])(hn:¬HasN (exA a))(hm:¬HasN (exA b))(h:ptS l x.op_ (exA a) (exA b) pos=some (.pat t)):AtG l t:=by rcases zg hc with g|g|g|⟨_,a',b',e,h0,g⟩;omega;omega;omega;rw[h3]at e;obtain⟨e1,e2⟩:=Qs e;subst e1;subst e2;rcases g with⟨h4,b1,b2,b3,_,ht⟩|⟨h15,h1,hs,_⟩;rw[R6 h4]at h;simp only[aza]at h;have ht:=ht.resolve_right hn;unfold G1 at h;split at h;cases h;cases h;rename_i h5;rcases af1 h0 ht with g|g;exact ayt g.2 (by simp) (b3.2.2 b2).2.1 (b3.2.2 b2).2.2;exact absurd g.1 h5;rcases ad9 hs hn hm with⟨ta,tb⟩|⟨ta,tb⟩;rw[ag5 (by omega) (.inl ta) rfl]at h;simp only[aza]at h;exact aui h0 h1 ta tb h;have h2:=h;rw[ak8 (by omega) ta tb rfl]at h;obtain⟨g1,g2,g3,g4⟩:=apm ia ib sa sb (L5 h0 hn ta).1 (L5 h1 hm tb).1 h;exact at_i g4 g1 (ag6 ia ib sa sb h2) g2 g3
end
structure GoodF(l:List PVar)(N:Nat)(f:List AV):Prop where
 fm:IsFm f
 p:FmP (AtG l) f
 w:wgR w1 f<=N
def GoodF.mono{M:Nat}{f:List AV}(h:GoodF l N f)(hm:N<=M):GoodF l M f:=⟨h.fm,h.p,azp h.w hm⟩
section
variable{l:List PVar}{N:Nat}{m k:Int}
def Ud(hk:k=0\/k=1)(hl:L.length<=100000)(h:∀f∈L,IsFm f/\FmP (AtG l) f)(hw:(L.map (wgR w1)).sum<=N):GoodF l N (fmA ⟨k,zAt,L⟩) where
 fm:=yk ⟨th,azp hl (by decide),fun f hf=>(h f hf).1⟩
 p:=.mk ⟨k,zAt,L⟩ (by show k=0\/k=1\/k=2;omega) hl (fun g=>by have g:k=2:=g;omega) (fun _ f hf=>(h f hf).2) (fun _=>rfl) (fun g=>by have g:k=2:=g;omega)
 w:=by rw[uk,azf (by show¬k=2;omega)];exact hw
def Jt(hk:k=0\/k=1)(hl:L.length<=100000)(h:∀f∈L,IsFm f/\FmP (AtG l) f)(hw:(L.map (wgR w1)).sum<=N):GoodF l N (lsF k L):=by by_cases h1:L.length=1;obtain⟨r,rfl⟩:=az4.1 h1;have:=h r (by simp);exact⟨this.1,this.2,by simpa[lsF]using hw⟩;rw[xx h1];exact Ud hk hl h hw
def Ef(b:Bool):GoodF l N (fmA (cnF b)):=⟨yk fe,adv b,by rw[uk];cases b<;>simp[cnF]⟩
theorem afi(a:GAt):wgR w1 (fmA (atF a))=1:=by rw[uk,azg (show(atF a).c_=2 from rfl)];rfl
def W7(h:AtG l a):IsFm (fmA (atF a))/\FmP (AtG l) (fmA (atF a)):=⟨yk (ma h.fit),adw h⟩
theorem adb(k:Int)(vs:List Int):((wn k vs).map (wgR w1)).sum=vs.length:=by
 induction vs with
 |nil=>rfl
 |cons v vs ih=>
  show(wgR w1 (fmA (atF (vAt k v)))::(wn k vs).map (wgR w1)).sum=_
  rw[List.sum_cons,ih,afi,azu];omega
def L8(hk:k=0\/k=1)(h:∀v∈vs,pk l v):∀f∈wn k vs,IsFm f/\FmP (AtG l) f:=fun f hf=>by obtain⟨v,hv,rfl⟩:=azy.1 hf;exact W7 (at_v hk (h v hv))
def zb{j:Int}(hj:j=0\/j=1)(hk:k=0\/k=1)(h:∀v∈vs,pk l v)(hN:vs.length<=N)(hl:vs.length<=100000):GoodF l N (lsF j (wn k vs)):=
 Jt hj (by simpa[wn]using hl) (L8 hk h) (by rw[adb];exact hN)
def He{j:Int}(hj:j=0\/j=1)(hk:k=0\/k=1)(h:∀v∈vs,pk l v)(ha:AtG l a)(hN:vs.length+1<=N)(hl:vs.length+1<=100000):GoodF l N (lsF j (wn k vs++[fmA (atF a)])):=
 Jt hj (by simpa[wn]using hl) (fun f hf=>by
  rcases azd.1 hf with hf|hf;exact L8 hk h f hf;rw[azc.1 hf];exact W7 ha) (by
  rw[azx,List.sum_append,adb];simp only[azw,List.map_nil,List.sum_cons,List.sum_nil,afi];omega)
theorem ait(h:∀v∈cs,pk l v)(hp:∀a,p=.pat a->AtG l a)(hN:cs.length+1<=N)(hl:cs.length+1<=100000):GoodF l N (cmF m cs p):=by
 by_cases hw:ip m=true;cases p with
 |kn b=>
  cases b
  ·rw[cmF,azg hw,azf (by decide)];exact zb (.inr rfl) (.inl rfl) h (by omega) (by omega)
  ·rw[cmF,azg hw,azg rfl];exact Ef true
 |pat a=>
  rw[cmF,azg hw];exact He (.inr rfl) (.inl rfl) h (hp a rfl) hN hl
 cases p with
 |kn b=>
  cases b
  ·rw[cmF,azf hw,azf (by decide)];exact Ef false
  ·rw[cmF,azf hw,azg rfl];exact zb (.inl rfl) (.inr rfl) h (by omega) (by omega)
 |pat a=>
  rw[cmF,azf hw]
  have hf:=List.length_filter_le (fun v=>!(jh a).contains v) cs
  exact He (.inl rfl) (.inr rfl) (fun v hv=>h v (List.mem_filter.1 hv).1) (hp a rfl) (by omega) (by omega)
theorem K5{es fs:List (List AV)}(h:km l es m=some fs)(hg:∀r∈es,∀f,trS l r m=some f->GoodF l N f):(∀f∈fs,IsFm f/\FmP (AtG l) f)/\(fs.map (wgR w1)).sum<=es.length*N/\fs.length=es.length:=by
 induction es generalizing fs with
 |nil=>simp only[km]at h;cases h;simp
 |cons r rs ih=>
  simp only[km]at h
  obtain⟨f,hf,h⟩:=azt.1 h
  obtain⟨gs,h0,rfl⟩:=Option.map_eq_some_iff.1 h
  have g0:=hg r (by simp) f hf
  obtain⟨g1,g2,g3⟩:=ih h0 fun q hq=>hg q (List.mem_cons_of_mem _ hq)
  refine⟨fun q hq=>?_,?_,by simp[g3]⟩
  ·rcases azz.1 hq with rfl|hq
   ·exact⟨g0.fm,g0.p⟩
   ·exact g1 q hq
  ·rw[azw,List.sum_cons,azu,Nat.add_mul]
   have:=g0.w
   omega
end
theorem IsSh.up{e:Nat}(h:IsSh d r)(hd:d<=e):IsSh e r:=by
 obtain⟨k,rfl⟩:=Nat.exists_eq_add_of_le hd
 induction k with
 |zero=>exact h
 |succ k ih=>exact(ih (by omega)).mono
def K6(r:List AV)(hr:IsEx r):CondE l r->∀d,d<=12->IsSh d r->∀m f,trS l r m=some f->GoodF l (2^(d+1)) f:=
 IsEx.ind (M:=fun r=>CondE l r->∀d,d<=12->IsSh d r->∀m f,trS l r m=some f->GoodF l (2^(d+1)) f) (fun x hx ih hc d hd hs m f hf=>by
  obtain⟨d',rfl,h2,h3⟩:=fx hs;have hq:2^(d'+1+1)=2*2^(d'+1):=by rw[Nat.pow_succ];omega
  have hp:1<=2^(d'+1):=Nat.one_le_two_pow;have hpm:2^(d'+1)<=4096:=Nat.pow_le_pow_right (by decide) (by omega:d'+1<=12)
  rw[hq];rcases zg hc with⟨ho,hl,ha⟩|⟨ho,hl,ha⟩|⟨ho,hl,ha⟩|⟨ho,a,b,h4,h0,h8⟩;rw[sw,azg ho]at hf;obtain⟨fs,h9,rfl⟩:=Option.map_eq_some_iff.1 hf;obtain⟨g1,g2,g3⟩:=K5 (N:=2^(d'+1)) h9 fun q hq f hf=>ih q hq (ha q hq) d' (by omega) (h3 q hq) m f hf
  exact Ud (by split<;>simp) (by omega) g1 (by rw[hl]at g2;exact g2);rw[Yg ho hl]at hf;have hm:x.b_[0]'(by omega)∈x.b_:=ay7 _
  exact(ih _ hm (ha _ hm) d' (by omega) (h3 _ hm) _ f hf).mono (by omega);rw[sw,azf (by omega),azf (by omega),azg ho]at hf;simp only[aza]at hf;subst hf;have hv:∀v∈srtU (bi x.b_),pk l v:=fun v hv=>D2 (fun q hq=>So (ha q hq) (hx.b_.2 q hq)) v (la.1 hv)
  have h5:(srtU (bi x.b_)).length<=2^(d'+1):=by have g1:=y5 (d:=d') fun q hq=>⟨hx.b_.2 q hq,h3 q hq⟩;rw[hl]at g1;exact azp (db _) (by omega)
  split;exact Ef _;split;exact zb (.inr rfl) (.inl rfl) hv (by omega) (by omega);exact zb (.inl rfl) (.inr rfl) hv (by omega) (by omega);have h6:exA a∈x.b_:=by rw[h4];simp
  have h7:exA b∈x.b_:=by rw[h4];simp
  have ia:=hx.b_.2 _ h6;have ib:=hx.b_.2 _ h7
  rw[Ir ho]at hf;by_cases hn:HasN (exA x);rw[Na hn (by omega)]at hf;cases hf;exact Ef _;rw[aav hn h4]at hf;obtain⟨p,hb,rfl⟩:=Option.map_eq_some_iff.1 hf;have n1:¬HasN (exA a):=fun g=>hn (pf.2 (.inr ⟨_,h6,g⟩))
  have n2:¬HasN (exA b):=fun g=>hn (pf.2 (.inr ⟨_,h7,g⟩));have s1:=(h3 _ h6).up (by omega:d'<=11)
  have s2:=(h3 _ h7).up (by omega:d'<=11);have he:∀v∈dw (exA a),pk l v:=So h0 ia
  have hg:∀v∈dw (exA b),pk l v:=by
   rcases h8 with⟨_,b1,_,_,b0,_⟩|⟨_,h1,_⟩;intro v hv;rw[dg,b0,azf (by omega)]at hv;simp[bi]at hv;exact So h1 ib
  have hv:∀v∈csX x,pk l v:=fun v hv=>by have hv:=la.1 hv;rw[h4]at hv;simp only[bi,List.append_nil,azd]at hv;exact hv.elim (he v) (hg v)
  have h5:(csX x).length+1<=2*2^(d'+1):=by have g1:=D3 _ ia d' (h3 _ h6);have g2:=D3 _ ib d' (h3 _ h7);have g3:(csX x).length<=(bi x.b_).length:=db _;rw[h4]at g3;simp only[bi,List.append_nil,azb]at g3;omega
  exact ait hv (fun t e=>by subst e;exact ank hx ia ib s1 s2 hc ho h4 n1 n2 hb) h5 (by omega)) hr
def U3:(⟨#[]⟩:ByteArray).toList=[]:=by rw[ByteArray.toList,ByteArray.toList.loop];rfl
def ask{a b:ByteArray}(h:a.toList=b.toList):a=b:=by rw[Go.ByteArray.toList_eq,Go.ByteArray.toList_eq]at h;exact ByteArray.ext (Array.ext' h)
def aa0:Fl zV:=⟨fun _=>⟨rfl,U3⟩,fun h=>absurd h (by decide),fun h=>absurd h (by decide)⟩
theorem V9(n:Int):Fl (iV n):=⟨fun h=>absurd h (by show¬(1:Int)=0;decide),fun _=>U3,fun h=>absurd h (by show¬(1:Int)=2;decide)⟩
theorem Jf(op:Int)(l:List GVal):Fl (opS op l)/\((opS op l).c_=0\/(opS op l).c_=1):=by
 cases l with
 |nil=>exact⟨aa0,.inl rfl⟩
 |cons a t=>
  simp only[opS]
  split
  ·exact⟨aa0,.inl rfl⟩
  ·split
   ·exact⟨V9 _,.inr rfl⟩
   ·split
    ·exact⟨V9 _,.inr rfl⟩
    ·cases t with
     |nil=>exact⟨aa0,.inl rfl⟩
     |cons b t=>
      simp only
      split
      ·exact⟨aa0,.inl rfl⟩
      ·exact⟨V9 _,.inr rfl⟩
section
variable{l:List PVar}{w:List GVal}
def Dv(h:Bel l w):X3 l w:=⟨h.1,fun j hl h2=>by rcases rf (h.2 j hl h2)with⟨a,b,_,_⟩|⟨a,_,b,c,d⟩|⟨a,b,_,c,d⟩;exact .inl ⟨a,b⟩;exact .inr (.inl ⟨a,b,c,d⟩);exact .inr (.inr ⟨a,d,b,c⟩)⟩
def Wa(h:Bel l w):∀v∈w,Fl v:=fun v hv=>by obtain⟨j,hj,rfl⟩:=azs hv;rcases rf (Nh h hj)with⟨a,b,c,_⟩|⟨a,b,_⟩|⟨a,b,c,d,_⟩;exact⟨fun _=>⟨b,vx c⟩,fun g=>by omega,fun g=>by omega⟩;exact⟨fun g=>by omega,fun _=>vx b,fun g=>by omega⟩;exact⟨fun g=>by omega,fun g=>by omega,fun _=>⟨b,c,d⟩⟩
theorem Tw(hB:Bel l w)(h:IntE l e):Fl (vS (bj w) e)/\((vS (bj w) e).c_=0\/(vS (bj w) e).c_=1):=by
 have hr:=Dv hB
 cases h with
 |lit x h ha hk hc=>rw[jf,azg h];exact⟨hc,hk.symm⟩
 |col x h ha hj=>
  obtain⟨j,hj,e,ht⟩:=hj
  have h0:j<w.length:=by have:=hr.1;omega
  rw[jf,azf (by omega),azg h,e,qx h0]
  refine⟨Wa hB _ (ay7 _),?_⟩
  rcases hr.2 j h0 hj with f|f|f
  ·exact .inl f.1
  ·exact .inr f.1
  ·omega
 |len x a h ha haa ht=>rw[jf,azf (by omega),azf (by omega)];exact Jf _ _
 |neg x h ha hs=>rw[jf,azf (by omega),azf (by omega)];exact Jf _ _
 |bin x h ha hs=>rw[jf,azf (by omega),azf (by omega)];exact Jf _ _
def Qq(hB:Bel l w)(h:OpE l d (exA x))(ht:TextE l (exA x)):Fl (vS (bj w) (exA x))/\((vS (bj w) (exA x)).c_=0\/(vS (bj w) (exA x)).c_=2):=by have hr:=Dv hB;obtain⟨h0,⟨h1,j,hj,e1,e2⟩|⟨h1,h2⟩⟩:=cp ht;have h3:j<w.length:=(by have:=hr.1;omega);rw[jf,azf (by omega),azg h1,e1,qx h3];refine⟨Wa hB _ (ay7 _),?_⟩;rcases hr.2 j h3 hj with f|f|f;exact .inl f.1;omega;exact .inr f.1;rw[jf,azg h1];refine⟨?_,.inr h2⟩;rcases h with⟨y,e,_,g,_⟩|⟨_,g⟩|⟨g,_⟩;have:=au e;subst this;omega;exact g x rfl h1;rcases d8 g with g|g|g|g|g<;>omega
theorem an1{a:GVal}(h:op=3\/op=9):(opS op [a]).c_=0↔a.c_=0:=by simp only[opS];by_cases g:a.c_=0;rw[azg g];exact⟨fun _=>g,fun _=>rfl⟩;rw[azf g];refine⟨fun h1=>?_,fun h1=>absurd h1 g⟩;rcases h with h|h;rw[azg h]at h1;exact absurd h1 (by show¬(1:Int)=0;decide);rw[azf (by omega),azg h]at h1;exact absurd h1 (by show¬(1:Int)=0;decide)
theorem avn{a b:GVal}(h:4<=op/\op<=8):(opS op [a,b]).c_=0↔a.c_=0\/b.c_=0:=by simp only[opS];by_cases g:a.c_=0;rw[azg g];exact⟨fun _=>.inl g,fun _=>rfl⟩;rw[azf g,azf (by omega),azf (by omega)];by_cases g2:b.c_=0;rw[azg g2];exact⟨fun _=>.inr g2,fun _=>rfl⟩;rw[azf g2];exact⟨fun h1=>absurd h1 (by show¬(1:Int)=0;decide),fun h1=>absurd h1 (by omega)⟩
def Sz(h:TextE l (exA x)):(vS (bj w) (exA x)).c_=0↔∃v∈dw (exA x),tq w v:=by obtain⟨h0,⟨h1,_⟩|⟨h1,h2⟩⟩:=cp h;rw[jf,azf (by omega),azg h1,dg,h0,azg h1];simp[bi,tq];rw[jf,azg h1,dg,h0,azf (by omega)];simp[bi];omega
theorem ahy(h:IntE l e):¬HasN e->((vS (bj w) e).c_=0↔∃v∈dw e,tq w v):=by
 induction h with
 |lit x h ha hk hc=>
  intro hn
  have:¬x.k_.c_=0:=fun h0=>hn (pf.2 (.inl ⟨h,h0⟩))
  rw[jf,azg h,dg,ha,azf (by omega)]
  simp[bi];exact this
 |col x h ha hj=>
  intro hn
  rw[jf,azf (by omega),azg h,dg,ha,azg h]
  simp[bi,tq]
 |len x a h ha haa ht=>
  intro hn
  have h4:¬HasN (exA a):=fun g=>hn (pf.2 (.inr ⟨_,by rw[ha];simp,g⟩))
  have hv:vS (bj w) (exA x)=opS 9 [vS (bj w) (exA a)]:=by rw[jf,azf (by omega),azf (by omega),h,ha];simp only[vsS]
  have ho:dw (exA x)=dw (exA a):=by rw[dg x,azf (by omega),ha];simp[bi]
  rw[hv,ho,an1 (.inr rfl)]
  rcases ht with ht|ht
  ·exact Sz ht
  ·exact absurd (pf.2 (.inl ht)) h4
 |neg x h ha hs ih=>
  intro hn
  obtain⟨c,hc⟩:=az4.1 ha
  have hm:c∈x.b_:=by rw[hc];simp
  have hv:vS (bj w) (exA x)=opS 3 [vS (bj w) c]:=by rw[jf,azf (by omega),azf (by omega),h,hc];simp only[vsS]
  have ho:dw (exA x)=dw c:=by rw[dg x,azf (by omega),hc];simp[bi]
  rw[hv,ho,an1 (.inl rfl)]
  exact ih c hm fun g=>hn (pf.2 (.inr ⟨c,hm,g⟩))
 |bin x h ha hs ih=>
  intro hn
  obtain⟨a,b,hc⟩:∃a b,x.b_=[a,b]:=⟨_,_,uo ha⟩
  have hm:a∈x.b_:=by rw[hc];simp
  have h3:b∈x.b_:=by rw[hc];simp
  have hv:vS (bj w) (exA x)=opS x.op_ [vS (bj w) a,vS (bj w) b]:=by rw[jf,azf (by omega),azf (by omega),hc];simp only[vsS]
  have ho:dw (exA x)=dw a++dw b:=by rw[dg x,azf (by omega),hc];simp[bi]
  rw[hv,ho,avn h,ih a hm fun g=>hn (pf.2 (.inr ⟨a,hm,g⟩)),ih b h3 fun g=>hn (pf.2 (.inr ⟨b,h3,g⟩))]
  simp only[azd]
  constructor
  ·rintro(⟨v,h1,h2⟩|⟨v,h1,h2⟩)
   ·exact⟨v,.inl h1,h2⟩
   ·exact⟨v,.inr h1,h2⟩
  ·rintro⟨v,h1|h1,h2⟩
   ·exact .inl ⟨v,h1,h2⟩
   ·exact .inr ⟨v,h1,h2⟩
theorem Gr(h:OpE l d r)(hr:IsEx r)(hn:¬HasN r):(vS (bj w) r).c_=0↔∃v∈dw r,tq w v:=by rcases h with⟨x,rfl,h1,h2,h3⟩|⟨h,_⟩|⟨h,_⟩;exact absurd (pf.2 (.inl ⟨h1,h2⟩)) hn;obtain⟨x,rfl,_⟩:=hr.open_;exact Sz h;exact ahy h hn
theorem Jh(h:OpE l d r)(hr:IsEx r)(hn:HasN r):(vS (bj w) r).c_=0:=by rcases h with⟨x,rfl,h1,h2,h3⟩|⟨h,_⟩|⟨h,_⟩;rw[jf,azg h1];exact h2;obtain⟨x,rfl,_⟩:=hr.open_;obtain⟨h0,h1⟩:=cp h;rcases pf.1 hn with g|⟨q,hq,_⟩;rcases h1 with h1|h1<;>omega;rw[h0]at hq;simp at hq;exact y6 h hn
end
def tri(s t:ByteArray):(fj s t=true/\fj t s=false/\¬s.toList=t.toList/\wm s t=-1)\/(fj s t=false/\fj t s=false/\s.toList=t.toList/\wm s t=0)\/(fj s t=false/\fj t s=true/\¬s.toList=t.toList/\wm s t=1):=by by_cases h:fj s t=true;left;have h2:fj t s=false:=Au h;refine⟨h,h2,fun e=>?_,by rw[wm,azg h]⟩;unfold fj at h;rw[e,vh]at h;cases h;have h:=Bool.eq_false_iff.2 h;right;by_cases e:s.toList=t.toList;left;have h2:fj t s=false:=(by unfold fj;rw[e];exact vh _);exact⟨h,h2,e,by rw[wm,h,h2];rfl⟩;right;have h2:fj t s=true:=Eb h e;exact⟨h,h2,e,by rw[wm,h,h2];rfl⟩
theorem ahf(s t:ByteArray):wm t s=-wm s t:=by rcases tri s t with⟨_,h2,_,e⟩|⟨_,h2,_,e⟩|⟨_,h2,_,e⟩<;>rcases tri t s with⟨g1,_,_,f⟩|⟨g1,g3,_,f⟩|⟨g1,g3,_,f⟩<;>rw[e,f]<;>simp_all
theorem Si{a b:GVal}(ha:Fl a)(hb:Fl b)(h1:a.c_=1)(h2:b.c_=1):Fj a b=Fg (a.v_-b.v_):=by
 have e1:=ha.2.1 h1;have e2:=hb.2.1 h2
 have l0:fj a.l_ b.l_=false:=by unfold fj;rw[e1,e2];rfl
 have te:a.l_.toList=b.l_.toList:=by rw[e1,e2]
 have so:Fj a b=if a.v_<b.v_ then -1 else if a.v_>b.v_ then 1 else 0:=by unfold Fj;rw[l0];simp[te]
 rw[so];unfold Fg;by_cases g:a.v_<b.v_;rw[azg g,azg (show a.v_-b.v_<0 by omega)];rw[azf g,azf (show¬a.v_-b.v_<0 by omega)];by_cases g2:a.v_>b.v_;rw[azg g2,azg (show a.v_-b.v_>0 by omega)];rw[azf g2,azf (show¬a.v_-b.v_>0 by omega)]
theorem ahe{a b:GVal}(ha:Fl a)(hb:Fl b)(h1:a.c_=2)(h2:b.c_=2):Fj a b=wm a.l_ b.l_:=by have e1:=(ha.2.2 h1).1;have e2:=(hb.2.2 h2).1;unfold Fj;rcases tri a.l_ b.l_ with⟨g1,g2,g3,g4⟩|⟨g1,g2,g3,g4⟩|⟨g1,g2,g3,g4⟩;rw[azg (.inr g1),g4];rw[azf (by rintro(h|h);omega;rw[g1]at h;cases h),azf (by rintro(h|⟨_,h⟩);omega;exact h g3),g4];rw[azf (by rintro(h|h);omega;rw[g1]at h;cases h),azg (.inr ⟨g1,g3⟩),g4]
def op6(h:10<=op/\op<=15):op=10\/op=11\/op=12\/op=13\/op=14\/op=15:=by omega
theorem Vu{a b:GVal}(h:10<=op/\op<=15)(ha:¬a.c_=0)(hb:¬b.c_=0):Ij op a b=ofS (n7 op (Fj a b)):=by unfold Ij;rw[azf (by rintro(h|h);exact ha h;exact hb h)];rcases op6 h with rfl|rfl|rfl|rfl|rfl|rfl<;>simp[n7]
theorem aau(h:10<=op/\op<=15):n7 (sr op) c=true↔¬n7 op c=true:=by rcases op6 h with rfl|rfl|rfl|rfl|rfl|rfl<;>simp[n7,sr]<;>omega
theorem aat(h:10<=op/\op<=15):n7 (ye op) (-c)=true↔n7 op c=true:=by rcases op6 h with rfl|rfl|rfl|rfl|rfl|rfl<;>simp[n7,ye]<;>omega
def ahi(h:10<=op/\op<=15):10<=sr op/\sr op<=15:=by rcases op6 h with rfl|rfl|rfl|rfl|rfl|rfl<;>decide
theorem agu(h:10<=op/\op<=15):10<=ye op/\ye op<=15:=by rcases op6 h with rfl|rfl|rfl|rfl|rfl|rfl<;>decide
theorem Qt{t:ByteArray}(h:10<=op/\op<=15):Am ⟨v,(qk op s).kd,(qk op s).ng,(qk op s).s⟩ t=true↔n7 op (wm t s)=true:=by rcases tri t s with⟨g1,g2,g3,g4⟩|⟨g1,g2,g3,g4⟩|⟨g1,g2,g3,g4⟩<;>rw[g4]<;>rcases op6 h with rfl|rfl|rfl|rfl|rfl|rfl<;>simp[Am,qk,n7,g1,g2,g3]
def PtH(w:List GVal):Pt->Prop
 |.kn b=>b=true
 |.pat a=>AtH w a
section
variable{w:List GVal}{a:GAt}{b:Bool}
theorem E2(h:¬a.c_=4):AtH w a↔LitH w ⟨a,false⟩:=by unfold AtH;rw[azf h]
def Gt(h:(bj w v).c_=2):nnH w v:=by unfold nnH;omega
theorem aic(h:a.c_=5):LitH w ⟨a,b⟩↔Xz w ⟨a.p_,a.x_.kd,a.x_.ng,a.x_.s⟩:=by
 constructor;exact fun g=>g.h5 h
 ·intro g;refine⟨fun v hp=>?_,fun e=>?_,fun e=>?_,fun e=>?_,fun e=>?_,fun _=>g,fun e=>?_,fun e=>?_⟩;unfold nnP isI at hp;have h:(⟨a,b⟩:GLit).e_.c_=5:=h
  rcases hp with⟨h1,_⟩|⟨_,rfl⟩|⟨h1,_⟩;omega;exact Gt g.1;omega;all_goals(have e:a.c_=_:=e;omega)
theorem awg(h:a.c_=6):LitH w ⟨a,b⟩↔N7 w (a.p_,a.w_):=by
 constructor;exact fun g=>g.h6 h
 ·intro g;refine⟨fun v hp=>?_,fun e=>?_,fun e=>?_,fun e=>?_,fun e=>?_,fun e=>?_,fun _=>g,fun e=>?_⟩;unfold nnP isI at hp;have h:(⟨a,b⟩:GLit).e_.c_=6:=h
  rcases hp with⟨h1,_⟩|⟨_,rfl⟩|⟨_,rfl⟩;omega;exact Gt g.1;exact Gt g.2.1;all_goals(have e:a.c_=_:=e;omega)
theorem awf(h:a.c_=7):LitH w ⟨a,b⟩↔O4 w (a.p_,a.w_):=by
 constructor;exact fun g=>g.h7 h
 ·intro g;refine⟨fun v hp=>?_,fun e=>?_,fun e=>?_,fun e=>?_,fun e=>?_,fun e=>?_,fun e=>?_,fun _=>g⟩;unfold nnP isI at hp;have h:(⟨a,b⟩:GLit).e_.c_=7:=h
  rcases hp with⟨h1,_⟩|⟨_,rfl⟩|⟨_,rfl⟩;omega;exact Gt g.1;exact Gt g.2.1;all_goals(have e:a.c_=_:=e;omega)
theorem Zu(h:isI ⟨a,b⟩):LitH w ⟨a,b⟩↔(∀v∈d7 (tmA a.o_),nnH w v)/\(a.c_=2->tvL (mq w) (tmA a.o_)<=0)/\(a.c_=3->tvL (mq w) (tmA a.o_)=0)/\(a.c_=4->if b=true then 0<tvL (mq w) (tmA a.o_)else tvL (mq w) (tmA a.o_)<0):=by
 have hk:a.c_=2\/a.c_=3\/a.c_=4:=h;constructor;exact fun g=>⟨fun v hv=>g.nn v (.inl ⟨h,hv⟩),g.h2,g.h3,g.h4⟩
 ·rintro⟨g1,g2,g3,g4⟩;refine⟨fun v hp=>?_,fun e=>?_,g2,g3,g4,fun e=>?_,fun e=>?_,fun e=>?_⟩;unfold nnP at hp;rcases hp with⟨_,h1⟩|⟨h1,_⟩|⟨h1,_⟩;exact g1 v h1;have h1:a.c_=1\/a.c_=5\/a.c_=6\/a.c_=7:=h1
  omega;have h1:a.c_=6\/a.c_=7:=h1
  omega;all_goals(have e:a.c_=_:=e;omega)
theorem ayr(h:a.c_=2):AtH w a↔(∀v∈d7 (tmA a.o_),nnH w v)/\tvL (mq w) (tmA a.o_)<=0:=by rw[E2 (by omega),Zu (.inl h)];exact⟨fun g=>⟨g.1,g.2.1 h⟩,fun g=>⟨g.1,fun _=>g.2,fun e=>by omega,fun e=>by omega⟩⟩
theorem as3(h:a.c_=3):AtH w a↔(∀v∈d7 (tmA a.o_),nnH w v)/\tvL (mq w) (tmA a.o_)=0:=by rw[E2 (by omega),Zu (.inr (.inl h))];exact⟨fun g=>⟨g.1,g.2.2.1 h⟩,fun g=>⟨g.1,fun e=>by omega,fun _=>g.2,fun e=>by omega⟩⟩
theorem ayq(h:a.c_=4):AtH w a↔(∀v∈d7 (tmA a.o_),nnH w v)/\¬tvL (mq w) (tmA a.o_)=0:=by unfold AtH;rw[azg h,Zu (.inr (.inr h)),Zu (.inr (.inr h))];constructor;rintro(⟨g1,_,_,g2⟩|⟨g1,_,_,g2⟩);have g2:=g2 h;rw[azf (by decide)]at g2;exact⟨g1,by omega⟩;have g2:=g2 h;rw[azg rfl]at g2;exact⟨g1,by omega⟩;rintro⟨g1,g2⟩;rcases Int.lt_or_gt_of_ne g2 with g|g;exact .inl ⟨g1,fun e=>by omega,fun e=>by omega,fun _=>by rw[azf (by decide)];exact g⟩;exact .inr ⟨g1,fun e=>by omega,fun e=>by omega,fun _=>by rw[azg rfl];exact g⟩
def as2(h0:¬a.c_=0)(hk:0<=a.c_/\a.c_<=7)(h:AtH w a):∀v∈jh a,nnH w v:=fun v hv=>by
 have key:∃b,LitH w ⟨a,b⟩:=by
  unfold AtH at h;split at h;exact h.elim (fun g=>⟨_,g⟩) fun g=>⟨_,g⟩;exact⟨_,h⟩
 obtain⟨b,g⟩:=key;refine g.nn v ?_;unfold nnP;unfold jh at hv;split at hv;rename_i hi;exact .inl ⟨hi,la.1 hv⟩;split at hv;rename_i h6;have hv:=la.1 hv
 rcases azz.1 hv with rfl|hv;exact .inr (.inl ⟨by show a.c_=1\/a.c_=5\/a.c_=6\/a.c_=7;omega,rfl⟩);exact .inr (.inr ⟨h6,azc.1 hv⟩);exact .inr (.inl ⟨by show a.c_=1\/a.c_=5\/a.c_=6\/a.c_=7;omega,azc.1 hv⟩)
end
def PSb(P:Int->Prop)(t:GTm):Prop:=∀p∈t.a_,∀v∈lm p,P v
def Ja{P:Int->Prop}{t:GTm}(h:PSb P t):∀v∈d7 (tmA t),P v:=fun v hv=>by rw[dj,List.mem_flatMap]at hv;obtain⟨p,hp,hv⟩:=hv;exact h p hp v hv
section
variable{P:Int->Prop}{a b t u:GTm}
def am2 :PSb P ⟨c,[]⟩:=fun p hp=>by simp at hp
def F7(ha:PSb P a)(hb:PSb P b):PSb P (qq a b):=pd (P:=fun p=>∀v∈lm p,P v) (fun q c h=>h) ha hb
def I0(ha:PSb P a):PSb P (scT n a):=by unfold scT;split;exact am2;intro p hp;obtain⟨q,hq,rfl⟩:=azy.1 hp;exact ha q hq
def ava(ha:PSb P a):PSb P (dvT a n):=fun p hp v hv=>by rw[azc.1 hp]at hv;have e:lm (dvP a n)=a.a_.flatMap lm:=(by show(if(2:Int)=2 then ve [tmA a]else _)=_;rw[azg rfl];simp only[ve,dj]);rw[e]at hv;obtain⟨q,hq,hv⟩:=List.mem_flatMap.1 hv;exact ha q hq v hv
def me{o:GTm}(h:dt o=some t)(ho:PSb P o):PSb P t:=by rw[(j6 h).1];exact ho
def am3(ha:PSb P a)(hb:PSb P b)(h:kw op a b=some u):PSb P u:=by
 unfold kw at h;split at h;exact me h (F7 ha hb);split at h;obtain⟨c,hc,h⟩:=azt.1 h;exact me h (F7 ha (me hc (I0 hb)));split at h;split at h;cases h;split at h;exact me h (I0 hb);exact me h (I0 ha);split at h;cases h;obtain⟨q,hq,h⟩:=azt.1 h
 have g:PSb P q:=by
  unfold ym at hq;split at hq;cases hq;exact ha;split at hq;cases hq;exact am2;exact me hq (ava ha)
 split at h;cases h;exact g;obtain⟨m,hm,h⟩:=azt.1 h;exact me h (F7 ha (me hm (I0 g)))
def ack{k:Int}(h2:k≠2)(h:P v):PSb P (ue k v):=fun p hp u hu=>by rw[azc.1 hp]at hu;have e:lm ⟨1,k,v,0,[]⟩=[v]:=(by unfold lm;rw[azf h2]);have hu:u∈lm ⟨1,k,v,0,[]⟩:=hu;rw[e]at hu;rw[azc.1 hu];exact h
end
theorem ac8(r:List AV)(hr:IsEx r):∀u,ofT r=some u->PSb (fun v=>v∈dw r) u:=
 IsEx.ind (M:=fun r=>∀u,ofT r=some u->PSb (fun v=>v∈dw r) u) (fun x hx ih u hu=>by
  have sub:∀r∈x.b_,∀v∈dw r,v∈dw (exA x):=fun r hr v hv=>by
   rw[dg]
   refine azd.2 (.inr ?_)
   have:∀es:List (List AV),r∈es->v∈bi es:=by
    intro es
    induction es with
    |nil=>intro h;simp at h
    |cons a es ih2=>
     intro h
     simp only[bi,azd]
     rcases azz.1 h with rfl|h
     ·exact .inl hv
     ·exact .inr (ih2 h)
   exact this _ hr
  have up:∀r∈x.b_,∀s,ofT r=some s->PSb (fun v=>v∈dw (exA x)) s:=fun r hr s hs p hp v hv=>sub r hr v (ih r hr s hs p hp v hv)
  cases ofV hu with
  |len t h hl hu=>
   obtain⟨a,ha,_,ha0,⟨_,_,rfl⟩|⟨a2,_,rfl⟩⟩:=alb hx hl
   ·exact me hu am2
   ·exact me hu (ack (by decide) (sub (exA a) (by rw[ha];exact azc.2 rfl) a.j_ (by rw[dg,azg a2];exact azd.2 (.inl (azc.2 rfl)))))
  |lit h ha hk hu=>exact me hu am2
  |col h ha hi hu=>subst hu;exact ack (by decide) (by rw[dg,azg h];exact azd.2 (.inl (azc.2 rfl)))
  |neg r s h ha hr hu=>exact me hu (I0 (up r (by rw[ha];simp) s hr))
  |bin r q a b h ha hr h0 hu=>exact am3 (up r (by rw[ha];simp) a hr) (up q (by rw[ha];simp) b h0) hu) hr
section
variable{l:List PVar}{w:List GVal}
theorem Iw{d:Int}(h:10<=op/\op<=15):n7 op (Fg d)=true↔(op=10/\d=0)\/(op=11/\¬d=0)\/(op=12/\d<0)\/(op=13/\d<=0)\/(op=14/\0<d)\/(op=15/\0<=d):=by
 have hs:(d<0/\Fg d=-1)\/(d=0/\Fg d=0)\/(0<d/\Fg d=1):=by
  unfold Fg;by_cases g:d<0;exact .inl ⟨g,by rw[azg g]⟩;by_cases g2:d>0;exact .inr (.inr ⟨g2,by rw[azf g,azg g2]⟩);exact .inr (.inl ⟨by omega,by rw[azf g,azf g2]⟩)
 rcases hs with⟨g,e⟩|⟨g,e⟩|⟨g,e⟩<;>rw[e]<;>rcases op6 h with rfl|rfl|rfl|rfl|rfl|rfl<;>simp[n7]<;>omega
theorem ain{x:List AV}{P Q:GTm}(h:10<=op/\op<=15)(hx:IsEx x)(hy:IsEx y)(sx:IsSh 11 x)(sy:IsSh 11 y)(hP:ofT x=some P)(hQ:ofT y=some Q)(hi:Ct op x y=some p)(h0:∀v∈dw x,nnH w v)(h1:∀v∈dw y,nnH w v):
 PtH w p↔n7 op (Fg (tvL (mq w) (tmA P)-tvL (mq w) (tmA Q)))=true:=by
 unfold Ct at hi
 rw[hP,hQ,az6,az6]at hi
 obtain⟨c,hc,hi⟩:=azt.1 hi
 obtain⟨t,ht,hi⟩:=azt.1 hi
 obtain⟨p1,p2,p3⟩:=j4 x hx 11 (by decide) sx P hP
 obtain⟨q1,q2,q3⟩:=j4 y hy 11 (by decide) sy Q hQ
 have h2:(2:Nat)^(11+1)=4096:=by decide
 rw[h2]at p3 q3
 obtain⟨c1,c2,c3,c4⟩:=il q1 hc
 obtain⟨t1,t2,t3,t4⟩:=Bm p1 c1 (by omega) ht
 have hd:tvL (mq w) (tmA P)-tvL (mq w) (tmA Q)=tvL (mq w) (tmA t):=by rw[t4,c4];omega
 have sb:PSb (nnH w) t:=me ht (F7 (fun p hp v hv=>h0 v (ac8 x hx P hP p hp v hv)) (me hc (I0 (fun p hp v hv=>h1 v (ac8 y hy Q hQ p hp v hv)))))
 rw[hd]
 split at hi
 ·rename_i e
  cases hi
  have:tvL (mq w) (tmA t)=t.f_:=by rw[kp,e];simp[pn]
  rw[this];exact Iff.rfl
 ·split at hi
  ·rename_i _ e;cases hi
   rw[Iw h]
   show AtH w _↔_
   rw[as3 rfl]
   exact⟨fun g=>.inl ⟨e,g.2⟩,fun g=>⟨Ja sb,by rcases g with g|g|g|g|g|g<;>first|exact g.2|omega⟩⟩
  ·split at hi
   ·rename_i _ _ e;cases hi
    rw[Iw h]
    show AtH w _↔_
    rw[ayq rfl]
    exact⟨fun g=>.inr (.inl ⟨e,g.2⟩),fun g=>⟨Ja sb,by rcases g with g|g|g|g|g|g<;>first|exact g.2|omega⟩⟩
   ·rename_i n0 n10 n11
    obtain⟨u,hu,hi⟩:=azt.1 hi
    obtain⟨z,hz,hi⟩:=azt.1 hi
    cases hi
    have gu:FitTm u/\u.a_.length<=8190/\PSb (nnH w) u/\tvL (mq w) (tmA u)=if op=14\/op=15 then -1*tvL (mq w) (tmA t)else tvL (mq w) (tmA t):=by split at hu;rename_i g;obtain⟨g1,g2,g3,g4⟩:=il t1 hu;exact⟨g1,by omega,me hu (I0 sb),by rw[azg g,g4]⟩;rename_i g;cases hu;exact⟨t1,by omega,sb,by rw[azf g]⟩
    obtain⟨u1,u2,u3,u4⟩:=gu
    have gz:PSb (nnH w) z/\tvL (mq w) (tmA z)=if op=12\/op=14 then tvL (mq w) (tmA u)+1 else tvL (mq w) (tmA u):=by split at hz;rename_i g;obtain⟨g1,g2,g3,g4⟩:=Bm u1 w7 (by show _+0<=_;omega) hz;refine⟨me hz (F7 u3 am2),?_⟩;rw[azg g,g4];have:tvL (mq w) (tmA one1)=1:=(by rw[kp];simp[one1,pn]);rw[this];rename_i g;cases hz;exact⟨u3,by rw[azf g]⟩
    obtain⟨z1,z2⟩:=gz
    rw[Iw h]
    show AtH w _↔_
    rw[ayr rfl]
    show(∀v∈d7 (tmA z),nnH w v)/\tvL (mq w) (tmA z)<=0↔_
    rw[z2,u4]
    have zo:=Ja z1
    generalize tvL (mq w) (tmA t)=d
    have hz:(if op=12\/op=14 then(if op=14\/op=15 then -1*d else d)+1 else(if op=14\/op=15 then -1*d else d))<=0↔(op=10/\d=0)\/(op=11/\¬d=0)\/(op=12/\d<0)\/(op=13/\d<=0)\/(op=14/\0<d)\/(op=15/\0<=d):=by rcases op6 h with e|e|e|e|e|e<;>subst e<;>first|exact absurd rfl n10|exact absurd rfl n11|(simp;done)|(simp;omega)
    exact⟨fun g=>hz.1 g.2,fun g=>⟨zo,hz.2 g⟩⟩
theorem txv(h:x.op_=2):vS (bj w) (exA x)=bj w x.j_:=by rw[jf,azf (by omega),azg h]
theorem txl(h:x.op_=1):vS (bj w) (exA x)=x.k_:=by rw[jf,azg h]
theorem alv{y:GEx}(h:10<=op/\op<=15)(tx:TextE l (exA x))(ty:TextE l (exA y))(hop:x.op_=1\/y.op_=1\/op=10\/op=11)(kx:(vS (bj w) (exA x)).c_=2)(ky:(vS (bj w) (exA y)).c_=2):
 PtH w (ot op x y)↔n7 op (wm (vS (bj w) (exA x)).l_ (vS (bj w) (exA y)).l_)=true:=by
 have ox:x.op_=2\/x.op_=1:=by rcases(cp tx).2 with g|g;exact .inl g.1;exact .inr g.1
 have oy:y.op_=2\/y.op_=1:=by rcases(cp ty).2 with g|g;exact .inl g.1;exact .inr g.1
 unfold ot
 split
 ·rename_i g
  rw[txl g.1,txl g.2];exact Iff.rfl
 ·rename_i g0
  split
  ·rename_i g
   have gy:y.op_=2:=by omega
   show AtH w _↔_
   rw[E2 (by show¬(5:Int)=4;decide),aic rfl]
   rw[txl g,txv gy]at*
   show(bj w y.j_).c_=2/\Am ⟨y.j_,(qk (ye op) x.k_.l_).kd,(qk (ye op) x.k_.l_).ng,(qk (ye op) x.k_.l_).s⟩ (bj w y.j_).l_=true↔_
   rw[Qt (agu h),ahf x.k_.l_,aat h]
   exact⟨fun g=>g.2,fun g=>⟨ky,g⟩⟩
  ·rename_i g1
   have gx:x.op_=2:=by omega
   split
   ·rename_i g
    show AtH w _↔_
    rw[E2 (by show¬(5:Int)=4;decide),aic rfl]
    rw[txl g,txv gx]at*
    show(bj w x.j_).c_=2/\Am ⟨x.j_,(qk op y.k_.l_).kd,(qk op y.k_.l_).ng,(qk op y.k_.l_).s⟩ (bj w x.j_).l_=true↔_
    rw[Qt h]
    exact⟨fun g=>g.2,fun g=>⟨kx,g⟩⟩
   ·rename_i g2
    have gy:y.op_=2:=by omega
    have ho:op=10\/op=11:=by omega
    rw[txv gx,txv gy]at*
    have eqv:∀s t:ByteArray,(s=t↔wm s t=0):=fun s t=>by rcases tri s t with⟨_,_,g3,g4⟩|⟨_,_,g3,g4⟩|⟨_,_,g3,g4⟩;exact⟨fun e=>absurd (by rw[e]) g3,fun e=>by omega⟩;exact⟨fun _=>g4,fun _=>ask g3⟩;exact⟨fun e=>absurd (by rw[e]) g3,fun e=>by omega⟩
    split
    ·rename_i g3
     have e0:=(eqv (bj w x.j_).l_ (bj w y.j_).l_).1 (by rw[g3])
     rw[e0]
     show((op==10)=true)↔_
     rcases ho with rfl|rfl<;>simp[n7]
    ·rename_i g3
     have mm:(min x.j_ y.j_=x.j_/\max x.j_ y.j_=y.j_)\/(min x.j_ y.j_=y.j_/\max x.j_ y.j_=x.j_):=by omega
     show AtH w _↔_
     rcases ho with rfl|rfl
     ·rw[azf (by decide),E2 (by show¬(6:Int)=4;decide),awg rfl]
      have e1:n7 10 (wm (bj w x.j_).l_ (bj w y.j_).l_)=true↔(bj w x.j_).l_=(bj w y.j_).l_:=by rw[eqv];simp[n7]
      rw[e1]
      unfold N7
      show(bj w (min x.j_ y.j_)).c_=2/\(bj w (max x.j_ y.j_)).c_=2/\(bj w (min x.j_ y.j_)).l_=(bj w (max x.j_ y.j_)).l_↔_
      rcases mm with⟨m1,m2⟩|⟨m1,m2⟩<;>rw[m1,m2]
      ·exact⟨fun g=>g.2.2,fun g=>⟨kx,ky,g⟩⟩
      ·exact⟨fun g=>g.2.2.symm,fun g=>⟨ky,kx,g.symm⟩⟩
     ·rw[azg rfl,E2 (by show¬(7:Int)=4;decide),awf rfl]
      have e1:n7 11 (wm (bj w x.j_).l_ (bj w y.j_).l_)=true↔¬(bj w x.j_).l_=(bj w y.j_).l_:=by rw[eqv];simp[n7]
      rw[e1]
      unfold O4
      show(bj w (min x.j_ y.j_)).c_=2/\(bj w (max x.j_ y.j_)).c_=2/\¬(bj w (min x.j_ y.j_)).l_=(bj w (max x.j_ y.j_)).l_↔_
      rcases mm with⟨m1,m2⟩|⟨m1,m2⟩<;>rw[m1,m2]
      ·exact⟨fun g=>g.2.2,fun g=>⟨kx,ky,g⟩⟩
      ·exact⟨fun g e=>g.2.2 e.symm,fun g=>⟨ky,kx,fun e=>g e.symm⟩⟩
theorem ape{y:GEx}(tx:TextE l (exA x))(hy:y.op_=1)(kx:(vS (bj w) (exA x)).c_=2):
 PtH w (G1 x y pos)↔(re (vS (bj w) (exA x)).l_ (vS (bj w) (exA y)).l_==pos)=true:=by
 have ox:x.op_=2\/x.op_=1:=by rcases(cp tx).2 with g|g;exact .inl g.1;exact .inr g.1
 rw[txl hy]
 unfold G1
 split
 ·rename_i g;rw[txl g];exact Iff.rfl
 ·have gx:x.op_=2:=by omega
  show AtH w _↔_
  rw[E2 (by show¬(5:Int)=4;decide),aic rfl]
  rw[txv gx]at*
  show(bj w x.j_).c_=2/\Am ⟨x.j_,1,!pos,y.k_.l_⟩ (bj w x.j_).l_=true↔_
  have e1:Am ⟨x.j_,1,!pos,y.k_.l_⟩ (bj w x.j_).l_=(re (bj w x.j_).l_ y.k_.l_==pos):=by simp only[Am];rw[azf (by decide),azg trivial];cases re (bj w x.j_).l_ y.k_.l_<;>cases pos<;>rfl
  rw[e1]
  exact⟨fun g=>g.2,fun g=>⟨kx,g⟩⟩
end
section
variable{l:List PVar}{w:List GVal}{m k:Int}
theorem Hg(hk:k=0\/k=1)(L:List (List AV)):FmH w (lsF k L)↔if k=1 then∃r∈L,FmH w r else∀r∈L,FmH w r:=by by_cases h1:L.length=1;obtain⟨r,rfl⟩:=az4.1 h1;show FmH w r↔_;split<;>simp;rw[xx h1,vn];show(if k=2 then _ else if k=1 then∃r∈L,FmH w r else∀r∈L,FmH w r)↔_;rw[azf (by omega)]
theorem adr :FmH w (fmA (atF a))↔AtH w a:=by rw[vn,azg (show(atF a).c_=2 from rfl)];exact Iff.rfl
def fmh_0 :FmH w (fmA (atF (vAt 0 v)))↔tq w v:=by rw[adr,E2 (by show¬(0:Int)=4;decide),apa rfl];exact Iff.rfl
theorem aws :FmH w (fmA (atF (vAt 1 v)))↔¬tq w v:=by rw[adr,E2 (by show¬(1:Int)=4;decide),ao9 rfl];exact Iff.rfl
theorem adq :FmH w (lsF 1 (wn 0 vs))↔∃v∈vs,tq w v:=by rw[Hg (.inr rfl),azg rfl];unfold wn;simp only[azy];constructor;rintro⟨r,⟨v,hv,rfl⟩,h⟩;exact⟨v,hv,fmh_0.1 h⟩;rintro⟨v,hv,h⟩;exact⟨_,⟨v,hv,rfl⟩,fmh_0.2 h⟩
theorem adp :FmH w (lsF 0 (wn 1 vs))↔∀v∈vs,¬tq w v:=by simp_all [Hg,wn,azy,aws]
def ai1 :FmH w (lsF 1 (wn 0 vs++[fmA (atF a)]))↔(∃v∈vs,tq w v)\/AtH w a:=by rw[Hg (.inr rfl),azg rfl];unfold wn;simp only[azd,azy,azc];constructor;rintro⟨r,⟨v,hv,rfl⟩|rfl,h⟩;exact .inl ⟨v,hv,fmh_0.1 h⟩;exact .inr (adr.1 h);rintro(⟨v,hv,h⟩|h);exact⟨_,.inl ⟨v,hv,rfl⟩,fmh_0.2 h⟩;exact⟨_,.inr rfl,adr.2 h⟩
theorem ai0 :FmH w (lsF 0 (wn 1 vs++[fmA (atF a)]))↔(∀v∈vs,¬tq w v)/\AtH w a:=by rw[Hg (.inl rfl),azf (by decide)];unfold wn;simp only[azd,azy,azc];constructor;intro h;exact⟨fun v hv=>aws.1 (h _ (.inl ⟨v,hv,rfl⟩)),adr.1 (h _ (.inr rfl))⟩;rintro⟨h,h2⟩ r (⟨v,hv,rfl⟩|rfl);exact aws.2 (h v hv);exact adr.2 h2
theorem ajr(hA:∀a,p=.pat a->AtH w a->∀v∈jh a,nnH w v):FmH w (cmF m cs p)↔if ip m=true then(∃v∈cs,tq w v)\/PtH w p else(∀v∈cs,¬tq w v)/\PtH w p:=by
 by_cases hw:ip m=true;rw[azg hw];cases p with
 |kn b=>
  cases b
  ·rw[cmF,azg hw,azf (by decide),adq];simp[PtH]
  ·rw[cmF,azg hw,azg rfl,Uh];simp[PtH]
 |pat a=>rw[cmF,azg hw];exact ai1
 rw[azf hw];cases p with
 |kn b=>
  cases b
  ·rw[cmF,azf hw,azf (by decide),Uh];simp[PtH]
  ·rw[cmF,azf hw,azg rfl,adp];simp[PtH]
 |pat a=>
  rw[cmF,azf hw,ai0]
  constructor
  ·rintro⟨h1,h2⟩
   refine⟨fun v hv=>?_,h2⟩
   by_cases hc:(jh a).contains v=true
   ·exact hA a rfl h2 v (by simpa using hc)
   ·exact h1 v (List.mem_filter.2 ⟨hv,by simpa using hc⟩)
  ·rintro⟨h1,h2⟩
   exact⟨fun v hv=>h1 v (List.mem_filter.1 hv).1,h2⟩
def MdH(m v:Int):Prop:=if m=0 then v=1 else if m=1 then v=0 else if m=2 then v≠0 else v≠1
theorem tx_k{y:GEx}(h:ot op x y=.pat a):¬a.c_=0:=by grind[ot]
theorem in_k{x:List AV}(h:Ct op x y=some (.pat a)):¬a.c_=0:=by grind[Ct,azt]
def pt_k{x:List AV}(h:ptS l op x y pos=some (.pat a)):¬a.c_=0:=by grind[ptS,G1,aza,tx_k,in_k]
theorem Uu{p:α->Prop}{a:α}{l:List α}:(∃x∈a::l,p x)↔p a\/∃x∈l,p x:=by simp
variable{x a b:GEx}{p:Pt}{pos:Bool}
def ani(hB:Bel l w)(h6:LOk l)(hx:FitEx x)(ia:IsEx (exA a))(ib:IsEx (exA b))(sa:IsSh 11 (exA a))(sb:IsSh 11 (exA b))(hc:CondE l (exA x))(ho:10<=x.op_/\x.op_<=16)(h4:x.b_=[exA a,exA b])(hn:¬HasN (exA a))(hm:¬HasN (exA b))(h:ptS l x.op_ (exA a) (exA b) pos=some p)(h0:∀v∈csX x,¬tq w v):
 PtH w p↔Ij x.op_ (vS (bj w) (exA a)) (vS (bj w) (exA b))=if pos=true then 1 else 0:=by
 have hr:=Dv hB
 have nna:∀v∈dw (exA a),nnH w v:=fun v hv=>h0 v (la.2 (by rw[h4];simp[bi,hv]))
 have nnb:∀v∈dw (exA b),nnH w v:=fun v hv=>h0 v (la.2 (by rw[h4];simp[bi,hv]))
 have of01:∀c:Bool,((c==pos)=true)↔ofS c=if pos=true then 1 else 0:=fun c=>by cases c<;>cases pos<;>simp[ofS]
 rcases zg hc with g|g|g|⟨_,a',b',e,h1,g⟩
 ·omega
 ·omega
 ·omega
 rw[h4]at e
 obtain⟨e1,e2⟩:=Qs e
 subst e1;subst e2
 have ka:¬(vS (bj w) (exA a)).c_=0:=fun g=>by obtain⟨v,hv,h⟩:=(Gr h1 ia hn).1 g;exact nna v hv h
 rcases g with⟨h7,b1,b2,b3,_,ht⟩|⟨h8,h2,hs,h9⟩
 ·rw[R6 h7]at h
  simp only[aza]at h
  subst h
  have ht:=ht.resolve_right hn
  have kx:=(Qq hB h1 ht).2.resolve_left ka
  rw[ape ht b1 kx,of01,h7]
  have kb:(vS (bj w) (exA b)).c_=2:=by rw[txl b1];exact b2
  unfold Ij
  rw[azf (show¬((vS (bj w) (exA a)).c_=0\/(vS (bj w) (exA b)).c_=0)by omega)]
  simp
 ·have kb:¬(vS (bj w) (exA b)).c_=0:=fun g=>by obtain⟨v,hv,h⟩:=(Gr h2 ib hm).1 g;exact nnb v hv h
  have hp:10<=x.op_/\x.op_<=15:=⟨ho.1,h8⟩
  have key:∀c,(n7 (if pos=true then x.op_ else sr x.op_) c=true)↔ofS (n7 x.op_ c)=if pos=true then 1 else 0:=fun c=>by rw[<-of01];cases pos;rw[azf (by decide),aau hp];simp;rw[azg rfl];simp
  have h3:10<=(if pos=true then x.op_ else sr x.op_)/\(if pos=true then x.op_ else sr x.op_)<=15:=by split;exact hp;exact ahi hp
  rw[Vu hp ka kb]
  rcases ad9 hs hn hm with⟨ta,tb⟩|⟨ta,tb⟩
  ·rw[ag5 (by omega) (.inl ta) rfl]at h
   simp only[aza]at h
   subst h
   have va:=Qq hB h1 ta
   have vb:=Qq hB h2 tb
   have kx:=va.2.resolve_left ka
   have ky:=vb.2.resolve_left kb
   have h5:a.op_=1\/b.op_=1\/(if pos=true then x.op_ else sr x.op_)=10\/(if pos=true then x.op_ else sr x.op_)=11:=by rcases h9 ta with g|g|g|g;exact .inl g;exact .inr (.inl g);rw[g];right;right;split;exact .inl rfl;exact .inr rfl;rw[g];right;right;split;exact .inr rfl;exact .inl rfl
   rw[alv h3 ta tb h5 kx ky,ahe va.1 vb.1 kx ky]
   exact key _
  ·rw[ak8 (by omega) ta tb rfl]at h
   obtain⟨i1,P,hP⟩:=L5 h1 hn ta
   obtain⟨i2,Q,hQ⟩:=L5 h2 hm tb
   have va:=Tw hB i1
   have vb:=Tw hB i2
   have kx:=va.2.resolve_left ka
   have ky:=vb.2.resolve_left kb
   rw[ain h3 ia ib sa sb hP.2.2.2.2.2 hQ.2.2.2.2.2 h nna nnb,Si va.1 vb.1 kx ky]
   rw[Gq (sem hr h6 hP.1 i1) ka,Gq (sem hr h6 hQ.1 i2) kb]
   exact key _
theorem aoc(c:Bool):ofS c=0\/ofS c=1:=by cases c<;>simp[ofS]
def ajo{a b:GVal}(ha:¬a.c_=0)(hb:¬b.c_=0):Ij op a b=0\/Ij op a b=1:=by grind[Ij,aoc]
theorem aec{a b:GVal}(h:a.c_=0\/b.c_=0):Ij op a b=2:=by unfold Ij;rw[azg h]
theorem aly{s:Int}(hu:0<=u/\u<=2)(hv:0<=v/\v<=2)(hs:s=0\/s=1)(hm:0<=m/\m<=3):MdH m (two s u v)↔if(if(s+18==18)=o9 m then(0:Int)else 1)=1 then MdH m u\/MdH m v else MdH m u/\MdH m v:=by grind[MdH,two,o9]
def aor(hu:0<=u/\u<=2)(hm:0<=m/\m<=3):MdH m (if u=2 then 2 else 1-u)↔MdH (Ii m) u:=by grind[MdH,Ii]
theorem Qw{es fs:List (List AV)}{Q:List AV->Prop}(h:km l es m=some fs)(hg:∀r∈es,∀f,trS l r m=some f->(FmH w f↔Q r)):((∀f∈fs,FmH w f)↔∀r∈es,Q r)/\((∃f∈fs,FmH w f)↔∃r∈es,Q r):=by
 induction es generalizing fs with
 |nil=>simp only[km]at h;cases h;simp
 |cons r rs ih=>
  simp only[km]at h
  obtain⟨f,hf,h⟩:=azt.1 h
  obtain⟨gs,h0,rfl⟩:=Option.map_eq_some_iff.1 h
  have g0:=hg r (by simp) f hf
  obtain⟨g1,g2⟩:=ih h0 fun q hq=>hg q (List.mem_cons_of_mem _ hq)
  constructor<;>simp only[List.forall_mem_cons,Uu,g0,g1,g2]
theorem Zi(h:0<=m/\m<=3):0<=Ii m/\Ii m<=3:=by unfold Ii;omega
def af4(hB:Bel l w)(hb:LOk l)(r:List AV)(hr:IsEx r):CondE l r->∀d,d<=12->IsSh d r->∀m,0<=m/\m<=3->∀f,trS l r m=some f->(FmH w f↔MdH m (cS (bj w) r)):=
 IsEx.ind (M:=fun r=>CondE l r->∀d,d<=12->IsSh d r->∀m,0<=m/\m<=3->∀f,trS l r m=some f->(FmH w f↔MdH m (cS (bj w) r))) (fun x hx ih hc d hd hs m hm f hf=>by
  obtain⟨d',rfl,h2,h3⟩:=fx hs;rcases zg hc with⟨ho,hl,ha⟩|⟨ho,hl,ha⟩|⟨ho,hl,ha⟩|⟨ho,a,b,h4,h0,h9⟩;rw[sw,azg ho]at hf;obtain⟨fs,he,rfl⟩:=Option.map_eq_some_iff.1 hf;obtain⟨g1,g2⟩:=Qw (w:=w) (Q:=fun r=>MdH m (cS (bj w) r)) he fun q hq f hf=>ih q hq (ha q hq) d' (by omega) (h3 q hq) m hm f hf
  obtain⟨q0,q1,hq⟩:∃a b,x.b_=[a,b]:=⟨_,_,uo hl⟩;have r0:=Nd (R:=bj w) (hx.b_.2 q0 (by rw[hq];simp))
  have r1:=Nd (R:=bj w) (hx.b_.2 q1 (by rw[hq];simp));have ec:cS (bj w) (exA x)=two (x.op_-18) (cS (bj w) q0) (cS (bj w) q1):=by rw[aq9 ho hl];simp only[hq,List.getElem_cons_zero,List.getElem_cons_succ]
  rw[ec,aly r0 r1 (by omega) hm,vn];have e18:(x.op_-18+18==18)=(x.op_==18):=by rw[show x.op_-18+18=x.op_ by omega]
  rw[e18];show(if(if(x.op_==18)=o9 m then(0:Int)else 1)=2 then _ else if(if(x.op_==18)=o9 m then(0:Int)else 1)=1 then∃r∈fs,FmH w r else∀r∈fs,FmH w r)↔_
  rw[azf (by split<;>decide),g1,g2,hq];simp only[List.forall_mem_cons,Uu,List.not_mem_nil,false_and,exists_false,or_false,false_implies,implies_true,and_true];rw[Yg ho hl]at hf;have h6:x.b_[0]'(by omega)∈x.b_:=ay7 _
  rw[ih _ h6 (ha _ h6) d' (by omega) (h3 _ h6) _ (Zi hm) f hf,ara ho hl];exact(aor (Nd (hx.b_.2 _ h6)) hm).symm;rw[sw,azf (by omega),azf (by omega),azg ho]at hf;simp only[aza]at hf;subst hf;obtain⟨q,hq⟩:=az4.1 hl;have h5:q∈x.b_:=by rw[hq];simp
  have ec:cS (bj w) (exA x)=if(vS (bj w) q).c_=0 then 1 else 0:=by have:=arb (R:=bj w) (x:=x) ho hl (v:=if(vS (bj w) q).c_=0 then 1 else 0) (by simp only[hq,List.getElem_cons_zero,beq_iff_eq]);exact this.symm
  rw[ec];have m4:m=0\/m=1\/m=2\/m=3:=by omega
  by_cases hn:HasN q;rw[azg ⟨q,h5,hn⟩,Uh,azg (Jh (ha q h5) (hx.b_.2 q h5) hn)];rcases m4 with rfl|rfl|rfl|rfl<;>simp[o9,MdH];rw[azf (by rintro⟨r,hr,h⟩;rw[hq,azc]at hr;subst hr;exact hn h)];have e:=Gr (w:=w) (ha q h5) (hx.b_.2 q h5) hn
  have e2:(∃v∈srtU (bi x.b_),tq w v)↔(vS (bj w) q).c_=0:=by rw[e,hq];simp only[la,bi,List.append_nil]
  have e3:(∀v∈srtU (bi x.b_),¬tq w v)↔¬(vS (bj w) q).c_=0:=by rw[<-e2];exact⟨fun g ⟨v,hv,h⟩=>g v hv h,fun g v hv h=>g ⟨v,hv,h⟩⟩
  split;rename_i hp;rw[adq,e2];rcases m4 with rfl|rfl|rfl|rfl<;>simp[o9]at hp<;>simp[MdH];rename_i hp;rw[adp,e3];rcases m4 with rfl|rfl|rfl|rfl<;>simp[o9]at hp<;>simp[MdH];have h7:exA a∈x.b_:=by rw[h4];simp
  have h8:exA b∈x.b_:=by rw[h4];simp
  have ia:=hx.b_.2 _ h7;have ib:=hx.b_.2 _ h8
  have s1:=(h3 _ h7).up (by omega:d'<=11);have s2:=(h3 _ h8).up (by omega:d'<=11)
  have ec:cS (bj w) (exA x)=Ij x.op_ (vS (bj w) (exA a)) (vS (bj w) (exA b)):=by rw[ajy ho (by rw[h4];rfl)];simp only[h4,List.getElem_cons_zero,List.getElem_cons_succ]
  have m4:m=0\/m=1\/m=2\/m=3:=by omega
  rw[ec,];rw[Ir ho]at hf;by_cases hn:HasN (exA x);rw[Na hn (by omega)]at hf;cases hf
  have hk:(vS (bj w) (exA a)).c_=0\/(vS (bj w) (exA b)).c_=0:=by
   rcases pf.1 hn with g|⟨r,hr,g⟩;omega;rw[h4]at hr;rcases azz.1 hr with rfl|hr;exact .inl (Jh h0 ia g);rw[azc]at hr;subst hr;rcases h9 with⟨_,b1,b2,_,b4,_⟩|⟨_,h1,_⟩;rcases pf.1 g with g|⟨r,hr,_⟩;omega;rw[b4]at hr;simp at hr;exact .inr (Jh h1 ib g)
  rw[Uh,aec hk];rcases m4 with rfl|rfl|rfl|rfl<;>simp[ip,MdH];rw[aav hn h4]at hf;obtain⟨p,hp,rfl⟩:=Option.map_eq_some_iff.1 hf;have n1:¬HasN (exA a):=fun g=>hn (pf.2 (.inr ⟨_,h7,g⟩))
  have n2:¬HasN (exA b):=fun g=>hn (pf.2 (.inr ⟨_,h8,g⟩))
  have hN:(∃v∈csX x,tq w v)↔(vS (bj w) (exA a)).c_=0\/(vS (bj w) (exA b)).c_=0:=by
   have eb:(vS (bj w) (exA b)).c_=0↔∃v∈dw (exA b),tq w v:=by
    rcases h9 with⟨_,b1,b2,_,b4,_⟩|⟨_,h1,_⟩;rw[txl b1,dg,b4,azf (by omega)];simp[bi];omega;exact Gr h1 ib n2
   rw[Gr h0 ia n1,eb];unfold csX;rw[h4];simp only[la,bi,List.append_nil,azd];constructor;rintro⟨v,h1|h1,h2⟩;exact .inl ⟨v,h1,h2⟩;exact .inr ⟨v,h1,h2⟩;rintro(⟨v,h1,h2⟩|⟨v,h1,h2⟩);exact⟨v,.inl h1,h2⟩;exact⟨v,.inr h1,h2⟩
  have hA:∀t,p=.pat t->AtH w t->∀v∈jh t,nnH w v:=fun t e=>by subst e;exact as2 (pt_k hp) (ank hx ia ib s1 s2 hc ho h4 n1 n2 hp).k
  rw[ajr hA];by_cases g:∃v∈csX x,tq w v;have g2:¬∀v∈csX x,¬tq w v:=fun h=>by obtain⟨v,hv,h2⟩:=g;exact h v hv h2
  rw[aec (hN.1 g)];simp only[g,g2];rcases m4 with rfl|rfl|rfl|rfl<;>simp[ip,MdH];have g2:∀v∈csX x,¬tq w v:=fun v hv h=>g ⟨v,hv,h⟩
  have e:=ani hB hb hx ia ib s1 s2 hc ho h4 n1 n2 hp g2;have k2:¬((vS (bj w) (exA a)).c_=0\/(vS (bj w) (exA b)).c_=0):=fun h=>g (hN.2 h)
  have c01:=ajo (op:=x.op_) (fun h=>k2 (.inl h)) (fun h=>k2 (.inr h));rw[e];have g3:(∀v∈csX x,¬tq w v)↔True:=⟨fun _=>trivial,fun _=>g2⟩
  have g4:(∃v∈csX x,tq w v)↔False:=⟨fun h=>g h,fun h=>h.elim⟩;rw[g3,g4];rcases m4 with rfl|rfl|rfl|rfl<;>rcases c01 with c|c<;>rw[c]<;>simp[ip,o9,MdH]) hr
end
end Go.Proofs.YtfpfdfhlljjckaaGreatDoor
