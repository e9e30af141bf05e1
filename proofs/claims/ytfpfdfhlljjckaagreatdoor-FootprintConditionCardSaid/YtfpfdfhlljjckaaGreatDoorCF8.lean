/- Texts of the claim. -/
import Derived.Test.YtfpfdfhlljjckaaGreatDoorCF7
import Derived.Test.YtfpfdfhlljjckaaGreatDoorCQ2
import Derived.Test.YtfpfdfhlljjckaaGreatDoorCF3
set_option linter.all false
namespace Go.Proofs.YtfpfdfhlljjckaaGreatDoor
open Tryz
set_option maxRecDepth 1000000
set_option maxHeartbeats 0
set_option linter.unusedVariables false
set_option linter.unusedSimpArgs false
open Go.RowKit
variable{w:GEx}{t:GTab}{e n tb:Int}{f:List AV}{l:List PVar}{p:PPred}
structure GAsn where
 K_:ByteArray
 j_:Int
 L_:GEx
structure FitAsn(x:GAsn):Prop where
 K_:jw x.K_
 L_:FitEx x.L_
structure GCase where
 t_:GTab
 J_:List GAsn
 r_:GEx
structure FitCase(x:GCase):Prop where
 t_:FitTab x.t_
 J_:bq x.J_ (fun y=>FitAsn y)
 r_:FitEx x.r_
noncomputable def F9(t:GTab)(w:GEx):Option (List (List AV)):=(km (aa t) t.h_ 2).bind fun L=>if w.op_=0 then some L else(trS (aa t) (exA w) 0).map fun f=>L++[f]
noncomputable def ny(t:GTab)(w:GEx):Option (List AV):=(F9 t w).map (lsF 0)
section
variable{t:GTab}{w:GEx}{L:List GFm}{f y:GFm}{e:Int}
def I1(h:km (aa t) t.h_ 2=none):ny t w=none:=by unfold ny F9;rw[h];rfl
def agt(h:km (aa t) t.h_ 2=some (L.map fmA))(h0:w.op_=0)(hy:lsF 0 (L.map fmA)=fmA y):ny t w=some (fmA y):=by unfold ny F9;rw[h,az6,azg h0,az5,hy]
def ags(h:km (aa t) t.h_ 2=some (L.map fmA))(h0:¬w.op_=0)(hf:trS (aa t) (exA w) 0=some (fmA f))(hy:lsF 0 ((L++[f]).map fmA)=fmA y):ny t w=some (fmA y):=by grind[ny,F9]
def agr(h:km (aa t) t.h_ 2=some (L.map fmA))(h0:¬w.op_=0)(hf:trS (aa t) (exA w) 0=none):ny t w=none:=by unfold ny F9;rw[h,az6,azf h0,hf];rfl
end
def zFm:GFm:=⟨0,zAt,[]⟩
def Qd:FitFm zFm:=⟨th,azk _,by simp[zFm]⟩
theorem aiz{L M:List GFm}(h:L.map fmA=M.map fmA):L=M:=by
 induction L generalizing M with
 |nil=>cases M with
  |nil=>rfl
  |cons b M=>simp at h
 |cons a L ih=>
  cases M with
  |nil=>simp at h
  |cons b M=>
   have h:=List.cons.inj h
   rw[xf h.1,ih h.2]
def V5(t:GTab)(ht:FitTab t)(h9:t.d_.length<=1000)(hck:t.h_.length<=100000)(h5:∀r∈t.h_,CondE (aa t) r/\IsSh 12 r)(L:List GFm)(hL:km (aa t) t.h_ 2=some (L.map fmA)):Fa prog 78 [.agg (ic t)] [] (fun q hb'=>q=.tup [.sl 1 L.length 0 L.length,vI 0]/\hb'=[(1,some ⟨L.length,rF fmA L,11,Nat.beq L.length 0⟩)]):=by have ha:bq (aa t) (fun _=>True):=⟨by rw[i7];omega,fun _ _=>trivial⟩;refine Fa.of_vc ua [] [] func78 rfl ntmps78 rfl (by kernel_rfl) (LenG.of ?_);refine LpG.via (fun _ h=>bl 4 11 rfl 2 rfl h) (LpG.on (fun k0:KL GFm=>(⟨fL [(1,.ptr 0 0 0),(4,.sl 1 k0.L.length 0 k0.L.length),(10,.tree 8 (t.h_.map rwA)),(11,vI t.h_.length),(12,vI k0.k)],hLz [(0,⟨0,ic t,0,false⟩),(1,⟨k0.L.length,rF fmA k0.L,11,Nat.beq k0.L.length 0⟩)],2⟩:St)) (fun k0=>(t.h_.length-k0.k)) (fun k0=>(k0.k<=t.h_.length/\(km (aa t) (t.h_.take k0.k) 2=some (k0.L.map fmA)/\k0.L.length=k0.k/\∀y∈k0.L,FitFm y))) (⟨0,[]⟩:KL GFm) (cnS (by rfl) (hpR rfl (hpS (ab aq _ _) (by rfl) trivial))) ⟨azk _,⟨by simp[km],rfl,by simp⟩⟩ ?_);rintro k0 h4;have hgr_k0:t.h_.length<=140737488355328:=ht.h_.1;obtain⟨hle_k0,h0⟩:=h4;apply cL<;>intro h1;obtain⟨x1,h2,hb⟩:=(ht.h_.2 _ (ay7 h1)).open_;have h6:exA x1∈t.h_:=h2▸ay7 h1;have h7:=h0.2.1;refine cb (j:=k0.k) ‹_› h2 (ArgG.mk (bw t ht h9) rfl ?_);rintro _ rfl;refine ArgG.mk (ol x1 hb (aa t) ha (h5 _ h6).1 (h5 _ h6).2) rfl ?_;rintro _ ⟨f1,e1,rfl,hc,h8⟩;refine⟨by kernel_rfl,cN (fun h3=>?_) (fun h3=>?_)⟩;refine⟨.inr rfl,_,_,Pn.of (hb':=[]) [] (cy rfl (.cons (ay3.tmp rfl) (.cons (ay3.tmp rfl) .nil))) rfl trivial .same,?_⟩;have h:=ut h1 (m:=2) (l:=aa t) (by rw[h2];exact(h8.2 h3).1);rw[hL]at h;cases h;refine OpG.mk _ _ _ 5 (ah aq (a:=f1) underlying67 zv yr Bx rfl rfl rfl (am rfl rfl rfl rfl) rfl (by omega) (by omega) (by unfold TV;omega)) rfl rfl ⟨by omega,⟨(⟨k0.k+1,k0.L++[f1]⟩:KL GFm),(nsA ‹_›),(cO (.cons rfl rfl (.cons (by(rw[azb];rfl)) rfl (.cons rfl rfl (.cons rfl rfl (.cons rfl rfl .nil))))) (.cons rfl rfl rfl (.cons (by(rw[azb];rfl)) rfl (ab aq _ _) .nil))),?_⟩⟩;exact⟨‹_›,⟨us h1 h0.1 (by rw[h2];exact h8.1 (by omega)),by show(_++[_]).length=_;rw[azb,h7];rfl,jm h0.2.2 hc⟩⟩;have h7:=h0.2.1;refine⟨.inr rfl,_,_,Pn.of (hb':=[(1,some ⟨k0.L.length,rF fmA k0.L,11,Nat.beq k0.L.length 0⟩)]) [] (cy rfl (.cons (ay3.tmp rfl) (.cons (ay3.tmp rfl) .nil))) rfl ⟨.same rfl (by simp),trivial⟩ .same,?_⟩;have h:=kr h1 h0.1;rw[hL]at h;have h:L=k0.L:=aiz (Option.some.inj h);subst h;exact⟨rfl,rfl⟩
def Ux(f:GFm)(hf:FitFm f)(vs:List PVar)(h2:bq vs (fun y=>True))(e:Int)(hk:e=0->FmK vs (fmA f)):PRet prog 10 [.agg (fmA f),vI e,.tree 5 (vs.map vA)] (fun q=>q=vI (if e=0 then(if kq vs (fmA f)>256 then 3 else 0)else e)):=by refine ovT [] [] func10 rfl rfl (cN (fun h1=>rV rfl rfl (congrArg vI (by rw[azf h1]))) (fun h1=>ArgG.mk (U8 vs h2 (fmA f) (yk hf) (hk h1)) rfl ?_));rintro _ rfl;exact cD (fun h0=>rV rfl rfl (congrArg vI (by rw[azg h1,azg h0]))) (fun h0=>rV rfl rfl (congrArg vI (by rw[azg h1,azf h0])))
def zPr:PPred:=⟨0,0,[],[]⟩
def o7(ht:FitTab t)(hw:FitEx w)(hck:t.h_.length<=10)(h4:∀r∈t.h_,CondE (aa t) r)(h5:¬w.op_=0->CondE (aa t) (exA w))(h:ny t w=some f):FmV (aa t) f:=by
 have key:∀r,IsEx r->CondE (aa t) r->∀m g,trS (aa t) r m=some g->GoodF (aa t) 8192 g:=fun r hr hc m g hg=>K6 r hr hc 12 (by decide) (na hc) m g hg;unfold ny F9 at h;obtain⟨M,hM,rfl⟩:=Option.map_eq_some_iff.1 h;obtain⟨L,hL,hM⟩:=azt.1 hM;obtain⟨g1,g2,g3⟩:=K5 (N:=8192) hL fun r hr g hg=>key r (ht.h_.2 r hr) (h4 r hr) 2 g hg;have fin:∀M:List (List AV),M.length<=11->(∀f∈M,IsFm f/\FmP (AtG (aa t)) f)->(M.map (wgR w1)).sum<=11*8192->FmV (aa t) (lsF 0 M):=fun M h1 h2 h3=>by have g:=Jt (l:=aa t) (k:=0) (L:=M) (.inl rfl) (azp h1 (by decide)) h2 h3;exact ads g.fm g.p (azp g.w (by decide))
 split at hM;have hM:=Option.some.inj hM
 subst hM;exact fin L (by omega) g1 (azp g2 (Nat.mul_le_mul_right _ (by omega)));rename_i h0;obtain⟨g,hg,rfl⟩:=Option.map_eq_some_iff.1 hM;have k:=key _ (ko hw) (h5 h0) 0 g hg
 refine fin (L++[g]) (by rw[azb];show L.length+1<=11;omega) (fun f hf=>?_) ?_;rcases azd.1 hf with hf|hf;exact g1 f hf;rw[azc.1 hf];exact⟨k.fm,k.p⟩;rw[azx,List.sum_append];simp only[azw,List.map_nil,List.sum_cons,List.sum_nil];have:=k.w
 have:L.length*8192<=10*8192:=Nat.mul_le_mul_right _ (by omega);omega
def xk(t:GTab)(w:GEx)(tb:Int)(p:PPred)(e:Int):Prop:=
 (e=3/\(ny t w=none\/∃f,ny t w=some f/\kq (aa t) f>256))\/
 (e=0/\∃f,ny t w=some f/\kq (aa t) f<=256/\p.tab=tb/\p.cols=((t.d_.length:Nat):Int)/\p.vars=aa t/\ClsR (aa t) (((aa t).length:Nat):Int) (exR (lf (aa t) f)) p.cls)
def ax2:cw prog 78=true:=by kernel_rfl
def G9(s:List GTab)(hs:bq s (fun y=>FitTab y))(w:GEx)(hw:FitEx w)(tb:Int)(j:Nat)(h4:tb=((j:Nat):Int))(hj:j<s.length)(h5:s[j].d_.length<=1000)(hck:s[j].h_.length<=10)(h2:∀r∈s[j].h_,CondE (aa s[j]) r)(hwc:¬w.op_=0->CondE (aa s[j]) (exA w))(h1:km (aa s[j]) s[j].h_ 2=none):PRet prog 35 [.tree 5 (s.map ic),vI tb,.agg (exA w)] (fun q=>∃(p:PPred) (e:Int),q=.tup [.agg (prA p),vI e]/\xk s[j] w tb p e):=by
 refine ovT [15] [] func35 rfl rfl (OpG.lk (ae underlying42 uv rfl rfl h4 hj) ?_);refine ArgG.mk (Hu s[j] (hs.2 _ (ay7 hj)) h5 (by omega) (fun r hr=>⟨h2 r hr,na (h2 r hr)⟩)) rfl ?_;rintro _ ⟨L0,e0,rfl,hf0,hl0,h3⟩;apply cB<;>intro h0;have hq23:¬((e0:Int)=(0:Int)):=by simpa using h0
 first|refine rtC rfl yg rfl ⟨[],FzP.aggL (.cons (.pure rfl) (.cons (.pure rfl) (.cons (FzP.nil (n:=5)) (.cons (FzP.nil (n:=7)) .nil))))⟩ ?_
 exact⟨zPr,e0,rfl,.inl ⟨h3.elim (fun h=>by rw[h1]at h;cases h.2) (fun h=>h.1),.inl (I1 h1)⟩⟩;exfalso;rcases h3 with⟨_,h⟩|⟨h,_⟩;rw[h1]at h;cases h;subst h;simp at h0
def G8(s:List GTab)(hs:bq s (fun y=>FitTab y))(w:GEx)(hw:FitEx w)(tb:Int)(j:Nat)(hb:tb=((j:Nat):Int))(hj:j<s.length)(h3:s[j].d_.length<=1000)(h9:s[j].h_.length<=10)(h6:∀r∈s[j].h_,CondE (aa s[j]) r)(h7:¬w.op_=0->CondE (aa s[j]) (exA w))(L:List GFm)(hL:km (aa s[j]) s[j].h_ 2=some (L.map fmA))(ha:∀x∈L,FitFm x)(hLl:L.length<=s[j].h_.length):PRet prog 35 [.tree 5 (s.map ic),vI tb,.agg (exA w)] (fun q=>∃(p:PPred) (e:Int),q=.tup [.agg (prA p),vI e]/\xk s[j] w tb p e):=by
 have h8:bq (aa s[j]) (fun _=>True):=⟨by rw[i7];omega,fun _ _=>trivial⟩
 refine ovT [15,19,43] [2,10] func35 rfl rfl (OpG.lk (ae underlying42 uv rfl rfl hb hj) ?_)
 obtain⟨_,_,⟨rfl,rfl⟩,h4⟩:=V5 s[j] (hs.2 _ (ay7 hj)) h3 (by omega) (fun r hr=>⟨h6 r hr,na (h6 r hr)⟩) L hL
 refine ay (OpG.mk _ _ _ 4 (bg [(1,3)] ax2 h4 rfl rfl rfl rfl trivial trivial ⟨c9 aq _ _,trivial⟩ rfl rfl rfl rfl (bv aq rfl) rfl) rfl rfl ?_)
 refine cF (cN (fun h0=>?_) (fun h0=>?_))
 ·skip -- apT
  refine ArgG.mk (bw s[j] (hs.2 _ (ay7 hj)) h3) rfl ?_
  rintro _ rfl
  refine ArgG.mk (B6 w hw (aa s[j]) h8 (h7 h0) (na (h7 h0))) rfl ?_
  rintro _ ⟨f0,e0,rfl,hc,h5⟩
  refine⟨by kernel_rfl,cN (fun h1=>?_) (fun h1=>?_)⟩
  ·exact rtC rfl yg rfl ⟨[],FzP.aggL (.cons (.pure rfl) (.cons (.pure rfl) (.cons (FzP.nil (n:=5)) (.cons (FzP.nil (n:=7)) .nil))))⟩ ⟨zPr,e0,rfl,.inl ⟨(h5.2 h1).2,.inl (agr hL h0 (h5.2 h1).1)⟩⟩
  refine OpG.mk _ _ _ 6 (ah aq (l:=L) (a:=f0) underlying67 zv yr Bx rfl rfl rfl (am rfl rfl rfl rfl) rfl (by omega) (by omega) (by unfold TV;omega)) rfl rfl (RegG.via (fun _ h=>bc [3] 9 (.tree 11 ((L++[f0]).map fmA)) (FzP.rows aq (azc.2 rfl) rfl) rfl h) ?_)
  refine ay (LenG.of ?_)
  refine ArgG.mk (bw s[j] (hs.2 _ (ay7 hj)) h3) rfl ?_
  rintro _ rfl
  refine ArgG.mk (afb (L++[f0]) (by(rw[azb];show L.length+1<=_;omega)) (jm ha hc)) rfl ?_
  rintro _ ⟨y,rfl,hy,h2⟩
  refine ArgG.mk (Y9 tb ((s[j].d_.length:Nat):Int) (aa s[j]) h8 y hy (o7 (hs.2 _ (ay7 hj)) hw h9 h6 h7 (ags hL h0 (h5.1 h1) h2)).ok (by rw[i7];exact h3)) rfl ?_
  rintro _ ⟨p,e,rfl,hp⟩
  refine⟨by kernel_rfl,rtP rfl yg rfl ?_⟩
  exact⟨p,e,rfl,hp.elim (fun h=>.inl ⟨h.2,.inr ⟨_,ags hL h0 (h5.1 h1) h2,h.1⟩⟩) (fun h=>.inr ⟨h.2.1,_,ags hL h0 (h5.1 h1) h2,h.1,h.2.2.1,h.2.2.2.1,h.2.2.2.2.1,h.2.2.2.2.2⟩)⟩
 skip -- apF
 refine RegG.via (fun _ h=>bc [3] 9 (.tree 11 (L.map fmA)) (FzP.rows aq (azc.2 rfl) rfl) rfl h) (ay ?_)
 refine LenG.of (ArgG.mk (bw s[j] (hs.2 _ (ay7 hj)) h3) rfl ?_)
 rintro _ rfl
 refine ArgG.mk (afb L (by omega) ha) rfl ?_
 rintro _ ⟨y,rfl,hy,h2⟩
 refine ArgG.mk (Y9 tb ((s[j].d_.length:Nat):Int) (aa s[j]) h8 y hy (o7 (hs.2 _ (ay7 hj)) hw h9 h6 h7 (agt hL h0 h2)).ok (by rw[i7];exact h3)) rfl ?_
 rintro _ ⟨p,e,rfl,hp⟩
 refine⟨by kernel_rfl,rtP rfl yg rfl ?_⟩
 exact⟨p,e,rfl,hp.elim (fun h=>.inl ⟨h.2,.inr ⟨_,agt hL h0 h2,h.1⟩⟩) (fun h=>.inr ⟨h.2.1,_,agt hL h0 h2,h.1,h.2.2.1,h.2.2.2.1,h.2.2.2.2.1,h.2.2.2.2.2⟩)⟩
def A4(s:List GTab)(hs:bq s (fun y=>FitTab y))(tb:Int)(w:GEx)(hw:FitEx w)(j:Nat)(h2:tb=((j:Nat):Int))(hj:j<s.length)(h1:s[j].d_.length<=1000)(h3:s[j].h_.length<=10)(h0:∀r∈s[j].h_,CondE (aa s[j]) r)(h4:¬w.op_=0->CondE (aa s[j]) (exA w)):PRet prog 35 [.tree 5 (s.map ic),vI tb,.agg (exA w)] (fun q=>∃(p:PPred) (e:Int),q=.tup [.agg (prA p),vI e]/\xk s[j] w tb p e):=by obtain⟨_,⟨L,e,rfl,hf,hl,he⟩,_⟩:=Hu s[j] (hs.2 _ (ay7 hj)) h1 (by omega) (fun r hr=>⟨h0 r hr,na (h0 r hr)⟩);rcases he with⟨_,h⟩|⟨_,h⟩;exact G8 s hs w hw tb j h2 hj h1 h3 h0 h4 L h hf hl;exact G9 s hs w hw tb j h2 hj h1 h3 h0 h4 h
def AsgS(t:GTab)(a:GAsn):Prop:=∃j:Nat,a.j_=((j:Nat):Int)/\j<t.d_.length/\OpE (aa t) 10 (exA a.L_)
structure RightD(c:GCase):Prop where
 sch:SchS [c.t_]
 wh:c.r_.op_=0\/CondE (aa c.t_) (exA c.r_)
 sl:c.J_.length<=5
 sets:∀a∈c.J_,AsgS c.t_ a
abbrev aj6(k:Int)(nm:ByteArray)(st:AV)(w:GEx)(l:List PVar):List AV:=[.v (.int .i64 k),.v (.string nm),.v (.slice none 0 0),.v (.slice none 0 0),.v (.slice none 0 0),.v (.slice none 0 0),.v (.slice none 0 0),st,.v (.slice none 0 0),.v (.slice none 0 0)]++exA w++[.v (.slice none 0 0),.v (.slice none 0 0),.v (.int .i64 0),.v (.string ⟨#[]⟩),.v (.int .i64 0),.tree 1 ([(0:Int)].map iA),.tree 5 (l.map vA),.v (.slice none 0 0)]
def I4:ey prog 57=some (some 26):=by kernel_rfl
section
variable{l:List PVar}{n:Int}{xs:List GLit}{b:KBl}
def aj8(hn:n=((l.length:Nat):Int))(hx:∀x∈xs,LitOk l x)(hv:∀x∈xs,LitV l x)(hl:xs.length<=100000)(h:BldR l (b00 n) xs b):(l9 b).Ok:=by
 have z:=Wj h hx;have hI:=Wo h
 have hA:=Hy h;refine⟨azp (db _) (by have:=z.u;omega),azp (db _) (by have:=z.n;omega),by have:=z.a;show b.A.length<=_;omega,by have:=z.i;show b.I.length<=_;omega,by have:=z.t;show b.T.length<=_;omega,by have:=z.s;show b.S.length<=_;omega,by have:=z.d;show b.D.length<=_;omega,fun a ha=>?_,fun a ha=>?_,fun a ha=>?_⟩;have ha:a∈b.A:=ha
 obtain⟨j,hj,rfl⟩:=azs ha;rcases hA j hj with⟨v,h1,_⟩|⟨o,g,b',h1,_,h3,h4⟩;rw[h1];simp[yo];rw[h1];exact azp (p7 h3.ln h4) (by decide);obtain⟨x,h0,hi,f,rfl,hr⟩:=hI.1 a ha;have hk:x.e_.c_=2\/x.e_.c_=3\/x.e_.c_=4:=hi
 have hlen:f.cs.length<=1000000:=p7 ((hx x h0).tm hk).ln hr
 have e:(kv x f).l.cs.length=f.cs.length:=by
  unfold kv;split;rfl;split;split;simp[Ou];rfl;rfl
 omega;obtain⟨x,h0,h5,rfl⟩:=(Wm h a).1 ha;have:=(acf ((hv x h0).v5 h5).2).2
 omega
end
def Xi(t:GTab)(w:GEx)(r:List GVal):Prop:=Xh t r/\(w.op_=0\/cS (bj r) (exA w)=1)
def Lm{r:List GVal}(ht:FitTab t)(hw:FitEx w)(h3:LOk (aa t))(h4:∀r∈t.h_,CondE (aa t) r)(h5:¬w.op_=0->CondE (aa t) (exA w))(h:ny t w=some f)(hB:Bel (aa t) r):FmH r f↔(∀e∈t.h_,cS (bj r) e≠0)/\(w.op_=0\/cS (bj r) (exA w)=1):=by
 have key:∀e,IsEx e->CondE (aa t) e->∀m,0<=m/\m<=3->∀g,trS (aa t) e m=some g->(FmH r g↔MdH m (cS (bj r) e)):=fun e he hc m hm g hg=>af4 hB h3 e he hc 12 (by decide) (na hc) m hm g hg;have m2:∀v:Int,MdH 2 v↔v≠0:=fun v=>by simp[MdH]
 have m0:∀v:Int,MdH 0 v↔v=1:=fun v=>by simp[MdH]
 unfold ny F9 at h;obtain⟨M,hM,rfl⟩:=Option.map_eq_some_iff.1 h;obtain⟨L,hL,hM⟩:=azt.1 hM;have g1:=(Qw (w:=r) (Q:=fun e=>cS (bj r) e≠0) hL fun e he g hg=>(key e (ht.h_.2 e he) (h4 e he) 2 (by decide) g hg).trans (m2 _)).1
 rw[Hg (.inl rfl),azf (by decide)];split at hM;rename_i h0;have hM:=Option.some.inj hM
 subst hM;rw[g1];exact⟨fun g=>⟨g,.inl h0⟩,fun g=>g.1⟩;rename_i h0;obtain⟨g,hg,rfl⟩:=Option.map_eq_some_iff.1 hM;have k:=(key _ (ko hw) (h5 h0) 0 (by decide) g hg).trans (m0 _)
 constructor;intro h;exact⟨g1.1 fun f hf=>h f (azd.2 (.inl hf)),.inr (k.1 (h g (azd.2 (.inr (azc.2 rfl)))))⟩;rintro⟨h1,h2⟩ f hf;rcases azd.1 hf with hf|hf;exact g1.2 h1 f hf;rw[azc.1 hf];exact k.2 (h2.resolve_left h0)
structure RowsK(t:GTab)(w:GEx)(p:PPred):Prop where
 ref:refB p ((t.d_.length:Nat):Int)=true
 ok:p.Ok
 cols:p.cols=((p.vars.length:Nat):Int)
 vars:p.vars=aa t
 cl:p.cls.length<=1000
 hg:∀r,Bel p.vars r->∀c∈p.cls,HG c r
 sem:∀r,(Bel p.vars r/\∃c∈p.cls,HoldsG c r)↔Xi t w r
def I2(ht:FitTab t)(hw:FitEx w)(h4:TabS t)(h5:¬w.op_=0->CondE (aa t) (exA w))(h0:0<=tb)(h:xk t w tb p 0):p.tab=tb/\RowsK t w p:=by rcases h with⟨h,_⟩|⟨_,f,hf,hc,h1,h2,h3,hC⟩;omega;have h6:=h4.ck;have h7:=afr t;have hd:=h4.sm.chks;have hV:=o7 ht hw hd h6 h5 hf;have h8:=h4.to.lk;have hc1:=h4.c1;have hc5:=h4.c5;have hle:=aee hV hc hC;have he:=aq2 rfl hV hC;refine⟨h1,?_,?_,by rw[h2,h3,h7],h3,by omega,fun r hr c h9=>?_,fun r=>?_⟩;have d:aw6 p.vars=true:=(by rw[h3];unfold aw6;have:yq (aa t).length (aw5 (aa t))=true:=(by rw[mn];intro j hj;unfold aw5;rw[Eg hj];exact h4.vars _ (ay7 _));rw[this];simp;omega);have b:ayc p ((t.d_.length:Nat):Int)=false:=(by unfold ayc;rw[d,h1,h2,h3,h7];simp;omega);unfold refB;rw[b];have c:yq p.cls.length (axm p)=true:=(by rw[mn];intro j hj;unfold axm;rw[Eg hj,h3];exact he _ (ay7 _));rw[c];rfl;refine⟨by rw[h3,h7];omega,by omega,fun c h9=>?_⟩;obtain⟨xs,ha,b,rfl,hb⟩:=(Bl hC).1 c h9;exact aj8 rfl (hV.ok.x xs ha) (hV.v xs ha) (hV.ok.len xs ha) hb;rw[h3]at hr;exact aef rfl hV hC hr h8 c h9;rw[h3];unfold Xi Xh;constructor;rintro⟨hB,hc⟩;have g:=(Lm ht hw h8 h6 h5 hf hB).1 ((Ka rfl hV hC hB).1 hc);exact⟨⟨aya.1 hB,g.1⟩,g.2⟩;rintro⟨⟨g1,g2⟩,g3⟩;have hB:=aya.2 g1;exact⟨hB,(Ka rfl hV hC hB).2 ((Lm ht hw h8 h6 h5 hf hB).2 ⟨g2,g3⟩)⟩
def Yl(s:List GTab)(hs:bq s (fun y=>FitTab y))(nm:ByteArray)(w:GEx)(hw:FitEx w)(h3:SchS s)(h2:0<s.length)(h4:¬w.op_=0->CondE (aa s[0]) (exA w)):PRet prog 12 [.tree 5 (s.map ic),.agg (aj6 4 nm (.v (.slice none 0 0)) w (aa s[0]))] (fun q=>∃(p:PPred) (e:Int),xk s[0] w 0 p e/\((e=3/\q=.tup [.tree 5 [],vI 3])\/(e=0/\q=.tup [.tree 5 (([(⟨true,p⟩:PAcc)]).map acA),vI 0]))):=by have h1:=h3.tab _ (ay7 h2);have h5:=h1.to;refine ovT [89] [] func12 rfl rfl (cF ?_);refine cF (cF ?_);refine cT (ArgG.mk (A4 s hs 0 w hw 0 rfl h2 h5.cl h1.sm.chks h1.ck h4) rfl ?_);rintro _ ⟨p,e,rfl,hp⟩;apply cN<;>intro h0;refine⟨.inr rfl,_,dh rfl (afe.tmp (ret:=.tree 5 []) ⟨([]:List Nat),FzP.nil⟩) (afe.tmp ⟨([]:List Nat),FzP.pure rfl⟩),?_⟩;obtain he:e=3:=hp.elim (fun h=>h.1) (fun h=>absurd h.1 h0);subst he;exact⟨p,3,hp,.inl ⟨rfl,rfl⟩⟩;refine OpG.nw (cm (de underlying74 La afg rfl rfl rfl rfl) (fun η' h=>ba (f:=acA) (l:=[(⟨true,p⟩:PAcc)]) (azc.2 rfl) h rfl rfl rfl rfl rfl (fun a _=>⟨rfl,rfl⟩))) rfl (rtB rfl rfl ?_);subst h0;exact⟨p,0,hp,.inr ⟨rfl,rfl⟩⟩
def abj(s:List GTab)(hs:bq s (fun y=>FitTab y))(l:List GChg)(hl:bq l (fun y=>FitChg y))(nm:ByteArray)(w:GEx)(hw:FitEx w)(h2:SchS s)(h3:0<s.length)(h4:¬w.op_=0->CondE (aa s[0]) (exA w))(h5:∀c∈l,ay5 s c)(h6:l.length<=6):PRet prog 13 [.tree 5 (s.map ic),.agg (aj6 4 nm (.v (.slice none 0 0)) w (aa s[0])),.tree 4 (l.map aax)] (fun q=>∃(p:PPred) (e:Int),xk s[0] w 0 p e/\((e=3/\q=.tup [.tree 5 [],vI 3])\/(e=0/\q=.tup [.tree 5 (([(⟨false,p⟩:PAcc)]++Pm s l).map acA),vI 0]))):=by have h1:=h2.tab _ (ay7 h3);have h7:=h1.to;have hal:(Pm s l).length<=12:=(by unfold Pm;rw[aze];have:=V7 l;omega);refine ovT [42] [] func13 rfl rfl (cF ?_);refine cF (cT ?_);refine ArgG.mk (A4 s hs 0 w hw 0 rfl h3 h7.cl h1.sm.chks h1.ck h4) rfl ?_;rintro _ ⟨p,e,rfl,hp⟩;apply cN<;>intro h0;refine⟨.inr rfl,_,dh rfl (afe.tmp (ret:=.tree 5 []) ⟨([]:List Nat),FzP.nil⟩) (afe.tmp ⟨([]:List Nat),FzP.pure rfl⟩),?_⟩;obtain he:e=3:=hp.elim (fun h=>h.1) (fun h=>absurd h.1 h0);subst he;exact⟨p,3,hp,.inl ⟨rfl,rfl⟩⟩;refine ArgG.mk (V6 s hs l hl h2 h5 h6) rfl ?_;rintro _ rfl;refine OpG.mk _ _ _ 3 (d4 jp (l:=[(⟨false,p⟩:PAcc)]) (l':=Pm s l) underlying74 La afg ald rfl rfl rfl rfl (by simp only[azu,azv];omega) (by simp only[azu,azv];omega) (by decide)) rfl rfl ⟨by kernel_rfl,⟨.inr rfl,_,dh rfl (afe.tmp ⟨[2],fg (l:=[(⟨false,p⟩:PAcc)]++Pm s l) jp (azc.2 rfl) rfl⟩) (afe.tmp ⟨[],FzP.pure rfl⟩),?_⟩⟩;subst h0;exact⟨p,0,hp,.inr ⟨rfl,rfl⟩⟩
def Jk(x:GEx)(hx:FitEx x)(r:List GVal)(hr:bq r (fun y=>FitVal y))(h1:¬x.op_=0->CdR r (exA x)):PRet prog 21 [.agg (exA x),.tree 3 (r.map gvA)] (fun q=>∃b:Bool,q=vB b/\(b=true↔x.op_=0\/cS (bj r) (exA x)=1)):=by refine ovT [] [] func21 rfl rfl (cE (fun h0=>rV rfl rfl ⟨_,rfl,⟨fun _=>.inl h0,fun _=>rfl⟩⟩) (fun h0=>ArgG.mk (M6 r hr (exA x) (ko hx) (h1 h0)) rfl ?_));rintro _ rfl;exact rV rfl rfl ⟨_,rfl,by rw[beq_iff_eq];exact⟨.inr,fun h=>h.resolve_left h0⟩⟩
def Nw(t:GTab)(w:GEx):Prop:=ny t w=none\/∃f,ny t w=some f/\kq (aa t) f>256
def akg(h:xk t w tb p 3):Nw t w:=by rcases h with⟨_,h⟩|⟨h,_⟩;exact h;exact absurd h (by decide)
def ayb(h:xk t w tb p 0):¬Nw t w:=by rcases h with⟨h,_⟩|⟨_,f,hf,hc,_⟩;exact absurd h (by decide);rintro(g|⟨g,h1,h2⟩);rw[hf]at g;cases g;rw[hf]at h1;cases h1;omega
def awz{f:GFm}(h:FmR (ny t w) f e)(hb:Nw t w):(if e=0 then(if kq (aa t) (fmA f)>256 then(3:Int)else 0)else e)=3:=by by_cases he:e=0;have h1:=h.1 he;rw[azg he];rcases hb with g|⟨g,h2,h3⟩;rw[h1]at g;cases g;rw[h1]at h2;cases h2;rw[azg h3];rw[azf he];exact(h.2 he).2
abbrev B2(g:List GVal):GChg:=⟨0,1,g,[]⟩
theorem Z8{g:List GVal}(h:Dc t g)(h1:1<=t.d_.length):Pm [t] [B2 g]=[⟨true,⟨0,(((aa t).length:Nat):Int),aa t,[exC g]⟩⟩]:=by
 have hl:0<g.length:=by have:=h.1;omega
 have hn:¬(B2 g).C_=(B2 g).B_:=fun e=>by have e:g=[]:=e;rw[e]at hl;exact absurd hl (by simp)
 have e1:chS [B2 g]=[(0,g)]:=by unfold chS;rw[List.map_singleton,List.flatten_singleton,Hv hn,azg (show 0<(B2 g).C_.length from hl),azf (show¬0<(B2 g).B_.length by simp)];rfl
 unfold Pm;rw[e1,List.map_singleton];have e2:Xg [t] (0,g)=⟨true,m6 0 (aa t) g⟩:=(Nr (s:=[t]) (j:=0) (by simp) rfl).symm
 rw[e2,Ho (aya.2 h)]
def pl87:i9 prog 87=some [(0,1),(1,1),(2,1),(3,1)]:=by kernel_rfl
def aus:aj prog 87=some 4:=by kernel_rfl
def atk:bp prog 87=some (.agg #[.int .i64 0,.int .i64 0,.slice none 0 0,.slice none 0 0]):=by kernel_rfl
def Ym(s:List GTab)(hs:bq s (fun y=>FitTab y))(nm:ByteArray)(w:GEx)(hw:FitEx w)(h1:SchS s)(h0:0<s.length)(h2:¬w.op_=0->CondE (aa s[0]) (exA w))(hb:¬Nw s[0] w):PRet prog 12 [.tree 5 (s.map ic),.agg (aj6 4 nm (.v (.slice none 0 0)) w (aa s[0]))] (fun q=>∃p:PPred,q=.tup [.tree 5 (([(⟨true,p⟩:PAcc)]).map acA),vI 0]/\p.tab=0/\RowsK s[0] w p):=by refine(Yl s hs nm w hw h1 h0 h2).mono ?_;rintro q ⟨p,e,hp,⟨rfl,_⟩|⟨rfl,h⟩⟩;exact absurd (akg hp) hb;exact⟨p,h,I2 (hs.2 _ (ay7 h0)) hw (h1.tab _ (ay7 h0)) h2 (by decide) hp⟩
def abk(s:List GTab)(hs:bq s (fun y=>FitTab y))(nm:ByteArray)(w:GEx)(hw:FitEx w)(h1:SchS s)(h0:0<s.length)(h2:¬w.op_=0->CondE (aa s[0]) (exA w))(l:List GChg)(hl:bq l (fun y=>FitChg y))(h3:∀c∈l,ay5 s c)(h4:l.length<=6)(hb:¬Nw s[0] w):PRet prog 13 [.tree 5 (s.map ic),.agg (aj6 4 nm (.v (.slice none 0 0)) w (aa s[0])),.tree 4 (l.map aax)] (fun q=>∃p:PPred,q=.tup [.tree 5 (([(⟨false,p⟩:PAcc)]++Pm s l).map acA),vI 0]/\p.tab=0/\RowsK s[0] w p):=by refine(abj s hs l hl nm w hw h1 h0 h2 h3 h4).mono ?_;rintro q ⟨p,e,hp,⟨rfl,_⟩|⟨rfl,h⟩⟩;exact absurd (akg hp) hb;exact⟨p,h,I2 (hs.2 _ (ay7 h0)) hw (h1.tab _ (ay7 h0)) h2 (by decide) hp⟩
def Xc(c:GCase)(hc:FitCase c)(h0:RightD c)(h3:bq [c.t_] (fun y=>FitTab y))(g:List GVal)(hg:bq g (fun y=>FitVal y))(hm:Xi c.t_ c.r_ g)(h4:¬c.r_.op_=0->CondE (aa c.t_) (exA c.r_))(hb:¬Nw c.t_ c.r_):PRet prog 13 [.tree 5 ([c.t_].map ic),.agg (aj6 4 c.t_.q_ (.v (.slice none 0 0)) c.r_ (aa c.t_)),.tree 4 ([B2 g].map aax)] (fun q=>∃p2:PPred,q=.tup [.tree 5 (([(⟨false,p2⟩:PAcc),(⟨true,(⟨0,(((aa c.t_).length:Nat):Int),aa c.t_,[exC g]⟩:PPred)⟩:PAcc)]).map acA),vI 0]/\p2.tab=0/\RowsK c.t_ c.r_ p2):=by refine(abk [c.t_] h3 c.t_.q_ c.r_ hc.r_ h0.sch (by simp) h4 [B2 g] ⟨by simp,fun y hy=>by rw[azc.1 hy];exact⟨hg,⟨by simp,by simp⟩⟩⟩ (fun x hx=>by rw[azc.1 hx];exact⟨0,rfl,by simp,fun _=>hm.1,fun h=>absurd h (by simp)⟩) (by simp) hb).mono ?_;rintro q ⟨p2,rfl,h1,h2⟩;refine⟨p2,?_,h1,h2⟩;rw[Z8 hm.1.1 (h0.sch.tab c.t_ (by simp)).c1];rfl
def am7:RowF gvA 3:=⟨fun _=>rfl,fun _=>rfl,fun _ _=>rfl,fun _ _=>rfl,fun _ _=>rfl,fun _=>rfl⟩
def eqY(n:Int):GFm:=atF ⟨3,0,0,⟨-n,[⟨1,0,0,0,[]⟩]⟩,zTe⟩
def Uy :FitTm ⟨-n,[⟨1,0,0,0,[]⟩]⟩:=by have h:=nf (k:=0) (v:=0) (.inl rfl);exact⟨h.a_,h.srt⟩
def Jz :FitFm (eqY n):=ma ⟨Uy,th.x_⟩
def EqP(t:GTab)(n:Int)(p:PPred):Prop:=p.tab=0/\p.cols=((t.d_.length:Nat):Int)/\p.vars=aa t/\ClsR (aa t) (((aa t).length:Nat):Int) (exR (lf (aa t) (fmA (eqY n)))) p.cls
theorem Uz(l:List PVar)(n:Int):kq l (fmA (eqY n))=1:=by rw[oo,azg (show(eqY n).c_=2 from rfl),azf (fun h=>absurd (show(3:Int)=0 from h.1) (by decide)),azf (show¬(eqY n).e_.c_=4 from fun h=>absurd (show(3:Int)=4 from h) (by decide))]
def eq_p(h:(kq (aa t) (fmA (eqY n))>256/\e=3)\/(kq (aa t) (fmA (eqY n))<=256/\e=0/\p.tab=0/\p.cols=((t.d_.length:Nat):Int)/\p.vars=aa t/\ClsR (aa t) (((aa t).length:Nat):Int) (exR (lf (aa t) (fmA (eqY n)))) p.cls)):EqP t n p:=by rcases h with⟨h,_⟩|⟨_,_,h⟩;rw[Uz]at h;omega;exact h
def ax1:cw prog 87=true:=by kernel_rfl
def avj:i9 prog 206=some [(0,1),(1,1),(2,1),(3,1),(4,1)]:=by kernel_rfl
def pl69:i9 prog 69=some [(0,1),(1,9),(10,1)]:=by kernel_rfl
def avd:ey prog 83=some (some 5):=by kernel_rfl
def Ax(n:Int):PRet prog 22 [vI n] (fun q=>q=.agg (gvA ⟨1,n,⟨#[]⟩⟩)):=ovT [] [] func22 rfl rfl (rtK rfl wy rfl ⟨[],FzP.pure rfl⟩ rfl)
def adj(cs:List Int)(hcs:bq cs (fun y=>True)):PRet prog 104 [.tree 3 ((([]:List GVal)).map gvA),.tree 1 (cs.map iA)] (fun q=>q=.v (.slice none 0 0)):=ovT [] [] func104 rfl rfl (LenG.of (cT (rV rfl rfl rfl)))
def apj(a b:GVal)(ha:¬a.c_=0):PRet prog 104 [.tree 3 (([a,b]).map gvA),.tree 1 (([(0:Int)]).map iA)] (fun q=>q=.tree 3 ([a].map gvA)):=by refine ovT [19,26,29] [] func104 rfl rfl ?_;refine LenG.of (cB (fun h0=>?_) (fun h0=>?_));exfalso;simp at h0;have h2:=h0;simp at h2;refine LenG.of (eu (ULp.step ?_));refine cT (IdxG.of (j:=0) (by simp) ?_);refine OpG.lk (ae underlying36 yx rfl rfl rfl (by simp)) ?_;apply cB<;>intro h1;exfalso;exact ha (by simpa using h1);have h3:=h1;simp at h3;refine OpG.lk (ae underlying36 yx rfl rfl rfl (by simp)) ?_;refine OpG.mk _ _ _ 2 (ui (u:=1) (m:=1) (news:=gvA a) underlying36 yx zr30 by30 rfl rfl (by decide) (am rfl rfl rfl rfl) (by decide) rfl (by decide) (by decide)) rfl rfl ?_;refine⟨by omega,?_⟩;refine ULp.step ?_;refine cF (rtA rfl ⟨[1],fg (l:=[a]) am7 (azc.2 rfl) rfl⟩ ?_);rfl
def Zl(o:List GVal)(ho:bq o (fun y=>FitVal y))(cs:List Int)(h0:bq cs (fun y=>True)):PRet prog 50 [.tree 3 ((([]:List GVal)).map gvA),.tree 3 (o.map gvA),.tree 1 (cs.map iA)] (fun q=>q=.tup [.tree 3 (([]:List GVal).map gvA),vB false]):=by refine ovT [14] [] func50 rfl rfl (ArgG.mk (adj cs h0) rfl ?_);rintro _ rfl;exact OpG.lk (Pr rfl rfl underlying36) (cF ⟨.inr rfl,_,dh rfl (afe.tmp (ret:=.tree 3 []) ⟨[],FzP.nil⟩) (afe.tmp ⟨[],FzP.pure rfl⟩),rfl⟩)
def Zm(a b:GVal)(ha:¬a.c_=0)(h1:FitVal a):PRet prog 50 [.tree 3 (([a,b]).map gvA),.tree 3 ((([]:List GVal)).map gvA),.tree 1 (([(0:Int)]).map iA)] (fun q=>q=.tup [.tree 3 ([a].map gvA),vB true]):=by refine ovT [14,20] [] func50 rfl rfl (ArgG.mk (apj a b ha) rfl ?_);rintro _ rfl;refine OpG.lk (Pq rfl rfl underlying36 (by simp)) (cT (ArgG.mk (adj [(0:Int)] ⟨by simp,fun _ _=>trivial⟩) rfl ?_));rintro _ rfl;obtain⟨_,⟨b2,rfl,h2⟩,h0⟩:=Cz [a] ⟨by simp,fun y hy=>by rw[azc.1 hy];exact h1⟩ ([]:List GVal) ⟨by simp,by simp⟩;refine OpG.mk _ _ _ 0 (iz [] ax1 rfl (fun i h h'=>match i,h with|0,_=>FzP.pure rfl|1,_=>FzP.nil (n:=3)) (fun id h3=>by simp at h3) h0) rfl rfl (rtB rfl rfl (have hf:b2=false:=(by cases b2 with|false=>rfl|true=>exact absurd (h2.1 rfl) (by simp));?_));subst hf;rfl
def afc(l:List (List AV))(hl:bq l (fun y=>IsFm y))(h1:bz [.tree 11 (l.map rwA)]=true):PRet prog 105 [.tree 11 (l.map rwA)] (fun q=>q=.agg (rwA (lsF 0 l))):=by refine ovT [] [] func105 rfl rfl (LenG.of ?_);apply cE<;>intro hq5;obtain⟨y,h0,hy⟩:=(hl.2 (l[0]'(by omega)) (ay7 _)).open_;refine cb (j:=0) (by omega) h0 (rtK rfl bu rfl ⟨[],FzP.pure rfl⟩ ?_);rw[Zo (by omega),h0];exact rtK rfl bu rfl ⟨[],wf h1⟩ (congrArg AV.agg (xx (by omega)).symm)
def ayu(y:GFm)(hy:FitFm y):PRet prog 105 [.tree 11 ([y].map fmA)] (fun q=>q=.agg (fmA y)):=by have hf:bq ([y].map fmA) (fun y=>IsFm y):=⟨by simp,fun r hr=>by obtain⟨x,hx,rfl⟩:=azy.1 hr;rw[azc.1 hx];exact yk hy⟩;have h:=afc ([y].map fmA) hf (by simp[bz,AV.pureB]);rw[fk]at h;exact h
def Oe(s:List GTab)(hs:bq s (fun y=>FitTab y))(n:Int)(hn:-1000<=n/\n<=1000)(h0:0<s.length)(h1:s[0].d_.length<=1000)(h2:FmOk (aa s[0]) (fmA (eqY n))):PRet prog 51 [.tree 5 (s.map ic),vI 0,.tree 1 (([(0:Int)]).map iA),.tree 3 (([(⟨1,n,⟨#[]⟩⟩:GVal)]).map gvA)] (fun q=>∃p:PPred,q=.agg (acA ⟨false,p⟩)/\EqP s[0] n p):=by have h3:bq (aa s[0]) (fun _=>True):=⟨by rw[i7];omega,fun _ _=>trivial⟩;refine ovT [20,25,32,38,41,43,44,49,51,57,63] [10] func51 rfl rfl (LenG.of (eu (ULp.step (cT (OpG.lk (ae underlying53 sz3 rfl rfl rfl (by simp)) (OpG.lk (ae underlying36 yx rfl rfl rfl (by simp)) (OpG.lk (ae underlying36 yx rfl rfl rfl (by simp)) (cT (OpG.lk (ae underlying36 yx rfl rfl rfl (by simp)) (OpG.lk (oh rfl (by simp only[List.getElem_cons_zero];omega) (by simp only[List.getElem_cons_zero];omega)) (OpG.lk (nr (LOp.bd qn avj rfl rfl) (fun _=>FzP.aggL (.cons (.pure rfl) (.cons (.pure rfl) (.cons (.pure rfl) (.cons (.pure rfl) (.cons (FzP.nil (n:=2)) .nil))))))) (OpG.nw (cm (de underlying60 nu qn rfl rfl rfl rfl) (fun η' h=>ba (f:=ptA) (l:=[(⟨1,0,0,0,[]⟩:GPart)]) (azc.2 rfl) h rfl rfl rfl rfl rfl (fun a _=>⟨rfl,rfl⟩))) rfl (OpG.lk (nr (LOp.bd yr pl69 rfl rfl) (fun _=>Fd (k:=2) (a:=⟨3,0,0,⟨-n,[⟨1,0,0,0,[]⟩]⟩,zTe⟩))) (OpG.mk _ _ _ 5 (ui (u:=4) (m:=1) (news:=fmA (eqY n)) underlying67 zv yr Bx rfl rfl (by decide) (am rfl rfl rfl rfl) (by decide) rfl (by decide) (by decide)) rfl rfl ⟨by omega,ULp.step (cF (RegG.via (fun _ h=>bc [4] 9 (.tree 11 ([(eqY n)].map fmA)) (fg (l:=[(eqY n)]) aq (azc.2 rfl) rfl) rfl h) (ay (OpG.lk (ae underlying42 uv rfl rfl rfl h0) (LenG.of (OpG.lk (ae underlying42 uv rfl rfl rfl h0) (ArgG.mk (bw s[0] (hs.2 _ (ay7 h0)) h1) rfl ?_)))))))⟩))))))))))))));rintro _ rfl;refine ArgG.mk (ayu (eqY n) Jz) rfl ?_;rintro _ rfl;refine ArgG.mk (Y9 0 ((s[0].d_.length:Nat):Int) (aa s[0]) h3 (eqY n) Jz h2 (by rw[i7];exact h1)) rfl ?_;rintro _ ⟨p,e,rfl,hp⟩;exact⟨by kernel_rfl,rtK rfl avd rfl ⟨[],FzP.pure rfl⟩ ⟨p,rfl,eq_p hp⟩⟩
def ajk(nm:ByteArray)(cols:List GCol)(n:Int)(b:GVal)(ht:FitTab (⟨nm,cols,[[0]],[],[]⟩:GTab))(hn:-1000<=n/\n<=1000)(h0:cols.length<=1000)(h1:FitVal b)(h2:FmOk (aa (⟨nm,cols,[[0]],[],[]⟩:GTab)) (fmA (eqY n))):PRet prog 23 [.tree 5 (([(⟨nm,cols,[[0]],[],[]⟩:GTab)]).map ic),.tree 4 (([(⟨0,1,[],[⟨1,n,⟨#[]⟩⟩,b]⟩:GChg)]).map aax)] (fun q=>∃p:PPred,q=.tree 5 ([(⟨false,p⟩:PAcc)].map acA)/\EqP (⟨nm,cols,[[0]],[],[]⟩:GTab) n p):=by refine ovT [29,34,41,61,106] [] func23 rfl rfl ?_;refine LenG.of (eu (ULp.step ?_));refine cT (OpG.lk (ae underlying88 aus rfl rfl rfl (by simp)) ?_);refine OpG.lk (ae underlying42 uv rfl rfl rfl (by simp)) ?_;refine LenG.of (eu (ULp.step ?_));refine cT (OpG.lk (ae underlying23 amc rfl rfl rfl (by simp)) ?_);refine ArgG.mk (Zm (⟨1,n,⟨#[]⟩⟩:GVal) b (by show¬(1:Int)=0;decide) ⟨azk _⟩) rfl ?_;rintro _ rfl;refine cT (ArgG.mk (Oe [(⟨nm,cols,[[0]],[],[]⟩:GTab)] ⟨by simp,fun y hy=>by rw[azc.1 hy];exact ht⟩ n hn (by simp) h0 h2) rfl ?_);rintro _ ⟨p,rfl,hp⟩;refine OpG.mk _ _ _ 4 (ui (u:=3) (m:=1) (news:=acA ⟨false,p⟩) underlying74 La afg ald rfl rfl (by decide) (am rfl rfl rfl rfl) (by decide) rfl (by decide) (by decide)) rfl rfl ?_;refine⟨by omega,?_⟩;refine ULp.step ?_;refine cF (LenG.of ?_);refine eu (ULp.step ?_);refine cF (LenG.of ?_);refine eu (ULp.step ?_);refine cT (OpG.lk (ae underlying23 amc rfl rfl rfl (by simp)) ?_);refine ArgG.mk (Zl [(⟨1,n,⟨#[]⟩⟩:GVal),b] ⟨by simp,fun y hy=>by rcases azz.1 hy with rfl|hy;exact⟨azk _⟩;rw[azc.1 hy];exact h1⟩ [(0:Int)] ⟨by simp,fun _ _=>trivial⟩) rfl ?_;rintro _ rfl;refine cT ⟨by omega,ULp.step ?_⟩;refine cF ⟨by omega,ULp.step ?_⟩;exact cF (rtA rfl ⟨[3],fg (l:=[(⟨false,p⟩:PAcc)]) jp (azc.2 rfl) rfl⟩ ⟨p,rfl,hp⟩)
def cA:GCol:=⟨⟨#[97]⟩,1,0,9,0,false⟩
def cB':GCol:=⟨⟨#[98]⟩,2,0,0,3,false⟩
abbrev awT:GTab:=⟨⟨#[116]⟩,[cA,cB'],[[0]],[],[]⟩
abbrev awB:GVal:=⟨2,0,⟨#[120]⟩⟩
abbrev awR:List GVal:=[⟨1,1,⟨#[]⟩⟩,awB]
abbrev awX:GEx:=⟨2,⟨#[]⟩,⟨#[97]⟩,0,⟨0,0,⟨#[]⟩⟩,[]⟩
abbrev awL:GEx:=⟨1,⟨#[]⟩,⟨#[]⟩,0,⟨1,1,⟨#[]⟩⟩,[]⟩
abbrev awW:GEx:=⟨10,⟨#[]⟩,⟨#[]⟩,0,⟨0,0,⟨#[]⟩⟩,[exA awX,exA awL]⟩
def X1{s:ByteArray}(h:s.size<=1000):jw s:=azp h (by decide)
def ft_z:FitVal ⟨0,0,⟨#[]⟩⟩:=⟨azk _⟩
def akk:FitEx awX:=⟨⟨by simp,by simp⟩,X1 (by decide),X1 (by decide),ft_z⟩
def akl:FitEx awL:=⟨⟨by simp,by simp⟩,X1 (by decide),X1 (by decide),⟨azk _⟩⟩
def W5:FitEx awW:=⟨⟨by simp,fun r hr=>by rcases azz.1 hr with rfl|hr;exact ko akk;rw[azc.1 hr];exact ko akl⟩,X1 (by decide),X1 (by decide),ft_z⟩
def E1:FitTab awT:=⟨X1 (by decide),⟨by simp,fun c hc=>by rcases azz.1 hc with rfl|hc;exact⟨X1 (by decide)⟩;rw[azc.1 hc];exact⟨X1 (by decide)⟩⟩,⟨by simp,fun k hk=>by rw[azc.1 hk];exact⟨by simp,fun _ _=>trivial⟩⟩,⟨by simp,by simp⟩,⟨by simp,by simp⟩⟩
def Kg:bq awR (fun y=>FitVal y):=⟨by simp,fun v hv=>by rcases azz.1 hv with rfl|hv;exact⟨azk _⟩;rw[azc.1 hv];exact⟨X1 (by decide)⟩⟩
def W6:bq [awT] (fun y=>FitTab y):=⟨by simp,fun y hy=>by rw[azc.1 hy];exact E1⟩
def asp:TabS awT where
 sm:=⟨by decide,by decide,by decide,by decide,fun k hk=>by rw[azc.1 hk];decide,fun f hf=>by simp at hf⟩
 c1:=by decide
 c5:=by decide
 col:=fun c hc=>by rcases azz.1 hc with rfl|hc;unfold Bu cA;simp;rw[azc.1 hc];unfold Bu cB';simp
 ck:=fun e he=>by simp at he
def ae6:SchS [awT] where
 len:=by decide
 tab:=fun t ht=>by rw[azc.1 ht];exact asp
 v:=fun n hn=>by obtain rfl:n=0:=(by simpa using hn);refine⟨fun k hk x hx=>?_,fun f hf=>by simp at hf⟩;have hk:k∈[[(0:Int)]]:=hk;rw[azc.1 hk]at hx;rw[azc.1 hx];show(0:Int)<=0/\(0:Int)<((2:Nat):Int);decide
 w:=⟨fun t ht k hk=>by rw[azc.1 ht]at hk;have hk:k∈[[(0:Int)]]:=hk;rw[azc.1 hk];decide,fun t ht f hf=>by rw[azc.1 ht]at hf;simp at hf,fun t ht=>by rw[azc.1 ht];decide⟩
def ayn:po ⟨1,1,⟨#[]⟩⟩ (zq cA)=true:=by unfold po Bv jt;simp[zq,cA]
theorem aw_p:Og ⟨#[120]⟩=true:=by decide
def aym:po awB (zq cB')=true:=by unfold po Bv;simp[zq,cB',aw_p];decide
def W4:Bel (aa awT) awR:=⟨rfl,fun j h1 h2=>by have h1:j<2:=h1;obtain rfl|rfl:j=0\/j=1:=(by omega);exact ayn;exact aym⟩
def ayk:IntE (aa awT) (exA awX):=.col awX rfl rfl ⟨0,by decide,rfl,rfl⟩
def ayl:IntE (aa awT) (exA awL):=.lit awL rfl rfl (.inl rfl) ⟨fun h=>absurd (show(1:Int)=0 from h) (by decide),fun _=>U3,fun h=>absurd (show(1:Int)=2 from h) (by decide)⟩
def ass:IsSh 1 (exA awX):=.mk awX (by simp) (by simp)
def ast:IsSh 1 (exA awL):=.mk awL (by simp) (by simp)
def ayi:IsSh 12 (exA awW):=(IsSh.mk (d:=1) awW (by simp) (fun r hr=>by rcases azz.1 hr with rfl|hr;exact ass;rw[azc.1 hr];exact ast)).up (by decide)
def asw:¬HasN (exA awX):=by simp_all [pf]
def asx:¬HasN (exA awL):=fun h=>by rcases pf.1 h with g|⟨r,hr,_⟩;exact absurd (show(1:Int)=0 from g.2) (by decide);simp at hr
theorem akj:¬TextE (aa awT) (exA awX):=fun h=>by rcases(cp h).2 with⟨_,j,hj,e,ht⟩|⟨h1,_⟩;have e:(0:Int)=((j:Nat):Int):=e;obtain rfl:j=0:=(by omega);exact absurd (show(1:Int)=2 from ht) (by decide);exact absurd (show(2:Int)=1 from h1) (by decide)
theorem aso:¬TextE (aa awT) (exA awL):=fun h=>by rcases(cp h).2 with⟨h1,_⟩|⟨_,h1⟩;exact absurd (show(1:Int)=2 from h1) (by decide);exact absurd (show(1:Int)=2 from h1) (by decide)
theorem anx:Jd []=some []:=by simp only[Jd]
theorem ae7:ofT (exA awX)=some (ue 0 0):=by rw[s5,azf (by decide),anx,az6];show(if(2:Int)=1/\(0:Int)=1 then _ else if(2:Int)=2/\(0:Int)<=0 then some (ue 0 0)else none)=_;rw[azf (by decide),azg (by decide)]
theorem aie{t:GTm}(h:smR (tmA t)=true):dt t=some t:=by unfold dt;rw[azg h]
theorem ae8:ofT (exA awL)=some ⟨1,[]⟩:=by rw[s5,azf (by decide),anx,az6];show(if(1:Int)=1/\(1:Int)=1 then dt ⟨1,[]⟩else _)=_;rw[azg (by decide)];exact aie Ck
theorem ayj:smR (tmA ⟨-1,[]⟩)=true:=(fb _).2 ⟨⟨by decide,by simp⟩,by rw[ni];show cq (-1)+0<=_;decide⟩
theorem asr:smR (tmA ⟨-1,[⟨1,0,0,0,[]⟩]⟩)=true:=by refine(fb _).2 ⟨⟨by decide,fun p hp=>by rw[azc.1 hp];exact⟨by show -1048576<=(1:Int);decide,by show(1:Int)<=_;decide⟩⟩,?_⟩;rw[ni];simp[bdS,bdK,cq]
def asu:OpE (aa awT) 11 (exA awX):=.inr (.inr ⟨ayk,.tm _ _ (ue 0 0) asw ⟨.col awX rfl rfl (by decide) (uy (nf (.inl rfl)) Bh),uy (nf (.inl rfl)) Bh,fw Bh,by decide,Bh,ae7⟩⟩)
def abg:smR (tmA ⟨1,[]⟩)=true:=Ck
def asv:OpE (aa awT) 11 (exA awL):=.inr (.inr ⟨ayl,.tm _ _ ⟨1,[]⟩ asx ⟨.lit awL rfl rfl rfl (uy m8 abg),uy m8 abg,fw abg,by decide,abg,ae8⟩⟩)
def Kf:CondE (aa awT) (exA awW):=.cmp awW awX awL (by decide) rfl asu asv (.inl ⟨akj,aso⟩) (fun h=>absurd h akj) ayi
def asy:∃a:GAt,a.c_=3/\Ct 10 (exA awX) (exA awL)=some (.pat a):=by refine⟨⟨3,0,0,⟨-1,[⟨1,0,0,0,[]⟩]⟩,zTe⟩,rfl,?_⟩;unfold Ct;have e1:scT (-1) ⟨1,[]⟩=⟨-1,[]⟩:=(by unfold scT;rw[azf (by decide)];rfl);have e2:qq (ue 0 0) ⟨-1,[]⟩=⟨-1,[⟨1,0,0,0,[]⟩]⟩:=rfl;rw[ae7,ae8,az6,az6,e1,aie ayj,az6,e2,aie asr,az6,azf (by simp),azg rfl]
def ayh:∃vs:List Int,∃a:GAt,a.c_=3/\trS (aa awT) (exA awW) 0=some (lsF 0 (wn 1 vs++[fmA (atF a)])):=by
 obtain⟨a,hk,ha⟩:=asy
 have hn:¬HasN (exA awW):=fun h=>by
  rcases pf.1 h with g|⟨r,hr,g⟩;exact absurd (show(10:Int)=1 from g.1) (by decide);have hr:r∈[exA awX,exA awL]:=hr
  rcases azz.1 hr with rfl|hr;exact asw g;rw[azc.1 hr]at g;exact asx g
 have hp:ptS (aa awT) awW.op_ (exA awX) (exA awL) (o9 0)=some (.pat a):=by rw[ak8 (by decide) akj aso rfl];exact ha
 refine⟨(csX awW).filter fun v=>!(jh a).contains v,a,hk,?_⟩;rw[Ir (by decide),Ht hn rfl hp rfl,cmF,azf (by decide)]
theorem M7{l:List PVar}(k:Int):∀(L:List (List AV)),(∀f∈L,kq l f=1)->L.foldl (fun s r=>min (s*kq l r) 257) 1=1
 |[],_=>rfl
 |r::L,h=>by rw[List.foldl_cons,h r (by simp)];exact M7 k L fun f hf=>h f (List.mem_cons_of_mem _ hf)
def ad7{a:GAt}(h0:¬a.c_=0)(h4:¬a.c_=4):kq l (fmA (atF a))=1:=by rw[oo,azg (show(atF a).c_=2 from rfl),azf (fun h=>h0 h.1),azf (show¬(atF a).e_.c_=4 from h4)]
def ad6{L:List (List AV)}(h:∀f∈L,kq l f=1):kq l (lsF 0 L)=1:=by by_cases h1:L.length=1;obtain⟨r,rfl⟩:=az4.1 h1;exact h r (by simp);rw[xx h1,oo,azf (show¬(0:Int)=2 by decide),azg rfl];unfold w6;rw[List.foldl_map];exact M7 0 L h
def W1:¬Nw awT awW:=by
 obtain⟨vs,a,hk,h⟩:=ayh;have hr:ny awT awW=some (lsF 0 ([]++[lsF 0 (wn 1 vs++[fmA (atF a)])])):=by unfold ny F9;have e:km (aa awT) awT.h_ 2=some []:=(by show km _ [] 2=_;rw[km]);rw[e,az6,azf (show¬awW.op_=0 by decide),h];rfl
 have c1:kq (aa awT) (lsF 0 ([]++[lsF 0 (wn 1 vs++[fmA (atF a)])]))=1:=by
  refine ad6 fun f hf=>?_;rw[List.nil_append,azc]at hf;subst hf;refine ad6 fun f hf=>?_;rcases azd.1 hf with hf|hf;obtain⟨v,_,rfl⟩:=azy.1 hf;exact ad7 (show¬(1:Int)=0 by decide) (show¬(1:Int)=4 by decide);rw[azc.1 hf];exact ad7 (by omega) (by omega)
 rintro(g|⟨f,g1,g2⟩);rw[hr]at g;cases g;rw[hr]at g1;cases g1;rw[c1]at g2;omega
def W2:Xi awT awW awR:=by refine⟨⟨aya.1 W4,fun e he=>by simp at he⟩,.inr (have e1:vS (bj awR) (exA awX)=iV 1:=(by rw[jf,azf (by decide),azg rfl];rfl);have e2:vS (bj awR) (exA awL)=iV 1:=(by rw[jf,azg rfl];rfl);have e0:cS (bj awR) (exA awW)=Ij 10 (vS (bj awR) (exA awX)) (vS (bj awR) (exA awL)):=ajy (x:=awW) (by decide) rfl;?_)⟩;rw[e0,e1,e2,Vu (by decide) (by decide) (by decide),Si (V9 1) (V9 1) rfl rfl];decide
def asz:FmP (AtG (aa awT)) (fmA (eqY 1)):=by
 refine adw (at_i (.inr (.inl rfl)) ⟨Uy,?_,?_,?_⟩ ?_ ?_ ⟨Uy,th.x_⟩)
 ·exact asr
 ·exact(vf _).2 (by simp)
 ·refine tmV.2 fun p hp=>?_
  rw[azc.1 hp]
  exact⟨fun _=>⟨0,by decide,rfl,rfl⟩,fun h=>absurd (show(0:Int)=1 from h) (by decide),fun h=>absurd (show(0:Int)=2 from h) (by decide),fun _=>rfl,fun h=>absurd (show(0:Int)=2 from h) (by decide)⟩
 ·rw[dj];show(([⟨1,0,0,0,[]⟩]:List GPart).flatMap lm).length<=4096;simp[lm]
 ·rw[ahv];show nxl [⟨1,0,0,0,[]⟩]<=8192;simp[nxl,nxP,Za]
def W3:FmV (aa awT) (fmA (eqY 1)):=ads (yk Jz) asz (by have e:wgR w1 (fmA (eqY 1))=1:=afi _;rw[e];decide)
def as0:FmH awR (fmA (eqY 1)):=by have h:AtH awR (⟨3,0,0,⟨-1,[⟨1,0,0,0,[]⟩]⟩,zTe⟩:GAt):=(by rw[as3 rfl];exact⟨fun v hv=>by have hv:v∈d7 (tmA ⟨-1,[⟨1,0,0,0,[]⟩]⟩):=hv;rw[dj]at hv;have hv:v∈[(0:Int)]:=hv;rw[azc.1 hv];unfold nnH;decide,by rw[kp];rfl⟩);exact adr.2 h
theorem H1(h:EqP awT 1 p):p.cols=((p.vars.length:Nat):Int)/\p.vars=aa awT/\(Bel p.vars awR->∀c∈p.cls,HG c awR)/\p.cls.length<=1000/\(Bel p.vars awR/\∃c∈p.cls,HoldsG c awR):=by obtain⟨h1,h2,h3,hC⟩:=h;have h0:=asp.to.lk;have hle:=aee W3 (by rw[Uz];decide) hC;refine⟨by rw[h2,h3];rfl,h3,fun hb c hc=>?_,by omega,by rw[h3];exact W4,(Ka rfl W3 hC W4).2 as0⟩;rw[h3]at hb;exact aef rfl W3 hC hb h0 c hc
def akm:FitCase ⟨awT,[],awW⟩:=by have h:=E1;exact⟨h,⟨by simp,by simp⟩,W5⟩
def ayo:RightD ⟨awT,[],awW⟩:=⟨ae6,.inr Kf,by simp,by simp⟩
def pl27:i9 prog 27=some [(0,1),(1,1),(2,1),(3,1),(4,1)]:=by kernel_rfl
def pl32:i9 prog 32=some [(0,1),(1,1),(2,1),(3,1),(4,3),(7,1)]:=by kernel_rfl
def atz:bp prog 100=some (.agg #[.string ⟨#[]⟩,.int .i64 0,.int .i64 0,.int .i64 0,.int .i64 0,.bool false]):=by kernel_rfl
def asq:PRet prog 12 [.tree 5 ([awT].map ic),.agg (aj6 4 ⟨#[116]⟩ (.v (.slice none 0 0)) awW (aa awT))] (fun q=>∃p:PPred,q=.tup [.tree 5 ([(⟨true,p⟩:PAcc)].map acA),vI 0]/\RowsK awT awW p):=
 (Ym [awT] W6 ⟨#[116]⟩ awW W5 ae6 (by simp) (fun _=>Kf) W1).mono fun q ⟨p,h,_,hk⟩=>⟨p,h,hk⟩
def as1:PRet prog 13 [.tree 5 ([awT].map ic),.agg (aj6 4 ⟨#[116]⟩ (.v (.slice none 0 0)) awW (aa awT)),.tree 4 ([(B2 awR)].map aax)] (fun q=>∃p r:PPred,q=.tup [.tree 5 ([(⟨false,p⟩:PAcc),⟨true,r⟩].map acA),vI 0]):=
 (Xc (⟨awT,[],awW⟩:GCase) akm ayo W6 awR Kg W2 (fun _=>Kf) W1).mono fun q ⟨p,h,_⟩=>⟨p,_,h⟩
def nj:PRet prog 5 [] (fun q=>q=vB true):=by refine ovT [12,13,14,15,16,19,20,22,23,27,29,43,44,50,51,66,72,85,92,103,110] [] func5 rfl rfl ?_;refine OpG.nw (cm (de underlying22 Yi atz rfl rfl rfl rfl) (fun η' h=>ba (f:=zh) (l:=[cA,cB']) (azc.2 rfl) h rfl rfl rfl rfl rfl (fun a _=>⟨rfl,rfl⟩))) rfl ?_;refine OpG.nw (cm (de underlying53 sz3 zr3 rfl rfl rfl rfl) (fun η' h=>ba (f:=iA) (l:=[(0:Int)]) (azc.2 rfl) h rfl rfl rfl rfl rfl (fun a _=>⟨rfl,rfl⟩))) rfl ?_;refine OpG.nw (cm (de underlying23 amc zr53 rfl rfl rfl rfl) (fun η' h=>ba (f:=(fun l:List Int=>[AV.tree 1 (l.map iA)])) (l:=[[(0:Int)]]) (azc.2 rfl) h rfl rfl rfl rfl rfl (fun a _=>⟨rfl,rfl⟩))) rfl ?_;refine OpG.lk (nr (LOp.bd ali pl27 rfl rfl) (fun _=>FzP.aggL (.cons (.pure rfl) (.cons (.pure rfl) (.cons (.pure rfl) (.cons (FzP.nil (n:=3)) (.cons (FzP.nil (n:=8)) .nil))))))) ?_;refine OpG.nw (cm (de underlying42 uv ali rfl rfl rfl rfl) (fun η' h=>ba (f:=ic) (l:=[awT]) (azc.2 rfl) h rfl rfl rfl rfl rfl (fun a _=>⟨rfl,rfl⟩))) rfl ?_;refine ArgG.mk (Ax 1) rfl ?_;rintro _ rfl;refine OpG.nw (cm (de underlying36 yx zr30 rfl rfl rfl rfl) (fun η' h=>ba (f:=gvA) (l:=awR) (azc.2 rfl) h rfl rfl rfl rfl rfl (fun a _=>⟨rfl,rfl⟩))) rfl ?_;refine OpG.lk (nr (LOp.bd atl pl32 rfl rfl) (fun _=>FzP.aggL (.cons (.pure rfl) (.cons (.pure rfl) (.cons (.pure rfl) (.cons (.pure rfl) (.cons (.pure rfl) (.cons (.pure rfl) (.cons (.pure rfl) (.cons (FzP.nil (n:=8)) .nil)))))))))) ?_;refine ArgG.mk (Ax 1) rfl ?_;rintro _ rfl;refine OpG.lk (nr (LOp.bd atl pl32 rfl rfl) (fun _=>FzP.aggL (.cons (.pure rfl) (.cons (.pure rfl) (.cons (.pure rfl) (.cons (.pure rfl) (.cons (.pure rfl) (.cons (.pure rfl) (.cons (.pure rfl) (.cons (FzP.nil (n:=8)) .nil)))))))))) ?_;refine OpG.nw (cm (de underlying25 sz32 atl rfl rfl rfl rfl) (fun η' h=>ba (f:=exA) (l:=[awX,awL]) (azc.2 rfl) h rfl rfl rfl rfl rfl (fun a _=>⟨rfl,rfl⟩))) rfl ?_;refine OpG.nw (cm (de underlying53 sz3 zr3 rfl rfl rfl rfl) (fun η' h=>ba (f:=iA) (l:=[(0:Int)]) (azc.2 rfl) h rfl rfl rfl rfl rfl (fun a _=>⟨rfl,rfl⟩))) rfl ?_;refine OpG.lk (ae underlying42 uv rfl rfl rfl (by simp)) ?_;refine ArgG.mk (jz awT E1 (by decide)) rfl ?_;rintro _ rfl;refine⟨by kernel_rfl,?_⟩;refine ArgG.mk (asq) rfl ?_;rintro _ ⟨p1,rfl,h3⟩;refine OpG.lk (nr (LOp.bd atk pl87 rfl rfl) (fun _=>FzP.aggL (.cons (.pure rfl) (.cons (.pure rfl) (.cons (.pure rfl) (.cons (FzP.nil (n:=3)) .nil)))))) ?_;refine OpG.nw (cm (de underlying88 aus atk rfl rfl rfl rfl) (fun η' h=>ba (f:=aax) (l:=[(B2 awR)]) (azc.2 rfl) h rfl rfl rfl rfl rfl (fun a _=>⟨rfl,rfl⟩))) rfl ?_;refine ArgG.mk (as1) rfl ?_;rintro _ ⟨p2,r2,rfl⟩;refine OpG.lk (nr (LOp.bd atk pl87 rfl rfl) (fun _=>FzP.aggL (.cons (.pure rfl) (.cons (.pure rfl) (.cons (FzP.nil (n:=3)) (.cons (.pure rfl) .nil)))))) ?_;refine OpG.nw (cm (de underlying88 aus atk rfl rfl rfl rfl) (fun η' h=>ba (f:=aax) (l:=[(⟨0,1,[],awR⟩:GChg)]) (azc.2 rfl) h rfl rfl rfl rfl rfl (fun a _=>⟨rfl,rfl⟩))) rfl ?_;refine ArgG.mk (ajk ⟨#[116]⟩ [cA,cB'] 1 awB E1 (by decide) (by decide) (Kg.2 awB (by simp)) W3.ok) rfl ?_;rintro _ ⟨p3,rfl,h4⟩;refine cT (cT ?_);refine LenG.of (cB (fun h1=>?_) (fun h1=>?_));have h8:((([(⟨true,p1⟩:PAcc)]).length:Nat):Int)=(1:Int):=(by simpa using h1);refine OpG.lk (lI (j:=0) underlying74 La rfl rfl (by omega)) ?_;apply cB<;>intro h9;refine OpG.lk (lI (j:=0) underlying74 La rfl rfl (by omega)) ?_;refine ArgG.mk (xa p1 awR Kg h3.cols (by rw[h3.vars];exact pp (by decide)) (h3.hg awR) h3.cl) rfl ?_;rintro _ ⟨b6,rfl,hf⟩;have ha:b6=true:=hf.2 ((h3.sem awR).2 W2);apply cB<;>intro h5;refine LenG.of (cB (fun h2=>?_) (fun h2=>?_));have hb:((([(⟨false,p2⟩:PAcc),⟨true,r2⟩]).length:Nat):Int)=(2:Int):=(by simpa using h2);refine OpG.lk (lI (j:=0) underlying74 La rfl rfl (by omega)) ?_;apply cB<;>intro hc;refine OpG.lk (lI (j:=1) underlying74 La rfl rfl (by omega)) ?_;apply cB<;>intro hd;refine LenG.of (cB (fun h0=>?_) (fun h0=>?_));have h6:((([(⟨false,p3⟩:PAcc)]).length:Nat):Int)=(1:Int):=(by simpa using h0);refine OpG.lk (lI (j:=0) underlying74 La rfl rfl (by omega)) ?_;apply cB<;>intro h7;refine OpG.lk (lI (j:=0) underlying74 La rfl rfl (by omega)) ?_;refine ArgG.mk (xa p3 awR Kg (H1 h4).1 (by rw[(H1 h4).2.1];exact pp (by decide)) (H1 h4).2.2.1 (H1 h4).2.2.2.1) rfl ?_;rintro _ ⟨b7,rfl,hh⟩;have he:b7=true:=hh.2 (H1 h4).2.2.2.2;exact rV rfl rfl (congrArg vB he);exfalso;simp at h7;have h6:¬(((([(⟨false,p3⟩:PAcc)]).length:Nat):Int)=(1:Int)):=(by simpa using h0);exfalso;simp at h0;exfalso;simp at hd;exfalso;simp at hc;have hb:¬(((([(⟨false,p2⟩:PAcc),⟨true,r2⟩]).length:Nat):Int)=(2:Int)):=(by simpa using h2);exfalso;simp at h2;rw[ha]at h5;cases h5;exfalso;simp at h9;have h8:¬(((([(⟨true,p1⟩:PAcc)]).length:Nat):Int)=(1:Int)):=(by simpa using h1);exfalso;simp at h1
open Go.RowKit Go.ChangeShapes Go.WideShapes Go.Deep
set_option maxRecDepth 100000
def oVal:nq prog gvA FitVal 30:=by intro H enc W fuel cs d ps h hw;obtain⟨n,hn,h3,hf⟩:=ir underlying30 h hw;rw[show prog.cellsOf 30=3 by kernel_rfl]at h3;obtain⟨_,_,h0,w0⟩:=hf 0 _ rfl;obtain⟨x0,r0,e0⟩:=(iu underlying3) enc W _ _ _ _ h0 w0;change TRL _ _ _ (List.take (prog.cellsOf 3) (List.drop 0 cs))at e0;rw[show prog.cellsOf 3=1 by kernel_rfl]at e0;obtain⟨_,_,h1,w1⟩:=hf 1 _ rfl;obtain⟨x1,r1,e1⟩:=(iu underlying2) enc W _ _ _ _ h1 w1;change TRL _ _ _ (List.take (prog.cellsOf 2) (List.drop 1 cs))at e1;rw[show prog.cellsOf 2=1 by kernel_rfl]at e1;obtain⟨_,_,h2,w2⟩:=hf 2 _ rfl;obtain⟨x2,r2,e2⟩:=(q8 underlying9) enc W _ _ _ _ h2 w2;change TRL _ _ _ (List.take (prog.cellsOf 9) (List.drop 2 cs))at e2;rw[show prog.cellsOf 9=1 by kernel_rfl]at e2;have hh:=(ce (o:=0) (m:=1) e0 (ce (o:=1) (m:=1) e1 (ce (o:=2) (m:=1) e2 (TRL.done h3))));exact⟨⟨x0,x1,x2⟩,⟨r2⟩,hh⟩
theorem oExF:∀N,Kl prog rwA IsEx 32 N:=by
 intro N;induction N with
 |zero=>
  intro H enc W fuel cs d ps hN h hw
  obtain⟨n,e,_⟩:=ir underlying32 h hw
  omega
 |succ N ih=>
 intro H enc W fuel cs d ps hN h hw;obtain⟨n,hn,h6,hf⟩:=ir underlying32 h hw;rw[show prog.cellsOf 32=8 by kernel_rfl]at h6;obtain⟨_,_,h0,w0⟩:=hf 0 _ rfl;obtain⟨x0,r0,e0⟩:=(iu underlying3) enc W _ _ _ _ h0 w0;change TRL _ _ _ (List.take (prog.cellsOf 3) (List.drop 0 cs))at e0;rw[show prog.cellsOf 3=1 by kernel_rfl]at e0;obtain⟨_,_,h1,w1⟩:=hf 1 _ rfl;obtain⟨x1,r1,e1⟩:=(q8 underlying9) enc W _ _ _ _ h1 w1;change TRL _ _ _ (List.take (prog.cellsOf 9) (List.drop 1 cs))at e1;rw[show prog.cellsOf 9=1 by kernel_rfl]at e1;obtain⟨_,_,h2,w2⟩:=hf 2 _ rfl;obtain⟨x2,r2,e2⟩:=(q8 underlying9) enc W _ _ _ _ h2 w2;change TRL _ _ _ (List.take (prog.cellsOf 9) (List.drop 2 cs))at e2;rw[show prog.cellsOf 9=1 by kernel_rfl]at e2;obtain⟨_,_,h3,w3⟩:=hf 3 _ rfl;obtain⟨x3,r3,e3⟩:=(iu underlying3) enc W _ _ _ _ h3 w3;change TRL _ _ _ (List.take (prog.cellsOf 3) (List.drop 3 cs))at e3;rw[show prog.cellsOf 3=1 by kernel_rfl]at e3;obtain⟨_,_,h4,w4⟩:=hf 4 _ rfl;obtain⟨x4,r4,e4⟩:=(oVal) enc W _ _ _ _ h4 w4;change TRL _ _ _ (List.take (prog.cellsOf 30) (List.drop 4 cs))at e4;rw[show prog.cellsOf 30=3 by kernel_rfl]at e4;obtain⟨_,_,h5,w5⟩:=hf 5 _ rfl;obtain⟨x5,r5,e5⟩:=(Kl.slice ih underlying25 (show prog.cellsOf 32=8 by kernel_rfl) (fun a h=>by cases h;rfl) (by decide) (azo (by kernel_rfl))) enc W _ _ _ _ (by omega) h5 w5;change TRL _ _ _ (List.take (prog.cellsOf 25) (List.drop 7 cs))at e5;rw[show prog.cellsOf 25=1 by kernel_rfl]at e5;have hh:=(ce (o:=0) (m:=1) e0 (ce (o:=1) (m:=1) e1 (ce (o:=2) (m:=1) e2 (ce (o:=3) (m:=1) e3 (ce (o:=4) (m:=3) e4 (ce (o:=7) (m:=1) e5 (TRL.done h6)))))))
 exact⟨exA ⟨x0,x1,x2,x3,x4,x5⟩,ko ⟨r5,r1,r2,r4⟩,hh⟩
def oEx:nq prog rwA IsEx 32:=nq.of oExF
def oExs:nq prog (fun l:List (List AV)=>[.tree 8 (l.map rwA)]) (fun l=>l.length<=140737488355328/\∀a∈l,IsEx a) 25:=nq.of fun N=>fun enc W fuel cs d ps hN h1 h2=>Kl.slice (oExF N) underlying25 (show prog.cellsOf 32=8 by kernel_rfl) (fun a h=>by cases h;rfl) (by decide) (azo (by kernel_rfl)) enc W fuel cs d ps (by omega) h1 h2
def oCol:nq prog zh FitCol 100:=by intro H enc W fuel cs d ps h hw;obtain⟨n,hn,h6,hf⟩:=ir underlying100 h hw;rw[show prog.cellsOf 100=6 by kernel_rfl]at h6;obtain⟨_,_,h0,w0⟩:=hf 0 _ rfl;obtain⟨x0,r0,e0⟩:=(q8 underlying9) enc W _ _ _ _ h0 w0;change TRL _ _ _ (List.take (prog.cellsOf 9) (List.drop 0 cs))at e0;rw[show prog.cellsOf 9=1 by kernel_rfl]at e0;obtain⟨_,_,h1,w1⟩:=hf 1 _ rfl;obtain⟨x1,r1,e1⟩:=(iu underlying3) enc W _ _ _ _ h1 w1;change TRL _ _ _ (List.take (prog.cellsOf 3) (List.drop 1 cs))at e1;rw[show prog.cellsOf 3=1 by kernel_rfl]at e1;obtain⟨_,_,h2,w2⟩:=hf 2 _ rfl;obtain⟨x2,r2,e2⟩:=(iu underlying2) enc W _ _ _ _ h2 w2;change TRL _ _ _ (List.take (prog.cellsOf 2) (List.drop 2 cs))at e2;rw[show prog.cellsOf 2=1 by kernel_rfl]at e2;obtain⟨_,_,h3,w3⟩:=hf 3 _ rfl;obtain⟨x3,r3,e3⟩:=(iu underlying2) enc W _ _ _ _ h3 w3;change TRL _ _ _ (List.take (prog.cellsOf 2) (List.drop 3 cs))at e3;rw[show prog.cellsOf 2=1 by kernel_rfl]at e3;obtain⟨_,_,h4,w4⟩:=hf 4 _ rfl;obtain⟨x4,r4,e4⟩:=(iu underlying3) enc W _ _ _ _ h4 w4;change TRL _ _ _ (List.take (prog.cellsOf 3) (List.drop 4 cs))at e4;rw[show prog.cellsOf 3=1 by kernel_rfl]at e4;obtain⟨_,_,h5,w5⟩:=hf 5 _ rfl;obtain⟨x5,r5,e5⟩:=(Oj underlying4) enc W _ _ _ _ h5 w5;change TRL _ _ _ (List.take (prog.cellsOf 4) (List.drop 5 cs))at e5;rw[show prog.cellsOf 4=1 by kernel_rfl]at e5;have hh:=(ce (o:=0) (m:=1) e0 (ce (o:=1) (m:=1) e1 (ce (o:=2) (m:=1) e2 (ce (o:=3) (m:=1) e3 (ce (o:=4) (m:=1) e4 (ce (o:=5) (m:=1) e5 (TRL.done h6)))))));exact⟨⟨x0,x1,x2,x3,x4,x5⟩,⟨r0⟩,hh⟩
def av1:nq prog (fun l:List GCol=>[.tree 6 (l.map zh)]) (fun l=>l.length*prog.bytesOf 100<=140737488355328/\∀a∈l,FitCol a) 22:=nq.sliceB oCol underlying22 (show prog.cellsOf 100=6 by kernel_rfl) (fun _=>rfl) (by decide) (azo (by kernel_rfl))
def colB{n:Nat}(h:n*prog.bytesOf 100<=140737488355328):n<=140737488355328/\n<=3518437208883:=by have e:40<=prog.bytesOf 100:=azo (by kernel_rfl);have:n*40<=n*prog.bytesOf 100:=Nat.mul_le_mul_left _ e;omega
def ahs:nq prog (fun l:List Int=>[.tree 1 (l.map iA)]) (fun l=>l.length<=140737488355328/\∀a∈l,-9223372036854775808<=a/\a<=9223372036854775807) 53:=nq.slice (iu underlying3) underlying53 (show prog.cellsOf 3=1 by kernel_rfl) (fun _=>rfl) (by decide) (azo (by kernel_rfl))
def avz:nq prog (fun l:List (List Int)=>[.tree 1 (l.map (fun l=>[.tree 1 (l.map iA)]))]) (fun l=>l.length<=140737488355328/\∀a∈l,a.length<=140737488355328/\∀b∈a,-9223372036854775808<=b/\b<=9223372036854775807) 23:=nq.slice ahs underlying23 (show prog.cellsOf 53=1 by kernel_rfl) (fun _=>rfl) (by decide) (azo (by kernel_rfl))
def oFor:nq prog aix FitFor 143:=by intro H enc W fuel cs d ps h hw;obtain⟨n,hn,h3,hf⟩:=ir underlying143 h hw;rw[show prog.cellsOf 143=3 by kernel_rfl]at h3;obtain⟨_,_,h0,w0⟩:=hf 0 _ rfl;obtain⟨x0,r0,e0⟩:=(ahs) enc W _ _ _ _ h0 w0;change TRL _ _ _ (List.take (prog.cellsOf 53) (List.drop 0 cs))at e0;rw[show prog.cellsOf 53=1 by kernel_rfl]at e0;obtain⟨_,_,h1,w1⟩:=hf 1 _ rfl;obtain⟨x1,r1,e1⟩:=(iu underlying3) enc W _ _ _ _ h1 w1;change TRL _ _ _ (List.take (prog.cellsOf 3) (List.drop 1 cs))at e1;rw[show prog.cellsOf 3=1 by kernel_rfl]at e1;obtain⟨_,_,h2,w2⟩:=hf 2 _ rfl;obtain⟨x2,r2,e2⟩:=(iu underlying3) enc W _ _ _ _ h2 w2;change TRL _ _ _ (List.take (prog.cellsOf 3) (List.drop 2 cs))at e2;rw[show prog.cellsOf 3=1 by kernel_rfl]at e2;have hh:=(ce (o:=0) (m:=1) e0 (ce (o:=1) (m:=1) e1 (ce (o:=2) (m:=1) e2 (TRL.done h3))));exact⟨⟨x0,x1,x2⟩,⟨r0.1,fun _ _=>trivial⟩,hh⟩
def av0:nq prog (fun l:List GFor=>[.tree 3 (l.map aix)]) (fun l=>l.length<=140737488355328/\∀a∈l,FitFor a) 24:=nq.slice oFor underlying24 (show prog.cellsOf 143=3 by kernel_rfl) (fun _=>rfl) (by decide) (azo (by kernel_rfl))
def oTab:nq prog ic (fun y=>FitTab y/\y.d_.length<=3518437208883) 27:=by intro H enc W fuel cs d ps h hw;obtain⟨n,hn,h5,hf⟩:=ir underlying27 h hw;rw[show prog.cellsOf 27=5 by kernel_rfl]at h5;obtain⟨_,_,h0,w0⟩:=hf 0 _ rfl;obtain⟨x0,r0,e0⟩:=(q8 underlying9) enc W _ _ _ _ h0 w0;change TRL _ _ _ (List.take (prog.cellsOf 9) (List.drop 0 cs))at e0;rw[show prog.cellsOf 9=1 by kernel_rfl]at e0;obtain⟨_,_,h1,w1⟩:=hf 1 _ rfl;obtain⟨x1,r1,e1⟩:=(av1) enc W _ _ _ _ h1 w1;change TRL _ _ _ (List.take (prog.cellsOf 22) (List.drop 1 cs))at e1;rw[show prog.cellsOf 22=1 by kernel_rfl]at e1;obtain⟨_,_,h2,w2⟩:=hf 2 _ rfl;obtain⟨x2,r2,e2⟩:=(avz) enc W _ _ _ _ h2 w2;change TRL _ _ _ (List.take (prog.cellsOf 23) (List.drop 2 cs))at e2;rw[show prog.cellsOf 23=1 by kernel_rfl]at e2;obtain⟨_,_,h3,w3⟩:=hf 3 _ rfl;obtain⟨x3,r3,e3⟩:=(av0) enc W _ _ _ _ h3 w3;change TRL _ _ _ (List.take (prog.cellsOf 24) (List.drop 3 cs))at e3;rw[show prog.cellsOf 24=1 by kernel_rfl]at e3;obtain⟨_,_,h4,w4⟩:=hf 4 _ rfl;obtain⟨x4,r4,e4⟩:=(oExs) enc W _ _ _ _ h4 w4;change TRL _ _ _ (List.take (prog.cellsOf 25) (List.drop 4 cs))at e4;rw[show prog.cellsOf 25=1 by kernel_rfl]at e4;have hh:=(ce (o:=0) (m:=1) e0 (ce (o:=1) (m:=1) e1 (ce (o:=2) (m:=1) e2 (ce (o:=3) (m:=1) e3 (ce (o:=4) (m:=1) e4 (TRL.done h5))))));exact⟨⟨x0,x1,x2,x3,x4⟩,⟨⟨r0,⟨(colB r1.1).1,r1.2⟩,⟨r2.1,fun y h=>⟨(r2.2 y h).1,fun _ _=>trivial⟩⟩,r3,r4⟩,(colB r1.1).2⟩,hh⟩
def oRow:nq prog (fun l:List GVal=>[.tree 3 (l.map gvA)]) (fun l=>l.length<=140737488355328/\∀a∈l,FitVal a) 36:=nq.slice oVal underlying36 (show prog.cellsOf 30=3 by kernel_rfl) (fun _=>rfl) (by decide) (azo (by kernel_rfl))
def oExG:nq prog exA FitEx 32:=fun enc W fuel cs d ps h hw=>by obtain⟨r,hr,h2⟩:=oEx enc W fuel cs d ps h hw;obtain⟨x,rfl,hx⟩:=hr.open_;exact⟨x,hx,h2⟩
def open_row{r:Reach}{b0:Nat}{H:Type}{enc:TypeId×Value->H}{W:World}{v:Value}{d:DataW H}{ps:List MemPlace}(hv:Value.okWide prog W r b0 36 v)
 (h:DataW.Trod enc prog W 0 (fun _=>true) true 36 v d ps)(hw:∀m∈d.weights prog 36,m<=140737488351232):
 ∃l:List GVal,bq l (fun y=>FitVal y)/\TR (LtB W.heap.size) W (.tree 3 (l.map gvA)) v:=by
 obtain⟨a,len,cap,rfl⟩:=okWide_slice underlying36 hv
 obtain⟨fuel,hf⟩:=h
 obtain⟨l,h1,h3⟩:=oRow enc W fuel _ d ps hf hw
 exact⟨l,h1,h3.2 0 (by simp) (by simp[Value.cells])⟩
end Go.Proofs.YtfpfdfhlljjckaaGreatDoor
