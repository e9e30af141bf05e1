/- Texts of the claim. -/
import Derived.Test.YtfpfdfhlljjckaaGreatDoorCA1
set_option linter.all false
namespace Go.Proofs.YtfpfdfhlljjckaaGreatDoor
set_option linter.unusedVariables false
set_option linter.unusedSimpArgs false
open Go.RowKit
variable{ret v:AV}{a:Act}{af:Array Edge}{ops:Array Oper}{b:Blk}{np:Bool}{c:Code}{C:Ctx}{fn:Func}{cs ds news:List AV}{fp:List Nat}{N ez len m n o sz ver w:Nat}{τ:Nat->AV}{s x:Operand}{g:Option (Nat×Bool)}{d:Option Tmp}{P:Program}{pos:String}{α:Type}{t ty:TypeId}{i:TypeInfo}{z:Value}
def Ctx.repl(C:Ctx)(id:Nat)(r:Nat×Nat)(z:Nat)(b:Blk)(w:World):Ctx:=
 {ρ:=fun i=>if i=id then r else C.ρ i,sz:=fun i=>if i=id then z else C.sz i,η:=C.η.set id (some b),U:=fun i=>C.U i\/i=id,T:=C.T,w:=w}
section
variable{C:Ctx}{id:Nat}{r:Nat×Nat}{z:Nat}{b:Blk}{w:World}
structure ReplOk(C:Ctx)(id:Nat)(r:Nat×Nat)(z:Nat)(b:Blk)(w:World):Prop where
 os:w.os=C.w.os
 tape:w.tape=C.w.tape
 output:w.output=C.w.output
 size:C.w.heap.size<=w.heap.size
 keep:∀k,k<C.w.heap.size->k≠r.1->w.heap[k]? =C.w.heap[k]?
 r_:(∃b0,C.η id=some b0/\b0.nilp=false/\(C.ρ id).1=r.1)\/C.w.heap.size<=r.1
 ver:C.U id->∃b0,C.η id=some b0/\b0.ver<b.ver
 nn:b.nilp=false
 tight:b.ver=TV->z=r.2+b.cs.length
 cells:∃c t,w.heap[r.1]? =some (.cells c t (0,0))/\c.size=z/\r.2+b.cs.length<=c.size/\∀j (h:j<b.cs.length) (h':r.2+j<c.size),VR C b.cs[j] c[r.2+j]
def qi(hg:Good C)(h:ReplOk C id r z b w):Ev C (C.repl id r z b w) where
 os:=h.os
 tape:=h.tape
 output:=h.output
 size:=h.size
 keep:=fun k hk hm=>by refine h.keep k hk (fun e=>?_);rcases h.r_ with⟨b0,h1,h2,h3⟩|h1;exact hm ⟨id,⟨b0,h1,fh h2⟩,h3.trans e.symm⟩;omega
 mine:=fun k ⟨i,⟨b',hb',h0⟩,hk⟩=>by by_cases e:i=id;subst e;simp only[Ctx.repl,if_true]at hk;rcases h.r_ with⟨b0,h1,h2,h3⟩|h1;exact .inl ⟨i,⟨b0,h1,fh h2⟩,h3.trans hk⟩;exact .inr (by omega);simp only[Ctx.repl]at hb' hk;rw[az _ _ e]at hb';simp only[e,if_false]at hk;exact .inl ⟨i,⟨b',hb',h0⟩,hk⟩
 T:=fun _ h=>h
 Tnew:=fun _ h=>.inl h
 U:=fun _ h=>.inl h
 old:=fun i b' h4 hb'=>by simp only[Ctx.repl]at hb';by_cases e:i=id;subst e;rw[aw]at hb';cases hb';obtain⟨b0,h1,h2⟩:=h.ver h4;exact⟨b0,h1,by omega,fun e=>by omega⟩;rw[az _ _ e]at hb';exact⟨b',hb',azm _,fun _=>⟨by simp[Ctx.repl,e],by simp[Ctx.repl,e],rfl,rfl⟩⟩
def qh(hg:Good C)(h:ReplOk C id r z b w):Good (C.repl id r z b w):=by
 have he:=qi hg h
 have h0:∀{i b'},(C.repl id r z b w).η i=some b'->(i=id/\b'=b)\/(i≠id/\C.η i=some b'):=by
  intro i b' hb';simp only[Ctx.repl]at hb';by_cases e:i=id;subst e;rw[aw]at hb';cases hb';exact .inl ⟨rfl,rfl⟩;rw[az _ _ e]at hb';exact .inr ⟨e,hb'⟩
 have h7:∀{i b'},C.η i=some b'->b'.kind≠1->(C.ρ i).1<C.w.heap.size:=fun hb' hk=>hg.lt ⟨_,hb',hk⟩
 have h6:∀{i b'},i≠id->C.η i=some b'->b'.kind≠1->(C.ρ i).1≠r.1:=by
  intro i b' hi hb' h5 e;rcases h.r_ with⟨b0,h1,h2,h3⟩|h1;exact hi (hg.inj ⟨b',hb',h5⟩ ⟨b0,h1,fh h2⟩ (e.trans h3.symm));have:=h7 hb' h5
  omega
 refine⟨?_,?_,?_,?_,?_,?_,?_⟩;intro i b' hb';rcases h0 hb' with⟨rfl,rfl⟩|⟨_,hb'⟩;exact .inr rfl;exact .inl (hg.used hb');intro i b' hb' h5;rcases h0 hb' with⟨rfl,rfl⟩|⟨e,hb'⟩;rw[fo h.nn]at h5;cases h5;obtain⟨ob,h1,h2⟩:=hg.obj hb' h5;have e1:(C.repl id r z b w).ρ i=C.ρ i:=by simp[Ctx.repl,e]
 rw[e1];exact⟨ob,(h.keep _ (h7 hb' (by rw[h5];decide)) (h6 e hb' (by rw[h5];decide))).trans h1,h2.mono hg he⟩;intro i b' hb' h5;rcases h0 hb' with⟨e,rfl⟩|⟨e,hb'⟩;obtain⟨c,t,g1,g2,g3,g4⟩:=h.cells;have e1:(C.repl id r z b' w).ρ i=r:=by simp[Ctx.repl,e]
 have e2:(C.repl id r z b' w).sz i=z:=by simp[Ctx.repl,e]
 rw[e1,e2];exact⟨c,t,g1,g2,g3,fun j hj h8=>(g4 j hj h8).mono hg he⟩;obtain⟨c,t',h1,h2,h3,h4⟩:=hg.blk hb' h5;have e1:(C.repl id r z b w).ρ i=C.ρ i:=by simp[Ctx.repl,e]
 have e2:(C.repl id r z b w).sz i=C.sz i:=by simp[Ctx.repl,e]
 rw[e1,e2];exact⟨c,t',(h.keep _ (h7 hb' (fh h5)) (h6 e hb' (fh h5))).trans h1,h2,h3,fun j hj h8=>(h4 j hj h8).mono hg he⟩;rintro i i' ⟨b1,hf,h9⟩ ⟨b2,hl,ha⟩ hh;rcases h0 hf with⟨h1,_⟩|⟨e1,hb⟩<;>rcases h0 hl with⟨h2,_⟩|⟨e2,hc⟩;exact h1.trans h2.symm;simp only[Ctx.repl,h1,if_true,e2,if_false]at hh;exact absurd hh.symm (h6 e2 hc ha);simp only[Ctx.repl,h2,if_true,e1,if_false]at hh;exact absurd hh (h6 e1 hb h9);simp only[Ctx.repl,e1,e2,if_false]at hh;exact hg.inj ⟨b1,hb,h9⟩ ⟨b2,hc,ha⟩ hh;refine hg.tokE he.toFr0 fun k hk=>?_
 have:=hg.tlt (k:=k) hk;have:=h.size
 show k<w.heap.size;omega;rintro k ⟨i,⟨b',hb',h5⟩,hk⟩ hT;rcases h0 hb' with⟨e,_⟩|⟨e,hb'⟩;simp only[Ctx.repl,e,if_true]at hk;rcases h.r_ with⟨b0,h1,h2,h3⟩|h1;exact hg.apart ⟨id,⟨b0,h1,fh h2⟩,h3.trans hk⟩ hT;have:=hg.tlt (k:=k) hT
 omega;simp only[Ctx.repl,e,if_false]at hk;exact hg.apart ⟨i,⟨b',hb',h5⟩,hk⟩ hT;intro i b' hb' hd h5;rcases h0 hb' with⟨e,rfl⟩|⟨e,hb'⟩;have e1:(C.repl id r z b' w).ρ i=r:=by simp[Ctx.repl,e]
 have e2:(C.repl id r z b' w).sz i=z:=by simp[Ctx.repl,e]
 rw[e1,e2];exact h.tight hd;have e1:(C.repl id r z b w).ρ i=C.ρ i:=by simp[Ctx.repl,e]
 have e2:(C.repl id r z b w).sz i=C.sz i:=by simp[Ctx.repl,e]
 rw[e1,e2];exact hg.tight hb' hd h5
end
def Src(η:bm)(fp:List Nat)(a:AV)(m:Nat)(news:List AV):Prop:=
 ∀C:Ctx,Good C->(∀id∈fp,C.η id=η id)->∀x,VR C a x->(m=0/\news=[]/\∃ad c,x=.slice ad 0 c)\/
  ∃(ad:Addr) (c:Nat) (vals:List Value),x=.slice (some ad) m c/\vals.length=news.length/\(∀(j:Nat) (u:Value),vals[j]? =some u->C.w.cell? (ad.add j)=some u)/\∀j (h:j<news.length) (h':j<vals.length),VR C news[j] vals[j]
theorem js{n:Nat}:∀(xs:List (List AV)) (_:∀k (h:k<xs.length),xs[k].length=n) (i:Nat),i<xs.length*n->∃(h:i/n<xs.length) (h':i%n<xs[i/n].length) (h'':i<xs.flatten.length),xs.flatten[i]=xs[i/n][i%n]
 |[],_,i,h=>by simp at h
 |x::r,hl,i,hi=>by
  have h0:x.length=n:=hl 0 (by simp)
  have h1:0<n:=by
   rcases Nat.eq_zero_or_pos n with e|e;subst e;simp at hi;exact e
  by_cases h2:i<n;have e1:i/n=0:=Nat.div_eq_of_lt h2
  have e2:i%n=i:=Nat.mod_eq_of_lt h2;refine⟨by rw[e1];simp,by simp only[e1,e2];simp;omega,by simp;omega,?_⟩;simp only[e1,e2,List.getElem_cons_zero,List.flatten_cons];rw[List.getElem_append_left (by omega)];have h3:n<=i:=by omega
  obtain⟨g1,g2,g3,g4⟩:=js r (fun k hk=>by have:=hl (k+1) (by simpa using hk);simpa using this) (i-n) (by simp[Nat.add_mul]at hi;omega);have e1:i/n=(i-n)/n+1:=by rw[Nat.div_eq_sub_div h1 h3]
  have e2:i%n=(i-n)%n:=Nat.mod_eq_sub_mod h3;refine⟨by rw[e1];simp;exact g1,by simp only[e1,e2,List.getElem_cons_succ];exact g2,by simp at g3 ⊢;omega,?_⟩;simp only[e1,e2,List.getElem_cons_succ,List.flatten_cons];rw[List.getElem_append_right (by omega),<-g4];congr 1;omega
theorem lc{n:Nat}:∀(xs:List (List AV)) (_:∀k (h:k<xs.length),xs[k].length=n),xs.flatten.length=xs.length*n
 |[],_=>by simp
 |x::r,hl=>by have h0:x.length=n:=hl 0 (by simp);have:=lc r (fun k hk=>by have:=hl (k+1) (by simpa using hk);simpa using this);simp only[List.flatten_cons,azb,azu,Nat.add_mul,this,h0];omega
theorem Src.tree{η:bm}{xs:List (List AV)}:Src η [] (.tree n xs) xs.length xs.flatten:=by
 intro C hg _ x hx
 have h:=hx.tree_inv
 cases h with
 |tree0 h=>exact .inl ⟨rfl,rfl,_,_,rfl⟩
 |tree cell hT h1 h2 h3 h4 h5 h6=>
  rename_i b off cap
  right
  have h8:=lc xs h4
  refine⟨⟨b,off,none⟩,cap,(List.range (xs.length*n)).map fun i=>cell (i/n) (i%n),rfl,by simp[h8],fun j u hj=>?_,fun j hj h7=>?_⟩
  ·simp only[List.getElem?_map]at hj
   cases hr:(List.range (xs.length*n))[j]? with
   |none=>rw[hr]at hj;cases hj
   |some q=>
    rw[hr]at hj
    obtain⟨h9,hq⟩:=az2.1 hr
    simp only[List.getElem_range]at hq
    subst hq
    simp only[az5,aza]at hj
    subst hj
    have h0:j<xs.length*n:=by simpa using h9
    obtain⟨g1,g2,_,_⟩:=js xs h4 j h0
    rw[h4 _ g1]at g2
    rw[Addr.add_mid]
    have:=h5 (j/n) (j%n) g1 g2
    rw[show off+j/n*n+j%n=off+j by have:=Nat.div_add_mod j n;rw[Nat.mul_comm]at this;omega]at this
    exact this
  ·simp only[aze,List.length_range]at h7
   obtain⟨g1,g2,g3,g4⟩:=js xs h4 j h7
   rw[g4]
   simp only[List.getElem_map,List.getElem_range]
   exact .imm (h6 _ g1 _ g2)
def Src.sl{η:bm}{id off:Nat}(hb:η id=some b)(hv:b.ver=ver)(hn:b.nilp=false)(h5:Nat.beq len 0=false)(hc:ij off news.length b.cs=some news):Src η [id] (.sl id ver off len) len news:=by
 intro C hg hη x hx;have hb':C.η id=some b:=(hη id (by simp)).trans hb
 have h0:len≠0:=fun e=>by rw[e]at h5;cases h5
 obtain⟨ad,cap,rfl,h1,h2,h3,h4⟩:=hx.sl_inv hb' hv hn;rcases h4 with⟨h4,_⟩|⟨rfl,h4⟩;exact absurd h4 h0;obtain⟨g1,g2⟩:=ks _ _ _ _ hc;right;obtain⟨f,hf⟩:=jv (n:=news.length) (p:=fun j y=>C.w.cell? ⟨(C.ρ id).1,(C.ρ id).2+off+j,none⟩=some y/\VR C (news.getD j .unk) y) (fun j hj=>by obtain⟨y,hy,h6⟩:=hg.cell hb' hn (j:=off+j) (by omega);refine⟨y,by rw[Nat.add_assoc];exact hy,have e:news.getD j .unk=news[j]:=(by simp[List.getD,hj]);?_⟩;have e2:news[j]=b.cs[off+j]'(by omega):=(by have:news[j]? =b.cs[off+j]?:=(by rw[g2,List.getElem?_take_of_lt (by omega),List.getElem?_drop]);rw[ay8 hj,ay8 (by omega)]at this;exact Option.some.inj this);rw[e,e2];exact h6);exact⟨_,cap,(List.range news.length).map f,rfl,by simp,fun j u hj=>by obtain⟨h7,he⟩:=az2.1 hj;simp only[List.getElem_map,List.getElem_range]at he;subst he;rw[Addr.add_mid];exact(hf j (by simpa using h7)).1,fun j hj hj'=>by simp only[List.getElem_map,List.getElem_range];have:=(hf j hj).2;simpa[List.getD,hj]using this⟩
section
variable{P:Program}{τ:Nat->AV}{η:bm}{d:Option Tmp}{ty:TypeId}{pos:String}{af:Array Edge}{g:Option (Nat×Bool)}
theorem ku{t1 t2:TypeId}(w:World){v:Value}{w':World}(h:(Builtin.append_ #[t1,t2] ty #[a.eval s,a.eval x]).run P w=.ok v w'):
 (execOp a.eval ⟨d,.call {callee:=.builtin .append,args:=#[s,x],argTypes:=#[t1,t2]},ty,pos,af,g⟩).run P w=.ok (.value v) w':=by
 simp only[execOp,resolve,invoke,builtin,Sem.run_bind,azr,azq,List.map_toArray,azw,List.map_nil,h]
theorem fd{e:TypeId}(ht:P.underlying t=some (.slice e))(hi:P.info? e=some i)(w:World)(a ad:Option Addr)(n cap c:Nat)(h0:n<=cap):
 (Builtin.append_ #[t,t] ty #[.slice a n cap,.slice ad 0 c]).run P w=.ok (.slice a n cap) w:=by
 have h1:∀x:Option Addr,(Builtin.firstCells i.size 0 (.slice x 0 c)).run P w=.ok #[] w:=by intro x;cases x<;>simp[Builtin.firstCells,loadCells,loadCellsFrom]
 cases a with
 |none=>simp[Builtin.append_,run_underlying ht,sizeOf,typeInfo,hi,Builtin.lenOf,h0,h1]
 |some b=>simp[Builtin.append_,run_underlying ht,sizeOf,typeInfo,hi,Builtin.lenOf,h0,h1,storeCells]
def Bz{e:TypeId}(ht:P.underlying t=some (.slice e))(hi:P.info? e=some i)(w:World)(gb o n cap:Nat)(cur:Array Value)(t':TypeId)(h3:w.heap[gb]? =some (.cells cur t' (0,0)))
 (a:Addr)(m c:Nat)(news:List Value)(hl:news.length=m*i.size)(h0:∀(j:Nat) (u:Value),news[j]? =some u->w.cell? (a.add j)=some u)(h1:∀u∈news,u.oneCell'=true)
 (h2:n+m<=cap)(hfit:o+n*i.size+news.length<=cur.size):
 (Builtin.append_ #[t,t] ty #[.slice (some ⟨gb,o,none⟩) n cap,.slice (some a) m c]).run P w=.ok (.slice (some ⟨gb,o,none⟩) (n+m) cap) (w.setCells gb (o+n*i.size) news):=by
 have hf:=run_firstCells_some (P:=P) w i.size m a m c news hl h0
 have h4:=run_storeCells_cells (P:=P) gb (o+n*i.size) news 0 w (fun j hj=>by have:o+n*i.size+0+j<cur.size:=(by omega);simp[World.cell?,h3];omega) (fun j _=>by simp[World.frozen?,h3]) h1
 simp only[Nat.add_zero]at h4
 simp[Builtin.append_,run_underlying ht,sizeOf,typeInfo,hi,Builtin.lenOf,h2,hf,Addr.add_mid,h4]
theorem LOp.append{t e by_:Nat}{id:Nat}(ht:P.underlying t=some (.slice e))(hs:aj P e=some sz)(hz:bp P e=some z)(g7:(P.info? e).map (·.bytes)=some by_)(gi:z.cells.size=sz)
 (hx:aev τ s=.sl id ver 0 len)(hb:η id=some b)(hv:b.ver=ver)(hn:b.nilp=false)(g8:b.esz=sz)(hlen:len*sz<=b.cs.length)(g9:Src η fp (aev τ x) m news)(hnl:news.length=m*sz)(h1:news.all AV.one=true)
 (ga:(len+m)*by_<=140737488355328)(h7:len+m<=140737488355328)(gd:ver+1≠TV):
 LOp P ⟨d,.call {callee:=.builtin .append,args:=#[s,x],argTypes:=#[t,t]},ty,pos,af,g⟩ τ η (id::fp) [(id,some ⟨ver+1,b.cs.take (len*sz)++news,sz,false⟩)] (.sl id (ver+1) 0 (len+m)):=by
 intro C a hg ge gf _ K Q hK
 unfold aj at hs
 unfold bp at hz
 cases hi:P.info? e with
 |none=>rw[hi]at hz;cases hz
 |some inf=>
  rw[hi]at hz hs g7
  simp only[az6]at hz
  simp only[az5,aza]at hs g7
  subst hs;subst g7
  have hb':C.η id=some b:=(gf id (by simp)).trans hb
  have e1:=ge s (by simp[Op.operands,Call.operands])
  rw[hx]at e1
  obtain⟨ad,cap,e2,c1,c2,c3,c4⟩:=e1.sl_inv hb' hv hn
  have e3:=g9 C hg (fun i hi=>gf i (by simp[hi])) _ (ge x (by simp[Op.operands,Call.operands]))
  obtain⟨cs,t',g1,g2,g3,g4⟩:=hg.blk hb' hn
  have hU:C.U id:=hg.used hb'
  have h5:∀(r:Nat×Nat) (zz:Nat) (w':World) (v:Value),(Builtin.append_ #[t,t] ty #[a.eval s,a.eval x]).run P C.w=.ok v w'->ReplOk C id r zz ⟨ver+1,b.cs.take (len*inf.size)++news,inf.size,false⟩ w'->
   VR (C.repl id r zz ⟨ver+1,b.cs.take (len*inf.size)++news,inf.size,false⟩ w') (.sl id (ver+1) 0 (len+m)) v->(⟨d,.call {callee:=.builtin .append,args:=#[s,x],argTypes:=#[t,t]},ty,pos,af,g⟩:Oper).wp P a C.w K Q:=by
   intro r zz w' v hr h4 gj
   unfold Oper.wp
   rw[ku C.w hr]
   exact hK v (C.repl id r zz _ w') rfl (fun i=>by simp[Ctx.repl]) (qh hg h4) (qi hg h4) gj
  have g5:(b.cs.take (len*inf.size)).length=len*inf.size:=by simp;omega
  -- nothing is appended,or the slice has room
  have h2:∀(vals:List Value) (w':World),vals.length=news.length->(∀j (h:j<news.length) (h':j<vals.length),VR C news[j] vals[j])->w'=C.w.setCells (C.ρ id).1 ((C.ρ id).2+len*inf.size) vals->(C.ρ id).2+len*inf.size+news.length<=cs.size->
   ReplOk C id (C.ρ id) (C.sz id) ⟨ver+1,b.cs.take (len*inf.size)++news,inf.size,false⟩ w':=by
   intro vals w' g6 gk hw hc
   subst hw
   obtain⟨r1,r2,r3,r4⟩:=ek vals C.w (C.ρ id).1 ((C.ρ id).2+len*inf.size)
   refine⟨r1,r2,r3,by rw[r4];exact azm _,fun k _ hk=>fy _ _ _ _ _ hk,.inl ⟨b,hb',hn,rfl⟩,fun _=>⟨b,hb',by simp[hv]⟩,rfl,fun e=>absurd e gd,setR cs ((C.ρ id).2+len*inf.size) vals,t',mh _ _ _ _ _ _ g1,by rw[ji];exact g2,by rw[ji];simp[g5];omega,?_⟩
   intro j hj h8
   have gl:j<len*inf.size+news.length:=by simpa[g5]using hj
   have gg:(C.ρ id).2+j<cs.size:=by rw[ji]at h8;exact h8
   by_cases h6:j<len*inf.size
   ·have e4:(b.cs.take (len*inf.size)++news)[j]=b.cs[j]'(by omega):=by
     rw[List.getElem_append_left (by omega)];simp
    have e5:(setR cs ((C.ρ id).2+len*inf.size) vals)[(C.ρ id).2+j]'h8=cs[(C.ρ id).2+j]:=by
     have:=u5 vals cs ((C.ρ id).2+len*inf.size) ((C.ρ id).2+j) (by omega)
     rw[Array.getElem?_eq_getElem h8,Array.getElem?_eq_getElem gg]at this
     exact Option.some.inj this
    simp only[e4,e5]
    exact g4 j (by omega) gg
   ·obtain⟨q,rfl⟩:∃q,j=len*inf.size+q:=⟨j-len*inf.size,by omega⟩
    have hq:q<news.length:=by omega
    have e4:(b.cs.take (len*inf.size)++news)[len*inf.size+q]=news[q]:=by
     have:(b.cs.take (len*inf.size)++news)[len*inf.size+q]? =news[q]?:=by
      rw[List.getElem?_append_right (by omega)]
      congr 1
      omega
     rw[ay8 hj,ay8 hq]at this
     exact Option.some.inj this
    have e5:(setR cs ((C.ρ id).2+len*inf.size) vals)[(C.ρ id).2+(len*inf.size+q)]'h8=vals[q]'(by omega):=by
     have:=Aa vals cs ((C.ρ id).2+len*inf.size) q (by omega) (by omega)
     rw[Nat.add_assoc,Array.getElem?_eq_getElem h8,ay8 (by omega)]at this
     exact Option.some.inj this
    simp only[e4,e5]
    exact gk q hq (by omega)
  rcases e3 with⟨rfl,rfl,ad2,c',hd⟩|⟨ad2,c',vals,hd,v1,v2,v3⟩
  ·-- nothing
   have hr:=fd (P:=P) (ty:=ty) ht hi C.w (some ad) ad2 len cap c' c1
   rw[<-e2,<-hd]at hr
   have h4:=h2 [] C.w rfl (fun j h=>by simp at h) rfl (by simp;omega)
   refine h5 _ _ _ _ (by rw[e2]at hr ⊢;exact hr) h4 ?_
   have hh:(C.repl id (C.ρ id) (C.sz id) ⟨ver+1,b.cs.take (len*inf.size)++[],inf.size,false⟩ C.w).η id=some ⟨ver+1,b.cs.take (len*inf.size)++[],inf.size,false⟩:=aw _ _ _
   rcases c4 with⟨h0,gm⟩|⟨rfl,c4⟩
   ·subst h0;subst gm
    exact VR.slz hh rfl rfl
   ·have:=VR.sl (C:=C.repl id (C.ρ id) (C.sz id) ⟨ver+1,b.cs.take (len*inf.size)++[],inf.size,false⟩ C.w) (id:=id) (ver:=ver+1) (off:=0) (len:=len) (cap:=cap) hh rfl rfl c1 c2 c3 (by simp only[Ctx.repl,if_true];rw[<-g8];exact c4)
    simpa[Ctx.repl]using this
  ·have hl:∀u∈vals,u.oneCell'=true:=by
    intro u hu
    obtain⟨j,hj,rfl⟩:=azs hu
    exact(v3 j (by omega) hj).one (List.all_eq_true.1 h1 _ (ay7 _))
   have g6:vals.length=m*inf.size:=by omega
   have htot:(vals.length:Nat)=news.length:=v1
   by_cases h3:len+m<=cap
   ·by_cases hm:len=0/\cap=0
    ·-- nothing after all
     obtain⟨rfl,rfl⟩:=hm
     have gn:m=0:=by omega
     subst gn
     have go:news=[]:=az1 (by omega)
     subst go
     have hr:=fd (P:=P) (ty:=ty) ht hi C.w (some ad) (some ad2) 0 0 c' (azm _)
     rw[<-e2,<-hd]at hr
     have h4:=h2 [] C.w rfl (fun j h=>by simp at h) rfl (by simp;omega)
     refine h5 _ _ _ _ (by rw[e2]at hr ⊢;exact hr) h4 ?_
     exact VR.slz (b:=⟨ver+1,b.cs.take (0*inf.size)++[],inf.size,false⟩) (aw _ _ _) rfl rfl
    ·rcases c4 with h|⟨rfl,c4⟩
     ·exact absurd h hm
     have gb:(len+m)*inf.size<=cap*inf.size:=Nat.mul_le_mul_right _ h3
     rw[Nat.add_mul]at gb
     have hc:(C.ρ id).2+len*inf.size+news.length<=cs.size:=by rw[g8]at c4;omega
     have hr:=Bz (P:=P) (ty:=ty) ht hi C.w (C.ρ id).1 ((C.ρ id).2+0) len cap cs t' g1 ad2 m c' vals g6 v2 hl h3 (by omega)
     rw[<-e2,<-hd]at hr
     have h4:=h2 vals _ v1 v3 rfl hc
     refine h5 _ _ _ _ (by rw[Nat.add_zero]at hr;exact hr) h4 ?_
     have:=VR.sl (C:=C.repl id (C.ρ id) (C.sz id) ⟨ver+1,b.cs.take (len*inf.size)++news,inf.size,false⟩ (C.w.setCells (C.ρ id).1 ((C.ρ id).2+len*inf.size) vals)) (id:=id) (ver:=ver+1) (off:=0) (len:=len+m) (cap:=cap) (b:=⟨ver+1,b.cs.take (len*inf.size)++news,inf.size,false⟩) (aw _ _ _) rfl rfl h3 c2 h7
      (by simp only[Ctx.repl,if_true];rw[<-g8];exact c4)
     simpa[Ctx.repl]using this
   ·-- a new row
    obtain⟨f,hf⟩:=jv (n:=len*inf.size) (p:=fun j y=>C.w.cell? ⟨(C.ρ id).1,(C.ρ id).2+j,none⟩=some y/\∀h:j<b.cs.length,VR C b.cs[j] y) (fun j hj=>by
     obtain⟨y,hy,gp⟩:=hg.cell hb' hn (j:=j) (by omega)
     exact⟨y,hy,fun _=>gp⟩)
    have ho:∀(j:Nat) (u:Value),((List.range (len*inf.size)).map f)[j]? =some u->C.w.cell? (ad.add j)=some u:=by
     intro j u hj
     obtain⟨h6,he⟩:=az2.1 hj
     simp only[List.getElem_map,List.getElem_range]at he
     subst he
     have hp:j<len*inf.size:=by simpa using h6
     rcases c4 with⟨h0,_⟩|⟨rfl,_⟩
     ·subst h0;simp at hp
     ·rw[Addr.add_mid,Nat.add_zero]
      exact(hf j hp).1
    have h6:cap<len+m:=by omega
    have hr:=run_append_grow (P:=P) C.w t ty e inf z ht hi hz ad len cap ((List.range (len*inf.size)).map f) (by simp) ho ad2 m c' vals g6 v2 h6 (by omega) (growslice_fits h6 ga)
    rw[<-e2,<-hd]at hr
    have gh:=grownCap_ge C.w (len+m) cap e
    have gq:len+m<=maxLen:=by unfold maxLen;omega
    have gr:grownCap C.w (len+m) cap e<=maxLen:=grownCap_le_maxLen C.w (len+m) cap e gq
    generalize h9:(((List.range (len*inf.size)).map f).toArray++vals.toArray++Builtin.zeroCells z.cells (grownCap C.w (len+m) cap e-(len+m)))=nc at hr
    have g0:nc.size=grownCap C.w (len+m) cap e*inf.size:=by
     rw[<-h9]
     simp only[Array.size_append,List.size_toArray,aze,List.length_range,size_zeroCells,gi,g6,<-Nat.add_mul]
     congr 1
     omega
    have gc:∀j (h:j<(b.cs.take (len*inf.size)++news).length) (h':j<nc.size),VR C (b.cs.take (len*inf.size)++news)[j] nc[j]:=by
     intro j hj h8
     have gl:j<len*inf.size+news.length:=by simpa[g5]using hj
     have ha:nc[j]? =(((List.range (len*inf.size)).map f)++vals)[j]?:=by
      rw[<-h9,Array.getElem?_append_left (by simp;omega)]
      simp
     rw[Array.getElem?_eq_getElem h8]at ha
     by_cases h6:j<len*inf.size
     ·have e4:(b.cs.take (len*inf.size)++news)[j]=b.cs[j]'(by omega):=by
       rw[List.getElem_append_left (by omega)];simp
      rw[List.getElem?_append_left (by simpa using h6)]at ha
      simp only[List.getElem?_map,List.getElem?_range h6,az5,aza]at ha
      rw[e4,ha]
      exact(hf j h6).2 (by omega)
     ·obtain⟨q,rfl⟩:∃q,j=len*inf.size+q:=⟨j-len*inf.size,by omega⟩
      have hq:q<news.length:=by omega
      have e4:(b.cs.take (len*inf.size)++news)[len*inf.size+q]=news[q]:=by
       have:(b.cs.take (len*inf.size)++news)[len*inf.size+q]? =news[q]?:=by
        rw[List.getElem?_append_right (by omega)]
        congr 1
        omega
       rw[ay8 hj,ay8 hq]at this
       exact Option.some.inj this
      rw[List.getElem?_append_right (by simp)]at ha
      simp only[aze,List.length_range,Nat.add_sub_cancel_left]at ha
      rw[ay8 (by omega)]at ha
      rw[e4,Option.some.inj ha]
      exact v3 q hq (by omega)
    have gs:(C.w.drew.alloc (.cells nc e)).heap[C.w.heap.size]? =some (.cells nc e (0,0)):=heap_alloc_new C.w.drew _
    have h4:ReplOk C id (C.w.heap.size,0) nc.size ⟨ver+1,b.cs.take (len*inf.size)++news,inf.size,false⟩ (C.w.drew.alloc (.cells nc e)):=by
     refine⟨rfl,rfl,rfl,by simp,fun k hk _=>Below.heap_alloc C.w.drew _ k hk,.inr (azm _),fun _=>⟨b,hb',by simp[hv]⟩,rfl,fun e=>absurd e gd,nc,e,gs,rfl,?_,fun j h h'=>?_⟩
     ·rw[g0]
      have:(len+m)*inf.size<=grownCap C.w (len+m) cap e*inf.size:=Nat.mul_le_mul_right _ gh
      rw[Nat.add_mul]at this
      simp[g5];omega
     ·have:=gc j h (by simpa using h')
      simpa using this
    refine h5 _ _ _ _ hr h4 ?_
    have:=VR.sl (C:=C.repl id (C.w.heap.size,0) nc.size ⟨ver+1,b.cs.take (len*inf.size)++news,inf.size,false⟩ (C.w.drew.alloc (.cells nc e))) (id:=id) (ver:=ver+1) (off:=0) (len:=len+m) (cap:=grownCap C.w (len+m) cap e) (b:=⟨ver+1,b.cs.take (len*inf.size)++news,inf.size,false⟩) (aw _ _ _) rfl rfl gh gr h7
     (by simp[Ctx.repl,g0])
    simpa[Ctx.repl]using this
end
section
variable{P:Program}{τ:Nat->AV}{η:bm}{d:Option Tmp}{ty:TypeId}{pos:String}{af:Array Edge}{g:Option (Nat×Bool)}
theorem VR.slnil_inv{id:Nat}{x:Value}(h:VR C (.sl id ver 0 len) x)(hb:C.η id=some b)(hv:b.ver=ver)(hn:b.nilp=true):x=.slice none 0 0/\len=0/\b.cs=[]:=by
 cases h with
 |imm h=>cases h
 |sl hb' _ h0=>rw[hb]at hb';cases hb';rw[hn]at h0;cases h0
 |slz hb' _ h0=>rw[hb]at hb';cases hb';rw[hn]at h0;cases h0
 |slnil hb' _ hk=>rw[hb]at hb';cases hb';exact⟨rfl,rfl,(ab2 hk).2⟩
 |stales _ _ hs=>have:=hs b hb;omega
def Da{C:Ctx}(hg:Good C){t e sz by_:Nat}{inf:TypeInfo}{z:Value}{id w m:Nat}{news:List AV}{vals:List Value}{ad:Addr}{c:Nat}(ht:P.underlying t=some (.slice e))(hi:P.info? e=some inf)(hz:inf.zero=some z)(h8:z.cells.size=inf.size)
 (hm:0<m)(h5:vals.length=m*inf.size)(v1:vals.length=news.length)(v2:∀(j:Nat) (u:Value),vals[j]? =some u->C.w.cell? (ad.add j)=some u)(v3:∀j (h:j<news.length) (h':j<vals.length),VR C news[j] vals[j])
 (hmax:m*inf.bytes<=140737488355328)(h1:m<=140737488355328)(h3:C.U id->∃b0,C.η id=some b0/\b0.ver<w)(h9:w≠TV):
 ∃r zz w' v,(Builtin.append_ #[t,t] ty #[.slice none 0 0,.slice (some ad) m c]).run P C.w=.ok v w'/\ReplOk C id r zz ⟨w,news,inf.size,false⟩ w'/\VR (C.repl id r zz ⟨w,news,inf.size,false⟩ w') (.sl id w 0 m) v:=by
 have hr:=run_append_nil (P:=P) C.w t ty e inf z ht hi hz ad m c vals h5 v2 hm (by omega) (by omega)
 have h6:=grownCap_ge C.w m 0 e
 have ha:m<=maxLen:=by unfold maxLen;omega
 have hb:grownCap C.w m 0 e<=maxLen:=grownCap_le_maxLen C.w m 0 e ha
 generalize h0:(vals.toArray++Builtin.zeroCells z.cells (grownCap C.w m 0 e-m))=nc at hr
 have h2:nc.size=grownCap C.w m 0 e*inf.size:=by rw[<-h0];simp only[Array.size_append,List.size_toArray,size_zeroCells,h8,h5,<-Nat.add_mul];congr 1;omega
 have hle:m*inf.size<=grownCap C.w m 0 e*inf.size:=Nat.mul_le_mul_right _ h6
 have h4:∀j (h:j<news.length) (h':j<nc.size),VR C news[j] nc[j]:=by intro j hj hc;have h7:nc[j]? =vals[j]?:=(by rw[<-h0,Array.getElem?_append_left (by simp;omega)];simp);rw[Array.getElem?_eq_getElem hc,ay8 (by omega)]at h7;rw[Option.some.inj h7];exact v3 j hj (by omega)
 have hd:(C.w.drew.alloc (.cells nc e)).heap[C.w.heap.size]? =some (.cells nc e (0,0)):=heap_alloc_new C.w.drew _
 refine⟨(C.w.heap.size,0),nc.size,_,_,hr,⟨rfl,rfl,rfl,by simp,fun k hk _=>Below.heap_alloc C.w.drew _ k hk,.inr (azm _),h3,rfl,fun e=>absurd e h9,nc,e,hd,rfl,by rw[h2];simp;omega,fun j h h'=>by have:=h4 j h (by simpa using h');simpa using this⟩,?_⟩
 have:=VR.sl (C:=C.repl id (C.w.heap.size,0) nc.size ⟨w,news,inf.size,false⟩ (C.w.drew.alloc (.cells nc e))) (id:=id) (ver:=w) (off:=0) (len:=m) (cap:=grownCap C.w m 0 e) (b:=⟨w,news,inf.size,false⟩) (aw _ _ _) rfl rfl h6 hb h1
  (by simp[Ctx.repl,h2])
 simpa[Ctx.repl]using this
def LOp.append_of{t:Nat}{id:Nat}(hfid:True)
 (h:∀(C:Ctx) (a:Act),Good C->(∀q∈(Oper.mk d (.call {callee:=.builtin .append,args:=#[s,x],argTypes:=#[t,t]}) ty pos af g).op.operands,VR C (aev τ q) (a.eval q))->(∀id∈fp,C.η id=η id)->(id∉fp->¬C.U id)->
  ∃r zz w' v,(Builtin.append_ #[t,t] ty #[a.eval s,a.eval x]).run P C.w=.ok v w'/\ReplOk C id r zz ⟨w,news,sz,false⟩ w'/\VR (C.repl id r zz ⟨w,news,sz,false⟩ w') (.sl id w 0 m) v):
 LOp P ⟨d,.call {callee:=.builtin .append,args:=#[s,x],argTypes:=#[t,t]},ty,pos,af,g⟩ τ η fp [(id,some ⟨w,news,sz,false⟩)] (.sl id w 0 m):=by
 intro C a hg h2 h3 h0 K Q hK
 obtain⟨r,zz,w',v,hr,h1,h4⟩:=h C a hg h2 h3 (fun h=>h0 (id,some ⟨w,news,sz,false⟩) (by simp) h)
 unfold Oper.wp
 rw[ku C.w hr]
 exact hK v (C.repl id r zz _ w') rfl (fun i=>by simp[Ctx.repl]) (qh hg h1) (qi hg h1) h4
theorem ui{u t e by_:Nat}(ht:P.underlying t=some (.slice e))(hs:aj P e=some sz)(hz:bp P e=some z)(h2:(P.info? e).map (·.bytes)=some by_)(h7:z.cells.size=sz)
 (hx:aev τ s=.v (.slice none 0 0))(hu:u∉fp)(h3:Src η fp (aev τ x) m news)(hm:0<m)(hnl:news.length=m*sz)(h4:m*by_<=140737488355328)(h1:m<=140737488355328):
 LOp P ⟨d,.call {callee:=.builtin .append,args:=#[s,x],argTypes:=#[t,t]},ty,pos,af,g⟩ τ η fp [(u,some ⟨0,news,sz,false⟩)] (.sl u 0 0 m):=
 .append_of trivial fun C a hg h6 h8 h5=>by
  unfold aj at hs
  unfold bp at hz
  cases hi:P.info? e with
  |none=>rw[hi]at hz;cases hz
  |some inf=>
   rw[hi]at hz hs h2
   simp only[az6]at hz
   simp only[az5,aza]at hs h2
   subst hs;subst h2
   have e1:=h6 s (by simp[Op.operands,Call.operands])
   rw[hx]at e1
   rcases h3 C hg h8 _ (h6 x (by simp[Op.operands,Call.operands]))with⟨h0,_⟩|⟨ad,c,vals,h9,v1,v2,v3⟩
   ·omega
   ·rw[e1.v_inv,h9]
    exact Da (by_:=inf.bytes) (sz:=inf.size) hg ht hi hz h7 hm (by omega) v1 v2 v3 h4 h1 (fun h=>absurd h (h5 hu)) (by decide)
theorem Br{t e by_:Nat}{id:Nat}(ht:P.underlying t=some (.slice e))(hs:aj P e=some sz)(hz:bp P e=some z)(h8:(P.info? e).map (·.bytes)=some by_)(ha:z.cells.size=sz)
 (hx:aev τ s=.sl id ver 0 len)(hb:η id=some ⟨w,cs,sz,np⟩)(hv:w=ver)(h3:cs.length=len*sz)(h4:Src η fp (aev τ x) m news)(hm:0<m)(he:news.length=m*sz)(h1:news.all AV.one=true)
 (h5:(len+m)*by_<=140737488355328)(h2:len+m<=140737488355328)(hc:ver+1≠TV:=by decide):
 LOp P ⟨d,.call {callee:=.builtin .append,args:=#[s,x],argTypes:=#[t,t]},ty,pos,af,g⟩ τ η (id::fp) [(id,some ⟨ver+1,cs++news,sz,false⟩)] (.sl id (ver+1) 0 (len+m)):=by
 cases np with
 |false=>
  have:=LOp.append (P:=P) (τ:=τ) (η:=η) (d:=d) (ty:=ty) (pos:=pos) (af:=af) (g:=g) (x:=x) ht hs hz h8 ha hx hb hv rfl rfl (Nat.le_of_eq h3.symm) h4 he h1 h5 h2 hc
  rw[<-h3,List.take_length]at this
  exact this
 |true=>
  intro C a hg h6 h7 h9 K Q hK
  have hb':C.η id=some ⟨w,cs,sz,true⟩:=(h7 id (by simp)).trans hb
  have e1:=h6 s (by simp[Op.operands,Call.operands])
  rw[hx]at e1
  obtain⟨e2,rfl,hd⟩:=e1.slnil_inv hb' hv rfl
  simp only at hd
  subst hd
  refine LOp.append_of (P:=P) (τ:=τ) (η:=η) (d:=d) (ty:=ty) (pos:=pos) (af:=af) (g:=g) (t:=t) (sz:=sz) (s:=s) (x:=x) (news:=[]++news) (fp:=id::fp) (id:=id) (w:=ver+1) (m:=0+m) trivial (fun C a hg h6 h7 _=>?_) C a hg h6 h7 h9 K Q hK
  have hb':C.η id=some ⟨w,[],sz,true⟩:=(h7 id (by simp)).trans hb
  have e1:=h6 s (by simp[Op.operands,Call.operands])
  rw[hx]at e1
  obtain⟨e2,_,_⟩:=e1.slnil_inv hb' hv rfl
  unfold aj at hs
  unfold bp at hz
  cases hi:P.info? e with
  |none=>rw[hi]at hz;cases hz
  |some inf=>
   rw[hi]at hz hs h8
   simp only[az6]at hz
   simp only[az5,aza]at hs h8
   subst hs;subst h8
   rcases h4 C hg (fun i hi=>h7 i (by simp[hi])) _ (h6 x (by simp[Op.operands,Call.operands]))with⟨h0,_⟩|⟨ad,c,vals,hf,v1,v2,v3⟩
   ·omega
   ·rw[e2,hf]
    simp only[List.nil_append,Nat.zero_add]at*
    exact Da (by_:=inf.bytes) (sz:=inf.size) hg ht hi hz ha hm (by omega) v1 v2 v3 h5 h2 (fun _=>⟨_,hb',by simp[hv]⟩) hc
end
def SRel.lazy{s:St}(h:SRel N C s a)(z:Nat)(ht:Nat.ble (s.u+1) TOP=true):∃C',C'.w=C.w/\Fr C C'/\Good C'/\(∀{v x},VR C v x->VR C' v x)/\VR C' (.sl s.u 0 0 0) (.slice none 0 0)/\C'.η=s.η.set s.u (some ⟨0,[],z,true⟩)/\(∀id,C'.U id->id<s.u+1\/TOP<=id)/\C'.ρ=C.ρ/\C'.sz=C.sz/\C'.T=C.T:=by
 have h8:¬C.U s.u:=fun hu=>by have:=h.u _ hu;have:=azo ht;omega
 let C':Ctx:={C with η:=C.η.set s.u (some ⟨0,[],z,true⟩),U:=fun i=>C.U i\/i=s.u}
 have hl:∀{i b'},C'.η i=some b'->(i=s.u/\b'=⟨0,[],z,true⟩)\/(i≠s.u/\C.η i=some b'):=by
  intro i b' hb';by_cases e:i=s.u;subst e;have:=hb';simp only[C']at this;rw[aw]at this;cases this;exact .inl ⟨rfl,rfl⟩
  have:=hb';simp only[C']at this;rw[az _ _ e]at this;exact .inr ⟨e,this⟩
 have h0:∀{i},C'.live i->C.live i:=by
  rintro i ⟨b',hb',h4⟩;rcases hl hb' with⟨_,rfl⟩|⟨_,hb'⟩;exact absurd rfl h4;exact⟨b',hb',h4⟩
 have h5:∀{k},C'.mine k->C.mine k:=fun⟨i,h1,h2⟩=>⟨i,h0 h1,h2⟩
 have he:Ev C C':=by
  refine⟨⟨rfl,rfl,rfl,azm _,fun _ _ _=>rfl,fun k hk=>.inl (h5 hk),fun _ h=>h,fun _ h=>.inl h⟩,fun _ h=>.inl h,fun i b' h6 hb'=>?_⟩;rcases hl hb' with⟨rfl,_⟩|⟨_,hb'⟩;exact absurd h6 h8;exact⟨b',hb',azm _,fun _=>⟨rfl,rfl,rfl,rfl⟩⟩
 have h7:∀{v x},VR C v x->VR C' v x:=fun hv=>hv.mono h.good he
 have h9:Good C':=by
  refine⟨?_,?_,?_,fun h1 h2 h3=>h.good.inj (h0 h1) (h0 h2) h3,h.good.tok,fun hk=>h.good.apart (h5 hk),fun hb' ha h4=>?_⟩;intro i b' hb';rcases hl hb' with⟨rfl,_⟩|⟨_,hb'⟩;exact .inr rfl;exact .inl (h.good.used hb');intro i b' hb' h4;rcases hl hb' with⟨_,rfl⟩|⟨_,hb'⟩;cases h4;obtain⟨ob,h1,h2⟩:=h.good.obj hb' h4;exact⟨ob,h1,h2.mono h.good he⟩;intro i b' hb' h4;rcases hl hb' with⟨_,rfl⟩|⟨_,hb'⟩;cases h4;obtain⟨c,t',g1,g2,g3,g4⟩:=h.good.blk hb' h4;exact⟨c,t',g1,g2,g3,fun j hj hb=>h7 (g4 j hj hb)⟩;rcases hl hb' with⟨_,rfl⟩|⟨_,hb'⟩;cases h4;exact h.good.tight hb' ha h4
 refine⟨C',rfl,he.toFr,h9,h7,.slnil (b:=⟨0,[],z,true⟩) (aw _ _ _) rfl rfl,by simp only[C',h.η],fun id h6=>?_,rfl,rfl,rfl⟩;rcases h6 with h1|h1;have:=h.u id h1
 omega;omega
section
variable{P:Program}{N:Nat}{Q:Exit->St->Prop}{τ:Nat->AV}{η:bm}{u:Nat}
theorem bl(t z:Nat)(h:τ t=.v (.slice none 0 0))(u':Nat)(hu:(Nat.beq u' (u+1)&&Nat.ble u' TOP)=true)(hc:AWP P N c Q ⟨upd τ t (.sl u 0 0 0),η.set u (some ⟨0,[],z,true⟩),u'⟩):AWP P N c Q ⟨τ,η,u⟩:=by
 obtain⟨rfl,ht⟩:=S2 hu
 intro C a hr
 obtain⟨C',hw,hf,hg,hv,h0,hη,hU,_⟩:=hr.lazy z ht
 have h5:SRel N C' ⟨upd τ t (.sl u 0 0 0),η.set u (some ⟨0,[],z,true⟩),u+1⟩ a:=by
  refine⟨hg,hη,hU,hr.defers,hr.size,fun q=>?_⟩
  by_cases e:q=t
  ·subst e
   have e1:upd τ q (.sl u 0 0 0) q=.sl u 0 0 0:=by simp[upd]
   have e2:=hr.τ q
   simp only at e2
   rw[h]at e2
   show VR C' (upd τ q (.sl u 0 0 0) q) _
   rw[e1,e2.v_inv];exact h0
  ·have e1:upd τ t (.sl u 0 0 0) q=τ q:=by
    have:Nat.beq q t=false:=by
     cases hb:Nat.beq q t with
     |false=>rfl
     |true=>exact absurd (ay9 hb) e
    simp[upd,this]
   show VR C' (upd τ t (.sl u 0 0 0) q) _
   rw[e1];exact hv (hr.τ q)
 have:=hc C' a h5
 rw[hw]at this
 exact Code.wp_mono (fun e a' w' ⟨s',C'',h1,h2,h3,h4⟩=>⟨s',C'',h1,h2,h3,hf.trans h4⟩) this
def cn(id j z:Nat)(h:η id=some ⟨w,cs,ez,np⟩)(hn:np=false)(hj:cs[j]? =some (.v (.slice none 0 0)))(hd:u9 j cs [.sl u 0 0 0]=some ds)(hm:qo u id=true)(u':Nat)(hu:(Nat.beq u' (u+1)&&Nat.ble u' TOP)=true)
 (hc:AWP P N c Q ⟨τ,(η.set u (some ⟨0,[],z,true⟩)).set id (some ⟨w,ds,ez,np⟩),u'⟩):AWP P N c Q ⟨τ,η,u⟩:=by
 obtain⟨rfl,ht⟩:=S2 hu
 subst hn
 intro C a hr
 obtain⟨C',hw,hf,hg,hv,h9,hη,hU,hρ,hsz,hT⟩:=hr.lazy z ht
 have ha:id≠u:=by have:=ao6.1 hm;have:=azo ht;omega
 have hb:C.η id=some ⟨w,cs,ez,false⟩:=by rw[hr.η];exact h
 have hb':C'.η id=some ⟨w,cs,ez,false⟩:=by rw[hη,az _ _ ha];exact h
 obtain⟨p1,p2⟩:=u7 _ _ _ _ hd
 have hjl:j<cs.length:=by simp only[azu,azv]at p1;omega
 have hp:ds.length=cs.length:=by rw[p2];exact fc p1
 have hq:∀i (hi:i<ds.length) (h8:i<cs.length),ds[i]=if i=j then .sl u 0 0 0 else cs[i]:=by
  intro i hi h8
  have:ds[i]? =if i=j then some (.sl u 0 0 0)else cs[i]?:=by
   rw[p2];simp only[bn,azu,azv];by_cases e:i=j;subst e;rw[azg rfl,List.getElem?_append_left (by simp;omega),List.getElem?_append_right (by simp;omega)];have:i-(cs.take i).length=0:=by simp;omega
   rw[this];rfl;rw[azf e];by_cases hs:i<j;rw[List.getElem?_append_left (by simp;omega),List.getElem?_append_left (by simp;omega),List.getElem?_take_of_lt hs];rw[List.getElem?_append_right (by simp;omega),List.getElem?_drop];congr 1;simp;omega
  rw[ay8 hi]at this;by_cases e:i=j;rw[azg e]at this ⊢;exact Option.some.inj this;rw[azf e,ay8 h8]at this;rw[azf e];exact Option.some.inj this
 let C2:Ctx:={C' with η:=C'.η.set id (some ⟨w,ds,ez,false⟩)}
 have hl:∀{i b'},C2.η i=some b'->(i=id/\b'=⟨w,ds,ez,false⟩)\/(i≠id/\C'.η i=some b'):=by
  intro i b' hb';by_cases e:i=id;subst e;have:=hb';simp only[C2]at this;rw[aw]at this;cases this;exact .inl ⟨rfl,rfl⟩
  have:=hb';simp only[C2]at this;rw[az _ _ e]at this;exact .inr ⟨e,this⟩
 have h5:∀{i},C2.live i->C'.live i:=by rintro i ⟨b',h0,h6⟩;rcases hl h0 with⟨rfl,rfl⟩|⟨_,h0⟩;exact⟨_,hb',fh rfl⟩;exact⟨b',h0,h6⟩
 have h7:∀{k},C2.mine k->C'.mine k:=fun⟨i,h1,h2⟩=>⟨i,h5 h1,h2⟩
 have he:Ev C' C2:=by refine⟨⟨rfl,rfl,rfl,azm _,fun _ _ _=>rfl,fun k hk=>.inl (h7 hk),fun _ h=>h,fun _ h=>.inl h⟩,fun _ h=>h,fun i b' hm h0=>?_⟩;rcases hl h0 with⟨rfl,rfl⟩|⟨_,h0⟩;exact⟨_,hb',azm _,fun _=>⟨rfl,rfl,rfl,rfl⟩⟩;exact⟨b',h0,azm _,fun _=>⟨rfl,rfl,rfl,rfl⟩⟩
 have hx:Good C2:=by refine⟨?_,?_,?_,fun h1 h2 h3=>hg.inj (h5 h1) (h5 h2) h3,hg.tok,fun hk=>hg.apart (h7 hk),fun h0 ho h6=>?_⟩;intro i b' h0;rcases hl h0 with⟨rfl,_⟩|⟨_,h0⟩;exact hg.used hb';exact hg.used h0;intro i b' h0 h6;rcases hl h0 with⟨_,rfl⟩|⟨_,h0⟩;cases h6;obtain⟨ob,h1,h2⟩:=hg.obj h0 h6;exact⟨ob,h1,h2.mono hg he⟩;intro i b' h0 h6;rcases hl h0 with⟨rfl,rfl⟩|⟨_,h0⟩;obtain⟨c,t',g1,g2,g3,g4⟩:=hg.blk hb' rfl;refine⟨c,t',g1,g2,by show(C'.ρ i).2+ds.length<=c.size;simp only at g3;omega,fun i' hi h8=>?_⟩;have hh:i'<cs.length:=(by simp only at hi;omega);have:=g4 i' hh h8;simp only at this ⊢;rw[hq i' hi hh];split;rename_i e;subst e;have e2:cs[i']=.v (.slice none 0 0):=(by rw[ay8 hh]at hj;exact Option.some.inj hj);rw[e2]at this;have e3:=this.v_inv;have e4:c[(C2.ρ i).2+i']'h8=.slice none 0 0:=e3;rw[e4];exact h9.mono hg he;exact this.mono hg he;obtain⟨c,t',g1,g2,g3,g4⟩:=hg.blk h0 h6;exact⟨c,t',g1,g2,g3,fun j hj hy=>(g4 j hj hy).mono hg he⟩;rcases hl h0 with⟨rfl,rfl⟩|⟨_,h0⟩;have:=hg.tight hb' ho rfl;simp only at this ⊢;show C'.sz _=(C'.ρ _).2+ds.length;rw[hp];exact this;exact hg.tight h0 ho h6
 have hz:SRel N C2 ⟨τ,(η.set u (some ⟨0,[],z,true⟩)).set id (some ⟨w,ds,ez,false⟩),u+1⟩ a:=
  ⟨hx,by simp only[C2,hη],hU,hr.defers,hr.size,fun q=>(hv (hr.τ q)).mono hg he⟩
 have:=hc C2 a hz
 rw[show C2.w=C.w from hw]at this
 exact Code.wp_mono (fun e a' w' ⟨s',C'',h1,h2,h3,h4⟩=>⟨s',C'',h1,h2,h3,(hf.trans he.toFr).trans h4⟩) this
end
section
variable{P:Program}{τ:Nat->AV}{η:bm}{d:Option Tmp}{ty:TypeId}{pos:String}{af:Array Edge}{g:Option (Nat×Bool)}
def Ctx.given(C:Ctx)(fp:List Nat)(T':Nat->Prop)(w':World):Ctx:={C with η:=C.η.put (fp.map fun id=>(id,none)),T:=T',w:=w'}
theorem Dy(η:bm):∀(fp:List Nat) (id:Nat),(η.put (fp.map fun id=>(id,none))) id=if id∈fp then none else η id:=by
 intro fp id
 rw[Lv]
 have:∀fp:List Nat,j7 (fp.map fun id=>((id,none):Nat×Option Blk)) id=if id∈fp then some none else none:=by
  intro fp
  induction fp with
  |nil=>rfl
  |cons a r ih=>
   simp only[azw,j7,ih,azz]
   by_cases h:id∈r
   ·simp[h]
   ·by_cases e:a=id
    ·subst e;simp[h]
    ·have e':¬id=a:=fun h=>e h.symm
     simp[h,e,e']
 rw[this fp]
 by_cases h:id∈fp<;>simp[h]
def iz{f:FuncId}{xs:Array Operand}{ats:Array TypeId}{args:List AV}(fp:List Nat)(hb:cw P f=true)(hl:xs.size=args.length)(hf:∀i (h:i<xs.size) (h':i<args.length),FzP fp η (aev τ xs[i]) args[i])(h5:∀id∈fp,(η id).isSome=true)(hc:qe P f args ret):
 LOp P ⟨d,.call {callee:=.value (.func f),args:=xs,argTypes:=ats},ty,pos,af,g⟩ τ η fp (fp.map fun id=>(id,none)) ret:=by
 intro C a hg hh he _ K Q hK
 have h6:TRs (fun b=>C.T b\/C.mineOf fp b) C.w args (xs.map a.eval):=⟨by simp;omega,fun i h h'=>by simp only[Array.getElem_map];have h'':i<xs.size:=(by simpa using h');exact hf i h'' h C hg he _ (hh _ (by simp[Op.operands,Call.operands]))⟩
 have ha:(execOp a.eval ⟨d,.call {callee:=.value (.func f),args:=xs,argTypes:=ats},ty,pos,af,g⟩).run P C.w=.ok (.enter f (xs.map a.eval)) C.w:=by have:execOp a.eval ⟨d,.call {callee:=.value (.func f),args:=xs,argTypes:=ats},ty,pos,af,g⟩=callFunc f (#[]++xs.map a.eval++#[]):=rfl;rw[this,fu hb];simp
 unfold Oper.wp
 rw[ha]
 refine Calls.mono (hc (fun b=>C.T b\/C.mineOf fp b) C.w _ h6 (hg.tokT (fun _ h=>.inl h) (fun b hb=>hb.elim (fun h=>hg.tlt h) (fun h=>fv hg (bt h))))) ?_
 rintro e w' ⟨x,T',rfl,hx,t1,t2,t3,h0⟩
 have hl:∀{i b'},(C.given fp T' w').η i=some b'->i∉fp/\C.η i=some b':=by intro i b' hb';have:=hb';simp only[Ctx.given]at this;rw[Dy]at this;by_cases e:i∈fp;rw[azg e]at this;cases this;rw[azf e]at this;exact⟨e,this⟩
 have h4:∀{i},(C.given fp T' w').live i->i∉fp/\C.live i:=fun⟨b',h1,h2⟩=>⟨(hl h1).1,b',(hl h1).2,h2⟩
 have h7:∀{k},(C.given fp T' w').mine k->C.mine k:=fun⟨i,h1,h2⟩=>⟨i,(h4 h1).2,h2⟩
 have h9:Ev C (C.given fp T' w'):=by refine⟨⟨h0.os,h0.tape,h0.output,h0.size,fun k hk _=>h0.block k hk,fun k hk=>.inl (h7 hk),fun k hk=>t1 k (.inl hk),fun k hk=>?_⟩,fun _ h=>h,fun i b' _ hb'=>⟨b',(hl hb').2,azm _,fun _=>⟨rfl,rfl,rfl,rfl⟩⟩⟩;rcases t2 k hk with(h|h)|h;exact .inl h;exact .inr (.inl (bt h));exact .inr (.inr h)
 have h8:Good (C.given fp T' w'):=by refine⟨fun hb'=>hg.used (hl hb').2,fun{i b'} hb' hn=>by obtain⟨ob,g1,g2⟩:=hg.obj (hl hb').2 hn;exact⟨ob,(h0.block _ (Array.getElem?_eq_some_iff.1 g1).1).trans g1,g2.mono hg h9⟩,by intro i b' hb' hn;obtain⟨c,t',g1,g2,g3,g4⟩:=hg.blk (hl hb').2 hn;exact⟨c,t',(h0.block _ (Array.getElem?_eq_some_iff.1 g1).1).trans g1,g2,g3,fun j hj hm=>(g4 j hj hm).mono hg h9⟩,fun h1 h2 h3=>hg.inj (h4 h1).2 (h4 h2).2 h3,hg.tokE h9.toFr0 t3,?_,fun hb' hv hn=>hg.tight (hl hb').2 hv hn⟩;rintro k ⟨i,h1,rfl⟩ hT;obtain⟨ho,hd⟩:=h4 h1;rcases t2 _ hT with(h|⟨i',hp,hl',e⟩)|h;exact hg.apart ⟨i,hd,rfl⟩ h;have:=hg.inj hl' hd e;subst this;exact ho hp;have:=fv hg ⟨i,hd,rfl⟩;have h':C.w.heap.size<=(C.ρ i).1:=h;omega
 refine hK x (C.given fp T' w') rfl (fun id=>?_) h8 h9 (.imm hx)
 simp only[Ctx.given,List.map_map,azy,Function.comp]
 constructor
 ·exact fun h=>.inl h
 ·rintro(h|⟨i,hi,rfl⟩)
  ·exact h
  ·have h1:=h5 i hi
   rw[<-he i hi]at h1
   obtain⟨b,hb⟩:=Option.isSome_iff_exists.1 h1
   exact hg.used hb
theorem LOp.extract{i:Nat}(hx:aev τ x=.tup cs)(hv:cs[i]? =some v):LOp P ⟨d,.extract x i,ty,pos,af,g⟩ τ η [] [] v:=
 .look [] fun C a _ h4 _=>by have h1:=h4 x (by simp[Op.operands]);rw[hx]at h1;obtain⟨vs,e,h2,h3⟩:=h1.tup_inv;obtain⟨h5,he⟩:=az2.1 hv;have h0:i<vs.size:=(by omega);refine⟨vs[i],?_,by rw[<-he];exact h3 i h5 h0⟩;simp[execOp,e,Instr.extract,h0]
end
section
variable{P:Program}{N:Nat}{ops:Array Oper}{l:List Oper}{K:St->Prop}{KD:List Rec->St->Prop}{τ:Nat->AV}{η:bm}{u:Nat}{op:Op}{ty:TypeId}{pos:String}{af:Array Edge}{g:Option (Nat×Bool)}
def Ff{d:Nat}{δ:List (Nat×Option Blk)}(hL:LOp P ⟨some d,op,ty,pos,af,g⟩ τ η fp δ v)(hw:By ops τ ⟨some d,op,ty,pos,af,g⟩=some true)(hd:qc N ops ⟨some d,op,ty,pos,af,g⟩=true)(u':Nat)(hu:Nat.ble u u'=true)(hn:D4 fp δ u u'=true)
 (h:Fm P N ops l K ⟨upd τ d v,η.put δ,u'⟩):Fm P N ops (⟨some d,op,ty,pos,af,g⟩::l) K ⟨τ,η,u⟩:=
 Fm.op (s:=⟨τ,η,u⟩) u' hL hw hd hu hn h
end
section
variable{P:Program}{τ:Nat->AV}{η:bm}{d:Option Tmp}{ty:TypeId}{pos:String}{af:Array Edge}{g:Option (Nat×Bool)}
theorem Bq{t e:Nat}(ht:P.underlying t=some (.slice e))(hs:aj P e=some sz)(hx:aev τ s=.v (.slice none 0 0))(h0:Src η fp (aev τ x) 0 news)(hn:news=[]):
 LOp P ⟨d,.call {callee:=.builtin .append,args:=#[s,x],argTypes:=#[t,t]},ty,pos,af,g⟩ τ η fp [] (.v (.slice none 0 0)):=
 .look fp fun C a hg h2 h3=>by
  unfold aj at hs
  cases hi:P.info? e with
  |none=>rw[hi]at hs;cases hs
  |some inf=>
   have e1:=h2 s (by simp[Op.operands,Call.operands])
   rw[hx]at e1
   have e0:=e1.v_inv
   rcases h0 C hg h3 _ (h2 x (by simp[Op.operands,Call.operands]))with⟨_,_,ad,c,h1⟩|⟨ad,c,vals,h1,_⟩
   ·refine⟨.slice none 0 0,ku C.w ?_,VR.v C _⟩
    rw[e0,h1]
    exact fd (P:=P) (ty:=ty) ht hi C.w none ad 0 0 c (azm _)
   ·refine⟨.slice none 0 0,ku C.w ?_,VR.v C _⟩
    rw[e0,h1]
    exact fd (P:=P) (ty:=ty) ht hi C.w none (some ad) 0 0 c (azm _)
def nk{η:bm}{f:α->List AV}{l:List α}(hm:l.length=m):Src η [] (.tree n (l.map f)) m (l.map f).flatten:=by grind[Src.tree,aze]
def N9{P:Program}(hu:P.underlying t=some .bool)(p q:Bool)(n:Nat)(w:World):(Op.equalIn (n+1) t (.bool p) (.bool q)).run P w=.ok (p==q) w:=by simp only[Op.equalIn,Sem.run_bind,run_underlying hu,azq,azr]
theorem Af{P:Program}(hu:P.underlying t=some .bool)(p q:Bool)(w:World):(Op.equal t (.bool p) (.bool q)).run P w=.ok (p==q) w:=N9 hu p q 9999 w
def ak0{t t':Nat}{y:Operand}{p q:Bool}(hx:aev τ x=.v (.bool p))(hy:aev τ y=.v (.bool q))(hu:P.underlying t=some .bool):
 LOp P ⟨d,.binOp .eql t x y t',ty,pos,af,g⟩ τ η [] [] (.v (.bool (p==q))):=
 .look [] fun C a _ h0 _=>by have e1:=h0 x (by simp[Op.operands]);have e2:=h0 y (by simp[Op.operands]);rw[hx]at e1;rw[hy]at e2;refine⟨.bool (p==q),?_,VR.v C _⟩;have h:(binOp .eql t (.bool p) (.bool q)).run P C.w=.ok (.bool (p==q)) C.w:=(by show((do pure (.bool (<-Op.equal t (.bool p) (.bool q))):Sem Value)).run P C.w=_;simp only[Sem.run_bind,Af hu,azq,azr]);have h2:(eqGuard .eql t x y (.bool p) (.bool q))=pure ():=rfl;simp only[execOp,e1.v_inv,e2.v_inv,h2,Sem.run_bind,azr,azq,h]
def akz{t t':Nat}{y:Operand}{p q:Bool}(hx:aev τ x=.v (.bool p))(hy:aev τ y=.v (.bool q))(hu:P.underlying t=some .bool):
 LOp P ⟨d,.binOp .neq t x y t',ty,pos,af,g⟩ τ η [] [] (.v (.bool (!(p==q)))):=
 .look [] fun C a _ h0 _=>by have e1:=h0 x (by simp[Op.operands]);have e2:=h0 y (by simp[Op.operands]);rw[hx]at e1;rw[hy]at e2;refine⟨.bool (!(p==q)),?_,VR.v C _⟩;have h:(binOp .neq t (.bool p) (.bool q)).run P C.w=.ok (.bool (!(p==q))) C.w:=(by show((do pure (.bool (!(<-Op.equal t (.bool p) (.bool q)))):Sem Value)).run P C.w=_;simp only[Sem.run_bind,Af hu,azq,azr]);have h2:(eqGuard .neq t x y (.bool p) (.bool q))=pure ():=rfl;simp only[execOp,e1.v_inv,e2.v_inv,h2,Sem.run_bind,azr,azq,h]
def ba{η:bm}{id:Nat}{f:α->List AV}{l:List α}(h1:id∈fp)(hb:η id=some ⟨w,cs,ez,np⟩)(hv:w=ver)(hn:np=false)(hz:ez=n)(h2:cs=(l.map f).flatten)(hl:l.length=len)(hf:∀a∈l,(f a).length=n/\bz (f a)=true):
 FzP fp η (.sl id ver 0 len) (.tree n (l.map f)):=by
 subst hz;subst hn;subst hv;subst h2
 have h0:∀k (h:k<(l.map f).length),(l.map f)[k].length=ez:=fun k h=>by simp;exact(hf _ (ay7 _)).1
 refine FzP.sl (b:=⟨w,(l.map f).flatten,ez,false⟩) h1 hb rfl rfl (by simpa using hl) h0 (fun k h j h'=>?_)
 have hj:j<ez:=by rw[h0 k h]at h';exact h'
 have h3:k*ez+j<(l.map f).length*ez:=by have:(k+1)*ez<=(l.map f).length*ez:=Nat.mul_le_mul_right _ h;rw[Nat.add_mul]at this;omega
 obtain⟨g1,g2,g3,g4⟩:=js (l.map f) h0 (k*ez+j) h3
 have h4:0<ez:=by omega
 have e1:(k*ez+j)/ez=k:=by rw[Nat.mul_comm,Nat.mul_add_div h4,Nat.div_eq_of_lt hj,Nat.add_zero]
 have e2:(k*ez+j)%ez=j:=by rw[Nat.mul_comm,Nat.mul_add_mod,Nat.mod_eq_of_lt hj]
 refine⟨(l.map f)[k][j],?_,FzP.pure ?_⟩
 ·rw[Nat.zero_add,ay8 g3,g4]
  simp only[e1,e2]
 ·have:=(hf (l[k]'(by simpa using h)) (ay7 _)).2
  exact n9 (by simpa using this) j h'
end
set_option linter.unusedVariables false
set_option linter.unusedSimpArgs false
open Go.RowKit
def Fm.up{l:List Oper}{K:St->Prop}{η:bm}{u u':Nat}(hu:u<=u')(h:Fm P N ops l K ⟨τ,η,u'⟩):Fm P N ops l K ⟨τ,η,u⟩:=
 fun C a Q hr hK=>h C a Q ⟨hr.good,hr.η,fun id h0=>(hr.u id h0).imp (fun h=>Nat.lt_of_lt_of_le h hu) (fun h=>h),hr.defers,hr.size,hr.τ⟩ hK
theorem Ks :∀{l:List Oper} {s s':St} {rs:List Rec} {K:St->Prop},Seq P N ops l s rs s'->K s'->Fm P N ops l K s:=by
 intro l s s' rs K h hk
 induction h with
 |nil=>exact oN hk
 |cons hf _ ih=>
  rename_i o l s s' r rs _
  obtain⟨hd,hu,h|h⟩:=hf
  ·exact Fm.op r.u h.2.1 h.1 hd (by rw[Nat.ble_eq];exact hu) h.2.2 (ih hk)
  ·obtain⟨hw,h1,h2,h3⟩:=h
   refine Fm.skip hw hd ?_
   have:=ih hk
   unfold F3 at this
   rw[h1,h2]at this
   exact Fm.up hu this
def fa{α:Type}(p:Program):Sem α->Option α
 |.pure a=>some a
 |.program k=>fa p (k p)
 |.mark _ k=>fa p k
 |.choose q k=>bif q.forced then fa p (k 0)else none
 |_=>none
theorem u6{p:Program}:∀(s:Sem α) (a:α),fa p s=some a->∀w,s.run p w=.ok a w:=by
 intro s
 induction s with
 |pure b=>intro a h w;simp only[fa,aza]at h;subst h;rfl
 |program k ih=>intro a h w;exact ih p a h w
 |mark m k ih=>intro a h w;exact ih a h w
 |choose q k ih=>
  intro a h w
  simp only[fa]at h
  cases hq:q.forced with
  |false=>rw[hq]at h;simp only[cond_false]at h;cases h
  |true=>
   rw[hq]at h
   simp only[cond_true]at h
   simp only[Sem.run,hq,if_true]
   exact ih 0 a h w
 |_=>intro a h w;simp[fa]at h
def FzP.ptr{η:bm}{id:Nat}(h0:id∈fp)(hb:η id=some b)(hv:b.ver=ver)(hn:b.nilp=false)(hl:ds.length=b.cs.length)
 (hc:∀j (h:j<b.cs.length) (h':j<ds.length),FzP fp η b.cs[j] ds[j]):FzP fp η (.ptr id ver o) (.tp ds o):=fun C hg hη x hx=>by
 have hb':C.η id=some b:=(hη id h0).trans hb
 rw[hx.ptr_inv hb' hv]
 obtain⟨f,hf⟩:=jv (n:=ds.length) (p:=fun j y=>C.w.cell? ⟨(C.ρ id).1,(C.ρ id).2+j,none⟩=some y/\∀(h:j<ds.length),TR (fun b=>C.T b\/C.mineOf fp b) C.w ds[j] y) (fun j hj=>by obtain⟨y,hy,h1⟩:=hg.cell hb' hn (j:=j) (by omega);exact⟨y,hy,fun h=>hc j (by omega) h C hg hη y h1⟩)
 exact .tp f (.inr ⟨id,h0,⟨b,hb',fh hn⟩,rfl⟩) (fun j hj=>(hf j hj).1) (fun j hj=>(hf j hj).2 hj)
def xb(η:bm)(id ver:Nat):Option Blk:=match η id with
 |some b=>bif Nat.beq b.ver ver&&!b.nilp then some b else none
 |none=>none
def oa{η:bm}{id:Nat}(h:xb η id ver=some b):η id=some b/\b.ver=ver/\b.nilp=false:=by grind[xb,Nat.beq,aza,ay9]
def Om(tmps:Array Value):ResultVar->Sem Value
 |.tmp t=>pure (tmps.getD t undef)
 |.cell a t=>do loadVar t (<-asAddr (tmps.getD a undef))
def afe(P:Program)(N:Nat)(s:St)(r:ResultVar)(ret:AV):Prop:=
 ∀C a,SRel N C s a->∃x,(Om a.tmps r).run P C.w=.ok x C.w/\TR (fun b=>C.T b\/C.mine b) C.w ret x
theorem I7(fn:Func)(r:ResultVar)(hr:fn.results=#[r])(tmps:Array Value)(P:Program)(w:World):(results fn tmps).run P w=(Om tmps r).run P w:=by
 unfold results
 rw[hr]
 cases r with
 |tmp t=>simp[Om]
 |cell a t=>
  simp only[Om]
  simp[Sem.run_bind,Result.andThen]
def yb{s:St}{r:ResultVar}(hr:fn.results=#[r])(h:P8 P N fn s ret):afe P N s r ret:=by intro C a hs;obtain⟨x,h1,h2⟩:=h C a hs;rw[I7 fn r hr]at h1;exact⟨x,h1,h2⟩
theorem dh{s:St}{r1 r2:ResultVar}{v1 v2:AV}(hr:fn.results=#[r1,r2])(h1:afe P N s r1 v1)(h2:afe P N s r2 v2):P8 P N fn s (.tup [v1,v2]):=by
 intro C a hs;obtain⟨x,e1,t1⟩:=h1 C a hs;obtain⟨y,e2,t2⟩:=h2 C a hs;refine⟨.tuple #[x,y],?_,.tup rfl (fun i hi hi'=>?_)⟩;have hh:results fn a.tmps=(do let vs<-fn.results.mapM (Om a.tmps);pure (if h:vs.size=1 then vs[0]else .tuple vs)):=by unfold results;congr 1
 rw[hh,hr];simp[Sem.run_bind,Result.andThen,e1,e2];match i,hi with
 |0,_=>exact t1
 |1,_=>exact t2
theorem du{s:St}{r1 r2 r3:ResultVar}{v1 v2 v3:AV}(hr:fn.results=#[r1,r2,r3])(h1:afe P N s r1 v1)(h2:afe P N s r2 v2)(h3:afe P N s r3 v3):P8 P N fn s (.tup [v1,v2,v3]):=by
 intro C a hs;obtain⟨x,e1,t1⟩:=h1 C a hs;obtain⟨y,e2,t2⟩:=h2 C a hs;obtain⟨z,e3,t3⟩:=h3 C a hs;refine⟨.tuple #[x,y,z],?_,.tup rfl (fun i hi hi'=>?_)⟩;have hh:results fn a.tmps=(do let vs<-fn.results.mapM (Om a.tmps);pure (if h:vs.size=1 then vs[0]else .tuple vs)):=by unfold results;congr 1
 rw[hh,hr];simp[Sem.run_bind,Result.andThen,e1,e2,e3];match i,hi with
 |0,_=>exact t1
 |1,_=>exact t2
 |2,_=>exact t3
def afe.tmp{s:St}{t:Nat}(h:∃fp,FzP fp s.η (s.τ t) ret):afe P N s (.tmp t) ret:=by intro C a hs;obtain⟨fp,hf⟩:=h;exact⟨a.tmps.getD t undef,by simp[Om],(hf C hs.good (fun id _=>by rw[hs.η]) _ (hs.τ t)).mono (fun b hb=>hb.imp (fun h=>h) bt) (fun _ _=>rfl)⟩
def sn:List AV->Option (List Value)
 |[]=>some []
 |.v x::l=>match sn l with
  |some r=>some (x::r)
  |none=>none
 |_=>none
def toVE:AV->Option Value
 |.v x=>some x
 |.agg cs=>match sn cs with
  |some r=>some (.agg r.toArray)
  |none=>none
 |_=>none
theorem Ky:∀(l:List AV) (r:List Value),sn l=some r->l=r.map .v
 |[],r,h=>by simp only[sn,aza]at h;subst h;rfl
 |.v x::l,r,h=>by
  simp only[sn]at h
  cases h1:sn l with
  |none=>rw[h1]at h;cases h
  |some r1=>
   rw[h1]at h
   simp only[aza]at h
   subst h
   rw[Ky l r1 h1]
   rfl
 |.ptr _ _ _::l,r,h=>by simp[sn]at h
 |.sl _ _ _ _::l,r,h=>by simp[sn]at h
 |.tree _ _::l,r,h=>by simp[sn]at h
 |.tp _ _::l,r,h=>by simp[sn]at h
 |.clo _ _::l,r,h=>by simp[sn]at h
 |.mp _ _::l,r,h=>by simp[sn]at h
 |.it _ _::l,r,h=>by simp[sn]at h
 |.agg _::l,r,h=>by simp[sn]at h
 |.tup _::l,r,h=>by simp[sn]at h
 |.unk::l,r,h=>by simp[sn]at h
def wt{a:AV}{x y:Value}(hx:VR C a x)(h:toVE a=some y):x=y:=by unfold toVE at h;split at h;simp only[aza]at h;subst h;exact hx.v_inv;rename_i cs;split at h;rename_i r hr;simp only[aza]at h;subst h;obtain rfl:=Ky _ _ hr;obtain⟨vs,rfl,h1,h2⟩:=hx.agg_inv;congr 1;simp only[aze]at h1;apply Array.ext;simp;omega;intro i hi h0;have:=(h2 i (by simp;simpa using h0) hi);simp only[List.getElem_map]at this;simpa using this.v_inv;cases h;cases h
def lN{η:bm}{id:Nat}(hx:aev τ x=.ptr id ver o)(hb:η id=some b)(hv:b.ver=ver):
 LOp P ⟨d,.nilCheck x,ty,pos,af,g⟩ τ η [id] [] (.ptr id ver o):=
 .look [id] fun C a hg h0 h3=>by have hb':C.η id=some b:=(h3 id (by simp)).trans hb;have h1:=h0 x (by simp[Op.operands]);rw[hx]at h1;have h2:=h1.ptr_inv hb' hv;refine⟨a.eval x,?_,h1⟩;simp only[execOp];rw[h2];rfl
theorem E5{η:bm}(hx:aev τ x=.tp cs o):
 LOp P ⟨d,.nilCheck x,ty,pos,af,g⟩ τ η [] [] (.tp cs o):=
 .look [] fun C a hg h0 hfp=>by
  have h1:=h0 x (by simp[Op.operands]);rw[hx]at h1;have h2:=h1.tp_inv
  refine⟨a.eval x,?_,h1⟩;generalize h3:a.eval x=xv at h2;cases h2 with
  |tp cell hT hc hr=>
   simp only[execOp]
   rw[h3]
   rfl
end Go.Proofs.YtfpfdfhlljjckaaGreatDoor
