/- Texts of the claim. -/
import Derived.Test.YtmbmbhkemgmhfaaGreatDoorA1
namespace Go.Proofs.YtmbmbhkemgmhfaaGreatDoor
set_option linter.unusedVariables false
set_option linter.unusedSimpArgs false
open Go.RowKit
def Ctx.repl(C:Ctx)(id:Nat)(r:Nat×Nat)(z:Nat)(b:Blk)(w:World):Ctx:=
 {ρ:=fun i=>if i=id then r else C.ρ i,sz:=fun i=>if i=id then z else C.sz i,η:=C.η.set id (some b),U:=fun i=>C.U i\/i=id,T:=C.T,w:=w}
section
variable{C:Ctx}{id:Nat}{r:Nat×Nat}{z:Nat}{b:Blk}{w:World}
structure ReplOk(C:Ctx)(id:Nat)(r:Nat×Nat)(z:Nat)(b:Blk)(w:World):Prop where
 os:w.os=C.w.os
 tape:w.tape=C.w.tape
 output:w.output=C.w.output
 size:C.w.heap.size<=w.heap.size
 keep:∀k,k<C.w.heap.size->k≠r.1->w.heap[k]? =C.w.heap[k]?
 g_:(∃b0,C.η id=some b0/\b0.nilp=false/\(C.ρ id).1=r.1)\/C.w.heap.size<=r.1
 ver:C.U id->∃b0,C.η id=some b0/\b0.ver<b.ver
 nn:b.nilp=false
 tight:b.ver=TV->z=r.2+b.cs.length
 cells:∃c t,w.heap[r.1]? =some (.cells c t (0,0))/\c.size=z/\r.2+b.cs.length<=c.size/\∀j (h:j<b.cs.length) (h':r.2+j<c.size),VR C b.cs[j] c[r.2+j]
theorem mw(hg:Good C)(h:ReplOk C id r z b w):Ev C (C.repl id r z b w) where
 os:=h.os
 tape:=h.tape
 output:=h.output
 size:=h.size
 keep:=fun k hk hm=>by refine h.keep k hk (fun e=>?_);rcases h.g_ with⟨b0,h1,h2,h3⟩|h1;exact hm ⟨id,⟨b0,h1,di h2⟩,h3.trans e.symm⟩;omega
 mine:=fun k ⟨i,⟨b',hb',h0⟩,hk⟩=>by by_cases e:i=id;subst e;simp only[Ctx.repl,if_true]at hk;rcases h.g_ with⟨b0,h1,h2,h3⟩|h1;exact .inl ⟨i,⟨b0,h1,di h2⟩,h3.trans hk⟩;exact .inr (by omega);simp only[Ctx.repl]at hb' hk;rw[aq _ _ e]at hb';simp only[e,if_false]at hk;exact .inl ⟨i,⟨b',hb',h0⟩,hk⟩
 T:=fun _ h=>h
 Tnew:=fun _ h=>.inl h
 U:=fun _ h=>.inl h
 old:=fun i b' h4 hb'=>by simp only[Ctx.repl]at hb';by_cases e:i=id;subst e;rw[am]at hb';cases hb';obtain⟨b0,h1,h2⟩:=h.ver h4;exact⟨b0,h1,by omega,fun e=>by omega⟩;rw[aq _ _ e]at hb';exact⟨b',hb',ag8 _,fun _=>⟨by simp[Ctx.repl,e],by simp[Ctx.repl,e],rfl,rfl⟩⟩
theorem mv(hg:Good C)(h:ReplOk C id r z b w):Good (C.repl id r z b w):=by
 have he:=mw hg h
 have h0:∀{i b'},(C.repl id r z b w).η i=some b'->(i=id/\b'=b)\/(i≠id/\C.η i=some b'):=by
  intro i b' hb';simp only[Ctx.repl]at hb';by_cases e:i=id;subst e;rw[am]at hb';cases hb';exact .inl ⟨rfl,rfl⟩;rw[aq _ _ e]at hb';exact .inr ⟨e,hb'⟩
 have h7:∀{i b'},C.η i=some b'->b'.kind≠1->(C.ρ i).1<C.w.heap.size:=fun hb' hk=>hg.lt ⟨_,hb',hk⟩
 have h6:∀{i b'},i≠id->C.η i=some b'->b'.kind≠1->(C.ρ i).1≠r.1:=by
  intro i b' hi hb' h5 e;rcases h.g_ with⟨b0,h1,h2,h3⟩|h1;exact hi (hg.inj ⟨b',hb',h5⟩ ⟨b0,h1,di h2⟩ (e.trans h3.symm));have:=h7 hb' h5
  omega
 refine⟨?_,?_,?_,?_,?_,?_,?_⟩;intro i b' hb';rcases h0 hb' with⟨rfl,rfl⟩|⟨_,hb'⟩;exact .inr rfl;exact .inl (hg.used hb');intro i b' hb' h5;rcases h0 hb' with⟨rfl,rfl⟩|⟨e,hb'⟩;rw[dj h.nn]at h5;cases h5;obtain⟨ob,h1,h2⟩:=hg.obj hb' h5;have e1:(C.repl id r z b w).ρ i=C.ρ i:=by simp[Ctx.repl,e]
 rw[e1];exact⟨ob,(h.keep _ (h7 hb' (by rw[h5];decide)) (h6 e hb' (by rw[h5];decide))).trans h1,h2.mono hg he⟩;intro i b' hb' h5;rcases h0 hb' with⟨e,rfl⟩|⟨e,hb'⟩;obtain⟨c,t,g1,g2,g3,g4⟩:=h.cells;have e1:(C.repl id r z b' w).ρ i=r:=by simp[Ctx.repl,e]
 have e2:(C.repl id r z b' w).sz i=z:=by simp[Ctx.repl,e]
 rw[e1,e2];exact⟨c,t,g1,g2,g3,fun j hj h8=>(g4 j hj h8).mono hg he⟩;obtain⟨c,t',h1,h2,h3,h4⟩:=hg.blk hb' h5;have e1:(C.repl id r z b w).ρ i=C.ρ i:=by simp[Ctx.repl,e]
 have e2:(C.repl id r z b w).sz i=C.sz i:=by simp[Ctx.repl,e]
 rw[e1,e2];exact⟨c,t',(h.keep _ (h7 hb' (di h5)) (h6 e hb' (di h5))).trans h1,h2,h3,fun j hj h8=>(h4 j hj h8).mono hg he⟩;rintro i i' ⟨b1,hf,h9⟩ ⟨b2,hl,ha⟩ hh;rcases h0 hf with⟨h1,_⟩|⟨e1,hb⟩<;>rcases h0 hl with⟨h2,_⟩|⟨e2,hc⟩;exact h1.trans h2.symm;simp only[Ctx.repl,h1,if_true,e2,if_false]at hh;exact absurd hh.symm (h6 e2 hc ha);simp only[Ctx.repl,h2,if_true,e1,if_false]at hh;exact absurd hh (h6 e1 hb h9);simp only[Ctx.repl,e1,e2,if_false]at hh;exact hg.inj ⟨b1,hb,h9⟩ ⟨b2,hc,ha⟩ hh;refine hg.tokE he.toFr0 fun k hk=>?_
 have:=hg.tlt (k:=k) hk;have:=h.size
 show k<w.heap.size;omega;rintro k ⟨i,⟨b',hb',h5⟩,hk⟩ hT;rcases h0 hb' with⟨e,_⟩|⟨e,hb'⟩;simp only[Ctx.repl,e,if_true]at hk;rcases h.g_ with⟨b0,h1,h2,h3⟩|h1;exact hg.apart ⟨id,⟨b0,h1,di h2⟩,h3.trans hk⟩ hT;have:=hg.tlt (k:=k) hT
 omega;simp only[Ctx.repl,e,if_false]at hk;exact hg.apart ⟨i,⟨b',hb',h5⟩,hk⟩ hT;intro i b' hb' hd h5;rcases h0 hb' with⟨e,rfl⟩|⟨e,hb'⟩;have e1:(C.repl id r z b' w).ρ i=r:=by simp[Ctx.repl,e]
 have e2:(C.repl id r z b' w).sz i=z:=by simp[Ctx.repl,e]
 rw[e1,e2];exact h.tight hd;have e1:(C.repl id r z b w).ρ i=C.ρ i:=by simp[Ctx.repl,e]
 have e2:(C.repl id r z b w).sz i=C.sz i:=by simp[Ctx.repl,e]
 rw[e1,e2];exact hg.tight hb' hd h5
end
def Src(η:bf)(fp:List Nat)(a:AV)(m:Nat)(news:List AV):Prop:=
 ∀C:Ctx,Good C->(∀id∈fp,C.η id=η id)->∀x,VR C a x->(m=0/\news=[]/\∃ad c,x=.slice ad 0 c)\/
  ∃(ad:Addr) (c:Nat) (vals:List Value),x=.slice (some ad) m c/\vals.length=news.length/\(∀(j:Nat) (u:Value),vals[j]? =some u->C.w.cell? (ad.add j)=some u)/\∀j (h:j<news.length) (h':j<vals.length),VR C news[j] vals[j]
theorem im{n:Nat}:∀(xs:List (List AV)) (_:∀k (h:k<xs.length),xs[k].length=n) (i:Nat),i<xs.length*n->∃(h:i/n<xs.length) (h':i%n<xs[i/n].length) (h'':i<xs.flatten.length),xs.flatten[i]=xs[i/n][i%n]
 |[],_,i,h=>by simp at h
 |x::r,hl,i,hi=>by
  have h0:x.length=n:=hl 0 (by simp)
  have h1:0<n:=by
   rcases Nat.eq_zero_or_pos n with e|e;subst e;simp at hi;exact e
  by_cases h2:i<n;have e1:i/n=0:=Nat.div_eq_of_lt h2
  have e2:i%n=i:=Nat.mod_eq_of_lt h2;refine⟨by rw[e1];simp,by simp only[e1,e2];simp;omega,by simp;omega,?_⟩;simp only[e1,e2,List.getElem_cons_zero,List.flatten_cons];rw[List.getElem_append_left (by omega)];have h3:n<=i:=by omega
  obtain⟨g1,g2,g3,g4⟩:=im r (fun k hk=>by have:=hl (k+1) (by simpa using hk);simpa using this) (i-n) (by simp[Nat.add_mul]at hi;omega);have e1:i/n=(i-n)/n+1:=by rw[Nat.div_eq_sub_div h1 h3]
  have e2:i%n=(i-n)%n:=Nat.mod_eq_sub_mod h3;refine⟨by rw[e1];simp;exact g1,by simp only[e1,e2,List.getElem_cons_succ];exact g2,by simp at g3 ⊢;omega,?_⟩;simp only[e1,e2,List.getElem_cons_succ,List.flatten_cons];rw[List.getElem_append_right (by omega),<-g4];congr 1;omega
theorem jq{n:Nat}:∀(xs:List (List AV)) (_:∀k (h:k<xs.length),xs[k].length=n),xs.flatten.length=xs.length*n
 |[],_=>by simp
 |x::r,hl=>by have h0:x.length=n:=hl 0 (by simp);have:=jq r (fun k hk=>by have:=hl (k+1) (by simpa using hk);simpa using this);simp only[List.flatten_cons,agx,ahf,Nat.add_mul,this,h0];omega
theorem Src.tree{η:bf}{n:Nat}{xs:List (List AV)}:Src η [] (.tree n xs) xs.length xs.flatten:=by
 intro C hg _ x hx
 have h:=hx.tree_inv
 cases h with
 |tree0 h=>exact .inl ⟨rfl,rfl,_,_,rfl⟩
 |tree cell hT h1 h2 h3 h4 h5 h6=>
  rename_i b off cap
  right
  have h8:=jq xs h4
  refine⟨⟨b,off,none⟩,cap,(List.range (xs.length*n)).map fun i=>cell (i/n) (i%n),rfl,by simp[h8],fun j u hj=>?_,fun j hj h7=>?_⟩
  ·simp only[List.getElem?_map]at hj
   cases hr:(List.range (xs.length*n))[j]? with
   |none=>rw[hr]at hj;cases hj
   |some q=>
    rw[hr]at hj
    obtain⟨h9,hq⟩:=ahn.1 hr
    simp only[List.getElem_range]at hq
    subst hq
    simp only[ahp,agw]at hj
    subst hj
    have h0:j<xs.length*n:=by simpa using h9
    obtain⟨g1,g2,_,_⟩:=im xs h4 j h0
    rw[h4 _ g1]at g2
    rw[Addr.add_mid]
    have:=h5 (j/n) (j%n) g1 g2
    rw[show off+j/n*n+j%n=off+j by have:=Nat.div_add_mod j n;rw[Nat.mul_comm]at this;omega]at this
    exact this
  ·simp only[ag0,List.length_range]at h7
   obtain⟨g1,g2,g3,g4⟩:=im xs h4 j h7
   rw[g4]
   simp only[List.getElem_map,List.getElem_range]
   exact .imm (h6 _ g1 _ g2)
theorem Src.sl{η:bf}{id ver off len:Nat}{b:Blk}{news:List AV}(hb:η id=some b)(hv:b.ver=ver)(hn:b.nilp=false)(h5:Nat.beq len 0=false)(hc:co off news.length b.cs=some news):Src η [id] (.sl id ver off len) len news:=by
 intro C hg hη x hx;have hb':C.η id=some b:=(hη id (by simp)).trans hb
 have h0:len≠0:=fun e=>by rw[e]at h5;cases h5
 obtain⟨ad,cap,rfl,h1,h2,h3,h4⟩:=hx.sl_inv hb' hv hn;rcases h4 with⟨h4,_⟩|⟨rfl,h4⟩;exact absurd h4 h0;obtain⟨g1,g2⟩:=du _ _ _ _ hc;right;obtain⟨f,hf⟩:=d7 (n:=news.length) (p:=fun j y=>C.w.cell? ⟨(C.ρ id).1,(C.ρ id).2+off+j,none⟩=some y/\VR C (news.getD j .unk) y) (fun j hj=>by obtain⟨y,hy,h6⟩:=hg.cell hb' hn (j:=off+j) (by omega);refine⟨y,by rw[Nat.add_assoc];exact hy,have e:news.getD j .unk=news[j]:=(by simp[List.getD,hj]);?_⟩;have e2:news[j]=b.cs[off+j]'(by omega):=(by have:news[j]? =b.cs[off+j]?:=(by rw[g2,List.getElem?_take_of_lt (by omega),List.getElem?_drop]);rw[agu hj,agu (by omega)]at this;exact Option.some.inj this);rw[e,e2];exact h6);exact⟨_,cap,(List.range news.length).map f,rfl,by simp,fun j u hj=>by obtain⟨h7,he⟩:=ahn.1 hj;simp only[List.getElem_map,List.getElem_range]at he;subst he;rw[Addr.add_mid];exact(hf j (by simpa using h7)).1,fun j hj hj'=>by simp only[List.getElem_map,List.getElem_range];have:=(hf j hj).2;simpa[List.getD,hj]using this⟩
section
variable{P:Program}{τ:Nat->AV}{η:bf}{d:Option Tmp}{ty:TypeId}{pos:String}{af:Array Edge}{g:Option (Nat×Bool)}
theorem dv{a:Act}{s x:Operand}{t1 t2:TypeId}(w:World){v:Value}{w':World}(h:(Builtin.append_ #[t1,t2] ty #[a.eval s,a.eval x]).run P w=.ok v w'):
 (execOp a.eval ⟨d,.call {callee:=.builtin .append,args:=#[s,x],argTypes:=#[t1,t2]},ty,pos,af,g⟩).run P w=.ok (.value v) w':=by
 simp only[execOp,resolve,invoke,builtin,Sem.run_bind,ahd,ahc,List.map_toArray,ahh,List.map_nil,h]
theorem cz{t e:TypeId}{i:TypeInfo}(ht:P.underlying t=some (.slice e))(hi:P.info? e=some i)(w:World)(a ad:Option Addr)(n cap c:Nat)(h0:n<=cap):
 (Builtin.append_ #[t,t] ty #[.slice a n cap,.slice ad 0 c]).run P w=.ok (.slice a n cap) w:=by
 have h1:∀x:Option Addr,(Builtin.firstCells i.size 0 (.slice x 0 c)).run P w=.ok #[] w:=by intro x;cases x<;>simp[Builtin.firstCells,loadCells,loadCellsFrom]
 cases a with
 |none=>simp[Builtin.append_,run_underlying ht,sizeOf,typeInfo,hi,Builtin.lenOf,h0,h1]
 |some b=>simp[Builtin.append_,run_underlying ht,sizeOf,typeInfo,hi,Builtin.lenOf,h0,h1,storeCells]
theorem pk{t e:TypeId}{i:TypeInfo}(ht:P.underlying t=some (.slice e))(hi:P.info? e=some i)(w:World)(gb o n cap:Nat)(cur:Array Value)(t':TypeId)(h3:w.heap[gb]? =some (.cells cur t' (0,0)))
 (a:Addr)(m c:Nat)(news:List Value)(hl:news.length=m*i.size)(h0:∀(j:Nat) (u:Value),news[j]? =some u->w.cell? (a.add j)=some u)(h1:∀u∈news,u.oneCell'=true)
 (h2:n+m<=cap)(hfit:o+n*i.size+news.length<=cur.size):
 (Builtin.append_ #[t,t] ty #[.slice (some ⟨gb,o,none⟩) n cap,.slice (some a) m c]).run P w=.ok (.slice (some ⟨gb,o,none⟩) (n+m) cap) (w.setCells gb (o+n*i.size) news):=by
 have hf:=run_firstCells_some (P:=P) w i.size m a m c news hl h0
 have h4:=run_storeCells_cells (P:=P) gb (o+n*i.size) news 0 w (fun j hj=>by have:o+n*i.size+0+j<cur.size:=(by omega);simp[World.cell?,h3];omega) (fun j _=>by simp[World.frozen?,h3]) h1
 simp only[Nat.add_zero]at h4
 simp[Builtin.append_,run_underlying ht,sizeOf,typeInfo,hi,Builtin.lenOf,h2,hf,Addr.add_mid,h4]
theorem LOp.append{t e sz by_:Nat}{s x:Operand}{z:Value}{fp:List Nat}{id ver len m:Nat}{b:Blk}{news:List AV}(ht:P.underlying t=some (.slice e))(hs:ap P e=some sz)(hz:bi P e=some z)(g7:(P.info? e).map (·.bytes)=some by_)(gi:z.cells.size=sz)
 (hx:aev τ s=.sl id ver 0 len)(hb:η id=some b)(hv:b.ver=ver)(hn:b.nilp=false)(g8:b.esz=sz)(hlen:len*sz<=b.cs.length)(g9:Src η fp (aev τ x) m news)(hnl:news.length=m*sz)(h1:news.all AV.one=true)
 (ga:(len+m)*by_<=140737488355328)(h7:len+m<=140737488355328)(gd:ver+1≠TV):
 LOp P ⟨d,.call {callee:=.builtin .append,args:=#[s,x],argTypes:=#[t,t]},ty,pos,af,g⟩ τ η (id::fp) [(id,some ⟨ver+1,b.cs.take (len*sz)++news,sz,false⟩)] (.sl id (ver+1) 0 (len+m)):=by
 intro C a hg ge gf _ K Q hK
 unfold ap at hs
 unfold bi at hz
 cases hi:P.info? e with
 |none=>rw[hi]at hz;cases hz
 |some inf=>
  rw[hi]at hz hs g7
  simp only[ahq]at hz
  simp only[ahp,agw]at hs g7
  subst hs;subst g7
  have hb':C.η id=some b:=(gf id (by simp)).trans hb
  have e1:=ge s (by simp[Op.operands,Call.operands])
  rw[hx]at e1
  obtain⟨ad,cap,e2,c1,c2,c3,c4⟩:=e1.sl_inv hb' hv hn
  have e3:=g9 C hg (fun i hi=>gf i (by simp[hi])) _ (ge x (by simp[Op.operands,Call.operands]))
  obtain⟨cs,t',g1,g2,g3,g4⟩:=hg.blk hb' hn
  have hU:C.U id:=hg.used hb'
  have h5:∀(r:Nat×Nat) (zz:Nat) (w':World) (v:Value),(Builtin.append_ #[t,t] ty #[a.eval s,a.eval x]).run P C.w=.ok v w'->ReplOk C id r zz ⟨ver+1,b.cs.take (len*inf.size)++news,inf.size,false⟩ w'->
   VR (C.repl id r zz ⟨ver+1,b.cs.take (len*inf.size)++news,inf.size,false⟩ w') (.sl id (ver+1) 0 (len+m)) v->(⟨d,.call {callee:=.builtin .append,args:=#[s,x],argTypes:=#[t,t]},ty,pos,af,g⟩:Oper).wp P a C.w K Q:=by
   intro r zz w' v hr h4 gj
   unfold Oper.wp
   rw[dv C.w hr]
   exact hK v (C.repl id r zz _ w') rfl (fun i=>by simp[Ctx.repl]) (mv hg h4) (mw hg h4) gj
  have g5:(b.cs.take (len*inf.size)).length=len*inf.size:=by simp;omega
  -- nothing is appended,or the slice has room
  have h2:∀(vals:List Value) (w':World),vals.length=news.length->(∀j (h:j<news.length) (h':j<vals.length),VR C news[j] vals[j])->w'=C.w.setCells (C.ρ id).1 ((C.ρ id).2+len*inf.size) vals->(C.ρ id).2+len*inf.size+news.length<=cs.size->
   ReplOk C id (C.ρ id) (C.sz id) ⟨ver+1,b.cs.take (len*inf.size)++news,inf.size,false⟩ w':=by
   intro vals w' g6 gk hw hc
   subst hw
   obtain⟨r1,r2,r3,r4⟩:=d8 vals C.w (C.ρ id).1 ((C.ρ id).2+len*inf.size)
   refine⟨r1,r2,r3,by rw[r4];exact ag8 _,fun k _ hk=>ia _ _ _ _ _ hk,.inl ⟨b,hb',hn,rfl⟩,fun _=>⟨b,hb',by simp[hv]⟩,rfl,fun e=>absurd e gd,setR cs ((C.ρ id).2+len*inf.size) vals,t',mg _ _ _ _ _ _ g1,by rw[ju];exact g2,by rw[ju];simp[g5];omega,?_⟩
   intro j hj h8
   have gl:j<len*inf.size+news.length:=by simpa[g5]using hj
   have gg:(C.ρ id).2+j<cs.size:=by rw[ju]at h8;exact h8
   by_cases h6:j<len*inf.size
   ·have e4:(b.cs.take (len*inf.size)++news)[j]=b.cs[j]'(by omega):=by
     rw[List.getElem_append_left (by omega)];simp
    have e5:(setR cs ((C.ρ id).2+len*inf.size) vals)[(C.ρ id).2+j]'h8=cs[(C.ρ id).2+j]:=by
     have:=qo vals cs ((C.ρ id).2+len*inf.size) ((C.ρ id).2+j) (by omega)
     rw[Array.getElem?_eq_getElem h8,Array.getElem?_eq_getElem gg]at this
     exact Option.some.inj this
    simp only[e4,e5]
    exact g4 j (by omega) gg
   ·obtain⟨q,rfl⟩:∃q,j=len*inf.size+q:=⟨j-len*inf.size,by omega⟩
    have hq:q<news.length:=by omega
    have e4:(b.cs.take (len*inf.size)++news)[len*inf.size+q]=news[q]:=by
     have:(b.cs.take (len*inf.size)++news)[len*inf.size+q]? =news[q]?:=by
      rw[List.getElem?_append_right (by omega)]
      congr 1
      omega
     rw[agu hj,agu hq]at this
     exact Option.some.inj this
    have e5:(setR cs ((C.ρ id).2+len*inf.size) vals)[(C.ρ id).2+(len*inf.size+q)]'h8=vals[q]'(by omega):=by
     have:=ze vals cs ((C.ρ id).2+len*inf.size) q (by omega) (by omega)
     rw[Nat.add_assoc,Array.getElem?_eq_getElem h8,agu (by omega)]at this
     exact Option.some.inj this
    simp only[e4,e5]
    exact gk q hq (by omega)
  rcases e3 with⟨rfl,rfl,ad2,c',hd⟩|⟨ad2,c',vals,hd,v1,v2,v3⟩
  ·-- nothing
   have hr:=cz (P:=P) (ty:=ty) ht hi C.w (some ad) ad2 len cap c' c1
   rw[<-e2,<-hd]at hr
   have h4:=h2 [] C.w rfl (fun j h=>by simp at h) rfl (by simp;omega)
   refine h5 _ _ _ _ (by rw[e2]at hr ⊢;exact hr) h4 ?_
   have hh:(C.repl id (C.ρ id) (C.sz id) ⟨ver+1,b.cs.take (len*inf.size)++[],inf.size,false⟩ C.w).η id=some ⟨ver+1,b.cs.take (len*inf.size)++[],inf.size,false⟩:=am _ _ _
   rcases c4 with⟨h0,gm⟩|⟨rfl,c4⟩
   ·subst h0;subst gm
    exact VR.slz hh rfl rfl
   ·have:=VR.sl (C:=C.repl id (C.ρ id) (C.sz id) ⟨ver+1,b.cs.take (len*inf.size)++[],inf.size,false⟩ C.w) (id:=id) (ver:=ver+1) (off:=0) (len:=len) (cap:=cap) hh rfl rfl c1 c2 c3 (by simp only[Ctx.repl,if_true];rw[<-g8];exact c4)
    simpa[Ctx.repl]using this
  ·have hl:∀u∈vals,u.oneCell'=true:=by
    intro u hu
    obtain⟨j,hj,rfl⟩:=ahe hu
    exact(v3 j (by omega) hj).one (List.all_eq_true.1 h1 _ (agt _))
   have g6:vals.length=m*inf.size:=by omega
   have htot:(vals.length:Nat)=news.length:=v1
   by_cases h3:len+m<=cap
   ·by_cases hm:len=0/\cap=0
    ·-- nothing after all
     obtain⟨rfl,rfl⟩:=hm
     have gn:m=0:=by omega
     subst gn
     have go:news=[]:=ahm (by omega)
     subst go
     have hr:=cz (P:=P) (ty:=ty) ht hi C.w (some ad) (some ad2) 0 0 c' (ag8 _)
     rw[<-e2,<-hd]at hr
     have h4:=h2 [] C.w rfl (fun j h=>by simp at h) rfl (by simp;omega)
     refine h5 _ _ _ _ (by rw[e2]at hr ⊢;exact hr) h4 ?_
     exact VR.slz (b:=⟨ver+1,b.cs.take (0*inf.size)++[],inf.size,false⟩) (am _ _ _) rfl rfl
    ·rcases c4 with h|⟨rfl,c4⟩
     ·exact absurd h hm
     have gb:(len+m)*inf.size<=cap*inf.size:=Nat.mul_le_mul_right _ h3
     rw[Nat.add_mul]at gb
     have hc:(C.ρ id).2+len*inf.size+news.length<=cs.size:=by rw[g8]at c4;omega
     have hr:=pk (P:=P) (ty:=ty) ht hi C.w (C.ρ id).1 ((C.ρ id).2+0) len cap cs t' g1 ad2 m c' vals g6 v2 hl h3 (by omega)
     rw[<-e2,<-hd]at hr
     have h4:=h2 vals _ v1 v3 rfl hc
     refine h5 _ _ _ _ (by rw[Nat.add_zero]at hr;exact hr) h4 ?_
     have:=VR.sl (C:=C.repl id (C.ρ id) (C.sz id) ⟨ver+1,b.cs.take (len*inf.size)++news,inf.size,false⟩ (C.w.setCells (C.ρ id).1 ((C.ρ id).2+len*inf.size) vals)) (id:=id) (ver:=ver+1) (off:=0) (len:=len+m) (cap:=cap) (b:=⟨ver+1,b.cs.take (len*inf.size)++news,inf.size,false⟩) (am _ _ _) rfl rfl h3 c2 h7
      (by simp only[Ctx.repl,if_true];rw[<-g8];exact c4)
     simpa[Ctx.repl]using this
   ·-- a new row
    obtain⟨f,hf⟩:=d7 (n:=len*inf.size) (p:=fun j y=>C.w.cell? ⟨(C.ρ id).1,(C.ρ id).2+j,none⟩=some y/\∀h:j<b.cs.length,VR C b.cs[j] y) (fun j hj=>by
     obtain⟨y,hy,gp⟩:=hg.cell hb' hn (j:=j) (by omega)
     exact⟨y,hy,fun _=>gp⟩)
    have ho:∀(j:Nat) (u:Value),((List.range (len*inf.size)).map f)[j]? =some u->C.w.cell? (ad.add j)=some u:=by
     intro j u hj
     obtain⟨h6,he⟩:=ahn.1 hj
     simp only[List.getElem_map,List.getElem_range]at he
     subst he
     have hp:j<len*inf.size:=by simpa using h6
     rcases c4 with⟨h0,_⟩|⟨rfl,_⟩
     ·subst h0;simp at hp
     ·rw[Addr.add_mid,Nat.add_zero]
      exact(hf j hp).1
    have h6:cap<len+m:=by omega
    have hr:=run_append_grow (P:=P) C.w t ty e inf z ht hi hz ad len cap ((List.range (len*inf.size)).map f) (by simp) ho ad2 m c' vals g6 v2 h6 (by omega) (growslice_fits h6 ga)
    rw[<-e2,<-hd]at hr
    have gh:=grownCap_ge C.w (len+m) cap e
    have gq:len+m<=maxLen:=by unfold maxLen;omega
    have gr:grownCap C.w (len+m) cap e<=maxLen:=grownCap_le_maxLen C.w (len+m) cap e gq
    generalize h9:(((List.range (len*inf.size)).map f).toArray++vals.toArray++Builtin.zeroCells z.cells (grownCap C.w (len+m) cap e-(len+m)))=nc at hr
    have g0:nc.size=grownCap C.w (len+m) cap e*inf.size:=by
     rw[<-h9]
     simp only[Array.size_append,List.size_toArray,ag0,List.length_range,size_zeroCells,gi,g6,<-Nat.add_mul]
     congr 1
     omega
    have gc:∀j (h:j<(b.cs.take (len*inf.size)++news).length) (h':j<nc.size),VR C (b.cs.take (len*inf.size)++news)[j] nc[j]:=by
     intro j hj h8
     have gl:j<len*inf.size+news.length:=by simpa[g5]using hj
     have ha:nc[j]? =(((List.range (len*inf.size)).map f)++vals)[j]?:=by
      rw[<-h9,Array.getElem?_append_left (by simp;omega)]
      simp
     rw[Array.getElem?_eq_getElem h8]at ha
     by_cases h6:j<len*inf.size
     ·have e4:(b.cs.take (len*inf.size)++news)[j]=b.cs[j]'(by omega):=by
       rw[List.getElem_append_left (by omega)];simp
      rw[List.getElem?_append_left (by simpa using h6)]at ha
      simp only[List.getElem?_map,List.getElem?_range h6,ahp,agw]at ha
      rw[e4,ha]
      exact(hf j h6).2 (by omega)
     ·obtain⟨q,rfl⟩:∃q,j=len*inf.size+q:=⟨j-len*inf.size,by omega⟩
      have hq:q<news.length:=by omega
      have e4:(b.cs.take (len*inf.size)++news)[len*inf.size+q]=news[q]:=by
       have:(b.cs.take (len*inf.size)++news)[len*inf.size+q]? =news[q]?:=by
        rw[List.getElem?_append_right (by omega)]
        congr 1
        omega
       rw[agu hj,agu hq]at this
       exact Option.some.inj this
      rw[List.getElem?_append_right (by simp)]at ha
      simp only[ag0,List.length_range,Nat.add_sub_cancel_left]at ha
      rw[agu (by omega)]at ha
      rw[e4,Option.some.inj ha]
      exact v3 q hq (by omega)
    have gs:(C.w.drew.alloc (.cells nc e)).heap[C.w.heap.size]? =some (.cells nc e (0,0)):=heap_alloc_new C.w.drew _
    have h4:ReplOk C id (C.w.heap.size,0) nc.size ⟨ver+1,b.cs.take (len*inf.size)++news,inf.size,false⟩ (C.w.drew.alloc (.cells nc e)):=by
     refine⟨rfl,rfl,rfl,by simp,fun k hk _=>Below.heap_alloc C.w.drew _ k hk,.inr (ag8 _),fun _=>⟨b,hb',by simp[hv]⟩,rfl,fun e=>absurd e gd,nc,e,gs,rfl,?_,fun j h h'=>?_⟩
     ·rw[g0]
      have:(len+m)*inf.size<=grownCap C.w (len+m) cap e*inf.size:=Nat.mul_le_mul_right _ gh
      rw[Nat.add_mul]at this
      simp[g5];omega
     ·have:=gc j h (by simpa using h')
      simpa using this
    refine h5 _ _ _ _ hr h4 ?_
    have:=VR.sl (C:=C.repl id (C.w.heap.size,0) nc.size ⟨ver+1,b.cs.take (len*inf.size)++news,inf.size,false⟩ (C.w.drew.alloc (.cells nc e))) (id:=id) (ver:=ver+1) (off:=0) (len:=len+m) (cap:=grownCap C.w (len+m) cap e) (b:=⟨ver+1,b.cs.take (len*inf.size)++news,inf.size,false⟩) (am _ _ _) rfl rfl gh gr h7
     (by simp[Ctx.repl,g0])
    simpa[Ctx.repl]using this
end
section
variable{P:Program}{τ:Nat->AV}{η:bf}{d:Option Tmp}{ty:TypeId}{pos:String}{af:Array Edge}{g:Option (Nat×Bool)}
theorem VR.slnil_inv{C:Ctx}{id ver len:Nat}{b:Blk}{x:Value}(h:VR C (.sl id ver 0 len) x)(hb:C.η id=some b)(hv:b.ver=ver)(hn:b.nilp=true):x=.slice none 0 0/\len=0/\b.cs=[]:=by
 cases h with
 |imm h=>cases h
 |sl hb' _ h0=>rw[hb]at hb';cases hb';rw[hn]at h0;cases h0
 |slz hb' _ h0=>rw[hb]at hb';cases hb';rw[hn]at h0;cases h0
 |slnil hb' _ hk=>rw[hb]at hb';cases hb';exact⟨rfl,rfl,(R8 hk).2⟩
 |stales _ _ hs=>have:=hs b hb;omega
theorem yp{C:Ctx}(hg:Good C){t e sz by_:Nat}{inf:TypeInfo}{z:Value}{id w m:Nat}{news:List AV}{vals:List Value}{ad:Addr}{c:Nat}(ht:P.underlying t=some (.slice e))(hi:P.info? e=some inf)(hz:inf.zero=some z)(h8:z.cells.size=inf.size)
 (hm:0<m)(h5:vals.length=m*inf.size)(v1:vals.length=news.length)(v2:∀(j:Nat) (u:Value),vals[j]? =some u->C.w.cell? (ad.add j)=some u)(v3:∀j (h:j<news.length) (h':j<vals.length),VR C news[j] vals[j])
 (hmax:m*inf.bytes<=140737488355328)(h1:m<=140737488355328)(h3:C.U id->∃b0,C.η id=some b0/\b0.ver<w)(h9:w≠TV):
 ∃r zz w' v,(Builtin.append_ #[t,t] ty #[.slice none 0 0,.slice (some ad) m c]).run P C.w=.ok v w'/\ReplOk C id r zz ⟨w,news,inf.size,false⟩ w'/\VR (C.repl id r zz ⟨w,news,inf.size,false⟩ w') (.sl id w 0 m) v:=by
 have hr:=run_append_nil (P:=P) C.w t ty e inf z ht hi hz ad m c vals h5 v2 hm (by omega) (by omega)
 have h6:=grownCap_ge C.w m 0 e
 have ha:m<=maxLen:=by unfold maxLen;omega
 have hb:grownCap C.w m 0 e<=maxLen:=grownCap_le_maxLen C.w m 0 e ha
 generalize h0:(vals.toArray++Builtin.zeroCells z.cells (grownCap C.w m 0 e-m))=nc at hr
 have h2:nc.size=grownCap C.w m 0 e*inf.size:=by rw[<-h0];simp only[Array.size_append,List.size_toArray,size_zeroCells,h8,h5,<-Nat.add_mul];congr 1;omega
 have hle:m*inf.size<=grownCap C.w m 0 e*inf.size:=Nat.mul_le_mul_right _ h6
 have h4:∀j (h:j<news.length) (h':j<nc.size),VR C news[j] nc[j]:=by intro j hj hc;have h7:nc[j]? =vals[j]?:=(by rw[<-h0,Array.getElem?_append_left (by simp;omega)];simp);rw[Array.getElem?_eq_getElem hc,agu (by omega)]at h7;rw[Option.some.inj h7];exact v3 j hj (by omega)
 have hd:(C.w.drew.alloc (.cells nc e)).heap[C.w.heap.size]? =some (.cells nc e (0,0)):=heap_alloc_new C.w.drew _
 refine⟨(C.w.heap.size,0),nc.size,_,_,hr,⟨rfl,rfl,rfl,by simp,fun k hk _=>Below.heap_alloc C.w.drew _ k hk,.inr (ag8 _),h3,rfl,fun e=>absurd e h9,nc,e,hd,rfl,by rw[h2];simp;omega,fun j h h'=>by have:=h4 j h (by simpa using h');simpa using this⟩,?_⟩
 have:=VR.sl (C:=C.repl id (C.w.heap.size,0) nc.size ⟨w,news,inf.size,false⟩ (C.w.drew.alloc (.cells nc e))) (id:=id) (ver:=w) (off:=0) (len:=m) (cap:=grownCap C.w m 0 e) (b:=⟨w,news,inf.size,false⟩) (am _ _ _) rfl rfl h6 hb h1
  (by simp[Ctx.repl,h2])
 simpa[Ctx.repl]using this
theorem LOp.append_of{t sz m:Nat}{s x:Operand}{fp:List Nat}{id w:Nat}{news:List AV}(hfid:True)
 (h:∀(C:Ctx) (a:Act),Good C->(∀q∈(Oper.mk d (.call {callee:=.builtin .append,args:=#[s,x],argTypes:=#[t,t]}) ty pos af g).op.operands,VR C (aev τ q) (a.eval q))->(∀id∈fp,C.η id=η id)->(id∉fp->¬C.U id)->
  ∃r zz w' v,(Builtin.append_ #[t,t] ty #[a.eval s,a.eval x]).run P C.w=.ok v w'/\ReplOk C id r zz ⟨w,news,sz,false⟩ w'/\VR (C.repl id r zz ⟨w,news,sz,false⟩ w') (.sl id w 0 m) v):
 LOp P ⟨d,.call {callee:=.builtin .append,args:=#[s,x],argTypes:=#[t,t]},ty,pos,af,g⟩ τ η fp [(id,some ⟨w,news,sz,false⟩)] (.sl id w 0 m):=by
 intro C a hg h2 h3 h0 K Q hK
 obtain⟨r,zz,w',v,hr,h1,h4⟩:=h C a hg h2 h3 (fun h=>h0 (id,some ⟨w,news,sz,false⟩) (by simp) h)
 unfold Oper.wp
 rw[dv C.w hr]
 exact hK v (C.repl id r zz _ w') rfl (fun i=>by simp[Ctx.repl]) (mv hg h1) (mw hg h1) h4
theorem kl{u t e sz by_ m:Nat}{s x:Operand}{z:Value}{fp:List Nat}{news:List AV}(ht:P.underlying t=some (.slice e))(hs:ap P e=some sz)(hz:bi P e=some z)(h2:(P.info? e).map (·.bytes)=some by_)(h7:z.cells.size=sz)
 (hx:aev τ s=.v (.slice none 0 0))(hu:u∉fp)(h3:Src η fp (aev τ x) m news)(hm:0<m)(hnl:news.length=m*sz)(h4:m*by_<=140737488355328)(h1:m<=140737488355328):
 LOp P ⟨d,.call {callee:=.builtin .append,args:=#[s,x],argTypes:=#[t,t]},ty,pos,af,g⟩ τ η fp [(u,some ⟨0,news,sz,false⟩)] (.sl u 0 0 m):=
 .append_of trivial fun C a hg h6 h8 h5=>by
  unfold ap at hs
  unfold bi at hz
  cases hi:P.info? e with
  |none=>rw[hi]at hz;cases hz
  |some inf=>
   rw[hi]at hz hs h2
   simp only[ahq]at hz
   simp only[ahp,agw]at hs h2
   subst hs;subst h2
   have e1:=h6 s (by simp[Op.operands,Call.operands])
   rw[hx]at e1
   rcases h3 C hg h8 _ (h6 x (by simp[Op.operands,Call.operands]))with⟨h0,_⟩|⟨ad,c,vals,h9,v1,v2,v3⟩
   ·omega
   ·rw[e1.v_inv,h9]
    exact yp (by_:=inf.bytes) (sz:=inf.size) hg ht hi hz h7 hm (by omega) v1 v2 v3 h4 h1 (fun h=>absurd h (h5 hu)) (by decide)
theorem xc{t e sz by_:Nat}{s x:Operand}{z:Value}{fp:List Nat}{id ver len m:Nat}{w:Nat}{cs news:List AV}{np:Bool}(ht:P.underlying t=some (.slice e))(hs:ap P e=some sz)(hz:bi P e=some z)(h8:(P.info? e).map (·.bytes)=some by_)(ha:z.cells.size=sz)
 (hx:aev τ s=.sl id ver 0 len)(hb:η id=some ⟨w,cs,sz,np⟩)(hv:w=ver)(h3:cs.length=len*sz)(h4:Src η fp (aev τ x) m news)(hm:0<m)(he:news.length=m*sz)(h1:news.all AV.one=true)
 (h5:(len+m)*by_<=140737488355328)(h2:len+m<=140737488355328)(hc:ver+1≠TV:=by decide):
 LOp P ⟨d,.call {callee:=.builtin .append,args:=#[s,x],argTypes:=#[t,t]},ty,pos,af,g⟩ τ η (id::fp) [(id,some ⟨ver+1,cs++news,sz,false⟩)] (.sl id (ver+1) 0 (len+m)):=by
 cases np with
 |false=>
  have:=LOp.append (P:=P) (τ:=τ) (η:=η) (d:=d) (ty:=ty) (pos:=pos) (af:=af) (g:=g) (x:=x) ht hs hz h8 ha hx hb hv rfl rfl (Nat.le_of_eq h3.symm) h4 he h1 h5 h2 hc
  rw[<-h3,List.take_length]at this
  exact this
 |true=>
  intro C a hg h6 h7 h9 K Q hK
  have hb':C.η id=some ⟨w,cs,sz,true⟩:=(h7 id (by simp)).trans hb
  have e1:=h6 s (by simp[Op.operands,Call.operands])
  rw[hx]at e1
  obtain⟨e2,rfl,hd⟩:=e1.slnil_inv hb' hv rfl
  simp only at hd
  subst hd
  refine LOp.append_of (P:=P) (τ:=τ) (η:=η) (d:=d) (ty:=ty) (pos:=pos) (af:=af) (g:=g) (t:=t) (sz:=sz) (s:=s) (x:=x) (news:=[]++news) (fp:=id::fp) (id:=id) (w:=ver+1) (m:=0+m) trivial (fun C a hg h6 h7 _=>?_) C a hg h6 h7 h9 K Q hK
  have hb':C.η id=some ⟨w,[],sz,true⟩:=(h7 id (by simp)).trans hb
  have e1:=h6 s (by simp[Op.operands,Call.operands])
  rw[hx]at e1
  obtain⟨e2,_,_⟩:=e1.slnil_inv hb' hv rfl
  unfold ap at hs
  unfold bi at hz
  cases hi:P.info? e with
  |none=>rw[hi]at hz;cases hz
  |some inf=>
   rw[hi]at hz hs h8
   simp only[ahq]at hz
   simp only[ahp,agw]at hs h8
   subst hs;subst h8
   rcases h4 C hg (fun i hi=>h7 i (by simp[hi])) _ (h6 x (by simp[Op.operands,Call.operands]))with⟨h0,_⟩|⟨ad,c,vals,hf,v1,v2,v3⟩
   ·omega
   ·rw[e2,hf]
    simp only[List.nil_append,Nat.zero_add]at*
    exact yp (by_:=inf.bytes) (sz:=inf.size) hg ht hi hz ha hm (by omega) v1 v2 v3 h5 h2 (fun _=>⟨_,hb',by simp[hv]⟩) hc
theorem Fo{u t e sz by_:Nat}{s x:Operand}{z:Value}{fp:List Nat}{id len m:Nat}{b:Blk}{news:List AV}(ht:P.underlying t=some (.slice e))(hs:ap P e=some sz)(hz:bi P e=some z)(hc:(P.info? e).map (·.bytes)=some by_)(g4:z.cells.size=sz)
 (hx:aev τ s=.sl id TV 0 len)(hb:η id=some b)(hv:b.ver=TV)(hn:b.nilp=false)(g5:b.esz=sz)(g6:0<sz)(hd:len*sz=b.cs.length)(hpos:0<len)(hu:u∉id::fp)(hh:Src η fp (aev τ x) m news)(hm:0<m)(hnl:news.length=m*sz)
 (hl:(len+m)*by_<=140737488355328)(h7:len+m<=140737488355328):
 LOp P ⟨d,.call {callee:=.builtin .append,args:=#[s,x],argTypes:=#[t,t]},ty,pos,af,g⟩ τ η (id::fp) [(u,some ⟨0,b.cs.take (len*sz)++news,sz,false⟩)] (.sl u 0 0 (len+m)):=by
 refine LOp.append_of (P:=P) (τ:=τ) (η:=η) (d:=d) (ty:=ty) (pos:=pos) (af:=af) (g:=g) (t:=t) (sz:=sz) (s:=s) (x:=x) (news:=b.cs.take (len*sz)++news) (fp:=id::fp) (id:=u) (w:=0) (m:=len+m) trivial (fun C a hg hw g0 ho=>?_)
 have hU:¬C.U u:=ho hu
 have hb':C.η id=some b:=(g0 id (by simp)).trans hb
 have e1:=hw s (by simp[Op.operands,Call.operands])
 rw[hx]at e1
 obtain⟨ad,cap,e2,c1,c2,c3,c4⟩:=e1.sl_inv hb' hv hn
 have h4:=hg.tight hb' hv hn
 unfold ap at hs
 unfold bi at hz
 cases hi:P.info? e with
 |none=>rw[hi]at hz;cases hz
 |some inf=>
  rw[hi]at hz hs hc
  simp only[ahq]at hz
  simp only[ahp,agw]at hs hc
  subst hs;subst hc
  have g1:(b.cs.take (len*inf.size)).length=len*inf.size:=by simp;omega
  have hcap:cap=len:=by rcases c4 with⟨h0,_⟩|⟨_,c4⟩;omega;rw[h4,g5,<-hd]at c4;have h5:cap*inf.size<=len*inf.size:=(by omega);have h6:cap<=len:=Nat.le_of_mul_le_mul_right h5 g6;omega
  rcases hh C hg (fun i hi=>g0 i (by simp[hi])) _ (hw x (by simp[Op.operands,Call.operands]))with⟨h0,_⟩|⟨ad2,c',vals,g7,v1,v2,v3⟩
  ·omega
  ·have g2:vals.length=m*inf.size:=by omega
   obtain⟨f,hf⟩:=d7 (n:=len*inf.size) (p:=fun j y=>C.w.cell? ⟨(C.ρ id).1,(C.ρ id).2+j,none⟩=some y/\∀h:j<b.cs.length,VR C b.cs[j] y) (fun j hj=>by obtain⟨y,hy,g8⟩:=hg.cell hb' hn (j:=j) (by omega);exact⟨y,hy,fun _=>g8⟩)
   have h8:∀(j:Nat) (u:Value),((List.range (len*inf.size)).map f)[j]? =some u->C.w.cell? (ad.add j)=some u:=by intro j u hj;obtain⟨h1,he⟩:=ahn.1 hj;simp only[List.getElem_map,List.getElem_range]at he;subst he;have h9:j<len*inf.size:=(by simpa using h1);rcases c4 with⟨h0,_⟩|⟨rfl,_⟩;subst h0;simp at h9;rw[Addr.add_mid,Nat.add_zero];exact(hf j h9).1
   have h1:cap<len+m:=by omega
   have hr:=run_append_grow (P:=P) C.w t ty e inf z ht hi hz ad len cap ((List.range (len*inf.size)).map f) (by simp) h8 ad2 m c' vals g2 v2 h1 (by omega) (growslice_fits h1 hl)
   rw[<-e2,<-g7]at hr
   have g3:=grownCap_ge C.w (len+m) cap e
   have g9:len+m<=maxLen:=by unfold maxLen;omega
   have ga:grownCap C.w (len+m) cap e<=maxLen:=grownCap_le_maxLen C.w (len+m) cap e g9
   generalize h2:(((List.range (len*inf.size)).map f).toArray++vals.toArray++Builtin.zeroCells z.cells (grownCap C.w (len+m) cap e-(len+m)))=nc at hr
   have ha:nc.size=grownCap C.w (len+m) cap e*inf.size:=by rw[<-h2];simp only[Array.size_append,List.size_toArray,ag0,List.length_range,size_zeroCells,g4,g2,<-Nat.add_mul];congr 1;omega
   have hp:∀j (h:j<(b.cs.take (len*inf.size)++news).length) (h':j<nc.size),VR C (b.cs.take (len*inf.size)++news)[j] nc[j]:=by intro j hj gb;have hjl:j<len*inf.size+news.length:=(by simpa[g1]using hj);have h3:nc[j]? =(((List.range (len*inf.size)).map f)++vals)[j]?:=(by rw[<-h2,Array.getElem?_append_left (by simp;omega)];simp);rw[Array.getElem?_eq_getElem gb]at h3;by_cases h1:j<len*inf.size;have e4:(b.cs.take (len*inf.size)++news)[j]=b.cs[j]'(by omega):=(by rw[List.getElem_append_left (by omega)];simp);rw[List.getElem?_append_left (by simpa using h1)]at h3;simp only[List.getElem?_map,List.getElem?_range h1,ahp,agw]at h3;rw[e4,h3];exact(hf j h1).2 (by omega);obtain⟨q,rfl⟩:∃q,j=len*inf.size+q:=⟨j-len*inf.size,by omega⟩;have hq:q<news.length:=(by omega);have e4:(b.cs.take (len*inf.size)++news)[len*inf.size+q]=news[q]:=(by have:(b.cs.take (len*inf.size)++news)[len*inf.size+q]? =news[q]?:=(by rw[List.getElem?_append_right (by omega)];congr 1;omega);rw[agu hj,agu hq]at this;exact Option.some.inj this);rw[List.getElem?_append_right (by simp)]at h3;simp only[ag0,List.length_range,Nat.add_sub_cancel_left]at h3;rw[agu (by omega)]at h3;rw[e4,Option.some.inj h3];exact v3 q hq (by omega)
   have gc:(C.w.drew.alloc (.cells nc e)).heap[C.w.heap.size]? =some (.cells nc e (0,0)):=heap_alloc_new C.w.drew _
   have gd:ReplOk C u (C.w.heap.size,0) nc.size ⟨0,b.cs.take (len*inf.size)++news,inf.size,false⟩ (C.w.drew.alloc (.cells nc e)):=⟨rfl,rfl,rfl,by simp,fun k hk _=>Below.heap_alloc C.w.drew _ k hk,.inr (ag8 _),fun h=>absurd h hU,rfl,fun e=>absurd e (by show¬((0:Nat)=TV);decide),nc,e,gc,rfl,by rw[ha];have:(len+m)*inf.size<=grownCap C.w (len+m) cap e*inf.size:=Nat.mul_le_mul_right _ g3;rw[Nat.add_mul]at this;simp[g1];omega,fun j h h'=>by have:=hp j h (by simpa using h');simpa using this⟩
   refine⟨(C.w.heap.size,0),nc.size,_,_,hr,gd,?_⟩
   have:=VR.sl (C:=C.repl u (C.w.heap.size,0) nc.size ⟨0,b.cs.take (len*inf.size)++news,inf.size,false⟩ (C.w.drew.alloc (.cells nc e))) (id:=u) (ver:=0) (off:=0) (len:=len+m) (cap:=grownCap C.w (len+m) cap e) (b:=⟨0,b.cs.take (len*inf.size)++news,inf.size,false⟩) (am _ _ _) rfl rfl g3 ga h7
    (by simp[Ctx.repl,ha])
   simpa[Ctx.repl]using this
end
theorem SRel.lazy{N:Nat}{C:Ctx}{s:St}{a:Act}(h:SRel N C s a)(z:Nat)(ht:Nat.ble (s.u+1) TOP=true):∃C',C'.w=C.w/\Fr C C'/\Good C'/\(∀{v x},VR C v x->VR C' v x)/\VR C' (.sl s.u 0 0 0) (.slice none 0 0)/\C'.η=s.η.set s.u (some ⟨0,[],z,true⟩)/\(∀id,C'.U id->id<s.u+1\/TOP<=id)/\C'.ρ=C.ρ/\C'.sz=C.sz/\C'.T=C.T:=by
 have h8:¬C.U s.u:=fun hu=>by have:=h.u _ hu;have:=aha ht;omega
 let C':Ctx:={C with η:=C.η.set s.u (some ⟨0,[],z,true⟩),U:=fun i=>C.U i\/i=s.u}
 have hl:∀{i b'},C'.η i=some b'->(i=s.u/\b'=⟨0,[],z,true⟩)\/(i≠s.u/\C.η i=some b'):=by
  intro i b' hb';by_cases e:i=s.u;subst e;have:=hb';simp only[C']at this;rw[am]at this;cases this;exact .inl ⟨rfl,rfl⟩
  have:=hb';simp only[C']at this;rw[aq _ _ e]at this;exact .inr ⟨e,this⟩
 have h0:∀{i},C'.live i->C.live i:=by
  rintro i ⟨b',hb',h4⟩;rcases hl hb' with⟨_,rfl⟩|⟨_,hb'⟩;exact absurd rfl h4;exact⟨b',hb',h4⟩
 have h5:∀{k},C'.mine k->C.mine k:=fun⟨i,h1,h2⟩=>⟨i,h0 h1,h2⟩
 have he:Ev C C':=by
  refine⟨⟨rfl,rfl,rfl,ag8 _,fun _ _ _=>rfl,fun k hk=>.inl (h5 hk),fun _ h=>h,fun _ h=>.inl h⟩,fun _ h=>.inl h,fun i b' h6 hb'=>?_⟩;rcases hl hb' with⟨rfl,_⟩|⟨_,hb'⟩;exact absurd h6 h8;exact⟨b',hb',ag8 _,fun _=>⟨rfl,rfl,rfl,rfl⟩⟩
 have h7:∀{v x},VR C v x->VR C' v x:=fun hv=>hv.mono h.good he
 have h9:Good C':=by
  refine⟨?_,?_,?_,fun h1 h2 h3=>h.good.inj (h0 h1) (h0 h2) h3,h.good.tok,fun hk=>h.good.apart (h5 hk),fun hb' ha h4=>?_⟩;intro i b' hb';rcases hl hb' with⟨rfl,_⟩|⟨_,hb'⟩;exact .inr rfl;exact .inl (h.good.used hb');intro i b' hb' h4;rcases hl hb' with⟨_,rfl⟩|⟨_,hb'⟩;cases h4;obtain⟨ob,h1,h2⟩:=h.good.obj hb' h4;exact⟨ob,h1,h2.mono h.good he⟩;intro i b' hb' h4;rcases hl hb' with⟨_,rfl⟩|⟨_,hb'⟩;cases h4;obtain⟨c,t',g1,g2,g3,g4⟩:=h.good.blk hb' h4;exact⟨c,t',g1,g2,g3,fun j hj hb=>h7 (g4 j hj hb)⟩;rcases hl hb' with⟨_,rfl⟩|⟨_,hb'⟩;cases h4;exact h.good.tight hb' ha h4
 refine⟨C',rfl,he.toFr,h9,h7,.slnil (b:=⟨0,[],z,true⟩) (am _ _ _) rfl rfl,by simp only[C',h.η],fun id h6=>?_,rfl,rfl,rfl⟩;rcases h6 with h1|h1;have:=h.u id h1
 omega;omega
section
variable{P:Program}{N:Nat}{Q:Exit->St->Prop}{τ:Nat->AV}{η:bf}{u:Nat}
theorem ic{c:Code}(t z:Nat)(h:τ t=.v (.slice none 0 0))(u':Nat)(hu:(Nat.beq u' (u+1)&&Nat.ble u' TOP)=true)(hc:AWP P N c Q ⟨upd τ t (.sl u 0 0 0),η.set u (some ⟨0,[],z,true⟩),u'⟩):AWP P N c Q ⟨τ,η,u⟩:=by
 obtain⟨rfl,ht⟩:=Lg hu
 intro C a hr
 obtain⟨C',hw,hf,hg,hv,h0,hη,hU,_⟩:=hr.lazy z ht
 have h5:SRel N C' ⟨upd τ t (.sl u 0 0 0),η.set u (some ⟨0,[],z,true⟩),u+1⟩ a:=by
  refine⟨hg,hη,hU,hr.defers,hr.size,fun q=>?_⟩
  by_cases e:q=t
  ·subst e
   have e1:upd τ q (.sl u 0 0 0) q=.sl u 0 0 0:=by simp[upd]
   have e2:=hr.τ q
   simp only at e2
   rw[h]at e2
   show VR C' (upd τ q (.sl u 0 0 0) q) _
   rw[e1,e2.v_inv];exact h0
  ·have e1:upd τ t (.sl u 0 0 0) q=τ q:=by
    have:Nat.beq q t=false:=by
     cases hb:Nat.beq q t with
     |false=>rfl
     |true=>exact absurd (agv hb) e
    simp[upd,this]
   show VR C' (upd τ t (.sl u 0 0 0) q) _
   rw[e1];exact hv (hr.τ q)
 have:=hc C' a h5
 rw[hw]at this
 exact Code.wp_mono (fun e a' w' ⟨s',C'',h1,h2,h3,h4⟩=>⟨s',C'',h1,h2,h3,hf.trans h4⟩) this
theorem dc{c:Code}(id j z:Nat){w:Nat}{cs ds:List AV}{ez:Nat}{np:Bool}(h:η id=some ⟨w,cs,ez,np⟩)(hn:np=false)(hj:cs[j]? =some (.v (.slice none 0 0)))(hd:t6 j cs [.sl u 0 0 0]=some ds)(hm:si u id=true)(u':Nat)(hu:(Nat.beq u' (u+1)&&Nat.ble u' TOP)=true)
 (hc:AWP P N c Q ⟨τ,(η.set u (some ⟨0,[],z,true⟩)).set id (some ⟨w,ds,ez,np⟩),u'⟩):AWP P N c Q ⟨τ,η,u⟩:=by
 obtain⟨rfl,ht⟩:=Lg hu
 subst hn
 intro C a hr
 obtain⟨C',hw,hf,hg,hv,h9,hη,hU,hρ,hsz,hT⟩:=hr.lazy z ht
 have ha:id≠u:=by have:=aag.1 hm;have:=aha ht;omega
 have hb:C.η id=some ⟨w,cs,ez,false⟩:=by rw[hr.η];exact h
 have hb':C'.η id=some ⟨w,cs,ez,false⟩:=by rw[hη,aq _ _ ha];exact h
 obtain⟨p1,p2⟩:=qp _ _ _ _ hd
 have hjl:j<cs.length:=by simp only[ahf,ahg]at p1;omega
 have hp:ds.length=cs.length:=by rw[p2];exact dz p1
 have hq:∀i (hi:i<ds.length) (h8:i<cs.length),ds[i]=if i=j then .sl u 0 0 0 else cs[i]:=by
  intro i hi h8
  have:ds[i]? =if i=j then some (.sl u 0 0 0)else cs[i]?:=by
   rw[p2];simp only[bg,ahf,ahg];by_cases e:i=j;subst e;rw[ag2 rfl,List.getElem?_append_left (by simp;omega),List.getElem?_append_right (by simp;omega)];have:i-(cs.take i).length=0:=by simp;omega
   rw[this];rfl;rw[ag1 e];by_cases hs:i<j;rw[List.getElem?_append_left (by simp;omega),List.getElem?_append_left (by simp;omega),List.getElem?_take_of_lt hs];rw[List.getElem?_append_right (by simp;omega),List.getElem?_drop];congr 1;simp;omega
  rw[agu hi]at this;by_cases e:i=j;rw[ag2 e]at this ⊢;exact Option.some.inj this;rw[ag1 e,agu h8]at this;rw[ag1 e];exact Option.some.inj this
 let C2:Ctx:={C' with η:=C'.η.set id (some ⟨w,ds,ez,false⟩)}
 have hl:∀{i b'},C2.η i=some b'->(i=id/\b'=⟨w,ds,ez,false⟩)\/(i≠id/\C'.η i=some b'):=by
  intro i b' hb';by_cases e:i=id;subst e;have:=hb';simp only[C2]at this;rw[am]at this;cases this;exact .inl ⟨rfl,rfl⟩
  have:=hb';simp only[C2]at this;rw[aq _ _ e]at this;exact .inr ⟨e,this⟩
 have h5:∀{i},C2.live i->C'.live i:=by rintro i ⟨b',h0,h6⟩;rcases hl h0 with⟨rfl,rfl⟩|⟨_,h0⟩;exact⟨_,hb',di rfl⟩;exact⟨b',h0,h6⟩
 have h7:∀{k},C2.mine k->C'.mine k:=fun⟨i,h1,h2⟩=>⟨i,h5 h1,h2⟩
 have he:Ev C' C2:=by refine⟨⟨rfl,rfl,rfl,ag8 _,fun _ _ _=>rfl,fun k hk=>.inl (h7 hk),fun _ h=>h,fun _ h=>.inl h⟩,fun _ h=>h,fun i b' hm h0=>?_⟩;rcases hl h0 with⟨rfl,rfl⟩|⟨_,h0⟩;exact⟨_,hb',ag8 _,fun _=>⟨rfl,rfl,rfl,rfl⟩⟩;exact⟨b',h0,ag8 _,fun _=>⟨rfl,rfl,rfl,rfl⟩⟩
 have hx:Good C2:=by refine⟨?_,?_,?_,fun h1 h2 h3=>hg.inj (h5 h1) (h5 h2) h3,hg.tok,fun hk=>hg.apart (h7 hk),fun h0 ho h6=>?_⟩;intro i b' h0;rcases hl h0 with⟨rfl,_⟩|⟨_,h0⟩;exact hg.used hb';exact hg.used h0;intro i b' h0 h6;rcases hl h0 with⟨_,rfl⟩|⟨_,h0⟩;cases h6;obtain⟨ob,h1,h2⟩:=hg.obj h0 h6;exact⟨ob,h1,h2.mono hg he⟩;intro i b' h0 h6;rcases hl h0 with⟨rfl,rfl⟩|⟨_,h0⟩;obtain⟨c,t',g1,g2,g3,g4⟩:=hg.blk hb' rfl;refine⟨c,t',g1,g2,by show(C'.ρ i).2+ds.length<=c.size;simp only at g3;omega,fun i' hi h8=>?_⟩;have hh:i'<cs.length:=(by simp only at hi;omega);have:=g4 i' hh h8;simp only at this ⊢;rw[hq i' hi hh];split;rename_i e;subst e;have e2:cs[i']=.v (.slice none 0 0):=(by rw[agu hh]at hj;exact Option.some.inj hj);rw[e2]at this;have e3:=this.v_inv;have e4:c[(C2.ρ i).2+i']'h8=.slice none 0 0:=e3;rw[e4];exact h9.mono hg he;exact this.mono hg he;obtain⟨c,t',g1,g2,g3,g4⟩:=hg.blk h0 h6;exact⟨c,t',g1,g2,g3,fun j hj hy=>(g4 j hj hy).mono hg he⟩;rcases hl h0 with⟨rfl,rfl⟩|⟨_,h0⟩;have:=hg.tight hb' ho rfl;simp only at this ⊢;show C'.sz _=(C'.ρ _).2+ds.length;rw[hp];exact this;exact hg.tight h0 ho h6
 have hz:SRel N C2 ⟨τ,(η.set u (some ⟨0,[],z,true⟩)).set id (some ⟨w,ds,ez,false⟩),u+1⟩ a:=
  ⟨hx,by simp only[C2,hη],hU,hr.defers,hr.size,fun q=>(hv (hr.τ q)).mono hg he⟩
 have:=hc C2 a hz
 rw[show C2.w=C.w from hw]at this
 exact Code.wp_mono (fun e a' w' ⟨s',C'',h1,h2,h3,h4⟩=>⟨s',C'',h1,h2,h3,(hf.trans he.toFr).trans h4⟩) this
end
section
variable{P:Program}{τ:Nat->AV}{η:bf}{d:Option Tmp}{ty:TypeId}{pos:String}{af:Array Edge}{g:Option (Nat×Bool)}
def Ctx.given(C:Ctx)(fp:List Nat)(T':Nat->Prop)(w':World):Ctx:={C with η:=C.η.put (fp.map fun id=>(id,none)),T:=T',w:=w'}
theorem zm(η:bf):∀(fp:List Nat) (id:Nat),(η.put (fp.map fun id=>(id,none))) id=if id∈fp then none else η id:=by
 intro fp id
 rw[Gc]
 have:∀fp:List Nat,ja (fp.map fun id=>((id,none):Nat×Option Blk)) id=if id∈fp then some none else none:=by
  intro fp
  induction fp with
  |nil=>rfl
  |cons a r ih=>
   simp only[ahh,ja,ih,ahk]
   by_cases h:id∈r
   ·simp[h]
   ·by_cases e:a=id
    ·subst e;simp[h]
    ·have e':¬id=a:=fun h=>e h.symm
     simp[h,e,e']
 rw[this fp]
 by_cases h:id∈fp<;>simp[h]
theorem On{f:FuncId}{xs:Array Operand}{ats:Array TypeId}{ret:AV}{args:List AV}(fp:List Nat)(hb:bv P f=true)(hl:xs.size=args.length)(hf:∀i (h:i<xs.size) (h':i<args.length),FzP fp η (aev τ xs[i]) args[i])(h5:∀id∈fp,(η id).isSome=true)(hc:eu P f args ret):
 LOp P ⟨d,.call {callee:=.value (.func f),args:=xs,argTypes:=ats},ty,pos,af,g⟩ τ η fp (fp.map fun id=>(id,none)) ret:=by
 intro C a hg hh he _ K Q hK
 have h6:TRs (fun b=>C.T b\/C.mineOf fp b) C.w args (xs.map a.eval):=⟨by simp;omega,fun i h h'=>by simp only[Array.getElem_map];have h'':i<xs.size:=(by simpa using h');exact hf i h'' h C hg he _ (hh _ (by simp[Op.operands,Call.operands]))⟩
 have ha:(execOp a.eval ⟨d,.call {callee:=.value (.func f),args:=xs,argTypes:=ats},ty,pos,af,g⟩).run P C.w=.ok (.enter f (xs.map a.eval)) C.w:=by have:execOp a.eval ⟨d,.call {callee:=.value (.func f),args:=xs,argTypes:=ats},ty,pos,af,g⟩=callFunc f (#[]++xs.map a.eval++#[]):=rfl;rw[this,d9 hb];simp
 unfold Oper.wp
 rw[ha]
 refine Calls.mono (hc (fun b=>C.T b\/C.mineOf fp b) C.w _ h6 (hg.tokT (fun _ h=>.inl h) (fun b hb=>hb.elim (fun h=>hg.tlt h) (fun h=>cr hg (bj h))))) ?_
 rintro e w' ⟨x,T',rfl,hx,t1,t2,t3,h0⟩
 have hl:∀{i b'},(C.given fp T' w').η i=some b'->i∉fp/\C.η i=some b':=by intro i b' hb';have:=hb';simp only[Ctx.given]at this;rw[zm]at this;by_cases e:i∈fp;rw[ag2 e]at this;cases this;rw[ag1 e]at this;exact⟨e,this⟩
 have h4:∀{i},(C.given fp T' w').live i->i∉fp/\C.live i:=fun⟨b',h1,h2⟩=>⟨(hl h1).1,b',(hl h1).2,h2⟩
 have h7:∀{k},(C.given fp T' w').mine k->C.mine k:=fun⟨i,h1,h2⟩=>⟨i,(h4 h1).2,h2⟩
 have h9:Ev C (C.given fp T' w'):=by refine⟨⟨h0.os,h0.tape,h0.output,h0.size,fun k hk _=>h0.block k hk,fun k hk=>.inl (h7 hk),fun k hk=>t1 k (.inl hk),fun k hk=>?_⟩,fun _ h=>h,fun i b' _ hb'=>⟨b',(hl hb').2,ag8 _,fun _=>⟨rfl,rfl,rfl,rfl⟩⟩⟩;rcases t2 k hk with(h|h)|h;exact .inl h;exact .inr (.inl (bj h));exact .inr (.inr h)
 have h8:Good (C.given fp T' w'):=by refine⟨fun hb'=>hg.used (hl hb').2,fun{i b'} hb' hn=>by obtain⟨ob,g1,g2⟩:=hg.obj (hl hb').2 hn;exact⟨ob,(h0.block _ (Array.getElem?_eq_some_iff.1 g1).1).trans g1,g2.mono hg h9⟩,by intro i b' hb' hn;obtain⟨c,t',g1,g2,g3,g4⟩:=hg.blk (hl hb').2 hn;exact⟨c,t',(h0.block _ (Array.getElem?_eq_some_iff.1 g1).1).trans g1,g2,g3,fun j hj hm=>(g4 j hj hm).mono hg h9⟩,fun h1 h2 h3=>hg.inj (h4 h1).2 (h4 h2).2 h3,hg.tokE h9.toFr0 t3,?_,fun hb' hv hn=>hg.tight (hl hb').2 hv hn⟩;rintro k ⟨i,h1,rfl⟩ hT;obtain⟨ho,hd⟩:=h4 h1;rcases t2 _ hT with(h|⟨i',hp,hq,e⟩)|h;exact hg.apart ⟨i,hd,rfl⟩ h;have:=hg.inj hq hd e;subst this;exact ho hp;have:=cr hg ⟨i,hd,rfl⟩;have h':C.w.heap.size<=(C.ρ i).1:=h;omega
 refine hK x (C.given fp T' w') rfl (fun id=>?_) h8 h9 (.imm hx)
 simp only[Ctx.given,List.map_map,ahj,Function.comp]
 constructor
 ·exact fun h=>.inl h
 ·rintro(h|⟨i,hi,rfl⟩)
  ·exact h
  ·have h1:=h5 i hi
   rw[<-he i hi]at h1
   obtain⟨b,hb⟩:=Option.isSome_iff_exists.1 h1
   exact hg.used hb
theorem LOp.extract{x:Operand}{i:Nat}{cs:List AV}{v:AV}(hx:aev τ x=.tup cs)(hv:cs[i]? =some v):LOp P ⟨d,.extract x i,ty,pos,af,g⟩ τ η [] [] v:=
 .look [] fun C a _ h4 _=>by have h1:=h4 x (by simp[Op.operands]);rw[hx]at h1;obtain⟨vs,e,h2,h3⟩:=h1.tup_inv;obtain⟨h5,he⟩:=ahn.1 hv;have h0:i<vs.size:=(by omega);refine⟨vs[i],?_,by rw[<-he];exact h3 i h5 h0⟩;simp[execOp,e,Instr.extract,h0]
end
section
variable{P:Program}{N:Nat}{ops:Array Oper}{l:List Oper}{K:St->Prop}{KD:List Rec->St->Prop}{τ:Nat->AV}{η:bf}{u:Nat}{op:Op}{ty:TypeId}{pos:String}{af:Array Edge}{g:Option (Nat×Bool)}
theorem A4{d:Nat}{fp:List Nat}{δ:List (Nat×Option Blk)}{v:AV}(hL:LOp P ⟨some d,op,ty,pos,af,g⟩ τ η fp δ v)(hw:m3 ops τ ⟨some d,op,ty,pos,af,g⟩=some true)(hd:iv N ops ⟨some d,op,ty,pos,af,g⟩=true)(u':Nat)(hu:Nat.ble u u'=true)(hn:zt fp δ u u'=true)
 (h:A7 P N ops l K ⟨upd τ d v,η.put δ,u'⟩):A7 P N ops (⟨some d,op,ty,pos,af,g⟩::l) K ⟨τ,η,u⟩:=
 A7.op (s:=⟨τ,η,u⟩) u' hL hw hd hu hn h
end
section
variable{P:Program}{τ:Nat->AV}{η:bf}{d:Option Tmp}{ty:TypeId}{pos:String}{af:Array Edge}{g:Option (Nat×Bool)}
theorem Fm{t e sz:Nat}{s x:Operand}{fp:List Nat}{news:List AV}(ht:P.underlying t=some (.slice e))(hs:ap P e=some sz)(hx:aev τ s=.v (.slice none 0 0))(h0:Src η fp (aev τ x) 0 news)(hn:news=[]):
 LOp P ⟨d,.call {callee:=.builtin .append,args:=#[s,x],argTypes:=#[t,t]},ty,pos,af,g⟩ τ η fp [] (.v (.slice none 0 0)):=
 .look fp fun C a hg h2 h3=>by
  unfold ap at hs
  cases hi:P.info? e with
  |none=>rw[hi]at hs;cases hs
  |some inf=>
   have e1:=h2 s (by simp[Op.operands,Call.operands])
   rw[hx]at e1
   have e0:=e1.v_inv
   rcases h0 C hg h3 _ (h2 x (by simp[Op.operands,Call.operands]))with⟨_,_,ad,c,h1⟩|⟨ad,c,vals,h1,_⟩
   ·refine⟨.slice none 0 0,dv C.w ?_,VR.v C _⟩
    rw[e0,h1]
    exact cz (P:=P) (ty:=ty) ht hi C.w none ad 0 0 c (ag8 _)
   ·refine⟨.slice none 0 0,dv C.w ?_,VR.v C _⟩
    rw[e0,h1]
    exact cz (P:=P) (ty:=ty) ht hi C.w none (some ad) 0 0 c (ag8 _)
theorem qi{η:bf}{α:Type}{n m:Nat}{f:α->List AV}{l:List α}(hm:l.length=m):Src η [] (.tree n (l.map f)) m (l.map f).flatten:=by grind[Src.tree,ag0]
theorem H7{P:Program}{t:TypeId}(hu:P.underlying t=some .bool)(p q:Bool)(n:Nat)(w:World):(Op.equalIn (n+1) t (.bool p) (.bool q)).run P w=.ok (p==q) w:=by simp only[Op.equalIn,Sem.run_bind,run_underlying hu,ahc,ahd]
theorem vk{P:Program}{t:TypeId}(hu:P.underlying t=some .bool)(p q:Bool)(w:World):(Op.equal t (.bool p) (.bool q)).run P w=.ok (p==q) w:=H7 hu p q 9999 w
theorem Xy{t t':Nat}{x y:Operand}{p q:Bool}(hx:aev τ x=.v (.bool p))(hy:aev τ y=.v (.bool q))(hu:P.underlying t=some .bool):
 LOp P ⟨d,.binOp .eql t x y t',ty,pos,af,g⟩ τ η [] [] (.v (.bool (p==q))):=
 .look [] fun C a _ h0 _=>by have e1:=h0 x (by simp[Op.operands]);have e2:=h0 y (by simp[Op.operands]);rw[hx]at e1;rw[hy]at e2;refine⟨.bool (p==q),?_,VR.v C _⟩;have h:(binOp .eql t (.bool p) (.bool q)).run P C.w=.ok (.bool (p==q)) C.w:=(by show((do pure (.bool (<-Op.equal t (.bool p) (.bool q))):Sem Value)).run P C.w=_;simp only[Sem.run_bind,vk hu,ahc,ahd]);have h2:(eqGuard .eql t x y (.bool p) (.bool q))=pure ():=rfl;simp only[execOp,e1.v_inv,e2.v_inv,h2,Sem.run_bind,ahd,ahc,h]
theorem Xx{t t':Nat}{x y:Operand}{p q:Bool}(hx:aev τ x=.v (.bool p))(hy:aev τ y=.v (.bool q))(hu:P.underlying t=some .bool):
 LOp P ⟨d,.binOp .neq t x y t',ty,pos,af,g⟩ τ η [] [] (.v (.bool (!(p==q)))):=
 .look [] fun C a _ h0 _=>by have e1:=h0 x (by simp[Op.operands]);have e2:=h0 y (by simp[Op.operands]);rw[hx]at e1;rw[hy]at e2;refine⟨.bool (!(p==q)),?_,VR.v C _⟩;have h:(binOp .neq t (.bool p) (.bool q)).run P C.w=.ok (.bool (!(p==q))) C.w:=(by show((do pure (.bool (!(<-Op.equal t (.bool p) (.bool q)))):Sem Value)).run P C.w=_;simp only[Sem.run_bind,vk hu,ahc,ahd]);have h2:(eqGuard .neq t x y (.bool p) (.bool q))=pure ():=rfl;simp only[execOp,e1.v_inv,e2.v_inv,h2,Sem.run_bind,ahd,ahc,h]
theorem cx{α:Type}{fp:List Nat}{η:bf}{id ver w n len:Nat}{cs:List AV}{ez:Nat}{np:Bool}{f:α->List AV}{l:List α}(h1:id∈fp)(hb:η id=some ⟨w,cs,ez,np⟩)(hv:w=ver)(hn:np=false)(hz:ez=n)(h2:cs=(l.map f).flatten)(hl:l.length=len)(hf:∀a∈l,(f a).length=n/\km (f a)=true):
 FzP fp η (.sl id ver 0 len) (.tree n (l.map f)):=by
 subst hz;subst hn;subst hv;subst h2
 have h0:∀k (h:k<(l.map f).length),(l.map f)[k].length=ez:=fun k h=>by simp;exact(hf _ (agt _)).1
 refine FzP.sl (b:=⟨w,(l.map f).flatten,ez,false⟩) h1 hb rfl rfl (by simpa using hl) h0 (fun k h j h'=>?_)
 have hj:j<ez:=by rw[h0 k h]at h';exact h'
 have h3:k*ez+j<(l.map f).length*ez:=by have:(k+1)*ez<=(l.map f).length*ez:=Nat.mul_le_mul_right _ h;rw[Nat.add_mul]at this;omega
 obtain⟨g1,g2,g3,g4⟩:=im (l.map f) h0 (k*ez+j) h3
 have h4:0<ez:=by omega
 have e1:(k*ez+j)/ez=k:=by rw[Nat.mul_comm,Nat.mul_add_div h4,Nat.div_eq_of_lt hj,Nat.add_zero]
 have e2:(k*ez+j)%ez=j:=by rw[Nat.mul_comm,Nat.mul_add_mod,Nat.mod_eq_of_lt hj]
 refine⟨(l.map f)[k][j],?_,FzP.pure ?_⟩
 ·rw[Nat.zero_add,agu g3,g4]
  simp only[e1,e2]
 ·have:=(hf (l[k]'(by simpa using h)) (agt _)).2
  exact oo (by simpa using this) j h'
end
end Go.Proofs.YtmbmbhkemgmhfaaGreatDoor
namespace Go.Proofs.YtmbmbhkemgmhfaaGreatDoor
set_option linter.unusedVariables false
set_option linter.unusedSimpArgs false
open Go.RowKit
inductive Tri(α:Type) where
 |nil:Tri α
 |node:Option α->Tri α->Tri α->Tri α
def xm:Nat->Nat->List Bool
 |0,_=>[]
 |d+1,k=>bif Nat.beq k 0 then[]else bif Nat.beq (k%2) 1 then true::xm d (k/2)else false::xm d (k/2-1)
def dp{α:Type}:List Bool->Tri α->Option α
 |[],t=>match t with
  |.nil=>none
  |.node v _ _=>v
 |b::p,t=>match t with
  |.nil=>none
  |.node _ l r=>match b with
   |true=>dp p l
   |false=>dp p r
def cj{α:Type}:List Bool->Tri α->α->Option (Tri α)
 |[],t,a=>match t with
  |.nil=>some (.node (some a) .nil .nil)
  |.node _ l r=>some (.node (some a) l r)
 |b::p,t,a=>match t with
  |.nil=>match b with
   |true=>(match cj p .nil a with|some l=>some (.node none l .nil)|none=>none)
   |false=>(match cj p .nil a with|some r=>some (.node none .nil r)|none=>none)
  |.node v l r=>match b with
   |true=>(match cj p l a with|some l=>some (.node v l r)|none=>none)
   |false=>(match cj p r a with|some r=>some (.node v l r)|none=>none)
def Tri.get{α:Type}(t:Tri α)(k:Nat):Option α:=bif Nat.ble k 16777214 then dp (xm 24 k) t else none
def Tri.set{α:Type}(d:Nat)(t:Tri α)(k:Nat)(a:α):Option (Tri α):=bif Nat.ble k 16777214 then cj (xm 24 k) t a else none
theorem wt(a b:Nat):Nat.beq a b=decide (a=b):=by grind[Nat.beq,agv,Nat.ne_of_beq_eq_false]
theorem vt:∀(d i k:Nat),i+1<2^d->k+1<2^d->xm d i=xm d k->i=k
 |0,i,k,hi,_,_=>by simp at hi
 |d+1,i,k,hi,hk,h=>by have hp:2^(d+1)=2*2^d:=(by rw[Nat.pow_succ];omega);simp only[xm,wt]at h;by_cases i0:i=0;by_cases k0:k=0;omega;by_cases k1:k%2=1<;>simp[i0,k0,k1]at h;by_cases k0:k=0;by_cases i1:i%2=1<;>simp[i0,k0,i1]at h;by_cases i1:i%2=1;by_cases k1:k%2=1;simp only[i0,k0,i1,k1,decide_false,decide_true,cond_false,cond_true,List.cons.injEq,true_and]at h;have:=vt d (i/2) (k/2) (by omega) (by omega) h;omega;simp[i0,k0,i1,k1]at h;by_cases k1:k%2=1;simp[i0,k0,i1,k1]at h;simp only[i0,k0,i1,k1,decide_false,cond_false,List.cons.injEq,true_and]at h;have:=vt d (i/2-1) (k/2-1) (by omega) (by omega) h;omega
theorem kw{α:Type}(p:List Bool):dp (α:=α) p .nil=none:=by cases p<;>rfl
theorem jd{α:Type}:∀(p:List Bool) (t t':Tri α) (a:α),cj p t a=some t'->∀q,dp q t'=if q=p then some a else dp q t
 |[],t,t',a,h,q=>by
  cases t with
  |nil=>
   simp only[cj,agw]at h
   subst h
   cases q with
   |nil=>simp[dp]
   |cons b q=>cases b<;>simp[dp,kw]
  |node v l r=>
   simp only[cj,agw]at h
   subst h
   cases q with
   |nil=>simp[dp]
   |cons b q=>cases b<;>simp[dp]
 |b::p,t,t',a,h,q=>by
  cases t with
  |nil=>
   cases b with
   |true=>
    simp only[cj]at h
    cases hs:cj p .nil a with
    |none=>rw[hs]at h;cases h
    |some l=>
     rw[hs]at h
     simp only[agw]at h
     subst h
     cases q with
     |nil=>simp[dp]
     |cons c q=>
      have:=jd p _ _ _ hs q
      cases c<;>simp[dp,kw]at this ⊢<;>exact this
   |false=>
    simp only[cj]at h
    cases hs:cj p .nil a with
    |none=>rw[hs]at h;cases h
    |some r=>
     rw[hs]at h
     simp only[agw]at h
     subst h
     cases q with
     |nil=>simp[dp]
     |cons c q=>
      have:=jd p _ _ _ hs q
      cases c<;>simp[dp,kw]at this ⊢<;>exact this
  |node v l r=>
   cases b with
   |true=>
    simp only[cj]at h
    cases hs:cj p l a with
    |none=>rw[hs]at h;cases h
    |some l'=>
     rw[hs]at h
     simp only[agw]at h
     subst h
     cases q with
     |nil=>simp[dp]
     |cons c q=>
      have:=jd p _ _ _ hs q
      cases c<;>simp[dp]at this ⊢<;>exact this
   |false=>
    simp only[cj]at h
    cases hs:cj p r a with
    |none=>rw[hs]at h;cases h
    |some r'=>
     rw[hs]at h
     simp only[agw]at h
     subst h
     cases q with
     |nil=>simp[dp]
     |cons c q=>
      have:=jd p _ _ _ hs q
      cases c<;>simp[dp]at this ⊢<;>exact this
theorem wy{α:Type}(d:Nat)(t t':Tri α)(k:Nat)(a:α)(h:Tri.set d t k a=some t')(i:Nat):t'.get i=bif Nat.beq i k then some a else t.get i:=by
 unfold Tri.set at h
 cases hk:Nat.ble k 16777214 with
 |false=>rw[hk]at h;simp at h
 |true=>
  rw[hk]at h
  simp only[cond_true]at h
  have hk':=aha hk
  unfold Tri.get
  cases hi:Nat.ble i 16777214 with
  |false=>
   have:¬i=k:=fun e=>by rw[e,hk]at hi;cases hi
   simp[wt,this]
  |true=>
   have hi':=aha hi
   simp only[cond_true]
   rw[jd _ _ _ _ h]
   by_cases e:i=k
   ·subst e;simp[wt]
   ·have:¬xm 24 i=xm 24 k:=fun hp=>e (vt 24 i k (by omega) (by omega) hp)
    simp[wt,this,e]
structure ES where
 t:Tri AV
 h:Tri (Option Blk)
 u:Nat
def bc(t:Tri AV):Nat->AV:=fun i=>match t.get i with|some a=>a|none=>.v undef
def be(h:Tri (Option Blk)):bf:=fun i=>match h.get i with|some b=>b|none=>none
theorem wz{α:Type}(i:Nat):Tri.get (.nil:Tri α) i=none:=by unfold Tri.get;rw[kw];cases Nat.ble i 16777214<;>rfl
theorem J4(i:Nat):bc .nil i=.v undef:=by unfold bc;rw[wz]
theorem u5:be .nil=fun _=>none:=by funext i;unfold be;rw[wz]
def ES.st(E:ES):St:=⟨bc E.t,be E.h,E.u⟩
theorem lf{h h':Tri (Option Blk)}{k:Nat}{b:Option Blk}(e:Tri.set 24 h k b=some h'):be h'=(be h).set k b:=by funext i;simp only[be,bf.set,wy _ _ _ _ _ e i];cases Nat.beq i k<;>rfl
theorem u3{t t':Tri AV}{k:Nat}{v:AV}(e:Tri.set 24 t k v=some t'):bc t'=upd (bc t) k v:=by funext i;simp only[bc,upd,wy _ _ _ _ _ e i];cases Nat.beq i k<;>rfl
def aco:=Oper->ES->Option Rec
def aco.Ok(P:Program)(f:aco):Prop:=∀o E r,f o E=some r->LOp P o E.st.τ E.st.η r.fp r.δ r.v
theorem A7.up{P:Program}{N:Nat}{ops:Array Oper}{l:List Oper}{K:St->Prop}{τ:Nat->AV}{η:bf}{u u':Nat}(hu:u<=u')(h:A7 P N ops l K ⟨τ,η,u'⟩):A7 P N ops l K ⟨τ,η,u⟩:=
 fun C a Q hr hK=>h C a Q ⟨hr.good,hr.η,fun id h0=>(hr.u id h0).imp (fun h=>Nat.lt_of_lt_of_le h hu) (fun h=>h),hr.defers,hr.size,hr.τ⟩ hK
theorem Fq{P:Program}{N:Nat}{ops:Array Oper}:∀{l:List Oper} {s s':St} {rs:List Rec} {K:St->Prop},Seq P N ops l s rs s'->K s'->A7 P N ops l K s:=by
 intro l s s' rs K h hk
 induction h with
 |nil=>exact oN hk
 |cons hf _ ih=>
  rename_i o l s s' r rs _
  obtain⟨hd,hu,h|h⟩:=hf
  ·exact A7.op r.u h.2.1 h.1 hd (by rw[Nat.ble_eq];exact hu) h.2.2 (ih hk)
  ·obtain⟨hw,h1,h2,h3⟩:=h
   refine A7.skip hw hd ?_
   have:=ih hk
   unfold xj at this
   rw[h1,h2]at this
   exact A7.up hu this
def da{α:Type}(p:Program):Sem α->Option α
 |.pure a=>some a
 |.program k=>da p (k p)
 |.mark _ k=>da p k
 |.choose q k=>bif q.forced then da p (k 0)else none
 |_=>none
theorem iz{α:Type}{p:Program}:∀(s:Sem α) (a:α),da p s=some a->∀w,s.run p w=.ok a w:=by
 intro s
 induction s with
 |pure b=>intro a h w;simp only[da,agw]at h;subst h;rfl
 |program k ih=>intro a h w;exact ih p a h w
 |mark m k ih=>intro a h w;exact ih a h w
 |choose q k ih=>
  intro a h w
  simp only[da]at h
  cases hq:q.forced with
  |false=>rw[hq]at h;simp only[cond_false]at h;cases h
  |true=>
   rw[hq]at h
   simp only[cond_true]at h
   simp only[Sem.run,hq,if_true]
   exact ih 0 a h w
 |_=>intro a h w;simp[da]at h
def qv:Op->Bool
 |.select _ _=>true
 |_=>false
def K4(P:Program)(τ:Nat->AV)(o:Oper):Option Value:=
 bif qv o.op then none else
 bif o.op.operands.toList.all (fun x=>(aev τ x).isV)then
  match da P (execOp (fun x=>(aev τ x).val) o)with
  |some (.value y)=>some y
  |_=>none
 else none
theorem K3{P:Program}{τ:Nat->AV}{η:bf}{o:Oper}{y:Value}(h:K4 P τ o=some y):LOp P o τ η [] [] (.v y):=by grind[K4,qv,aev,agw,lP,iz]
def Dm(f:AV->Option (List Nat×AV)):List AV->Option (List Nat×List AV)
 |[]=>some ([],[])
 |a::l=>match f a with
  |none=>none
  |some (fp,b)=>match Dm f l with
   |none=>none
   |some (fp',m)=>some (fp++fp',b::m)
theorem sf{η:bf}{f:AV->Option (List Nat×AV)}(hf:∀a fp b,f a=some (fp,b)->FzP fp η a b):∀(l:List AV) (fp:List Nat) (m:List AV),Dm f l=some (fp,m)->m.length=l.length/\∀i (h:i<l.length) (h':i<m.length),FzP fp η l[i] m[i]:=by
 intro l;induction l with
 |nil=>
  intro fp m h
  simp only[Dm,agw,Prod.mk.injEq]at h
  obtain⟨rfl,rfl⟩:=h
  exact⟨rfl,fun i h=>absurd h (by simp)⟩
 |cons a l ih=>
  intro fp m h
  simp only[Dm]at h
  cases h1:f a with
  |none=>rw[h1]at h;cases h
  |some q=>
   obtain⟨fp1,b⟩:=q
   rw[h1]at h
   simp only at h
   cases h2:Dm f l with
   |none=>rw[h2]at h;cases h
   |some q2=>
    obtain⟨fp2,m2⟩:=q2
    rw[h2]at h
    simp only[agw,Prod.mk.injEq]at h
    obtain⟨rfl,rfl⟩:=h
    obtain⟨hl,hi⟩:=ih _ _ h2
    refine⟨by simp[hl],fun i h h'=>?_⟩
    cases i with
    |zero=>exact(hf _ _ _ h1).mono (fun i hi=>List.mem_append_left _ hi)
    |succ i=>
     simp only[List.getElem_cons_succ]
     exact(hi i (by simpa using h) (by simpa using h')).mono (fun i hi=>List.mem_append_right _ hi)
def ma(n:Nat):Nat->List AV->List (List AV)
 |0,_=>[]
 |k+1,l=>l.take n::ma n k (l.drop n)
theorem j7(n:Nat):∀(k:Nat) (l:List AV),(ma n k l).length=k
 |0,_=>rfl
 |k+1,l=>by simp[ma,j7 n k]
theorem sw(n:Nat):∀(k:Nat) (l:List AV) (i:Nat) (h:i<(ma n k l).length),(ma n k l)[i]=(l.drop (i*n)).take n
 |0,l,i,h=>absurd h (by simp[ma])
 |k+1,l,0,h=>by simp[ma]
 |k+1,l,i+1,h=>by have:=sw n k (l.drop n) i (by simpa[ma]using h);simp only[ma,List.getElem_cons_succ,this,List.drop_drop];congr 2;rw[Nat.succ_mul];omega
theorem FzP.ptr{fp:List Nat}{η:bf}{id ver o:Nat}{b:Blk}{ds:List AV}(h0:id∈fp)(hb:η id=some b)(hv:b.ver=ver)(hn:b.nilp=false)(hl:ds.length=b.cs.length)
 (hc:∀j (h:j<b.cs.length) (h':j<ds.length),FzP fp η b.cs[j] ds[j]):FzP fp η (.ptr id ver o) (.tp ds o):=fun C hg hη x hx=>by
 have hb':C.η id=some b:=(hη id h0).trans hb
 rw[hx.ptr_inv hb' hv]
 obtain⟨f,hf⟩:=d7 (n:=ds.length) (p:=fun j y=>C.w.cell? ⟨(C.ρ id).1,(C.ρ id).2+j,none⟩=some y/\∀(h:j<ds.length),TR (fun b=>C.T b\/C.mineOf fp b) C.w ds[j] y) (fun j hj=>by obtain⟨y,hy,h1⟩:=hg.cell hb' hn (j:=j) (by omega);exact⟨y,hy,fun h=>hc j (by omega) h C hg hη y h1⟩)
 exact .tp f (.inr ⟨id,h0,⟨b,hb',di hn⟩,rfl⟩) (fun j hj=>(hf j hj).1) (fun j hj=>(hf j hj).2 hj)
def fz(η:bf):Nat->AV->Option (List Nat×AV)
 |0,_=>none
 |n+1,a=>bif a.pureB then some ([],a)else
  match a with
  |.agg cs=>match Dm (fz η n) cs with
   |some (fp,ds)=>some (fp,.agg ds)
   |none=>none
  |.sl id ver off len=>match η id with
   |none=>none
   |some b=>bif Nat.beq b.ver ver&&!b.nilp&&!Nat.beq b.esz 0 then
    match co off (len*b.esz) b.cs with
    |none=>none
    |some flat=>match Dm (fz η n) flat with
     |none=>none
     |some (fp,ds)=>some (id::fp,.tree b.esz (ma b.esz len ds))
    else none
  |.ptr id ver o=>match η id with
   |none=>none
   |some b=>bif Nat.beq b.ver ver&&!b.nilp then
    match Dm (fz η n) b.cs with
    |none=>none
    |some (fp,ds)=>some (id::fp,.tp ds o)
    else none
  |_=>none
theorem Mk{η:bf}:∀(n:Nat) (a:AV) (fp:List Nat) (r:AV),fz η n a=some (fp,r)->FzP fp η a r:=by
 intro n
 induction n with
 |zero=>intro a fp r h;simp[fz]at h
 |succ n ih=>
  intro a fp r h
  simp only[fz]at h
  cases hp:a.pureB with
  |true=>
   rw[hp]at h
   simp only[cond_true,agw,Prod.mk.injEq]at h
   obtain⟨rfl,rfl⟩:=h
   exact FzP.pure hp
  |false=>
   rw[hp]at h
   simp only[cond_false]at h
   split at h
   ·rename_i cs
    cases h1:Dm (fz η n) cs with
    |none=>rw[h1]at h;cases h
    |some q=>
     obtain⟨fp1,ds⟩:=q
     rw[h1]at h
     simp only[agw,Prod.mk.injEq]at h
     obtain⟨rfl,rfl⟩:=h
     obtain⟨hl,hi⟩:=sf ih _ _ _ h1
     exact FzP.agg hl.symm hi
   ·rename_i id ver off len
    cases hb:η id with
    |none=>rw[hb]at h;cases h
    |some b=>
     rw[hb]at h
     simp only at h
     cases hc:(Nat.beq b.ver ver&&!b.nilp&&!Nat.beq b.esz 0)with
     |false=>rw[hc]at h;simp only[cond_false]at h;cases h
     |true=>
      rw[hc]at h
      simp only[cond_true]at h
      rw[ahs,ahs]at hc
      obtain⟨⟨hv,hn⟩,hz⟩:=hc
      have hv:=agv hv
      have hn:b.nilp=false:=by simpa using hn
      cases ht:co off (len*b.esz) b.cs with
      |none=>rw[ht]at h;cases h
      |some flat=>
       rw[ht]at h
       simp only at h
       cases hm:Dm (fz η n) flat with
       |none=>rw[hm]at h;cases h
       |some q=>
        obtain⟨fp1,ds⟩:=q
        rw[hm]at h
        simp only[agw,Prod.mk.injEq]at h
        obtain⟨rfl,rfl⟩:=h
        obtain⟨hlen,h0⟩:=du _ _ _ _ ht
        obtain⟨hl,hi⟩:=sf ih _ _ _ hm
        have h4:flat.length=len*b.esz:=by rw[h0];simp;omega
        refine FzP.sl (List.mem_cons_self ..) hb hv hn (j7 _ _ _) (fun k hk=>?_) (fun k hk j hj=>?_)
        ·have h3:k<len:=by rw[j7]at hk;exact hk
         rw[sw]
         have:k*b.esz+b.esz<=len*b.esz:=by rw[<-Nat.succ_mul];exact Nat.mul_le_mul_right _ h3
         simp[hl,h4];omega
        ·have h3:k<len:=by rw[j7]at hk;exact hk
         have h2:(ma b.esz len ds)[k]=(ds.drop (k*b.esz)).take b.esz:=sw _ _ _ _ hk
         have h5:j<b.esz:=by rw[h2]at hj;simp at hj;omega
         have hm1:k*b.esz+b.esz<=len*b.esz:=by rw[<-Nat.succ_mul];exact Nat.mul_le_mul_right _ h3
         have hd:k*b.esz+j<ds.length:=by omega
         have hf:k*b.esz+j<flat.length:=by omega
         refine⟨flat[k*b.esz+j],?_,?_⟩
         ·have:flat[k*b.esz+j]? =some flat[k*b.esz+j]:=agu hf
          rw[<-this,h0,List.getElem?_take_of_lt (by omega),List.getElem?_drop]
          congr 1;omega
         ·have e:(ma b.esz len ds)[k][j]=ds[k*b.esz+j]:=by
           have:(ma b.esz len ds)[k][j]? =ds[k*b.esz+j]?:=by rw[h2,List.getElem?_take_of_lt h5,List.getElem?_drop]
           rw[agu hj,agu hd]at this
           exact Option.some.inj this
          rw[e]
          exact(hi _ hf hd).mono (fun i hi=>List.mem_cons_of_mem _ hi)
   ·rename_i id ver o
    cases hb:η id with
    |none=>rw[hb]at h;cases h
    |some b=>
     rw[hb]at h
     simp only at h
     cases hc:(Nat.beq b.ver ver&&!b.nilp)with
     |false=>rw[hc]at h;simp only[cond_false]at h;cases h
     |true=>
      rw[hc]at h
      simp only[cond_true]at h
      rw[ahs]at hc
      have hv:=agv hc.1
      have hn:b.nilp=false:=by simpa using hc.2
      cases hm:Dm (fz η n) b.cs with
      |none=>rw[hm]at h;cases h
      |some q=>
       obtain⟨fp1,ds⟩:=q
       rw[hm]at h
       simp only[agw,Prod.mk.injEq]at h
       obtain⟨rfl,rfl⟩:=h
       obtain⟨hl,hi⟩:=sf ih _ _ _ hm
       exact FzP.ptr (List.mem_cons_self ..) hb hv hn hl (fun j h h'=>(hi j h h').mono (fun i hi=>List.mem_cons_of_mem _ hi))
   ·cases h
abbrev fj:=FuncId->List AV->Option AV
def fw(η:bf)(id ver:Nat):Option Blk:=match η id with
 |some b=>bif Nat.beq b.ver ver&&!b.nilp then some b else none
 |none=>none
theorem b9{η:bf}{id ver:Nat}{b:Blk}(h:fw η id ver=some b):η id=some b/\b.ver=ver/\b.nilp=false:=by grind[fw,Nat.beq,agw,agv]
def Vz(P:Program)(τ:Nat->AV)(η:bf)(u t:Nat)(x:Operand):Option Rec:=
 match c9 P t with
 |none=>none
 |some none=>match aev τ x with
  |.ptr id ver o=>match fw η id ver with
   |none=>none
   |some b=>match b.cs[o]? with
    |some v=>some ⟨[id],[],v,u⟩
    |none=>none
  |.tp cs o=>match cs[o]? with
   |some v=>some ⟨[],[],v,u⟩
   |none=>none
  |_=>none
 |some (some n)=>match aev τ x with
  |.ptr id ver o=>match fw η id ver with
   |none=>none
   |some b=>match co o n b.cs with
    |some ds=>some ⟨[id],[],.agg ds,u⟩
    |none=>none
  |.tp cs o=>match co o n cs with
   |some ds=>some ⟨[],[],.agg ds,u⟩
   |none=>none
  |_=>none
theorem Qg{P:Program}{τ:Nat->AV}{η:bf}{u t:Nat}{x:Operand}{d:Option Tmp}{ty:TypeId}{pos:String}{af:Array Edge}{g:Option (Nat×Bool)}{r:Rec}(h:Vz P τ η u t x=some r):
 LOp P ⟨d,.load t x,ty,pos,af,g⟩ τ η r.fp r.δ r.v:=by
 unfold Vz at h
 split at h
 ·cases h
 ·rename_i hr
  split at h
  ·rename_i id ver o hx
   split at h
   ·cases h
   ·rename_i b hb
    obtain⟨h1,h2,h3⟩:=b9 hb
    split at h
    ·rename_i v hv
     simp only[agw]at h
     subst h
     exact lD hr hx h1 h2 h3 hv
    ·cases h
  ·rename_i cs o hx
   split at h
   ·rename_i v hv
    simp only[agw]at h
    subst h
    exact lE hr hx hv
   ·cases h
  ·cases h
 ·rename_i n hr
  split at h
  ·rename_i id ver o hx
   split at h
   ·cases h
   ·rename_i b hb
    obtain⟨h1,h2,h3⟩:=b9 hb
    split at h
    ·rename_i v hv
     simp only[agw]at h
     subst h
     exact Fk hr hx h1 h2 h3 hv
    ·cases h
  ·rename_i cs o hx
   split at h
   ·rename_i v hv
    simp only[agw]at h
    subst h
    exact A0 hr hx hv
   ·cases h
  ·cases h
def Kb(P:Program)(τ:Nat->AV)(η:bf)(u t:Nat)(x y:Operand):Option Rec:=
 match ap P t with
 |none=>none
 |some n=>match aev τ x with
  |.ptr id ver o=>match fw η id ver with
   |none=>none
   |some b=>match jc (aev τ y)with
    |none=>none
    |some vs=>bif Nat.beq vs.length n&&vs.all AV.one then
     match t6 o b.cs vs with
     |some ds=>some ⟨[id],[(id,some ⟨b.ver,ds,b.esz,b.nilp⟩)],.v undef,u⟩
     |none=>none
     else none
  |_=>none
theorem Ka{P:Program}{τ:Nat->AV}{η:bf}{u t:Nat}{x y:Operand}{d:Option Tmp}{ty:TypeId}{pos:String}{af:Array Edge}{g:Option (Nat×Bool)}{r:Rec}(h:Kb P τ η u t x y=some r):
 LOp P ⟨d,.store t x y,ty,pos,af,g⟩ τ η r.fp r.δ r.v:=by
 unfold Kb at h
 split at h
 ·cases h
 ·rename_i n hs
  split at h
  ·rename_i id ver o hx
   split at h
   ·cases h
   ·rename_i b hb
    obtain⟨h1,h2,h3⟩:=b9 hb
    split at h
    ·cases h
    ·rename_i vs hv
     cases hc:(Nat.beq vs.length n&&vs.all AV.one)with
     |false=>rw[hc]at h;simp only[cond_false]at h;cases h
     |true=>
      rw[hc]at h
      simp only[cond_true]at h
      rw[ahs]at hc
      split at h
      ·rename_i ds hd
       simp only[agw]at h
       subst h
       exact LOp.st (w:=b.ver) (np:=b.nilp) (cs:=b.cs) (ez:=b.esz) hs hx h1 h2 h3 hv (agv hc.1) hc.2 hd
      ·cases h
  ·cases h
def sr(P:Program)(τ:Nat->AV)(η:bf)(u t:Nat)(x:Operand)(i:Nat):Option Rec:=
 match cp P t i with
 |none=>none
 |some (off,sz)=>bif Nat.beq sz 0 then none else
  match aev τ x with
  |.ptr id ver o=>match fw η id ver with
   |none=>none
   |some b=>some ⟨[id],[],.ptr id ver (o+off),u⟩
  |.tp cs o=>some ⟨[],[],.tp cs (o+off),u⟩
  |_=>none
theorem Ak{P:Program}{τ:Nat->AV}{η:bf}{u t i:Nat}{x:Operand}{d:Option Tmp}{ty:TypeId}{pos:String}{af:Array Edge}{g:Option (Nat×Bool)}{r:Rec}(h:sr P τ η u t x i=some r):
 LOp P ⟨d,.fieldAddr t x i,ty,pos,af,g⟩ τ η r.fp r.δ r.v:=by grind[sr,Nat.beq,b9,agw,lF,lc]
def sk(P:Program)(τ:Nat->AV)(η:bf)(u t:Nat)(x i:Operand):Option Rec:=
 match P.underlying t with
 |some (.slice e)=>match ap P e with
  |none=>none
  |some n=>match aev τ i with
   |.v (.int k (Int.ofNat j))=>match aev τ x with
    |.tree m rows=>bif Nat.beq m n then(match rows[j]? with
     |some row=>some ⟨[],[],.tp row 0,u⟩
     |none=>none)else none
    |.sl id ver off len=>bif Nat.ble (j+1) len then(match fw η id ver with
     |some b=>bif Nat.beq b.esz n then some ⟨[id],[],.ptr id ver (off+j*n),u⟩else none
     |none=>none)else none
    |_=>none
   |_=>none
 |_=>none
theorem Ac{P:Program}{τ:Nat->AV}{η:bf}{u t:Nat}{x i:Operand}{d:Option Tmp}{ty:TypeId}{pos:String}{af:Array Edge}{g:Option (Nat×Bool)}{r:Rec}(h:sk P τ η u t x i=some r):
 LOp P ⟨d,.indexAddr t x i,ty,pos,af,g⟩ τ η r.fp r.δ r.v:=by
 unfold sk at h
 split at h
 ·rename_i e he
  split at h
  ·cases h
  ·rename_i n hs
   split at h
   ·rename_i k j hi
    split at h
    ·rename_i m rows hx
     cases hc:Nat.beq m n with
     |false=>rw[hc]at h;simp only[cond_false]at h;cases h
     |true=>
      rw[hc]at h
      simp only[cond_true]at h
      obtain rfl:=agv hc
      split at h
      ·rename_i row h0
       simp only[agw]at h
       subst h
       obtain⟨hj,e⟩:=ahn.1 h0
       subst e
       exact lI (f:=fun a=>a) (l:=rows) he hs (by rw[hx];simp) hi hj
      ·cases h
    ·rename_i id ver off len hx
     cases hc:Nat.ble (j+1) len with
     |false=>rw[hc]at h;simp only[cond_false]at h;cases h
     |true=>
      rw[hc]at h
      simp only[cond_true]at h
      split at h
      ·rename_i b hb
       obtain⟨h1,h2,h3⟩:=b9 hb
       cases hz:Nat.beq b.esz n with
       |false=>rw[hz]at h;simp only[cond_false]at h;cases h
       |true=>
        rw[hz]at h
        simp only[cond_true,agw]at h
        subst h
        exact me he hs hx hi (aha hc) h1 h2 h3 (agv hz)
      ·cases h
    ·cases h
   ·cases h
 ·cases h
def ac1(u:Nat)(v:Option (List AV)):Option Rec:=match v with
 |some vs=>some ⟨[],[(u,some ⟨0,vs,0,false⟩)],.ptr u 0 0,u+1⟩
 |none=>none
def T2(P:Program)(u t:Nat):Option Rec:=match bi P t with
 |some z=>ac1 u (jc (.v z))
 |none=>none
def Nv(P:Program)(τ:Nat->AV)(u t:Nat)(parts:Array (Nat×Operand)):Option Rec:=match bi P t with
 |none=>none
 |some z=>match mi P t with
  |none=>none
  |some pl=>match jc (.v z)with
   |none=>none
   |some cs=>match Aj pl cs (lw τ parts)with
    |none=>none
    |some out=>some ⟨[],[],.agg out,u⟩
theorem Li{u:Nat}{v:Option (List AV)}{r:Rec}(h:ac1 u v=some r):∃vs,v=some vs/\r=⟨[],[(u,some ⟨0,vs,0,false⟩)],.ptr u 0 0,u+1⟩:=by unfold ac1 at h;split at h;rename_i vs;simp only[agw]at h;exact⟨vs,rfl,h.symm⟩;cases h
theorem Nu{P:Program}{τ:Nat->AV}{η:bf}{u t:Nat}{parts:Array (Nat×Operand)}{d:Option Tmp}{ty:TypeId}{pos:String}{af:Array Edge}{g:Option (Nat×Bool)}{r:Rec}(h:Nv P τ u t parts=some r):
 LOp P ⟨d,.build t parts,ty,pos,af,g⟩ τ η r.fp r.δ r.v:=by
 unfold Nv at h
 split at h
 ·cases h
 ·rename_i z hz
  split at h
  ·cases h
  ·rename_i pl hp
   split at h
   ·cases h
   ·rename_i cs hc
    split at h
    ·cases h
    ·rename_i out ho
     simp only[agw]at h
     subst h
     exact Oq hz hp hc ho
def qf(P:Program)(τ:Nat->AV)(u t len:Nat)(parts:Array (Nat×Operand)):Option Rec:=match P.underlying t with
 |some (.slice e)=>match ap P e with
  |none=>none
  |some s=>match bi P e with
   |none=>none
   |some z=>bif Nat.ble (len*s) 16777216&&Nat.ble len 16777216&&!Nat.beq (len*s) 0 then
    (match Aj (r6 len s) (b6 z (len*s)) (lw τ parts)with
    |some out=>some ⟨[],[(u,some ⟨TV,out,s,false⟩)],.sl u TV 0 len,u+1⟩
    |none=>none)
    else none
 |_=>none
theorem xq{P:Program}{τ:Nat->AV}{η:bf}{u t len:Nat}{parts:Array (Nat×Operand)}{d:Option Tmp}{ty:TypeId}{pos:String}{af:Array Edge}{g:Option (Nat×Bool)}{r:Rec}(h:qf P τ u t len parts=some r):
 LOp P ⟨d,.buildSlice t len parts,ty,pos,af,g⟩ τ η r.fp r.δ r.v:=by
 unfold qf at h
 split at h
 ·rename_i e he
  split at h
  ·cases h
  ·rename_i s hs
   split at h
   ·cases h
   ·rename_i z hz
    cases hc:(Nat.ble (len*s) 16777216&&Nat.ble len 16777216&&!Nat.beq (len*s) 0)with
    |false=>rw[hc]at h;simp only[cond_false]at h;cases h
    |true=>
     rw[hc]at h
     simp only[cond_true]at h
     rw[ahs,ahs]at hc
     split at h
     ·rename_i out ho
      simp only[agw]at h
      subst h
      exact je he hs hz hc.1.1 hc.1.2 (by simpa using hc.2) ho
     ·cases h
 ·cases h
def ae4(P:Program)(τ:Nat->AV)(η:bf)(u:Nat)(x:Operand)(ats:Array TypeId):Option Rec:=match ats[0]? with
 |none=>none
 |some t=>match P.underlying t with
  |some (.slice e)=>match aev τ x with
   |.tree n rows=>some ⟨[],[],.v (.int .i64 (rows.length:Int)),u⟩
   |.sl id ver off len=>match fw η id ver with
    |some b=>some ⟨[id],[],.v (.int .i64 (len:Int)),u⟩
    |none=>none
   |_=>none
  |_=>none
theorem V2{P:Program}{τ:Nat->AV}{η:bf}{u:Nat}{x:Operand}{ats:Array TypeId}{d:Option Tmp}{ty:TypeId}{pos:String}{af:Array Edge}{g:Option (Nat×Bool)}{r:Rec}(h:ae4 P τ η u x ats=some r):
 LOp P ⟨d,.call {callee:=.builtin .len,args:=#[x],argTypes:=ats},ty,pos,af,g⟩ τ η r.fp r.δ r.v:=by
 unfold ae4 at h
 split at h
 ·cases h
 ·rename_i t ht
  split at h
  ·rename_i e he
   split at h
   ·rename_i n rows hx
    simp only[agw]at h
    subst h
    exact lT (n:=n) (f:=fun a=>a) (l:=rows) ht he (by rw[hx];simp)
   ·rename_i id ver off len hx
    split at h
    ·rename_i b hb
     obtain⟨h1,h2,h3⟩:=b9 hb
     simp only[agw]at h
     subst h
     exact bo ht he hx h1 h2
    ·cases h
   ·cases h
  ·cases h
def Rd(P:Program)(call:fj)(τ:Nat->AV)(η:bf)(u:Nat)(f:FuncId)(xs:Array Operand):Option Rec:=
 bif bv P f then
  match Dm (fz η 64) (xs.toList.map (aev τ))with
  |none=>none
  |some (fp,ys)=>match call f ys with
   |none=>none
   |some ret=>match ret with
    |.v y=>some ⟨fp,[],.v y,u⟩
    |ret=>bif fp.all (fun id=>(η id).isSome)then some ⟨fp,fp.map fun id=>(id,none),ret,u⟩else none
 else none
theorem Hi{P:Program}{call:fj}(h0:∀f ys ret,call f ys=some ret->eu P f ys ret){τ:Nat->AV}{η:bf}{u:Nat}{f:FuncId}{xs:Array Operand}{ats:Array TypeId}{d:Option Tmp}{ty:TypeId}{pos:String}{af:Array Edge}{g:Option (Nat×Bool)}{r:Rec}(h:Rd P call τ η u f xs=some r):
 LOp P ⟨d,.call {callee:=.value (.func f),args:=xs,argTypes:=ats},ty,pos,af,g⟩ τ η r.fp r.δ r.v:=by
 unfold Rd at h
 cases hb:bv P f with
 |false=>rw[hb]at h;simp only[cond_false]at h;cases h
 |true=>
  rw[hb]at h
  simp only[cond_true]at h
  split at h
  ·cases h
  ·rename_i fp ys hm
   obtain⟨hl,hi⟩:=sf (Mk 64) _ _ _ hm
   have h1:xs.size=ys.length:=by rw[hl];simp
   have hf:∀i (h:i<xs.size) (h':i<ys.length),FzP fp η (aev τ xs[i]) ys[i]:=fun i h h'=>by have:=hi i (by simpa using h) h';simpa using this
   split at h
   ·cases h
   ·rename_i ret hr
    split at h
    ·rename_i y
     simp only[agw]at h
     subst h
     exact Oo fp hb h1 hf (h0 _ _ _ hr)
    ·cases hu:fp.all (fun id=>(η id).isSome)with
     |false=>rw[hu]at h;simp only[cond_false]at h;cases h
     |true=>
      rw[hu]at h
      simp only[cond_true,agw]at h
      subst h
      exact On fp hb h1 hf (fun id h2=>List.all_eq_true.1 hu id h2) (h0 _ _ _ hr)
section
variable{P:Program}{τ:Nat->AV}{η:bf}{d:Option Tmp}{ty:TypeId}{pos:String}{af:Array Edge}{g:Option (Nat×Bool)}
theorem LOp.makeSlice(u:Nat){t e len s bys:Nat}{z:Value}{x y:Operand}(he:P.underlying t=some (.slice e))(hs:ap P e=some s)(hz:bi P e=some z)(h1:(P.info? e).map (·.bytes)=some bys)
 (hx:aev τ x=.v (.int .i64 (Int.ofNat len)))(hy:aev τ y=.v (.int .i64 (Int.ofNat len)))(h8:Nat.ble len 16777216=true)(h9:Nat.ble (bys*len) 281474976710656=true)(h6:Nat.beq (len*s) 0=false):
 LOp P ⟨d,.makeSlice t x y,ty,pos,af,g⟩ τ η [] [(u,some ⟨0,b6 z (len*s),s,false⟩)] (.sl u 0 0 len):=by
 intro C a hg h7 _ h2 K Q hK
 have hu:¬C.U u:=h2 (u,some ⟨0,b6 z (len*s),s,false⟩) (by simp) (by simp)
 have hl2':=aha h8
 have hb2':=aha h9
 have e1:=h7 x (by simp[Op.operands])
 have e2:=h7 y (by simp[Op.operands])
 rw[hx]at e1
 rw[hy]at e2
 unfold ap at hs
 unfold bi at hz
 cases hi:P.info? e with
 |none=>rw[hi]at hz;cases hz
 |some inf=>
  rw[hi]at hz hs h1
  simp only[ahq]at hz
  simp only[ahp,agw]at hs h1
  subst hs h1
  let es:Array Value:=(Array.range (len*inf.size)).map fun i=>z.cells[i%z.cells.size]!
  have z1:(b6 z (len*inf.size)).length=es.size:=by simp[b6,es]
  have z2:∀i (h:i<(b6 z (len*inf.size)).length) (h':i<es.size),VR C (b6 z (len*inf.size))[i] es[i]:=fun i h h'=>by simp only[b6,List.getElem_map,List.getElem_range,es,Array.getElem_map,Array.getElem_range];exact VR.v C _
  have gsz:es.size=len*inf.size:=by simp[es]
  have h5:(execOp a.eval ⟨d,.makeSlice t x y,ty,pos,af,g⟩).run P C.w=.ok (.value (.slice (some ⟨C.w.heap.size,0,none⟩) len len)) (C.w.alloc (.cells es e)):=by
   have h0:¬(len*inf.size=0):=fun e=>by rw[e]at h6;cases h6
   have hw:IntKind.i64.wrap (Int.ofNat len)=Int.ofNat len:=IntWalk.i64_in _ (by constructor<;>simp<;>omega);have c1:¬(((inf.bytes:Int)*Int.ofNat len>2^48)):=by have:(inf.bytes:Int)*Int.ofNat len=((inf.bytes*len:Nat):Int):=(by simp);rw[this];omega
   have c2:¬((Int.ofNat len:Int)<0):=by simp
   simp only[execOp,e1.v_inv,e2.v_inv,Instr.makeSlice,Sem.run_bind,run_underlying he,ahc,asInt,typeInfo,run_program,hi,ahd];have a1:∀w:World,(asIntOf (Value.int IntKind.i64 (Int.ofNat len))).run P w=.ok (IntKind.i64,Int.ofNat len) w:=fun w=>rfl
   simp only[a1,ahc,hw];have cc:(decide ((Int.ofNat len:Int)<0)||decide ((inf.bytes:Int)*Int.ofNat len>2^48)||decide ((Int.ofNat len:Int)<0)||decide ((Int.ofNat len:Int)>Int.ofNat len))=false:=by simp only[Bool.or_eq_false_iff,decide_eq_false_iff_not];exact⟨⟨⟨c2,c1⟩,c2⟩,Int.lt_irrefl _⟩
   rw[ag1 (by rw[cc];exact ahr)];have tn:(Int.ofNat len).toNat=len:=rfl
   simp only[tn,Sem.run_bind];have ar:∀w:World,(askRoom (len*inf.bytes)).run P w=.ok () w:=fun w=>by unfold askRoom;split<;>rfl
   simp only[ar,ahc,sizeOf,typeInfo,Sem.run_bind,run_program,hi,ahd];rw[ag1 h0];simp only[Sem.run_bind,zeroValue,typeInfo,run_program,hi,ahd,ahc,hz];rfl
  unfold Oper.wp
  rw[h5]
  refine hK _ (C.alloc u es e ⟨0,b6 z (len*inf.size),inf.size,false⟩) rfl (fun i=>by simp[Ctx.alloc]) (cy hg hu rfl (Nat.le_of_eq z1) z2) (df hg hu rfl) ?_
  have h3:(C.alloc u es e ⟨0,b6 z (len*inf.size),inf.size,false⟩).ρ u=(C.w.heap.size,0):=by simp[Ctx.alloc]
  have h4:(C.alloc u es e ⟨0,b6 z (len*inf.size),inf.size,false⟩).sz u=es.size:=by simp[Ctx.alloc]
  have:=VR.sl (C:=C.alloc u es e ⟨0,b6 z (len*inf.size),inf.size,false⟩) (id:=u) (ver:=0) (off:=0) (len:=len) (cap:=len) (b:=⟨0,b6 z (len*inf.size),inf.size,false⟩) (am _ _ _) rfl rfl (ag8 _) (by unfold maxLen;omega) (by omega)
   (by rw[h3,h4,gsz];simp)
  rw[h3]at this
  exact this
end
def Gg(tmps:Array Value):ResultVar->Sem Value
 |.tmp t=>pure (tmps.getD t undef)
 |.cell a t=>do loadVar t (<-asAddr (tmps.getD a undef))
def T7(P:Program)(N:Nat)(s:St)(r:ResultVar)(ret:AV):Prop:=
 ∀C a,SRel N C s a->∃x,(Gg a.tmps r).run P C.w=.ok x C.w/\TR (fun b=>C.T b\/C.mine b) C.w ret x
theorem D4(fn:Func)(r:ResultVar)(hr:fn.results=#[r])(tmps:Array Value)(P:Program)(w:World):(results fn tmps).run P w=(Gg tmps r).run P w:=by
 unfold results
 rw[hr]
 cases r with
 |tmp t=>simp[Gg]
 |cell a t=>
  simp only[Gg]
  simp[Sem.run_bind,Result.andThen]
theorem Cw{P:Program}{N:Nat}{s:St}{r:ResultVar}{ret:AV}{fn:Func}(hr:fn.results=#[r])(h:Og P N fn s ret):T7 P N s r ret:=by intro C a hs;obtain⟨x,h1,h2⟩:=h C a hs;rw[D4 fn r hr]at h1;exact⟨x,h1,h2⟩
theorem Og.two{P:Program}{N:Nat}{s:St}{r1 r2:ResultVar}{v1 v2:AV}{fn:Func}(hr:fn.results=#[r1,r2])(h1:T7 P N s r1 v1)(h2:T7 P N s r2 v2):Og P N fn s (.tup [v1,v2]):=by
 intro C a hs;obtain⟨x,e1,t1⟩:=h1 C a hs;obtain⟨y,e2,t2⟩:=h2 C a hs;refine⟨.tuple #[x,y],?_,.tup rfl (fun i hi hi'=>?_)⟩;have hh:results fn a.tmps=(do let vs<-fn.results.mapM (Gg a.tmps);pure (if h:vs.size=1 then vs[0]else .tuple vs)):=by unfold results;congr 1
 rw[hh,hr];simp[Sem.run_bind,Result.andThen,e1,e2];match i,hi with
 |0,_=>exact t1
 |1,_=>exact t2
theorem kc{P:Program}{N:Nat}{s:St}{r1 r2 r3:ResultVar}{v1 v2 v3:AV}{fn:Func}(hr:fn.results=#[r1,r2,r3])(h1:T7 P N s r1 v1)(h2:T7 P N s r2 v2)(h3:T7 P N s r3 v3):Og P N fn s (.tup [v1,v2,v3]):=by
 intro C a hs;obtain⟨x,e1,t1⟩:=h1 C a hs;obtain⟨y,e2,t2⟩:=h2 C a hs;obtain⟨z,e3,t3⟩:=h3 C a hs;refine⟨.tuple #[x,y,z],?_,.tup rfl (fun i hi hi'=>?_)⟩;have hh:results fn a.tmps=(do let vs<-fn.results.mapM (Gg a.tmps);pure (if h:vs.size=1 then vs[0]else .tuple vs)):=by unfold results;congr 1
 rw[hh,hr];simp[Sem.run_bind,Result.andThen,e1,e2,e3];match i,hi with
 |0,_=>exact t1
 |1,_=>exact t2
 |2,_=>exact t3
theorem T7.tmp{P:Program}{N:Nat}{s:St}{ret:AV}{t:Nat}(h:∃fp,FzP fp s.η (s.τ t) ret):T7 P N s (.tmp t) ret:=by intro C a hs;obtain⟨fp,hf⟩:=h;exact⟨a.tmps.getD t undef,by simp[Gg],(hf C hs.good (fun id _=>by rw[hs.η]) _ (hs.τ t)).mono (fun b hb=>hb.imp (fun h=>h) bj) (fun _ _=>rfl)⟩
def acy(η:bf)(sz:Nat):AV->Option (List Nat×Nat×List AV)
 |.tree n rows=>bif Nat.beq rows.flatten.length (rows.length*sz)then some ([],rows.length,rows.flatten)else none
 |.sl id ver off len=>bif Nat.beq len 0 then none else match fw η id ver with
  |none=>none
  |some b=>match co off (len*sz) b.cs with
   |none=>none
   |some news=>some ([id],len,news)
 |_=>none
theorem Kd{η:bf}{sz m:Nat}{a:AV}{fp:List Nat}{news:List AV}(h:acy η sz a=some (fp,m,news)):Src η fp a m news/\news.length=m*sz:=by
 unfold acy at h
 split at h
 ·rename_i n rows
  cases hc:Nat.beq rows.flatten.length (rows.length*sz)with
  |false=>rw[hc]at h;simp only[cond_false]at h;cases h
  |true=>
   rw[hc]at h
   simp only[cond_true,agw,Prod.mk.injEq]at h
   obtain⟨rfl,rfl,rfl⟩:=h
   exact⟨Src.tree,agv hc⟩
 ·rename_i id ver off len
  cases hc:Nat.beq len 0 with
  |true=>rw[hc]at h;simp only[cond_true]at h;cases h
  |false=>
   rw[hc]at h
   simp only[cond_false]at h
   split at h
   ·cases h
   ·rename_i b hb
    obtain⟨h1,h2,h3⟩:=b9 hb
    split at h
    ·cases h
    ·rename_i ns ht
     simp only[agw,Prod.mk.injEq]at h
     obtain⟨rfl,rfl,rfl⟩:=h
     obtain⟨hle,he⟩:=du _ _ _ _ ht
     have hl:ns.length=len*sz:=by rw[he];simp;omega
     exact⟨Src.sl h1 h2 h3 hc (by rw[hl];exact ht),hl⟩
 ·cases h
def Fb(P:Program)(τ:Nat->AV)(η:bf)(u t:Nat)(s x:Operand):Option Rec:=
 match P.underlying t with
 |some (.slice e)=>match ap P e with
  |none=>none
  |some sz=>match bi P e with
   |none=>none
   |some z=>match(P.info? e).map (·.bytes)with
    |none=>none
    |some bys=>bif !Nat.beq z.cells.size sz then none else
     match acy η sz (aev τ x)with
     |none=>none
     |some (fp,m,news)=>match aev τ s with
      |.v (.slice none 0 0)=>bif Nat.ble 1 m&&Nat.ble (m*bys) 140737488355328&&Nat.ble m 140737488355328&&!fp.contains u then
       some ⟨fp,[(u,some ⟨0,news,sz,false⟩)],.sl u 0 0 m,u+1⟩else
       bif Nat.beq m 0&&news.isEmpty then some ⟨fp,[],.v (.slice none 0 0),u⟩else none
      |.sl id ver 0 len=>match fw η id ver with
       |none=>none
       |some b=>bif Nat.beq ver TV&&Nat.ble 1 m then
        (bif Nat.beq b.esz sz&&Nat.ble 1 sz&&Nat.beq (len*sz) b.cs.length&&Nat.ble 1 len&&Nat.ble ((len+m)*bys) 140737488355328&&Nat.ble (len+m) 140737488355328&&!(id::fp).contains u then
         (match co 0 (len*sz) b.cs with
         |none=>none
         |some olds=>some ⟨id::fp,[(u,some ⟨0,olds++news,sz,false⟩)],.sl u 0 0 (len+m),u+1⟩)else none)
        else bif Nat.beq b.esz sz&&Nat.ble (len*sz) b.cs.length&&news.all AV.one&&Nat.ble ((len+m)*bys) 140737488355328&&Nat.ble (len+m) 140737488355328&&!Nat.beq (ver+1) TV then
         (match co 0 (len*sz) b.cs with
         |none=>none
         |some olds=>some ⟨id::fp,[(id,some ⟨ver+1,olds++news,sz,false⟩)],.sl id (ver+1) 0 (len+m),u⟩)
        else none
      |_=>none
 |_=>none
theorem I6{P:Program}{τ:Nat->AV}{η:bf}{u t:Nat}{s x:Operand}{d:Option Tmp}{ty:TypeId}{pos:String}{af:Array Edge}{g:Option (Nat×Bool)}{r:Rec}(h:Fb P τ η u t s x=some r):
 LOp P ⟨d,.call {callee:=.builtin .append,args:=#[s,x],argTypes:=#[t,t]},ty,pos,af,g⟩ τ η r.fp r.δ r.v:=by
 unfold Fb at h
 split at h
 ·rename_i e he
  split at h
  ·cases h
  ·rename_i sz hs
   split at h
   ·cases h
   ·rename_i z hz
    split at h
    ·cases h
    ·rename_i bys h7
     cases h0:Nat.beq z.cells.size sz with
     |false=>rw[h0]at h;simp at h
     |true=>
      rw[h0]at h
      simp only[Bool.not_true,cond_false]at h
      have h0:=agv h0
      split at h
      ·cases h
      ·rename_i fp m news h8
       obtain⟨h6,h9⟩:=Kd h8
       split at h
       ·rename_i hx
        cases hc:(Nat.ble 1 m&&Nat.ble (m*bys) 140737488355328&&Nat.ble m 140737488355328&&!fp.contains u)with
        |true=>
         rw[hc]at h
         simp only[cond_true,agw]at h
         subst h
         simp only[ahs]at hc
         obtain⟨⟨⟨c1,c2⟩,c3⟩,c4⟩:=hc
         exact kl he hs hz h7 h0 hx (by simpa using c4) h6 (aha c1) h9 (aha c2) (aha c3)
        |false=>
         rw[hc]at h
         simp only[cond_false]at h
         cases h4:(Nat.beq m 0&&news.isEmpty)with
         |false=>rw[h4]at h;simp only[cond_false]at h;cases h
         |true=>
          rw[h4]at h
          simp only[cond_true,agw]at h
          subst h
          rw[ahs]at h4
          have e0:=agv h4.1
          subst e0
          exact Fm he hs hx h6 (List.isEmpty_iff.1 h4.2)
       ·rename_i id ver len hx
        split at h
        ·cases h
        ·rename_i b hb
         obtain⟨h1,h2,h3⟩:=b9 hb
         cases h5:(Nat.beq ver TV&&Nat.ble 1 m)with
         |true=>
          rw[h5]at h
          simp only[cond_true]at h
          rw[ahs]at h5
          have e1:=agv h5.1
          cases hc:(Nat.beq b.esz sz&&Nat.ble 1 sz&&Nat.beq (len*sz) b.cs.length&&Nat.ble 1 len&&Nat.ble ((len+m)*bys) 140737488355328&&Nat.ble (len+m) 140737488355328&&!(id::fp).contains u)with
          |false=>rw[hc]at h;simp only[cond_false]at h;cases h
          |true=>
           rw[hc]at h
           simp only[cond_true]at h
           split at h
           ·cases h
           ·rename_i olds ho
            simp only[agw]at h
            subst h
            simp only[ahs]at hc
            obtain⟨⟨⟨⟨⟨⟨c1,c2⟩,c3⟩,c4⟩,c5⟩,c6⟩,c7⟩:=hc
            obtain⟨_,e0⟩:=du _ _ _ _ ho
            rw[List.drop_zero]at e0
            subst e0
            rw[e1]at hx h2
            exact Fo he hs hz h7 h0 hx h1 h2 h3 (agv c1) (aha c2) (agv c3) (aha c4) (by simpa using c7) h6 (aha h5.2) h9 (aha c5) (aha c6)
         |false=>
          rw[h5]at h
          simp only[cond_false]at h
          cases hc:(Nat.beq b.esz sz&&Nat.ble (len*sz) b.cs.length&&news.all AV.one&&Nat.ble ((len+m)*bys) 140737488355328&&Nat.ble (len+m) 140737488355328&&!Nat.beq (ver+1) TV)with
          |false=>rw[hc]at h;simp only[cond_false]at h;cases h
          |true=>
           rw[hc]at h
           simp only[cond_true]at h
           split at h
           ·cases h
           ·rename_i olds ho
            simp only[agw]at h
            subst h
            simp only[ahs]at hc
            obtain⟨⟨⟨⟨⟨c1,c2⟩,c3⟩,c4⟩,c5⟩,c6⟩:=hc
            obtain⟨_,e0⟩:=du _ _ _ _ ho
            rw[List.drop_zero]at e0
            subst e0
            exact LOp.append he hs hz h7 h0 hx h1 h2 h3 (agv c1) (aha c2) h6 h9 c3 (aha c4) (aha c5) (fun e=>by rw[e,Nat.beq_refl]at c6;cases c6)
       ·cases h
 ·cases h
def o9:List AV->Option (List Value)
 |[]=>some []
 |.v x::l=>match o9 l with
  |some r=>some (x::r)
  |none=>none
 |_=>none
def X0:AV->Option Value
 |.v x=>some x
 |.agg cs=>match o9 cs with
  |some r=>some (.agg r.toArray)
  |none=>none
 |_=>none
theorem Fx:∀(l:List AV) (r:List Value),o9 l=some r->l=r.map .v
 |[],r,h=>by simp only[o9,agw]at h;subst h;rfl
 |.v x::l,r,h=>by
  simp only[o9]at h
  cases h1:o9 l with
  |none=>rw[h1]at h;cases h
  |some r1=>
   rw[h1]at h
   simp only[agw]at h
   subst h
   rw[Fx l r1 h1]
   rfl
 |.ptr _ _ _::l,r,h=>by simp[o9]at h
 |.sl _ _ _ _::l,r,h=>by simp[o9]at h
 |.tree _ _::l,r,h=>by simp[o9]at h
 |.tp _ _::l,r,h=>by simp[o9]at h
 |.clo _ _::l,r,h=>by simp[o9]at h
 |.mp _ _::l,r,h=>by simp[o9]at h
 |.it _ _::l,r,h=>by simp[o9]at h
 |.agg _::l,r,h=>by simp[o9]at h
 |.tup _::l,r,h=>by simp[o9]at h
 |.unk::l,r,h=>by simp[o9]at h
theorem rx{C:Ctx}{a:AV}{x y:Value}(hx:VR C a x)(h:X0 a=some y):x=y:=by unfold X0 at h;split at h;simp only[agw]at h;subst h;exact hx.v_inv;rename_i cs;split at h;rename_i r hr;simp only[agw]at h;subst h;obtain rfl:=Fx _ _ hr;obtain⟨vs,rfl,h1,h2⟩:=hx.agg_inv;congr 1;simp only[ag0]at h1;apply Array.ext;simp;omega;intro i hi h0;have:=(h2 i (by simp;simpa using h0) hi);simp only[List.getElem_map]at this;simpa using this.v_inv;cases h;cases h
def valE(a:AV):Value:=match X0 a with
 |some y=>y
 |none=>undef
def Ea(P:Program)(τ:Nat->AV)(o:Oper):Option Value:=
 bif qv o.op then none else
 bif o.op.operands.toList.all (fun x=>(X0 (aev τ x)).isSome)then
  match da P (execOp (fun x=>valE (aev τ x)) o)with
  |some (.value y)=>some y
  |_=>none
 else none
theorem Ia{P:Program}{τ:Nat->AV}{η:bf}{o:Oper}{y:Value}(h:Ea P τ o=some y):LOp P o τ η [] [] (.v y):=by
 unfold Ea at h
 cases hs:qv o.op with
 |true=>rw[hs]at h;simp only[cond_true]at h;cases h
 |false=>
  rw[hs]at h
  simp only[cond_false]at h
  cases hv:o.op.operands.toList.all (fun x=>(X0 (aev τ x)).isSome)with
  |false=>rw[hv]at h;simp only[cond_false]at h;cases h
  |true=>
   rw[hv]at h
   simp only[cond_true]at h
   split at h
   ·rename_i y' hq
    simp only[agw]at h
    subst h
    refine .look [] fun C a hg hx _=>⟨y',?_,VR.v C y'⟩
    rw[<-iz _ _ hq C.w,execOp_congr o (fun cs b e=>by rw[e]at hs;simp[qv]at hs)]
    intro x hm
    have h1:=List.all_eq_true.1 hv x (by simpa using hm)
    obtain⟨z,hz⟩:=Option.isSome_iff_exists.1 h1
    have h2:=rx (hx x hm) hz
    simp only[valE,hz]
    exact h2
   ·cases h
theorem lN{P:Program}{τ:Nat->AV}{η:bf}{d:Option Tmp}{ty:TypeId}{pos:String}{af:Array Edge}{g:Option (Nat×Bool)}{x:Operand}{id ver o:Nat}{b:Blk}(hx:aev τ x=.ptr id ver o)(hb:η id=some b)(hv:b.ver=ver):
 LOp P ⟨d,.nilCheck x,ty,pos,af,g⟩ τ η [id] [] (.ptr id ver o):=
 .look [id] fun C a hg h0 h3=>by have hb':C.η id=some b:=(h3 id (by simp)).trans hb;have h1:=h0 x (by simp[Op.operands]);rw[hx]at h1;have h2:=h1.ptr_inv hb' hv;refine⟨a.eval x,?_,h1⟩;simp only[execOp];rw[h2];rfl
theorem rh{P:Program}{τ:Nat->AV}{η:bf}{d:Option Tmp}{ty:TypeId}{pos:String}{af:Array Edge}{g:Option (Nat×Bool)}{x:Operand}{cs:List AV}{o:Nat}(hx:aev τ x=.tp cs o):
 LOp P ⟨d,.nilCheck x,ty,pos,af,g⟩ τ η [] [] (.tp cs o):=
 .look [] fun C a hg h0 hfp=>by
  have h1:=h0 x (by simp[Op.operands]);rw[hx]at h1;have h2:=h1.tp_inv
  refine⟨a.eval x,?_,h1⟩;generalize h3:a.eval x=xv at h2;cases h2 with
  |tp cell hT hc hr=>
   simp only[execOp]
   rw[h3]
   rfl
def yc(P:Program)(τ:Nat->AV)(o:Oper)(u:Nat):Option Rec:=match K4 P τ o with
 |some y=>some ⟨[],[],.v y,u⟩
 |none=>match Ea P τ o with
  |some y=>some ⟨[],[],.v y,u⟩
  |none=>none
theorem qq{P:Program}{τ:Nat->AV}{η:bf}{o:Oper}{u:Nat}{r:Rec}(h:yc P τ o u=some r):LOp P o τ η r.fp r.δ r.v:=by grind[yc,agw,K3,Ia]
def E8(P:Program)(u t:Nat):Option Rec:=match P.underlying t with
 |some (.slice e)=>match ap P e with
  |some s=>some ⟨[],[(u,some ⟨0,[],s,false⟩)],.sl u 0 0 0,u+1⟩
  |none=>none
 |_=>none
theorem I3{P:Program}{τ:Nat->AV}{η:bf}{u t:Nat}{d:Option Tmp}{ty:TypeId}{pos:String}{af:Array Edge}{g:Option (Nat×Bool)}{r:Rec}(h:E8 P u t=some r):
 LOp P ⟨d,.buildSlice t 0 #[],ty,pos,af,g⟩ τ η r.fp r.δ r.v:=by grind[E8,agw,xa]
def sg(P:Program)(τ:Nat->AV)(u t:Nat)(x y:Operand):Option Rec:=match P.underlying t with
 |some (.slice e)=>match ap P e with
  |none=>none
  |some s=>match bi P e with
   |none=>none
   |some z=>match(P.info? e).map (·.bytes)with
    |none=>none
    |some bys=>match aev τ x with
     |.v (.int .i64 (Int.ofNat len))=>match aev τ y with
      |.v (.int .i64 (Int.ofNat cap))=>bif Nat.beq len cap&&Nat.ble len 16777216&&Nat.ble (bys*len) 281474976710656&&!Nat.beq (len*s) 0 then
       some ⟨[],[(u,some ⟨0,b6 z (len*s),s,false⟩)],.sl u 0 0 len,u+1⟩else none
      |_=>none
     |_=>none
 |_=>none
theorem zx{P:Program}{τ:Nat->AV}{η:bf}{u t:Nat}{x y:Operand}{d:Option Tmp}{ty:TypeId}{pos:String}{af:Array Edge}{g:Option (Nat×Bool)}{r:Rec}(h:sg P τ u t x y=some r):
 LOp P ⟨d,.makeSlice t x y,ty,pos,af,g⟩ τ η r.fp r.δ r.v:=by
 unfold sg at h
 split at h
 ·rename_i e he
  split at h
  ·cases h
  ·rename_i s hs
   split at h
   ·cases h
   ·rename_i z hz
    split at h
    ·cases h
    ·rename_i bys h0
     split at h
     ·rename_i len hx
      split at h
      ·rename_i cap hy
       cases hc:(Nat.beq len cap&&Nat.ble len 16777216&&Nat.ble (bys*len) 281474976710656&&!Nat.beq (len*s) 0)with
       |false=>rw[hc]at h;simp only[cond_false]at h;cases h
       |true=>
        rw[hc]at h
        simp only[cond_true,agw]at h
        subst h
        simp only[ahs]at hc
        obtain⟨⟨⟨c1,c2⟩,c3⟩,c4⟩:=hc
        obtain rfl:=agv c1
        exact LOp.makeSlice u he hs hz h0 hx hy c2 c3 (by simpa using c4)
      ·cases h
     ·cases h
 ·cases h
def opE(P:Program)(call:fj):aco:=fun o E=>
 match o.op with
 |.move x=>some ⟨[],[],aev (bc E.t) x,E.u⟩
 |.assign x=>some ⟨[],[],aev (bc E.t) x,E.u⟩
 |.pick c x y=>match aev (bc E.t) c with
  |.v (.bool true)=>some ⟨[],[],aev (bc E.t) x,E.u⟩
  |.v (.bool false)=>some ⟨[],[],aev (bc E.t) y,E.u⟩
  |_=>none
 |.alloc t=>T2 P E.u t
 |.box t x=>ac1 E.u (jc (aev (bc E.t) x))
 |.build t parts=>Nv P (bc E.t) E.u t parts
 |.buildSlice t 0 ⟨[]⟩=>E8 P E.u t
 |.buildSlice t len parts=>qf P (bc E.t) E.u t len parts
 |.makeSlice t x y=>sg P (bc E.t) E.u t x y
 |.load t x=>Vz P (bc E.t) (be E.h) E.u t x
 |.store t x y=>Kb P (bc E.t) (be E.h) E.u t x y
 |.fieldAddr t x i=>sr P (bc E.t) (be E.h) E.u t x i
 |.indexAddr t x i=>sk P (bc E.t) (be E.h) E.u t x i
 |.nilCheck x=>match aev (bc E.t) x with
  |.ptr id ver o=>match fw (be E.h) id ver with
   |some b=>some ⟨[id],[],.ptr id ver o,E.u⟩
   |none=>none
  |.tp cs o=>some ⟨[],[],.tp cs o,E.u⟩
  |_=>yc P (bc E.t) o E.u
 |.extract x i=>match aev (bc E.t) x with
  |.tup cs=>match cs[i]? with
   |some v=>some ⟨[],[],v,E.u⟩
   |none=>none
  |_=>yc P (bc E.t) o E.u
 |.call ⟨.value (.func f),xs,ats⟩=>Rd P call (bc E.t) (be E.h) E.u f xs
 |.call ⟨.builtin .len,⟨[x]⟩,ats⟩=>match ae4 P (bc E.t) (be E.h) E.u x ats with
  |some r=>some r
  |none=>yc P (bc E.t) o E.u
 |.call ⟨.builtin .append,⟨[s,x]⟩,⟨[t,t']⟩⟩=>bif Nat.beq t t' then Fb P (bc E.t) (be E.h) E.u t s x else none
 |_=>yc P (bc E.t) o E.u
theorem Zw{P:Program}{call:fj}(h0:∀f ys ret,call f ys=some ret->eu P f ys ret):(opE P call).Ok P:=by
 intro o E r h
 obtain⟨d,op,ty,pos,af,g⟩:=o
 unfold opE at h
 simp only at h
 split at h
 ·simp only[agw]at h;subst h;exact LOp.move _
 ·simp only[agw]at h;subst h;exact LOp.assign _
 ·split at h
  ·rename_i hc
   simp only[agw]at h;subst h;exact Fh hc rfl rfl
  ·rename_i hc
   simp only[agw]at h;subst h;exact Fi hc rfl rfl
  ·cases h
 ·unfold T2 at h
  split at h
  ·rename_i z hz
   obtain⟨vs,h1,rfl⟩:=Li h
   exact T9 hz h1
  ·cases h
 ·obtain⟨vs,h1,rfl⟩:=Li h
  exact T8 h1
 ·exact Nu h
 ·exact I3 h
 ·exact xq h
 ·exact zx h
 ·exact Qg h
 ·exact Ka h
 ·exact Ak h
 ·exact Ac h
 ·split at h
  ·rename_i id ver o hx
   split at h
   ·rename_i b hb
    obtain⟨h1,h2,h3⟩:=b9 hb
    simp only[agw]at h;subst h
    exact lN hx h1 h2
   ·cases h
  ·rename_i cs o hx
   simp only[agw]at h;subst h
   exact rh hx
  ·exact qq h
 ·split at h
  ·rename_i cs hx
   split at h
   ·rename_i v hv
    simp only[agw]at h;subst h
    exact LOp.extract hx hv
   ·cases h
  ·exact qq h
 ·exact Hi h0 h
 ·split at h
  ·rename_i r' hr
   simp only[agw]at h;subst h
   exact V2 hr
  ·exact qq h
 ·rename_i s x t t'
  cases ht:Nat.beq t t' with
  |false=>rw[ht]at h;simp only[cond_false]at h;cases h
  |true=>
   rw[ht]at h
   simp only[cond_true]at h
   obtain rfl:=agv ht
   exact I6 h
 ·exact qq h
def kg:Nat->List AV->Tri AV->Option (Tri AV)
 |_,[],t=>some t
 |k,a::l,t=>match Tri.set 24 t k a with
  |some t'=>kg (k+1) l t'
  |none=>none
theorem H9:∀(l:List AV) (k:Nat) (t t':Tri AV),kg k l t=some t'->∀i,bc t' i=if h:k<=i/\i<k+l.length then l[i-k]'(by omega)else bc t i:=by
 intro l;induction l with
 |nil=>
  intro k t t' h i
  simp only[kg,agw]at h
  subst h
  rw[dif_neg (by simp<;>omega)]
 |cons a l ih=>
  intro k t t' h i
  simp only[kg]at h
  cases h1:Tri.set 24 t k a with
  |none=>rw[h1]at h;cases h
  |some t1=>
   rw[h1]at h
   rw[ih _ _ _ h i,u3 h1]
   by_cases e:i=k
   ·subst e
    rw[dif_neg (by omega),dif_pos (by simp)]
    simp[upd]
   ·by_cases hh:k+1<=i/\i<k+1+l.length
    ·rw[dif_pos hh,dif_pos (by simp;omega)]
     have:i-k=i-(k+1)+1:=by omega
     simp[this]
    ·rw[dif_neg hh,dif_neg (by simp;omega)]
     simp only[upd,wt,e,decide_false,cond_false]
end Go.Proofs.YtmbmbhkemgmhfaaGreatDoor
