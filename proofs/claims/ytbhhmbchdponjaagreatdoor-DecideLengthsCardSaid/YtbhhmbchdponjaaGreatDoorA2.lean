/- Texts of the claim. -/
import Derived.Test.YtbhhmbchdponjaaGreatDoorA1
namespace Go.Proofs.YtbhhmbchdponjaaGreatDoor
set_option linter.unusedVariables false
set_option linter.unusedSimpArgs false
open Go.RowKit
def Ctx.repl(C:Ctx)(id:Nat)(r:Nat×Nat)(z:Nat)(b:Blk)(w:World):Ctx:=
 {ρ:=fun i=>if i=id then r else C.ρ i,sz:=fun i=>if i=id then z else C.sz i,η:=C.η.set id (some b),U:=fun i=>C.U i\/i=id,T:=C.T,w:=w}
section
variable{C:Ctx}{id:Nat}{r:Nat×Nat}{z:Nat}{b:Blk}{w:World}
structure ReplOk(C:Ctx)(id:Nat)(r:Nat×Nat)(z:Nat)(b:Blk)(w:World):Prop where
 os:w.os=C.w.os
 tape:w.tape=C.w.tape
 output:w.output=C.w.output
 size:C.w.heap.size<=w.heap.size
 keep:∀k,k<C.w.heap.size->k≠r.1->w.heap[k]? =C.w.heap[k]?
 e_:(∃b0,C.η id=some b0/\b0.nilp=false/\(C.ρ id).1=r.1)\/C.w.heap.size<=r.1
 ver:C.U id->∃b0,C.η id=some b0/\b0.ver<b.ver
 nn:b.nilp=false
 tight:b.ver=TV->z=r.2+b.cs.length
 cells:∃c t,w.heap[r.1]? =some (.cells c t (0,0))/\c.size=z/\r.2+b.cs.length<=c.size/\∀j (h:j<b.cs.length) (h':r.2+j<c.size),VR C b.cs[j] c[r.2+j]
theorem m6(hg:Good C)(h:ReplOk C id r z b w):Ev C (C.repl id r z b w) where
 os:=h.os
 tape:=h.tape
 output:=h.output
 size:=h.size
 keep:=fun k hk hm=>by refine h.keep k hk (fun e=>?_);rcases h.e_ with⟨b0,h1,h2,h3⟩|h1;exact hm ⟨id,⟨b0,h1,dj h2⟩,h3.trans e.symm⟩;omega
 mine:=fun k ⟨i,⟨b',hb',ha⟩,hk⟩=>by by_cases e:i=id;subst e;simp only[Ctx.repl,if_true]at hk;rcases h.e_ with⟨b0,h1,h2,h3⟩|h1;exact .inl ⟨i,⟨b0,h1,dj h2⟩,h3.trans hk⟩;exact .inr (by omega);simp only[Ctx.repl]at hb' hk;rw[am _ _ e]at hb';simp only[e,if_false]at hk;exact .inl ⟨i,⟨b',hb',ha⟩,hk⟩
 T:=fun _ h=>h
 Tnew:=fun _ h=>.inl h
 U:=fun _ h=>.inl h
 old:=fun i b' hb hb'=>by simp only[Ctx.repl]at hb';by_cases e:i=id;subst e;rw[ak]at hb';cases hb';obtain⟨b0,h1,h2⟩:=h.ver hb;exact⟨b0,h1,by omega,fun e=>by omega⟩;rw[am _ _ e]at hb';exact⟨b',hb',ag7 _,fun _=>⟨by simp[Ctx.repl,e],by simp[Ctx.repl,e],rfl,rfl⟩⟩
theorem m5(hg:Good C)(h:ReplOk C id r z b w):Good (C.repl id r z b w):=by
 have he:=m6 hg h
 have ha:∀{i b'},(C.repl id r z b w).η i=some b'->(i=id/\b'=b)\/(i≠id/\C.η i=some b'):=by
  intro i b' hb';simp only[Ctx.repl]at hb';by_cases e:i=id;subst e;rw[ak]at hb';cases hb';exact .inl ⟨rfl,rfl⟩;rw[am _ _ e]at hb';exact .inr ⟨e,hb'⟩
 have hd:∀{i b'},C.η i=some b'->b'.kind≠1->(C.ρ i).1<C.w.heap.size:=fun hb' hk=>hg.lt ⟨_,hb',hk⟩
 have hc:∀{i b'},i≠id->C.η i=some b'->b'.kind≠1->(C.ρ i).1≠r.1:=by
  intro i b' hi hb' hb e;rcases h.e_ with⟨b0,h1,h2,h3⟩|h1;exact hi (hg.inj ⟨b',hb',hb⟩ ⟨b0,h1,dj h2⟩ (e.trans h3.symm));have:=hd hb' hb
  omega
 refine⟨?_,?_,?_,?_,?_,?_,?_⟩;intro i b' hb';rcases ha hb' with⟨rfl,rfl⟩|⟨_,hb'⟩;exact .inr rfl;exact .inl (hg.used hb');intro i b' hb' hb;rcases ha hb' with⟨rfl,rfl⟩|⟨e,hb'⟩;rw[dl h.nn]at hb;cases hb;obtain⟨ob,h1,h2⟩:=hg.obj hb' hb;have e1:(C.repl id r z b w).ρ i=C.ρ i:=by simp[Ctx.repl,e]
 rw[e1];exact⟨ob,(h.keep _ (hd hb' (by rw[hb];decide)) (hc e hb' (by rw[hb];decide))).trans h1,h2.mono hg he⟩;intro i b' hb' hb;rcases ha hb' with⟨e,rfl⟩|⟨e,hb'⟩;obtain⟨c,t,g1,g2,g3,g4⟩:=h.cells;have e1:(C.repl id r z b' w).ρ i=r:=by simp[Ctx.repl,e]
 have e2:(C.repl id r z b' w).sz i=z:=by simp[Ctx.repl,e]
 rw[e1,e2];exact⟨c,t,g1,g2,g3,fun j hj hf=>(g4 j hj hf).mono hg he⟩;obtain⟨c,t',h1,h2,h3,h4⟩:=hg.blk hb' hb;have e1:(C.repl id r z b w).ρ i=C.ρ i:=by simp[Ctx.repl,e]
 have e2:(C.repl id r z b w).sz i=C.sz i:=by simp[Ctx.repl,e]
 rw[e1,e2];exact⟨c,t',(h.keep _ (hd hb' (dj hb)) (hc e hb' (dj hb))).trans h1,h2,h3,fun j hj hf=>(h4 j hj hf).mono hg he⟩;rintro i i' ⟨b1,hq,hl⟩ ⟨b2,hr,hm⟩ hh;rcases ha hq with⟨h1,_⟩|⟨e1,hn⟩<;>rcases ha hr with⟨h2,_⟩|⟨e2,ho⟩;exact h1.trans h2.symm;simp only[Ctx.repl,h1,if_true,e2,if_false]at hh;exact absurd hh.symm (hc e2 ho hm);simp only[Ctx.repl,h2,if_true,e1,if_false]at hh;exact absurd hh (hc e1 hn hl);simp only[Ctx.repl,e1,e2,if_false]at hh;exact hg.inj ⟨b1,hn,hl⟩ ⟨b2,ho,hm⟩ hh;refine hg.tokE he.toFr0 fun k hk=>?_
 have:=hg.tlt (k:=k) hk;have:=h.size
 show k<w.heap.size;omega;rintro k ⟨i,⟨b',hb',hb⟩,hk⟩ hT;rcases ha hb' with⟨e,_⟩|⟨e,hb'⟩;simp only[Ctx.repl,e,if_true]at hk;rcases h.e_ with⟨b0,h1,h2,h3⟩|h1;exact hg.apart ⟨id,⟨b0,h1,dj h2⟩,h3.trans hk⟩ hT;have:=hg.tlt (k:=k) hT
 omega;simp only[Ctx.repl,e,if_false]at hk;exact hg.apart ⟨i,⟨b',hb',hb⟩,hk⟩ hT;intro i b' hb' hp hb;rcases ha hb' with⟨e,rfl⟩|⟨e,hb'⟩;have e1:(C.repl id r z b' w).ρ i=r:=by simp[Ctx.repl,e]
 have e2:(C.repl id r z b' w).sz i=z:=by simp[Ctx.repl,e]
 rw[e1,e2];exact h.tight hp;have e1:(C.repl id r z b w).ρ i=C.ρ i:=by simp[Ctx.repl,e]
 have e2:(C.repl id r z b w).sz i=C.sz i:=by simp[Ctx.repl,e]
 rw[e1,e2];exact hg.tight hb' hp hb
end
def Src(η:bi)(fp:List Nat)(a:AV)(m:Nat)(news:List AV):Prop:=
 ∀C:Ctx,Good C->(∀id∈fp,C.η id=η id)->∀x,VR C a x->(m=0/\news=[]/\∃ad c,x=.slice ad 0 c)\/
  ∃(ad:Addr) (c:Nat) (vals:List Value),x=.slice (some ad) m c/\vals.length=news.length/\(∀(j:Nat) (u:Value),vals[j]? =some u->C.w.cell? (ad.add j)=some u)/\∀j (h:j<news.length) (h':j<vals.length),VR C news[j] vals[j]
theorem iv{n:Nat}:∀(xs:List (List AV)) (_:∀k (h:k<xs.length),xs[k].length=n) (i:Nat),i<xs.length*n->∃(h:i/n<xs.length) (h':i%n<xs[i/n].length) (h'':i<xs.flatten.length),xs.flatten[i]=xs[i/n][i%n]
 |[],_,i,h=>by simp at h
 |x::r,hl,i,hi=>by
  have h0:x.length=n:=hl 0 (by simp)
  have ha:0<n:=by
   rcases Nat.eq_zero_or_pos n with e|e;subst e;simp at hi;exact e
  by_cases hb:i<n;have e1:i/n=0:=Nat.div_eq_of_lt hb
  have e2:i%n=i:=Nat.mod_eq_of_lt hb;refine⟨by rw[e1];simp,by simp only[e1,e2];simp;omega,by simp;omega,?_⟩;simp only[e1,e2,List.getElem_cons_zero,List.flatten_cons];rw[List.getElem_append_left (by omega)];have hc:n<=i:=by omega
  obtain⟨g1,g2,g3,g4⟩:=iv r (fun k hk=>by have:=hl (k+1) (by simpa using hk);simpa using this) (i-n) (by simp[Nat.add_mul]at hi;omega);have e1:i/n=(i-n)/n+1:=by rw[Nat.div_eq_sub_div ha hc]
  have e2:i%n=(i-n)%n:=Nat.mod_eq_sub_mod hc;refine⟨by rw[e1];simp;exact g1,by simp only[e1,e2,List.getElem_cons_succ];exact g2,by simp at g3 ⊢;omega,?_⟩;simp only[e1,e2,List.getElem_cons_succ,List.flatten_cons];rw[List.getElem_append_right (by omega),<-g4];congr 1;omega
theorem j4{n:Nat}:∀(xs:List (List AV)) (_:∀k (h:k<xs.length),xs[k].length=n),xs.flatten.length=xs.length*n
 |[],_=>by simp
 |x::r,hl=>by have h0:x.length=n:=hl 0 (by simp);have:=j4 r (fun k hk=>by have:=hl (k+1) (by simpa using hk);simpa using this);simp only[List.flatten_cons,agw,ahe,Nat.add_mul,this,h0];omega
theorem Src.tree{η:bi}{n:Nat}{xs:List (List AV)}:Src η [] (.tree n xs) xs.length xs.flatten:=by
 intro C hg _ x hx
 have h:=hx.tree_inv
 cases h with
 |tree0 h=>exact .inl ⟨rfl,rfl,_,_,rfl⟩
 |tree cell hT h1 h2 h3 h4 h5 h6=>
  rename_i b off cap
  right
  have hc:=j4 xs h4
  refine⟨⟨b,off,none⟩,cap,(List.range (xs.length*n)).map fun i=>cell (i/n) (i%n),rfl,by simp[hc],fun j u hj=>?_,fun j hj hb=>?_⟩
  ·simp only[List.getElem?_map]at hj
   cases hr:(List.range (xs.length*n))[j]? with
   |none=>rw[hr]at hj;cases hj
   |some q=>
    rw[hr]at hj
    obtain⟨hd,hq⟩:=ahl.1 hr
    simp only[List.getElem_range]at hq
    subst hq
    simp only[ahn,agv]at hj
    subst hj
    have ha:j<xs.length*n:=by simpa using hd
    obtain⟨g1,g2,_,_⟩:=iv xs h4 j ha
    rw[h4 _ g1]at g2
    rw[Addr.add_mid]
    have:=h5 (j/n) (j%n) g1 g2
    rw[show off+j/n*n+j%n=off+j by have:=Nat.div_add_mod j n;rw[Nat.mul_comm]at this;omega]at this
    exact this
  ·simp only[agz,List.length_range]at hb
   obtain⟨g1,g2,g3,g4⟩:=iv xs h4 j hb
   rw[g4]
   simp only[List.getElem_map,List.getElem_range]
   exact .imm (h6 _ g1 _ g2)
theorem Src.sl{η:bi}{id ver off len:Nat}{b:Blk}{news:List AV}(hb:η id=some b)(hv:b.ver=ver)(hn:b.nilp=false)(hd:Nat.beq len 0=false)(hc:cy off news.length b.cs=some news):Src η [id] (.sl id ver off len) len news:=by
 intro C hg hη x hx;have hb':C.η id=some b:=(hη id (by simp)).trans hb
 have ha:len≠0:=fun e=>by rw[e]at hd;cases hd
 obtain⟨ad,cap,rfl,h1,h2,h3,h4⟩:=hx.sl_inv hb' hv hn;rcases h4 with⟨h4,_⟩|⟨rfl,h4⟩;exact absurd h4 ha;obtain⟨g1,g2⟩:=dy _ _ _ _ hc;right;obtain⟨f,hf⟩:=ef (n:=news.length) (p:=fun j y=>C.w.cell? ⟨(C.ρ id).1,(C.ρ id).2+off+j,none⟩=some y/\VR C (news.getD j .unk) y) (fun j hj=>by obtain⟨y,hy,hh⟩:=hg.cell hb' hn (j:=off+j) (by omega);refine⟨y,by rw[Nat.add_assoc];exact hy,have e:news.getD j .unk=news[j]:=(by simp[List.getD,hj]);?_⟩;have e2:news[j]=b.cs[off+j]'(by omega):=(by have:news[j]? =b.cs[off+j]?:=(by rw[g2,List.getElem?_take_of_lt (by omega),List.getElem?_drop]);rw[agt hj,agt (by omega)]at this;exact Option.some.inj this);rw[e,e2];exact hh);exact⟨_,cap,(List.range news.length).map f,rfl,by simp,fun j u hj=>by obtain⟨hi,he⟩:=ahl.1 hj;simp only[List.getElem_map,List.getElem_range]at he;subst he;rw[Addr.add_mid];exact(hf j (by simpa using hi)).1,fun j hj hj'=>by simp only[List.getElem_map,List.getElem_range];have:=(hf j hj).2;simpa[List.getD,hj]using this⟩
section
variable{P:Program}{τ:Nat->AV}{η:bi}{d:Option Tmp}{ty:TypeId}{pos:String}{af:Array Edge}{g:Option (Nat×Bool)}
theorem d4{a:Act}{s x:Operand}{t1 t2:TypeId}(w:World){v:Value}{w':World}(h:(Builtin.append_ #[t1,t2] ty #[a.eval s,a.eval x]).run P w=.ok v w'):
 (execOp a.eval ⟨d,.call {callee:=.builtin .append,args:=#[s,x],argTypes:=#[t1,t2]},ty,pos,af,g⟩).run P w=.ok (.value v) w':=by
 simp only[execOp,resolve,invoke,builtin,Sem.run_bind,ahc,ahb,List.map_toArray,ahg,List.map_nil,h]
theorem c9{t e:TypeId}{i:TypeInfo}(ht:P.underlying t=some (.slice e))(hi:P.info? e=some i)(w:World)(a ad:Option Addr)(n cap c:Nat)(ha:n<=cap):
 (Builtin.append_ #[t,t] ty #[.slice a n cap,.slice ad 0 c]).run P w=.ok (.slice a n cap) w:=by
 have h1:∀x:Option Addr,(Builtin.firstCells i.size 0 (.slice x 0 c)).run P w=.ok #[] w:=by intro x;cases x<;>simp[Builtin.firstCells,loadCells,loadCellsFrom]
 cases a with
 |none=>simp[Builtin.append_,run_underlying ht,sizeOf,typeInfo,hi,Builtin.lenOf,ha,h1]
 |some b=>simp[Builtin.append_,run_underlying ht,sizeOf,typeInfo,hi,Builtin.lenOf,ha,h1,storeCells]
theorem pu{t e:TypeId}{i:TypeInfo}(ht:P.underlying t=some (.slice e))(hi:P.info? e=some i)(w:World)(gb o n cap:Nat)(cur:Array Value)(t':TypeId)(hc:w.heap[gb]? =some (.cells cur t' (0,0)))
 (a:Addr)(m c:Nat)(news:List Value)(hl:news.length=m*i.size)(ha:∀(j:Nat) (u:Value),news[j]? =some u->w.cell? (a.add j)=some u)(h1:∀u∈news,u.oneCell'=true)
 (hb:n+m<=cap)(hfit:o+n*i.size+news.length<=cur.size):
 (Builtin.append_ #[t,t] ty #[.slice (some ⟨gb,o,none⟩) n cap,.slice (some a) m c]).run P w=.ok (.slice (some ⟨gb,o,none⟩) (n+m) cap) (w.setCells gb (o+n*i.size) news):=by
 have hf:=run_firstCells_some (P:=P) w i.size m a m c news hl ha
 have hd:=run_storeCells_cells (P:=P) gb (o+n*i.size) news 0 w (fun j hj=>by have:o+n*i.size+0+j<cur.size:=(by omega);simp[World.cell?,hc];omega) (fun j _=>by simp[World.frozen?,hc]) h1
 simp only[Nat.add_zero]at hd
 simp[Builtin.append_,run_underlying ht,sizeOf,typeInfo,hi,Builtin.lenOf,hb,hf,Addr.add_mid,hd]
theorem LOp.append{t e sz by_:Nat}{s x:Operand}{z:Value}{fp:List Nat}{id ver len m:Nat}{b:Blk}{news:List AV}(ht:P.underlying t=some (.slice e))(hs:ao P e=some sz)(hz:bj P e=some z)(gf:(P.info? e).map (·.bytes)=some by_)(gq:z.cells.size=sz)
 (hx:aev τ s=.sl id ver 0 len)(hb:η id=some b)(hv:b.ver=ver)(hn:b.nilp=false)(gg:b.esz=sz)(hlen:len*sz<=b.cs.length)(gh:Src η fp (aev τ x) m news)(hnl:news.length=m*sz)(h1:news.all AV.one=true)
 (gi:(len+m)*by_<=140737488355328)(hm:len+m<=140737488355328)(gl:ver+1≠TV):
 LOp P ⟨d,.call {callee:=.builtin .append,args:=#[s,x],argTypes:=#[t,t]},ty,pos,af,g⟩ τ η (id::fp) [(id,some ⟨ver+1,b.cs.take (len*sz)++news,sz,false⟩)] (.sl id (ver+1) 0 (len+m)):=by
 intro C a hg gm gn _ K Q hK
 unfold ao at hs
 unfold bj at hz
 cases hi:P.info? e with
 |none=>rw[hi]at hz;cases hz
 |some inf=>
  rw[hi]at hz hs gf
  simp only[aho]at hz
  simp only[ahn,agv]at hs gf
  subst hs;subst gf
  have hb':C.η id=some b:=(gn id (by simp)).trans hb
  have e1:=gm s (by simp[Op.operands,Call.operands])
  rw[hx]at e1
  obtain⟨ad,cap,e2,c1,c2,c3,c4⟩:=e1.sl_inv hb' hv hn
  have e3:=gh C hg (fun i hi=>gn i (by simp[hi])) _ (gm x (by simp[Op.operands,Call.operands]))
  obtain⟨cs,t',g1,g2,g3,g4⟩:=hg.blk hb' hn
  have hU:C.U id:=hg.used hb'
  have hh:∀(r:Nat×Nat) (zz:Nat) (w':World) (v:Value),(Builtin.append_ #[t,t] ty #[a.eval s,a.eval x]).run P C.w=.ok v w'->ReplOk C id r zz ⟨ver+1,b.cs.take (len*inf.size)++news,inf.size,false⟩ w'->
   VR (C.repl id r zz ⟨ver+1,b.cs.take (len*inf.size)++news,inf.size,false⟩ w') (.sl id (ver+1) 0 (len+m)) v->(⟨d,.call {callee:=.builtin .append,args:=#[s,x],argTypes:=#[t,t]},ty,pos,af,g⟩:Oper).wp P a C.w K Q:=by
   intro r zz w' v hr hd gr
   unfold Oper.wp
   rw[d4 C.w hr]
   exact hK v (C.repl id r zz _ w') rfl (fun i=>by simp[Ctx.repl]) (m5 hg hd) (m6 hg hd) gr
  have gd:(b.cs.take (len*inf.size)).length=len*inf.size:=by simp;omega
  -- nothing is appended,or the slice has room
  have ha:∀(vals:List Value) (w':World),vals.length=news.length->(∀j (h:j<news.length) (h':j<vals.length),VR C news[j] vals[j])->w'=C.w.setCells (C.ρ id).1 ((C.ρ id).2+len*inf.size) vals->(C.ρ id).2+len*inf.size+news.length<=cs.size->
   ReplOk C id (C.ρ id) (C.sz id) ⟨ver+1,b.cs.take (len*inf.size)++news,inf.size,false⟩ w':=by
   intro vals w' ge gs hw g5
   subst hw
   obtain⟨r1,r2,r3,r4⟩:=eg vals C.w (C.ρ id).1 ((C.ρ id).2+len*inf.size)
   refine⟨r1,r2,r3,by rw[r4];exact ag7 _,fun k _ hk=>il _ _ _ _ _ hk,.inl ⟨b,hb',hn,rfl⟩,fun _=>⟨b,hb',by simp[hv]⟩,rfl,fun e=>absurd e gl,setR cs ((C.ρ id).2+len*inf.size) vals,t',mj _ _ _ _ _ _ g1,by rw[j9];exact g2,by rw[j9];simp[gd];omega,?_⟩
   intro j hj ho
   have gt:j<len*inf.size+news.length:=by simpa[gd]using hj
   have go:(C.ρ id).2+j<cs.size:=by rw[j9]at ho;exact ho
   by_cases hl:j<len*inf.size
   ·have e4:(b.cs.take (len*inf.size)++news)[j]=b.cs[j]'(by omega):=by
     rw[List.getElem_append_left (by omega)];simp
    have e5:(setR cs ((C.ρ id).2+len*inf.size) vals)[(C.ρ id).2+j]'ho=cs[(C.ρ id).2+j]:=by
     have:=qy vals cs ((C.ρ id).2+len*inf.size) ((C.ρ id).2+j) (by omega)
     rw[Array.getElem?_eq_getElem ho,Array.getElem?_eq_getElem go]at this
     exact Option.some.inj this
    simp only[e4,e5]
    exact g4 j (by omega) go
   ·obtain⟨q,rfl⟩:∃q,j=len*inf.size+q:=⟨j-len*inf.size,by omega⟩
    have hq:q<news.length:=by omega
    have e4:(b.cs.take (len*inf.size)++news)[len*inf.size+q]=news[q]:=by
     have:(b.cs.take (len*inf.size)++news)[len*inf.size+q]? =news[q]?:=by
      rw[List.getElem?_append_right (by omega)]
      congr 1
      omega
     rw[agt hj,agt hq]at this
     exact Option.some.inj this
    have e5:(setR cs ((C.ρ id).2+len*inf.size) vals)[(C.ρ id).2+(len*inf.size+q)]'ho=vals[q]'(by omega):=by
     have:=zc vals cs ((C.ρ id).2+len*inf.size) q (by omega) (by omega)
     rw[Nat.add_assoc,Array.getElem?_eq_getElem ho,agt (by omega)]at this
     exact Option.some.inj this
    simp only[e4,e5]
    exact gs q hq (by omega)
  rcases e3 with⟨rfl,rfl,ad2,c',g6⟩|⟨ad2,c',vals,g6,v1,v2,v3⟩
  ·-- nothing
   have hr:=c9 (P:=P) (ty:=ty) ht hi C.w (some ad) ad2 len cap c' c1
   rw[<-e2,<-g6]at hr
   have hd:=ha [] C.w rfl (fun j h=>by simp at h) rfl (by simp;omega)
   refine hh _ _ _ _ (by rw[e2]at hr ⊢;exact hr) hd ?_
   have g7:(C.repl id (C.ρ id) (C.sz id) ⟨ver+1,b.cs.take (len*inf.size)++[],inf.size,false⟩ C.w).η id=some ⟨ver+1,b.cs.take (len*inf.size)++[],inf.size,false⟩:=ak _ _ _
   rcases c4 with⟨h0,gu⟩|⟨rfl,c4⟩
   ·subst h0;subst gu
    exact VR.slz g7 rfl rfl
   ·have:=VR.sl (C:=C.repl id (C.ρ id) (C.sz id) ⟨ver+1,b.cs.take (len*inf.size)++[],inf.size,false⟩ C.w) (id:=id) (ver:=ver+1) (off:=0) (len:=len) (cap:=cap) g7 rfl rfl c1 c2 c3 (by simp only[Ctx.repl,if_true];rw[<-gg];exact c4)
    simpa[Ctx.repl]using this
  ·have g8:∀u∈vals,u.oneCell'=true:=by
    intro u hu
    obtain⟨j,hj,rfl⟩:=ahd hu
    exact(v3 j (by omega) hj).one (List.all_eq_true.1 h1 _ (ags _))
   have ge:vals.length=m*inf.size:=by omega
   have htot:(vals.length:Nat)=news.length:=v1
   by_cases hc:len+m<=cap
   ·by_cases g9:len=0/\cap=0
    ·-- nothing after all
     obtain⟨rfl,rfl⟩:=g9
     have gv:m=0:=by omega
     subst gv
     have gw:news=[]:=ahk (by omega)
     subst gw
     have hr:=c9 (P:=P) (ty:=ty) ht hi C.w (some ad) (some ad2) 0 0 c' (ag7 _)
     rw[<-e2,<-g6]at hr
     have hd:=ha [] C.w rfl (fun j h=>by simp at h) rfl (by simp;omega)
     refine hh _ _ _ _ (by rw[e2]at hr ⊢;exact hr) hd ?_
     exact VR.slz (b:=⟨ver+1,b.cs.take (0*inf.size)++[],inf.size,false⟩) (ak _ _ _) rfl rfl
    ·rcases c4 with h|⟨rfl,c4⟩
     ·exact absurd h g9
     have gj:(len+m)*inf.size<=cap*inf.size:=Nat.mul_le_mul_right _ hc
     rw[Nat.add_mul]at gj
     have g5:(C.ρ id).2+len*inf.size+news.length<=cs.size:=by rw[gg]at c4;omega
     have hr:=pu (P:=P) (ty:=ty) ht hi C.w (C.ρ id).1 ((C.ρ id).2+0) len cap cs t' g1 ad2 m c' vals ge v2 g8 hc (by omega)
     rw[<-e2,<-g6]at hr
     have hd:=ha vals _ v1 v3 rfl g5
     refine hh _ _ _ _ (by rw[Nat.add_zero]at hr;exact hr) hd ?_
     have:=VR.sl (C:=C.repl id (C.ρ id) (C.sz id) ⟨ver+1,b.cs.take (len*inf.size)++news,inf.size,false⟩ (C.w.setCells (C.ρ id).1 ((C.ρ id).2+len*inf.size) vals)) (id:=id) (ver:=ver+1) (off:=0) (len:=len+m) (cap:=cap) (b:=⟨ver+1,b.cs.take (len*inf.size)++news,inf.size,false⟩) (ak _ _ _) rfl rfl hc c2 hm
      (by simp only[Ctx.repl,if_true];rw[<-gg];exact c4)
     simpa[Ctx.repl]using this
   ·-- a new row
    obtain⟨f,hf⟩:=ef (n:=len*inf.size) (p:=fun j y=>C.w.cell? ⟨(C.ρ id).1,(C.ρ id).2+j,none⟩=some y/\∀h:j<b.cs.length,VR C b.cs[j] y) (fun j hj=>by
     obtain⟨y,hy,gx⟩:=hg.cell hb' hn (j:=j) (by omega)
     exact⟨y,hy,fun _=>gx⟩)
    have ga:∀(j:Nat) (u:Value),((List.range (len*inf.size)).map f)[j]? =some u->C.w.cell? (ad.add j)=some u:=by
     intro j u hj
     obtain⟨hl,he⟩:=ahl.1 hj
     simp only[List.getElem_map,List.getElem_range]at he
     subst he
     have gb:j<len*inf.size:=by simpa using hl
     rcases c4 with⟨h0,_⟩|⟨rfl,_⟩
     ·subst h0;simp at gb
     ·rw[Addr.add_mid,Nat.add_zero]
      exact(hf j gb).1
    have hl:cap<len+m:=by omega
    have hr:=run_append_grow (P:=P) C.w t ty e inf z ht hi hz ad len cap ((List.range (len*inf.size)).map f) (by simp) ga ad2 m c' vals ge v2 hl (by omega) (growslice_fits hl gi)
    rw[<-e2,<-g6]at hr
    have gp:=grownCap_ge C.w (len+m) cap e
    have gy:len+m<=maxLen:=by unfold maxLen;omega
    have gz:grownCap C.w (len+m) cap e<=maxLen:=grownCap_le_maxLen C.w (len+m) cap e gy
    generalize hp:(((List.range (len*inf.size)).map f).toArray++vals.toArray++Builtin.zeroCells z.cells (grownCap C.w (len+m) cap e-(len+m)))=nc at hr
    have gc:nc.size=grownCap C.w (len+m) cap e*inf.size:=by
     rw[<-hp]
     simp only[Array.size_append,List.size_toArray,agz,List.length_range,size_zeroCells,gq,ge,<-Nat.add_mul]
     congr 1
     omega
    have gk:∀j (h:j<(b.cs.take (len*inf.size)++news).length) (h':j<nc.size),VR C (b.cs.take (len*inf.size)++news)[j] nc[j]:=by
     intro j hj ho
     have gt:j<len*inf.size+news.length:=by simpa[gd]using hj
     have g0:nc[j]? =(((List.range (len*inf.size)).map f)++vals)[j]?:=by
      rw[<-hp,Array.getElem?_append_left (by simp;omega)]
      simp
     rw[Array.getElem?_eq_getElem ho]at g0
     by_cases hl:j<len*inf.size
     ·have e4:(b.cs.take (len*inf.size)++news)[j]=b.cs[j]'(by omega):=by
       rw[List.getElem_append_left (by omega)];simp
      rw[List.getElem?_append_left (by simpa using hl)]at g0
      simp only[List.getElem?_map,List.getElem?_range hl,ahn,agv]at g0
      rw[e4,g0]
      exact(hf j hl).2 (by omega)
     ·obtain⟨q,rfl⟩:∃q,j=len*inf.size+q:=⟨j-len*inf.size,by omega⟩
      have hq:q<news.length:=by omega
      have e4:(b.cs.take (len*inf.size)++news)[len*inf.size+q]=news[q]:=by
       have:(b.cs.take (len*inf.size)++news)[len*inf.size+q]? =news[q]?:=by
        rw[List.getElem?_append_right (by omega)]
        congr 1
        omega
       rw[agt hj,agt hq]at this
       exact Option.some.inj this
      rw[List.getElem?_append_right (by simp)]at g0
      simp only[agz,List.length_range,Nat.add_sub_cancel_left]at g0
      rw[agt (by omega)]at g0
      rw[e4,Option.some.inj g0]
      exact v3 q hq (by omega)
    have f0:(C.w.drew.alloc (.cells nc e)).heap[C.w.heap.size]? =some (.cells nc e (0,0)):=heap_alloc_new C.w.drew _
    have hd:ReplOk C id (C.w.heap.size,0) nc.size ⟨ver+1,b.cs.take (len*inf.size)++news,inf.size,false⟩ (C.w.drew.alloc (.cells nc e)):=by
     refine⟨rfl,rfl,rfl,by simp,fun k hk _=>Below.heap_alloc C.w.drew _ k hk,.inr (ag7 _),fun _=>⟨b,hb',by simp[hv]⟩,rfl,fun e=>absurd e gl,nc,e,f0,rfl,?_,fun j h h'=>?_⟩
     ·rw[gc]
      have:(len+m)*inf.size<=grownCap C.w (len+m) cap e*inf.size:=Nat.mul_le_mul_right _ gp
      rw[Nat.add_mul]at this
      simp[gd];omega
     ·have:=gk j h (by simpa using h')
      simpa using this
    refine hh _ _ _ _ hr hd ?_
    have:=VR.sl (C:=C.repl id (C.w.heap.size,0) nc.size ⟨ver+1,b.cs.take (len*inf.size)++news,inf.size,false⟩ (C.w.drew.alloc (.cells nc e))) (id:=id) (ver:=ver+1) (off:=0) (len:=len+m) (cap:=grownCap C.w (len+m) cap e) (b:=⟨ver+1,b.cs.take (len*inf.size)++news,inf.size,false⟩) (ak _ _ _) rfl rfl gp gz hm
     (by simp[Ctx.repl,gc])
    simpa[Ctx.repl]using this
end
section
variable{P:Program}{τ:Nat->AV}{η:bi}{d:Option Tmp}{ty:TypeId}{pos:String}{af:Array Edge}{g:Option (Nat×Bool)}
theorem VR.slnil_inv{C:Ctx}{id ver len:Nat}{b:Blk}{x:Value}(h:VR C (.sl id ver 0 len) x)(hb:C.η id=some b)(hv:b.ver=ver)(hn:b.nilp=true):x=.slice none 0 0/\len=0/\b.cs=[]:=by
 cases h with
 |imm h=>cases h
 |sl hb' _ ha=>rw[hb]at hb';cases hb';rw[hn]at ha;cases ha
 |slz hb' _ ha=>rw[hb]at hb';cases hb';rw[hn]at ha;cases ha
 |slnil hb' _ hk=>rw[hb]at hb';cases hb';exact⟨rfl,rfl,(Rr hk).2⟩
 |stales _ _ hs=>have:=hs b hb;omega
theorem yo{C:Ctx}(hg:Good C){t e sz by_:Nat}{inf:TypeInfo}{z:Value}{id w m:Nat}{news:List AV}{vals:List Value}{ad:Addr}{c:Nat}(ht:P.underlying t=some (.slice e))(hi:P.info? e=some inf)(hz:inf.zero=some z)(hn:z.cells.size=inf.size)
 (hm:0<m)(hf:vals.length=m*inf.size)(v1:vals.length=news.length)(v2:∀(j:Nat) (u:Value),vals[j]? =some u->C.w.cell? (ad.add j)=some u)(v3:∀j (h:j<news.length) (h':j<vals.length),VR C news[j] vals[j])
 (hmax:m*inf.bytes<=140737488355328)(hb:m<=140737488355328)(hd:C.U id->∃b0,C.η id=some b0/\b0.ver<w)(ho:w≠TV):
 ∃r zz w' v,(Builtin.append_ #[t,t] ty #[.slice none 0 0,.slice (some ad) m c]).run P C.w=.ok v w'/\ReplOk C id r zz ⟨w,news,inf.size,false⟩ w'/\VR (C.repl id r zz ⟨w,news,inf.size,false⟩ w') (.sl id w 0 m) v:=by
 have hr:=run_append_nil (P:=P) C.w t ty e inf z ht hi hz ad m c vals hf v2 hm (by omega) (by omega)
 have hh:=grownCap_ge C.w m 0 e
 have hp:m<=maxLen:=by unfold maxLen;omega
 have hq:grownCap C.w m 0 e<=maxLen:=grownCap_le_maxLen C.w m 0 e hp
 generalize ha:(vals.toArray++Builtin.zeroCells z.cells (grownCap C.w m 0 e-m))=nc at hr
 have hc:nc.size=grownCap C.w m 0 e*inf.size:=by rw[<-ha];simp only[Array.size_append,List.size_toArray,size_zeroCells,hn,hf,<-Nat.add_mul];congr 1;omega
 have hle:m*inf.size<=grownCap C.w m 0 e*inf.size:=Nat.mul_le_mul_right _ hh
 have he:∀j (h:j<news.length) (h':j<nc.size),VR C news[j] nc[j]:=by intro j hj hs;have hl:nc[j]? =vals[j]?:=(by rw[<-ha,Array.getElem?_append_left (by simp;omega)];simp);rw[Array.getElem?_eq_getElem hs,agt (by omega)]at hl;rw[Option.some.inj hl];exact v3 j hj (by omega)
 have hu:(C.w.drew.alloc (.cells nc e)).heap[C.w.heap.size]? =some (.cells nc e (0,0)):=heap_alloc_new C.w.drew _
 refine⟨(C.w.heap.size,0),nc.size,_,_,hr,⟨rfl,rfl,rfl,by simp,fun k hk _=>Below.heap_alloc C.w.drew _ k hk,.inr (ag7 _),hd,rfl,fun e=>absurd e ho,nc,e,hu,rfl,by rw[hc];simp;omega,fun j h h'=>by have:=he j h (by simpa using h');simpa using this⟩,?_⟩
 have:=VR.sl (C:=C.repl id (C.w.heap.size,0) nc.size ⟨w,news,inf.size,false⟩ (C.w.drew.alloc (.cells nc e))) (id:=id) (ver:=w) (off:=0) (len:=m) (cap:=grownCap C.w m 0 e) (b:=⟨w,news,inf.size,false⟩) (ak _ _ _) rfl rfl hh hq hb
  (by simp[Ctx.repl,hc])
 simpa[Ctx.repl]using this
theorem LOp.append_of{t sz m:Nat}{s x:Operand}{fp:List Nat}{id w:Nat}{news:List AV}(hfid:True)
 (h:∀(C:Ctx) (a:Act),Good C->(∀q∈(Oper.mk d (.call {callee:=.builtin .append,args:=#[s,x],argTypes:=#[t,t]}) ty pos af g).op.operands,VR C (aev τ q) (a.eval q))->(∀id∈fp,C.η id=η id)->(id∉fp->¬C.U id)->
  ∃r zz w' v,(Builtin.append_ #[t,t] ty #[a.eval s,a.eval x]).run P C.w=.ok v w'/\ReplOk C id r zz ⟨w,news,sz,false⟩ w'/\VR (C.repl id r zz ⟨w,news,sz,false⟩ w') (.sl id w 0 m) v):
 LOp P ⟨d,.call {callee:=.builtin .append,args:=#[s,x],argTypes:=#[t,t]},ty,pos,af,g⟩ τ η fp [(id,some ⟨w,news,sz,false⟩)] (.sl id w 0 m):=by
 intro C a hg hc hd ha K Q hK
 obtain⟨r,zz,w',v,hr,hb,he⟩:=h C a hg hc hd (fun h=>ha (id,some ⟨w,news,sz,false⟩) (by simp) h)
 unfold Oper.wp
 rw[d4 C.w hr]
 exact hK v (C.repl id r zz _ w') rfl (fun i=>by simp[Ctx.repl]) (m5 hg hb) (m6 hg hb) he
theorem j2{u t e sz by_ m:Nat}{s x:Operand}{z:Value}{fp:List Nat}{news:List AV}(ht:P.underlying t=some (.slice e))(hs:ao P e=some sz)(hz:bj P e=some z)(hb:(P.info? e).map (·.bytes)=some by_)(hh:z.cells.size=sz)
 (hx:aev τ s=.v (.slice none 0 0))(hu:u∉fp)(hc:Src η fp (aev τ x) m news)(hm:0<m)(hnl:news.length=m*sz)(hd:m*by_<=140737488355328)(ha:m<=140737488355328):
 LOp P ⟨d,.call {callee:=.builtin .append,args:=#[s,x],argTypes:=#[t,t]},ty,pos,af,g⟩ τ η fp [(u,some ⟨0,news,sz,false⟩)] (.sl u 0 0 m):=
 .append_of trivial fun C a hg hf hj he=>by
  unfold ao at hs
  unfold bj at hz
  cases hi:P.info? e with
  |none=>rw[hi]at hz;cases hz
  |some inf=>
   rw[hi]at hz hs hb
   simp only[aho]at hz
   simp only[ahn,agv]at hs hb
   subst hs;subst hb
   have e1:=hf s (by simp[Op.operands,Call.operands])
   rw[hx]at e1
   rcases hc C hg hj _ (hf x (by simp[Op.operands,Call.operands]))with⟨h0,_⟩|⟨ad,c,vals,hk,v1,v2,v3⟩
   ·omega
   ·rw[e1.v_inv,hk]
    exact yo (by_:=inf.bytes) (sz:=inf.size) hg ht hi hz hh hm (by omega) v1 v2 v3 hd ha (fun h=>absurd h (he hu)) (by decide)
theorem qq{t e sz by_:Nat}{s x:Operand}{z:Value}{fp:List Nat}{id ver len m:Nat}{w:Nat}{cs news:List AV}{np:Bool}(ht:P.underlying t=some (.slice e))(hs:ao P e=some sz)(hz:bj P e=some z)(hj:(P.info? e).map (·.bytes)=some by_)(hl:z.cells.size=sz)
 (hx:aev τ s=.sl id ver 0 len)(hb:η id=some ⟨w,cs,sz,np⟩)(hv:w=ver)(hc:cs.length=len*sz)(hd:Src η fp (aev τ x) m news)(hm:0<m)(hp:news.length=m*sz)(h1:news.all AV.one=true)
 (he:(len+m)*by_<=140737488355328)(ha:len+m<=140737488355328)(hn:ver+1≠TV:=by decide):
 LOp P ⟨d,.call {callee:=.builtin .append,args:=#[s,x],argTypes:=#[t,t]},ty,pos,af,g⟩ τ η (id::fp) [(id,some ⟨ver+1,cs++news,sz,false⟩)] (.sl id (ver+1) 0 (len+m)):=by
 cases np with
 |false=>
  have:=LOp.append (P:=P) (τ:=τ) (η:=η) (d:=d) (ty:=ty) (pos:=pos) (af:=af) (g:=g) (x:=x) ht hs hz hj hl hx hb hv rfl rfl (Nat.le_of_eq hc.symm) hd hp h1 he ha hn
  rw[<-hc,List.take_length]at this
  exact this
 |true=>
  intro C a hg hf hh hk K Q hK
  have hb':C.η id=some ⟨w,cs,sz,true⟩:=(hh id (by simp)).trans hb
  have e1:=hf s (by simp[Op.operands,Call.operands])
  rw[hx]at e1
  obtain⟨e2,rfl,ho⟩:=e1.slnil_inv hb' hv rfl
  simp only at ho
  subst ho
  refine LOp.append_of (P:=P) (τ:=τ) (η:=η) (d:=d) (ty:=ty) (pos:=pos) (af:=af) (g:=g) (t:=t) (sz:=sz) (s:=s) (x:=x) (news:=[]++news) (fp:=id::fp) (id:=id) (w:=ver+1) (m:=0+m) trivial (fun C a hg hf hh _=>?_) C a hg hf hh hk K Q hK
  have hb':C.η id=some ⟨w,[],sz,true⟩:=(hh id (by simp)).trans hb
  have e1:=hf s (by simp[Op.operands,Call.operands])
  rw[hx]at e1
  obtain⟨e2,_,_⟩:=e1.slnil_inv hb' hv rfl
  unfold ao at hs
  unfold bj at hz
  cases hi:P.info? e with
  |none=>rw[hi]at hz;cases hz
  |some inf=>
   rw[hi]at hz hs hj
   simp only[aho]at hz
   simp only[ahn,agv]at hs hj
   subst hs;subst hj
   rcases hd C hg (fun i hi=>hh i (by simp[hi])) _ (hf x (by simp[Op.operands,Call.operands]))with⟨h0,_⟩|⟨ad,c,vals,hq,v1,v2,v3⟩
   ·omega
   ·rw[e2,hq]
    simp only[List.nil_append,Nat.zero_add]at*
    exact yo (by_:=inf.bytes) (sz:=inf.size) hg ht hi hz hl hm (by omega) v1 v2 v3 he ha (fun _=>⟨_,hb',by simp[hv]⟩) hn
theorem Fd{u t e sz by_:Nat}{s x:Operand}{z:Value}{fp:List Nat}{id len m:Nat}{b:Blk}{news:List AV}(ht:P.underlying t=some (.slice e))(hs:ao P e=some sz)(hz:bj P e=some z)(g0:(P.info? e).map (·.bytes)=some by_)(gb:z.cells.size=sz)
 (hx:aev τ s=.sl id TV 0 len)(hb:η id=some b)(hv:b.ver=TV)(hn:b.nilp=false)(gc:b.esz=sz)(gd:0<sz)(g1:len*sz=b.cs.length)(hpos:0<len)(hu:u∉id::fp)(g2:Src η fp (aev τ x) m news)(hm:0<m)(hnl:news.length=m*sz)
 (g3:(len+m)*by_<=140737488355328)(hl:len+m<=140737488355328):
 LOp P ⟨d,.call {callee:=.builtin .append,args:=#[s,x],argTypes:=#[t,t]},ty,pos,af,g⟩ τ η (id::fp) [(u,some ⟨0,b.cs.take (len*sz)++news,sz,false⟩)] (.sl u 0 0 (len+m)):=by
 refine LOp.append_of (P:=P) (τ:=τ) (η:=η) (d:=d) (ty:=ty) (pos:=pos) (af:=af) (g:=g) (t:=t) (sz:=sz) (s:=s) (x:=x) (news:=b.cs.take (len*sz)++news) (fp:=id::fp) (id:=u) (w:=0) (m:=len+m) trivial (fun C a hg g6 g7 g4=>?_)
 have hU:¬C.U u:=g4 hu
 have hb':C.η id=some b:=(g7 id (by simp)).trans hb
 have e1:=g6 s (by simp[Op.operands,Call.operands])
 rw[hx]at e1
 obtain⟨ad,cap,e2,c1,c2,c3,c4⟩:=e1.sl_inv hb' hv hn
 have hh:=hg.tight hb' hv hn
 unfold ao at hs
 unfold bj at hz
 cases hi:P.info? e with
 |none=>rw[hi]at hz;cases hz
 |some inf=>
  rw[hi]at hz hs g0
  simp only[aho]at hz
  simp only[ahn,agv]at hs g0
  subst hs;subst g0
  have g8:(b.cs.take (len*inf.size)).length=len*inf.size:=by simp;omega
  have hcap:cap=len:=by rcases c4 with⟨h0,_⟩|⟨_,c4⟩;omega;rw[hh,gc,<-g1]at c4;have h5:cap*inf.size<=len*inf.size:=(by omega);have h6:cap<=len:=Nat.le_of_mul_le_mul_right h5 gd;omega
  rcases g2 C hg (fun i hi=>g7 i (by simp[hi])) _ (g6 x (by simp[Op.operands,Call.operands]))with⟨h0,_⟩|⟨ad2,c',vals,ge,v1,v2,v3⟩
  ·omega
  ·have g9:vals.length=m*inf.size:=by omega
   obtain⟨f,hf⟩:=ef (n:=len*inf.size) (p:=fun j y=>C.w.cell? ⟨(C.ρ id).1,(C.ρ id).2+j,none⟩=some y/\∀h:j<b.cs.length,VR C b.cs[j] y) (fun j hj=>by obtain⟨y,hy,gf⟩:=hg.cell hb' hn (j:=j) (by omega);exact⟨y,hy,fun _=>gf⟩)
   have ho:∀(j:Nat) (u:Value),((List.range (len*inf.size)).map f)[j]? =some u->C.w.cell? (ad.add j)=some u:=by intro j u hj;obtain⟨ha,he⟩:=ahl.1 hj;simp only[List.getElem_map,List.getElem_range]at he;subst he;have hp:j<len*inf.size:=(by simpa using ha);rcases c4 with⟨h0,_⟩|⟨rfl,_⟩;subst h0;simp at hp;rw[Addr.add_mid,Nat.add_zero];exact(hf j hp).1
   have ha:cap<len+m:=by omega
   have hr:=run_append_grow (P:=P) C.w t ty e inf z ht hi hz ad len cap ((List.range (len*inf.size)).map f) (by simp) ho ad2 m c' vals g9 v2 ha (by omega) (growslice_fits ha g3)
   rw[<-e2,<-ge]at hr
   have ga:=grownCap_ge C.w (len+m) cap e
   have gg:len+m<=maxLen:=by unfold maxLen;omega
   have gh:grownCap C.w (len+m) cap e<=maxLen:=grownCap_le_maxLen C.w (len+m) cap e gg
   generalize hc:(((List.range (len*inf.size)).map f).toArray++vals.toArray++Builtin.zeroCells z.cells (grownCap C.w (len+m) cap e-(len+m)))=nc at hr
   have hw:nc.size=grownCap C.w (len+m) cap e*inf.size:=by rw[<-hc];simp only[Array.size_append,List.size_toArray,agz,List.length_range,size_zeroCells,gb,g9,<-Nat.add_mul];congr 1;omega
   have g5:∀j (h:j<(b.cs.take (len*inf.size)++news).length) (h':j<nc.size),VR C (b.cs.take (len*inf.size)++news)[j] nc[j]:=by intro j hj gi;have hjl:j<len*inf.size+news.length:=(by simpa[g8]using hj);have hd:nc[j]? =(((List.range (len*inf.size)).map f)++vals)[j]?:=(by rw[<-hc,Array.getElem?_append_left (by simp;omega)];simp);rw[Array.getElem?_eq_getElem gi]at hd;by_cases ha:j<len*inf.size;have e4:(b.cs.take (len*inf.size)++news)[j]=b.cs[j]'(by omega):=(by rw[List.getElem_append_left (by omega)];simp);rw[List.getElem?_append_left (by simpa using ha)]at hd;simp only[List.getElem?_map,List.getElem?_range ha,ahn,agv]at hd;rw[e4,hd];exact(hf j ha).2 (by omega);obtain⟨q,rfl⟩:∃q,j=len*inf.size+q:=⟨j-len*inf.size,by omega⟩;have hq:q<news.length:=(by omega);have e4:(b.cs.take (len*inf.size)++news)[len*inf.size+q]=news[q]:=(by have:(b.cs.take (len*inf.size)++news)[len*inf.size+q]? =news[q]?:=(by rw[List.getElem?_append_right (by omega)];congr 1;omega);rw[agt hj,agt hq]at this;exact Option.some.inj this);rw[List.getElem?_append_right (by simp)]at hd;simp only[agz,List.length_range,Nat.add_sub_cancel_left]at hd;rw[agt (by omega)]at hd;rw[e4,Option.some.inj hd];exact v3 q hq (by omega)
   have gj:(C.w.drew.alloc (.cells nc e)).heap[C.w.heap.size]? =some (.cells nc e (0,0)):=heap_alloc_new C.w.drew _
   have gk:ReplOk C u (C.w.heap.size,0) nc.size ⟨0,b.cs.take (len*inf.size)++news,inf.size,false⟩ (C.w.drew.alloc (.cells nc e)):=⟨rfl,rfl,rfl,by simp,fun k hk _=>Below.heap_alloc C.w.drew _ k hk,.inr (ag7 _),fun h=>absurd h hU,rfl,fun e=>absurd e (by show¬((0:Nat)=TV);decide),nc,e,gj,rfl,by rw[hw];have:(len+m)*inf.size<=grownCap C.w (len+m) cap e*inf.size:=Nat.mul_le_mul_right _ ga;rw[Nat.add_mul]at this;simp[g8];omega,fun j h h'=>by have:=g5 j h (by simpa using h');simpa using this⟩
   refine⟨(C.w.heap.size,0),nc.size,_,_,hr,gk,?_⟩
   have:=VR.sl (C:=C.repl u (C.w.heap.size,0) nc.size ⟨0,b.cs.take (len*inf.size)++news,inf.size,false⟩ (C.w.drew.alloc (.cells nc e))) (id:=u) (ver:=0) (off:=0) (len:=len+m) (cap:=grownCap C.w (len+m) cap e) (b:=⟨0,b.cs.take (len*inf.size)++news,inf.size,false⟩) (ak _ _ _) rfl rfl ga gh hl
    (by simp[Ctx.repl,hw])
   simpa[Ctx.repl]using this
end
theorem SRel.lazy{N:Nat}{C:Ctx}{s:St}{a:Act}(h:SRel N C s a)(z:Nat)(ht:Nat.ble (s.u+1) TOP=true):∃C',C'.w=C.w/\Fr C C'/\Good C'/\(∀{v x},VR C v x->VR C' v x)/\VR C' (.sl s.u 0 0 0) (.slice none 0 0)/\C'.η=s.η.set s.u (some ⟨0,[],z,true⟩)/\(∀id,C'.U id->id<s.u+1\/TOP<=id)/\C'.ρ=C.ρ/\C'.sz=C.sz/\C'.T=C.T:=by
 have hg:¬C.U s.u:=fun hu=>by have:=h.u _ hu;have:=ag9 ht;omega
 let C':Ctx:={C with η:=C.η.set s.u (some ⟨0,[],z,true⟩),U:=fun i=>C.U i\/i=s.u}
 have hl:∀{i b'},C'.η i=some b'->(i=s.u/\b'=⟨0,[],z,true⟩)\/(i≠s.u/\C.η i=some b'):=by
  intro i b' hb';by_cases e:i=s.u;subst e;have:=hb';simp only[C']at this;rw[ak]at this;cases this;exact .inl ⟨rfl,rfl⟩
  have:=hb';simp only[C']at this;rw[am _ _ e]at this;exact .inr ⟨e,this⟩
 have ha:∀{i},C'.live i->C.live i:=by
  rintro i ⟨b',hb',hb⟩;rcases hl hb' with⟨_,rfl⟩|⟨_,hb'⟩;exact absurd rfl hb;exact⟨b',hb',hb⟩
 have hc:∀{k},C'.mine k->C.mine k:=fun⟨i,h1,h2⟩=>⟨i,ha h1,h2⟩
 have he:Ev C C':=by
  refine⟨⟨rfl,rfl,rfl,ag7 _,fun _ _ _=>rfl,fun k hk=>.inl (hc hk),fun _ h=>h,fun _ h=>.inl h⟩,fun _ h=>.inl h,fun i b' hd hb'=>?_⟩;rcases hl hb' with⟨rfl,_⟩|⟨_,hb'⟩;exact absurd hd hg;exact⟨b',hb',ag7 _,fun _=>⟨rfl,rfl,rfl,rfl⟩⟩
 have hf:∀{v x},VR C v x->VR C' v x:=fun hv=>hv.mono h.good he
 have hh:Good C':=by
  refine⟨?_,?_,?_,fun h1 h2 h3=>h.good.inj (ha h1) (ha h2) h3,h.good.tok,fun hk=>h.good.apart (hc hk),fun hb' hi hb=>?_⟩;intro i b' hb';rcases hl hb' with⟨rfl,_⟩|⟨_,hb'⟩;exact .inr rfl;exact .inl (h.good.used hb');intro i b' hb' hb;rcases hl hb' with⟨_,rfl⟩|⟨_,hb'⟩;cases hb;obtain⟨ob,h1,h2⟩:=h.good.obj hb' hb;exact⟨ob,h1,h2.mono h.good he⟩;intro i b' hb' hb;rcases hl hb' with⟨_,rfl⟩|⟨_,hb'⟩;cases hb;obtain⟨c,t',g1,g2,g3,g4⟩:=h.good.blk hb' hb;exact⟨c,t',g1,g2,g3,fun j hj hm=>hf (g4 j hj hm)⟩;rcases hl hb' with⟨_,rfl⟩|⟨_,hb'⟩;cases hb;exact h.good.tight hb' hi hb
 refine⟨C',rfl,he.toFr,hh,hf,.slnil (b:=⟨0,[],z,true⟩) (ak _ _ _) rfl rfl,by simp only[C',h.η],fun id hd=>?_,rfl,rfl,rfl⟩;rcases hd with h1|h1;have:=h.u id h1
 omega;omega
section
variable{P:Program}{N:Nat}{Q:Exit->St->Prop}{τ:Nat->AV}{η:bi}{u:Nat}
theorem ry{c:Code}(t z:Nat)(h:τ t=.v (.slice none 0 0))(u':Nat)(hu:(Nat.beq u' (u+1)&&Nat.ble u' TOP)=true)(hc:AWP P N c Q ⟨upd τ t (.sl u 0 0 0),η.set u (some ⟨0,[],z,true⟩),u'⟩):AWP P N c Q ⟨τ,η,u⟩:=by
 obtain⟨rfl,ht⟩:=Kn hu
 intro C a hr
 obtain⟨C',hw,hf,hg,hv,ha,hη,hU,_⟩:=hr.lazy z ht
 have hd:SRel N C' ⟨upd τ t (.sl u 0 0 0),η.set u (some ⟨0,[],z,true⟩),u+1⟩ a:=by
  refine⟨hg,hη,hU,hr.defers,hr.size,fun q=>?_⟩
  by_cases e:q=t
  ·subst e
   have e1:upd τ q (.sl u 0 0 0) q=.sl u 0 0 0:=by simp[upd]
   have e2:=hr.τ q
   simp only at e2
   rw[h]at e2
   show VR C' (upd τ q (.sl u 0 0 0) q) _
   rw[e1,e2.v_inv];exact ha
  ·have e1:upd τ t (.sl u 0 0 0) q=τ q:=by
    have:Nat.beq q t=false:=by
     cases hb:Nat.beq q t with
     |false=>rfl
     |true=>exact absurd (agu hb) e
    simp[upd,this]
   show VR C' (upd τ t (.sl u 0 0 0) q) _
   rw[e1];exact hv (hr.τ q)
 have:=hc C' a hd
 rw[hw]at this
 exact Code.wp_mono (fun e a' w' ⟨s',C'',h1,h2,h3,h4⟩=>⟨s',C'',h1,h2,h3,hf.trans h4⟩) this
theorem kf{c:Code}(id j z:Nat){w:Nat}{cs ds:List AV}{ez:Nat}{np:Bool}(h:η id=some ⟨w,cs,ez,np⟩)(hn:np=false)(hj:cs[j]? =some (.v (.slice none 0 0)))(hd:ue j cs [.sl u 0 0 0]=some ds)(hy:sp u id=true)(u':Nat)(hu:(Nat.beq u' (u+1)&&Nat.ble u' TOP)=true)
 (hc:AWP P N c Q ⟨τ,(η.set u (some ⟨0,[],z,true⟩)).set id (some ⟨w,ds,ez,np⟩),u'⟩):AWP P N c Q ⟨τ,η,u⟩:=by
 obtain⟨rfl,ht⟩:=Kn hu
 subst hn
 intro C a hr
 obtain⟨C',hw,hf,hg,hv,hq,hη,hU,hρ,hsz,hT⟩:=hr.lazy z ht
 have hs:id≠u:=by have:=Zn.1 hy;have:=ag9 ht;omega
 have hb:C.η id=some ⟨w,cs,ez,false⟩:=by rw[hr.η];exact h
 have hb':C'.η id=some ⟨w,cs,ez,false⟩:=by rw[hη,am _ _ hs];exact h
 obtain⟨p1,p2⟩:=q7 _ _ _ _ hd
 have hjl:j<cs.length:=by simp only[ahe,ahf]at p1;omega
 have g0:ds.length=cs.length:=by rw[p2];exact d8 p1
 have g5:∀i (hi:i<ds.length) (hp:i<cs.length),ds[i]=if i=j then .sl u 0 0 0 else cs[i]:=by
  intro i hi hp
  have:ds[i]? =if i=j then some (.sl u 0 0 0)else cs[i]?:=by
   rw[p2];simp only[bg,ahe,ahf];by_cases e:i=j;subst e;rw[ag1 rfl,List.getElem?_append_left (by simp;omega),List.getElem?_append_right (by simp;omega)];have:i-(cs.take i).length=0:=by simp;omega
   rw[this];rfl;rw[ag0 e];by_cases g6:i<j;rw[List.getElem?_append_left (by simp;omega),List.getElem?_append_left (by simp;omega),List.getElem?_take_of_lt g6];rw[List.getElem?_append_right (by simp;omega),List.getElem?_drop];congr 1;simp;omega
  rw[agt hi]at this;by_cases e:i=j;rw[ag1 e]at this ⊢;exact Option.some.inj this;rw[ag0 e,agt hp]at this;rw[ag0 e];exact Option.some.inj this
 let C2:Ctx:={C' with η:=C'.η.set id (some ⟨w,ds,ez,false⟩)}
 have hl:∀{i b'},C2.η i=some b'->(i=id/\b'=⟨w,ds,ez,false⟩)\/(i≠id/\C'.η i=some b'):=by
  intro i b' hb';by_cases e:i=id;subst e;have:=hb';simp only[C2]at this;rw[ak]at this;cases this;exact .inl ⟨rfl,rfl⟩
  have:=hb';simp only[C2]at this;rw[am _ _ e]at this;exact .inr ⟨e,this⟩
 have hh:∀{i},C2.live i->C'.live i:=by rintro i ⟨b',ha,hm⟩;rcases hl ha with⟨rfl,rfl⟩|⟨_,ha⟩;exact⟨_,hb',dj rfl⟩;exact⟨b',ha,hm⟩
 have ho:∀{k},C2.mine k->C'.mine k:=fun⟨i,h1,h2⟩=>⟨i,hh h1,h2⟩
 have he:Ev C' C2:=by refine⟨⟨rfl,rfl,rfl,ag7 _,fun _ _ _=>rfl,fun k hk=>.inl (ho hk),fun _ h=>h,fun _ h=>.inl h⟩,fun _ h=>h,fun i b' hy ha=>?_⟩;rcases hl ha with⟨rfl,rfl⟩|⟨_,ha⟩;exact⟨_,hb',ag7 _,fun _=>⟨rfl,rfl,rfl,rfl⟩⟩;exact⟨b',ha,ag7 _,fun _=>⟨rfl,rfl,rfl,rfl⟩⟩
 have g7:Good C2:=by refine⟨?_,?_,?_,fun h1 h2 h3=>hg.inj (hh h1) (hh h2) h3,hg.tok,fun hk=>hg.apart (ho hk),fun ha hz hm=>?_⟩;intro i b' ha;rcases hl ha with⟨rfl,_⟩|⟨_,ha⟩;exact hg.used hb';exact hg.used ha;intro i b' ha hm;rcases hl ha with⟨_,rfl⟩|⟨_,ha⟩;cases hm;obtain⟨ob,h1,h2⟩:=hg.obj ha hm;exact⟨ob,h1,h2.mono hg he⟩;intro i b' ha hm;rcases hl ha with⟨rfl,rfl⟩|⟨_,ha⟩;obtain⟨c,t',g1,g2,g3,g4⟩:=hg.blk hb' rfl;refine⟨c,t',g1,g2,by show(C'.ρ i).2+ds.length<=c.size;simp only at g3;omega,fun i' hi hp=>?_⟩;have hx:i'<cs.length:=(by simp only at hi;omega);have:=g4 i' hx hp;simp only at this ⊢;rw[g5 i' hi hx];split;rename_i e;subst e;have e2:cs[i']=.v (.slice none 0 0):=(by rw[agt hx]at hj;exact Option.some.inj hj);rw[e2]at this;have e3:=this.v_inv;have e4:c[(C2.ρ i).2+i']'hp=.slice none 0 0:=e3;rw[e4];exact hq.mono hg he;exact this.mono hg he;obtain⟨c,t',g1,g2,g3,g4⟩:=hg.blk ha hm;exact⟨c,t',g1,g2,g3,fun j hj g8=>(g4 j hj g8).mono hg he⟩;rcases hl ha with⟨rfl,rfl⟩|⟨_,ha⟩;have:=hg.tight hb' hz rfl;simp only at this ⊢;show C'.sz _=(C'.ρ _).2+ds.length;rw[g0];exact this;exact hg.tight ha hz hm
 have g9:SRel N C2 ⟨τ,(η.set u (some ⟨0,[],z,true⟩)).set id (some ⟨w,ds,ez,false⟩),u+1⟩ a:=
  ⟨g7,by simp only[C2,hη],hU,hr.defers,hr.size,fun q=>(hv (hr.τ q)).mono hg he⟩
 have:=hc C2 a g9
 rw[show C2.w=C.w from hw]at this
 exact Code.wp_mono (fun e a' w' ⟨s',C'',h1,h2,h3,h4⟩=>⟨s',C'',h1,h2,h3,(hf.trans he.toFr).trans h4⟩) this
end
section
variable{P:Program}{τ:Nat->AV}{η:bi}{d:Option Tmp}{ty:TypeId}{pos:String}{af:Array Edge}{g:Option (Nat×Bool)}
def Ctx.given(C:Ctx)(fp:List Nat)(T':Nat->Prop)(w':World):Ctx:={C with η:=C.η.put (fp.map fun id=>(id,none)),T:=T',w:=w'}
theorem zi(η:bi):∀(fp:List Nat) (id:Nat),(η.put (fp.map fun id=>(id,none))) id=if id∈fp then none else η id:=by
 intro fp id
 rw[F8]
 have:∀fp:List Nat,jg (fp.map fun id=>((id,none):Nat×Option Blk)) id=if id∈fp then some none else none:=by
  intro fp
  induction fp with
  |nil=>rfl
  |cons a r ih=>
   simp only[ahg,jg,ih,ahi]
   by_cases h:id∈r
   ·simp[h]
   ·by_cases e:a=id
    ·subst e;simp[h]
    ·have e':¬id=a:=fun h=>e h.symm
     simp[h,e,e']
 rw[this fp]
 by_cases h:id∈fp<;>simp[h]
theorem Nq{f:FuncId}{xs:Array Operand}{ats:Array TypeId}{ret:AV}{args:List AV}(fp:List Nat)(hb:bw P f=true)(hl:xs.size=args.length)(hf:∀i (h:i<xs.size) (h':i<args.length),FzP fp η (aev τ xs[i]) args[i])(he:∀id∈fp,(η id).isSome=true)(hc:b8 P f args ret):
 LOp P ⟨d,.call {callee:=.value (.func f),args:=xs,argTypes:=ats},ty,pos,af,g⟩ τ η fp (fp.map fun id=>(id,none)) ret:=by
 intro C a hg ht hs _ K Q hK
 have hh:TRs (fun b=>C.T b\/C.mineOf fp b) C.w args (xs.map a.eval):=⟨by simp;omega,fun i h h'=>by simp only[Array.getElem_map];have h'':i<xs.size:=(by simpa using h');exact hf i h'' h C hg hs _ (ht _ (by simp[Op.operands,Call.operands]))⟩
 have hq:(execOp a.eval ⟨d,.call {callee:=.value (.func f),args:=xs,argTypes:=ats},ty,pos,af,g⟩).run P C.w=.ok (.enter f (xs.map a.eval)) C.w:=by have:execOp a.eval ⟨d,.call {callee:=.value (.func f),args:=xs,argTypes:=ats},ty,pos,af,g⟩=callFunc f (#[]++xs.map a.eval++#[]):=rfl;rw[this,eh hb];simp
 unfold Oper.wp
 rw[hq]
 refine Calls.mono (hc (fun b=>C.T b\/C.mineOf fp b) C.w _ hh (hg.tokT (fun _ h=>.inl h) (fun b hb=>hb.elim (fun h=>hg.tlt h) (fun h=>cw hg (bh h))))) ?_
 rintro e w' ⟨x,T',rfl,hx,t1,t2,t3,ha⟩
 have hl:∀{i b'},(C.given fp T' w').η i=some b'->i∉fp/\C.η i=some b':=by intro i b' hb';have:=hb';simp only[Ctx.given]at this;rw[zi]at this;by_cases e:i∈fp;rw[ag1 e]at this;cases this;rw[ag0 e]at this;exact⟨e,this⟩
 have hd:∀{i},(C.given fp T' w').live i->i∉fp/\C.live i:=fun⟨b',h1,h2⟩=>⟨(hl h1).1,b',(hl h1).2,h2⟩
 have hm:∀{k},(C.given fp T' w').mine k->C.mine k:=fun⟨i,h1,h2⟩=>⟨i,(hd h1).2,h2⟩
 have hp:Ev C (C.given fp T' w'):=by refine⟨⟨ha.os,ha.tape,ha.output,ha.size,fun k hk _=>ha.block k hk,fun k hk=>.inl (hm hk),fun k hk=>t1 k (.inl hk),fun k hk=>?_⟩,fun _ h=>h,fun i b' _ hb'=>⟨b',(hl hb').2,ag7 _,fun _=>⟨rfl,rfl,rfl,rfl⟩⟩⟩;rcases t2 k hk with(h|h)|h;exact .inl h;exact .inr (.inl (bh h));exact .inr (.inr h)
 have ho:Good (C.given fp T' w'):=by refine⟨fun hb'=>hg.used (hl hb').2,fun{i b'} hb' hn=>by obtain⟨ob,g1,g2⟩:=hg.obj (hl hb').2 hn;exact⟨ob,(ha.block _ (Array.getElem?_eq_some_iff.1 g1).1).trans g1,g2.mono hg hp⟩,by intro i b' hb' hn;obtain⟨c,t',g1,g2,g3,g4⟩:=hg.blk (hl hb').2 hn;exact⟨c,t',(ha.block _ (Array.getElem?_eq_some_iff.1 g1).1).trans g1,g2,g3,fun j hj hu=>(g4 j hj hu).mono hg hp⟩,fun h1 h2 h3=>hg.inj (hd h1).2 (hd h2).2 h3,hg.tokE hp.toFr0 t3,?_,fun hb' hv hn=>hg.tight (hl hb').2 hv hn⟩;rintro k ⟨i,h1,rfl⟩ hT;obtain⟨hw,hr⟩:=hd h1;rcases t2 _ hT with(h|⟨i',hy,hz,e⟩)|h;exact hg.apart ⟨i,hr,rfl⟩ h;have:=hg.inj hz hr e;subst this;exact hw hy;have:=cw hg ⟨i,hr,rfl⟩;have h':C.w.heap.size<=(C.ρ i).1:=h;omega
 refine hK x (C.given fp T' w') rfl (fun id=>?_) ho hp (.imm hx)
 simp only[Ctx.given,List.map_map,ahh,Function.comp]
 constructor
 ·exact fun h=>.inl h
 ·rintro(h|⟨i,hi,rfl⟩)
  ·exact h
  ·have h1:=he i hi
   rw[<-hs i hi]at h1
   obtain⟨b,hb⟩:=Option.isSome_iff_exists.1 h1
   exact hg.used hb
theorem LOp.extract{x:Operand}{i:Nat}{cs:List AV}{v:AV}(hx:aev τ x=.tup cs)(hv:cs[i]? =some v):LOp P ⟨d,.extract x i,ty,pos,af,g⟩ τ η [] [] v:=
 .look [] fun C a _ hb _=>by have h1:=hb x (by simp[Op.operands]);rw[hx]at h1;obtain⟨vs,e,h2,h3⟩:=h1.tup_inv;obtain⟨hc,he⟩:=ahl.1 hv;have ha:i<vs.size:=(by omega);refine⟨vs[i],?_,by rw[<-he];exact h3 i hc ha⟩;simp[execOp,e,Instr.extract,ha]
end
section
variable{P:Program}{N:Nat}{ops:Array Oper}{l:List Oper}{K:St->Prop}{KD:List Rec->St->Prop}{τ:Nat->AV}{η:bi}{u:Nat}{op:Op}{ty:TypeId}{pos:String}{af:Array Edge}{g:Option (Nat×Bool)}
theorem Ay{d:Nat}{fp:List Nat}{δ:List (Nat×Option Blk)}{v:AV}(hL:LOp P ⟨some d,op,ty,pos,af,g⟩ τ η fp δ v)(hw:m8 ops τ ⟨some d,op,ty,pos,af,g⟩=some true)(hd:jh N ops ⟨some d,op,ty,pos,af,g⟩=true)(u':Nat)(hu:Nat.ble u u'=true)(hn:zn fp δ u u'=true)
 (h:A3 P N ops l K ⟨upd τ d v,η.put δ,u'⟩):A3 P N ops (⟨some d,op,ty,pos,af,g⟩::l) K ⟨τ,η,u⟩:=
 A3.op (s:=⟨τ,η,u⟩) u' hL hw hd hu hn h
end
section
variable{P:Program}{τ:Nat->AV}{η:bi}{d:Option Tmp}{ty:TypeId}{pos:String}{af:Array Edge}{g:Option (Nat×Bool)}
theorem Fc{t e sz:Nat}{s x:Operand}{fp:List Nat}{news:List AV}(ht:P.underlying t=some (.slice e))(hs:ao P e=some sz)(hx:aev τ s=.v (.slice none 0 0))(ha:Src η fp (aev τ x) 0 news)(hn:news=[]):
 LOp P ⟨d,.call {callee:=.builtin .append,args:=#[s,x],argTypes:=#[t,t]},ty,pos,af,g⟩ τ η fp [] (.v (.slice none 0 0)):=
 .look fp fun C a hg hc hd=>by
  unfold ao at hs
  cases hi:P.info? e with
  |none=>rw[hi]at hs;cases hs
  |some inf=>
   have e1:=hc s (by simp[Op.operands,Call.operands])
   rw[hx]at e1
   have e0:=e1.v_inv
   rcases ha C hg hd _ (hc x (by simp[Op.operands,Call.operands]))with⟨_,_,ad,c,hb⟩|⟨ad,c,vals,hb,_⟩
   ·refine⟨.slice none 0 0,d4 C.w ?_,VR.v C _⟩
    rw[e0,hb]
    exact c9 (P:=P) (ty:=ty) ht hi C.w none ad 0 0 c (ag7 _)
   ·refine⟨.slice none 0 0,d4 C.w ?_,VR.v C _⟩
    rw[e0,hb]
    exact c9 (P:=P) (ty:=ty) ht hi C.w none (some ad) 0 0 c (ag7 _)
theorem iy{η:bi}{α:Type}{n m:Nat}{f:α->List AV}{l:List α}(hm:l.length=m):Src η [] (.tree n (l.map f)) m (l.map f).flatten:=by grind[Src.tree,agz]
theorem H3{P:Program}{t:TypeId}(hu:P.underlying t=some .bool)(p q:Bool)(n:Nat)(w:World):(Op.equalIn (n+1) t (.bool p) (.bool q)).run P w=.ok (p==q) w:=by simp only[Op.equalIn,Sem.run_bind,run_underlying hu,ahb,ahc]
theorem vo{P:Program}{t:TypeId}(hu:P.underlying t=some .bool)(p q:Bool)(w:World):(Op.equal t (.bool p) (.bool q)).run P w=.ok (p==q) w:=H3 hu p q 9999 w
theorem Xr{t t':Nat}{x y:Operand}{p q:Bool}(hx:aev τ x=.v (.bool p))(hy:aev τ y=.v (.bool q))(hu:P.underlying t=some .bool):
 LOp P ⟨d,.binOp .eql t x y t',ty,pos,af,g⟩ τ η [] [] (.v (.bool (p==q))):=
 .look [] fun C a _ ha _=>by have e1:=ha x (by simp[Op.operands]);have e2:=ha y (by simp[Op.operands]);rw[hx]at e1;rw[hy]at e2;refine⟨.bool (p==q),?_,VR.v C _⟩;have h:(binOp .eql t (.bool p) (.bool q)).run P C.w=.ok (.bool (p==q)) C.w:=(by show((do pure (.bool (<-Op.equal t (.bool p) (.bool q))):Sem Value)).run P C.w=_;simp only[Sem.run_bind,vo hu,ahb,ahc]);have h2:(eqGuard .eql t x y (.bool p) (.bool q))=pure ():=rfl;simp only[execOp,e1.v_inv,e2.v_inv,h2,Sem.run_bind,ahc,ahb,h]
theorem Xp{t t':Nat}{x y:Operand}{p q:Bool}(hx:aev τ x=.v (.bool p))(hy:aev τ y=.v (.bool q))(hu:P.underlying t=some .bool):
 LOp P ⟨d,.binOp .neq t x y t',ty,pos,af,g⟩ τ η [] [] (.v (.bool (!(p==q)))):=
 .look [] fun C a _ ha _=>by have e1:=ha x (by simp[Op.operands]);have e2:=ha y (by simp[Op.operands]);rw[hx]at e1;rw[hy]at e2;refine⟨.bool (!(p==q)),?_,VR.v C _⟩;have h:(binOp .neq t (.bool p) (.bool q)).run P C.w=.ok (.bool (!(p==q))) C.w:=(by show((do pure (.bool (!(<-Op.equal t (.bool p) (.bool q)))):Sem Value)).run P C.w=_;simp only[Sem.run_bind,vo hu,ahb,ahc]);have h2:(eqGuard .neq t x y (.bool p) (.bool q))=pure ():=rfl;simp only[execOp,e1.v_inv,e2.v_inv,h2,Sem.run_bind,ahc,ahb,h]
theorem bc{α:Type}{fp:List Nat}{η:bi}{id ver w n len:Nat}{cs:List AV}{ez:Nat}{np:Bool}{f:α->List AV}{l:List α}(hc:id∈fp)(hb:η id=some ⟨w,cs,ez,np⟩)(hv:w=ver)(hn:np=false)(hz:ez=n)(hd:cs=(l.map f).flatten)(hl:l.length=len)(hf:∀a∈l,(f a).length=n/\k8 (f a)=true):
 FzP fp η (.sl id ver 0 len) (.tree n (l.map f)):=by
 subst hz;subst hn;subst hv;subst hd
 have ha:∀k (h:k<(l.map f).length),(l.map f)[k].length=ez:=fun k h=>by simp;exact(hf _ (ags _)).1
 refine FzP.sl (b:=⟨w,(l.map f).flatten,ez,false⟩) hc hb rfl rfl (by simpa using hl) ha (fun k h j h'=>?_)
 have hj:j<ez:=by rw[ha k h]at h';exact h'
 have he:k*ez+j<(l.map f).length*ez:=by have:(k+1)*ez<=(l.map f).length*ez:=Nat.mul_le_mul_right _ h;rw[Nat.add_mul]at this;omega
 obtain⟨g1,g2,g3,g4⟩:=iv (l.map f) ha (k*ez+j) he
 have hg:0<ez:=by omega
 have e1:(k*ez+j)/ez=k:=by rw[Nat.mul_comm,Nat.mul_add_div hg,Nat.div_eq_of_lt hj,Nat.add_zero]
 have e2:(k*ez+j)%ez=j:=by rw[Nat.mul_comm,Nat.mul_add_mod,Nat.mod_eq_of_lt hj]
 refine⟨(l.map f)[k][j],?_,FzP.pure ?_⟩
 ·rw[Nat.zero_add,agt g3,g4]
  simp only[e1,e2]
 ·have:=(hf (l[k]'(by simpa using h)) (ags _)).2
  exact oz (by simpa using this) j h'
end
end Go.Proofs.YtbhhmbchdponjaaGreatDoor
namespace Go.Proofs.YtbhhmbchdponjaaGreatDoor
set_option linter.unusedVariables false
set_option linter.unusedSimpArgs false
open Go.RowKit
inductive Tri(α:Type) where
 |nil:Tri α
 |node:Option α->Tri α->Tri α->Tri α
def xm:Nat->Nat->List Bool
 |0,_=>[]
 |d+1,k=>bif Nat.beq k 0 then[]else bif Nat.beq (k%2) 1 then true::xm d (k/2)else false::xm d (k/2-1)
def dt{α:Type}:List Bool->Tri α->Option α
 |[],t=>match t with
  |.nil=>none
  |.node v _ _=>v
 |b::p,t=>match t with
  |.nil=>none
  |.node _ l r=>match b with
   |true=>dt p l
   |false=>dt p r
def cg{α:Type}:List Bool->Tri α->α->Option (Tri α)
 |[],t,a=>match t with
  |.nil=>some (.node (some a) .nil .nil)
  |.node _ l r=>some (.node (some a) l r)
 |b::p,t,a=>match t with
  |.nil=>match b with
   |true=>(match cg p .nil a with|some l=>some (.node none l .nil)|none=>none)
   |false=>(match cg p .nil a with|some r=>some (.node none .nil r)|none=>none)
  |.node v l r=>match b with
   |true=>(match cg p l a with|some l=>some (.node v l r)|none=>none)
   |false=>(match cg p r a with|some r=>some (.node v l r)|none=>none)
def Tri.get{α:Type}(t:Tri α)(k:Nat):Option α:=bif Nat.ble k 16777214 then dt (xm 24 k) t else none
def Tri.set{α:Type}(d:Nat)(t:Tri α)(k:Nat)(a:α):Option (Tri α):=bif Nat.ble k 16777214 then cg (xm 24 k) t a else none
theorem wv(a b:Nat):Nat.beq a b=decide (a=b):=by grind[Nat.beq,agu,Nat.ne_of_beq_eq_false]
theorem vz:∀(d i k:Nat),i+1<2^d->k+1<2^d->xm d i=xm d k->i=k
 |0,i,k,hi,_,_=>by simp at hi
 |d+1,i,k,hi,hk,h=>by have hp:2^(d+1)=2*2^d:=(by rw[Nat.pow_succ];omega);simp only[xm,wv]at h;by_cases i0:i=0;by_cases k0:k=0;omega;by_cases k1:k%2=1<;>simp[i0,k0,k1]at h;by_cases k0:k=0;by_cases i1:i%2=1<;>simp[i0,k0,i1]at h;by_cases i1:i%2=1;by_cases k1:k%2=1;simp only[i0,k0,i1,k1,decide_false,decide_true,cond_false,cond_true,List.cons.injEq,true_and]at h;have:=vz d (i/2) (k/2) (by omega) (by omega) h;omega;simp[i0,k0,i1,k1]at h;by_cases k1:k%2=1;simp[i0,k0,i1,k1]at h;simp only[i0,k0,i1,k1,decide_false,cond_false,List.cons.injEq,true_and]at h;have:=vz d (i/2-1) (k/2-1) (by omega) (by omega) h;omega
theorem ld{α:Type}(p:List Bool):dt (α:=α) p .nil=none:=by cases p<;>rfl
theorem jk{α:Type}:∀(p:List Bool) (t t':Tri α) (a:α),cg p t a=some t'->∀q,dt q t'=if q=p then some a else dt q t
 |[],t,t',a,h,q=>by
  cases t with
  |nil=>
   simp only[cg,agv]at h
   subst h
   cases q with
   |nil=>simp[dt]
   |cons b q=>cases b<;>simp[dt,ld]
  |node v l r=>
   simp only[cg,agv]at h
   subst h
   cases q with
   |nil=>simp[dt]
   |cons b q=>cases b<;>simp[dt]
 |b::p,t,t',a,h,q=>by
  cases t with
  |nil=>
   cases b with
   |true=>
    simp only[cg]at h
    cases hs:cg p .nil a with
    |none=>rw[hs]at h;cases h
    |some l=>
     rw[hs]at h
     simp only[agv]at h
     subst h
     cases q with
     |nil=>simp[dt]
     |cons c q=>
      have:=jk p _ _ _ hs q
      cases c<;>simp[dt,ld]at this ⊢<;>exact this
   |false=>
    simp only[cg]at h
    cases hs:cg p .nil a with
    |none=>rw[hs]at h;cases h
    |some r=>
     rw[hs]at h
     simp only[agv]at h
     subst h
     cases q with
     |nil=>simp[dt]
     |cons c q=>
      have:=jk p _ _ _ hs q
      cases c<;>simp[dt,ld]at this ⊢<;>exact this
  |node v l r=>
   cases b with
   |true=>
    simp only[cg]at h
    cases hs:cg p l a with
    |none=>rw[hs]at h;cases h
    |some l'=>
     rw[hs]at h
     simp only[agv]at h
     subst h
     cases q with
     |nil=>simp[dt]
     |cons c q=>
      have:=jk p _ _ _ hs q
      cases c<;>simp[dt]at this ⊢<;>exact this
   |false=>
    simp only[cg]at h
    cases hs:cg p r a with
    |none=>rw[hs]at h;cases h
    |some r'=>
     rw[hs]at h
     simp only[agv]at h
     subst h
     cases q with
     |nil=>simp[dt]
     |cons c q=>
      have:=jk p _ _ _ hs q
      cases c<;>simp[dt]at this ⊢<;>exact this
theorem w6{α:Type}(d:Nat)(t t':Tri α)(k:Nat)(a:α)(h:Tri.set d t k a=some t')(i:Nat):t'.get i=bif Nat.beq i k then some a else t.get i:=by
 unfold Tri.set at h
 cases hk:Nat.ble k 16777214 with
 |false=>rw[hk]at h;simp at h
 |true=>
  rw[hk]at h
  simp only[cond_true]at h
  have hk':=ag9 hk
  unfold Tri.get
  cases hi:Nat.ble i 16777214 with
  |false=>
   have:¬i=k:=fun e=>by rw[e,hk]at hi;cases hi
   simp[wv,this]
  |true=>
   have hi':=ag9 hi
   simp only[cond_true]
   rw[jk _ _ _ _ h]
   by_cases e:i=k
   ·subst e;simp[wv]
   ·have:¬xm 24 i=xm 24 k:=fun hp=>e (vz 24 i k (by omega) (by omega) hp)
    simp[wv,this,e]
structure ES where
 t:Tri AV
 h:Tri (Option Blk)
 u:Nat
def bf(t:Tri AV):Nat->AV:=fun i=>match t.get i with|some a=>a|none=>.v undef
def be(h:Tri (Option Blk)):bi:=fun i=>match h.get i with|some b=>b|none=>none
theorem w7{α:Type}(i:Nat):Tri.get (.nil:Tri α) i=none:=by unfold Tri.get;rw[ld];cases Nat.ble i 16777214<;>rfl
theorem Jk(i:Nat):bf .nil i=.v undef:=by unfold bf;rw[w7]
theorem Bd:be .nil=fun _=>none:=by funext i;unfold be;rw[w7]
def ES.st(E:ES):St:=⟨bf E.t,be E.h,E.u⟩
theorem lx{h h':Tri (Option Blk)}{k:Nat}{b:Option Blk}(e:Tri.set 24 h k b=some h'):be h'=(be h).set k b:=by funext i;simp only[be,bi.set,w6 _ _ _ _ _ e i];cases Nat.beq i k<;>rfl
theorem vd{t t':Tri AV}{k:Nat}{v:AV}(e:Tri.set 24 t k v=some t'):bf t'=upd (bf t) k v:=by funext i;simp only[bf,upd,w6 _ _ _ _ _ e i];cases Nat.beq i k<;>rfl
def abo:=Oper->ES->Option Rec
def abo.Ok(P:Program)(f:abo):Prop:=∀o E r,f o E=some r->LOp P o E.st.τ E.st.η r.fp r.δ r.v
theorem A3.up{P:Program}{N:Nat}{ops:Array Oper}{l:List Oper}{K:St->Prop}{τ:Nat->AV}{η:bi}{u u':Nat}(hu:u<=u')(h:A3 P N ops l K ⟨τ,η,u'⟩):A3 P N ops l K ⟨τ,η,u⟩:=
 fun C a Q hr hK=>h C a Q ⟨hr.good,hr.η,fun id ha=>(hr.u id ha).imp (fun h=>Nat.lt_of_lt_of_le h hu) (fun h=>h),hr.defers,hr.size,hr.τ⟩ hK
theorem Ff{P:Program}{N:Nat}{ops:Array Oper}:∀{l:List Oper} {s s':St} {rs:List Rec} {K:St->Prop},Seq P N ops l s rs s'->K s'->A3 P N ops l K s:=by
 intro l s s' rs K h hk
 induction h with
 |nil=>exact oN hk
 |cons hf _ ih=>
  rename_i o l s s' r rs _
  obtain⟨hd,hu,h|h⟩:=hf
  ·exact A3.op r.u h.2.1 h.1 hd (by rw[Nat.ble_eq];exact hu) h.2.2 (ih hk)
  ·obtain⟨hw,h1,h2,h3⟩:=h
   refine A3.skip hw hd ?_
   have:=ih hk
   unfold Bf at this
   rw[h1,h2]at this
   exact A3.up hu this
def du{α:Type}(p:Program):Sem α->Option α
 |.pure a=>some a
 |.program k=>du p (k p)
 |.mark _ k=>du p k
 |.choose q k=>bif q.forced then du p (k 0)else none
 |_=>none
theorem je{α:Type}{p:Program}:∀(s:Sem α) (a:α),du p s=some a->∀w,s.run p w=.ok a w:=by
 intro s
 induction s with
 |pure b=>intro a h w;simp only[du,agv]at h;subst h;rfl
 |program k ih=>intro a h w;exact ih p a h w
 |mark m k ih=>intro a h w;exact ih a h w
 |choose q k ih=>
  intro a h w
  simp only[du]at h
  cases hq:q.forced with
  |false=>rw[hq]at h;simp only[cond_false]at h;cases h
  |true=>
   rw[hq]at h
   simp only[cond_true]at h
   simp only[Sem.run,hq,if_true]
   exact ih 0 a h w
 |_=>intro a h w;simp[du]at h
def re:Op->Bool
 |.select _ _=>true
 |_=>false
def Kf(P:Program)(τ:Nat->AV)(o:Oper):Option Value:=
 bif re o.op then none else
 bif o.op.operands.toList.all (fun x=>(aev τ x).isV)then
  match du P (execOp (fun x=>(aev τ x).val) o)with
  |some (.value y)=>some y
  |_=>none
 else none
theorem Ke{P:Program}{τ:Nat->AV}{η:bi}{o:Oper}{y:Value}(h:Kf P τ o=some y):LOp P o τ η [] [] (.v y):=by grind[Kf,re,aev,agv,lP,je]
def C8(f:AV->Option (List Nat×AV)):List AV->Option (List Nat×List AV)
 |[]=>some ([],[])
 |a::l=>match f a with
  |none=>none
  |some (fp,b)=>match C8 f l with
   |none=>none
   |some (fp',m)=>some (fp++fp',b::m)
theorem sn{η:bi}{f:AV->Option (List Nat×AV)}(hf:∀a fp b,f a=some (fp,b)->FzP fp η a b):∀(l:List AV) (fp:List Nat) (m:List AV),C8 f l=some (fp,m)->m.length=l.length/\∀i (h:i<l.length) (h':i<m.length),FzP fp η l[i] m[i]:=by
 intro l;induction l with
 |nil=>
  intro fp m h
  simp only[C8,agv,Prod.mk.injEq]at h
  obtain⟨rfl,rfl⟩:=h
  exact⟨rfl,fun i h=>absurd h (by simp)⟩
 |cons a l ih=>
  intro fp m h
  simp only[C8]at h
  cases h1:f a with
  |none=>rw[h1]at h;cases h
  |some q=>
   obtain⟨fp1,b⟩:=q
   rw[h1]at h
   simp only at h
   cases h2:C8 f l with
   |none=>rw[h2]at h;cases h
   |some q2=>
    obtain⟨fp2,m2⟩:=q2
    rw[h2]at h
    simp only[agv,Prod.mk.injEq]at h
    obtain⟨rfl,rfl⟩:=h
    obtain⟨hl,hi⟩:=ih _ _ h2
    refine⟨by simp[hl],fun i h h'=>?_⟩
    cases i with
    |zero=>exact(hf _ _ _ h1).mono (fun i hi=>List.mem_append_left _ hi)
    |succ i=>
     simp only[List.getElem_cons_succ]
     exact(hi i (by simpa using h) (by simpa using h')).mono (fun i hi=>List.mem_append_right _ hi)
def mc(n:Nat):Nat->List AV->List (List AV)
 |0,_=>[]
 |k+1,l=>l.take n::mc n k (l.drop n)
theorem ko(n:Nat):∀(k:Nat) (l:List AV),(mc n k l).length=k
 |0,_=>rfl
 |k+1,l=>by simp[mc,ko n k]
theorem ta(n:Nat):∀(k:Nat) (l:List AV) (i:Nat) (h:i<(mc n k l).length),(mc n k l)[i]=(l.drop (i*n)).take n
 |0,l,i,h=>absurd h (by simp[mc])
 |k+1,l,0,h=>by simp[mc]
 |k+1,l,i+1,h=>by have:=ta n k (l.drop n) i (by simpa[mc]using h);simp only[mc,List.getElem_cons_succ,this,List.drop_drop];congr 2;rw[Nat.succ_mul];omega
theorem FzP.ptr{fp:List Nat}{η:bi}{id ver o:Nat}{b:Blk}{ds:List AV}(ha:id∈fp)(hb:η id=some b)(hv:b.ver=ver)(hn:b.nilp=false)(hl:ds.length=b.cs.length)
 (hc:∀j (h:j<b.cs.length) (h':j<ds.length),FzP fp η b.cs[j] ds[j]):FzP fp η (.ptr id ver o) (.tp ds o):=fun C hg hη x hx=>by
 have hb':C.η id=some b:=(hη id ha).trans hb
 rw[hx.ptr_inv hb' hv]
 obtain⟨f,hf⟩:=ef (n:=ds.length) (p:=fun j y=>C.w.cell? ⟨(C.ρ id).1,(C.ρ id).2+j,none⟩=some y/\∀(h:j<ds.length),TR (fun b=>C.T b\/C.mineOf fp b) C.w ds[j] y) (fun j hj=>by obtain⟨y,hy,hd⟩:=hg.cell hb' hn (j:=j) (by omega);exact⟨y,hy,fun h=>hc j (by omega) h C hg hη y hd⟩)
 exact .tp f (.inr ⟨id,ha,⟨b,hb',dj hn⟩,rfl⟩) (fun j hj=>(hf j hj).1) (fun j hj=>(hf j hj).2 hj)
def fz(η:bi):Nat->AV->Option (List Nat×AV)
 |0,_=>none
 |n+1,a=>bif a.pureB then some ([],a)else
  match a with
  |.agg cs=>match C8 (fz η n) cs with
   |some (fp,ds)=>some (fp,.agg ds)
   |none=>none
  |.sl id ver off len=>match η id with
   |none=>none
   |some b=>bif Nat.beq b.ver ver&&!b.nilp&&!Nat.beq b.esz 0 then
    match cy off (len*b.esz) b.cs with
    |none=>none
    |some flat=>match C8 (fz η n) flat with
     |none=>none
     |some (fp,ds)=>some (id::fp,.tree b.esz (mc b.esz len ds))
    else none
  |.ptr id ver o=>match η id with
   |none=>none
   |some b=>bif Nat.beq b.ver ver&&!b.nilp then
    match C8 (fz η n) b.cs with
    |none=>none
    |some (fp,ds)=>some (id::fp,.tp ds o)
    else none
  |_=>none
theorem Lk{η:bi}:∀(n:Nat) (a:AV) (fp:List Nat) (r:AV),fz η n a=some (fp,r)->FzP fp η a r:=by
 intro n
 induction n with
 |zero=>intro a fp r h;simp[fz]at h
 |succ n ih=>
  intro a fp r h
  simp only[fz]at h
  cases hp:a.pureB with
  |true=>
   rw[hp]at h
   simp only[cond_true,agv,Prod.mk.injEq]at h
   obtain⟨rfl,rfl⟩:=h
   exact FzP.pure hp
  |false=>
   rw[hp]at h
   simp only[cond_false]at h
   split at h
   ·rename_i cs
    cases h1:C8 (fz η n) cs with
    |none=>rw[h1]at h;cases h
    |some q=>
     obtain⟨fp1,ds⟩:=q
     rw[h1]at h
     simp only[agv,Prod.mk.injEq]at h
     obtain⟨rfl,rfl⟩:=h
     obtain⟨hl,hi⟩:=sn ih _ _ _ h1
     exact FzP.agg hl.symm hi
   ·rename_i id ver off len
    cases hb:η id with
    |none=>rw[hb]at h;cases h
    |some b=>
     rw[hb]at h
     simp only at h
     cases hc:(Nat.beq b.ver ver&&!b.nilp&&!Nat.beq b.esz 0)with
     |false=>rw[hc]at h;simp only[cond_false]at h;cases h
     |true=>
      rw[hc]at h
      simp only[cond_true]at h
      rw[ahq,ahq]at hc
      obtain⟨⟨hv,hn⟩,hz⟩:=hc
      have hv:=agu hv
      have hn:b.nilp=false:=by simpa using hn
      cases ht:cy off (len*b.esz) b.cs with
      |none=>rw[ht]at h;cases h
      |some flat=>
       rw[ht]at h
       simp only at h
       cases hm:C8 (fz η n) flat with
       |none=>rw[hm]at h;cases h
       |some q=>
        obtain⟨fp1,ds⟩:=q
        rw[hm]at h
        simp only[agv,Prod.mk.injEq]at h
        obtain⟨rfl,rfl⟩:=h
        obtain⟨hlen,ha⟩:=dy _ _ _ _ ht
        obtain⟨hl,hi⟩:=sn ih _ _ _ hm
        have hh:flat.length=len*b.esz:=by rw[ha];simp;omega
        refine FzP.sl (List.mem_cons_self ..) hb hv hn (ko _ _ _) (fun k hk=>?_) (fun k hk j hj=>?_)
        ·have hg:k<len:=by rw[ko]at hk;exact hk
         rw[ta]
         have:k*b.esz+b.esz<=len*b.esz:=by rw[<-Nat.succ_mul];exact Nat.mul_le_mul_right _ hg
         simp[hl,hh];omega
        ·have hg:k<len:=by rw[ko]at hk;exact hk
         have he:(mc b.esz len ds)[k]=(ds.drop (k*b.esz)).take b.esz:=ta _ _ _ _ hk
         have ho:j<b.esz:=by rw[he]at hj;simp at hj;omega
         have hm1:k*b.esz+b.esz<=len*b.esz:=by rw[<-Nat.succ_mul];exact Nat.mul_le_mul_right _ hg
         have hd:k*b.esz+j<ds.length:=by omega
         have hf:k*b.esz+j<flat.length:=by omega
         refine⟨flat[k*b.esz+j],?_,?_⟩
         ·have:flat[k*b.esz+j]? =some flat[k*b.esz+j]:=agt hf
          rw[<-this,ha,List.getElem?_take_of_lt (by omega),List.getElem?_drop]
          congr 1;omega
         ·have e:(mc b.esz len ds)[k][j]=ds[k*b.esz+j]:=by
           have:(mc b.esz len ds)[k][j]? =ds[k*b.esz+j]?:=by rw[he,List.getElem?_take_of_lt ho,List.getElem?_drop]
           rw[agt hj,agt hd]at this
           exact Option.some.inj this
          rw[e]
          exact(hi _ hf hd).mono (fun i hi=>List.mem_cons_of_mem _ hi)
   ·rename_i id ver o
    cases hb:η id with
    |none=>rw[hb]at h;cases h
    |some b=>
     rw[hb]at h
     simp only at h
     cases hc:(Nat.beq b.ver ver&&!b.nilp)with
     |false=>rw[hc]at h;simp only[cond_false]at h;cases h
     |true=>
      rw[hc]at h
      simp only[cond_true]at h
      rw[ahq]at hc
      have hv:=agu hc.1
      have hn:b.nilp=false:=by simpa using hc.2
      cases hm:C8 (fz η n) b.cs with
      |none=>rw[hm]at h;cases h
      |some q=>
       obtain⟨fp1,ds⟩:=q
       rw[hm]at h
       simp only[agv,Prod.mk.injEq]at h
       obtain⟨rfl,rfl⟩:=h
       obtain⟨hl,hi⟩:=sn ih _ _ _ hm
       exact FzP.ptr (List.mem_cons_self ..) hb hv hn hl (fun j h h'=>(hi j h h').mono (fun i hi=>List.mem_cons_of_mem _ hi))
   ·cases h
abbrev d7:=FuncId->List AV->Option AV
def ii(η:bi)(id ver:Nat):Option Blk:=match η id with
 |some b=>bif Nat.beq b.ver ver&&!b.nilp then some b else none
 |none=>none
theorem ca{η:bi}{id ver:Nat}{b:Blk}(h:ii η id ver=some b):η id=some b/\b.ver=ver/\b.nilp=false:=by grind[ii,Nat.beq,agv,agu]
def Vk(P:Program)(τ:Nat->AV)(η:bi)(u t:Nat)(x:Operand):Option Rec:=
 match ej P t with
 |none=>none
 |some none=>match aev τ x with
  |.ptr id ver o=>match ii η id ver with
   |none=>none
   |some b=>match b.cs[o]? with
    |some v=>some ⟨[id],[],v,u⟩
    |none=>none
  |.tp cs o=>match cs[o]? with
   |some v=>some ⟨[],[],v,u⟩
   |none=>none
  |_=>none
 |some (some n)=>match aev τ x with
  |.ptr id ver o=>match ii η id ver with
   |none=>none
   |some b=>match cy o n b.cs with
    |some ds=>some ⟨[id],[],.agg ds,u⟩
    |none=>none
  |.tp cs o=>match cy o n cs with
   |some ds=>some ⟨[],[],.agg ds,u⟩
   |none=>none
  |_=>none
theorem P1{P:Program}{τ:Nat->AV}{η:bi}{u t:Nat}{x:Operand}{d:Option Tmp}{ty:TypeId}{pos:String}{af:Array Edge}{g:Option (Nat×Bool)}{r:Rec}(h:Vk P τ η u t x=some r):
 LOp P ⟨d,.load t x,ty,pos,af,g⟩ τ η r.fp r.δ r.v:=by
 unfold Vk at h
 split at h
 ·cases h
 ·rename_i hr
  split at h
  ·rename_i id ver o hx
   split at h
   ·cases h
   ·rename_i b hb
    obtain⟨h1,h2,h3⟩:=ca hb
    split at h
    ·rename_i v hv
     simp only[agv]at h
     subst h
     exact lD hr hx h1 h2 h3 hv
    ·cases h
  ·rename_i cs o hx
   split at h
   ·rename_i v hv
    simp only[agv]at h
    subst h
    exact lE hr hx hv
   ·cases h
  ·cases h
 ·rename_i n hr
  split at h
  ·rename_i id ver o hx
   split at h
   ·cases h
   ·rename_i b hb
    obtain⟨h1,h2,h3⟩:=ca hb
    split at h
    ·rename_i v hv
     simp only[agv]at h
     subst h
     exact Fb hr hx h1 h2 h3 hv
    ·cases h
  ·rename_i cs o hx
   split at h
   ·rename_i v hv
    simp only[agv]at h
    subst h
    exact Av hr hx hv
   ·cases h
  ·cases h
def Js(P:Program)(τ:Nat->AV)(η:bi)(u t:Nat)(x y:Operand):Option Rec:=
 match ao P t with
 |none=>none
 |some n=>match aev τ x with
  |.ptr id ver o=>match ii η id ver with
   |none=>none
   |some b=>match ji (aev τ y)with
    |none=>none
    |some vs=>bif Nat.beq vs.length n&&vs.all AV.one then
     match ue o b.cs vs with
     |some ds=>some ⟨[id],[(id,some ⟨b.ver,ds,b.esz,b.nilp⟩)],.v undef,u⟩
     |none=>none
     else none
  |_=>none
theorem Jr{P:Program}{τ:Nat->AV}{η:bi}{u t:Nat}{x y:Operand}{d:Option Tmp}{ty:TypeId}{pos:String}{af:Array Edge}{g:Option (Nat×Bool)}{r:Rec}(h:Js P τ η u t x y=some r):
 LOp P ⟨d,.store t x y,ty,pos,af,g⟩ τ η r.fp r.δ r.v:=by
 unfold Js at h
 split at h
 ·cases h
 ·rename_i n hs
  split at h
  ·rename_i id ver o hx
   split at h
   ·cases h
   ·rename_i b hb
    obtain⟨h1,h2,h3⟩:=ca hb
    split at h
    ·cases h
    ·rename_i vs hv
     cases hc:(Nat.beq vs.length n&&vs.all AV.one)with
     |false=>rw[hc]at h;simp only[cond_false]at h;cases h
     |true=>
      rw[hc]at h
      simp only[cond_true]at h
      rw[ahq]at hc
      split at h
      ·rename_i ds hd
       simp only[agv]at h
       subst h
       exact LOp.st (w:=b.ver) (np:=b.nilp) (cs:=b.cs) (ez:=b.esz) hs hx h1 h2 h3 hv (agu hc.1) hc.2 hd
      ·cases h
  ·cases h
def s8(P:Program)(τ:Nat->AV)(η:bi)(u t:Nat)(x:Operand)(i:Nat):Option Rec:=
 match dx P t i with
 |none=>none
 |some (off,sz)=>bif Nat.beq sz 0 then none else
  match aev τ x with
  |.ptr id ver o=>match ii η id ver with
   |none=>none
   |some b=>some ⟨[id],[],.ptr id ver (o+off),u⟩
  |.tp cs o=>some ⟨[],[],.tp cs (o+off),u⟩
  |_=>none
theorem Ag{P:Program}{τ:Nat->AV}{η:bi}{u t i:Nat}{x:Operand}{d:Option Tmp}{ty:TypeId}{pos:String}{af:Array Edge}{g:Option (Nat×Bool)}{r:Rec}(h:s8 P τ η u t x i=some r):
 LOp P ⟨d,.fieldAddr t x i,ty,pos,af,g⟩ τ η r.fp r.δ r.v:=by grind[s8,Nat.beq,ca,agv,lF,lr]
def sr(P:Program)(τ:Nat->AV)(η:bi)(u t:Nat)(x i:Operand):Option Rec:=
 match P.underlying t with
 |some (.slice e)=>match ao P e with
  |none=>none
  |some n=>match aev τ i with
   |.v (.int k (Int.ofNat j))=>match aev τ x with
    |.tree m rows=>bif Nat.beq m n then(match rows[j]? with
     |some row=>some ⟨[],[],.tp row 0,u⟩
     |none=>none)else none
    |.sl id ver off len=>bif Nat.ble (j+1) len then(match ii η id ver with
     |some b=>bif Nat.beq b.esz n then some ⟨[id],[],.ptr id ver (off+j*n),u⟩else none
     |none=>none)else none
    |_=>none
   |_=>none
 |_=>none
theorem zw{P:Program}{τ:Nat->AV}{η:bi}{u t:Nat}{x i:Operand}{d:Option Tmp}{ty:TypeId}{pos:String}{af:Array Edge}{g:Option (Nat×Bool)}{r:Rec}(h:sr P τ η u t x i=some r):
 LOp P ⟨d,.indexAddr t x i,ty,pos,af,g⟩ τ η r.fp r.δ r.v:=by
 unfold sr at h
 split at h
 ·rename_i e he
  split at h
  ·cases h
  ·rename_i n hs
   split at h
   ·rename_i k j hi
    split at h
    ·rename_i m rows hx
     cases hc:Nat.beq m n with
     |false=>rw[hc]at h;simp only[cond_false]at h;cases h
     |true=>
      rw[hc]at h
      simp only[cond_true]at h
      obtain rfl:=agu hc
      split at h
      ·rename_i row ha
       simp only[agv]at h
       subst h
       obtain⟨hj,e⟩:=ahl.1 ha
       subst e
       exact lI (f:=fun a=>a) (l:=rows) he hs (by rw[hx];simp) hi hj
      ·cases h
    ·rename_i id ver off len hx
     cases hc:Nat.ble (j+1) len with
     |false=>rw[hc]at h;simp only[cond_false]at h;cases h
     |true=>
      rw[hc]at h
      simp only[cond_true]at h
      split at h
      ·rename_i b hb
       obtain⟨h1,h2,h3⟩:=ca hb
       cases hz:Nat.beq b.esz n with
       |false=>rw[hz]at h;simp only[cond_false]at h;cases h
       |true=>
        rw[hz]at h
        simp only[cond_true,agv]at h
        subst h
        exact mg he hs hx hi (ag9 hc) h1 h2 h3 (agu hz)
      ·cases h
    ·cases h
   ·cases h
 ·cases h
def abw(u:Nat)(v:Option (List AV)):Option Rec:=match v with
 |some vs=>some ⟨[],[(u,some ⟨0,vs,0,false⟩)],.ptr u 0 0,u+1⟩
 |none=>none
def T8(P:Program)(u t:Nat):Option Rec:=match bj P t with
 |some z=>abw u (ji (.v z))
 |none=>none
def Mm(P:Program)(τ:Nat->AV)(u t:Nat)(parts:Array (Nat×Operand)):Option Rec:=match bj P t with
 |none=>none
 |some z=>match mt P t with
  |none=>none
  |some pl=>match ji (.v z)with
   |none=>none
   |some cs=>match Af pl cs (l0 τ parts)with
    |none=>none
    |some out=>some ⟨[],[],.agg out,u⟩
theorem Kp{u:Nat}{v:Option (List AV)}{r:Rec}(h:abw u v=some r):∃vs,v=some vs/\r=⟨[],[(u,some ⟨0,vs,0,false⟩)],.ptr u 0 0,u+1⟩:=by unfold abw at h;split at h;rename_i vs;simp only[agv]at h;exact⟨vs,rfl,h.symm⟩;cases h
theorem Ml{P:Program}{τ:Nat->AV}{η:bi}{u t:Nat}{parts:Array (Nat×Operand)}{d:Option Tmp}{ty:TypeId}{pos:String}{af:Array Edge}{g:Option (Nat×Bool)}{r:Rec}(h:Mm P τ u t parts=some r):
 LOp P ⟨d,.build t parts,ty,pos,af,g⟩ τ η r.fp r.δ r.v:=by
 unfold Mm at h
 split at h
 ·cases h
 ·rename_i z hz
  split at h
  ·cases h
  ·rename_i pl hp
   split at h
   ·cases h
   ·rename_i cs hc
    split at h
    ·cases h
    ·rename_i out ho
     simp only[agv]at h
     subst h
     exact Nr hz hp hc ho
def qn(P:Program)(τ:Nat->AV)(u t len:Nat)(parts:Array (Nat×Operand)):Option Rec:=match P.underlying t with
 |some (.slice e)=>match ao P e with
  |none=>none
  |some s=>match bj P e with
   |none=>none
   |some z=>bif Nat.ble (len*s) 16777216&&Nat.ble len 16777216&&!Nat.beq (len*s) 0 then
    (match Af (si len s) (b5 z (len*s)) (l0 τ parts)with
    |some out=>some ⟨[],[(u,some ⟨TV,out,s,false⟩)],.sl u TV 0 len,u+1⟩
    |none=>none)
    else none
 |_=>none
theorem xq{P:Program}{τ:Nat->AV}{η:bi}{u t len:Nat}{parts:Array (Nat×Operand)}{d:Option Tmp}{ty:TypeId}{pos:String}{af:Array Edge}{g:Option (Nat×Bool)}{r:Rec}(h:qn P τ u t len parts=some r):
 LOp P ⟨d,.buildSlice t len parts,ty,pos,af,g⟩ τ η r.fp r.δ r.v:=by
 unfold qn at h
 split at h
 ·rename_i e he
  split at h
  ·cases h
  ·rename_i s hs
   split at h
   ·cases h
   ·rename_i z hz
    cases hc:(Nat.ble (len*s) 16777216&&Nat.ble len 16777216&&!Nat.beq (len*s) 0)with
    |false=>rw[hc]at h;simp only[cond_false]at h;cases h
    |true=>
     rw[hc]at h
     simp only[cond_true]at h
     rw[ahq,ahq]at hc
     split at h
     ·rename_i out ho
      simp only[agv]at h
      subst h
      exact cj he hs hz hc.1.1 hc.1.2 (by simpa using hc.2) ho
     ·cases h
 ·cases h
def ael(P:Program)(τ:Nat->AV)(η:bi)(u:Nat)(x:Operand)(ats:Array TypeId):Option Rec:=match ats[0]? with
 |none=>none
 |some t=>match P.underlying t with
  |some (.slice e)=>match aev τ x with
   |.tree n rows=>some ⟨[],[],.v (.int .i64 (rows.length:Int)),u⟩
   |.sl id ver off len=>match ii η id ver with
    |some b=>some ⟨[id],[],.v (.int .i64 (len:Int)),u⟩
    |none=>none
   |_=>none
  |_=>none
theorem Vq{P:Program}{τ:Nat->AV}{η:bi}{u:Nat}{x:Operand}{ats:Array TypeId}{d:Option Tmp}{ty:TypeId}{pos:String}{af:Array Edge}{g:Option (Nat×Bool)}{r:Rec}(h:ael P τ η u x ats=some r):
 LOp P ⟨d,.call {callee:=.builtin .len,args:=#[x],argTypes:=ats},ty,pos,af,g⟩ τ η r.fp r.δ r.v:=by
 unfold ael at h
 split at h
 ·cases h
 ·rename_i t ht
  split at h
  ·rename_i e he
   split at h
   ·rename_i n rows hx
    simp only[agv]at h
    subst h
    exact lT (n:=n) (f:=fun a=>a) (l:=rows) ht he (by rw[hx];simp)
   ·rename_i id ver off len hx
    split at h
    ·rename_i b hb
     obtain⟨h1,h2,h3⟩:=ca hb
     simp only[agv]at h
     subst h
     exact cd ht he hx h1 h2
    ·cases h
   ·cases h
  ·cases h
def Qw(P:Program)(call:d7)(τ:Nat->AV)(η:bi)(u:Nat)(f:FuncId)(xs:Array Operand):Option Rec:=
 bif bw P f then
  match C8 (fz η 64) (xs.toList.map (aev τ))with
  |none=>none
  |some (fp,ys)=>match call f ys with
   |none=>none
   |some ret=>match ret with
    |.v y=>some ⟨fp,[],.v y,u⟩
    |ret=>bif fp.all (fun id=>(η id).isSome)then some ⟨fp,fp.map fun id=>(id,none),ret,u⟩else none
 else none
theorem He{P:Program}{call:d7}(ha:∀f ys ret,call f ys=some ret->b8 P f ys ret){τ:Nat->AV}{η:bi}{u:Nat}{f:FuncId}{xs:Array Operand}{ats:Array TypeId}{d:Option Tmp}{ty:TypeId}{pos:String}{af:Array Edge}{g:Option (Nat×Bool)}{r:Rec}(h:Qw P call τ η u f xs=some r):
 LOp P ⟨d,.call {callee:=.value (.func f),args:=xs,argTypes:=ats},ty,pos,af,g⟩ τ η r.fp r.δ r.v:=by
 unfold Qw at h
 cases hb:bw P f with
 |false=>rw[hb]at h;simp only[cond_false]at h;cases h
 |true=>
  rw[hb]at h
  simp only[cond_true]at h
  split at h
  ·cases h
  ·rename_i fp ys hm
   obtain⟨hl,hi⟩:=sn (Lk 64) _ _ _ hm
   have hc:xs.size=ys.length:=by rw[hl];simp
   have hf:∀i (h:i<xs.size) (h':i<ys.length),FzP fp η (aev τ xs[i]) ys[i]:=fun i h h'=>by have:=hi i (by simpa using h) h';simpa using this
   split at h
   ·cases h
   ·rename_i ret hr
    split at h
    ·rename_i y
     simp only[agv]at h
     subst h
     exact xa fp hb hc hf (ha _ _ _ hr)
    ·cases hu:fp.all (fun id=>(η id).isSome)with
     |false=>rw[hu]at h;simp only[cond_false]at h;cases h
     |true=>
      rw[hu]at h
      simp only[cond_true,agv]at h
      subst h
      exact Nq fp hb hc hf (fun id hd=>List.all_eq_true.1 hu id hd) (ha _ _ _ hr)
section
variable{P:Program}{τ:Nat->AV}{η:bi}{d:Option Tmp}{ty:TypeId}{pos:String}{af:Array Edge}{g:Option (Nat×Bool)}
theorem LOp.makeSlice(u:Nat){t e len s bys:Nat}{z:Value}{x y:Operand}(he:P.underlying t=some (.slice e))(hs:ao P e=some s)(hz:bj P e=some z)(ha:(P.info? e).map (·.bytes)=some bys)
 (hx:aev τ x=.v (.int .i64 (Int.ofNat len)))(hy:aev τ y=.v (.int .i64 (Int.ofNat len)))(hh:Nat.ble len 16777216=true)(hj:Nat.ble (bys*len) 281474976710656=true)(hd:Nat.beq (len*s) 0=false):
 LOp P ⟨d,.makeSlice t x y,ty,pos,af,g⟩ τ η [] [(u,some ⟨0,b5 z (len*s),s,false⟩)] (.sl u 0 0 len):=by
 intro C a hg hf _ hb K Q hK
 have hu:¬C.U u:=hb (u,some ⟨0,b5 z (len*s),s,false⟩) (by simp) (by simp)
 have hl2':=ag9 hh
 have hb2':=ag9 hj
 have e1:=hf x (by simp[Op.operands])
 have e2:=hf y (by simp[Op.operands])
 rw[hx]at e1
 rw[hy]at e2
 unfold ao at hs
 unfold bj at hz
 cases hi:P.info? e with
 |none=>rw[hi]at hz;cases hz
 |some inf=>
  rw[hi]at hz hs ha
  simp only[aho]at hz
  simp only[ahn,agv]at hs ha
  subst hs ha
  let es:Array Value:=(Array.range (len*inf.size)).map fun i=>z.cells[i%z.cells.size]!
  have z1:(b5 z (len*inf.size)).length=es.size:=by simp[b5,es]
  have z2:∀i (h:i<(b5 z (len*inf.size)).length) (h':i<es.size),VR C (b5 z (len*inf.size))[i] es[i]:=fun i h h'=>by simp only[b5,List.getElem_map,List.getElem_range,es,Array.getElem_map,Array.getElem_range];exact VR.v C _
  have gsz:es.size=len*inf.size:=by simp[es]
  have hc:(execOp a.eval ⟨d,.makeSlice t x y,ty,pos,af,g⟩).run P C.w=.ok (.value (.slice (some ⟨C.w.heap.size,0,none⟩) len len)) (C.w.alloc (.cells es e)):=by
   have h0:¬(len*inf.size=0):=fun e=>by rw[e]at hd;cases hd
   have hw:IntKind.i64.wrap (Int.ofNat len)=Int.ofNat len:=IntWalk.i64_in _ (by constructor<;>simp<;>omega);have c1:¬(((inf.bytes:Int)*Int.ofNat len>2^48)):=by have:(inf.bytes:Int)*Int.ofNat len=((inf.bytes*len:Nat):Int):=(by simp);rw[this];omega
   have c2:¬((Int.ofNat len:Int)<0):=by simp
   simp only[execOp,e1.v_inv,e2.v_inv,Instr.makeSlice,Sem.run_bind,run_underlying he,ahb,asInt,typeInfo,run_program,hi,ahc];have a1:∀w:World,(asIntOf (Value.int IntKind.i64 (Int.ofNat len))).run P w=.ok (IntKind.i64,Int.ofNat len) w:=fun w=>rfl
   simp only[a1,ahb,hw];have cc:(decide ((Int.ofNat len:Int)<0)||decide ((inf.bytes:Int)*Int.ofNat len>2^48)||decide ((Int.ofNat len:Int)<0)||decide ((Int.ofNat len:Int)>Int.ofNat len))=false:=by simp only[Bool.or_eq_false_iff,decide_eq_false_iff_not];exact⟨⟨⟨c2,c1⟩,c2⟩,Int.lt_irrefl _⟩
   rw[ag0 (by rw[cc];exact ahp)];have tn:(Int.ofNat len).toNat=len:=rfl
   simp only[tn,Sem.run_bind];have ar:∀w:World,(askRoom (len*inf.bytes)).run P w=.ok () w:=fun w=>by unfold askRoom;split<;>rfl
   simp only[ar,ahb,sizeOf,typeInfo,Sem.run_bind,run_program,hi,ahc];rw[ag0 h0];simp only[Sem.run_bind,zeroValue,typeInfo,run_program,hi,ahc,ahb,hz];rfl
  unfold Oper.wp
  rw[hc]
  refine hK _ (C.alloc u es e ⟨0,b5 z (len*inf.size),inf.size,false⟩) rfl (fun i=>by simp[Ctx.alloc]) (c8 hg hu rfl (Nat.le_of_eq z1) z2) (dg hg hu rfl) ?_
  have h3:(C.alloc u es e ⟨0,b5 z (len*inf.size),inf.size,false⟩).ρ u=(C.w.heap.size,0):=by simp[Ctx.alloc]
  have h4:(C.alloc u es e ⟨0,b5 z (len*inf.size),inf.size,false⟩).sz u=es.size:=by simp[Ctx.alloc]
  have:=VR.sl (C:=C.alloc u es e ⟨0,b5 z (len*inf.size),inf.size,false⟩) (id:=u) (ver:=0) (off:=0) (len:=len) (cap:=len) (b:=⟨0,b5 z (len*inf.size),inf.size,false⟩) (ak _ _ _) rfl rfl (ag7 _) (by unfold maxLen;omega) (by omega)
   (by rw[h3,h4,gsz];simp)
  rw[h3]at this
  exact this
end
def Gc(tmps:Array Value):ResultVar->Sem Value
 |.tmp t=>pure (tmps.getD t undef)
 |.cell a t=>do loadVar t (<-asAddr (tmps.getD a undef))
def Uc(P:Program)(N:Nat)(s:St)(r:ResultVar)(ret:AV):Prop:=
 ∀C a,SRel N C s a->∃x,(Gc a.tmps r).run P C.w=.ok x C.w/\TR (fun b=>C.T b\/C.mine b) C.w ret x
theorem Dn(fn:Func)(r:ResultVar)(hr:fn.results=#[r])(tmps:Array Value)(P:Program)(w:World):(results fn tmps).run P w=(Gc tmps r).run P w:=by
 unfold results
 rw[hr]
 cases r with
 |tmp t=>simp[Gc]
 |cell a t=>
  simp only[Gc]
  simp[Sem.run_bind,Result.andThen]
theorem Ct{P:Program}{N:Nat}{s:St}{r:ResultVar}{ret:AV}{fn:Func}(hr:fn.results=#[r])(h:Ng P N fn s ret):Uc P N s r ret:=by intro C a hs;obtain⟨x,h1,h2⟩:=h C a hs;rw[Dn fn r hr]at h1;exact⟨x,h1,h2⟩
theorem Ng.two{P:Program}{N:Nat}{s:St}{r1 r2:ResultVar}{v1 v2:AV}{fn:Func}(hr:fn.results=#[r1,r2])(h1:Uc P N s r1 v1)(h2:Uc P N s r2 v2):Ng P N fn s (.tup [v1,v2]):=by
 intro C a hs;obtain⟨x,e1,t1⟩:=h1 C a hs;obtain⟨y,e2,t2⟩:=h2 C a hs;refine⟨.tuple #[x,y],?_,.tup rfl (fun i hi hi'=>?_)⟩;have hh:results fn a.tmps=(do let vs<-fn.results.mapM (Gc a.tmps);pure (if h:vs.size=1 then vs[0]else .tuple vs)):=by unfold results;congr 1
 rw[hh,hr];simp[Sem.run_bind,Result.andThen,e1,e2];match i,hi with
 |0,_=>exact t1
 |1,_=>exact t2
theorem ib{P:Program}{N:Nat}{s:St}{r1 r2 r3:ResultVar}{v1 v2 v3:AV}{fn:Func}(hr:fn.results=#[r1,r2,r3])(h1:Uc P N s r1 v1)(h2:Uc P N s r2 v2)(h3:Uc P N s r3 v3):Ng P N fn s (.tup [v1,v2,v3]):=by
 intro C a hs;obtain⟨x,e1,t1⟩:=h1 C a hs;obtain⟨y,e2,t2⟩:=h2 C a hs;obtain⟨z,e3,t3⟩:=h3 C a hs;refine⟨.tuple #[x,y,z],?_,.tup rfl (fun i hi hi'=>?_)⟩;have hh:results fn a.tmps=(do let vs<-fn.results.mapM (Gc a.tmps);pure (if h:vs.size=1 then vs[0]else .tuple vs)):=by unfold results;congr 1
 rw[hh,hr];simp[Sem.run_bind,Result.andThen,e1,e2,e3];match i,hi with
 |0,_=>exact t1
 |1,_=>exact t2
 |2,_=>exact t3
theorem Uc.tmp{P:Program}{N:Nat}{s:St}{ret:AV}{t:Nat}(h:∃fp,FzP fp s.η (s.τ t) ret):Uc P N s (.tmp t) ret:=by intro C a hs;obtain⟨fp,hf⟩:=h;exact⟨a.tmps.getD t undef,by simp[Gc],(hf C hs.good (fun id _=>by rw[hs.η]) _ (hs.τ t)).mono (fun b hb=>hb.imp (fun h=>h) bh) (fun _ _=>rfl)⟩
def abv(η:bi)(sz:Nat):AV->Option (List Nat×Nat×List AV)
 |.tree n rows=>bif Nat.beq rows.flatten.length (rows.length*sz)then some ([],rows.length,rows.flatten)else none
 |.sl id ver off len=>bif Nat.beq len 0 then none else match ii η id ver with
  |none=>none
  |some b=>match cy off (len*sz) b.cs with
   |none=>none
   |some news=>some ([id],len,news)
 |_=>none
theorem Jt{η:bi}{sz m:Nat}{a:AV}{fp:List Nat}{news:List AV}(h:abv η sz a=some (fp,m,news)):Src η fp a m news/\news.length=m*sz:=by
 unfold abv at h
 split at h
 ·rename_i n rows
  cases hc:Nat.beq rows.flatten.length (rows.length*sz)with
  |false=>rw[hc]at h;simp only[cond_false]at h;cases h
  |true=>
   rw[hc]at h
   simp only[cond_true,agv,Prod.mk.injEq]at h
   obtain⟨rfl,rfl,rfl⟩:=h
   exact⟨Src.tree,agu hc⟩
 ·rename_i id ver off len
  cases hc:Nat.beq len 0 with
  |true=>rw[hc]at h;simp only[cond_true]at h;cases h
  |false=>
   rw[hc]at h
   simp only[cond_false]at h
   split at h
   ·cases h
   ·rename_i b hb
    obtain⟨h1,h2,h3⟩:=ca hb
    split at h
    ·cases h
    ·rename_i ns ht
     simp only[agv,Prod.mk.injEq]at h
     obtain⟨rfl,rfl,rfl⟩:=h
     obtain⟨hle,he⟩:=dy _ _ _ _ ht
     have hl:ns.length=len*sz:=by rw[he];simp;omega
     exact⟨Src.sl h1 h2 h3 hc (by rw[hl];exact ht),hl⟩
 ·cases h
def Et(P:Program)(τ:Nat->AV)(η:bi)(u t:Nat)(s x:Operand):Option Rec:=
 match P.underlying t with
 |some (.slice e)=>match ao P e with
  |none=>none
  |some sz=>match bj P e with
   |none=>none
   |some z=>match(P.info? e).map (·.bytes)with
    |none=>none
    |some bys=>bif !Nat.beq z.cells.size sz then none else
     match abv η sz (aev τ x)with
     |none=>none
     |some (fp,m,news)=>match aev τ s with
      |.v (.slice none 0 0)=>bif Nat.ble 1 m&&Nat.ble (m*bys) 140737488355328&&Nat.ble m 140737488355328&&!fp.contains u then
       some ⟨fp,[(u,some ⟨0,news,sz,false⟩)],.sl u 0 0 m,u+1⟩else
       bif Nat.beq m 0&&news.isEmpty then some ⟨fp,[],.v (.slice none 0 0),u⟩else none
      |.sl id ver 0 len=>match ii η id ver with
       |none=>none
       |some b=>bif Nat.beq ver TV&&Nat.ble 1 m then
        (bif Nat.beq b.esz sz&&Nat.ble 1 sz&&Nat.beq (len*sz) b.cs.length&&Nat.ble 1 len&&Nat.ble ((len+m)*bys) 140737488355328&&Nat.ble (len+m) 140737488355328&&!(id::fp).contains u then
         (match cy 0 (len*sz) b.cs with
         |none=>none
         |some olds=>some ⟨id::fp,[(u,some ⟨0,olds++news,sz,false⟩)],.sl u 0 0 (len+m),u+1⟩)else none)
        else bif Nat.beq b.esz sz&&Nat.ble (len*sz) b.cs.length&&news.all AV.one&&Nat.ble ((len+m)*bys) 140737488355328&&Nat.ble (len+m) 140737488355328&&!Nat.beq (ver+1) TV then
         (match cy 0 (len*sz) b.cs with
         |none=>none
         |some olds=>some ⟨id::fp,[(id,some ⟨ver+1,olds++news,sz,false⟩)],.sl id (ver+1) 0 (len+m),u⟩)
        else none
      |_=>none
 |_=>none
theorem Iw{P:Program}{τ:Nat->AV}{η:bi}{u t:Nat}{s x:Operand}{d:Option Tmp}{ty:TypeId}{pos:String}{af:Array Edge}{g:Option (Nat×Bool)}{r:Rec}(h:Et P τ η u t s x=some r):
 LOp P ⟨d,.call {callee:=.builtin .append,args:=#[s,x],argTypes:=#[t,t]},ty,pos,af,g⟩ τ η r.fp r.δ r.v:=by
 unfold Et at h
 split at h
 ·rename_i e he
  split at h
  ·cases h
  ·rename_i sz hs
   split at h
   ·cases h
   ·rename_i z hz
    split at h
    ·cases h
    ·rename_i bys hh
     cases ha:Nat.beq z.cells.size sz with
     |false=>rw[ha]at h;simp at h
     |true=>
      rw[ha]at h
      simp only[Bool.not_true,cond_false]at h
      have ha:=agu ha
      split at h
      ·cases h
      ·rename_i fp m news hi
       obtain⟨hg,hj⟩:=Jt hi
       split at h
       ·rename_i hx
        cases hc:(Nat.ble 1 m&&Nat.ble (m*bys) 140737488355328&&Nat.ble m 140737488355328&&!fp.contains u)with
        |true=>
         rw[hc]at h
         simp only[cond_true,agv]at h
         subst h
         simp only[ahq]at hc
         obtain⟨⟨⟨c1,c2⟩,c3⟩,c4⟩:=hc
         exact j2 he hs hz hh ha hx (by simpa using c4) hg (ag9 c1) hj (ag9 c2) (ag9 c3)
        |false=>
         rw[hc]at h
         simp only[cond_false]at h
         cases hd:(Nat.beq m 0&&news.isEmpty)with
         |false=>rw[hd]at h;simp only[cond_false]at h;cases h
         |true=>
          rw[hd]at h
          simp only[cond_true,agv]at h
          subst h
          rw[ahq]at hd
          have e0:=agu hd.1
          subst e0
          exact Fc he hs hx hg (List.isEmpty_iff.1 hd.2)
       ·rename_i id ver len hx
        split at h
        ·cases h
        ·rename_i b hb
         obtain⟨h1,h2,h3⟩:=ca hb
         cases hf:(Nat.beq ver TV&&Nat.ble 1 m)with
         |true=>
          rw[hf]at h
          simp only[cond_true]at h
          rw[ahq]at hf
          have e1:=agu hf.1
          cases hc:(Nat.beq b.esz sz&&Nat.ble 1 sz&&Nat.beq (len*sz) b.cs.length&&Nat.ble 1 len&&Nat.ble ((len+m)*bys) 140737488355328&&Nat.ble (len+m) 140737488355328&&!(id::fp).contains u)with
          |false=>rw[hc]at h;simp only[cond_false]at h;cases h
          |true=>
           rw[hc]at h
           simp only[cond_true]at h
           split at h
           ·cases h
           ·rename_i olds ho
            simp only[agv]at h
            subst h
            simp only[ahq]at hc
            obtain⟨⟨⟨⟨⟨⟨c1,c2⟩,c3⟩,c4⟩,c5⟩,c6⟩,c7⟩:=hc
            obtain⟨_,e0⟩:=dy _ _ _ _ ho
            rw[List.drop_zero]at e0
            subst e0
            rw[e1]at hx h2
            exact Fd he hs hz hh ha hx h1 h2 h3 (agu c1) (ag9 c2) (agu c3) (ag9 c4) (by simpa using c7) hg (ag9 hf.2) hj (ag9 c5) (ag9 c6)
         |false=>
          rw[hf]at h
          simp only[cond_false]at h
          cases hc:(Nat.beq b.esz sz&&Nat.ble (len*sz) b.cs.length&&news.all AV.one&&Nat.ble ((len+m)*bys) 140737488355328&&Nat.ble (len+m) 140737488355328&&!Nat.beq (ver+1) TV)with
          |false=>rw[hc]at h;simp only[cond_false]at h;cases h
          |true=>
           rw[hc]at h
           simp only[cond_true]at h
           split at h
           ·cases h
           ·rename_i olds ho
            simp only[agv]at h
            subst h
            simp only[ahq]at hc
            obtain⟨⟨⟨⟨⟨c1,c2⟩,c3⟩,c4⟩,c5⟩,c6⟩:=hc
            obtain⟨_,e0⟩:=dy _ _ _ _ ho
            rw[List.drop_zero]at e0
            subst e0
            exact LOp.append he hs hz hh ha hx h1 h2 h3 (agu c1) (ag9 c2) hg hj c3 (ag9 c4) (ag9 c5) (fun e=>by rw[e,Nat.beq_refl]at c6;cases c6)
       ·cases h
 ·cases h
def pj:List AV->Option (List Value)
 |[]=>some []
 |.v x::l=>match pj l with
  |some r=>some (x::r)
  |none=>none
 |_=>none
def Xv:AV->Option Value
 |.v x=>some x
 |.agg cs=>match pj cs with
  |some r=>some (.agg r.toArray)
  |none=>none
 |_=>none
theorem Fk:∀(l:List AV) (r:List Value),pj l=some r->l=r.map .v
 |[],r,h=>by simp only[pj,agv]at h;subst h;rfl
 |.v x::l,r,h=>by
  simp only[pj]at h
  cases h1:pj l with
  |none=>rw[h1]at h;cases h
  |some r1=>
   rw[h1]at h
   simp only[agv]at h
   subst h
   rw[Fk l r1 h1]
   rfl
 |.ptr _ _ _::l,r,h=>by simp[pj]at h
 |.sl _ _ _ _::l,r,h=>by simp[pj]at h
 |.tree _ _::l,r,h=>by simp[pj]at h
 |.tp _ _::l,r,h=>by simp[pj]at h
 |.clo _ _::l,r,h=>by simp[pj]at h
 |.mp _ _::l,r,h=>by simp[pj]at h
 |.it _ _::l,r,h=>by simp[pj]at h
 |.agg _::l,r,h=>by simp[pj]at h
 |.tup _::l,r,h=>by simp[pj]at h
 |.unk::l,r,h=>by simp[pj]at h
theorem Jl{C:Ctx}{a:AV}{x y:Value}(hx:VR C a x)(h:Xv a=some y):x=y:=by unfold Xv at h;split at h;simp only[agv]at h;subst h;exact hx.v_inv;rename_i cs;split at h;rename_i r hr;simp only[agv]at h;subst h;obtain rfl:=Fk _ _ hr;obtain⟨vs,rfl,h1,h2⟩:=hx.agg_inv;congr 1;simp only[agz]at h1;apply Array.ext;simp;omega;intro i hi ha;have:=(h2 i (by simp;simpa using ha) hi);simp only[List.getElem_map]at this;simpa using this.v_inv;cases h;cases h
def valE(a:AV):Value:=match Xv a with
 |some y=>y
 |none=>undef
def Dt(P:Program)(τ:Nat->AV)(o:Oper):Option Value:=
 bif re o.op then none else
 bif o.op.operands.toList.all (fun x=>(Xv (aev τ x)).isSome)then
  match du P (execOp (fun x=>valE (aev τ x)) o)with
  |some (.value y)=>some y
  |_=>none
 else none
theorem H9{P:Program}{τ:Nat->AV}{η:bi}{o:Oper}{y:Value}(h:Dt P τ o=some y):LOp P o τ η [] [] (.v y):=by
 unfold Dt at h
 cases hs:re o.op with
 |true=>rw[hs]at h;simp only[cond_true]at h;cases h
 |false=>
  rw[hs]at h
  simp only[cond_false]at h
  cases hv:o.op.operands.toList.all (fun x=>(Xv (aev τ x)).isSome)with
  |false=>rw[hv]at h;simp only[cond_false]at h;cases h
  |true=>
   rw[hv]at h
   simp only[cond_true]at h
   split at h
   ·rename_i y' hq
    simp only[agv]at h
    subst h
    refine .look [] fun C a hg hx _=>⟨y',?_,VR.v C y'⟩
    rw[<-je _ _ hq C.w,execOp_congr o (fun cs b e=>by rw[e]at hs;simp[re]at hs)]
    intro x hm
    have h1:=List.all_eq_true.1 hv x (by simpa using hm)
    obtain⟨z,hz⟩:=Option.isSome_iff_exists.1 h1
    have h2:=Jl (hx x hm) hz
    simp only[valE,hz]
    exact h2
   ·cases h
theorem lN{P:Program}{τ:Nat->AV}{η:bi}{d:Option Tmp}{ty:TypeId}{pos:String}{af:Array Edge}{g:Option (Nat×Bool)}{x:Operand}{id ver o:Nat}{b:Blk}(hx:aev τ x=.ptr id ver o)(hb:η id=some b)(hv:b.ver=ver):
 LOp P ⟨d,.nilCheck x,ty,pos,af,g⟩ τ η [id] [] (.ptr id ver o):=
 .look [id] fun C a hg ha hc=>by have hb':C.η id=some b:=(hc id (by simp)).trans hb;have h1:=ha x (by simp[Op.operands]);rw[hx]at h1;have h2:=h1.ptr_inv hb' hv;refine⟨a.eval x,?_,h1⟩;simp only[execOp];rw[h2];rfl
theorem rt{P:Program}{τ:Nat->AV}{η:bi}{d:Option Tmp}{ty:TypeId}{pos:String}{af:Array Edge}{g:Option (Nat×Bool)}{x:Operand}{cs:List AV}{o:Nat}(hx:aev τ x=.tp cs o):
 LOp P ⟨d,.nilCheck x,ty,pos,af,g⟩ τ η [] [] (.tp cs o):=
 .look [] fun C a hg ha hfp=>by
  have h1:=ha x (by simp[Op.operands]);rw[hx]at h1;have h2:=h1.tp_inv
  refine⟨a.eval x,?_,h1⟩;generalize hb:a.eval x=xv at h2;cases h2 with
  |tp cell hT hc hr=>
   simp only[execOp]
   rw[hb]
   rfl
def yc(P:Program)(τ:Nat->AV)(o:Oper)(u:Nat):Option Rec:=match Kf P τ o with
 |some y=>some ⟨[],[],.v y,u⟩
 |none=>match Dt P τ o with
  |some y=>some ⟨[],[],.v y,u⟩
  |none=>none
theorem q8{P:Program}{τ:Nat->AV}{η:bi}{o:Oper}{u:Nat}{r:Rec}(h:yc P τ o u=some r):LOp P o τ η r.fp r.δ r.v:=by grind[yc,agv,Ke,H9]
def Er(P:Program)(u t:Nat):Option Rec:=match P.underlying t with
 |some (.slice e)=>match ao P e with
  |some s=>some ⟨[],[(u,some ⟨0,[],s,false⟩)],.sl u 0 0 0,u+1⟩
  |none=>none
 |_=>none
theorem Iv{P:Program}{τ:Nat->AV}{η:bi}{u t:Nat}{d:Option Tmp}{ty:TypeId}{pos:String}{af:Array Edge}{g:Option (Nat×Bool)}{r:Rec}(h:Er P u t=some r):
 LOp P ⟨d,.buildSlice t 0 #[],ty,pos,af,g⟩ τ η r.fp r.δ r.v:=by grind[Er,agv,bo]
def so(P:Program)(τ:Nat->AV)(u t:Nat)(x y:Operand):Option Rec:=match P.underlying t with
 |some (.slice e)=>match ao P e with
  |none=>none
  |some s=>match bj P e with
   |none=>none
   |some z=>match(P.info? e).map (·.bytes)with
    |none=>none
    |some bys=>match aev τ x with
     |.v (.int .i64 (Int.ofNat len))=>match aev τ y with
      |.v (.int .i64 (Int.ofNat cap))=>bif Nat.beq len cap&&Nat.ble len 16777216&&Nat.ble (bys*len) 281474976710656&&!Nat.beq (len*s) 0 then
       some ⟨[],[(u,some ⟨0,b5 z (len*s),s,false⟩)],.sl u 0 0 len,u+1⟩else none
      |_=>none
     |_=>none
 |_=>none
theorem zr{P:Program}{τ:Nat->AV}{η:bi}{u t:Nat}{x y:Operand}{d:Option Tmp}{ty:TypeId}{pos:String}{af:Array Edge}{g:Option (Nat×Bool)}{r:Rec}(h:so P τ u t x y=some r):
 LOp P ⟨d,.makeSlice t x y,ty,pos,af,g⟩ τ η r.fp r.δ r.v:=by
 unfold so at h
 split at h
 ·rename_i e he
  split at h
  ·cases h
  ·rename_i s hs
   split at h
   ·cases h
   ·rename_i z hz
    split at h
    ·cases h
    ·rename_i bys ha
     split at h
     ·rename_i len hx
      split at h
      ·rename_i cap hy
       cases hc:(Nat.beq len cap&&Nat.ble len 16777216&&Nat.ble (bys*len) 281474976710656&&!Nat.beq (len*s) 0)with
       |false=>rw[hc]at h;simp only[cond_false]at h;cases h
       |true=>
        rw[hc]at h
        simp only[cond_true,agv]at h
        subst h
        simp only[ahq]at hc
        obtain⟨⟨⟨c1,c2⟩,c3⟩,c4⟩:=hc
        obtain rfl:=agu c1
        exact LOp.makeSlice u he hs hz ha hx hy c2 c3 (by simpa using c4)
      ·cases h
     ·cases h
 ·cases h
def opE(P:Program)(call:d7):abo:=fun o E=>
 match o.op with
 |.move x=>some ⟨[],[],aev (bf E.t) x,E.u⟩
 |.assign x=>some ⟨[],[],aev (bf E.t) x,E.u⟩
 |.pick c x y=>match aev (bf E.t) c with
  |.v (.bool true)=>some ⟨[],[],aev (bf E.t) x,E.u⟩
  |.v (.bool false)=>some ⟨[],[],aev (bf E.t) y,E.u⟩
  |_=>none
 |.alloc t=>T8 P E.u t
 |.box t x=>abw E.u (ji (aev (bf E.t) x))
 |.build t parts=>Mm P (bf E.t) E.u t parts
 |.buildSlice t 0 ⟨[]⟩=>Er P E.u t
 |.buildSlice t len parts=>qn P (bf E.t) E.u t len parts
 |.makeSlice t x y=>so P (bf E.t) E.u t x y
 |.load t x=>Vk P (bf E.t) (be E.h) E.u t x
 |.store t x y=>Js P (bf E.t) (be E.h) E.u t x y
 |.fieldAddr t x i=>s8 P (bf E.t) (be E.h) E.u t x i
 |.indexAddr t x i=>sr P (bf E.t) (be E.h) E.u t x i
 |.nilCheck x=>match aev (bf E.t) x with
  |.ptr id ver o=>match ii (be E.h) id ver with
   |some b=>some ⟨[id],[],.ptr id ver o,E.u⟩
   |none=>none
  |.tp cs o=>some ⟨[],[],.tp cs o,E.u⟩
  |_=>yc P (bf E.t) o E.u
 |.extract x i=>match aev (bf E.t) x with
  |.tup cs=>match cs[i]? with
   |some v=>some ⟨[],[],v,E.u⟩
   |none=>none
  |_=>yc P (bf E.t) o E.u
 |.call ⟨.value (.func f),xs,ats⟩=>Qw P call (bf E.t) (be E.h) E.u f xs
 |.call ⟨.builtin .len,⟨[x]⟩,ats⟩=>match ael P (bf E.t) (be E.h) E.u x ats with
  |some r=>some r
  |none=>yc P (bf E.t) o E.u
 |.call ⟨.builtin .append,⟨[s,x]⟩,⟨[t,t']⟩⟩=>bif Nat.beq t t' then Et P (bf E.t) (be E.h) E.u t s x else none
 |_=>yc P (bf E.t) o E.u
theorem Zd{P:Program}{call:d7}(ha:∀f ys ret,call f ys=some ret->b8 P f ys ret):(opE P call).Ok P:=by
 intro o E r h
 obtain⟨d,op,ty,pos,af,g⟩:=o
 unfold opE at h
 simp only at h
 split at h
 ·simp only[agv]at h;subst h;exact LOp.move _
 ·simp only[agv]at h;subst h;exact LOp.assign _
 ·split at h
  ·rename_i hc
   simp only[agv]at h;subst h;exact Ez hc rfl rfl
  ·rename_i hc
   simp only[agv]at h;subst h;exact Fa hc rfl rfl
  ·cases h
 ·unfold T8 at h
  split at h
  ·rename_i z hz
   obtain⟨vs,h1,rfl⟩:=Kp h
   exact Uf hz h1
  ·cases h
 ·obtain⟨vs,h1,rfl⟩:=Kp h
  exact Ue h1
 ·exact Ml h
 ·exact Iv h
 ·exact xq h
 ·exact zr h
 ·exact P1 h
 ·exact Jr h
 ·exact Ag h
 ·exact zw h
 ·split at h
  ·rename_i id ver o hx
   split at h
   ·rename_i b hb
    obtain⟨h1,h2,h3⟩:=ca hb
    simp only[agv]at h;subst h
    exact lN hx h1 h2
   ·cases h
  ·rename_i cs o hx
   simp only[agv]at h;subst h
   exact rt hx
  ·exact q8 h
 ·split at h
  ·rename_i cs hx
   split at h
   ·rename_i v hv
    simp only[agv]at h;subst h
    exact LOp.extract hx hv
   ·cases h
  ·exact q8 h
 ·exact He ha h
 ·split at h
  ·rename_i r' hr
   simp only[agv]at h;subst h
   exact Vq hr
  ·exact q8 h
 ·rename_i s x t t'
  cases ht:Nat.beq t t' with
  |false=>rw[ht]at h;simp only[cond_false]at h;cases h
  |true=>
   rw[ht]at h
   simp only[cond_true]at h
   obtain rfl:=agu ht
   exact Iw h
 ·exact q8 h
def ll:Nat->List AV->Tri AV->Option (Tri AV)
 |_,[],t=>some t
 |k,a::l,t=>match Tri.set 24 t k a with
  |some t'=>ll (k+1) l t'
  |none=>none
theorem H8:∀(l:List AV) (k:Nat) (t t':Tri AV),ll k l t=some t'->∀i,bf t' i=if h:k<=i/\i<k+l.length then l[i-k]'(by omega)else bf t i:=by
 intro l;induction l with
 |nil=>
  intro k t t' h i
  simp only[ll,agv]at h
  subst h
  rw[dif_neg (by simp<;>omega)]
 |cons a l ih=>
  intro k t t' h i
  simp only[ll]at h
  cases h1:Tri.set 24 t k a with
  |none=>rw[h1]at h;cases h
  |some t1=>
   rw[h1]at h
   rw[ih _ _ _ h i,vd h1]
   by_cases e:i=k
   ·subst e
    rw[dif_neg (by omega),dif_pos (by simp)]
    simp[upd]
   ·by_cases hh:k+1<=i/\i<k+1+l.length
    ·rw[dif_pos hh,dif_pos (by simp;omega)]
     have:i-k=i-(k+1)+1:=by omega
     simp[this]
    ·rw[dif_neg hh,dif_neg (by simp;omega)]
     simp only[upd,wv,e,decide_false,cond_false]
end Go.Proofs.YtbhhmbchdponjaaGreatDoor
