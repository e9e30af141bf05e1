/- Texts of the claim. -/
import Derived.Test.YtbhhmbchdponjaaGreatDoorA1
namespace Go.Proofs.YtbhhmbchdponjaaGreatDoor
set_option linter.unusedVariables false
set_option linter.unusedSimpArgs false
open Go.RowKit
def Ctx.repl (C:Ctx) (id:Nat) (r:Nat×Nat) (z:Nat) (b:Blk) (w:World):Ctx :=
 { ρ:=fun i=>if i=id then r else C.ρ i,sz:=fun i=>if i=id then z else C.sz i,η:=C.η.set id (some b),U:=fun i=>C.U i∨i=id,T:=C.T,w:=w }
section
variable {C:Ctx} {id:Nat} {r:Nat×Nat} {z:Nat} {b:Blk} {w:World}
structure ReplOk (C:Ctx) (id:Nat) (r:Nat×Nat) (z:Nat) (b:Blk) (w:World):Prop where
 os:w.os=C.w.os
 tape:w.tape=C.w.tape
 output:w.output=C.w.output
 size:C.w.heap.size≤w.heap.size
 keep:∀ k,k < C.w.heap.size→k≠r.1→w.heap[k]? = C.w.heap[k]?
 where_:(∃ b0,C.η id=some b0∧b0.nilp=false∧(C.ρ id).1=r.1)∨C.w.heap.size≤r.1
 ver:C.U id→∃ b0,C.η id=some b0∧b0.ver < b.ver
 nn:b.nilp=false
 tight:b.ver=TV→z=r.2+b.cs.length
 cells:∃ c t,w.heap[r.1]? = some (.cells c t (0,0))∧c.size=z∧r.2+b.cs.length≤c.size∧∀ j (h:j < b.cs.length) (h':r.2+j < c.size),VR C b.cs[j] c[r.2+j]
theorem Ctx.repl_ev (hg:Good C) (h:ReplOk C id r z b w):Ev C (C.repl id r z b w) where
 os:=h.os
 tape:=h.tape
 output:=h.output
 size:=h.size
 keep:=fun k hk hm=>by refine h.keep k hk (fun e=>?_);rcases h.where_ with ⟨b0,h1,h2,h3⟩ | h1;exact hm ⟨id,⟨b0,h1,Blk.k0' h2⟩,h3.trans e.symm⟩;omega
 mine:=fun k ⟨i,⟨b',hb',hn'⟩,hk⟩=>by by_cases e:i=id;subst e;simp only [Ctx.repl,if_true] at hk;rcases h.where_ with ⟨b0,h1,h2,h3⟩ | h1;exact .inl ⟨i,⟨b0,h1,Blk.k0' h2⟩,h3.trans hk⟩;exact .inr (by omega);simp only [Ctx.repl] at hb' hk;rw [Heap.set_other _ _ e] at hb';simp only [e,if_false] at hk;exact .inl ⟨i,⟨b',hb',hn'⟩,hk⟩
 T:=fun _ h=>h
 Tnew:=fun _ h=>.inl h
 U:=fun _ h=>.inl h
 old:=fun i b' hid hb'=>by simp only [Ctx.repl] at hb';by_cases e:i=id;subst e;rw [Heap.set_same] at hb';cases hb';obtain ⟨b0,h1,h2⟩:=h.ver hid;exact ⟨b0,h1,by omega,fun e=>by omega⟩;rw [Heap.set_other _ _ e] at hb';exact ⟨b',hb',Nat.le_refl _,fun _=>⟨by simp [Ctx.repl,e],by simp [Ctx.repl,e],rfl,rfl⟩⟩
theorem Ctx.repl_good (hg:Good C) (h:ReplOk C id r z b w):Good (C.repl id r z b w):=by
 have he:=Ctx.repl_ev hg h
 have hlive:∀ {i b'},(C.repl id r z b w).η i=some b'→(i=id∧b'=b)∨(i≠id∧C.η i=some b'):=by
  intro i b' hb';simp only [Ctx.repl] at hb';by_cases e:i=id;subst e;rw [Heap.set_same] at hb';cases hb';exact .inl ⟨rfl,rfl⟩;rw [Heap.set_other _ _ e] at hb';exact .inr ⟨e,hb'⟩
 have hlt:∀ {i b'},C.η i=some b'→b'.kind≠1→(C.ρ i).1 < C.w.heap.size:=fun hb' hk=>hg.lt ⟨_,hb',hk⟩
 have hne:∀ {i b'},i≠id→C.η i=some b'→b'.kind≠1→(C.ρ i).1≠r.1:=by
  intro i b' hi hb' hn' e;rcases h.where_ with ⟨b0,h1,h2,h3⟩ | h1;exact hi (hg.inj ⟨b',hb',hn'⟩ ⟨b0,h1,Blk.k0' h2⟩ (e.trans h3.symm));have:=hlt hb' hn'
  omega
 refine ⟨?_,?_,?_,?_,?_,?_,?_⟩;intro i b' hb';rcases hlive hb' with ⟨rfl,rfl⟩ | ⟨_,hb'⟩;exact .inr rfl;exact .inl (hg.used hb');intro i b' hb' hn';rcases hlive hb' with ⟨rfl,rfl⟩ | ⟨e,hb'⟩;rw [Blk.k0 h.nn] at hn';cases hn';obtain ⟨ob,h1,h2⟩:=hg.obj hb' hn';have e1:(C.repl id r z b w).ρ i=C.ρ i:=by simp [Ctx.repl,e]
 rw [e1];exact ⟨ob,(h.keep _ (hlt hb' (by rw [hn']; decide)) (hne e hb' (by rw [hn']; decide))).trans h1,h2.mono hg he⟩;intro i b' hb' hn';rcases hlive hb' with ⟨e,rfl⟩ | ⟨e,hb'⟩;obtain ⟨c,t,g1,g2,g3,g4⟩:=h.cells;have e1:(C.repl id r z b' w).ρ i=r:=by simp [Ctx.repl,e]
 have e2:(C.repl id r z b' w).sz i=z:=by simp [Ctx.repl,e]
 rw [e1,e2];exact ⟨c,t,g1,g2,g3,fun j hj hj'=>(g4 j hj hj').mono hg he⟩;obtain ⟨c,t',h1,h2,h3,h4⟩:=hg.blk hb' hn';have e1:(C.repl id r z b w).ρ i=C.ρ i:=by simp [Ctx.repl,e]
 have e2:(C.repl id r z b w).sz i=C.sz i:=by simp [Ctx.repl,e]
 rw [e1,e2];exact ⟨c,t',(h.keep _ (hlt hb' (Blk.k0' hn')) (hne e hb' (Blk.k0' hn'))).trans h1,h2,h3,fun j hj hj'=>(h4 j hj hj').mono hg he⟩;rintro i i' ⟨b1,hb1,hn1⟩ ⟨b2,hb2,hn2⟩ hh;rcases hlive hb1 with ⟨h1,_⟩ | ⟨e1,hb3⟩ <;> rcases hlive hb2 with ⟨h2,_⟩ | ⟨e2,hb4⟩;exact h1.trans h2.symm;simp only [Ctx.repl,h1,if_true,e2,if_false] at hh;exact absurd hh.symm (hne e2 hb4 hn2);simp only [Ctx.repl,h2,if_true,e1,if_false] at hh;exact absurd hh (hne e1 hb3 hn1);simp only [Ctx.repl,e1,e2,if_false] at hh;exact hg.inj ⟨b1,hb3,hn1⟩ ⟨b2,hb4,hn2⟩ hh;refine hg.tokE he.toFr0 fun k hk=>?_
 have:=hg.tlt (k:=k) hk;have:=h.size
 show k < w.heap.size;omega;rintro k ⟨i,⟨b',hb',hn'⟩,hk⟩ hT;rcases hlive hb' with ⟨e,_⟩ | ⟨e,hb'⟩;simp only [Ctx.repl,e,if_true] at hk;rcases h.where_ with ⟨b0,h1,h2,h3⟩ | h1;exact hg.apart ⟨id,⟨b0,h1,Blk.k0' h2⟩,h3.trans hk⟩ hT;have:=hg.tlt (k:=k) hT
 omega;simp only [Ctx.repl,e,if_false] at hk;exact hg.apart ⟨i,⟨b',hb',hn'⟩,hk⟩ hT;intro i b' hb' hv' hn';rcases hlive hb' with ⟨e,rfl⟩ | ⟨e,hb'⟩;have e1:(C.repl id r z b' w).ρ i=r:=by simp [Ctx.repl,e]
 have e2:(C.repl id r z b' w).sz i=z:=by simp [Ctx.repl,e]
 rw [e1,e2];exact h.tight hv';have e1:(C.repl id r z b w).ρ i=C.ρ i:=by simp [Ctx.repl,e]
 have e2:(C.repl id r z b w).sz i=C.sz i:=by simp [Ctx.repl,e]
 rw [e1,e2];exact hg.tight hb' hv' hn'
end
def Src (η:Heap) (fp:List Nat) (a:AV) (m:Nat) (news:List AV):Prop :=
 ∀ C:Ctx,Good C→(∀ id∈fp,C.η id=η id)→∀ x,VR C a x→(m=0∧news=[]∧∃ ad c,x=.slice ad 0 c) ∨
  ∃ (ad:Addr) (c:Nat) (vals:List Value),x=.slice (some ad) m c∧vals.length=news.length∧(∀ (j:Nat) (u:Value),vals[j]? = some u→C.w.cell? (ad.add j)=some u)∧∀ j (h:j < news.length) (h':j < vals.length),VR C news[j] vals[j]
theorem flatten_get {n:Nat}:∀ (xs:List (List AV)) (_:∀ k (h:k < xs.length),xs[k].length=n) (i:Nat),i < xs.length * n→∃ (h:i / n < xs.length) (h':i % n < xs[i / n].length) (h'':i < xs.flatten.length),xs.flatten[i]=xs[i / n][i % n]
 | [],_,i,h=>by simp at h
 | x :: r,hl,i,hi=>by
  have h0:x.length=n:=hl 0 (by simp)
  have hpos:0 < n:=by
   rcases Nat.eq_zero_or_pos n with e | e;subst e;simp at hi;exact e
  by_cases hlt:i < n;have e1:i / n=0:=Nat.div_eq_of_lt hlt
  have e2:i % n=i:=Nat.mod_eq_of_lt hlt;refine ⟨by rw [e1]; simp,by simp only [e1,e2]; simp; omega,by simp; omega,?_⟩;simp only [e1,e2,List.getElem_cons_zero,List.flatten_cons];rw [List.getElem_append_left (by omega)];have hge:n≤i:=by omega
  obtain ⟨g1,g2,g3,g4⟩:=flatten_get r (fun k hk=>by have:=hl (k+1) (by simpa using hk); simpa using this) (i - n) (by simp [Nat.add_mul] at hi; omega);have e1:i / n=(i - n) / n+1:=by rw [Nat.div_eq_sub_div hpos hge]
  have e2:i % n=(i - n) % n:=Nat.mod_eq_sub_mod hge;refine ⟨by rw [e1]; simp; exact g1,by simp only [e1,e2,List.getElem_cons_succ]; exact g2,by simp at g3 ⊢; omega,?_⟩;simp only [e1,e2,List.getElem_cons_succ,List.flatten_cons];rw [List.getElem_append_right (by omega),← g4];congr 1;omega
theorem flatten_length {n:Nat}:∀ (xs:List (List AV)) (_:∀ k (h:k < xs.length),xs[k].length=n),xs.flatten.length=xs.length * n
 | [],_=>by simp
 | x :: r,hl=>by have h0:x.length=n:=hl 0 (by simp);have:=flatten_length r (fun k hk=>by have:=hl (k+1) (by simpa using hk); simpa using this);simp only [List.flatten_cons,List.length_append,List.length_cons,Nat.add_mul,this,h0];omega
theorem Src.tree {η:Heap} {n:Nat} {xs:List (List AV)}:Src η [] (.tree n xs) xs.length xs.flatten:=by
 intro C hg _ x hx
 have h:=hx.tree_inv
 cases h with
 | tree0 h=>exact .inl ⟨rfl,rfl,_,_,rfl⟩
 | tree cell hT h1 h2 h3 h4 h5 h6=>
  rename_i b off cap
  right
  have hfl:=flatten_length xs h4
  refine ⟨⟨b,off,none⟩,cap,(List.range (xs.length * n)).map fun i=>cell (i / n) (i % n),rfl,by simp [hfl],fun j u hj=>?_,fun j hj hj'=>?_⟩
  ·simp only [List.getElem?_map] at hj
   cases hr:(List.range (xs.length * n))[j]? with
   | none=>rw [hr] at hj; cases hj
   | some q=>
    rw [hr] at hj
    obtain ⟨hlt,hq⟩:=List.getElem?_eq_some_iff.1 hr
    simp only [List.getElem_range] at hq
    subst hq
    simp only [Option.map_some,Option.some.injEq] at hj
    subst hj
    have hlt':j < xs.length * n:=by simpa using hlt
    obtain ⟨g1,g2,_,_⟩:=flatten_get xs h4 j hlt'
    rw [h4 _ g1] at g2
    rw [Addr.add_mid]
    have:=h5 (j / n) (j % n) g1 g2
    rw [show off+j / n * n+j % n=off+j by have:=Nat.div_add_mod j n; rw [Nat.mul_comm] at this; omega] at this
    exact this
  ·simp only [List.length_map,List.length_range] at hj'
   obtain ⟨g1,g2,g3,g4⟩:=flatten_get xs h4 j hj'
   rw [g4]
   simp only [List.getElem_map,List.getElem_range]
   exact .imm (h6 _ g1 _ g2)
theorem Src.sl {η:Heap} {id ver off len:Nat} {b:Blk} {news:List AV} (hb:η id=some b) (hv:b.ver=ver) (hn:b.nilp=false) (hne:Nat.beq len 0=false) (hc:takeFrom off news.length b.cs=some news):Src η [id] (.sl id ver off len) len news:=by
 intro C hg hη x hx;have hb':C.η id=some b:=(hη id (by simp)).trans hb
 have hne':len≠0:=fun e=>by rw [e] at hne; cases hne
 obtain ⟨ad,cap,rfl,h1,h2,h3,h4⟩:=hx.sl_inv hb' hv hn;rcases h4 with ⟨h4,_⟩ | ⟨rfl,h4⟩;exact absurd h4 hne';obtain ⟨g1,g2⟩:=takeFrom_eq _ _ _ _ hc;right;obtain ⟨f,hf⟩:=choose_cells (n:=news.length) (p:=fun j y=>C.w.cell? ⟨(C.ρ id).1,(C.ρ id).2+off+j,none⟩=some y∧VR C (news.getD j .unk) y) (fun j hj=>by obtain ⟨y,hy,hvy⟩:=hg.cell hb' hn (j:=off+j) (by omega);refine ⟨y,by rw [Nat.add_assoc]; exact hy,have e:news.getD j .unk=news[j]:=(by simp [List.getD,hj]); ?_⟩;have e2:news[j]=b.cs[off+j]'(by omega):=(by have:news[j]? = b.cs[off+j]?:=(by rw [g2,List.getElem?_take_of_lt (by omega),List.getElem?_drop]);rw [List.getElem?_eq_getElem hj,List.getElem?_eq_getElem (by omega)] at this;exact Option.some.inj this);rw [e,e2];exact hvy);exact ⟨_,cap,(List.range news.length).map f,rfl,by simp,fun j u hj=>by obtain ⟨hlt,he⟩:=List.getElem?_eq_some_iff.1 hj;simp only [List.getElem_map,List.getElem_range] at he;subst he;rw [Addr.add_mid];exact (hf j (by simpa using hlt)).1,fun j hj hj'=>by simp only [List.getElem_map,List.getElem_range];have:=(hf j hj).2;simpa [List.getD,hj] using this⟩
section
variable {P:Program} {τ:Nat→AV} {η:Heap} {d:Option Tmp} {ty:TypeId} {pos:String} {af:Array Edge} {g:Option (Nat×Bool)}
theorem exec_append {a:Act} {s x:Operand} {t1 t2:TypeId} (w:World) {v:Value} {w':World} (h:(Builtin.append_ #[t1,t2] ty #[a.eval s,a.eval x]).run P w=.ok v w') :
 (execOp a.eval ⟨d,.call { callee:=.builtin .append,args:=#[s,x],argTypes:=#[t1,t2] },ty,pos,af,g⟩).run P w=.ok (.value v) w':=by
 simp only [execOp,resolve,invoke,builtin,Sem.run_bind,Sem.run_pure,Result.andThen_ok,List.map_toArray,List.map_cons,List.map_nil,h]
theorem run_append_zero {t e:TypeId} {i:TypeInfo} (ht:P.underlying t=some (.slice e)) (hi:P.info? e=some i) (w:World) (a ad:Option Addr) (n cap c:Nat) (hle:n≤cap) :
 (Builtin.append_ #[t,t] ty #[.slice a n cap,.slice ad 0 c]).run P w=.ok (.slice a n cap) w:=by
 have h1:∀ x:Option Addr,(Builtin.firstCells i.size 0 (.slice x 0 c)).run P w=.ok #[] w:=by intro x;cases x <;> simp [Builtin.firstCells,loadCells,loadCellsFrom]
 cases a with
 | none=>simp [Builtin.append_,run_underlying ht,sizeOf,typeInfo,hi,Builtin.lenOf,hle,h1]
 | some b=>simp [Builtin.append_,run_underlying ht,sizeOf,typeInfo,hi,Builtin.lenOf,hle,h1,storeCells]
theorem run_append_mid {t e:TypeId} {i:TypeInfo} (ht:P.underlying t=some (.slice e)) (hi:P.info? e=some i) (w:World) (gb o n cap:Nat) (cur:Array Value) (t':TypeId) (hgb:w.heap[gb]? = some (.cells cur t' (0,0)))
 (a:Addr) (m c:Nat) (news:List Value) (hl:news.length=m * i.size) (hnews:∀ (j:Nat) (u:Value),news[j]? = some u→w.cell? (a.add j)=some u) (h1:∀ u∈news,u.oneCell'=true)
 (hroom:n+m≤cap) (hfit:o+n * i.size+news.length≤cur.size) :
 (Builtin.append_ #[t,t] ty #[.slice (some ⟨gb,o,none⟩) n cap,.slice (some a) m c]).run P w=.ok (.slice (some ⟨gb,o,none⟩) (n+m) cap) (w.setCells gb (o+n * i.size) news):=by
 have hf:=run_firstCells_some (P:=P) w i.size m a m c news hl hnews
 have hst:=run_storeCells_cells (P:=P) gb (o+n * i.size) news 0 w (fun j hj=>by have:o+n * i.size+0+j < cur.size:=(by omega);simp [World.cell?,hgb]; omega) (fun j _=>by simp [World.frozen?,hgb]) h1
 simp only [Nat.add_zero] at hst
 simp [Builtin.append_,run_underlying ht,sizeOf,typeInfo,hi,Builtin.lenOf,hroom,hf,Addr.add_mid,hst]
theorem LOp.append {t e sz by_:Nat} {s x:Operand} {z:Value} {fp:List Nat} {id ver len m:Nat} {b:Blk} {news:List AV} (ht:P.underlying t=some (.slice e)) (hs:sizeInfo P e=some sz) (hz:zeroOf P e=some z) (hby:(P.info? e).map (·.bytes)=some by_) (hzs:z.cells.size=sz)
 (hx:aev τ s=.sl id ver 0 len) (hb:η id=some b) (hv:b.ver=ver) (hn:b.nilp=false) (hez:b.esz=sz) (hlen:len * sz≤b.cs.length) (hsrc:Src η fp (aev τ x) m news) (hnl:news.length=m * sz) (h1:news.all AV.one=true)
 (hmax:(len+m) * by_≤140737488355328) (hmax2:len+m≤140737488355328) (htv:ver+1≠TV) :
 LOp P ⟨d,.call { callee:=.builtin .append,args:=#[s,x],argTypes:=#[t,t] },ty,pos,af,g⟩ τ η (id :: fp) [(id,some ⟨ver+1,b.cs.take (len * sz)++news,sz,false⟩)] (.sl id (ver+1) 0 (len+m)):=by
 intro C a hg hxs hfp _ K Q hK
 unfold sizeInfo at hs
 unfold zeroOf at hz
 cases hi:P.info? e with
 | none=>rw [hi] at hz; cases hz
 | some inf=>
  rw [hi] at hz hs hby
  simp only [Option.bind_some] at hz
  simp only [Option.map_some,Option.some.injEq] at hs hby
  subst hs; subst hby
  have hb':C.η id=some b:=(hfp id (by simp)).trans hb
  have e1:=hxs s (by simp [Op.operands,Call.operands])
  rw [hx] at e1
  obtain ⟨ad,cap,e2,c1,c2,c3,c4⟩:=e1.sl_inv hb' hv hn
  have e3:=hsrc C hg (fun i hi=>hfp i (by simp [hi])) _ (hxs x (by simp [Op.operands,Call.operands]))
  obtain ⟨cs,t',g1,g2,g3,g4⟩:=hg.blk hb' hn
  have hU:C.U id:=hg.used hb'
  have hfin:∀ (r:Nat×Nat) (zz:Nat) (w':World) (v:Value),(Builtin.append_ #[t,t] ty #[a.eval s,a.eval x]).run P C.w=.ok v w'→ReplOk C id r zz ⟨ver+1,b.cs.take (len * inf.size)++news,inf.size,false⟩ w' →
   VR (C.repl id r zz ⟨ver+1,b.cs.take (len * inf.size)++news,inf.size,false⟩ w') (.sl id (ver+1) 0 (len+m)) v→(⟨d,.call { callee:=.builtin .append,args:=#[s,x],argTypes:=#[t,t] },ty,pos,af,g⟩:Oper).wp P a C.w K Q:=by
   intro r zz w' v hr hok hvr
   unfold Oper.wp
   rw [exec_append C.w hr]
   exact hK v (C.repl id r zz _ w') rfl (fun i=>by simp [Ctx.repl]) (Ctx.repl_good hg hok) (Ctx.repl_ev hg hok) hvr
  have htl:(b.cs.take (len * inf.size)).length=len * inf.size:=by simp; omega
  -- nothing is appended,or the slice has room
  have hroomcase:∀ (vals:List Value) (w':World),vals.length=news.length→(∀ j (h:j < news.length) (h':j < vals.length),VR C news[j] vals[j])→w'=C.w.setCells (C.ρ id).1 ((C.ρ id).2+len * inf.size) vals→(C.ρ id).2+len * inf.size+news.length≤cs.size →
   ReplOk C id (C.ρ id) (C.sz id) ⟨ver+1,b.cs.take (len * inf.size)++news,inf.size,false⟩ w':=by
   intro vals w' hvl hvv hw hfit
   subst hw
   obtain ⟨r1,r2,r3,r4⟩:=setCells_rest vals C.w (C.ρ id).1 ((C.ρ id).2+len * inf.size)
   refine ⟨r1,r2,r3,by rw [r4]; exact Nat.le_refl _,fun k _ hk=>setCells_other _ _ _ _ _ hk,.inl ⟨b,hb',hn,rfl⟩,fun _=>⟨b,hb',by simp [hv]⟩,rfl,fun e=>absurd e htv,setR cs ((C.ρ id).2+len * inf.size) vals,t',setCells_heap _ _ _ _ _ _ g1,by rw [setR_size]; exact g2,by rw [setR_size]; simp [htl]; omega,?_⟩
   intro j hj hj'
   have hjl:j < len * inf.size+news.length:=by simpa [htl] using hj
   have hjc:(C.ρ id).2+j < cs.size:=by rw [setR_size] at hj'; exact hj'
   by_cases hlt:j < len * inf.size
   ·have e4:(b.cs.take (len * inf.size)++news)[j]=b.cs[j]'(by omega):=by
     rw [List.getElem_append_left (by omega)]; simp
    have e5:(setR cs ((C.ρ id).2+len * inf.size) vals)[(C.ρ id).2+j]'hj'=cs[(C.ρ id).2+j]:=by
     have:=setR_out vals cs ((C.ρ id).2+len * inf.size) ((C.ρ id).2+j) (by omega)
     rw [Array.getElem?_eq_getElem hj',Array.getElem?_eq_getElem hjc] at this
     exact Option.some.inj this
    simp only [e4,e5]
    exact g4 j (by omega) hjc
   ·obtain ⟨q,rfl⟩:∃ q,j=len * inf.size+q:=⟨j - len * inf.size,by omega⟩
    have hq:q < news.length:=by omega
    have e4:(b.cs.take (len * inf.size)++news)[len * inf.size+q]=news[q]:=by
     have:(b.cs.take (len * inf.size)++news)[len * inf.size+q]? = news[q]?:=by
      rw [List.getElem?_append_right (by omega)]
      congr 1
      omega
     rw [List.getElem?_eq_getElem hj,List.getElem?_eq_getElem hq] at this
     exact Option.some.inj this
    have e5:(setR cs ((C.ρ id).2+len * inf.size) vals)[(C.ρ id).2+(len * inf.size+q)]'hj'=vals[q]'(by omega):=by
     have:=setR_in vals cs ((C.ρ id).2+len * inf.size) q (by omega) (by omega)
     rw [Nat.add_assoc,Array.getElem?_eq_getElem hj',List.getElem?_eq_getElem (by omega)] at this
     exact Option.some.inj this
    simp only [e4,e5]
    exact hvv q hq (by omega)
  rcases e3 with ⟨rfl,rfl,ad2,c',hx2⟩ | ⟨ad2,c',vals,hx2,v1,v2,v3⟩
  ·-- nothing
   have hr:=run_append_zero (P:=P) (ty:=ty) ht hi C.w (some ad) ad2 len cap c' c1
   rw [← e2,← hx2] at hr
   have hok:=hroomcase [] C.w rfl (fun j h=>by simp at h) rfl (by simp; omega)
   refine hfin _ _ _ _ (by rw [e2] at hr ⊢; exact hr) hok ?_
   have hset:(C.repl id (C.ρ id) (C.sz id) ⟨ver+1,b.cs.take (len * inf.size)++[],inf.size,false⟩ C.w).η id=some ⟨ver+1,b.cs.take (len * inf.size)++[],inf.size,false⟩:=Heap.set_same _ _ _
   rcases c4 with ⟨h0,h0'⟩ | ⟨rfl,c4⟩
   ·subst h0; subst h0'
    exact VR.slz hset rfl rfl
   ·have:=VR.sl (C:=C.repl id (C.ρ id) (C.sz id) ⟨ver+1,b.cs.take (len * inf.size)++[],inf.size,false⟩ C.w) (id:=id) (ver:=ver+1) (off:=0) (len:=len) (cap:=cap) hset rfl rfl c1 c2 c3 (by simp only [Ctx.repl,if_true]; rw [← hez]; exact c4)
    simpa [Ctx.repl] using this
  ·have hvone:∀ u∈vals,u.oneCell'=true:=by
    intro u hu
    obtain ⟨j,hj,rfl⟩:=List.getElem_of_mem hu
    exact (v3 j (by omega) hj).one (List.all_eq_true.1 h1 _ (List.getElem_mem _))
   have hvl:vals.length=m * inf.size:=by omega
   have htot:(vals.length:Nat)=news.length:=v1
   by_cases hroom:len+m≤cap
   ·by_cases hdeg:len=0∧cap=0
    ·-- nothing after all
     obtain ⟨rfl,rfl⟩:=hdeg
     have hm0:m=0:=by omega
     subst hm0
     have hn0:news=[]:=List.eq_nil_of_length_eq_zero (by omega)
     subst hn0
     have hr:=run_append_zero (P:=P) (ty:=ty) ht hi C.w (some ad) (some ad2) 0 0 c' (Nat.le_refl _)
     rw [← e2,← hx2] at hr
     have hok:=hroomcase [] C.w rfl (fun j h=>by simp at h) rfl (by simp; omega)
     refine hfin _ _ _ _ (by rw [e2] at hr ⊢; exact hr) hok ?_
     exact VR.slz (b:=⟨ver+1,b.cs.take (0 * inf.size)++[],inf.size,false⟩) (Heap.set_same _ _ _) rfl rfl
    ·rcases c4 with h | ⟨rfl,c4⟩
     ·exact absurd h hdeg
     have hmul:(len+m) * inf.size≤cap * inf.size:=Nat.mul_le_mul_right _ hroom
     rw [Nat.add_mul] at hmul
     have hfit:(C.ρ id).2+len * inf.size+news.length≤cs.size:=by rw [hez] at c4; omega
     have hr:=run_append_mid (P:=P) (ty:=ty) ht hi C.w (C.ρ id).1 ((C.ρ id).2+0) len cap cs t' g1 ad2 m c' vals hvl v2 hvone hroom (by omega)
     rw [← e2,← hx2] at hr
     have hok:=hroomcase vals _ v1 v3 rfl hfit
     refine hfin _ _ _ _ (by rw [Nat.add_zero] at hr; exact hr) hok ?_
     have:=VR.sl (C:=C.repl id (C.ρ id) (C.sz id) ⟨ver+1,b.cs.take (len * inf.size)++news,inf.size,false⟩ (C.w.setCells (C.ρ id).1 ((C.ρ id).2+len * inf.size) vals)) (id:=id) (ver:=ver+1) (off:=0) (len:=len+m) (cap:=cap) (b:=⟨ver+1,b.cs.take (len * inf.size)++news,inf.size,false⟩) (Heap.set_same _ _ _) rfl rfl hroom c2 hmax2
      (by simp only [Ctx.repl,if_true]; rw [← hez]; exact c4)
     simpa [Ctx.repl] using this
   ·-- a new row
    obtain ⟨f,hf⟩:=choose_cells (n:=len * inf.size) (p:=fun j y=>C.w.cell? ⟨(C.ρ id).1,(C.ρ id).2+j,none⟩=some y∧∀ h:j < b.cs.length,VR C b.cs[j] y) (fun j hj=>by
     obtain ⟨y,hy,hvy⟩:=hg.cell hb' hn (j:=j) (by omega)
     exact ⟨y,hy,fun _=>hvy⟩)
    have holds:∀ (j:Nat) (u:Value),((List.range (len * inf.size)).map f)[j]? = some u→C.w.cell? (ad.add j)=some u:=by
     intro j u hj
     obtain ⟨hlt,he⟩:=List.getElem?_eq_some_iff.1 hj
     simp only [List.getElem_map,List.getElem_range] at he
     subst he
     have hlt':j < len * inf.size:=by simpa using hlt
     rcases c4 with ⟨h0,_⟩ | ⟨rfl,_⟩
     ·subst h0; simp at hlt'
     ·rw [Addr.add_mid,Nat.add_zero]
      exact (hf j hlt').1
    have hlt:cap < len+m:=by omega
    have hr:=run_append_grow (P:=P) C.w t ty e inf z ht hi hz ad len cap ((List.range (len * inf.size)).map f) (by simp) holds ad2 m c' vals hvl v2 hlt (by omega) (growslice_fits hlt hmax)
    rw [← e2,← hx2] at hr
    have hge:=grownCap_ge C.w (len+m) cap e
    have hmx:len+m≤maxLen:=by unfold maxLen; omega
    have hcm:grownCap C.w (len+m) cap e≤maxLen:=grownCap_le_maxLen C.w (len+m) cap e hmx
    generalize hcell:(((List.range (len * inf.size)).map f).toArray++vals.toArray++Builtin.zeroCells z.cells (grownCap C.w (len+m) cap e - (len+m)))=nc at hr
    have hncs:nc.size=grownCap C.w (len+m) cap e * inf.size:=by
     rw [← hcell]
     simp only [Array.size_append,List.size_toArray,List.length_map,List.length_range,size_zeroCells,hzs,hvl,← Nat.add_mul]
     congr 1
     omega
    have hget:∀ j (h:j < (b.cs.take (len * inf.size)++news).length) (h':j < nc.size),VR C (b.cs.take (len * inf.size)++news)[j] nc[j]:=by
     intro j hj hj'
     have hjl:j < len * inf.size+news.length:=by simpa [htl] using hj
     have hnj:nc[j]? = (((List.range (len * inf.size)).map f)++vals)[j]?:=by
      rw [← hcell,Array.getElem?_append_left (by simp; omega)]
      simp
     rw [Array.getElem?_eq_getElem hj'] at hnj
     by_cases hlt:j < len * inf.size
     ·have e4:(b.cs.take (len * inf.size)++news)[j]=b.cs[j]'(by omega):=by
       rw [List.getElem_append_left (by omega)]; simp
      rw [List.getElem?_append_left (by simpa using hlt)] at hnj
      simp only [List.getElem?_map,List.getElem?_range hlt,Option.map_some,Option.some.injEq] at hnj
      rw [e4,hnj]
      exact (hf j hlt).2 (by omega)
     ·obtain ⟨q,rfl⟩:∃ q,j=len * inf.size+q:=⟨j - len * inf.size,by omega⟩
      have hq:q < news.length:=by omega
      have e4:(b.cs.take (len * inf.size)++news)[len * inf.size+q]=news[q]:=by
       have:(b.cs.take (len * inf.size)++news)[len * inf.size+q]? = news[q]?:=by
        rw [List.getElem?_append_right (by omega)]
        congr 1
        omega
       rw [List.getElem?_eq_getElem hj,List.getElem?_eq_getElem hq] at this
       exact Option.some.inj this
      rw [List.getElem?_append_right (by simp)] at hnj
      simp only [List.length_map,List.length_range,Nat.add_sub_cancel_left] at hnj
      rw [List.getElem?_eq_getElem (by omega)] at hnj
      rw [e4,Option.some.inj hnj]
      exact v3 q hq (by omega)
    have hwh:(C.w.drew.alloc (.cells nc e)).heap[C.w.heap.size]? = some (.cells nc e (0,0)):=heap_alloc_new C.w.drew _
    have hok:ReplOk C id (C.w.heap.size,0) nc.size ⟨ver+1,b.cs.take (len * inf.size)++news,inf.size,false⟩ (C.w.drew.alloc (.cells nc e)):=by
     refine ⟨rfl,rfl,rfl,by simp,fun k hk _=>Below.heap_alloc C.w.drew _ k hk,.inr (Nat.le_refl _),fun _=>⟨b,hb',by simp [hv]⟩,rfl,fun e=>absurd e htv,nc,e,hwh,rfl,?_,fun j h h'=>?_⟩
     ·rw [hncs]
      have:(len+m) * inf.size≤grownCap C.w (len+m) cap e * inf.size:=Nat.mul_le_mul_right _ hge
      rw [Nat.add_mul] at this
      simp [htl]; omega
     ·have:=hget j h (by simpa using h')
      simpa using this
    refine hfin _ _ _ _ hr hok ?_
    have:=VR.sl (C:=C.repl id (C.w.heap.size,0) nc.size ⟨ver+1,b.cs.take (len * inf.size)++news,inf.size,false⟩ (C.w.drew.alloc (.cells nc e))) (id:=id) (ver:=ver+1) (off:=0) (len:=len+m) (cap:=grownCap C.w (len+m) cap e) (b:=⟨ver+1,b.cs.take (len * inf.size)++news,inf.size,false⟩) (Heap.set_same _ _ _) rfl rfl hge hcm hmax2
     (by simp [Ctx.repl,hncs])
    simpa [Ctx.repl] using this
end
end Go.Proofs.YtbhhmbchdponjaaGreatDoor
namespace Go.Proofs.YtbhhmbchdponjaaGreatDoor
set_option linter.unusedVariables false
set_option linter.unusedSimpArgs false
open Go.RowKit
section
variable {P:Program} {τ:Nat→AV} {η:Heap} {d:Option Tmp} {ty:TypeId} {pos:String} {af:Array Edge} {g:Option (Nat×Bool)}
theorem VR.slnil_inv {C:Ctx} {id ver len:Nat} {b:Blk} {x:Value} (h:VR C (.sl id ver 0 len) x) (hb:C.η id=some b) (hv:b.ver=ver) (hn:b.nilp=true):x=.slice none 0 0∧len=0∧b.cs=[]:=by
 cases h with
 | imm h=>cases h
 | sl hb' _ hn'=>rw [hb] at hb'; cases hb'; rw [hn] at hn'; cases hn'
 | slz hb' _ hn'=>rw [hb] at hb'; cases hb'; rw [hn] at hn'; cases hn'
 | slnil hb' _ hk=>rw [hb] at hb'; cases hb'; exact ⟨rfl,rfl,(Blk.nil1 hk).2⟩
 | stales _ _ hs=>have:=hs b hb; omega
theorem append_new {C:Ctx} (hg:Good C) {t e sz by_:Nat} {inf:TypeInfo} {z:Value} {id w m:Nat} {news:List AV} {vals:List Value} {ad:Addr} {c:Nat} (ht:P.underlying t=some (.slice e)) (hi:P.info? e=some inf) (hz:inf.zero=some z) (hzs:z.cells.size=inf.size)
 (hm:0 < m) (hvl:vals.length=m * inf.size) (v1:vals.length=news.length) (v2:∀ (j:Nat) (u:Value),vals[j]? = some u→C.w.cell? (ad.add j)=some u) (v3:∀ j (h:j < news.length) (h':j < vals.length),VR C news[j] vals[j])
 (hmax:m * inf.bytes≤140737488355328) (hmax2:m≤140737488355328) (hver:C.U id→∃ b0,C.η id=some b0∧b0.ver < w) (htv:w≠TV) :
 ∃ r zz w' v,(Builtin.append_ #[t,t] ty #[.slice none 0 0,.slice (some ad) m c]).run P C.w=.ok v w'∧ReplOk C id r zz ⟨w,news,inf.size,false⟩ w'∧VR (C.repl id r zz ⟨w,news,inf.size,false⟩ w') (.sl id w 0 m) v:=by
 have hr:=run_append_nil (P:=P) C.w t ty e inf z ht hi hz ad m c vals hvl v2 hm (by omega) (by omega)
 have hge:=grownCap_ge C.w m 0 e
 have hmx:m≤maxLen:=by unfold maxLen; omega
 have hcm:grownCap C.w m 0 e≤maxLen:=grownCap_le_maxLen C.w m 0 e hmx
 generalize hcell:(vals.toArray++Builtin.zeroCells z.cells (grownCap C.w m 0 e - m))=nc at hr
 have hncs:nc.size=grownCap C.w m 0 e * inf.size:=by rw [← hcell];simp only [Array.size_append,List.size_toArray,size_zeroCells,hzs,hvl,← Nat.add_mul];congr 1;omega
 have hle:m * inf.size≤grownCap C.w m 0 e * inf.size:=Nat.mul_le_mul_right _ hge
 have hget:∀ j (h:j < news.length) (h':j < nc.size),VR C news[j] nc[j]:=by intro j hj hj';have hnj:nc[j]? = vals[j]?:=(by rw [← hcell,Array.getElem?_append_left (by simp; omega)];simp);rw [Array.getElem?_eq_getElem hj',List.getElem?_eq_getElem (by omega)] at hnj;rw [Option.some.inj hnj];exact v3 j hj (by omega)
 have hwh:(C.w.drew.alloc (.cells nc e)).heap[C.w.heap.size]? = some (.cells nc e (0,0)):=heap_alloc_new C.w.drew _
 refine ⟨(C.w.heap.size,0),nc.size,_,_,hr,⟨rfl,rfl,rfl,by simp,fun k hk _=>Below.heap_alloc C.w.drew _ k hk,.inr (Nat.le_refl _),hver,rfl,fun e=>absurd e htv,nc,e,hwh,rfl,by rw [hncs]; simp; omega,fun j h h'=>by have:=hget j h (by simpa using h'); simpa using this⟩,?_⟩
 have:=VR.sl (C:=C.repl id (C.w.heap.size,0) nc.size ⟨w,news,inf.size,false⟩ (C.w.drew.alloc (.cells nc e))) (id:=id) (ver:=w) (off:=0) (len:=m) (cap:=grownCap C.w m 0 e) (b:=⟨w,news,inf.size,false⟩) (Heap.set_same _ _ _) rfl rfl hge hcm hmax2
  (by simp [Ctx.repl,hncs])
 simpa [Ctx.repl] using this
theorem LOp.append_of {t sz m:Nat} {s x:Operand} {fp:List Nat} {id w:Nat} {news:List AV} (hfid:True)
 (h:∀ (C:Ctx) (a:Act),Good C→(∀ q∈(Oper.mk d (.call { callee:=.builtin .append,args:=#[s,x],argTypes:=#[t,t] }) ty pos af g).op.operands,VR C (aev τ q) (a.eval q))→(∀ id∈fp,C.η id=η id)→(id∉fp→¬ C.U id) →
  ∃ r zz w' v,(Builtin.append_ #[t,t] ty #[a.eval s,a.eval x]).run P C.w=.ok v w'∧ReplOk C id r zz ⟨w,news,sz,false⟩ w'∧VR (C.repl id r zz ⟨w,news,sz,false⟩ w') (.sl id w 0 m) v) :
 LOp P ⟨d,.call { callee:=.builtin .append,args:=#[s,x],argTypes:=#[t,t] },ty,pos,af,g⟩ τ η fp [(id,some ⟨w,news,sz,false⟩)] (.sl id w 0 m):=by
 intro C a hg hxs hfp hnew K Q hK
 obtain ⟨r,zz,w',v,hr,hok,hvr⟩:=h C a hg hxs hfp (fun h=>hnew (id,some ⟨w,news,sz,false⟩) (by simp) h)
 unfold Oper.wp
 rw [exec_append C.w hr]
 exact hK v (C.repl id r zz _ w') rfl (fun i=>by simp [Ctx.repl]) (Ctx.repl_good hg hok) (Ctx.repl_ev hg hok) hvr
theorem LOp.appendN {u t e sz by_ m:Nat} {s x:Operand} {z:Value} {fp:List Nat} {news:List AV} (ht:P.underlying t=some (.slice e)) (hs:sizeInfo P e=some sz) (hz:zeroOf P e=some z) (hby:(P.info? e).map (·.bytes)=some by_) (hzs:z.cells.size=sz)
 (hx:aev τ s=.v (.slice none 0 0)) (hu:u∉fp) (hsrc:Src η fp (aev τ x) m news) (hm:0 < m) (hnl:news.length=m * sz) (hmax:m * by_≤140737488355328) (hmax2:m≤140737488355328) :
 LOp P ⟨d,.call { callee:=.builtin .append,args:=#[s,x],argTypes:=#[t,t] },ty,pos,af,g⟩ τ η fp [(u,some ⟨0,news,sz,false⟩)] (.sl u 0 0 m) :=
 .append_of trivial fun C a hg hxs hfp hnew=>by
  unfold sizeInfo at hs
  unfold zeroOf at hz
  cases hi:P.info? e with
  | none=>rw [hi] at hz; cases hz
  | some inf=>
   rw [hi] at hz hs hby
   simp only [Option.bind_some] at hz
   simp only [Option.map_some,Option.some.injEq] at hs hby
   subst hs; subst hby
   have e1:=hxs s (by simp [Op.operands,Call.operands])
   rw [hx] at e1
   rcases hsrc C hg hfp _ (hxs x (by simp [Op.operands,Call.operands])) with ⟨h0,_⟩ | ⟨ad,c,vals,hx2,v1,v2,v3⟩
   ·omega
   ·rw [e1.v_inv,hx2]
    exact append_new (by_:=inf.bytes) (sz:=inf.size) hg ht hi hz hzs hm (by omega) v1 v2 v3 hmax hmax2 (fun h=>absurd h (hnew hu)) (by decide)
theorem LOp.appendA {t e sz by_:Nat} {s x:Operand} {z:Value} {fp:List Nat} {id ver len m:Nat} {w:Nat} {cs news:List AV} {np:Bool} (ht:P.underlying t=some (.slice e)) (hs:sizeInfo P e=some sz) (hz:zeroOf P e=some z) (hby:(P.info? e).map (·.bytes)=some by_) (hzs:z.cells.size=sz)
 (hx:aev τ s=.sl id ver 0 len) (hb:η id=some ⟨w,cs,sz,np⟩) (hv:w=ver) (hlen:cs.length=len * sz) (hsrc:Src η fp (aev τ x) m news) (hm:0 < m) (hnl:news.length=m * sz) (h1:news.all AV.one=true)
 (hmax:(len+m) * by_≤140737488355328) (hmax2:len+m≤140737488355328) (htv:ver+1≠TV:=by decide) :
 LOp P ⟨d,.call { callee:=.builtin .append,args:=#[s,x],argTypes:=#[t,t] },ty,pos,af,g⟩ τ η (id :: fp) [(id,some ⟨ver+1,cs++news,sz,false⟩)] (.sl id (ver+1) 0 (len+m)):=by
 cases np with
 | false=>
  have:=LOp.append (P:=P) (τ:=τ) (η:=η) (d:=d) (ty:=ty) (pos:=pos) (af:=af) (g:=g) (x:=x) ht hs hz hby hzs hx hb hv rfl rfl (Nat.le_of_eq hlen.symm) hsrc hnl h1 hmax hmax2 htv
  rw [← hlen,List.take_length] at this
  exact this
 | true=>
  intro C a hg hxs hfp hnew K Q hK
  have hb':C.η id=some ⟨w,cs,sz,true⟩:=(hfp id (by simp)).trans hb
  have e1:=hxs s (by simp [Op.operands,Call.operands])
  rw [hx] at e1
  obtain ⟨e2,rfl,hcs⟩:=e1.slnil_inv hb' hv rfl
  simp only at hcs
  subst hcs
  refine LOp.append_of (P:=P) (τ:=τ) (η:=η) (d:=d) (ty:=ty) (pos:=pos) (af:=af) (g:=g) (t:=t) (sz:=sz) (s:=s) (x:=x) (news:=[]++news) (fp:=id :: fp) (id:=id) (w:=ver+1) (m:=0+m) trivial (fun C a hg hxs hfp _=>?_) C a hg hxs hfp hnew K Q hK
  have hb':C.η id=some ⟨w,[],sz,true⟩:=(hfp id (by simp)).trans hb
  have e1:=hxs s (by simp [Op.operands,Call.operands])
  rw [hx] at e1
  obtain ⟨e2,_,_⟩:=e1.slnil_inv hb' hv rfl
  unfold sizeInfo at hs
  unfold zeroOf at hz
  cases hi:P.info? e with
  | none=>rw [hi] at hz; cases hz
  | some inf=>
   rw [hi] at hz hs hby
   simp only [Option.bind_some] at hz
   simp only [Option.map_some,Option.some.injEq] at hs hby
   subst hs; subst hby
   rcases hsrc C hg (fun i hi=>hfp i (by simp [hi])) _ (hxs x (by simp [Op.operands,Call.operands])) with ⟨h0,_⟩ | ⟨ad,c,vals,hx2,v1,v2,v3⟩
   ·omega
   ·rw [e2,hx2]
    simp only [List.nil_append,Nat.zero_add] at *
    exact append_new (by_:=inf.bytes) (sz:=inf.size) hg ht hi hz hzs hm (by omega) v1 v2 v3 hmax hmax2 (fun _=>⟨_,hb',by simp [hv]⟩) htv
theorem LOp.appendT {u t e sz by_:Nat} {s x:Operand} {z:Value} {fp:List Nat} {id len m:Nat} {b:Blk} {news:List AV} (ht:P.underlying t=some (.slice e)) (hs:sizeInfo P e=some sz) (hz:zeroOf P e=some z) (hby:(P.info? e).map (·.bytes)=some by_) (hzs:z.cells.size=sz)
 (hx:aev τ s=.sl id TV 0 len) (hb:η id=some b) (hv:b.ver=TV) (hn:b.nilp=false) (hez:b.esz=sz) (hsz:0 < sz) (hlen:len * sz=b.cs.length) (hpos:0 < len) (hu:u∉id :: fp) (hsrc:Src η fp (aev τ x) m news) (hm:0 < m) (hnl:news.length=m * sz)
 (hmax:(len+m) * by_≤140737488355328) (hmax2:len+m≤140737488355328) :
 LOp P ⟨d,.call { callee:=.builtin .append,args:=#[s,x],argTypes:=#[t,t] },ty,pos,af,g⟩ τ η (id :: fp) [(u,some ⟨0,b.cs.take (len * sz)++news,sz,false⟩)] (.sl u 0 0 (len+m)):=by
 refine LOp.append_of (P:=P) (τ:=τ) (η:=η) (d:=d) (ty:=ty) (pos:=pos) (af:=af) (g:=g) (t:=t) (sz:=sz) (s:=s) (x:=x) (news:=b.cs.take (len * sz)++news) (fp:=id :: fp) (id:=u) (w:=0) (m:=len+m) trivial (fun C a hg hxs hfp hnew=>?_)
 have hU:¬ C.U u:=hnew hu
 have hb':C.η id=some b:=(hfp id (by simp)).trans hb
 have e1:=hxs s (by simp [Op.operands,Call.operands])
 rw [hx] at e1
 obtain ⟨ad,cap,e2,c1,c2,c3,c4⟩:=e1.sl_inv hb' hv hn
 have htight:=hg.tight hb' hv hn
 unfold sizeInfo at hs
 unfold zeroOf at hz
 cases hi:P.info? e with
 | none=>rw [hi] at hz; cases hz
 | some inf=>
  rw [hi] at hz hs hby
  simp only [Option.bind_some] at hz
  simp only [Option.map_some,Option.some.injEq] at hs hby
  subst hs; subst hby
  have htl:(b.cs.take (len * inf.size)).length=len * inf.size:=by simp; omega
  have hcap:cap=len:=by rcases c4 with ⟨h0,_⟩ | ⟨_,c4⟩;omega;rw [htight,hez,← hlen] at c4;have h5:cap * inf.size≤len * inf.size:=(by omega);have h6:cap≤len:=Nat.le_of_mul_le_mul_right h5 hsz;omega
  rcases hsrc C hg (fun i hi=>hfp i (by simp [hi])) _ (hxs x (by simp [Op.operands,Call.operands])) with ⟨h0,_⟩ | ⟨ad2,c',vals,hx2,v1,v2,v3⟩
  ·omega
  ·have hvl:vals.length=m * inf.size:=by omega
   obtain ⟨f,hf⟩:=choose_cells (n:=len * inf.size) (p:=fun j y=>C.w.cell? ⟨(C.ρ id).1,(C.ρ id).2+j,none⟩=some y∧∀ h:j < b.cs.length,VR C b.cs[j] y) (fun j hj=>by obtain ⟨y,hy,hvy⟩:=hg.cell hb' hn (j:=j) (by omega);exact ⟨y,hy,fun _=>hvy⟩)
   have holds:∀ (j:Nat) (u:Value),((List.range (len * inf.size)).map f)[j]? = some u→C.w.cell? (ad.add j)=some u:=by intro j u hj;obtain ⟨hlt,he⟩:=List.getElem?_eq_some_iff.1 hj;simp only [List.getElem_map,List.getElem_range] at he;subst he;have hlt':j < len * inf.size:=(by simpa using hlt);rcases c4 with ⟨h0,_⟩ | ⟨rfl,_⟩;subst h0;simp at hlt';rw [Addr.add_mid,Nat.add_zero];exact (hf j hlt').1
   have hlt:cap < len+m:=by omega
   have hr:=run_append_grow (P:=P) C.w t ty e inf z ht hi hz ad len cap ((List.range (len * inf.size)).map f) (by simp) holds ad2 m c' vals hvl v2 hlt (by omega) (growslice_fits hlt hmax)
   rw [← e2,← hx2] at hr
   have hge:=grownCap_ge C.w (len+m) cap e
   have hmx:len+m≤maxLen:=by unfold maxLen; omega
   have hcm:grownCap C.w (len+m) cap e≤maxLen:=grownCap_le_maxLen C.w (len+m) cap e hmx
   generalize hcell:(((List.range (len * inf.size)).map f).toArray++vals.toArray++Builtin.zeroCells z.cells (grownCap C.w (len+m) cap e - (len+m)))=nc at hr
   have hncs:nc.size=grownCap C.w (len+m) cap e * inf.size:=by rw [← hcell];simp only [Array.size_append,List.size_toArray,List.length_map,List.length_range,size_zeroCells,hzs,hvl,← Nat.add_mul];congr 1;omega
   have hget:∀ j (h:j < (b.cs.take (len * inf.size)++news).length) (h':j < nc.size),VR C (b.cs.take (len * inf.size)++news)[j] nc[j]:=by intro j hj hj';have hjl:j < len * inf.size+news.length:=(by simpa [htl] using hj);have hnj:nc[j]? = (((List.range (len * inf.size)).map f)++vals)[j]?:=(by rw [← hcell,Array.getElem?_append_left (by simp; omega)];simp);rw [Array.getElem?_eq_getElem hj'] at hnj;by_cases hlt:j < len * inf.size;have e4:(b.cs.take (len * inf.size)++news)[j]=b.cs[j]'(by omega):=(by rw [List.getElem_append_left (by omega)];simp);rw [List.getElem?_append_left (by simpa using hlt)] at hnj;simp only [List.getElem?_map,List.getElem?_range hlt,Option.map_some,Option.some.injEq] at hnj;rw [e4,hnj];exact (hf j hlt).2 (by omega);obtain ⟨q,rfl⟩:∃ q,j=len * inf.size+q:=⟨j - len * inf.size,by omega⟩;have hq:q < news.length:=(by omega);have e4:(b.cs.take (len * inf.size)++news)[len * inf.size+q]=news[q]:=(by have:(b.cs.take (len * inf.size)++news)[len * inf.size+q]? = news[q]?:=(by rw [List.getElem?_append_right (by omega)];congr 1;omega);rw [List.getElem?_eq_getElem hj,List.getElem?_eq_getElem hq] at this;exact Option.some.inj this);rw [List.getElem?_append_right (by simp)] at hnj;simp only [List.length_map,List.length_range,Nat.add_sub_cancel_left] at hnj;rw [List.getElem?_eq_getElem (by omega)] at hnj;rw [e4,Option.some.inj hnj];exact v3 q hq (by omega)
   have hwh:(C.w.drew.alloc (.cells nc e)).heap[C.w.heap.size]? = some (.cells nc e (0,0)):=heap_alloc_new C.w.drew _
   have hok:ReplOk C u (C.w.heap.size,0) nc.size ⟨0,b.cs.take (len * inf.size)++news,inf.size,false⟩ (C.w.drew.alloc (.cells nc e)):=⟨rfl,rfl,rfl,by simp,fun k hk _=>Below.heap_alloc C.w.drew _ k hk,.inr (Nat.le_refl _),fun h=>absurd h hU,rfl,fun e=>absurd e (by show ¬ ((0:Nat)=TV); decide),nc,e,hwh,rfl,by rw [hncs];have:(len+m) * inf.size≤grownCap C.w (len+m) cap e * inf.size:=Nat.mul_le_mul_right _ hge;rw [Nat.add_mul] at this;simp [htl];omega,fun j h h'=>by have:=hget j h (by simpa using h');simpa using this⟩
   refine ⟨(C.w.heap.size,0),nc.size,_,_,hr,hok,?_⟩
   have:=VR.sl (C:=C.repl u (C.w.heap.size,0) nc.size ⟨0,b.cs.take (len * inf.size)++news,inf.size,false⟩ (C.w.drew.alloc (.cells nc e))) (id:=u) (ver:=0) (off:=0) (len:=len+m) (cap:=grownCap C.w (len+m) cap e) (b:=⟨0,b.cs.take (len * inf.size)++news,inf.size,false⟩) (Heap.set_same _ _ _) rfl rfl hge hcm hmax2
    (by simp [Ctx.repl,hncs])
   simpa [Ctx.repl] using this
end
theorem SRel.lazy {N:Nat} {C:Ctx} {s:St} {a:Act} (h:SRel N C s a) (z:Nat) (ht:Nat.ble (s.u+1) TOP=true):∃ C',C'.w=C.w∧Fr C C'∧Good C'∧(∀ {v x},VR C v x→VR C' v x)∧VR C' (.sl s.u 0 0 0) (.slice none 0 0)∧C'.η=s.η.set s.u (some ⟨0,[],z,true⟩)∧(∀ id,C'.U id→id < s.u+1∨TOP≤id)∧C'.ρ=C.ρ∧C'.sz=C.sz∧C'.T=C.T:=by
 have hnu:¬ C.U s.u:=fun hu=>by have:=h.u _ hu; have:=Nat.le_of_ble_eq_true ht; omega
 let C':Ctx:={ C with η:=C.η.set s.u (some ⟨0,[],z,true⟩),U:=fun i=>C.U i∨i=s.u }
 have hl:∀ {i b'},C'.η i=some b'→(i=s.u∧b'=⟨0,[],z,true⟩)∨(i≠s.u∧C.η i=some b'):=by
  intro i b' hb';by_cases e:i=s.u;subst e; have:=hb'; simp only [C'] at this; rw [Heap.set_same] at this; cases this; exact .inl ⟨rfl,rfl⟩
  have:=hb';simp only [C'] at this;rw [Heap.set_other _ _ e] at this;exact .inr ⟨e,this⟩
 have hlive:∀ {i},C'.live i→C.live i:=by
  rintro i ⟨b',hb',hn'⟩;rcases hl hb' with ⟨_,rfl⟩ | ⟨_,hb'⟩;exact absurd rfl hn';exact ⟨b',hb',hn'⟩
 have hmine:∀ {k},C'.mine k→C.mine k:=fun ⟨i,h1,h2⟩=>⟨i,hlive h1,h2⟩
 have he:Ev C C':=by
  refine ⟨⟨rfl,rfl,rfl,Nat.le_refl _,fun _ _ _=>rfl,fun k hk=>.inl (hmine hk),fun _ h=>h,fun _ h=>.inl h⟩,fun _ h=>.inl h,fun i b' hid hb'=>?_⟩;rcases hl hb' with ⟨rfl,_⟩ | ⟨_,hb'⟩;exact absurd hid hnu;exact ⟨b',hb',Nat.le_refl _,fun _=>⟨rfl,rfl,rfl,rfl⟩⟩
 have hvr:∀ {v x},VR C v x→VR C' v x:=fun hv=>hv.mono h.good he
 have hg':Good C':=by
  refine ⟨?_,?_,?_,fun h1 h2 h3=>h.good.inj (hlive h1) (hlive h2) h3,h.good.tok,fun hk=>h.good.apart (hmine hk),fun hb' hv' hn'=>?_⟩;intro i b' hb';rcases hl hb' with ⟨rfl,_⟩ | ⟨_,hb'⟩;exact .inr rfl;exact .inl (h.good.used hb');intro i b' hb' hn';rcases hl hb' with ⟨_,rfl⟩ | ⟨_,hb'⟩;cases hn';obtain ⟨ob,h1,h2⟩:=h.good.obj hb' hn';exact ⟨ob,h1,h2.mono h.good he⟩;intro i b' hb' hn';rcases hl hb' with ⟨_,rfl⟩ | ⟨_,hb'⟩;cases hn';obtain ⟨c,t',g1,g2,g3,g4⟩:=h.good.blk hb' hn';exact ⟨c,t',g1,g2,g3,fun j hj hj'=>hvr (g4 j hj hj')⟩;rcases hl hb' with ⟨_,rfl⟩ | ⟨_,hb'⟩;cases hn';exact h.good.tight hb' hv' hn'
 refine ⟨C',rfl,he.toFr,hg',hvr,.slnil (b:=⟨0,[],z,true⟩) (Heap.set_same _ _ _) rfl rfl,by simp only [C',h.η],fun id hid=>?_,rfl,rfl,rfl⟩;rcases hid with h1 | h1;have:=h.u id h1
 omega;omega
section
variable {P:Program} {N:Nat} {Q:Exit→St→Prop} {τ:Nat→AV} {η:Heap} {u:Nat}
theorem AWP.lazyT {c:Code} (t z:Nat) (h:τ t=.v (.slice none 0 0)) (u':Nat) (hu:(Nat.beq u' (u+1)&&Nat.ble u' TOP)=true) (hc:AWP P N c Q ⟨upd τ t (.sl u 0 0 0),η.set u (some ⟨0,[],z,true⟩),u'⟩):AWP P N c Q ⟨τ,η,u⟩:=by
 obtain ⟨rfl,ht⟩:=nextId hu
 intro C a hr
 obtain ⟨C',hw,hf,hg,hv,hnil,hη,hU,_⟩:=hr.lazy z ht
 have hr':SRel N C' ⟨upd τ t (.sl u 0 0 0),η.set u (some ⟨0,[],z,true⟩),u+1⟩ a:=by
  refine ⟨hg,hη,hU,hr.defers,hr.size,fun q=>?_⟩
  by_cases e:q=t
  ·subst e
   have e1:upd τ q (.sl u 0 0 0) q=.sl u 0 0 0:=by simp [upd]
   have e2:=hr.τ q
   simp only at e2
   rw [h] at e2
   show VR C' (upd τ q (.sl u 0 0 0) q) _
   rw [e1,e2.v_inv]; exact hnil
  ·have e1:upd τ t (.sl u 0 0 0) q=τ q:=by
    have:Nat.beq q t=false:=by
     cases hb:Nat.beq q t with
     | false=>rfl
     | true=>exact absurd (Nat.eq_of_beq_eq_true hb) e
    simp [upd,this]
   show VR C' (upd τ t (.sl u 0 0 0) q) _
   rw [e1]; exact hv (hr.τ q)
 have:=hc C' a hr'
 rw [hw] at this
 exact Code.wp_mono (fun e a' w' ⟨s',C'',h1,h2,h3,h4⟩=>⟨s',C'',h1,h2,h3,hf.trans h4⟩) this
theorem AWP.lazyC {c:Code} (id j z:Nat) {w:Nat} {cs ds:List AV} {ez:Nat} {np:Bool} (h:η id=some ⟨w,cs,ez,np⟩) (hn:np=false) (hj:cs[j]? = some (.v (.slice none 0 0))) (hd:putAt j cs [.sl u 0 0 0]=some ds) (hid:lowId u id=true) (u':Nat) (hu:(Nat.beq u' (u+1)&&Nat.ble u' TOP)=true)
 (hc:AWP P N c Q ⟨τ,(η.set u (some ⟨0,[],z,true⟩)).set id (some ⟨w,ds,ez,np⟩),u'⟩):AWP P N c Q ⟨τ,η,u⟩:=by
 obtain ⟨rfl,ht⟩:=nextId hu
 subst hn
 intro C a hr
 obtain ⟨C',hw,hf,hg,hv,hnil,hη,hU,hρ,hsz,hT⟩:=hr.lazy z ht
 have hidu:id≠u:=by have:=lowId_iff.1 hid; have:=Nat.le_of_ble_eq_true ht; omega
 have hb:C.η id=some ⟨w,cs,ez,false⟩:=by rw [hr.η]; exact h
 have hb':C'.η id=some ⟨w,cs,ez,false⟩:=by rw [hη,Heap.set_other _ _ hidu]; exact h
 obtain ⟨p1,p2⟩:=putAt_eq _ _ _ _ hd
 have hjl:j < cs.length:=by simp only [List.length_cons,List.length_nil] at p1; omega
 have hdl:ds.length=cs.length:=by rw [p2]; exact setRange_length p1
 have hds:∀ i (hi:i < ds.length) (hi':i < cs.length),ds[i]=if i=j then .sl u 0 0 0 else cs[i]:=by
  intro i hi hi'
  have:ds[i]? = if i=j then some (.sl u 0 0 0) else cs[i]?:=by
   rw [p2];simp only [setRange,List.length_cons,List.length_nil];by_cases e:i=j;subst e;rw [if_pos rfl,List.getElem?_append_left (by simp; omega),List.getElem?_append_right (by simp; omega)];have:i - (cs.take i).length=0:=by simp; omega
   rw [this];rfl;rw [if_neg e];by_cases hlt:i < j;rw [List.getElem?_append_left (by simp; omega),List.getElem?_append_left (by simp; omega),List.getElem?_take_of_lt hlt];rw [List.getElem?_append_right (by simp; omega),List.getElem?_drop];congr 1;simp;omega
  rw [List.getElem?_eq_getElem hi] at this;by_cases e:i=j;rw [if_pos e] at this ⊢;exact Option.some.inj this;rw [if_neg e,List.getElem?_eq_getElem hi'] at this;rw [if_neg e];exact Option.some.inj this
 let C2:Ctx:={ C' with η:=C'.η.set id (some ⟨w,ds,ez,false⟩) }
 have hl:∀ {i b'},C2.η i=some b'→(i=id∧b'=⟨w,ds,ez,false⟩)∨(i≠id∧C'.η i=some b'):=by
  intro i b' hb';by_cases e:i=id;subst e; have:=hb'; simp only [C2] at this; rw [Heap.set_same] at this; cases this; exact .inl ⟨rfl,rfl⟩
  have:=hb';simp only [C2] at this;rw [Heap.set_other _ _ e] at this;exact .inr ⟨e,this⟩
 have hlive:∀ {i},C2.live i→C'.live i:=by rintro i ⟨b',hb2,hn'⟩;rcases hl hb2 with ⟨rfl,rfl⟩ | ⟨_,hb2⟩;exact ⟨_,hb',Blk.k0' rfl⟩;exact ⟨b',hb2,hn'⟩
 have hmine:∀ {k},C2.mine k→C'.mine k:=fun ⟨i,h1,h2⟩=>⟨i,hlive h1,h2⟩
 have he:Ev C' C2:=by refine ⟨⟨rfl,rfl,rfl,Nat.le_refl _,fun _ _ _=>rfl,fun k hk=>.inl (hmine hk),fun _ h=>h,fun _ h=>.inl h⟩,fun _ h=>h,fun i b' hid hb2=>?_⟩;rcases hl hb2 with ⟨rfl,rfl⟩ | ⟨_,hb2⟩;exact ⟨_,hb',Nat.le_refl _,fun _=>⟨rfl,rfl,rfl,rfl⟩⟩;exact ⟨b',hb2,Nat.le_refl _,fun _=>⟨rfl,rfl,rfl,rfl⟩⟩
 have hg2:Good C2:=by refine ⟨?_,?_,?_,fun h1 h2 h3=>hg.inj (hlive h1) (hlive h2) h3,hg.tok,fun hk=>hg.apart (hmine hk),fun hb2 hv' hn'=>?_⟩;intro i b' hb2;rcases hl hb2 with ⟨rfl,_⟩ | ⟨_,hb2⟩;exact hg.used hb';exact hg.used hb2;intro i b' hb2 hn';rcases hl hb2 with ⟨_,rfl⟩ | ⟨_,hb2⟩;cases hn';obtain ⟨ob,h1,h2⟩:=hg.obj hb2 hn';exact ⟨ob,h1,h2.mono hg he⟩;intro i b' hb2 hn';rcases hl hb2 with ⟨rfl,rfl⟩ | ⟨_,hb2⟩;obtain ⟨c,t',g1,g2,g3,g4⟩:=hg.blk hb' rfl;refine ⟨c,t',g1,g2,by show (C'.ρ i).2+ds.length≤c.size; simp only at g3; omega,fun i' hi hi'=>?_⟩;have hi2:i' < cs.length:=(by simp only at hi; omega);have:=g4 i' hi2 hi';simp only at this ⊢;rw [hds i' hi hi2];split;rename_i e;subst e;have e2:cs[i']=.v (.slice none 0 0):=(by rw [List.getElem?_eq_getElem hi2] at hj;exact Option.some.inj hj);rw [e2] at this;have e3:=this.v_inv;have e4:c[(C2.ρ i).2+i']'hi'=.slice none 0 0:=e3;rw [e4];exact hnil.mono hg he;exact this.mono hg he;obtain ⟨c,t',g1,g2,g3,g4⟩:=hg.blk hb2 hn';exact ⟨c,t',g1,g2,g3,fun j hj hj'=>(g4 j hj hj').mono hg he⟩;rcases hl hb2 with ⟨rfl,rfl⟩ | ⟨_,hb2⟩;have:=hg.tight hb' hv' rfl;simp only at this ⊢;show C'.sz _=(C'.ρ _).2+ds.length;rw [hdl];exact this;exact hg.tight hb2 hv' hn'
 have hr':SRel N C2 ⟨τ,(η.set u (some ⟨0,[],z,true⟩)).set id (some ⟨w,ds,ez,false⟩),u+1⟩ a :=
  ⟨hg2,by simp only [C2,hη],hU,hr.defers,hr.size,fun q=>(hv (hr.τ q)).mono hg he⟩
 have:=hc C2 a hr'
 rw [show C2.w=C.w from hw] at this
 exact Code.wp_mono (fun e a' w' ⟨s',C'',h1,h2,h3,h4⟩=>⟨s',C'',h1,h2,h3,(hf.trans he.toFr).trans h4⟩) this
end
end Go.Proofs.YtbhhmbchdponjaaGreatDoor
namespace Go.Proofs.YtbhhmbchdponjaaGreatDoor
set_option linter.unusedVariables false
set_option linter.unusedSimpArgs false
open Go.RowKit
section
variable {P:Program} {τ:Nat→AV} {η:Heap} {d:Option Tmp} {ty:TypeId} {pos:String} {af:Array Edge} {g:Option (Nat×Bool)}
def Ctx.given (C:Ctx) (fp:List Nat) (T':Nat→Prop) (w':World):Ctx:={ C with η:=C.η.put (fp.map fun id=>(id,none)),T:=T',w:=w' }
theorem put_none (η:Heap):∀ (fp:List Nat) (id:Nat),(η.put (fp.map fun id=>(id,none))) id=if id∈fp then none else η id:=by
 intro fp id
 rw [put_eq]
 have:∀ fp:List Nat,lastΔ (fp.map fun id=>((id,none):Nat×Option Blk)) id=if id∈fp then some none else none:=by
  intro fp
  induction fp with
  | nil=>rfl
  | cons a r ih=>
   simp only [List.map_cons,lastΔ,ih,List.mem_cons]
   by_cases h:id∈r
   ·simp [h]
   ·by_cases e:a=id
    ·subst e; simp [h]
    ·have e':¬ id=a:=fun h=>e h.symm
     simp [h,e,e']
 rw [this fp]
 by_cases h:id∈fp <;> simp [h]
theorem LOp.callF {f:FuncId} {xs:Array Operand} {ats:Array TypeId} {ret:AV} {args:List AV} (fp:List Nat) (hb:bodied P f=true) (hl:xs.size=args.length) (hf:∀ i (h:i < xs.size) (h':i < args.length),FzP fp η (aev τ xs[i]) args[i]) (hused:∀ id∈fp,(η id).isSome=true) (hc:PCall P f args ret) :
 LOp P ⟨d,.call { callee:=.value (.func f),args:=xs,argTypes:=ats },ty,pos,af,g⟩ τ η fp (fp.map fun id=>(id,none)) ret:=by
 intro C a hg hxs hfp _ K Q hK
 have hargs:TRs (fun b=>C.T b∨C.mineOf fp b) C.w args (xs.map a.eval):=⟨by simp; omega,fun i h h'=>by simp only [Array.getElem_map];have h'':i < xs.size:=(by simpa using h');exact hf i h'' h C hg hfp _ (hxs _ (by simp [Op.operands,Call.operands]))⟩
 have hrun:(execOp a.eval ⟨d,.call { callee:=.value (.func f),args:=xs,argTypes:=ats },ty,pos,af,g⟩).run P C.w=.ok (.enter f (xs.map a.eval)) C.w:=by have:execOp a.eval ⟨d,.call { callee:=.value (.func f),args:=xs,argTypes:=ats },ty,pos,af,g⟩=callFunc f (#[]++xs.map a.eval++#[]):=rfl;rw [this,run_callFunc' hb];simp
 unfold Oper.wp
 rw [hrun]
 refine Calls.mono (hc (fun b=>C.T b∨C.mineOf fp b) C.w _ hargs (hg.tokT (fun _ h=>.inl h) (fun b hb=>hb.elim (fun h=>hg.tlt h) (fun h=>Ctx.mine_lt hg (Ctx.mineOf_mine h))))) ?_
 rintro e w' ⟨x,T',rfl,hx,t1,t2,t3,hbel⟩
 have hl:∀ {i b'},(C.given fp T' w').η i=some b'→i∉fp∧C.η i=some b':=by intro i b' hb';have:=hb';simp only [Ctx.given] at this;rw [put_none] at this;by_cases e:i∈fp;rw [if_pos e] at this;cases this;rw [if_neg e] at this;exact ⟨e,this⟩
 have hlive:∀ {i},(C.given fp T' w').live i→i∉fp∧C.live i:=fun ⟨b',h1,h2⟩=>⟨(hl h1).1,b',(hl h1).2,h2⟩
 have hmine:∀ {k},(C.given fp T' w').mine k→C.mine k:=fun ⟨i,h1,h2⟩=>⟨i,(hlive h1).2,h2⟩
 have hev:Ev C (C.given fp T' w'):=by refine ⟨⟨hbel.os,hbel.tape,hbel.output,hbel.size,fun k hk _=>hbel.block k hk,fun k hk=>.inl (hmine hk),fun k hk=>t1 k (.inl hk),fun k hk=>?_⟩,fun _ h=>h,fun i b' _ hb'=>⟨b',(hl hb').2,Nat.le_refl _,fun _=>⟨rfl,rfl,rfl,rfl⟩⟩⟩;rcases t2 k hk with (h | h) | h;exact .inl h;exact .inr (.inl (Ctx.mineOf_mine h));exact .inr (.inr h)
 have hgood:Good (C.given fp T' w'):=by refine ⟨fun hb'=>hg.used (hl hb').2,fun {i b'} hb' hn=>by obtain ⟨ob,g1,g2⟩:=hg.obj (hl hb').2 hn;exact ⟨ob,(hbel.block _ (Array.getElem?_eq_some_iff.1 g1).1).trans g1,g2.mono hg hev⟩,by intro i b' hb' hn;obtain ⟨c,t',g1,g2,g3,g4⟩:=hg.blk (hl hb').2 hn;exact ⟨c,t',(hbel.block _ (Array.getElem?_eq_some_iff.1 g1).1).trans g1,g2,g3,fun j hj hj'=>(g4 j hj hj').mono hg hev⟩,fun h1 h2 h3=>hg.inj (hlive h1).2 (hlive h2).2 h3,hg.tokE hev.toFr0 t3,?_,fun hb' hv hn=>hg.tight (hl hb').2 hv hn⟩;rintro k ⟨i,h1,rfl⟩ hT;obtain ⟨hni,hli⟩:=hlive h1;rcases t2 _ hT with (h | ⟨i',hi',hl',e⟩) | h;exact hg.apart ⟨i,hli,rfl⟩ h;have:=hg.inj hl' hli e;subst this;exact hni hi';have:=Ctx.mine_lt hg ⟨i,hli,rfl⟩;have h':C.w.heap.size≤(C.ρ i).1:=h;omega
 refine hK x (C.given fp T' w') rfl (fun id=>?_) hgood hev (.imm hx)
 simp only [Ctx.given,List.map_map,List.mem_map,Function.comp]
 constructor
 ·exact fun h=>.inl h
 ·rintro (h | ⟨i,hi,rfl⟩)
  ·exact h
  ·have h1:=hused i hi
   rw [← hfp i hi] at h1
   obtain ⟨b,hb⟩:=Option.isSome_iff_exists.1 h1
   exact hg.used hb
theorem LOp.extract {x:Operand} {i:Nat} {cs:List AV} {v:AV} (hx:aev τ x=.tup cs) (hv:cs[i]? = some v):LOp P ⟨d,.extract x i,ty,pos,af,g⟩ τ η [] [] v :=
 .look [] fun C a _ hxs _=>by have h1:=hxs x (by simp [Op.operands]);rw [hx] at h1;obtain ⟨vs,e,h2,h3⟩:=h1.tup_inv;obtain ⟨hlt,he⟩:=List.getElem?_eq_some_iff.1 hv;have hlt':i < vs.size:=(by omega);refine ⟨vs[i],?_,by rw [← he]; exact h3 i hlt hlt'⟩;simp [execOp,e,Instr.extract,hlt']
end
section
variable {P:Program} {N:Nat} {ops:Array Oper} {l:List Oper} {K:St→Prop} {KD:List Rec→St→Prop} {τ:Nat→AV} {η:Heap} {u:Nat} {op:Op} {ty:TypeId} {pos:String} {af:Array Edge} {g:Option (Nat×Bool)}
theorem AOps.gv {d:Nat} {fp:List Nat} {δ:List (Nat×Option Blk)} {v:AV} (hL:LOp P ⟨some d,op,ty,pos,af,g⟩ τ η fp δ v) (hw:want ops τ ⟨some d,op,ty,pos,af,g⟩=some true) (hd:dstOk N ops ⟨some d,op,ty,pos,af,g⟩=true) (u':Nat) (hu:Nat.ble u u'=true) (hn:newOk fp δ u u'=true)
 (h:AOps P N ops l K ⟨upd τ d v,η.put δ,u'⟩):AOps P N ops (⟨some d,op,ty,pos,af,g⟩ :: l) K ⟨τ,η,u⟩ :=
 AOps.op (s:=⟨τ,η,u⟩) u' hL hw hd hu hn h
end
end Go.Proofs.YtbhhmbchdponjaaGreatDoor
namespace Go.Proofs.YtbhhmbchdponjaaGreatDoor
set_option linter.unusedVariables false
set_option linter.unusedSimpArgs false
open Go.RowKit
section
variable {P:Program} {τ:Nat→AV} {η:Heap} {d:Option Tmp} {ty:TypeId} {pos:String} {af:Array Edge} {g:Option (Nat×Bool)}
theorem LOp.appendZ {t e sz:Nat} {s x:Operand} {fp:List Nat} {news:List AV} (ht:P.underlying t=some (.slice e)) (hs:sizeInfo P e=some sz) (hx:aev τ s=.v (.slice none 0 0)) (hsrc:Src η fp (aev τ x) 0 news) (hn:news=[]) :
 LOp P ⟨d,.call { callee:=.builtin .append,args:=#[s,x],argTypes:=#[t,t] },ty,pos,af,g⟩ τ η fp [] (.v (.slice none 0 0)) :=
 .look fp fun C a hg hxs hfp=>by
  unfold sizeInfo at hs
  cases hi:P.info? e with
  | none=>rw [hi] at hs; cases hs
  | some inf=>
   have e1:=hxs s (by simp [Op.operands,Call.operands])
   rw [hx] at e1
   have e0:=e1.v_inv
   rcases hsrc C hg hfp _ (hxs x (by simp [Op.operands,Call.operands])) with ⟨_,_,ad,c,hx2⟩ | ⟨ad,c,vals,hx2,_⟩
   ·refine ⟨.slice none 0 0,exec_append C.w ?_,VR.v C _⟩
    rw [e0,hx2]
    exact run_append_zero (P:=P) (ty:=ty) ht hi C.w none ad 0 0 c (Nat.le_refl _)
   ·refine ⟨.slice none 0 0,exec_append C.w ?_,VR.v C _⟩
    rw [e0,hx2]
    exact run_append_zero (P:=P) (ty:=ty) ht hi C.w none (some ad) 0 0 c (Nat.le_refl _)
theorem Src.treeMap {η:Heap} {α:Type} {n m:Nat} {f:α→List AV} {l:List α} (hm:l.length=m):Src η [] (.tree n (l.map f)) m (l.map f).flatten:=by grind [Src.tree,List.length_map]
theorem run_eqBool {P:Program} {t:TypeId} (hu:P.underlying t=some .bool) (p q:Bool) (n:Nat) (w:World):(Op.equalIn (n+1) t (.bool p) (.bool q)).run P w=.ok (p==q) w:=by simp only [Op.equalIn,Sem.run_bind,run_underlying hu,Result.andThen_ok,Sem.run_pure]
theorem run_eqBool' {P:Program} {t:TypeId} (hu:P.underlying t=some .bool) (p q:Bool) (w:World):(Op.equal t (.bool p) (.bool q)).run P w=.ok (p==q) w:=run_eqBool hu p q 9999 w
theorem LOp.eqB {t t':Nat} {x y:Operand} {p q:Bool} (hx:aev τ x=.v (.bool p)) (hy:aev τ y=.v (.bool q)) (hu:P.underlying t=some .bool) :
 LOp P ⟨d,.binOp .eql t x y t',ty,pos,af,g⟩ τ η [] [] (.v (.bool (p==q))) :=
 .look [] fun C a _ hxs _=>by have e1:=hxs x (by simp [Op.operands]);have e2:=hxs y (by simp [Op.operands]);rw [hx] at e1;rw [hy] at e2;refine ⟨.bool (p==q),?_,VR.v C _⟩;have h:(binOp .eql t (.bool p) (.bool q)).run P C.w=.ok (.bool (p==q)) C.w:=(by show ((do pure (.bool (← Op.equal t (.bool p) (.bool q))):Sem Value)).run P C.w=_;simp only [Sem.run_bind,run_eqBool' hu,Result.andThen_ok,Sem.run_pure]);have h2:(eqGuard .eql t x y (.bool p) (.bool q))=pure ():=rfl;simp only [execOp,e1.v_inv,e2.v_inv,h2,Sem.run_bind,Sem.run_pure,Result.andThen_ok,h]
theorem LOp.neB {t t':Nat} {x y:Operand} {p q:Bool} (hx:aev τ x=.v (.bool p)) (hy:aev τ y=.v (.bool q)) (hu:P.underlying t=some .bool) :
 LOp P ⟨d,.binOp .neq t x y t',ty,pos,af,g⟩ τ η [] [] (.v (.bool (!(p==q)))) :=
 .look [] fun C a _ hxs _=>by have e1:=hxs x (by simp [Op.operands]);have e2:=hxs y (by simp [Op.operands]);rw [hx] at e1;rw [hy] at e2;refine ⟨.bool (!(p==q)),?_,VR.v C _⟩;have h:(binOp .neq t (.bool p) (.bool q)).run P C.w=.ok (.bool (!(p==q))) C.w:=(by show ((do pure (.bool (!(← Op.equal t (.bool p) (.bool q)))):Sem Value)).run P C.w=_;simp only [Sem.run_bind,run_eqBool' hu,Result.andThen_ok,Sem.run_pure]);have h2:(eqGuard .neq t x y (.bool p) (.bool q))=pure ():=rfl;simp only [execOp,e1.v_inv,e2.v_inv,h2,Sem.run_bind,Sem.run_pure,Result.andThen_ok,h]
theorem FzP.slMap {α:Type} {fp:List Nat} {η:Heap} {id ver w n len:Nat} {cs:List AV} {ez:Nat} {np:Bool} {f:α→List AV} {l:List α} (hid:id∈fp) (hb:η id=some ⟨w,cs,ez,np⟩) (hv:w=ver) (hn:np=false) (hz:ez=n) (hcs:cs=(l.map f).flatten) (hl:l.length=len) (hf:∀ a∈l,(f a).length=n∧pureL (f a)=true) :
 FzP fp η (.sl id ver 0 len) (.tree n (l.map f)):=by
 subst hz; subst hn; subst hv; subst hcs
 have hrow:∀ k (h:k < (l.map f).length),(l.map f)[k].length=ez:=fun k h=>by simp; exact (hf _ (List.getElem_mem _)).1
 refine FzP.sl (b:=⟨w,(l.map f).flatten,ez,false⟩) hid hb rfl rfl (by simpa using hl) hrow (fun k h j h'=>?_)
 have hj:j < ez:=by rw [hrow k h] at h'; exact h'
 have hlt:k * ez+j < (l.map f).length * ez:=by have:(k+1) * ez≤(l.map f).length * ez:=Nat.mul_le_mul_right _ h;rw [Nat.add_mul] at this;omega
 obtain ⟨g1,g2,g3,g4⟩:=flatten_get (l.map f) hrow (k * ez+j) hlt
 have hez:0 < ez:=by omega
 have e1:(k * ez+j) / ez=k:=by rw [Nat.mul_comm,Nat.mul_add_div hez,Nat.div_eq_of_lt hj,Nat.add_zero]
 have e2:(k * ez+j) % ez=j:=by rw [Nat.mul_comm,Nat.mul_add_mod,Nat.mod_eq_of_lt hj]
 refine ⟨(l.map f)[k][j],?_,FzP.pure ?_⟩
 ·rw [Nat.zero_add,List.getElem?_eq_getElem g3,g4]
  simp only [e1,e2]
 ·have:=(hf (l[k]'(by simpa using h)) (List.getElem_mem _)).2
  exact pureL_at (by simpa using this) j h'
end
end Go.Proofs.YtbhhmbchdponjaaGreatDoor
namespace Go.Proofs.YtbhhmbchdponjaaGreatDoor
end Go.Proofs.YtbhhmbchdponjaaGreatDoor
namespace Go.Proofs.YtbhhmbchdponjaaGreatDoor
set_option linter.unusedVariables false
set_option linter.unusedSimpArgs false
open Go.RowKit
inductive Tri (α:Type) where
 | nil:Tri α
 | node:Option α→Tri α→Tri α→Tri α
def pathG:Nat→Nat→List Bool
 | 0,_=>[]
 | d+1,k=>bif Nat.beq k 0 then [] else bif Nat.beq (k % 2) 1 then true :: pathG d (k / 2) else false :: pathG d (k / 2 - 1)
def Tri.getP {α:Type}:List Bool→Tri α→Option α
 | [],t=>match t with
  | .nil=>none
  | .node v _ _=>v
 | b :: p,t=>match t with
  | .nil=>none
  | .node _ l r=>match b with
   | true=>Tri.getP p l
   | false=>Tri.getP p r
def Tri.setP {α:Type}:List Bool→Tri α→α→Option (Tri α)
 | [],t,a=>match t with
  | .nil=>some (.node (some a) .nil .nil)
  | .node _ l r=>some (.node (some a) l r)
 | b :: p,t,a=>match t with
  | .nil=>match b with
   | true=>(match Tri.setP p .nil a with | some l=>some (.node none l .nil) | none=>none)
   | false=>(match Tri.setP p .nil a with | some r=>some (.node none .nil r) | none=>none)
  | .node v l r=>match b with
   | true=>(match Tri.setP p l a with | some l=>some (.node v l r) | none=>none)
   | false=>(match Tri.setP p r a with | some r=>some (.node v l r) | none=>none)
def Tri.get {α:Type} (t:Tri α) (k:Nat):Option α:=bif Nat.ble k 16777214 then Tri.getP (pathG 24 k) t else none
def Tri.set {α:Type} (d:Nat) (t:Tri α) (k:Nat) (a:α):Option (Tri α):=bif Nat.ble k 16777214 then Tri.setP (pathG 24 k) t a else none
theorem beq_dec (a b:Nat):Nat.beq a b=decide (a=b):=by grind [Nat.beq,Nat.eq_of_beq_eq_true,Nat.ne_of_beq_eq_false]
theorem pathG_inj:∀ (d i k:Nat),i+1 < 2 ^ d→k+1 < 2 ^ d→pathG d i=pathG d k→i=k
 | 0,i,k,hi,_,_=>by simp at hi
 | d+1,i,k,hi,hk,h=>by have hp:2 ^ (d+1)=2 * 2 ^ d:=(by rw [Nat.pow_succ]; omega);simp only [pathG,beq_dec] at h;by_cases i0:i=0;by_cases k0:k=0;omega;by_cases k1:k % 2=1 <;> simp [i0,k0,k1] at h;by_cases k0:k=0;by_cases i1:i % 2=1 <;> simp [i0,k0,i1] at h;by_cases i1:i % 2=1;by_cases k1:k % 2=1;simp only [i0,k0,i1,k1,decide_false,decide_true,cond_false,cond_true,List.cons.injEq,true_and] at h;have:=pathG_inj d (i / 2) (k / 2) (by omega) (by omega) h;omega;simp [i0,k0,i1,k1] at h;by_cases k1:k % 2=1;simp [i0,k0,i1,k1] at h;simp only [i0,k0,i1,k1,decide_false,cond_false,List.cons.injEq,true_and] at h;have:=pathG_inj d (i / 2 - 1) (k / 2 - 1) (by omega) (by omega) h;omega
theorem Tri.getP_nil {α:Type} (p:List Bool):Tri.getP (α:=α) p .nil=none:=by cases p <;> rfl
theorem Tri.getP_setP {α:Type}:∀ (p:List Bool) (t t':Tri α) (a:α),Tri.setP p t a=some t'→∀ q,Tri.getP q t'=if q=p then some a else Tri.getP q t
 | [],t,t',a,h,q=>by
  cases t with
  | nil=>
   simp only [Tri.setP,Option.some.injEq] at h
   subst h
   cases q with
   | nil=>simp [Tri.getP]
   | cons b q=>cases b <;> simp [Tri.getP,Tri.getP_nil]
  | node v l r=>
   simp only [Tri.setP,Option.some.injEq] at h
   subst h
   cases q with
   | nil=>simp [Tri.getP]
   | cons b q=>cases b <;> simp [Tri.getP]
 | b :: p,t,t',a,h,q=>by
  cases t with
  | nil=>
   cases b with
   | true=>
    simp only [Tri.setP] at h
    cases hs:Tri.setP p .nil a with
    | none=>rw [hs] at h; cases h
    | some l=>
     rw [hs] at h
     simp only [Option.some.injEq] at h
     subst h
     cases q with
     | nil=>simp [Tri.getP]
     | cons c q=>
      have:=Tri.getP_setP p _ _ _ hs q
      cases c <;> simp [Tri.getP,Tri.getP_nil] at this ⊢ <;> exact this
   | false=>
    simp only [Tri.setP] at h
    cases hs:Tri.setP p .nil a with
    | none=>rw [hs] at h; cases h
    | some r=>
     rw [hs] at h
     simp only [Option.some.injEq] at h
     subst h
     cases q with
     | nil=>simp [Tri.getP]
     | cons c q=>
      have:=Tri.getP_setP p _ _ _ hs q
      cases c <;> simp [Tri.getP,Tri.getP_nil] at this ⊢ <;> exact this
  | node v l r=>
   cases b with
   | true=>
    simp only [Tri.setP] at h
    cases hs:Tri.setP p l a with
    | none=>rw [hs] at h; cases h
    | some l'=>
     rw [hs] at h
     simp only [Option.some.injEq] at h
     subst h
     cases q with
     | nil=>simp [Tri.getP]
     | cons c q=>
      have:=Tri.getP_setP p _ _ _ hs q
      cases c <;> simp [Tri.getP] at this ⊢ <;> exact this
   | false=>
    simp only [Tri.setP] at h
    cases hs:Tri.setP p r a with
    | none=>rw [hs] at h; cases h
    | some r'=>
     rw [hs] at h
     simp only [Option.some.injEq] at h
     subst h
     cases q with
     | nil=>simp [Tri.getP]
     | cons c q=>
      have:=Tri.getP_setP p _ _ _ hs q
      cases c <;> simp [Tri.getP] at this ⊢ <;> exact this
theorem Tri.get_set {α:Type} (d:Nat) (t t':Tri α) (k:Nat) (a:α) (h:Tri.set d t k a=some t') (i:Nat):t'.get i=bif Nat.beq i k then some a else t.get i:=by
 unfold Tri.set at h
 cases hk:Nat.ble k 16777214 with
 | false=>rw [hk] at h; simp at h
 | true=>
  rw [hk] at h
  simp only [cond_true] at h
  have hk':=Nat.le_of_ble_eq_true hk
  unfold Tri.get
  cases hi:Nat.ble i 16777214 with
  | false=>
   have:¬ i=k:=fun e=>by rw [e,hk] at hi; cases hi
   simp [beq_dec,this]
  | true=>
   have hi':=Nat.le_of_ble_eq_true hi
   simp only [cond_true]
   rw [Tri.getP_setP _ _ _ _ h]
   by_cases e:i=k
   ·subst e; simp [beq_dec]
   ·have:¬ pathG 24 i=pathG 24 k:=fun hp=>e (pathG_inj 24 i k (by omega) (by omega) hp)
    simp [beq_dec,this,e]
structure ES where
 t:Tri AV
 h:Tri (Option Blk)
 u:Nat
def triτ (t:Tri AV):Nat→AV:=fun i=>match t.get i with | some a=>a | none=>.v undef
def triη (h:Tri (Option Blk)):Heap:=fun i=>match h.get i with | some b=>b | none=>none
theorem Tri.get_nil {α:Type} (i:Nat):Tri.get (.nil:Tri α) i=none:=by unfold Tri.get;rw [Tri.getP_nil];cases Nat.ble i 16777214 <;> rfl
theorem triτ_nil (i:Nat):triτ .nil i=.v undef:=by unfold triτ; rw [Tri.get_nil]
theorem triη_nil:triη .nil=fun _=>none:=by funext i; unfold triη; rw [Tri.get_nil]
def ES.st (E:ES):St:=⟨triτ E.t,triη E.h,E.u⟩
theorem triη_set {h h':Tri (Option Blk)} {k:Nat} {b:Option Blk} (e:Tri.set 24 h k b=some h'):triη h'=(triη h).set k b:=by funext i;simp only [triη,Heap.set,Tri.get_set _ _ _ _ _ e i];cases Nat.beq i k <;> rfl
theorem triτ_set {t t':Tri AV} {k:Nat} {v:AV} (e:Tri.set 24 t k v=some t'):triτ t'=upd (triτ t) k v:=by funext i;simp only [triτ,upd,Tri.get_set _ _ _ _ _ e i];cases Nat.beq i k <;> rfl
def OpRun:=Oper→ES→Option Rec
def OpRun.Ok (P:Program) (f:OpRun):Prop:=∀ o E r,f o E=some r→LOp P o E.st.τ E.st.η r.fp r.δ r.v
theorem AOps.up {P:Program} {N:Nat} {ops:Array Oper} {l:List Oper} {K:St→Prop} {τ:Nat→AV} {η:Heap} {u u':Nat} (hu:u≤u') (h:AOps P N ops l K ⟨τ,η,u'⟩):AOps P N ops l K ⟨τ,η,u⟩ :=
 fun C a Q hr hK=>h C a Q ⟨hr.good,hr.η,fun id hid=>(hr.u id hid).imp (fun h=>Nat.lt_of_lt_of_le h hu) (fun h=>h),hr.defers,hr.size,hr.τ⟩ hK
theorem AOps.of_Seq {P:Program} {N:Nat} {ops:Array Oper}:∀ {l:List Oper} {s s':St} {rs:List Rec} {K:St→Prop},Seq P N ops l s rs s'→K s'→AOps P N ops l K s:=by
 intro l s s' rs K h hk
 induction h with
 | nil=>exact oN hk
 | cons hf _ ih=>
  rename_i o l s s' r rs _
  obtain ⟨hd,hu,h | h⟩:=hf
  ·exact AOps.op r.u h.2.1 h.1 hd (by rw [Nat.ble_eq]; exact hu) h.2.2 (ih hk)
  ·obtain ⟨hw,h1,h2,h3⟩:=h
   refine AOps.skip hw hd ?_
   have:=ih hk
   unfold stepR at this
   rw [h1,h2] at this
   exact AOps.up hu this
end Go.Proofs.YtbhhmbchdponjaaGreatDoor
namespace Go.Proofs.YtbhhmbchdponjaaGreatDoor
set_option linter.unusedVariables false
set_option linter.unusedSimpArgs false
open Go.RowKit
def quiet {α:Type} (p:Program):Sem α→Option α
 | .pure a=>some a
 | .program k=>quiet p (k p)
 | .mark _ k=>quiet p k
 | .choose q k=>bif q.forced then quiet p (k 0) else none
 | _=>none
theorem quiet_run {α:Type} {p:Program}:∀ (s:Sem α) (a:α),quiet p s=some a→∀ w,s.run p w=.ok a w:=by
 intro s
 induction s with
 | pure b=>intro a h w; simp only [quiet,Option.some.injEq] at h; subst h; rfl
 | program k ih=>intro a h w; exact ih p a h w
 | mark m k ih=>intro a h w; exact ih a h w
 | choose q k ih=>
  intro a h w
  simp only [quiet] at h
  cases hq:q.forced with
  | false=>rw [hq] at h; simp only [cond_false] at h; cases h
  | true=>
   rw [hq] at h
   simp only [cond_true] at h
   simp only [Sem.run,hq,if_true]
   exact ih 0 a h w
 | _=>intro a h w; simp [quiet] at h
def isSelect:Op→Bool
 | .select _ _=>true
 | _=>false
def plainE (P:Program) (τ:Nat→AV) (o:Oper):Option Value :=
 bif isSelect o.op then none else
 bif o.op.operands.toList.all (fun x=>(aev τ x).isV) then
  match quiet P (execOp (fun x=>(aev τ x).val) o) with
  | some (.value y)=>some y
  | _=>none
 else none
theorem plainE_ok {P:Program} {τ:Nat→AV} {η:Heap} {o:Oper} {y:Value} (h:plainE P τ o=some y):LOp P o τ η [] [] (.v y):=by grind [plainE,isSelect,aev,Option.some.injEq,lP,quiet_run]
def mapF (f:AV→Option (List Nat×AV)):List AV→Option (List Nat×List AV)
 | []=>some ([],[])
 | a :: l=>match f a with
  | none=>none
  | some (fp,b)=>match mapF f l with
   | none=>none
   | some (fp',m)=>some (fp++fp',b :: m)
theorem mapF_ok {η:Heap} {f:AV→Option (List Nat×AV)} (hf:∀ a fp b,f a=some (fp,b)→FzP fp η a b):∀ (l:List AV) (fp:List Nat) (m:List AV),mapF f l=some (fp,m)→m.length=l.length∧∀ i (h:i < l.length) (h':i < m.length),FzP fp η l[i] m[i]:=by
 intro l;induction l with
 | nil=>
  intro fp m h
  simp only [mapF,Option.some.injEq,Prod.mk.injEq] at h
  obtain ⟨rfl,rfl⟩:=h
  exact ⟨rfl,fun i h=>absurd h (by simp)⟩
 | cons a l ih=>
  intro fp m h
  simp only [mapF] at h
  cases h1:f a with
  | none=>rw [h1] at h; cases h
  | some q=>
   obtain ⟨fp1,b⟩:=q
   rw [h1] at h
   simp only at h
   cases h2:mapF f l with
   | none=>rw [h2] at h; cases h
   | some q2=>
    obtain ⟨fp2,m2⟩:=q2
    rw [h2] at h
    simp only [Option.some.injEq,Prod.mk.injEq] at h
    obtain ⟨rfl,rfl⟩:=h
    obtain ⟨hl,hi⟩:=ih _ _ h2
    refine ⟨by simp [hl],fun i h h'=>?_⟩
    cases i with
    | zero=>exact (hf _ _ _ h1).mono (fun i hi=>List.mem_append_left _ hi)
    | succ i=>
     simp only [List.getElem_cons_succ]
     exact (hi i (by simpa using h) (by simpa using h')).mono (fun i hi=>List.mem_append_right _ hi)
def chunks (n:Nat):Nat→List AV→List (List AV)
 | 0,_=>[]
 | k+1,l=>l.take n :: chunks n k (l.drop n)
theorem chunks_length (n:Nat):∀ (k:Nat) (l:List AV),(chunks n k l).length=k
 | 0,_=>rfl
 | k+1,l=>by simp [chunks,chunks_length n k]
theorem chunks_get (n:Nat):∀ (k:Nat) (l:List AV) (i:Nat) (h:i < (chunks n k l).length),(chunks n k l)[i]=(l.drop (i * n)).take n
 | 0,l,i,h=>absurd h (by simp [chunks])
 | k+1,l,0,h=>by simp [chunks]
 | k+1,l,i+1,h=>by have:=chunks_get n k (l.drop n) i (by simpa [chunks] using h);simp only [chunks,List.getElem_cons_succ,this,List.drop_drop];congr 2;rw [Nat.succ_mul];omega
theorem FzP.ptr {fp:List Nat} {η:Heap} {id ver o:Nat} {b:Blk} {ds:List AV} (hid:id∈fp) (hb:η id=some b) (hv:b.ver=ver) (hn:b.nilp=false) (hl:ds.length=b.cs.length)
 (hc:∀ j (h:j < b.cs.length) (h':j < ds.length),FzP fp η b.cs[j] ds[j]):FzP fp η (.ptr id ver o) (.tp ds o):=fun C hg hη x hx=>by
 have hb':C.η id=some b:=(hη id hid).trans hb
 rw [hx.ptr_inv hb' hv]
 obtain ⟨f,hf⟩:=choose_cells (n:=ds.length) (p:=fun j y=>C.w.cell? ⟨(C.ρ id).1,(C.ρ id).2+j,none⟩=some y∧∀ (h:j < ds.length),TR (fun b=>C.T b∨C.mineOf fp b) C.w ds[j] y) (fun j hj=>by obtain ⟨y,hy,hvy⟩:=hg.cell hb' hn (j:=j) (by omega);exact ⟨y,hy,fun h=>hc j (by omega) h C hg hη y hvy⟩)
 exact .tp f (.inr ⟨id,hid,⟨b,hb',Blk.k0' hn⟩,rfl⟩) (fun j hj=>(hf j hj).1) (fun j hj=>(hf j hj).2 hj)
def fz (η:Heap):Nat→AV→Option (List Nat×AV)
 | 0,_=>none
 | n+1,a=>bif a.pureB then some ([],a) else
  match a with
  | .agg cs=>match mapF (fz η n) cs with
   | some (fp,ds)=>some (fp,.agg ds)
   | none=>none
  | .sl id ver off len=>match η id with
   | none=>none
   | some b=>bif Nat.beq b.ver ver&&!b.nilp&&!Nat.beq b.esz 0 then
    match takeFrom off (len * b.esz) b.cs with
    | none=>none
    | some flat=>match mapF (fz η n) flat with
     | none=>none
     | some (fp,ds)=>some (id :: fp,.tree b.esz (chunks b.esz len ds))
    else none
  | .ptr id ver o=>match η id with
   | none=>none
   | some b=>bif Nat.beq b.ver ver&&!b.nilp then
    match mapF (fz η n) b.cs with
    | none=>none
    | some (fp,ds)=>some (id :: fp,.tp ds o)
    else none
  | _=>none
theorem fz_ok {η:Heap}:∀ (n:Nat) (a:AV) (fp:List Nat) (r:AV),fz η n a=some (fp,r)→FzP fp η a r:=by
 intro n
 induction n with
 | zero=>intro a fp r h; simp [fz] at h
 | succ n ih=>
  intro a fp r h
  simp only [fz] at h
  cases hp:a.pureB with
  | true=>
   rw [hp] at h
   simp only [cond_true,Option.some.injEq,Prod.mk.injEq] at h
   obtain ⟨rfl,rfl⟩:=h
   exact FzP.pure hp
  | false=>
   rw [hp] at h
   simp only [cond_false] at h
   split at h
   ·rename_i cs
    cases h1:mapF (fz η n) cs with
    | none=>rw [h1] at h; cases h
    | some q=>
     obtain ⟨fp1,ds⟩:=q
     rw [h1] at h
     simp only [Option.some.injEq,Prod.mk.injEq] at h
     obtain ⟨rfl,rfl⟩:=h
     obtain ⟨hl,hi⟩:=mapF_ok ih _ _ _ h1
     exact FzP.agg hl.symm hi
   ·rename_i id ver off len
    cases hb:η id with
    | none=>rw [hb] at h; cases h
    | some b=>
     rw [hb] at h
     simp only at h
     cases hc:(Nat.beq b.ver ver&&!b.nilp&&!Nat.beq b.esz 0) with
     | false=>rw [hc] at h; simp only [cond_false] at h; cases h
     | true=>
      rw [hc] at h
      simp only [cond_true] at h
      rw [Bool.and_eq_true,Bool.and_eq_true] at hc
      obtain ⟨⟨hv,hn⟩,hz⟩:=hc
      have hv:=Nat.eq_of_beq_eq_true hv
      have hn:b.nilp=false:=by simpa using hn
      cases ht:takeFrom off (len * b.esz) b.cs with
      | none=>rw [ht] at h; cases h
      | some flat=>
       rw [ht] at h
       simp only at h
       cases hm:mapF (fz η n) flat with
       | none=>rw [hm] at h; cases h
       | some q=>
        obtain ⟨fp1,ds⟩:=q
        rw [hm] at h
        simp only [Option.some.injEq,Prod.mk.injEq] at h
        obtain ⟨rfl,rfl⟩:=h
        obtain ⟨hlen,hflat⟩:=takeFrom_eq _ _ _ _ ht
        obtain ⟨hl,hi⟩:=mapF_ok ih _ _ _ hm
        have hfl:flat.length=len * b.esz:=by rw [hflat]; simp; omega
        refine FzP.sl (List.mem_cons_self ..) hb hv hn (chunks_length _ _ _) (fun k hk=>?_) (fun k hk j hj=>?_)
        ·have hk':k < len:=by rw [chunks_length] at hk; exact hk
         rw [chunks_get]
         have:k * b.esz+b.esz≤len * b.esz:=by rw [← Nat.succ_mul]; exact Nat.mul_le_mul_right _ hk'
         simp [hl,hfl]; omega
        ·have hk':k < len:=by rw [chunks_length] at hk; exact hk
         have hrow:(chunks b.esz len ds)[k]=(ds.drop (k * b.esz)).take b.esz:=chunks_get _ _ _ _ hk
         have hj':j < b.esz:=by rw [hrow] at hj; simp at hj; omega
         have hm1:k * b.esz+b.esz≤len * b.esz:=by rw [← Nat.succ_mul]; exact Nat.mul_le_mul_right _ hk'
         have hd:k * b.esz+j < ds.length:=by omega
         have hf:k * b.esz+j < flat.length:=by omega
         refine ⟨flat[k * b.esz+j],?_,?_⟩
         ·have:flat[k * b.esz+j]? = some flat[k * b.esz+j]:=List.getElem?_eq_getElem hf
          rw [← this,hflat,List.getElem?_take_of_lt (by omega),List.getElem?_drop]
          congr 1; omega
         ·have e:(chunks b.esz len ds)[k][j]=ds[k * b.esz+j]:=by
           have:(chunks b.esz len ds)[k][j]? = ds[k * b.esz+j]?:=by rw [hrow,List.getElem?_take_of_lt hj',List.getElem?_drop]
           rw [List.getElem?_eq_getElem hj,List.getElem?_eq_getElem hd] at this
           exact Option.some.inj this
          rw [e]
          exact (hi _ hf hd).mono (fun i hi=>List.mem_cons_of_mem _ hi)
   ·rename_i id ver o
    cases hb:η id with
    | none=>rw [hb] at h; cases h
    | some b=>
     rw [hb] at h
     simp only at h
     cases hc:(Nat.beq b.ver ver&&!b.nilp) with
     | false=>rw [hc] at h; simp only [cond_false] at h; cases h
     | true=>
      rw [hc] at h
      simp only [cond_true] at h
      rw [Bool.and_eq_true] at hc
      have hv:=Nat.eq_of_beq_eq_true hc.1
      have hn:b.nilp=false:=by simpa using hc.2
      cases hm:mapF (fz η n) b.cs with
      | none=>rw [hm] at h; cases h
      | some q=>
       obtain ⟨fp1,ds⟩:=q
       rw [hm] at h
       simp only [Option.some.injEq,Prod.mk.injEq] at h
       obtain ⟨rfl,rfl⟩:=h
       obtain ⟨hl,hi⟩:=mapF_ok ih _ _ _ hm
       exact FzP.ptr (List.mem_cons_self ..) hb hv hn hl (fun j h h'=>(hi j h h').mono (fun i hi=>List.mem_cons_of_mem _ hi))
   ·cases h
end Go.Proofs.YtbhhmbchdponjaaGreatDoor
namespace Go.Proofs.YtbhhmbchdponjaaGreatDoor
set_option linter.unusedVariables false
set_option linter.unusedSimpArgs false
open Go.RowKit
abbrev CallRun:=FuncId→List AV→Option AV
def liveB (η:Heap) (id ver:Nat):Option Blk:=match η id with
 | some b=>bif Nat.beq b.ver ver&&!b.nilp then some b else none
 | none=>none
theorem liveB_ok {η:Heap} {id ver:Nat} {b:Blk} (h:liveB η id ver=some b):η id=some b∧b.ver=ver∧b.nilp=false:=by grind [liveB,Nat.beq,Option.some.injEq,Nat.eq_of_beq_eq_true]
def loadE (P:Program) (τ:Nat→AV) (η:Heap) (u t:Nat) (x:Operand):Option Rec :=
 match rowOf P t with
 | none=>none
 | some none=>match aev τ x with
  | .ptr id ver o=>match liveB η id ver with
   | none=>none
   | some b=>match b.cs[o]? with
    | some v=>some ⟨[id],[],v,u⟩
    | none=>none
  | .tp cs o=>match cs[o]? with
   | some v=>some ⟨[],[],v,u⟩
   | none=>none
  | _=>none
 | some (some n)=>match aev τ x with
  | .ptr id ver o=>match liveB η id ver with
   | none=>none
   | some b=>match takeFrom o n b.cs with
    | some ds=>some ⟨[id],[],.agg ds,u⟩
    | none=>none
  | .tp cs o=>match takeFrom o n cs with
   | some ds=>some ⟨[],[],.agg ds,u⟩
   | none=>none
  | _=>none
theorem loadE_ok {P:Program} {τ:Nat→AV} {η:Heap} {u t:Nat} {x:Operand} {d:Option Tmp} {ty:TypeId} {pos:String} {af:Array Edge} {g:Option (Nat×Bool)} {r:Rec} (h:loadE P τ η u t x=some r) :
 LOp P ⟨d,.load t x,ty,pos,af,g⟩ τ η r.fp r.δ r.v:=by
 unfold loadE at h
 split at h
 ·cases h
 ·rename_i hr
  split at h
  ·rename_i id ver o hx
   split at h
   ·cases h
   ·rename_i b hb
    obtain ⟨h1,h2,h3⟩:=liveB_ok hb
    split at h
    ·rename_i v hv
     simp only [Option.some.injEq] at h
     subst h
     exact lD hr hx h1 h2 h3 hv
    ·cases h
  ·rename_i cs o hx
   split at h
   ·rename_i v hv
    simp only [Option.some.injEq] at h
    subst h
    exact lE hr hx hv
   ·cases h
  ·cases h
 ·rename_i n hr
  split at h
  ·rename_i id ver o hx
   split at h
   ·cases h
   ·rename_i b hb
    obtain ⟨h1,h2,h3⟩:=liveB_ok hb
    split at h
    ·rename_i v hv
     simp only [Option.some.injEq] at h
     subst h
     exact LOp.ldN hr hx h1 h2 h3 hv
    ·cases h
  ·rename_i cs o hx
   split at h
   ·rename_i v hv
    simp only [Option.some.injEq] at h
    subst h
    exact LOp.ldTN hr hx hv
   ·cases h
  ·cases h
def storeE (P:Program) (τ:Nat→AV) (η:Heap) (u t:Nat) (x y:Operand):Option Rec :=
 match sizeInfo P t with
 | none=>none
 | some n=>match aev τ x with
  | .ptr id ver o=>match liveB η id ver with
   | none=>none
   | some b=>match cellsO (aev τ y) with
    | none=>none
    | some vs=>bif Nat.beq vs.length n&&vs.all AV.one then
     match putAt o b.cs vs with
     | some ds=>some ⟨[id],[(id,some ⟨b.ver,ds,b.esz,b.nilp⟩)],.v undef,u⟩
     | none=>none
     else none
  | _=>none
theorem storeE_ok {P:Program} {τ:Nat→AV} {η:Heap} {u t:Nat} {x y:Operand} {d:Option Tmp} {ty:TypeId} {pos:String} {af:Array Edge} {g:Option (Nat×Bool)} {r:Rec} (h:storeE P τ η u t x y=some r) :
 LOp P ⟨d,.store t x y,ty,pos,af,g⟩ τ η r.fp r.δ r.v:=by
 unfold storeE at h
 split at h
 ·cases h
 ·rename_i n hs
  split at h
  ·rename_i id ver o hx
   split at h
   ·cases h
   ·rename_i b hb
    obtain ⟨h1,h2,h3⟩:=liveB_ok hb
    split at h
    ·cases h
    ·rename_i vs hv
     cases hc:(Nat.beq vs.length n&&vs.all AV.one) with
     | false=>rw [hc] at h; simp only [cond_false] at h; cases h
     | true=>
      rw [hc] at h
      simp only [cond_true] at h
      rw [Bool.and_eq_true] at hc
      split at h
      ·rename_i ds hd
       simp only [Option.some.injEq] at h
       subst h
       exact LOp.st (w:=b.ver) (np:=b.nilp) (cs:=b.cs) (ez:=b.esz) hs hx h1 h2 h3 hv (Nat.eq_of_beq_eq_true hc.1) hc.2 hd
      ·cases h
  ·cases h
def fieldAddrE (P:Program) (τ:Nat→AV) (η:Heap) (u t:Nat) (x:Operand) (i:Nat):Option Rec :=
 match fieldInfo P t i with
 | none=>none
 | some (off,sz)=>bif Nat.beq sz 0 then none else
  match aev τ x with
  | .ptr id ver o=>match liveB η id ver with
   | none=>none
   | some b=>some ⟨[id],[],.ptr id ver (o+off),u⟩
  | .tp cs o=>some ⟨[],[],.tp cs (o+off),u⟩
  | _=>none
theorem fieldAddrE_ok {P:Program} {τ:Nat→AV} {η:Heap} {u t i:Nat} {x:Operand} {d:Option Tmp} {ty:TypeId} {pos:String} {af:Array Edge} {g:Option (Nat×Bool)} {r:Rec} (h:fieldAddrE P τ η u t x i=some r) :
 LOp P ⟨d,.fieldAddr t x i,ty,pos,af,g⟩ τ η r.fp r.δ r.v:=by grind [fieldAddrE,Nat.beq,liveB_ok,Option.some.injEq,lF,LOp.fieldAddrT]
def indexAddrE (P:Program) (τ:Nat→AV) (η:Heap) (u t:Nat) (x i:Operand):Option Rec :=
 match P.underlying t with
 | some (.slice e)=>match sizeInfo P e with
  | none=>none
  | some n=>match aev τ i with
   | .v (.int k (Int.ofNat j))=>match aev τ x with
    | .tree m rows=>bif Nat.beq m n then (match rows[j]? with
     | some row=>some ⟨[],[],.tp row 0,u⟩
     | none=>none) else none
    | .sl id ver off len=>bif Nat.ble (j+1) len then (match liveB η id ver with
     | some b=>bif Nat.beq b.esz n then some ⟨[id],[],.ptr id ver (off+j * n),u⟩ else none
     | none=>none) else none
    | _=>none
   | _=>none
 | _=>none
theorem indexAddrE_ok {P:Program} {τ:Nat→AV} {η:Heap} {u t:Nat} {x i:Operand} {d:Option Tmp} {ty:TypeId} {pos:String} {af:Array Edge} {g:Option (Nat×Bool)} {r:Rec} (h:indexAddrE P τ η u t x i=some r) :
 LOp P ⟨d,.indexAddr t x i,ty,pos,af,g⟩ τ η r.fp r.δ r.v:=by
 unfold indexAddrE at h
 split at h
 ·rename_i e he
  split at h
  ·cases h
  ·rename_i n hs
   split at h
   ·rename_i k j hi
    split at h
    ·rename_i m rows hx
     cases hc:Nat.beq m n with
     | false=>rw [hc] at h; simp only [cond_false] at h; cases h
     | true=>
      rw [hc] at h
      simp only [cond_true] at h
      obtain rfl:=Nat.eq_of_beq_eq_true hc
      split at h
      ·rename_i row hrow
       simp only [Option.some.injEq] at h
       subst h
       obtain ⟨hj,e⟩:=List.getElem?_eq_some_iff.1 hrow
       subst e
       exact lI (f:=fun a=>a) (l:=rows) he hs (by rw [hx]; simp) hi hj
      ·cases h
    ·rename_i id ver off len hx
     cases hc:Nat.ble (j+1) len with
     | false=>rw [hc] at h; simp only [cond_false] at h; cases h
     | true=>
      rw [hc] at h
      simp only [cond_true] at h
      split at h
      ·rename_i b hb
       obtain ⟨h1,h2,h3⟩:=liveB_ok hb
       cases hz:Nat.beq b.esz n with
       | false=>rw [hz] at h; simp only [cond_false] at h; cases h
       | true=>
        rw [hz] at h
        simp only [cond_true,Option.some.injEq] at h
        subst h
        exact LOp.indexS he hs hx hi (Nat.le_of_ble_eq_true hc) h1 h2 h3 (Nat.eq_of_beq_eq_true hz)
      ·cases h
    ·cases h
   ·cases h
 ·cases h
def newE (u:Nat) (v:Option (List AV)):Option Rec:=match v with
 | some vs=>some ⟨[],[(u,some ⟨0,vs,0,false⟩)],.ptr u 0 0,u+1⟩
 | none=>none
def allocE (P:Program) (u t:Nat):Option Rec:=match zeroOf P t with
 | some z=>newE u (cellsO (.v z))
 | none=>none
def buildE (P:Program) (τ:Nat→AV) (u t:Nat) (parts:Array (Nat×Operand)):Option Rec:=match zeroOf P t with
 | none=>none
 | some z=>match placesOf P t with
  | none=>none
  | some pl=>match cellsO (.v z) with
   | none=>none
   | some cs=>match fillO pl cs (partsA τ parts) with
    | none=>none
    | some out=>some ⟨[],[],.agg out,u⟩
theorem newE_ok {u:Nat} {v:Option (List AV)} {r:Rec} (h:newE u v=some r):∃ vs,v=some vs∧r=⟨[],[(u,some ⟨0,vs,0,false⟩)],.ptr u 0 0,u+1⟩:=by unfold newE at h;split at h;rename_i vs;simp only [Option.some.injEq] at h;exact ⟨vs,rfl,h.symm⟩;cases h
theorem buildE_ok {P:Program} {τ:Nat→AV} {η:Heap} {u t:Nat} {parts:Array (Nat×Operand)} {d:Option Tmp} {ty:TypeId} {pos:String} {af:Array Edge} {g:Option (Nat×Bool)} {r:Rec} (h:buildE P τ u t parts=some r) :
 LOp P ⟨d,.build t parts,ty,pos,af,g⟩ τ η r.fp r.δ r.v:=by
 unfold buildE at h
 split at h
 ·cases h
 ·rename_i z hz
  split at h
  ·cases h
  ·rename_i pl hp
   split at h
   ·cases h
   ·rename_i cs hc
    split at h
    ·cases h
    ·rename_i out ho
     simp only [Option.some.injEq] at h
     subst h
     exact LOp.bd hz hp hc ho
def buildSliceE (P:Program) (τ:Nat→AV) (u t len:Nat) (parts:Array (Nat×Operand)):Option Rec:=match P.underlying t with
 | some (.slice e)=>match sizeInfo P e with
  | none=>none
  | some s=>match zeroOf P e with
   | none=>none
   | some z=>bif Nat.ble (len * s) 16777216&&Nat.ble len 16777216&&!Nat.beq (len * s) 0 then
    (match fillO (slotsOf len s) (zerosA z (len * s)) (partsA τ parts) with
    | some out=>some ⟨[],[(u,some ⟨TV,out,s,false⟩)],.sl u TV 0 len,u+1⟩
    | none=>none)
    else none
 | _=>none
theorem buildSliceE_ok {P:Program} {τ:Nat→AV} {η:Heap} {u t len:Nat} {parts:Array (Nat×Operand)} {d:Option Tmp} {ty:TypeId} {pos:String} {af:Array Edge} {g:Option (Nat×Bool)} {r:Rec} (h:buildSliceE P τ u t len parts=some r) :
 LOp P ⟨d,.buildSlice t len parts,ty,pos,af,g⟩ τ η r.fp r.δ r.v:=by
 unfold buildSliceE at h
 split at h
 ·rename_i e he
  split at h
  ·cases h
  ·rename_i s hs
   split at h
   ·cases h
   ·rename_i z hz
    cases hc:(Nat.ble (len * s) 16777216&&Nat.ble len 16777216&&!Nat.beq (len * s) 0) with
    | false=>rw [hc] at h; simp only [cond_false] at h; cases h
    | true=>
     rw [hc] at h
     simp only [cond_true] at h
     rw [Bool.and_eq_true,Bool.and_eq_true] at hc
     split at h
     ·rename_i out ho
      simp only [Option.some.injEq] at h
      subst h
      exact LOp.bs he hs hz hc.1.1 hc.1.2 (by simpa using hc.2) ho
     ·cases h
 ·cases h
def lenE (P:Program) (τ:Nat→AV) (η:Heap) (u:Nat) (x:Operand) (ats:Array TypeId):Option Rec:=match ats[0]? with
 | none=>none
 | some t=>match P.underlying t with
  | some (.slice e)=>match aev τ x with
   | .tree n rows=>some ⟨[],[],.v (.int .i64 (rows.length:Int)),u⟩
   | .sl id ver off len=>match liveB η id ver with
    | some b=>some ⟨[id],[],.v (.int .i64 (len:Int)),u⟩
    | none=>none
   | _=>none
  | _=>none
theorem lenE_ok {P:Program} {τ:Nat→AV} {η:Heap} {u:Nat} {x:Operand} {ats:Array TypeId} {d:Option Tmp} {ty:TypeId} {pos:String} {af:Array Edge} {g:Option (Nat×Bool)} {r:Rec} (h:lenE P τ η u x ats=some r) :
 LOp P ⟨d,.call { callee:=.builtin .len,args:=#[x],argTypes:=ats },ty,pos,af,g⟩ τ η r.fp r.δ r.v:=by
 unfold lenE at h
 split at h
 ·cases h
 ·rename_i t ht
  split at h
  ·rename_i e he
   split at h
   ·rename_i n rows hx
    simp only [Option.some.injEq] at h
    subst h
    exact lT (n:=n) (f:=fun a=>a) (l:=rows) ht he (by rw [hx]; simp)
   ·rename_i id ver off len hx
    split at h
    ·rename_i b hb
     obtain ⟨h1,h2,h3⟩:=liveB_ok hb
     simp only [Option.some.injEq] at h
     subst h
     exact LOp.lenS ht he hx h1 h2
    ·cases h
   ·cases h
  ·cases h
def callE (P:Program) (call:CallRun) (τ:Nat→AV) (η:Heap) (u:Nat) (f:FuncId) (xs:Array Operand):Option Rec :=
 bif bodied P f then
  match mapF (fz η 64) (xs.toList.map (aev τ)) with
  | none=>none
  | some (fp,ys)=>match call f ys with
   | none=>none
   | some ret=>match ret with
    | .v y=>some ⟨fp,[],.v y,u⟩
    | ret=>bif fp.all (fun id=>(η id).isSome) then some ⟨fp,fp.map fun id=>(id,none),ret,u⟩ else none
 else none
theorem callE_ok {P:Program} {call:CallRun} (hcall:∀ f ys ret,call f ys=some ret→PCall P f ys ret) {τ:Nat→AV} {η:Heap} {u:Nat} {f:FuncId} {xs:Array Operand} {ats:Array TypeId} {d:Option Tmp} {ty:TypeId} {pos:String} {af:Array Edge} {g:Option (Nat×Bool)} {r:Rec} (h:callE P call τ η u f xs=some r) :
 LOp P ⟨d,.call { callee:=.value (.func f),args:=xs,argTypes:=ats },ty,pos,af,g⟩ τ η r.fp r.δ r.v:=by
 unfold callE at h
 cases hb:bodied P f with
 | false=>rw [hb] at h; simp only [cond_false] at h; cases h
 | true=>
  rw [hb] at h
  simp only [cond_true] at h
  split at h
  ·cases h
  ·rename_i fp ys hm
   obtain ⟨hl,hi⟩:=mapF_ok (fz_ok 64) _ _ _ hm
   have hl':xs.size=ys.length:=by rw [hl]; simp
   have hf:∀ i (h:i < xs.size) (h':i < ys.length),FzP fp η (aev τ xs[i]) ys[i]:=fun i h h'=>by have:=hi i (by simpa using h) h';simpa using this
   split at h
   ·cases h
   ·rename_i ret hr
    split at h
    ·rename_i y
     simp only [Option.some.injEq] at h
     subst h
     exact LOp.callB fp hb hl' hf (hcall _ _ _ hr)
    ·cases hu:fp.all (fun id=>(η id).isSome) with
     | false=>rw [hu] at h; simp only [cond_false] at h; cases h
     | true=>
      rw [hu] at h
      simp only [cond_true,Option.some.injEq] at h
      subst h
      exact LOp.callF fp hb hl' hf (fun id hid=>List.all_eq_true.1 hu id hid) (hcall _ _ _ hr)
end Go.Proofs.YtbhhmbchdponjaaGreatDoor
namespace Go.Proofs.YtbhhmbchdponjaaGreatDoor
set_option linter.unusedVariables false
set_option linter.unusedSimpArgs false
open Go.RowKit
section
variable {P:Program} {τ:Nat→AV} {η:Heap} {d:Option Tmp} {ty:TypeId} {pos:String} {af:Array Edge} {g:Option (Nat×Bool)}
theorem LOp.makeSlice (u:Nat) {t e len s bys:Nat} {z:Value} {x y:Operand} (he:P.underlying t=some (.slice e)) (hs:sizeInfo P e=some s) (hz:zeroOf P e=some z) (hby:(P.info? e).map (·.bytes)=some bys)
 (hx:aev τ x=.v (.int .i64 (Int.ofNat len))) (hy:aev τ y=.v (.int .i64 (Int.ofNat len))) (hl2:Nat.ble len 16777216=true) (hb2:Nat.ble (bys * len) 281474976710656=true) (hne:Nat.beq (len * s) 0=false) :
 LOp P ⟨d,.makeSlice t x y,ty,pos,af,g⟩ τ η [] [(u,some ⟨0,zerosA z (len * s),s,false⟩)] (.sl u 0 0 len):=by
 intro C a hg hxs _ hnew K Q hK
 have hu:¬ C.U u:=hnew (u,some ⟨0,zerosA z (len * s),s,false⟩) (by simp) (by simp)
 have hl2':=Nat.le_of_ble_eq_true hl2
 have hb2':=Nat.le_of_ble_eq_true hb2
 have e1:=hxs x (by simp [Op.operands])
 have e2:=hxs y (by simp [Op.operands])
 rw [hx] at e1
 rw [hy] at e2
 unfold sizeInfo at hs
 unfold zeroOf at hz
 cases hi:P.info? e with
 | none=>rw [hi] at hz; cases hz
 | some inf=>
  rw [hi] at hz hs hby
  simp only [Option.bind_some] at hz
  simp only [Option.map_some,Option.some.injEq] at hs hby
  subst hs hby
  let es:Array Value:=(Array.range (len * inf.size)).map fun i=>z.cells[i % z.cells.size]!
  have z1:(zerosA z (len * inf.size)).length=es.size:=by simp [zerosA,es]
  have z2:∀ i (h:i < (zerosA z (len * inf.size)).length) (h':i < es.size),VR C (zerosA z (len * inf.size))[i] es[i]:=fun i h h'=>by simp only [zerosA,List.getElem_map,List.getElem_range,es,Array.getElem_map,Array.getElem_range];exact VR.v C _
  have gsz:es.size=len * inf.size:=by simp [es]
  have hrun:(execOp a.eval ⟨d,.makeSlice t x y,ty,pos,af,g⟩).run P C.w=.ok (.value (.slice (some ⟨C.w.heap.size,0,none⟩) len len)) (C.w.alloc (.cells es e)):=by
   have h0:¬ (len * inf.size=0):=fun e=>by rw [e] at hne; cases hne
   have hw:IntKind.i64.wrap (Int.ofNat len)=Int.ofNat len:=IntWalk.i64_in _ (by constructor <;> simp <;> omega);have c1:¬ (((inf.bytes:Int) * Int.ofNat len > 2 ^ 48)):=by have:(inf.bytes:Int) * Int.ofNat len=((inf.bytes * len:Nat):Int):=(by simp);rw [this];omega
   have c2:¬ ((Int.ofNat len:Int) < 0):=by simp
   simp only [execOp,e1.v_inv,e2.v_inv,Instr.makeSlice,Sem.run_bind,run_underlying he,Result.andThen_ok,asInt,typeInfo,run_program,hi,Sem.run_pure];have a1:∀ w:World,(asIntOf (Value.int IntKind.i64 (Int.ofNat len))).run P w=.ok (IntKind.i64,Int.ofNat len) w:=fun w=>rfl
   simp only [a1,Result.andThen_ok,hw];have cc:(decide ((Int.ofNat len:Int) < 0)||decide ((inf.bytes:Int) * Int.ofNat len > 2 ^ 48)||decide ((Int.ofNat len:Int) < 0)||decide ((Int.ofNat len:Int) > Int.ofNat len))=false:=by simp only [Bool.or_eq_false_iff,decide_eq_false_iff_not];exact ⟨⟨⟨c2,c1⟩,c2⟩,Int.lt_irrefl _⟩
   rw [if_neg (by rw [cc]; exact Bool.false_ne_true)];have tn:(Int.ofNat len).toNat=len:=rfl
   simp only [tn,Sem.run_bind];have ar:∀ w:World,(askRoom (len * inf.bytes)).run P w=.ok () w:=fun w=>by unfold askRoom; split <;> rfl
   simp only [ar,Result.andThen_ok,sizeOf,typeInfo,Sem.run_bind,run_program,hi,Sem.run_pure];rw [if_neg h0];simp only [Sem.run_bind,zeroValue,typeInfo,run_program,hi,Sem.run_pure,Result.andThen_ok,hz];rfl
  unfold Oper.wp
  rw [hrun]
  refine hK _ (C.alloc u es e ⟨0,zerosA z (len * inf.size),inf.size,false⟩) rfl (fun i=>by simp [Ctx.alloc]) (Ctx.alloc_good hg hu rfl (Nat.le_of_eq z1) z2) (Ctx.alloc_ev hg hu rfl) ?_
  have h3:(C.alloc u es e ⟨0,zerosA z (len * inf.size),inf.size,false⟩).ρ u=(C.w.heap.size,0):=by simp [Ctx.alloc]
  have h4:(C.alloc u es e ⟨0,zerosA z (len * inf.size),inf.size,false⟩).sz u=es.size:=by simp [Ctx.alloc]
  have:=VR.sl (C:=C.alloc u es e ⟨0,zerosA z (len * inf.size),inf.size,false⟩) (id:=u) (ver:=0) (off:=0) (len:=len) (cap:=len) (b:=⟨0,zerosA z (len * inf.size),inf.size,false⟩) (Heap.set_same _ _ _) rfl rfl (Nat.le_refl _) (by unfold maxLen; omega) (by omega)
   (by rw [h3,h4,gsz]; simp)
  rw [h3] at this
  exact this
end
end Go.Proofs.YtbhhmbchdponjaaGreatDoor
namespace Go.Proofs.YtbhhmbchdponjaaGreatDoor
set_option linter.unusedVariables false
set_option linter.unusedSimpArgs false
open Go.RowKit
def oneR (tmps:Array Value):ResultVar→Sem Value
 | .tmp t=>pure (tmps.getD t undef)
 | .cell a t=>do loadVar t (← asAddr (tmps.getD a undef))
def OutR (P:Program) (N:Nat) (s:St) (r:ResultVar) (ret:AV):Prop :=
 ∀ C a,SRel N C s a→∃ x,(oneR a.tmps r).run P C.w=.ok x C.w∧TR (fun b=>C.T b∨C.mine b) C.w ret x
theorem Outs.two {P:Program} {N:Nat} {s:St} {r1 r2:ResultVar} {v1 v2:AV} {fn:Func} (hr:fn.results=#[r1,r2]) (h1:OutR P N s r1 v1) (h2:OutR P N s r2 v2):Outs P N fn s (.tup [v1,v2]):=by
 intro C a hs;obtain ⟨x,e1,t1⟩:=h1 C a hs;obtain ⟨y,e2,t2⟩:=h2 C a hs;refine ⟨.tuple #[x,y],?_,.tup rfl (fun i hi hi'=>?_)⟩;have hh:results fn a.tmps=(do let vs ← fn.results.mapM (oneR a.tmps); pure (if h:vs.size=1 then vs[0] else .tuple vs)):=by unfold results;congr 1
 rw [hh,hr];simp [Sem.run_bind,Result.andThen,e1,e2];match i,hi with
 | 0,_=>exact t1
 | 1,_=>exact t2
theorem OutR.tmp {P:Program} {N:Nat} {s:St} {ret:AV} {t:Nat} (h:∃ fp,FzP fp s.η (s.τ t) ret):OutR P N s (.tmp t) ret:=by intro C a hs;obtain ⟨fp,hf⟩:=h;exact ⟨a.tmps.getD t undef,by simp [oneR],(hf C hs.good (fun id _=>by rw [hs.η]) _ (hs.τ t)).mono (fun b hb=>hb.imp (fun h=>h) Ctx.mineOf_mine) (fun _ _=>rfl)⟩
end Go.Proofs.YtbhhmbchdponjaaGreatDoor
namespace Go.Proofs.YtbhhmbchdponjaaGreatDoor
set_option linter.unusedVariables false
set_option linter.unusedSimpArgs false
open Go.RowKit
def srcE (η:Heap) (sz:Nat):AV→Option (List Nat×Nat×List AV)
 | .tree n rows=>bif Nat.beq rows.flatten.length (rows.length * sz) then some ([],rows.length,rows.flatten) else none
 | .sl id ver off len=>bif Nat.beq len 0 then none else match liveB η id ver with
  | none=>none
  | some b=>match takeFrom off (len * sz) b.cs with
   | none=>none
   | some news=>some ([id],len,news)
 | _=>none
theorem srcE_ok {η:Heap} {sz m:Nat} {a:AV} {fp:List Nat} {news:List AV} (h:srcE η sz a=some (fp,m,news)):Src η fp a m news∧news.length=m * sz:=by
 unfold srcE at h
 split at h
 ·rename_i n rows
  cases hc:Nat.beq rows.flatten.length (rows.length * sz) with
  | false=>rw [hc] at h; simp only [cond_false] at h; cases h
  | true=>
   rw [hc] at h
   simp only [cond_true,Option.some.injEq,Prod.mk.injEq] at h
   obtain ⟨rfl,rfl,rfl⟩:=h
   exact ⟨Src.tree,Nat.eq_of_beq_eq_true hc⟩
 ·rename_i id ver off len
  cases hc:Nat.beq len 0 with
  | true=>rw [hc] at h; simp only [cond_true] at h; cases h
  | false=>
   rw [hc] at h
   simp only [cond_false] at h
   split at h
   ·cases h
   ·rename_i b hb
    obtain ⟨h1,h2,h3⟩:=liveB_ok hb
    split at h
    ·cases h
    ·rename_i ns ht
     simp only [Option.some.injEq,Prod.mk.injEq] at h
     obtain ⟨rfl,rfl,rfl⟩:=h
     obtain ⟨hle,he⟩:=takeFrom_eq _ _ _ _ ht
     have hl:ns.length=len * sz:=by rw [he]; simp; omega
     exact ⟨Src.sl h1 h2 h3 hc (by rw [hl]; exact ht),hl⟩
 ·cases h
def appendE (P:Program) (τ:Nat→AV) (η:Heap) (u t:Nat) (s x:Operand):Option Rec :=
 match P.underlying t with
 | some (.slice e)=>match sizeInfo P e with
  | none=>none
  | some sz=>match zeroOf P e with
   | none=>none
   | some z=>match (P.info? e).map (·.bytes) with
    | none=>none
    | some bys=>bif !Nat.beq z.cells.size sz then none else
     match srcE η sz (aev τ x) with
     | none=>none
     | some (fp,m,news)=>match aev τ s with
      | .v (.slice none 0 0)=>bif Nat.ble 1 m&&Nat.ble (m * bys) 140737488355328&&Nat.ble m 140737488355328&&!fp.contains u then
       some ⟨fp,[(u,some ⟨0,news,sz,false⟩)],.sl u 0 0 m,u+1⟩ else
       bif Nat.beq m 0&&news.isEmpty then some ⟨fp,[],.v (.slice none 0 0),u⟩ else none
      | .sl id ver 0 len=>match liveB η id ver with
       | none=>none
       | some b=>bif Nat.beq ver TV&&Nat.ble 1 m then
        (bif Nat.beq b.esz sz&&Nat.ble 1 sz&&Nat.beq (len * sz) b.cs.length&&Nat.ble 1 len&&Nat.ble ((len+m) * bys) 140737488355328&&Nat.ble (len+m) 140737488355328&&!(id :: fp).contains u then
         (match takeFrom 0 (len * sz) b.cs with
         | none=>none
         | some olds=>some ⟨id :: fp,[(u,some ⟨0,olds++news,sz,false⟩)],.sl u 0 0 (len+m),u+1⟩) else none)
        else bif Nat.beq b.esz sz&&Nat.ble (len * sz) b.cs.length&&news.all AV.one&&Nat.ble ((len+m) * bys) 140737488355328&&Nat.ble (len+m) 140737488355328&&!Nat.beq (ver+1) TV then
         (match takeFrom 0 (len * sz) b.cs with
         | none=>none
         | some olds=>some ⟨id :: fp,[(id,some ⟨ver+1,olds++news,sz,false⟩)],.sl id (ver+1) 0 (len+m),u⟩)
        else none
      | _=>none
 | _=>none
theorem appendE_ok {P:Program} {τ:Nat→AV} {η:Heap} {u t:Nat} {s x:Operand} {d:Option Tmp} {ty:TypeId} {pos:String} {af:Array Edge} {g:Option (Nat×Bool)} {r:Rec} (h:appendE P τ η u t s x=some r) :
 LOp P ⟨d,.call { callee:=.builtin .append,args:=#[s,x],argTypes:=#[t,t] },ty,pos,af,g⟩ τ η r.fp r.δ r.v:=by
 unfold appendE at h
 split at h
 ·rename_i e he
  split at h
  ·cases h
  ·rename_i sz hs
   split at h
   ·cases h
   ·rename_i z hz
    split at h
    ·cases h
    ·rename_i bys hby
     cases hzs:Nat.beq z.cells.size sz with
     | false=>rw [hzs] at h; simp at h
     | true=>
      rw [hzs] at h
      simp only [Bool.not_true,cond_false] at h
      have hzs:=Nat.eq_of_beq_eq_true hzs
      split at h
      ·cases h
      ·rename_i fp m news hsrc
       obtain ⟨hsr,hnl⟩:=srcE_ok hsrc
       split at h
       ·rename_i hx
        cases hc:(Nat.ble 1 m&&Nat.ble (m * bys) 140737488355328&&Nat.ble m 140737488355328&&!fp.contains u) with
        | true=>
         rw [hc] at h
         simp only [cond_true,Option.some.injEq] at h
         subst h
         simp only [Bool.and_eq_true] at hc
         obtain ⟨⟨⟨c1,c2⟩,c3⟩,c4⟩:=hc
         exact LOp.appendN he hs hz hby hzs hx (by simpa using c4) hsr (Nat.le_of_ble_eq_true c1) hnl (Nat.le_of_ble_eq_true c2) (Nat.le_of_ble_eq_true c3)
        | false=>
         rw [hc] at h
         simp only [cond_false] at h
         cases hc2:(Nat.beq m 0&&news.isEmpty) with
         | false=>rw [hc2] at h; simp only [cond_false] at h; cases h
         | true=>
          rw [hc2] at h
          simp only [cond_true,Option.some.injEq] at h
          subst h
          rw [Bool.and_eq_true] at hc2
          have e0:=Nat.eq_of_beq_eq_true hc2.1
          subst e0
          exact LOp.appendZ he hs hx hsr (List.isEmpty_iff.1 hc2.2)
       ·rename_i id ver len hx
        split at h
        ·cases h
        ·rename_i b hb
         obtain ⟨h1,h2,h3⟩:=liveB_ok hb
         cases htv:(Nat.beq ver TV&&Nat.ble 1 m) with
         | true=>
          rw [htv] at h
          simp only [cond_true] at h
          rw [Bool.and_eq_true] at htv
          have e1:=Nat.eq_of_beq_eq_true htv.1
          cases hc:(Nat.beq b.esz sz&&Nat.ble 1 sz&&Nat.beq (len * sz) b.cs.length&&Nat.ble 1 len&&Nat.ble ((len+m) * bys) 140737488355328&&Nat.ble (len+m) 140737488355328&&!(id :: fp).contains u) with
          | false=>rw [hc] at h; simp only [cond_false] at h; cases h
          | true=>
           rw [hc] at h
           simp only [cond_true] at h
           split at h
           ·cases h
           ·rename_i olds ho
            simp only [Option.some.injEq] at h
            subst h
            simp only [Bool.and_eq_true] at hc
            obtain ⟨⟨⟨⟨⟨⟨c1,c2⟩,c3⟩,c4⟩,c5⟩,c6⟩,c7⟩:=hc
            obtain ⟨_,e0⟩:=takeFrom_eq _ _ _ _ ho
            rw [List.drop_zero] at e0
            subst e0
            rw [e1] at hx h2
            exact LOp.appendT he hs hz hby hzs hx h1 h2 h3 (Nat.eq_of_beq_eq_true c1) (Nat.le_of_ble_eq_true c2) (Nat.eq_of_beq_eq_true c3) (Nat.le_of_ble_eq_true c4) (by simpa using c7) hsr (Nat.le_of_ble_eq_true htv.2) hnl (Nat.le_of_ble_eq_true c5) (Nat.le_of_ble_eq_true c6)
         | false=>
          rw [htv] at h
          simp only [cond_false] at h
          cases hc:(Nat.beq b.esz sz&&Nat.ble (len * sz) b.cs.length&&news.all AV.one&&Nat.ble ((len+m) * bys) 140737488355328&&Nat.ble (len+m) 140737488355328&&!Nat.beq (ver+1) TV) with
          | false=>rw [hc] at h; simp only [cond_false] at h; cases h
          | true=>
           rw [hc] at h
           simp only [cond_true] at h
           split at h
           ·cases h
           ·rename_i olds ho
            simp only [Option.some.injEq] at h
            subst h
            simp only [Bool.and_eq_true] at hc
            obtain ⟨⟨⟨⟨⟨c1,c2⟩,c3⟩,c4⟩,c5⟩,c6⟩:=hc
            obtain ⟨_,e0⟩:=takeFrom_eq _ _ _ _ ho
            rw [List.drop_zero] at e0
            subst e0
            exact LOp.append he hs hz hby hzs hx h1 h2 h3 (Nat.eq_of_beq_eq_true c1) (Nat.le_of_ble_eq_true c2) hsr hnl c3 (Nat.le_of_ble_eq_true c4) (Nat.le_of_ble_eq_true c5) (fun e=>by rw [e,Nat.beq_refl] at c6; cases c6)
       ·cases h
 ·cases h
def valsE:List AV→Option (List Value)
 | []=>some []
 | .v x :: l=>match valsE l with
  | some r=>some (x :: r)
  | none=>none
 | _=>none
def toVE:AV→Option Value
 | .v x=>some x
 | .agg cs=>match valsE cs with
  | some r=>some (.agg r.toArray)
  | none=>none
 | _=>none
theorem valsE_ok:∀ (l:List AV) (r:List Value),valsE l=some r→l=r.map .v
 | [],r,h=>by simp only [valsE,Option.some.injEq] at h; subst h; rfl
 | .v x :: l,r,h=>by
  simp only [valsE] at h
  cases h1:valsE l with
  | none=>rw [h1] at h; cases h
  | some r1=>
   rw [h1] at h
   simp only [Option.some.injEq] at h
   subst h
   rw [valsE_ok l r1 h1]
   rfl
 | .ptr _ _ _ :: l,r,h=>by simp [valsE] at h
 | .sl _ _ _ _ :: l,r,h=>by simp [valsE] at h
 | .tree _ _ :: l,r,h=>by simp [valsE] at h
 | .tp _ _ :: l,r,h=>by simp [valsE] at h
 | .clo _ _ :: l,r,h=>by simp [valsE] at h
 | .mp _ _ :: l,r,h=>by simp [valsE] at h
 | .it _ _ :: l,r,h=>by simp [valsE] at h
 | .agg _ :: l,r,h=>by simp [valsE] at h
 | .tup _ :: l,r,h=>by simp [valsE] at h
 | .unk :: l,r,h=>by simp [valsE] at h
theorem toVE_ok {C:Ctx} {a:AV} {x y:Value} (hx:VR C a x) (h:toVE a=some y):x=y:=by unfold toVE at h;split at h;simp only [Option.some.injEq] at h;subst h;exact hx.v_inv;rename_i cs;split at h;rename_i r hr;simp only [Option.some.injEq] at h;subst h;obtain rfl:=valsE_ok _ _ hr;obtain ⟨vs,rfl,h1,h2⟩:=hx.agg_inv;congr 1;simp only [List.length_map] at h1;apply Array.ext;simp;omega;intro i hi hi';have:=(h2 i (by simp; simpa using hi') hi);simp only [List.getElem_map] at this;simpa using this.v_inv;cases h;cases h
def valE (a:AV):Value:=match toVE a with
 | some y=>y
 | none=>undef
def plain2E (P:Program) (τ:Nat→AV) (o:Oper):Option Value :=
 bif isSelect o.op then none else
 bif o.op.operands.toList.all (fun x=>(toVE (aev τ x)).isSome) then
  match quiet P (execOp (fun x=>valE (aev τ x)) o) with
  | some (.value y)=>some y
  | _=>none
 else none
theorem plain2E_ok {P:Program} {τ:Nat→AV} {η:Heap} {o:Oper} {y:Value} (h:plain2E P τ o=some y):LOp P o τ η [] [] (.v y):=by
 unfold plain2E at h
 cases hs:isSelect o.op with
 | true=>rw [hs] at h; simp only [cond_true] at h; cases h
 | false=>
  rw [hs] at h
  simp only [cond_false] at h
  cases hv:o.op.operands.toList.all (fun x=>(toVE (aev τ x)).isSome) with
  | false=>rw [hv] at h; simp only [cond_false] at h; cases h
  | true=>
   rw [hv] at h
   simp only [cond_true] at h
   split at h
   ·rename_i y' hq
    simp only [Option.some.injEq] at h
    subst h
    refine .look [] fun C a hg hx _=>⟨y',?_,VR.v C y'⟩
    rw [← quiet_run _ _ hq C.w,execOp_congr o (fun cs b e=>by rw [e] at hs; simp [isSelect] at hs)]
    intro x hm
    have h1:=List.all_eq_true.1 hv x (by simpa using hm)
    obtain ⟨z,hz⟩:=Option.isSome_iff_exists.1 h1
    have h2:=toVE_ok (hx x hm) hz
    simp only [valE,hz]
    exact h2
   ·cases h
theorem lN {P:Program} {τ:Nat→AV} {η:Heap} {d:Option Tmp} {ty:TypeId} {pos:String} {af:Array Edge} {g:Option (Nat×Bool)} {x:Operand} {id ver o:Nat} {b:Blk} (hx:aev τ x=.ptr id ver o) (hb:η id=some b) (hv:b.ver=ver) :
 LOp P ⟨d,.nilCheck x,ty,pos,af,g⟩ τ η [id] [] (.ptr id ver o) :=
 .look [id] fun C a hg hxs hfp=>by have hb':C.η id=some b:=(hfp id (by simp)).trans hb;have h1:=hxs x (by simp [Op.operands]);rw [hx] at h1;have h2:=h1.ptr_inv hb' hv;refine ⟨a.eval x,?_,h1⟩;simp only [execOp];rw [h2];rfl
theorem LOp.nilCheckT {P:Program} {τ:Nat→AV} {η:Heap} {d:Option Tmp} {ty:TypeId} {pos:String} {af:Array Edge} {g:Option (Nat×Bool)} {x:Operand} {cs:List AV} {o:Nat} (hx:aev τ x=.tp cs o) :
 LOp P ⟨d,.nilCheck x,ty,pos,af,g⟩ τ η [] [] (.tp cs o) :=
 .look [] fun C a hg hxs hfp=>by
  have h1:=hxs x (by simp [Op.operands]);rw [hx] at h1;have h2:=h1.tp_inv
  refine ⟨a.eval x,?_,h1⟩;generalize hxe:a.eval x=xv at h2;cases h2 with
  | tp cell hT hc hr=>
   simp only [execOp]
   rw [hxe]
   rfl
def plainR (P:Program) (τ:Nat→AV) (o:Oper) (u:Nat):Option Rec:=match plainE P τ o with
 | some y=>some ⟨[],[],.v y,u⟩
 | none=>match plain2E P τ o with
  | some y=>some ⟨[],[],.v y,u⟩
  | none=>none
theorem plainR_ok {P:Program} {τ:Nat→AV} {η:Heap} {o:Oper} {u:Nat} {r:Rec} (h:plainR P τ o u=some r):LOp P o τ η r.fp r.δ r.v:=by grind [plainR,Option.some.injEq,plainE_ok,plain2E_ok]
def build0E (P:Program) (u t:Nat):Option Rec:=match P.underlying t with
 | some (.slice e)=>match sizeInfo P e with
  | some s=>some ⟨[],[(u,some ⟨0,[],s,false⟩)],.sl u 0 0 0,u+1⟩
  | none=>none
 | _=>none
theorem build0E_ok {P:Program} {τ:Nat→AV} {η:Heap} {u t:Nat} {d:Option Tmp} {ty:TypeId} {pos:String} {af:Array Edge} {g:Option (Nat×Bool)} {r:Rec} (h:build0E P u t=some r) :
 LOp P ⟨d,.buildSlice t 0 #[],ty,pos,af,g⟩ τ η r.fp r.δ r.v:=by grind [build0E,Option.some.injEq,LOp.buildSlice0]
def makeSliceE (P:Program) (τ:Nat→AV) (u t:Nat) (x y:Operand):Option Rec:=match P.underlying t with
 | some (.slice e)=>match sizeInfo P e with
  | none=>none
  | some s=>match zeroOf P e with
   | none=>none
   | some z=>match (P.info? e).map (·.bytes) with
    | none=>none
    | some bys=>match aev τ x with
     | .v (.int .i64 (Int.ofNat len))=>match aev τ y with
      | .v (.int .i64 (Int.ofNat cap))=>bif Nat.beq len cap&&Nat.ble len 16777216&&Nat.ble (bys * len) 281474976710656&&!Nat.beq (len * s) 0 then
       some ⟨[],[(u,some ⟨0,zerosA z (len * s),s,false⟩)],.sl u 0 0 len,u+1⟩ else none
      | _=>none
     | _=>none
 | _=>none
theorem makeSliceE_ok {P:Program} {τ:Nat→AV} {η:Heap} {u t:Nat} {x y:Operand} {d:Option Tmp} {ty:TypeId} {pos:String} {af:Array Edge} {g:Option (Nat×Bool)} {r:Rec} (h:makeSliceE P τ u t x y=some r) :
 LOp P ⟨d,.makeSlice t x y,ty,pos,af,g⟩ τ η r.fp r.δ r.v:=by
 unfold makeSliceE at h
 split at h
 ·rename_i e he
  split at h
  ·cases h
  ·rename_i s hs
   split at h
   ·cases h
   ·rename_i z hz
    split at h
    ·cases h
    ·rename_i bys hby
     split at h
     ·rename_i len hx
      split at h
      ·rename_i cap hy
       cases hc:(Nat.beq len cap&&Nat.ble len 16777216&&Nat.ble (bys * len) 281474976710656&&!Nat.beq (len * s) 0) with
       | false=>rw [hc] at h; simp only [cond_false] at h; cases h
       | true=>
        rw [hc] at h
        simp only [cond_true,Option.some.injEq] at h
        subst h
        simp only [Bool.and_eq_true] at hc
        obtain ⟨⟨⟨c1,c2⟩,c3⟩,c4⟩:=hc
        obtain rfl:=Nat.eq_of_beq_eq_true c1
        exact LOp.makeSlice u he hs hz hby hx hy c2 c3 (by simpa using c4)
      ·cases h
     ·cases h
 ·cases h
def opE (P:Program) (call:CallRun):OpRun:=fun o E=>
 match o.op with
 | .move x=>some ⟨[],[],aev (triτ E.t) x,E.u⟩
 | .assign x=>some ⟨[],[],aev (triτ E.t) x,E.u⟩
 | .pick c x y=>match aev (triτ E.t) c with
  | .v (.bool true)=>some ⟨[],[],aev (triτ E.t) x,E.u⟩
  | .v (.bool false)=>some ⟨[],[],aev (triτ E.t) y,E.u⟩
  | _=>none
 | .alloc t=>allocE P E.u t
 | .box t x=>newE E.u (cellsO (aev (triτ E.t) x))
 | .build t parts=>buildE P (triτ E.t) E.u t parts
 | .buildSlice t 0 ⟨[]⟩=>build0E P E.u t
 | .buildSlice t len parts=>buildSliceE P (triτ E.t) E.u t len parts
 | .makeSlice t x y=>makeSliceE P (triτ E.t) E.u t x y
 | .load t x=>loadE P (triτ E.t) (triη E.h) E.u t x
 | .store t x y=>storeE P (triτ E.t) (triη E.h) E.u t x y
 | .fieldAddr t x i=>fieldAddrE P (triτ E.t) (triη E.h) E.u t x i
 | .indexAddr t x i=>indexAddrE P (triτ E.t) (triη E.h) E.u t x i
 | .nilCheck x=>match aev (triτ E.t) x with
  | .ptr id ver o=>match liveB (triη E.h) id ver with
   | some b=>some ⟨[id],[],.ptr id ver o,E.u⟩
   | none=>none
  | .tp cs o=>some ⟨[],[],.tp cs o,E.u⟩
  | _=>plainR P (triτ E.t) o E.u
 | .extract x i=>match aev (triτ E.t) x with
  | .tup cs=>match cs[i]? with
   | some v=>some ⟨[],[],v,E.u⟩
   | none=>none
  | _=>plainR P (triτ E.t) o E.u
 | .call ⟨.value (.func f),xs,ats⟩=>callE P call (triτ E.t) (triη E.h) E.u f xs
 | .call ⟨.builtin .len,⟨[x]⟩,ats⟩=>match lenE P (triτ E.t) (triη E.h) E.u x ats with
  | some r=>some r
  | none=>plainR P (triτ E.t) o E.u
 | .call ⟨.builtin .append,⟨[s,x]⟩,⟨[t,t']⟩⟩=>bif Nat.beq t t' then appendE P (triτ E.t) (triη E.h) E.u t s x else none
 | _=>plainR P (triτ E.t) o E.u
theorem opE_ok {P:Program} {call:CallRun} (hcall:∀ f ys ret,call f ys=some ret→PCall P f ys ret):(opE P call).Ok P:=by
 intro o E r h
 obtain ⟨d,op,ty,pos,af,g⟩:=o
 unfold opE at h
 simp only at h
 split at h
 ·simp only [Option.some.injEq] at h; subst h; exact LOp.move _
 ·simp only [Option.some.injEq] at h; subst h; exact LOp.assign _
 ·split at h
  ·rename_i hc
   simp only [Option.some.injEq] at h; subst h; exact LOp.pkT hc rfl rfl
  ·rename_i hc
   simp only [Option.some.injEq] at h; subst h; exact LOp.pkF hc rfl rfl
  ·cases h
 ·unfold allocE at h
  split at h
  ·rename_i z hz
   obtain ⟨vs,h1,rfl⟩:=newE_ok h
   exact LOp.al hz h1
  ·cases h
 ·obtain ⟨vs,h1,rfl⟩:=newE_ok h
  exact LOp.bx h1
 ·exact buildE_ok h
 ·exact build0E_ok h
 ·exact buildSliceE_ok h
 ·exact makeSliceE_ok h
 ·exact loadE_ok h
 ·exact storeE_ok h
 ·exact fieldAddrE_ok h
 ·exact indexAddrE_ok h
 ·split at h
  ·rename_i id ver o hx
   split at h
   ·rename_i b hb
    obtain ⟨h1,h2,h3⟩:=liveB_ok hb
    simp only [Option.some.injEq] at h; subst h
    exact lN hx h1 h2
   ·cases h
  ·rename_i cs o hx
   simp only [Option.some.injEq] at h; subst h
   exact LOp.nilCheckT hx
  ·exact plainR_ok h
 ·split at h
  ·rename_i cs hx
   split at h
   ·rename_i v hv
    simp only [Option.some.injEq] at h; subst h
    exact LOp.extract hx hv
   ·cases h
  ·exact plainR_ok h
 ·exact callE_ok hcall h
 ·split at h
  ·rename_i r' hr
   simp only [Option.some.injEq] at h; subst h
   exact lenE_ok hr
  ·exact plainR_ok h
 ·rename_i s x t t'
  cases ht:Nat.beq t t' with
  | false=>rw [ht] at h; simp only [cond_false] at h; cases h
  | true=>
   rw [ht] at h
   simp only [cond_true] at h
   obtain rfl:=Nat.eq_of_beq_eq_true ht
   exact appendE_ok h
 ·exact plainR_ok h
def putArgs:Nat→List AV→Tri AV→Option (Tri AV)
 | _,[],t=>some t
 | k,a :: l,t=>match Tri.set 24 t k a with
  | some t'=>putArgs (k+1) l t'
  | none=>none
theorem putArgs_eq:∀ (l:List AV) (k:Nat) (t t':Tri AV),putArgs k l t=some t'→∀ i,triτ t' i=if h:k≤i∧i < k+l.length then l[i - k]'(by omega) else triτ t i:=by
 intro l;induction l with
 | nil=>
  intro k t t' h i
  simp only [putArgs,Option.some.injEq] at h
  subst h
  rw [dif_neg (by simp <;> omega)]
 | cons a l ih=>
  intro k t t' h i
  simp only [putArgs] at h
  cases h1:Tri.set 24 t k a with
  | none=>rw [h1] at h; cases h
  | some t1=>
   rw [h1] at h
   rw [ih _ _ _ h i,triτ_set h1]
   by_cases e:i=k
   ·subst e
    rw [dif_neg (by omega),dif_pos (by simp)]
    simp [upd]
   ·by_cases hh:k+1≤i∧i < k+1+l.length
    ·rw [dif_pos hh,dif_pos (by simp; omega)]
     have:i - k=i - (k+1)+1:=by omega
     simp [this]
    ·rw [dif_neg hh,dif_neg (by simp; omega)]
     simp only [upd,beq_dec,e,decide_false,cond_false]
end Go.Proofs.YtbhhmbchdponjaaGreatDoor
