/- Texts of the claim. -/
import Derived.Test.YtmbmbhkemgmhfaaGreatDoorE1
namespace Go.Proofs.YtmbmbhkemgmhfaaGreatDoor
set_option linter.unusedVariables false
set_option linter.unusedSimpArgs false
open Go.RowKit
section
variable{P:Program}{τ:Nat->AV}{η:bf}{d:Option Tmp}{ty:TypeId}{pos:String}{af:Array Edge}{g:Option (Nat×Bool)}
theorem d4{w:World}{r:Nat}{es:Array MapEntry}{clock:Nat}(h:w.heap[r]? =some (.map es clock)):(getObj r).run P w=.ok (.map es clock) w:=by simp[getObj,Sem.run,h]
theorem fo{w:World}{r:Nat}{o o':Obj}(h:w.heap[r]? =some o)(hn:∀c t f,o≠.cells c t f):(setObj r o').run P w=.ok () {w with heap:=w.heap.setIfInBounds r o'}:=by unfold setObj;unfold Sem.run;rw[h];cases o<;>first|rfl|(exact absurd rfl (hn _ _ _))
theorem x5{w:World}{o:Obj}:(newObj o).run P w=.ok w.heap.size (w.alloc o):=rfl
theorem yf{C:Ctx}(hg:Good C){id ver clock:Nat}{b:Blk}{es:List (Value×AV×Nat)}(hb:C.η id=some b)(he:b=b5 ver b.esz clock es):
 ∃entries,C.w.heap[(C.ρ id).1]? =some (.map entries clock)/\es.length=entries.size/\∀i (h:i<es.length) (h':i<entries.size),entries[i].key=es[i].1/\VR C es[i].2.1 entries[i].val/\entries[i].born=es[i].2.2:=by
 have hk:b.kind=2:=by rw[he];rfl
 obtain⟨o,h1,h2⟩:=hg.obj hb hk
 have h0:b.cs=i7 clock es:=by rw[he];rfl
 rw[h0]at h2
 obtain⟨entries,rfl,h3,h4⟩:=h2.map_inv
 exact⟨entries,h1,h3,h4⟩
theorem LOp.makeMap(u:Nat){t:Nat}:LOp P ⟨d,.makeMap t none,ty,pos,af,g⟩ τ η [] [(u,some (b5 0 0 0 []))] (.mp u 0):=by intro C a hg hxs _ h0 K Q hK;have hu:¬C.U u:=h0 (u,some (b5 0 0 0 [])) (by simp) (by simp);have h1:(execOp a.eval ⟨d,.makeMap t none,ty,pos,af,g⟩).run P C.w=.ok (.value (.map (some C.w.heap.size))) (C.w.alloc (.map #[] 0)):=rfl;unfold Oper.wp;rw[h1];have h2:ObjR C (b5 0 0 0 []).cs (.map #[] 0):=ObjR.map (es:=[]) rfl (fun i h=>absurd h (by simp));refine hK _ (C.allocO u (.map #[] 0) (b5 0 0 0 [])) rfl (fun i=>by simp[Ctx.allocO]) (oh hg hu rfl h2) (my hg hu) ?_;have:=VR.mp (C:=C.allocO u (.map #[] 0) (b5 0 0 0 [])) (id:=u) (ver:=0) (am _ _ _) rfl rfl;have e:((C.allocO u (.map #[] 0) (b5 0 0 0 [])).ρ u).1=C.w.heap.size:=(by simp[Ctx.allocO]);rw[e]at this;exact this
def B4(P:Program)(τ:Nat->AV)(η:bf)(u t:Nat)(x i:Operand)(ok:Bool):Option Rec:=
 match P.underlying t with
 |some (.map kt et)=>match aev τ i with
  |.v k=>match bi P et with
   |none=>none
   |some z=>match aev τ x with
    |.mp id ver=>match qa η id ver with
     |none=>none
     |some (b,clock,es)=>match pg P kt k es with
      |none=>none
      |some none=>some ⟨[id],[],bif ok then .tup [.v z,.v (.bool false)]else .v z,u⟩
      |some (some j)=>match es[j]? with
       |none=>none
       |some e=>some ⟨[id],[],bif ok then .tup [e.2.1,.v (.bool true)]else e.2.1,u⟩
    |.v (.map none)=>match pg P kt k []with
     |some none=>some ⟨[],[],bif ok then .tup [.v z,.v (.bool false)]else .v z,u⟩
     |_=>none
    |_=>none
  |_=>none
 |_=>none
theorem VR.pair{C:Ctx}{a b:AV}{x y:Value}(h1:VR C a x)(h2:VR C b y):VR C (.tup [a,b]) (.tuple #[x,y]):=by
 refine .tup rfl (fun i h h'=>?_);match i,h with
 |0,_=>exact h1
 |1,_=>exact h2
theorem j5{t:Nat}{z:Value}(hz:bi P t=some z)(w:World):(zeroValue t).run P w=.ok z w:=by
 unfold bi at hz
 cases hi:P.info? t with
 |none=>rw[hi]at hz;cases hz
 |some inf=>
  rw[hi]at hz
  simp only[ahq]at hz
  simp only[zeroValue,typeInfo,Sem.run_bind,run_program,hi,ahd,ahc,hz]
theorem sj{es:List (Value×AV×Nat)}{entries:Array MapEntry}(hl:es.length=entries.size):entries.isEmpty=es.isEmpty:=by
 cases es with
 |nil=>simp only[ahg]at hl;simp[Array.isEmpty,<-hl]
 |cons e l=>
  simp only[ahf]at hl
  simp[Array.isEmpty,<-hl]
theorem ow{u t:Nat}{x i:Operand}{ok:Bool}{r:Rec}(h:B4 P τ η u t x i ok=some r):LOp P ⟨d,.lookup t x i ok,ty,pos,af,g⟩ τ η r.fp r.δ r.v:=by
 unfold B4 at h
 split at h
 ·rename_i kt et hu
  split at h
  ·rename_i k hk
   split at h
   ·cases h
   ·rename_i z hz
    split at h
    ·rename_i id ver hx
     split at h
     ·cases h
     ·rename_i b clock es hb
      obtain⟨h6,h3⟩:=jp hb
      have main:∀(v:AV) (jr:Option Nat),pg P kt k es=some jr->(jr=none->v=.v z)->(∀j,jr=some j->∃e,es[j]? =some e/\v=e.2.1)->
       LOp P ⟨d,.lookup t x i ok,ty,pos,af,g⟩ τ η [id] [] (bif ok then .tup [v,.v (.bool jr.isSome)]else v):=by
       intro v jr hf h0 h1
       refine .look [id] fun C a hg h2 h4=>?_
       have h5:C.η id=some b:=(h4 id (by simp)).trans h6
       have e1:=h2 x (by simp[Op.operands])
       have e2:=h2 i (by simp[Op.operands])
       rw[hx]at e1
       rw[hk]at e2
       have e1':=e1.mp_inv h5 (by rw[h3];rfl)
       have e2':=e2.v_inv
       obtain⟨entries,g1,g2,g3⟩:=yf hg h5 h3
       obtain⟨c1,c2⟩:=kv g2 g3 hf C.w
       have c1':=(c1 entries.isEmpty).resolve_right (by rw[sj g2];simp)
       rcases c2 with⟨rfl,hr⟩|⟨j,rfl,hj,hr⟩
       ·refine⟨if ok then .tuple #[z,.bool false]else z,by simp only[execOp,e1',e2',Instr.lookup,Sem.run_bind,run_underlying hu,ahc,d4 g1,ahd,c1',hr,j5 hz],?_⟩
        rw[h0 rfl]
        cases ok with
        |true=>exact VR.pair (VR.v C _) (VR.v C _)
        |false=>exact VR.v C _
       ·obtain⟨e,he,rfl⟩:=h1 j rfl
        obtain⟨h7,rfl⟩:=ahn.1 he
        refine⟨if ok then .tuple #[entries[j].val,.bool true]else entries[j].val,by simp only[execOp,e1',e2',Instr.lookup,Sem.run_bind,run_underlying hu,ahc,d4 g1,ahd,c1',hr],?_⟩
        have hv:=(g3 j h7 hj).2.1
        cases ok with
        |true=>exact VR.pair hv (VR.v C _)
        |false=>exact hv
      split at h
      ·cases h
      ·rename_i hf
       simp only[agw]at h
       subst h
       exact main (.v z) none hf (fun _=>rfl) (fun j hj=>by cases hj)
      ·rename_i j hf
       split at h
       ·cases h
       ·rename_i e he
        simp only[agw]at h
        subst h
        exact main e.2.1 (some j) hf (fun hj=>by cases hj) (fun j' hj=>by cases hj;exact⟨e,he,rfl⟩)
    ·rename_i hx
     split at h
     ·rename_i hf
      simp only[agw]at h
      subst h
      refine .look [] fun C a hg h2 h4=>?_
      have e1:=h2 x (by simp[Op.operands])
      have e2:=h2 i (by simp[Op.operands])
      rw[hx]at e1
      rw[hk]at e2
      have e1':=e1.v_inv
      have e2':=e2.v_inv
      obtain⟨c1,c2⟩:=kv (C:=C) (es:=[]) (entries:=#[]) rfl (fun i h=>absurd h (by simp)) hf C.w
      have c1':=(c1 true).resolve_right (by simp)
      have hr:(Instr.findKey kt k []).run P C.w=.ok none C.w:=by
       rcases c2 with⟨_,hr⟩|⟨j,hj,_⟩
       ·exact hr
       ·cases hj
      refine⟨if ok then .tuple #[z,.bool false]else z,?_,?_⟩
      ·simp only[execOp,e1',e2',Instr.lookup,Sem.run_bind,run_underlying hu,ahc,ahd]
       have e0:(#[]:Array MapEntry).isEmpty=true:=rfl
       simp only[e0,c1',hr,ahc,Sem.run_bind,j5 hz,ahd]
      ·cases ok with
       |true=>exact VR.pair (VR.v C _) (VR.v C _)
       |false=>exact VR.v C _
     ·cases h
    ·cases h
  ·cases h
 ·cases h
theorem jm{o:Oper}{id ver clock clock':Nat}{b:Blk}{es es':List (Value×AV×Nat)}{v:AV}{res:Value->Next}(h7:η id=some b)(h3:b=b5 ver b.esz clock es)
 (h:∀(C:Ctx) (a:Act),Good C->(∀x∈o.op.operands,VR C (aev τ x) (a.eval x))->C.η id=some b->∀entries,C.w.heap[(C.ρ id).1]? =some (.map entries clock)->es.length=entries.size->(∀i (h:i<es.length) (h':i<entries.size),entries[i].key=es[i].1/\VR C es[i].2.1 entries[i].val/\entries[i].born=es[i].2.2)->
  ∃entries' nx,(execOp a.eval o).run P C.w=.ok nx {C.w with heap:=C.w.heap.setIfInBounds (C.ρ id).1 (.map entries' clock')}/\(nx=.skip/\v=.v undef\/∃x,nx=.value x/\VR C v x)/\es'.length=entries'.size/\(∀i (h:i<es'.length) (h':i<entries'.size),entries'[i].key=es'[i].1/\VR C es'[i].2.1 entries'[i].val/\entries'[i].born=es'[i].2.2)):
 LOp P o τ η [id] [(id,some (b5 ver b.esz clock' es'))] v:=by
 intro C a hg h8 h9 _ K Q hK
 have h0:C.η id=some b:=(h9 id (by simp)).trans h7
 obtain⟨entries,g1,g2,g3⟩:=yf hg h0 h3
 obtain⟨entries',nx,r1,r2,r3,r4⟩:=h C a hg h8 h0 entries g1 g2 g3
 have h5:b.kind=2:=by rw[h3];rfl
 have h1:(b5 ver b.esz clock' es').ver=b.ver:=by rw[h3];rfl
 have h2:(b5 ver b.esz clock' es').esz=b.esz:=rfl
 have h4:=qk (C:=C) (o:=.map entries' clock') (b:=b5 ver b.esz clock' es') hg h0 h5 rfl h1 h2
 have h6:=rp (C:=C) (o:=.map entries' clock') (b:=b5 ver b.esz clock' es') hg h0 h5 rfl h1 h2 (ObjR.map r3 r4)
 have hU:∀i,(C.setO id (b5 ver b.esz clock' es') (.map entries' clock')).U i↔C.U i\/i∈[(id,some (b5 ver b.esz clock' es'))].map (·.1):=fun i=>by simp[Ctx.setO];rintro rfl;exact hg.used h0
 unfold Oper.wp
 rw[r1]
 rcases r2 with⟨rfl,rfl⟩|⟨x,rfl,hx⟩
 ·exact hK undef _ rfl hU h6 h4 (VR.v _ _)
 ·exact hK x _ rfl hU h6 h4 (hx.mono hg h4)
def iw{α:Type}:List α->Nat->α->List α
 |[],_,_=>[]
 |_::l,0,a=>a::l
 |x::l,n+1,a=>x::iw l n a
theorem iu{α:Type}:∀(l:List α) (n:Nat) (a:α),(iw l n a).length=l.length
 |[],_,_=>rfl
 |_::l,0,a=>rfl
 |x::l,n+1,a=>by simp[iw,iu l]
theorem om{α:Type}:∀(l:List α) (n:Nat) (a:α) (i:Nat) (h:i<(iw l n a).length),(iw l n a)[i]=if i=n then a else l[i]'(by rw[iu]at h;exact h)
 |[],_,_,i,h=>absurd h (by simp[iw])
 |x::l,0,a,0,h=>by simp[iw]
 |x::l,0,a,i+1,h=>by simp[iw]
 |x::l,n+1,a,0,h=>by simp[iw]
 |x::l,n+1,a,i+1,h=>by have:=om l n a i (by simpa[iw]using h);simp only[iw,List.getElem_cons_succ,this];by_cases e:i=n<;>simp[e]
def ny(P:Program)(τ:Nat->AV)(η:bf)(u t:Nat)(m k x:Operand):Option Rec:=
 match P.underlying t with
 |some (.map kt et)=>match aev τ k with
  |.v key=>match aev τ m with
   |.mp id ver=>match qa η id ver with
    |none=>none
    |some (b,clock,es)=>match da P (Instr.checkKey false 10000 kt key)with
     |none=>none
     |some _=>match pg P kt key es with
      |none=>none
      |some none=>some ⟨[id],[(id,some (b5 ver b.esz (clock+1) (es++[(key,aev τ x,clock)])))],.v undef,u⟩
      |some (some j)=>match es[j]? with
       |none=>none
       |some e=>bif Instr.sameBits 10000 e.1 key then some ⟨[id],[(id,some (b5 ver b.esz clock (iw es j (key,aev τ x,e.2.2))))],.v undef,u⟩else none
   |_=>none
  |_=>none
 |_=>none
theorem kb{u t:Nat}{m k x:Operand}{r:Rec}{op:Op}(ha:op=.mapUpdate t m k x\/op=.insert t m k x)(h:ny P τ η u t m k x=some r):LOp P ⟨d,op,ty,pos,af,g⟩ τ η r.fp r.δ r.v:=by
 unfold ny at h
 split at h
 ·rename_i kt et hu
  split at h
  ·rename_i key hk
   split at h
   ·rename_i id ver hm
    split at h
    ·cases h
    ·rename_i b clock es hb
     obtain⟨hc,h6⟩:=jp hb
     split at h
     ·cases h
     ·rename_i q hq
      have hd:∀(a:Act) (w:World),(execOp a.eval ⟨d,op,ty,pos,af,g⟩).run P w=((Instr.mapUpdate t (a.eval m) (a.eval k) (a.eval x)).run P w).andThen fun _ w=>.ok .skip w:=by
       intro a w
       rcases ha with rfl|rfl<;>simp only[execOp,Sem.run_bind]<;>rfl
      have h0:m∈op.operands/\k∈op.operands/\x∈op.operands:=by rcases ha with rfl|rfl<;>simp[Op.operands]
      have h3:(⟨d,op,ty,pos,af,g⟩:Oper).op.operands=op.operands:=rfl
      split at h
      ·cases h
      ·rename_i hf
       simp only[agw]at h
       subst h
       refine jm (res:=.value) hc h6 fun C a hg h4 h7 entries g1 g2 g3=>?_
       have e1:=h4 m (by rw[h3];exact h0.1)
       have e2:=h4 k (by rw[h3];exact h0.2.1)
       have e3:=h4 x (by rw[h3];exact h0.2.2)
       rw[hm]at e1
       rw[hk]at e2
       have e1':=e1.mp_inv h7 (by rw[h6];rfl)
       have e2':=e2.v_inv
       obtain⟨_,c2⟩:=kv g2 g3 hf C.w
       have hr:(Instr.findKey kt key entries.toList).run P C.w=.ok none C.w:=by
        rcases c2 with⟨_,hr⟩|⟨j,hj,_⟩
        ·exact hr
        ·cases hj
       refine⟨entries.push {key,val:=a.eval x,born:=clock},.skip,?_,.inl ⟨rfl,rfl⟩,by simp[g2],fun i h1 h2=>?_⟩
       ·rw[hd,e1',e2']
        simp only[Instr.mapUpdate,Sem.run_bind,run_underlying hu,ahc,d4 g1,iz _ _ hq,hr,fo g1 (fun _ _ _ e=>by cases e)]
       ·by_cases hi:i<es.length
        ·have hl:i<entries.size:=by omega
         have q1:(es++[(key,aev τ x,clock)])[i]=es[i]:=List.getElem_append_left hi
         have q2:(entries.push {key,val:=a.eval x,born:=clock})[i]=entries[i]:=Array.getElem_push_lt hl
         rw[q1,q2]
         exact g3 i hi hl
        ·have ho:i=es.length:=by simp at h1;omega
         subst ho
         have q1:(es++[(key,aev τ x,clock)])[es.length]=(key,aev τ x,clock):=by simp
         have q2:(entries.push {key,val:=a.eval x,born:=clock})[es.length]={key,val:=a.eval x,born:=clock}:=by simp[g2]
         rw[q1,q2]
         exact⟨rfl,e3,rfl⟩
      ·rename_i j hf
       split at h
       ·cases h
       ·rename_i e he
        cases hs:Instr.sameBits 10000 e.1 key with
        |false=>rw[hs]at h;simp at h
        |true=>
         rw[hs]at h
         simp only[cond_true,agw]at h
         subst h
         refine jm (res:=.value) hc h6 fun C a hg h4 h7 entries g1 g2 g3=>?_
         have e1:=h4 m (by rw[h3];exact h0.1)
         have e2:=h4 k (by rw[h3];exact h0.2.1)
         have e3:=h4 x (by rw[h3];exact h0.2.2)
         rw[hm]at e1
         rw[hk]at e2
         have e1':=e1.mp_inv h7 (by rw[h6];rfl)
         have e2':=e2.v_inv
         obtain⟨_,c2⟩:=kv g2 g3 hf C.w
         obtain⟨hn,rfl⟩:=ahn.1 he
         have hj:j<entries.size:=by omega
         have hr:(Instr.findKey kt key entries.toList).run P C.w=.ok (some (j,entries[j].val)) C.w:=by
          rcases c2 with⟨hh,_⟩|⟨j',hh,_,hr⟩
          ·cases hh
          ·cases hh;exact hr
         refine⟨entries.modify j fun e=>{e with key,val:=a.eval x},.skip,?_,.inl ⟨rfl,rfl⟩,by rw[iu];simp[g2],fun i h1 h2=>?_⟩
         ·have h8:((entries[j]?).map (·.key)).getD key=es[j].1:=by
           rw[Array.getElem?_eq_getElem hj]
           exact(g3 j hn hj).1
          have h5:∀w:World,(Instr.keyThatStays (((entries[j]?).map (·.key)).getD key) key).run P w=.ok key w:=fun w=>by
           rw[h8]
           simp only[Instr.keyThatStays,hs,if_true]
           rfl
          rw[hd,e1',e2']
          simp only[Instr.mapUpdate,Sem.run_bind,run_underlying hu,ahc,d4 g1,iz _ _ hq,hr,h5,fo g1 (fun _ _ _ e=>by cases e)]
         ·have hp:i<es.length:=by rw[iu]at h1;exact h1
          have ht:i<entries.size:=by simpa using h2
          rw[om,Array.getElem_modify]
          by_cases h9:i=j
          ·subst h9
           simp only[if_true]
           exact⟨trivial,e3,(g3 i hn hj).2.2⟩
          ·rw[ag1 h9,ag1 (fun e=>h9 e.symm)]
           exact g3 i hp ht
   ·cases h
  ·cases h
 ·cases h
end
section
variable{P:Program}{τ:Nat->AV}{η:bf}{d:Option Tmp}{ty:TypeId}{pos:String}{af:Array Edge}{g:Option (Nat×Bool)}
def Ej(P:Program)(τ:Nat->AV)(η:bf)(u t:Nat)(m k:Operand):Option Rec:=
 match P.underlying t with
 |some (.map kt et)=>match aev τ k with
  |.v key=>match bi P et with
   |none=>none
   |some z=>match aev τ m with
    |.mp id ver=>match qa η id ver with
     |none=>none
     |some (b,clock,es)=>match da P (Instr.checkKey false 10000 kt key)with
      |none=>none
      |some _=>match pg P kt key es with
       |none=>none
       |some none=>some ⟨[id],[(id,some (b5 ver b.esz (clock+1) (es++[(key,.v z,clock)])))],.tup [.v z,.v (goInt clock)],u⟩
       |some (some j)=>match es[j]? with
        |none=>none
        |some e=>bif Instr.sameBits 10000 e.1 key then some ⟨[id],[(id,some (b5 ver b.esz clock (iw es j (key,e.2.1,e.2.2))))],.tup [e.2.1,.v (goInt e.2.2)],u⟩else none
    |_=>none
  |_=>none
 |_=>none
theorem Ig{u t:Nat}{m k:Operand}{r:Rec}(h:Ej P τ η u t m k=some r):LOp P ⟨d,.mapEntry t m k,ty,pos,af,g⟩ τ η r.fp r.δ r.v:=by
 unfold Ej at h
 split at h
 ·rename_i kt et hu
  split at h
  ·rename_i key hk
   split at h
   ·cases h
   ·rename_i z hz
    split at h
    ·rename_i id ver hm
     split at h
     ·cases h
     ·rename_i b clock es hb
      obtain⟨ha,h6⟩:=jp hb
      split at h
      ·cases h
      ·rename_i q hq
       have hc:∀(a:Act) (w:World),(execOp a.eval ⟨d,.mapEntry t m k,ty,pos,af,g⟩).run P w=((Instr.mapEntry t (a.eval m) (a.eval k)).run P w).andThen fun x w=>.ok (.value x) w:=by
        intro a w
        simp only[execOp,Sem.run_bind]
        rfl
       split at h
       ·cases h
       ·rename_i hf
        simp only[agw]at h
        subst h
        refine jm (res:=.value) ha h6 fun C a hg h0 h7 entries g1 g2 g3=>?_
        have e1:=h0 m (by simp[Op.operands])
        have e2:=h0 k (by simp[Op.operands])
        rw[hm]at e1
        rw[hk]at e2
        have e1':=e1.mp_inv h7 (by rw[h6];rfl)
        have e2':=e2.v_inv
        obtain⟨_,c2⟩:=kv g2 g3 hf C.w
        have hr:(Instr.findKey kt key entries.toList).run P C.w=.ok none C.w:=by
         rcases c2 with⟨_,hr⟩|⟨j,hj,_⟩
         ·exact hr
         ·cases hj
        refine⟨entries.push {key,val:=z,born:=clock},.value (.tuple #[z,goInt clock]),?_,.inr ⟨_,rfl,VR.pair (VR.v C _) (VR.v C _)⟩,by simp[g2],fun i h1 h2=>?_⟩
        ·rw[hc,e1',e2']
         simp only[Instr.mapEntry,Sem.run_bind,run_underlying hu,ahc,d4 g1,iz _ _ hq,hr,j5 hz,fo g1 (fun _ _ _ e=>by cases e),ahd]
        ·by_cases hi:i<es.length
         ·have hd:i<entries.size:=by omega
          have q1:(es++[(key,AV.v z,clock)])[i]=es[i]:=List.getElem_append_left hi
          have q2:(entries.push {key,val:=z,born:=clock})[i]=entries[i]:=Array.getElem_push_lt hd
          rw[q1,q2]
          exact g3 i hi hd
         ·have hl:i=es.length:=by simp at h1;omega
          subst hl
          have q1:(es++[(key,AV.v z,clock)])[es.length]=(key,AV.v z,clock):=by simp
          have q2:(entries.push {key,val:=z,born:=clock})[es.length]={key,val:=z,born:=clock}:=by simp[g2]
          rw[q1,q2]
          exact⟨rfl,VR.v C _,rfl⟩
       ·rename_i j hf
        split at h
        ·cases h
        ·rename_i e he
         cases hs:Instr.sameBits 10000 e.1 key with
         |false=>rw[hs]at h;simp at h
         |true=>
          rw[hs]at h
          simp only[cond_true,agw]at h
          subst h
          refine jm (res:=.value) ha h6 fun C a hg h0 h7 entries g1 g2 g3=>?_
          have e1:=h0 m (by simp[Op.operands])
          have e2:=h0 k (by simp[Op.operands])
          rw[hm]at e1
          rw[hk]at e2
          have e1':=e1.mp_inv h7 (by rw[h6];rfl)
          have e2':=e2.v_inv
          obtain⟨_,c2⟩:=kv g2 g3 hf C.w
          obtain⟨h3,rfl⟩:=ahn.1 he
          have hj:j<entries.size:=by omega
          have hr:(Instr.findKey kt key entries.toList).run P C.w=.ok (some (j,entries[j].val)) C.w:=by
           rcases c2 with⟨hh,_⟩|⟨j',hh,_,hr⟩
           ·cases hh
           ·cases hh;exact hr
          refine⟨entries.modify j fun e=>{e with key},.value (.tuple #[entries[j].val,goInt entries[j].born]),?_,.inr ⟨_,rfl,?_⟩,by rw[iu];simp[g2],fun i h1 h2=>?_⟩
          ·have h8:((entries[j]?).map (·.key)).getD key=es[j].1:=by
            rw[Array.getElem?_eq_getElem hj]
            exact(g3 j h3 hj).1
           have h4:((entries[j]?).map (fun x=>(x.born:Int))).getD 0=(entries[j].born:Int):=by
            rw[Array.getElem?_eq_getElem hj];rfl
           have h5:∀w:World,(Instr.keyThatStays (((entries[j]?).map (·.key)).getD key) key).run P w=.ok key w:=fun w=>by
            rw[h8]
            simp only[Instr.keyThatStays,hs,if_true]
            rfl
           rw[hc,e1',e2']
           simp only[Instr.mapEntry,Sem.run_bind,run_underlying hu,ahc,d4 g1,iz _ _ hq,hr,h5,h4,fo g1 (fun _ _ _ e=>by cases e),ahd]
          ·refine VR.pair (g3 j h3 hj).2.1 ?_
           rw[(g3 j h3 hj).2.2]
           exact VR.v C _
          ·have hn:i<es.length:=by rw[iu]at h1;exact h1
           have ho:i<entries.size:=by simpa using h2
           rw[om,Array.getElem_modify]
           by_cases h9:i=j
           ·subst h9
            simp only[if_true]
            exact⟨trivial,(g3 i h3 hj).2.1,(g3 i h3 hj).2.2⟩
           ·rw[ag1 h9,ag1 (fun e=>h9 e.symm)]
            exact g3 i hn ho
    ·cases h
  ·cases h
 ·cases h
def Hl(n:Nat):List (Value×AV×Nat)->Nat->Option Nat
 |[],_=>none
 |e::l,i=>bif Nat.beq e.2.2 n then some i else Hl n l (i+1)
theorem Cu{n:Nat}:∀(l:List (Value×AV×Nat)) (i0 i:Nat),Hl n l i0=some i->∃j e,i=i0+j/\l[j]? =some e/\e.2.2=n/\∀k e',k<j->l[k]? =some e'->e'.2.2≠n
 |[],_,_,h=>by cases h
 |e::l,i0,i,h=>by
  simp only[Hl]at h;cases hb:Nat.beq e.2.2 n with
  |true=>
   rw[hb]at h
   simp only[cond_true,agw]at h
   exact⟨0,e,by omega,rfl,agv hb,fun k e' hk=>by omega⟩
  |false=>
   rw[hb]at h
   simp only[cond_false]at h
   obtain⟨j,e1,h1,h2,h3,h4⟩:=Cu l (i0+1) i h
   refine⟨j+1,e1,by omega,by simpa using h2,h3,fun k e' hk h0=>?_⟩
   cases k with
   |zero=>
    simp only[List.getElem?_cons_zero,agw]at h0
    subst h0
    exact fun e=>by rw[e,Nat.beq_refl]at hb;cases hb
   |succ k=>exact h4 k e' (by omega) (by simpa using h0)
def wk(P:Program)(τ:Nat->AV)(η:bf)(u t:Nat)(m s x:Operand):Option Rec:=
 match aev τ s with
 |.v (.int k (.ofNat n))=>match aev τ m with
  |.mp id ver=>match qa η id ver with
   |none=>none
   |some (b,clock,es)=>match Hl n es 0 with
    |none=>none
    |some j=>match es[j]? with
     |none=>none
     |some e=>some ⟨[id],[(id,some (b5 ver b.esz clock (iw es j (e.1,aev τ x,e.2.2))))],.v undef,u⟩
  |_=>none
 |_=>none
theorem Cm{u t:Nat}{m s x:Operand}{r:Rec}(h:wk P τ η u t m s x=some r):LOp P ⟨d,.entryStore t m s x,ty,pos,af,g⟩ τ η r.fp r.δ r.v:=by
 unfold wk at h;split at h;rename_i kk n hs;split at h;rename_i id ver hm;split at h;cases h;rename_i b clock es hb;obtain⟨h9,h7⟩:=jp hb;split at h;cases h;rename_i j hj;split at h;cases h;rename_i e he;simp only[agw]at h;subst h;refine jm (res:=.value) h9 h7 fun C a hg h3 ha entries g1 g2 g3=>have e1:=h3 m (by simp[Op.operands]);have e2:=h3 s (by simp[Op.operands]);have e3:=h3 x (by simp[Op.operands]);?_
 rw[hm]at e1;rw[hs]at e2;have e1':=e1.mp_inv ha (by rw[h7];rfl)
 have e2':=e2.v_inv;obtain⟨j',e',q1,q2,q3,q4⟩:=Cu _ _ _ hj;rw[Nat.zero_add]at q1;subst q1;rw[he]at q2;cases q2;obtain⟨h4,rfl⟩:=ahn.1 he;have h0:j<entries.size:=by omega
 have h5:entries.findIdx? (fun e=>(e.born:Int)==Int.ofNat n)=some j:=by rw[Array.findIdx?_eq_some_iff_getElem];exact⟨h0,by rw[(g3 j h4 h0).2.2,q3];simp,fun k hk=>by have h8:k<es.length:=(by omega);have:=q4 k es[k] hk (agu h8);rw[(g3 k h8 (by omega)).2.2];simp only[beq_iff_eq];intro hh;exact this (Int.ofNat.inj hh)⟩
 refine⟨entries.modify j fun e=>{e with val:=a.eval x},.skip,by simp only[execOp,e1',e2',Instr.entryStore,Sem.run_bind,d4 g1,ahc,asInt,asIntOf,ahd,h5,fo g1 (fun _ _ _ e=>by cases e)],.inl ⟨rfl,rfl⟩,by rw[iu];simp[g2],fun i h1 h2=>?_⟩;have hc:i<es.length:=by rw[iu]at h1;exact h1
 have hd:i<entries.size:=by simpa using h2
 rw[om,Array.getElem_modify];by_cases h6:i=j;subst h6;simp only[if_true];exact⟨(g3 i h4 h0).1,e3,(g3 i h4 h0).2.2⟩;rw[ag1 h6,ag1 (fun e=>h6 e.symm)];exact g3 i hc hd;cases h;cases h
def V0(P:Program)(τ:Nat->AV)(η:bf)(u:Nat)(x:Operand)(ats:Array TypeId):Option Rec:=match ats[0]? with
 |none=>none
 |some t=>match P.underlying t with
  |some (.map _ _)=>match aev τ x with
   |.mp id ver=>match qa η id ver with
    |some (b,clock,es)=>some ⟨[id],[],.v (goInt es.length),u⟩
    |none=>none
   |_=>none
  |_=>none
theorem Qi{u:Nat}{x:Operand}{ats:Array TypeId}{r:Rec}(h:V0 P τ η u x ats=some r):LOp P ⟨d,.call {callee:=.builtin .len,args:=#[x],argTypes:=ats},ty,pos,af,g⟩ τ η r.fp r.δ r.v:=by unfold V0 at h;split at h;cases h;rename_i t ht;split at h;rename_i kt et hu;split at h;rename_i id ver hx;split at h;rename_i b clock es hb;obtain⟨h2,h0⟩:=jp hb;simp only[agw]at h;subst h;refine .look [id] fun C a hg h3 h4=>?_;have h1:C.η id=some b:=(h4 id (by simp)).trans h2;have e1:=h3 x (by simp[Op.operands,Call.operands]);rw[hx]at e1;have e1':=e1.mp_inv h1 (by rw[h0];rfl);obtain⟨entries,g1,g2,g3⟩:=yf hg h1 h0;refine⟨goInt es.length,?_,VR.v C _⟩;rw[g2];simp[execOp,e1',resolve,invoke,builtin,Builtin.len_,ht,run_underlying hu,d4 g1,Sem.run_bind,Result.andThen];cases h;cases h;cases h
def qc{α:Type}:List α->Nat->List α
 |[],_=>[]
 |_::l,0=>l
 |x::l,n+1=>x::qc l n
theorem oy{α:Type}:∀(l:List α) (n:Nat),qc l n=l.eraseIdx n
 |[],n=>by simp[qc]
 |_::l,0=>rfl
 |x::l,n+1=>by simp[qc,oy l n]
def afw(P:Program)(τ:Nat->AV)(η:bf)(u:Nat)(m k:Operand)(ats:Array TypeId):Option Rec:=match ats[0]? with
 |none=>none
 |some t=>match P.underlying t with
  |some (.map kt et)=>match aev τ k with
   |.v key=>match aev τ m with
    |.mp id ver=>match qa η id ver with
     |none=>none
     |some (b,clock,es)=>match pg P kt key es with
      |none=>none
      |some none=>some ⟨[id],[(id,some (b5 ver b.esz clock es))],.v (.tuple #[]),u⟩
      |some (some j)=>some ⟨[id],[(id,some (b5 ver b.esz clock (qc es j)))],.v (.tuple #[]),u⟩
    |_=>none
   |_=>none
  |_=>none
theorem W2{u:Nat}{m k:Operand}{ats:Array TypeId}{r:Rec}(h:afw P τ η u m k ats=some r):LOp P ⟨d,.call {callee:=.builtin .delete,args:=#[m,k],argTypes:=ats},ty,pos,af,g⟩ τ η r.fp r.δ r.v:=by
 unfold afw at h
 split at h
 ·cases h
 ·rename_i t ht
  split at h
  ·rename_i kt et hu
   split at h
   ·rename_i key hk
    split at h
    ·rename_i id ver hm
     split at h
     ·cases h
     ·rename_i b clock es hb
      obtain⟨h6,h4⟩:=jp hb
      have h7:∀(a:Act) (w:World),(execOp a.eval ⟨d,.call {callee:=.builtin .delete,args:=#[m,k],argTypes:=ats},ty,pos,af,g⟩).run P w=((Builtin.delete_ ats ty #[a.eval m,a.eval k]).run P w).andThen fun x w=>.ok (.value x) w:=by
       intro a w
       simp only[execOp,resolve,invoke,builtin,Sem.run_bind,ahd,ahc]
       simp only[List.map_toArray,ahh,List.map_nil]
      split at h
      ·cases h
      ·rename_i hf
       simp only[agw]at h
       subst h
       refine jm (res:=.value) h6 h4 fun C a hg h0 h5 entries g1 g2 g3=>?_
       have e1:=h0 m (by simp[Op.operands,Call.operands])
       have e2:=h0 k (by simp[Op.operands,Call.operands])
       rw[hm]at e1
       rw[hk]at e2
       have e1':=e1.mp_inv h5 (by rw[h4];rfl)
       have e2':=e2.v_inv
       obtain⟨c1,c2⟩:=kv g2 g3 hf C.w
       have c1':=(c1 entries.isEmpty).resolve_right (by rw[sj g2];simp)
       have hr:(Instr.findKey kt key entries.toList).run P C.w=.ok none C.w:=by
        rcases c2 with⟨_,hr⟩|⟨j,hj,_⟩
        ·exact hr
        ·cases hj
       refine⟨entries,.value (.tuple #[]),?_,.inr ⟨_,rfl,VR.v C _⟩,g2,g3⟩
       rw[h7,e1',e2']
       simp[Builtin.delete_,ht,Sem.run_bind,run_underlying hu,ahc,d4 g1,c1',hr,fo g1 (fun _ _ _ e=>by cases e),ahd]
      ·rename_i j hf
       simp only[agw]at h
       subst h
       refine jm (res:=.value) h6 h4 fun C a hg h0 h5 entries g1 g2 g3=>?_
       have e1:=h0 m (by simp[Op.operands,Call.operands])
       have e2:=h0 k (by simp[Op.operands,Call.operands])
       rw[hm]at e1
       rw[hk]at e2
       have e1':=e1.mp_inv h5 (by rw[h4];rfl)
       have e2':=e2.v_inv
       obtain⟨c1,c2⟩:=kv g2 g3 hf C.w
       have c1':=(c1 entries.isEmpty).resolve_right (by rw[sj g2];simp)
       have hr:∃v,(Instr.findKey kt key entries.toList).run P C.w=.ok (some (j,v)) C.w/\j<entries.size:=by
        rcases c2 with⟨hh,_⟩|⟨j',hh,hj,hr⟩
        ·cases hh
        ·cases hh;exact⟨_,hr,hj⟩
       obtain⟨v,hr,hj⟩:=hr
       refine⟨entries.eraseIdxIfInBounds j,.value (.tuple #[]),?_,.inr ⟨_,rfl,VR.v C _⟩,?_,fun i h1 h2=>?_⟩
       ·rw[h7,e1',e2']
        simp[Builtin.delete_,ht,Sem.run_bind,run_underlying hu,ahc,d4 g1,c1',hr,fo g1 (fun _ _ _ e=>by cases e),ahd]
       ·rw[oy,Array.eraseIdxIfInBounds,dif_pos hj]
        rw[List.length_eraseIdx,ag2 (by omega),Array.size_eraseIdx,g2]
       ·have q:(entries.eraseIdxIfInBounds j)[i]=entries[if i<j then i else i+1]'(by
         rw[Array.eraseIdxIfInBounds,dif_pos hj]at h2
         simp at h2
         split<;>omega):=by
         have:(entries.eraseIdxIfInBounds j)[i]? =(entries.eraseIdx j hj)[i]?:=by rw[Array.eraseIdxIfInBounds,dif_pos hj]
         rw[Array.getElem?_eq_getElem h2]at this
         have h3:i<(entries.eraseIdx j hj).size:=by
          rw[Array.eraseIdxIfInBounds,dif_pos hj]at h2;exact h2
         rw[Array.getElem?_eq_getElem h3,Array.getElem_eraseIdx]at this
         have:=Option.some.inj this
         rw[this]
         split<;>rfl
        have h1b:i<(es.eraseIdx j).length:=by rw[<-oy];exact h1
        have q':(qc es j)[i]=es[if i<j then i else i+1]'(by
         rw[List.length_eraseIdx]at h1b
         split at h1b<;>split<;>omega):=by
         have:(qc es j)[i]? =(es.eraseIdx j)[i]?:=by rw[oy]
         rw[agu h1,agu h1b,List.getElem_eraseIdx]at this
         have:=Option.some.inj this
         rw[this]
         split<;>rfl
        rw[q,q']
        exact g3 _ _ _
    ·cases h
   ·cases h
  ·cases h
end
inductive All2{α β:Type}(R:α->β->Prop):List α->List β->Prop where
 |nil:All2 R [] []
 |cons {a:α} {b:β} {l:List α} {m:List β}:R a b->All2 R l m->All2 R (a :: l) (b :: m)
theorem ql{α β:Type}{R:α->β->Prop}:∀{l:List α} {m:List β},l.length=m.length->(∀i (h:i<l.length) (h':i<m.length),R l[i] m[i])->All2 R l m
 |[],[],_,_=>.nil
 |[],_::_,h,_=>by simp at h
 |_::_,[],h,_=>by simp at h
 |a::l,b::m,h,hi=>.cons (hi 0 (by simp) (by simp)) (ql (by simpa using h) (fun i h1 h2=>hi (i+1) (by simpa using h1) (by simpa using h2)))
theorem All2.filter{α β:Type}{R:α->β->Prop}{p:α->Bool}{q:β->Bool}(h0:∀a b,R a b->p a=q b){l:List α}{m:List β}(h:All2 R l m):All2 R (l.filter p) (m.filter q):=by
 induction h with
 |nil=>exact .nil
 |cons hr _ ih=>
  rename_i a b l m _
  rw[List.filter_cons,List.filter_cons,h0 a b hr]
  split
  ·exact .cons hr ih
  ·exact ih
theorem All2.all{α β:Type}{R:α->β->Prop}{p:α->Bool}{q:β->Bool}(h0:∀a b,R a b->p a=q b){l:List α}{m:List β}(h:All2 R l m):l.all p=m.all q:=by
 induction h with
 |nil=>rfl
 |cons hr _ ih=>rw[List.all_cons,List.all_cons,h0 _ _ hr,ih]
theorem All2.isEmpty{α β:Type}{R:α->β->Prop}{l:List α}{m:List β}(h:All2 R l m):l.isEmpty=m.isEmpty:=by cases h<;>rfl
def Be:List AV->Option (List Nat)
 |[]=>some []
 |.v (.int .i64 (.ofNat n))::l=>match Be l with
  |some r=>some (n::r)
  |none=>none
 |_=>none
theorem J0:∀(l:List AV) (ns:List Nat),Be l=some ns->l=ns.map fun n=>.v (.int .i64 (Int.ofNat n)):=by
 intro l
 induction l with
 |nil=>intro ns h;simp only[Be,agw]at h;subst h;rfl
 |cons x l ih=>
  intro ns h
  unfold Be at h
  split at h
  ·rename_i e;cases e
  ·rename_i n l' e
   obtain⟨rfl,rfl⟩:=List.cons.inj e
   split at h
   ·rename_i r hr
    simp only[agw]at h
    subst h
    rw[ahh,<-ih _ hr]
   ·cases h
  ·cases h
def zc(ver esz:Nat)(s:ByteArray)(pos:Nat):Blk:=⟨ver,k8 s pos,esz,true⟩
def uh(ver esz:Nat)(m:AV)(since:Nat)(seen:List Nat)(last:Nat):Blk:=⟨ver,i6 m since seen last,esz,true⟩
inductive Iter where
 |txt (s:ByteArray) (pos:Nat)
 |ofm (id ver since:Nat) (seen:List Nat) (last:Nat)
def Iter.blk(ver esz:Nat):Iter->Blk
 |.txt s pos=>zc ver esz s pos
 |.ofm id v since seen last=>uh ver esz (.mp id v) since seen last
def J3:List AV->Option Iter
 |[.v (.int .i64 (.ofNat 1)),.v (.string s),.v (.int .i64 (.ofNat pos))]=>some (.txt s pos)
 |.v (.int .i64 (.ofNat 2))::.mp id v::.v (.int .i64 (.ofNat since))::.v (.int .i64 (.ofNat last))::l=>match Be l with
  |some seen=>some (.ofm id v since seen last)
  |none=>none
 |_=>none
theorem J2{cs:List AV}{i:Iter}(h:J3 cs=some i)(ver esz:Nat):(⟨ver,cs,esz,true⟩:Blk)=i.blk ver esz:=by unfold J3 at h;split at h;simp only[agw]at h;subst h;rfl;split at h;rename_i seen hs;simp only[agw]at h;subst h;simp only[Iter.blk,uh,i6];rw[<-J0 _ _ hs];rfl;cases h;cases h
def Qh(η:bf)(id ver:Nat):Option (Blk×Iter):=match η id with
 |some b=>bif Nat.beq b.ver ver&&b.nilp then(match J3 b.cs with
  |some i=>some (b,i)
  |none=>none)else none
 |none=>none
theorem Aa{η:bf}{id ver:Nat}{b:Blk}{i:Iter}(h:Qh η id ver=some (b,i)):η id=some b/\b=i.blk ver b.esz:=by
 unfold Qh at h
 cases hb:η id with
 |none=>rw[hb]at h;cases h
 |some b'=>
  rw[hb]at h
  simp only at h
  cases hc:(Nat.beq b'.ver ver&&b'.nilp)with
  |false=>rw[hc]at h;simp at h
  |true=>
   rw[hc]at h
   simp only[cond_true]at h
   rw[ahs]at hc
   split at h
   ·rename_i i' hm
    simp only[agw,Prod.mk.injEq]at h
    obtain⟨rfl,rfl⟩:=h
    refine⟨rfl,?_⟩
    obtain⟨v,cs,z,n⟩:=b'
    have e1:=agv hc.1
    have e2:=hc.2
    simp only at e1 e2 hm
    subst e1 e2
    exact J2 hm _ _
   ·cases h
theorem ObjR.siter_inv{C:Ctx}{s:ByteArray}{pos:Nat}{o:Obj}(h:ObjR C (k8 s pos) o):o=.stringIter s pos:=by
 generalize hc:k8 s pos=cs at h
 cases h with
 |map _ _=>exact absurd (List.cons.inj hc).1 (by simp)
 |siter=>
  simp only[k8,List.cons.injEq,AV.v.injEq,Value.string.injEq,Value.int.injEq,Int.ofNat.injEq,true_and,and_true]at hc
  obtain⟨rfl,h2⟩:=hc
  subst h2
  rfl
 |miter0=>exact absurd (List.cons.inj hc).1 (by simp)
 |miter _=>exact absurd (List.cons.inj hc).1 (by simp)
theorem Gj:∀{a b:List Nat},(a.map fun n=>AV.v (.int .i64 (Int.ofNat n)))=(b.map fun n=>.v (.int .i64 (Int.ofNat n)))->a=b
 |[],[],_=>rfl
 |[],_::_,h=>by cases h
 |_::_,[],h=>by cases h
 |n::a,m::b,h=>by simp only[ahh,List.cons.injEq,AV.v.injEq,Value.int.injEq,true_and]at h;have h1:n=m:=Int.ofNat.inj h.1;rw[h1,Gj h.2]
theorem ObjR.miter_inv{C:Ctx}{id ver since last:Nat}{seen:List Nat}{o:Obj}(h:ObjR C (i6 (.mp id ver) since seen last) o):∃m,o=.mapIter (some m) since seen.toArray last/\VR C (.mp id ver) (.map (some m)):=by
 generalize hc:i6 (.mp id ver) since seen last=cs at h
 cases h with
 |map _ _=>exact absurd (List.cons.inj hc).1 (by simp)
 |siter=>exact absurd (List.cons.inj hc).1 (by simp)
 |miter0=>exact absurd (List.cons.inj (List.cons.inj hc).2).1 (by simp)
 |miter hv=>
  simp only[i6,List.cons.injEq,AV.v.injEq,Value.int.injEq,true_and]at hc
  obtain⟨rfl,h1,h2,h3⟩:=hc
  have e1:=Int.ofNat.inj h1
  have e2:=Int.ofNat.inj h2
  subst e1 e2
  obtain rfl:=Gj h3
  exact⟨_,rfl,hv⟩
section
variable{P:Program}{τ:Nat->AV}{η:bf}{d:Option Tmp}{ty:TypeId}{pos:String}{af:Array Edge}{g:Option (Nat×Bool)}
def Kx(P:Program)(τ:Nat->AV)(η:bf)(u t:Nat)(x:Operand):Option Rec:=match P.underlying t with
 |some .string=>match aev τ x with
  |.v (.string s)=>some ⟨[],[(u,some (zc 0 0 s 0))],.it u 0,u+1⟩
  |_=>none
 |some (.map _ _)=>match aev τ x with
  |.mp id ver=>match qa η id ver with
   |some (b,clock,es)=>bif Nat.beq id u then none else some ⟨[id],[(u,some (uh 0 0 (.mp id ver) clock [] clock))],.it u 0,u+1⟩
   |none=>none
  |_=>none
 |_=>none
theorem Kw{u t:Nat}{x:Operand}{r:Rec}(h:Kx P τ η u t x=some r):LOp P ⟨d,.range t x,ty,pos,af,g⟩ τ η r.fp r.δ r.v:=by
 have main:∀(fp:List Nat) (b:Blk),u∉fp->b.kind=2->b.ver=0->(∀(C:Ctx) (a:Act),Good C->(∀x'∈(Op.range t x).operands,VR C (aev τ x') (a.eval x'))->(∀id∈fp,C.η id=η id)->∃o,ObjR C b.cs o/\(execOp a.eval ⟨d,.range t x,ty,pos,af,g⟩).run P C.w=.ok (.value (.pointer (some ⟨C.w.heap.size,0,none⟩))) (C.w.alloc o))->
  LOp P ⟨d,.range t x,ty,pos,af,g⟩ τ η fp [(u,some b)] (.it u 0):=by
  intro fp b h3 hk hv h7 C a hg h0 h1 h4 K Q hK
  have hu:¬C.U u:=h4 (u,some b) (by simp) h3
  obtain⟨o,ho,hr⟩:=h7 C a hg h0 h1
  unfold Oper.wp
  rw[hr]
  refine hK _ (C.allocO u o b) rfl (fun i=>by simp[Ctx.allocO]) (oh hg hu hk ho) (my hg hu) ?_
  have:=VR.it (C:=C.allocO u o b) (id:=u) (ver:=0) (am _ _ _) hv hk
  have e:((C.allocO u o b).ρ u).1=C.w.heap.size:=by simp[Ctx.allocO]
  rw[e]at this
  exact this
 unfold Kx at h
 split at h
 ·rename_i hu
  split at h
  ·rename_i s hx
   simp only[agw]at h
   subst h
   refine main [] _ (by simp) rfl rfl fun C a hg h0 h1=>⟨.stringIter s 0,.siter,?_⟩
   have e1:=h0 x (by simp[Op.operands])
   rw[hx]at e1
   have e1':=e1.v_inv
   simp only[execOp,e1',Instr.range,Sem.run_bind,run_underlying hu,ahc,ahd,x5]
  ·cases h
 ·rename_i kt et hu
  split at h
  ·rename_i id ver hx
   split at h
   ·rename_i b clock es hb
    obtain⟨h8,h5⟩:=jp hb
    cases h2:Nat.beq id u with
    |true=>rw[h2]at h;simp at h
    |false=>
     rw[h2]at h
     simp only[cond_false,agw]at h
     subst h
     refine main [id] _ (by simp;intro e;rw[e,Nat.beq_refl]at h2;cases h2) rfl rfl fun C a hg h0 h1=>?_
     have h6:C.η id=some b:=(h1 id (by simp)).trans h8
     have e1:=h0 x (by simp[Op.operands])
     rw[hx]at e1
     have e1':=e1.mp_inv h6 (by rw[h5];rfl)
     obtain⟨entries,g1,g2,g3⟩:=yf hg h6 h5
     rw[e1']at e1
     refine⟨.mapIter (some (C.ρ id).1) clock #[] clock,.miter (seen:=[]) e1,?_⟩
     simp only[execOp,e1',Instr.range,Sem.run_bind,run_underlying hu,ahc,d4 g1,ahd,x5]
   ·cases h
  ·cases h
 ·cases h
theorem w7{o:Oper}{id ver:Nat}{fp:List Nat}{b:Blk}{i i':Iter}{v:AV}(h8:id∈fp)(h9:η id=some b)(h4:b=i.blk ver b.esz)
 (h:∀(C:Ctx) (a:Act),Good C->(∀x∈o.op.operands,VR C (aev τ x) (a.eval x))->(∀id∈fp,C.η id=η id)->∀ob,C.w.heap[(C.ρ id).1]? =some ob->ObjR C b.cs ob->
  ∃ob' x,(execOp a.eval o).run P C.w=.ok (.value x) {C.w with heap:=C.w.heap.setIfInBounds (C.ρ id).1 ob'}/\VR C v x/\ObjR C (i'.blk ver b.esz).cs ob'):
 LOp P o τ η fp [(id,some (i'.blk ver b.esz))] v:=by
 intro C a hg ha h5 _ K Q hK
 have h2:C.η id=some b:=(h5 id h8).trans h9
 have h3:b.kind=2:=by rw[h4];cases i<;>rfl
 have h6:(i'.blk ver b.esz).kind=2:=by cases i'<;>rfl
 have h0:(i'.blk ver b.esz).ver=b.ver:=by rw[h4];cases i'<;>cases i<;>rfl
 have h1:(i'.blk ver b.esz).esz=b.esz:=by cases i'<;>rfl
 obtain⟨ob,g1,g2⟩:=hg.obj h2 h3
 obtain⟨ob',x,r1,r2,r3⟩:=h C a hg ha h5 ob g1 g2
 have h7:=qk (C:=C) (o:=ob') (b:=i'.blk ver b.esz) hg h2 h3 h6 h0 h1
 have hb:=rp (C:=C) (o:=ob') (b:=i'.blk ver b.esz) hg h2 h3 h6 h0 h1 r3
 unfold Oper.wp
 rw[r1]
 exact hK x _ rfl (fun j=>by simp[Ctx.setO];rintro rfl;exact hg.used h2) hb h7 (r2.mono hg h7)
def Vs(P:Program)(τ:Nat->AV)(η:bf)(u:Nat)(x:Operand)(isString:Bool):Option Rec:=match aev τ x with
 |.it id ver=>match Qh η id ver with
  |none=>none
  |some (b,.txt s pos)=>bif isString then
   (bif Nat.blt pos s.size then(match Utf8.decode s pos with
    |(c,width)=>some ⟨[id],[(id,some (zc ver b.esz s (pos+width)))],.tup [.v (.bool true),.v (goInt pos),.v (.int .i32 c)],u⟩)
   else some ⟨[id],[],.tup [.v (.bool false)],u⟩)
   else none
  |some (b,.ofm mid mver since seen last)=>bif isString then none else
   match qa η mid mver with
   |none=>none
   |some (mb,clock,es)=>
    bif !seen.isEmpty&&!es.isEmpty&&es.all (fun e=>Nat.ble last e.2.2)then none else
    match(es.filter fun e=>!seen.contains e.2.2).filter (fun e=>Nat.blt e.2.2 since),(es.filter fun e=>!seen.contains e.2.2).filter (fun e=>Nat.ble since e.2.2)with
    |[],[]=>some ⟨[id,mid],[],.tup [.v (.bool false)],u⟩
    |[e],[]=>some ⟨[id,mid],[(id,some (uh ver b.esz (.mp mid mver) since (seen++[e.2.2]) clock))],.tup [.v (.bool true),.v e.1,e.2.1],u⟩
    |_,_=>none
 |_=>none
theorem T6{C:Ctx}{a b c:AV}{x y z:Value}(h1:VR C a x)(h2:VR C b y)(h3:VR C c z):VR C (.tup [a,b,c]) (.tuple #[x,y,z]):=by
 refine .tup rfl (fun i h h'=>?_);match i,h with
 |0,_=>exact h1
 |1,_=>exact h2
 |2,_=>exact h3
theorem Ob{C:Ctx}{a:AV}{x:Value}(h1:VR C a x):VR C (.tup [a]) (.tuple #[x]):=by
 refine .tup rfl (fun i h h'=>?_);match i,h with
 |0,_=>exact h1
theorem fb{w:World}{r:Nat}{o:Obj}(h:w.heap[r]? =some o)(hn:∀c t f,o≠.cells c t f):(getObj r).run P w=.ok o w:=by unfold getObj;unfold Sem.run;rw[h];cases o<;>first|rfl|(exact absurd rfl (hn _ _ _))
theorem Qb{u:Nat}{x:Operand}{isString:Bool}{r:Rec}(h:Vs P τ η u x isString=some r):LOp P ⟨d,.next x isString,ty,pos,af,g⟩ τ η r.fp r.δ r.v:=by
 unfold Vs at h
 split at h
 ·rename_i id ver hx
  have hl:∀(a:Act) (w:World),(execOp a.eval ⟨d,.next x isString,ty,pos,af,g⟩).run P w=((Instr.next (a.eval x) isString ty).run P w).andThen fun x w=>.ok (.value x) w:=by
   intro a w
   simp only[execOp,Sem.run_bind]
   rfl
  split at h
  ·cases h
  ·rename_i b s ps hb
   obtain⟨h9,h5⟩:=Aa hb
   have hn:b.cs=k8 s ps:=by rw[h5];rfl
   cases isString with
   |false=>simp at h
   |true=>
    simp only[cond_true]at h
    cases he:Nat.blt ps s.size with
    |true=>
     rw[he]at h
     simp only[cond_true]at h
     have ha:ps<s.size:=by simpa using he
     cases hf:Utf8.decode s ps with
     |mk c width=>
      rw[hf]at h
      simp only[agw]at h
      subst h
      refine w7 (i':=.txt s (ps+width)) (by simp) h9 h5 fun C a hg h6 h3 ob g1 g2=>?_
      have h7:C.η id=some b:=(h3 id (by simp)).trans h9
      have e1:=h6 x (by simp[Op.operands])
      rw[hx]at e1
      have e1':=e1.it_inv h7 (by rw[h5];rfl)
      rw[hn]at g2
      obtain rfl:=g2.siter_inv
      refine⟨.stringIter s (ps+width),.tuple #[.bool true,goInt ps,.int .i32 c],?_,T6 (VR.v C _) (VR.v C _) (VR.v C _),.siter⟩
      rw[hl,e1']
      simp only[Instr.next,Sem.run_bind,fb g1 (fun _ _ _ e=>by cases e),ahc,ha,if_true,hf,fo g1 (fun _ _ _ e=>by cases e),ahd]
    |false=>
     rw[he]at h
     simp only[cond_false,agw]at h
     subst h
     have ha:¬ps<s.size:=by
      intro hh
      rw[show Nat.blt ps s.size=true by simpa using hh]at he
      cases he
     refine .look [id] fun C a hg h6 h3=>?_
     have h7:C.η id=some b:=(h3 id (by simp)).trans h9
     have e1:=h6 x (by simp[Op.operands])
     rw[hx]at e1
     have e1':=e1.it_inv h7 (by rw[h5];rfl)
     obtain⟨ob,g1,g2⟩:=hg.obj h7 (by rw[h5];rfl)
     rw[hn]at g2
     obtain rfl:=g2.siter_inv
     refine⟨.tuple #[.bool false],?_,Ob (VR.v C _)⟩
     rw[hl,e1']
     simp only[Instr.next,Sem.run_bind,fb g1 (fun _ _ _ e=>by cases e),ahc,ha,if_false,ahd]
  ·rename_i b mid mver since seen last hb
   obtain⟨h9,h5⟩:=Aa hb
   have hn:b.cs=i6 (.mp mid mver) since seen last:=by rw[h5];rfl
   cases isString with
   |true=>simp at h
   |false=>
    simp only[cond_false]at h
    split at h
    ·cases h
    ·rename_i mb clock es hm
     obtain⟨ht,hq⟩:=jp hm
     cases h4:(!seen.isEmpty&&!es.isEmpty&&es.all (fun e=>Nat.ble last e.2.2))with
     |true=>rw[h4]at h;simp at h
     |false=>
      rw[h4]at h
      simp only[cond_false]at h
      have core:∀(C:Ctx) (a:Act),Good C->(∀x'∈(Op.next x false).operands,VR C (aev τ x') (a.eval x'))->(∀i∈[id,mid],C.η i=η i)->∀ob,C.w.heap[(C.ρ id).1]? =some ob->ObjR C b.cs ob->
       ∃entries:Array MapEntry,∃m,ob=.mapIter (some m) since seen.toArray last/\VR C (.mp mid mver) (.map (some m))/\a.eval x=.pointer (some ⟨(C.ρ id).1,0,none⟩)/\C.w.heap[m]? =some (.map entries clock)/\All2 (fun(x:Value×AV×Nat) (e:MapEntry)=>e.key=x.1/\VR C x.2.1 e.val/\e.born=x.2.2) es entries.toList:=by
       intro C a hg h6 h3 ob g1 g2
       have h7:C.η id=some b:=(h3 id (by simp)).trans h9
       have hs:C.η mid=some mb:=(h3 mid (by simp)).trans ht
       have e1:=h6 x (by simp[Op.operands])
       rw[hx]at e1
       have e1':=e1.it_inv h7 (by rw[h5];rfl)
       rw[hn]at g2
       obtain⟨m,rfl,hj⟩:=g2.miter_inv
       have hu:=hj.mp_inv hs (by rw[hq];rfl)
       have hv:m=(C.ρ mid).1:=by simpa using hu
       subst hv
       obtain⟨entries,q1,q2,q3⟩:=yf hg hs hq
       exact⟨entries,_,rfl,hj,e1',q1,ql (by simpa using q2) (fun i h1 h2=>by simpa using q3 i h1 (by simpa using h2))⟩
      have toRun:∀(C:Ctx) (entries:Array MapEntry),All2 (fun(x:Value×AV×Nat) (e:MapEntry)=>e.key=x.1/\VR C x.2.1 e.val/\e.born=x.2.2) es entries.toList->
       (!seen.toArray.isEmpty&&!entries.isEmpty&&entries.all (·.born≥last))=false/\
       All2 (fun(x:Value×AV×Nat) (e:MapEntry)=>e.key=x.1/\VR C x.2.1 e.val/\e.born=x.2.2) ((es.filter fun e=>!seen.contains e.2.2).filter (fun e=>Nat.blt e.2.2 since)) ((entries.filter fun e=>!seen.toArray.contains e.born).filter (·.born<since)).toList/\
       All2 (fun(x:Value×AV×Nat) (e:MapEntry)=>e.key=x.1/\VR C x.2.1 e.val/\e.born=x.2.2) ((es.filter fun e=>!seen.contains e.2.2).filter (fun e=>Nat.ble since e.2.2)) ((entries.filter fun e=>!seen.toArray.contains e.born).filter (·.born≥since)).toList:=by
       intro C entries h0
       have h8:All2 (fun(x:Value×AV×Nat) (e:MapEntry)=>e.key=x.1/\VR C x.2.1 e.val/\e.born=x.2.2) (es.filter fun e=>!seen.contains e.2.2) (entries.filter fun e=>!seen.toArray.contains e.born).toList:=by
        rw[Array.toList_filter]
        refine h0.filter (fun a b hd=>?_)
        rw[hd.2.2]
        simp
       refine⟨?_,?_,?_⟩
       ·rw[<-h4]
        congr 1
        ·congr 1
         ·simp
         ·have:=h0.isEmpty
          rw[this]
          simp
        ·rw[h0.all (q:=fun e=>decide (e.born≥last)) (fun a b hd=>by
          rw[hd.2.2]
          rw[Bool.eq_iff_iff]
          simp[Nat.ble_eq])]
         simp
       ·rw[Array.toList_filter]
        refine h8.filter (fun a b hd=>?_)
        rw[hd.2.2,Bool.eq_iff_iff]
        simp
       ·rw[Array.toList_filter]
        refine h8.filter (fun a b hd=>?_)
        rw[hd.2.2,Bool.eq_iff_iff]
        simp[Nat.ble_eq]
      split at h
      ·rename_i f1 f2
       simp only[agw]at h
       subst h
       refine .look [id,mid] fun C a hg h6 h3=>?_
       have h7:C.η id=some b:=(h3 id (by simp)).trans h9
       obtain⟨ob,g1,g2⟩:=hg.obj h7 (by rw[h5];rfl)
       obtain⟨entries,m,rfl,hj,e1',q1,h0⟩:=core C a hg h6 h3 ob g1 g2
       obtain⟨t1,t2,t3⟩:=toRun C entries h0
       rw[f1]at t2
       rw[f2]at t3
       have n1:((entries.filter fun e=>!seen.toArray.contains e.born).filter (·.born<since))=#[]:=by
        generalize((entries.filter fun e=>!seen.toArray.contains e.born).filter (·.born<since))=arr at t2
        obtain⟨l⟩:=arr
        cases t2;rfl
       have n2:((entries.filter fun e=>!seen.toArray.contains e.born).filter (·.born≥since))=#[]:=by
        generalize((entries.filter fun e=>!seen.toArray.contains e.born).filter (·.born≥since))=arr at t3
        obtain⟨l⟩:=arr
        cases t3;rfl
       refine⟨.tuple #[.bool false],?_,Ob (VR.v C _)⟩
       rw[hl,e1']
       simp only[Instr.next,Sem.run_bind,fb g1 (fun _ _ _ e=>by cases e),ahc,fb q1 (fun _ _ _ e=>by cases e),t1,Bool.false_eq_true,if_false,n1,n2]
       have ho:∀w:World,(choose (.mapNext 1)).run P w=.ok 0 w:=fun w=>by simp[choose,Sem.run,Question.forced]
       have hc:((if(#[]:Array MapEntry).isEmpty=true then#[none]else#[])++((#[]:Array MapEntry)++(#[]:Array MapEntry)).map some)=#[none]:=by simp
       simp only[hc]
       have hz:(#[none]:Array (Option MapEntry)).size=1:=rfl
       rw[hz]
       simp only[ho,ahc]
       have hi:(#[none]:Array (Option MapEntry))[0]? =some none:=rfl
       simp only[hi,ahd,ahc]
      ·rename_i e f1 f2
       simp only[agw]at h
       subst h
       refine w7 (i':=.ofm mid mver since (seen++[e.2.2]) clock) (by simp) h9 h5 fun C a hg h6 h3 ob g1 g2=>?_
       obtain⟨entries,m,rfl,hj,e1',q1,h0⟩:=core C a hg h6 h3 ob g1 g2
       obtain⟨t1,t2,t3⟩:=toRun C entries h0
       rw[f1]at t2
       rw[f2]at t3
       have n1:∃en,((entries.filter fun e=>!seen.toArray.contains e.born).filter (·.born<since))=#[en]/\en.key=e.1/\VR C e.2.1 en.val/\en.born=e.2.2:=by
        generalize((entries.filter fun e=>!seen.toArray.contains e.born).filter (·.born<since))=arr at t2
        obtain⟨l⟩:=arr
        cases t2 with
        |cons hr hp=>cases hp;exact⟨_,rfl,hr⟩
       have n2:((entries.filter fun e=>!seen.toArray.contains e.born).filter (·.born≥since))=#[]:=by
        generalize((entries.filter fun e=>!seen.toArray.contains e.born).filter (·.born≥since))=arr at t3
        obtain⟨l⟩:=arr
        cases t3;rfl
       obtain⟨en,n1,k1,k2,k3⟩:=n1
       refine⟨.mapIter (some m) since (seen++[e.2.2]).toArray clock,.tuple #[.bool true,en.key,en.val],?_,T6 (VR.v C _) (by rw[k1];exact VR.v C _) k2,.miter hj⟩
       rw[hl,e1']
       have hk:(seen++[e.2.2]).toArray=seen.toArray.push en.born:=by rw[k3];simp
       rw[hk]
       simp only[Instr.next,Sem.run_bind,fb g1 (fun _ _ _ e=>by cases e),ahc,fb q1 (fun _ _ _ e=>by cases e),t1,Bool.false_eq_true,if_false,n1,n2]
       have ho:∀w:World,(choose (.mapNext 1)).run P w=.ok 0 w:=fun w=>by simp[choose,Sem.run,Question.forced]
       have hc:((if(#[en]:Array MapEntry).isEmpty=true then#[none]else#[])++((#[en]:Array MapEntry)++(#[]:Array MapEntry)).map some)=#[some en]:=by simp
       simp only[hc]
       have hz:(#[some en]:Array (Option MapEntry)).size=1:=rfl
       rw[hz]
       simp only[ho,ahc]
       have hi:(#[some en]:Array (Option MapEntry))[0]? =some (some en):=rfl
       simp only[hi,Sem.run_bind,fo g1 (fun _ _ _ e=>by cases e),ahc,ahd]
      ·cases h
 ·cases h
end
section
variable{P:Program}{τ:Nat->AV}{η:bf}{d:Option Tmp}{ty:TypeId}{pos:String}{af:Array Edge}{g:Option (Nat×Bool)}
def P1(P:Program)(t:Nat)(cs:List AV)(off:Nat):Option AV:=match c9 P t with
 |none=>none
 |some none=>cs[off]?
 |some (some n)=>match co off n cs with
  |some ds=>some (.agg ds)
  |none=>none
theorem Ge{t off:Nat}{cs:List AV}{v:AV}(h:P1 P t cs off=some v){C:Ctx}{vs:Array Value}(hl:cs.length=vs.size)(hi:∀i (h:i<cs.length) (h':i<vs.size),VR C cs[i] vs[i])(w:World):∃x,(part t vs off).run P w=.ok x w/\VR C v x:=by
 unfold P1 at h
 split at h
 ·cases h
 ·rename_i hr
  obtain⟨h3,rfl⟩:=ahn.1 h
  refine⟨vs[off]'(by omega),?_,hi off h3 (by omega)⟩
  unfold c9 at hr
  cases hu:P.underlying t with
  |none=>rw[hu]at hr;cases h0:P.info? t<;>rw[h0]at hr<;>cases hr
  |some dd=>
   rw[hu]at hr
   have hv:vs[off]? =some (vs[off]'(by omega)):=Array.getElem?_eq_getElem (by omega)
   cases dd<;>first
    |(simp[part,isAgg,Sem.run_bind,run_underlying hu,hv];done)
    |(cases h0:P.info? t<;>rw[h0]at hr<;>simp at hr)
 ·rename_i n hr
  split at h
  ·rename_i ds hd
   simp only[agw]at h
   subst h
   obtain⟨hle,rfl⟩:=du _ _ _ _ hd
   refine⟨.agg (vs.extract off (off+n)),?_,.agg (by simp;omega) (fun i h1 h2=>?_)⟩
   ·unfold c9 at hr
    cases hu:P.underlying t with
    |none=>rw[hu]at hr;cases h0:P.info? t<;>rw[h0]at hr<;>cases hr
    |some dd=>
     rw[hu]at hr
     cases dd<;>first
      |(
       cases h0:P.info? t with
       |none=>rw[h0]at hr;cases hr
       |some inf=>
        rw[h0]at hr
        simp only[agw]at hr
        subst hr
        simp[part,isAgg,sizeOf,typeInfo,Sem.run_bind,run_underlying hu,run_program,h0];done)
      |(cases h0:P.info? t<;>rw[h0]at hr<;>simp at hr)
   ·have h1':i<n:=by simp at h1;omega
    simp only[List.getElem_take,List.getElem_drop,Array.getElem_extract]
    exact hi _ (by omega) (by omega)
  ·cases h
def Mz(P:Program)(t i:Nat):Option (Nat×Nat):=match P.underlying t with
 |some (.struct fs)=>(fs[i]?).map fun f=>(f.offset,f.type)
 |_=>none
def M1(P:Program)(τ:Nat->AV)(u t:Nat)(x:Operand)(i:Nat):Option Rec:=match Mz P t i with
 |none=>none
 |some (off,ft)=>match aev τ x with
  |.agg cs=>match P1 P ft cs off with
   |some v=>some ⟨[],[],v,u⟩
   |none=>none
  |_=>none
theorem M0{u t i:Nat}{x:Operand}{r:Rec}(h:M1 P τ u t x i=some r):LOp P ⟨d,.field t x i,ty,pos,af,g⟩ τ η r.fp r.δ r.v:=by
 unfold M1 at h
 split at h
 ·cases h
 ·rename_i off ft hf
  split at h
  ·rename_i cs hx
   split at h
   ·rename_i v hv
    simp only[agw]at h
    subst h
    refine .look [] fun C a hg h1 _=>?_
    have e1:=h1 x (by simp[Op.operands])
    rw[hx]at e1
    obtain⟨vs,e2,e3,e4⟩:=e1.agg_inv
    obtain⟨y,hy,h2⟩:=Ge hv e3 e4 C.w
    refine⟨y,?_,h2⟩
    unfold Mz at hf
    split at hf
    ·rename_i fs hu
     cases h0:fs[i]? with
     |none=>rw[h0]at hf;cases hf
     |some f=>
      rw[h0]at hf
      simp only[ahp,agw,Prod.mk.injEq]at hf
      obtain⟨rfl,rfl⟩:=hf
      simp only[execOp,e2,Instr.field,Sem.run_bind,run_underlying hu,ahc,h0,asAgg,ahd,hy]
    ·cases hf
   ·cases h
  ·cases h
def Mc(P:Program)(τ:Nat->AV)(u t:Nat)(x i:Operand):Option Rec:=match P.underlying t with
 |some (.array len e)=>match ap P e with
  |none=>none
  |some n=>match aev τ i with
   |.v (.int k (.ofNat j))=>bif Nat.blt j len then(match aev τ x with
    |.agg cs=>match P1 P e cs (j*n)with
     |some v=>some ⟨[],[],v,u⟩
     |none=>none
    |_=>none)else none
   |_=>none
 |_=>none
theorem Mb{u t:Nat}{x i:Operand}{r:Rec}(h:Mc P τ u t x i=some r):LOp P ⟨d,.index t x i,ty,pos,af,g⟩ τ η r.fp r.δ r.v:=by
 unfold Mc at h
 split at h
 ·rename_i len e hu
  split at h
  ·cases h
  ·rename_i n hs
   split at h
   ·rename_i k j hi
    cases h0:Nat.blt j len with
    |false=>rw[h0]at h;simp at h
    |true=>
     rw[h0]at h
     simp only[cond_true]at h
     have h1:j<len:=by simpa using h0
     split at h
     ·rename_i cs hx
      split at h
      ·rename_i v hv
       simp only[agw]at h
       subst h
       refine .look [] fun C a hg h3 _=>?_
       have e1:=h3 x (by simp[Op.operands])
       have e0:=h3 i (by simp[Op.operands])
       rw[hx]at e1
       rw[hi]at e0
       have e0':=e0.v_inv
       obtain⟨vs,e2,e3,e4⟩:=e1.agg_inv
       obtain⟨y,hy,h4⟩:=Ge hv e3 e4 C.w
       refine⟨y,?_,h4⟩
       unfold ap at hs
       cases h2:P.info? e with
       |none=>rw[h2]at hs;cases hs
       |some inf=>
        rw[h2]at hs
        simp only[ahp,agw]at hs
        subst hs
        have c1:(0:Int)<=Int.ofNat j/\Int.ofNat j<(len:Int):=⟨by simp,by simp;exact_mod_cast h1⟩
        have c2:(Int.ofNat j).toNat=j:=rfl
        simp only[execOp,e2,e0',Instr.index,asIntOf,Sem.run_bind,ahd,ahc,run_underlying hu,c1,and_self,if_true,sizeOf,typeInfo,run_program,h2,c2,hy]
      ·cases h
     ·cases h
   ·cases h
 ·cases h
def xn(τ:Nat->AV)(dflt:Nat):Option Operand->Option Nat
 |none=>some dflt
 |some x=>match aev τ x with
  |.v (.int _ (.ofNat n))=>some n
  |_=>none
def ve(P:Program)(τ:Nat->AV)(η:bf)(u t:Nat)(x:Operand)(lo hi:Option Operand):Option Rec:=match P.underlying t with
 |some (.slice e)=>match ap P e with
  |none=>none
  |some n=>match aev τ x with
   |.sl id ver off len=>match fw η id ver with
    |none=>none
    |some b=>match xn τ 0 lo with
     |none=>none
     |some l=>match xn τ len hi with
      |none=>none
      |some h=>bif Nat.ble l h&&Nat.ble h len&&Nat.beq b.esz n then some ⟨[id],[],.sl id ver (off+l*n) (h-l),u⟩else none
   |.tree m rows=>match xn τ 0 lo with
    |none=>none
    |some l=>match xn τ rows.length hi with
     |none=>none
     |some h=>bif Nat.ble l h&&Nat.ble h rows.length&&Nat.beq m n then some ⟨[],[],.tree m ((rows.drop l).take (h-l)),u⟩else none
   |_=>none
 |_=>none
theorem sc{a:Act}{len cap l h:Nat}{lo hi:Option Operand}{w:World}(h5:∀x,lo=some x->∃k,a.eval x=.int k (Int.ofNat l))(h3:lo=none->l=0)(h4:∀x,hi=some x->∃k,a.eval x=.int k (Int.ofNat h))(h0:hi=none->h=len)(h1:l<=h)(h2:h<=cap):
 (Instr.sliceBounds true len cap (lo.map a.eval) (hi.map a.eval) none).run P w=.ok (l,h,cap) w:=by
 have hb:∀(k:IntKind) (n y:Nat) (code:BoundsCode),n<=y->(Instr.sliceBound (.int k (Int.ofNat n)) y code).run P w=.ok n w:=by intro k n y code hn;have c1:(0:Int)<=Int.ofNat n/\Int.ofNat n<=(y:Int):=⟨by simp,by simp;exact_mod_cast hn⟩;simp only[Instr.sliceBound,asIntOf,Sem.run_bind,ahd,ahc,c1,and_self,if_true];rfl
 cases lo with
 |none=>
  have:=h3 rfl
  subst this
  cases hi with
  |none=>
   have:=h0 rfl
   subst this
   simp only[Instr.sliceBounds,Option.map_none,Sem.run_bind,ahd,ahc]
  |some y=>
   obtain⟨k,e⟩:=h4 y rfl
   simp only[Instr.sliceBounds,ahp,Option.map_none,Sem.run_bind,e,hb _ _ _ _ h2,ahd,ahc]
 |some x=>
  obtain⟨k,e⟩:=h5 x rfl
  cases hi with
  |none=>
   have:=h0 rfl
   subst this
   simp only[Instr.sliceBounds,ahp,Option.map_none,Sem.run_bind,e,hb _ _ _ _ h1,ahd,ahc]
  |some y=>
   obtain⟨k',e'⟩:=h4 y rfl
   simp only[Instr.sliceBounds,ahp,Option.map_none,Sem.run_bind,e,e',hb _ _ _ _ h1,hb _ _ _ _ h2,ahd,ahc]
theorem Gk{dflt n:Nat}{x:Option Operand}(h:xn τ dflt x=some n):(x=none->n=dflt)/\∀y,x=some y->∃k,aev τ y=.v (.int k (Int.ofNat n)):=by unfold xn at h;split at h;simp only[agw]at h;exact⟨fun _=>h.symm,fun y hy=>by cases hy⟩;rename_i y;split at h;rename_i k m hy;simp only[agw]at h;subst h;exact⟨fun e=>(by cases e),fun y' e=>(by cases e;exact⟨k,hy⟩)⟩;cases h
theorem pp{t e n:Nat}(hu:P.underlying t=some (.slice e))(hs:ap P e=some n){a:Act}{ad:Option Addr}{len cap l h:Nat}{lo hi:Option Operand}{w:World}(hb:(Instr.sliceBounds true len cap (lo.map a.eval) (hi.map a.eval) none).run P w=.ok (l,h,cap) w):
 (Instr.sliceAt t (.slice ad len cap) (lo.map a.eval) (hi.map a.eval) none).run P w=.ok (.slice (if cap=l then ad else ad.map (·.add (l*n))) (h-l) (cap-l)) w:=by
 unfold ap at hs
 cases h0:P.info? e with
 |none=>rw[h0]at hs;cases hs
 |some inf=>
  rw[h0]at hs
  simp only[ahp,agw]at hs
  subst hs
  simp only[Instr.sliceAt,Instr.slice,Sem.run_bind,run_underlying hu,ahc,hb,sizeOf,typeInfo,run_program,h0,ahd]
theorem vd{u t:Nat}{x:Operand}{lo hi:Option Operand}{r:Rec}(h:ve P τ η u t x lo hi=some r):LOp P ⟨d,.slice t x lo hi none,ty,pos,af,g⟩ τ η r.fp r.δ r.v:=by
 unfold ve at h
 split at h
 ·rename_i e hu
  split at h
  ·cases h
  ·rename_i n hs
   have h5:∀{C:Ctx} {a:Act} {l h:Nat} {d0:Nat} {d1:Nat},(∀x'∈(Op.slice t x lo hi none).operands,VR C (aev τ x') (a.eval x'))->xn τ d0 lo=some l->xn τ d1 hi=some h->
    (∀y,lo=some y->∃k,a.eval y=.int k (Int.ofNat l))/\(lo=none->l=d0)/\(∀y,hi=some y->∃k,a.eval y=.int k (Int.ofNat h))/\(hi=none->h=d1):=by
    intro C a l h d0 d1 h3 h1 h2
    obtain⟨p1,p2⟩:=Gk h1
    obtain⟨q1,q2⟩:=Gk h2
    refine⟨fun y hy=>?_,p1,fun y hy=>?_,q1⟩
    ·obtain⟨k,hk⟩:=p2 y hy
     have:=h3 y (by subst hy;simp[Op.operands])
     rw[hk]at this
     exact⟨k,this.v_inv⟩
    ·obtain⟨k,hk⟩:=q2 y hy
     have:=h3 y (by subst hy;simp[Op.operands])
     rw[hk]at this
     exact⟨k,this.v_inv⟩
   split at h
   ·rename_i id ver off len hx
    split at h
    ·cases h
    ·rename_i b hb
     obtain⟨b1,b2,b3⟩:=b9 hb
     split at h
     ·cases h
     ·rename_i l hl
      split at h
      ·cases h
      ·rename_i hh h8
       cases hc:(Nat.ble l hh&&Nat.ble hh len&&Nat.beq b.esz n)with
       |false=>rw[hc]at h;simp at h
       |true=>
        rw[hc]at h
        simp only[cond_true,agw]at h
        subst h
        simp only[ahs]at hc
        have c1:=aha hc.1.1
        have c2:=aha hc.1.2
        have c3:=agv hc.2
        refine .look [id] fun C a hg h3 ha=>?_
        have h9:C.η id=some b:=(ha id (by simp)).trans b1
        have e1:=h3 x (by simp[Op.operands])
        rw[hx]at e1
        obtain⟨ad,cap,e2,k1,k2,k3,k4⟩:=e1.sl_inv h9 b2 b3
        obtain⟨o1,o2,o3,o4⟩:=h5 h3 hl h8
        have h6:=sc (P:=P) (w:=C.w) (len:=len) (cap:=cap) o1 o2 o3 o4 c1 (by omega)
        refine⟨.slice (if cap=l then some ad else(some ad).map (·.add (l*n))) (hh-l) (cap-l),?_,?_⟩
        ·simp only[execOp,e2,Option.map_none,Sem.run_bind,pp hu hs h6,ahc]
         rfl
        ·by_cases h7:cap=l
         ·have z1:hh-l=0:=by omega
          have z2:cap-l=0:=by omega
          rw[ag2 h7,z1,z2]
          exact .slz h9 b2 b3
         ·rw[ag1 h7]
          rcases k4 with⟨k4,k5⟩|⟨k4,k5⟩
          ·omega
          ·subst k4
           have h4:(Addr.add ⟨(C.ρ id).1,(C.ρ id).2+off,none⟩ (l*n))=⟨(C.ρ id).1,(C.ρ id).2+(off+l*n),none⟩:=by
            simp[Addr.add,Nat.add_assoc]
           simp only[ahp,h4]
           refine .sl h9 b2 b3 (by omega) (by omega) (by omega) ?_
           rw[c3]at k5 ⊢
           have:l*n+(cap-l)*n=cap*n:=by rw[<-Nat.add_mul];congr 1;omega
           omega
   ·rename_i m rows hx
    split at h
    ·cases h
    ·rename_i l hl
     split at h
     ·cases h
     ·rename_i hh h8
      cases hc:(Nat.ble l hh&&Nat.ble hh rows.length&&Nat.beq m n)with
      |false=>rw[hc]at h;simp at h
      |true=>
       rw[hc]at h
       simp only[cond_true,agw]at h
       subst h
       simp only[ahs]at hc
       have c1:=aha hc.1.1
       have c2:=aha hc.1.2
       have c3:=agv hc.2
       subst c3
       refine .look [] fun C a hg h3 ha=>?_
       have e1:=h3 x (by simp[Op.operands])
       rw[hx]at e1
       have e2:=e1.tree_inv
       generalize hd:a.eval x=xv at e2
       obtain⟨o1,o2,o3,o4⟩:=h5 h3 hl h8
       cases e2 with
       |tree cell hT q1 q2 q3 q4 q5 q6=>
        rename_i bb off cap
        have h6:=sc (P:=P) (w:=C.w) (len:=rows.length) (cap:=cap) o1 o2 o3 o4 c1 (by omega)
        refine⟨_,by simp only[execOp,hd,Option.map_none,Sem.run_bind,pp hu hs h6,ahc];rfl,?_⟩
        by_cases h7:cap=l
        ·have z1:hh-l=0:=by omega
         have z2:cap-l=0:=by omega
         have z3:(rows.drop l).take (hh-l)=[]:=by rw[z1];simp
         rw[ag2 h7,z1,z2]
         rw[show List.take 0 (List.drop l rows)=[]by simp]
         exact .imm (.tree0 (by omega))
        ·rw[ag1 h7]
         have h4:(Addr.add ⟨bb,off,none⟩ (l*m))=⟨bb,off+l*m,none⟩:=by simp[Addr.add]
         simp only[ahp,h4]
         have h0:((rows.drop l).take (hh-l)).length=hh-l:=by simp;omega
         have key:VR C (.tree m ((rows.drop l).take (hh-l))) (.slice (some ⟨bb,off+l*m,none⟩) ((rows.drop l).take (hh-l)).length (cap-l)):=?_
         ·rw[h0]at key;exact key
         refine .imm (.tree (fun k j=>cell (l+k) j) hT (by rw[h0];omega) (by omega) (by rw[h0];omega) (fun k hk=>?_) (fun k j hk hj=>?_) (fun k hk j hj=>?_))
         ·simp only[List.getElem_take,List.getElem_drop]
          exact q4 _ _
         ·rw[h0]at hk
          have:=q5 (l+k) j (by omega) hj
          rw[<-this]
          congr 2
          rw[Nat.add_mul];omega
         ·rw[h0]at hk
          simp only[List.getElem_take,List.getElem_drop]at hj ⊢
          exact q6 (l+k) (by omega) j hj
       |tree0 hcap=>
        rename_i ad cap
        have hz:l=0:=by simp at c2;omega
        have he:hh=0:=by simp at c2;omega
        have h6:=sc (P:=P) (w:=C.w) (len:=0) (cap:=cap) o1 o2 o3 o4 c1 (by omega)
        refine⟨_,by simp only[execOp,hd,Option.map_none,Sem.run_bind,pp hu hs h6,ahc];rfl,?_⟩
        subst hz
        subst he
        exact .imm (.tree0 (by omega))
   ·cases h
 ·cases h
def xl(η:bf):AV->Option (List Nat)
 |.sl id ver off len=>match fw η id ver with
  |some _=>some [id]
  |none=>none
 |.ptr id ver off=>match fw η id ver with
  |some _=>some [id]
  |none=>none
 |.mp id ver=>match qa η id ver with
  |some _=>some [id]
  |none=>none
 |.clo _ _=>some []
 |.tree n (_::_)=>some []
 |.tp _ _=>some []
 |_=>none
def m5(P:Program)(t:Nat):AV->AV->Bool
 |.sl _ _ _ _,.v (.slice none _ _)=>match P.underlying t with|some (.slice _)=>true|_=>false
 |.tree _ _,.v (.slice none _ _)=>match P.underlying t with|some (.slice _)=>true|_=>false
 |.ptr _ _ _,.v (.pointer none)=>match P.underlying t with|some (.pointer _)=>true|_=>false
 |.tp _ _,.v (.pointer none)=>match P.underlying t with|some (.pointer _)=>true|_=>false
 |.mp _ _,.v (.map none)=>match P.underlying t with|some (.map _ _)=>true|_=>false
 |.clo _ _,.v .nilFunc=>match P.underlying t with|some (.func _ _ _)=>true|_=>false
 |_,_=>false
inductive NE(P:Program)(t:Nat):Value->Value->Prop where
 |sl {e:TypeId} {ad:Addr} {a b l c:Nat}:P.underlying t=some (.slice e)->NE P t (.slice (some ad) a b) (.slice none l c)
 |pt {e:TypeId} {ad:Addr}:P.underlying t=some (.pointer e)->NE P t (.pointer (some ad)) (.pointer none)
 |mp {k e:TypeId} {r:Nat}:P.underlying t=some (.map k e)->NE P t (.map (some r)) (.map none)
 |fn {a b c} {f:Fn} {x y:Array Value}:P.underlying t=some (.func a b c)->NE P t (.func f x y) .nilFunc
theorem NE.eq1{t:Nat}{x y:Value}(h:NE P t x y)(n:Nat)(w:World):(Op.equalIn (n+1) t x y).run P w=.ok false w:=by
 cases h with
 |sl hu=>simp only[Op.equalIn,Sem.run_bind,run_underlying hu,ahc,ahd]
 |pt hu=>simp only[Op.equalIn,Sem.run_bind,run_underlying hu,ahc,ahd]
 |mp hu=>simp only[Op.equalIn,Sem.run_bind,run_underlying hu,ahc,ahd]
 |fn hu=>simp only[Op.equalIn,Sem.run_bind,run_underlying hu,ahc,ahd]
theorem NE.eq2{t:Nat}{x y:Value}(h:NE P t x y)(n:Nat)(w:World):(Op.equalIn (n+1) t y x).run P w=.ok false w:=by
 cases h with
 |sl hu=>simp only[Op.equalIn,Sem.run_bind,run_underlying hu,ahc,ahd,Option.isNone_some]
 |pt hu=>simp only[Op.equalIn,Sem.run_bind,run_underlying hu,ahc,ahd,Option.isNone_some]
 |mp hu=>simp only[Op.equalIn,Sem.run_bind,run_underlying hu,ahc,ahd,Option.isNone_some]
 |fn hu=>simp only[Op.equalIn,Sem.run_bind,run_underlying hu,ahc,ahd]
theorem NE.run1{t:Nat}{x y:Value}(h:NE P t x y)(w:World):(Op.equal t x y).run P w=.ok false w:=h.eq1 9999 w
theorem NE.run2{t:Nat}{x y:Value}(h:NE P t x y)(w:World):(Op.equal t y x).run P w=.ok false w:=h.eq2 9999 w
theorem NE.op1{t:Nat}{x y:Value}(h:NE P t x y)(o1 o2:Operand)(w:World):(eqGuard .eql t o1 o2 x y).run P w=.ok () w/\(eqGuard .neq t o1 o2 x y).run P w=.ok () w/\(binOp .eql t x y).run P w=.ok (.bool false) w/\(binOp .neq t x y).run P w=.ok (.bool true) w:=by have e1:binOp .eql t x y=(do pure (.bool (<-Op.equal t x y))):=(by cases h<;>rfl);have e2:binOp .neq t x y=(do pure (.bool (!(<-Op.equal t x y)))):=(by cases h<;>rfl);have e3:eqGuard .eql t o1 o2 x y=pure ():=(by cases h<;>rfl);have e4:eqGuard .neq t o1 o2 x y=pure ():=(by cases h<;>rfl);rw[e1,e2,e3,e4];refine⟨rfl,rfl,?_,?_⟩<;>simp only[Sem.run_bind,h.run1,ahc,ahd,Bool.not_false]
theorem NE.op2{t:Nat}{x y:Value}(h:NE P t x y)(o1 o2:Operand)(w:World):(eqGuard .eql t o1 o2 y x).run P w=.ok () w/\(eqGuard .neq t o1 o2 y x).run P w=.ok () w/\(binOp .eql t y x).run P w=.ok (.bool false) w/\(binOp .neq t y x).run P w=.ok (.bool true) w:=by have e1:binOp .eql t y x=(do pure (.bool (<-Op.equal t y x))):=(by cases h<;>rfl);have e2:binOp .neq t y x=(do pure (.bool (!(<-Op.equal t y x)))):=(by cases h<;>rfl);have e3:eqGuard .eql t o1 o2 y x=pure ():=(by cases h<;>rfl);have e4:eqGuard .neq t o1 o2 y x=pure ():=(by cases h<;>rfl);rw[e1,e2,e3,e4];refine⟨rfl,rfl,?_,?_⟩<;>simp only[Sem.run_bind,h.run2,ahc,ahd,Bool.not_false]
theorem Qc{t:Nat}{a c:AV}{fp:List Nat}(hs:xl η a=some fp)(hn:m5 P t a c=true){C:Ctx}(h0:∀id∈fp,C.η id=η id){x y:Value}(hx:VR C a x)(hy:VR C c y):NE P t x y:=by
 unfold m5 at hn
 split at hn
 ·rename_i id ver off len l1 l2
  split at hn
  ·rename_i e hu
   obtain rfl:=hy.v_inv
   simp only[xl]at hs
   cases hb:fw η id ver with
   |none=>rw[hb]at hs;cases hs
   |some b=>
    rw[hb]at hs
    simp only[agw]at hs
    subst hs
    obtain⟨b1,b2,b3⟩:=b9 hb
    obtain⟨ad,cap,rfl,_⟩:=hx.sl_inv ((h0 id (by simp)).trans b1) b2 b3
    exact .sl hu
  ·cases hn
 ·rename_i n rows l1 l2
  split at hn
  ·rename_i e hu
   obtain rfl:=hy.v_inv
   cases rows with
   |nil=>cases hs
   |cons row rows=>
    have h1:=hx.tree_inv
    cases h1 with
    |tree cell hT q1 q2 q3 q4 q5 q6=>exact .sl hu
  ·cases hn
 ·rename_i id ver off
  split at hn
  ·rename_i e hu
   obtain rfl:=hy.v_inv
   simp only[xl]at hs
   cases hb:fw η id ver with
   |none=>rw[hb]at hs;cases hs
   |some b=>
    rw[hb]at hs
    simp only[agw]at hs
    subst hs
    obtain⟨b1,b2,b3⟩:=b9 hb
    obtain rfl:=hx.ptr_inv ((h0 id (by simp)).trans b1) b2
    exact .pt hu
  ·cases hn
 ·rename_i cs o
  split at hn
  ·rename_i e hu
   obtain rfl:=hy.v_inv
   have h1:=hx.tp_inv
   cases h1 with
   |tp cell hT hc hr=>exact .pt hu
  ·cases hn
 ·rename_i id ver
  split at hn
  ·rename_i k e hu
   obtain rfl:=hy.v_inv
   simp only[xl]at hs
   cases hb:qa η id ver with
   |none=>rw[hb]at hs;cases hs
   |some q=>
    obtain⟨b,clock,es⟩:=q
    rw[hb]at hs
    simp only[agw]at hs
    subst hs
    obtain⟨b1,b2⟩:=jp hb
    obtain rfl:=hx.mp_inv ((h0 id (by simp)).trans b1) (by rw[b2];rfl)
    exact .mp hu
  ·cases hn
 ·rename_i f caps
  split at hn
  ·rename_i a b c hu
   obtain rfl:=hy.v_inv
   obtain⟨vs,rfl,_⟩:=hx.clo_inv
   exact .fn hu
  ·cases hn
 ·cases hn
def aeu(P:Program)(τ:Nat->AV)(η:bf)(u t:Nat)(op:BinOp)(x y:Operand):Option Rec:=
 match op with
 |.eql=>match xl η (aev τ x)with
  |some fp=>bif m5 P t (aev τ x) (aev τ y)then some ⟨fp,[],.v (.bool false),u⟩else none
  |none=>match xl η (aev τ y)with
   |some fp=>bif m5 P t (aev τ y) (aev τ x)then some ⟨fp,[],.v (.bool false),u⟩else none
   |none=>none
 |.neq=>match xl η (aev τ x)with
  |some fp=>bif m5 P t (aev τ x) (aev τ y)then some ⟨fp,[],.v (.bool true),u⟩else none
  |none=>match xl η (aev τ y)with
   |some fp=>bif m5 P t (aev τ y) (aev τ x)then some ⟨fp,[],.v (.bool true),u⟩else none
   |none=>none
 |_=>none
theorem Vp{u t t':Nat}{op:BinOp}{x y:Operand}{r:Rec}(h:aeu P τ η u t op x y=some r):LOp P ⟨d,.binOp op t x y t',ty,pos,af,g⟩ τ η r.fp r.δ r.v:=by
 have m1:∀(fp:List Nat),xl η (aev τ x)=some fp->m5 P t (aev τ x) (aev τ y)=true->(op=.eql->LOp P ⟨d,.binOp op t x y t',ty,pos,af,g⟩ τ η fp [] (.v (.bool false)))/\(op=.neq->LOp P ⟨d,.binOp op t x y t',ty,pos,af,g⟩ τ η fp [] (.v (.bool true))):=by
  intro fp hs hn
  constructor
  ·rintro rfl
   refine .look fp fun C a hg h0 h1=>?_
   have h2:=Qc hs hn h1 (h0 x (by simp[Op.operands])) (h0 y (by simp[Op.operands]))
   obtain⟨q1,q2,q3,q4⟩:=h2.op1 x y C.w
   exact⟨_,by simp only[execOp,Sem.run_bind,q1,q3,ahc,ahd],VR.v C _⟩
  ·rintro rfl
   refine .look fp fun C a hg h0 h1=>?_
   have h2:=Qc hs hn h1 (h0 x (by simp[Op.operands])) (h0 y (by simp[Op.operands]))
   obtain⟨q1,q2,q3,q4⟩:=h2.op1 x y C.w
   exact⟨_,by simp only[execOp,Sem.run_bind,q2,q4,ahc,ahd],VR.v C _⟩
 have m2:∀(fp:List Nat),xl η (aev τ y)=some fp->m5 P t (aev τ y) (aev τ x)=true->(op=.eql->LOp P ⟨d,.binOp op t x y t',ty,pos,af,g⟩ τ η fp [] (.v (.bool false)))/\(op=.neq->LOp P ⟨d,.binOp op t x y t',ty,pos,af,g⟩ τ η fp [] (.v (.bool true))):=by
  intro fp hs hn
  constructor
  ·rintro rfl
   refine .look fp fun C a hg h0 h1=>?_
   have h2:=Qc hs hn h1 (h0 y (by simp[Op.operands])) (h0 x (by simp[Op.operands]))
   obtain⟨q1,q2,q3,q4⟩:=h2.op2 x y C.w
   exact⟨_,by simp only[execOp,Sem.run_bind,q1,q3,ahc,ahd],VR.v C _⟩
  ·rintro rfl
   refine .look fp fun C a hg h0 h1=>?_
   have h2:=Qc hs hn h1 (h0 y (by simp[Op.operands])) (h0 x (by simp[Op.operands]))
   obtain⟨q1,q2,q3,q4⟩:=h2.op2 x y C.w
   exact⟨_,by simp only[execOp,Sem.run_bind,q2,q4,ahc,ahd],VR.v C _⟩
 unfold aeu at h
 split at h
 ·split at h
  ·rename_i fp hs
   cases hn:m5 P t (aev τ x) (aev τ y)with
   |false=>rw[hn]at h;simp at h
   |true=>
    rw[hn]at h
    simp only[cond_true,agw]at h
    subst h
    exact(m1 fp hs hn).1 rfl
  ·split at h
   ·rename_i fp hs
    cases hn:m5 P t (aev τ y) (aev τ x)with
    |false=>rw[hn]at h;simp at h
    |true=>
     rw[hn]at h
     simp only[cond_true,agw]at h
     subst h
     exact(m2 fp hs hn).1 rfl
   ·cases h
 ·split at h
  ·rename_i fp hs
   cases hn:m5 P t (aev τ x) (aev τ y)with
   |false=>rw[hn]at h;simp at h
   |true=>
    rw[hn]at h
    simp only[cond_true,agw]at h
    subst h
    exact(m1 fp hs hn).2 rfl
  ·split at h
   ·rename_i fp hs
    cases hn:m5 P t (aev τ y) (aev τ x)with
    |false=>rw[hn]at h;simp at h
    |true=>
     rw[hn]at h
     simp only[cond_true,agw]at h
     subst h
     exact(m2 fp hs hn).2 rfl
   ·cases h
 ·cases h
def extE(P:Program)(E:ESX)(o:Oper):Option Rec:=match o.op with
 |.makeMap t none=>some ⟨[],[(E.u,some (b5 0 0 0 []))],.mp E.u 0,E.u+1⟩
 |.lookup t x i ok=>B4 P (bc E.t) (be E.h) E.u t x i ok
 |.mapUpdate t m k x=>ny P (bc E.t) (be E.h) E.u t m k x
 |.insert t m k x=>ny P (bc E.t) (be E.h) E.u t m k x
 |.mapEntry t m k=>Ej P (bc E.t) (be E.h) E.u t m k
 |.entryStore t m s x=>wk P (bc E.t) (be E.h) E.u t m s x
 |.range t x=>Kx P (bc E.t) (be E.h) E.u t x
 |.next x s=>Vs P (bc E.t) (be E.h) E.u x s
 |.field t x i=>M1 P (bc E.t) E.u t x i
 |.index t x i=>Mc P (bc E.t) E.u t x i
 |.slice t x lo hi none=>ve P (bc E.t) (be E.h) E.u t x lo hi
 |.binOp op t x y _=>aeu P (bc E.t) (be E.h) E.u t op x y
 |.call ⟨.builtin .len,⟨[x]⟩,ats⟩=>V0 P (bc E.t) (be E.h) E.u x ats
 |.call ⟨.builtin .delete,⟨[m,k]⟩,ats⟩=>afw P (bc E.t) (be E.h) E.u m k ats
 |_=>none
def afq(P:Program):cm:=fun o E=>match extE P E o with
 |some r=>zr E r
 |none=>none
theorem Wt:(afq P).Ok P:=by intro o E r hl h;unfold afq at h;split at h;rename_i r' hr;refine oq h ?_;obtain⟨d,op,ty,pos,af,g⟩:=o;unfold extE at hr;simp only at hr;split at hr;simp only[agw]at hr;subst hr;exact LOp.makeMap _;exact ow hr;exact kb (.inl rfl) hr;exact kb (.inr rfl) hr;exact Ig hr;exact Cm hr;exact Kw hr;exact Qb hr;exact M0 hr;exact Mb hr;exact vd hr;exact Vp hr;exact Qi hr;exact W2 hr;cases hr;cases h
end
section
variable{P:Program}{τ:Nat->AV}{η:bf}{d:Option Tmp}{ty:TypeId}{pos:String}{af:Array Edge}{g:Option (Nat×Bool)}
def Bb(τ:Nat->AV):List Operand->Option (List Value)
 |[]=>some []
 |x::l=>match X0 (aev τ x)with
  |none=>none
  |some v=>match Bb τ l with
   |none=>none
   |some r=>some (v::r)
theorem Ba{C:Ctx}{a:Act}:∀(l:List Operand) (r:List Value),(∀x∈l,VR C (aev τ x) (a.eval x))->Bb τ l=some r->l.map a.eval=r
 |[],r,_,h=>by simp only[Bb,agw]at h;subst h;rfl
 |x::l,r,hx,h=>by simp only[Bb]at h;split at h;cases h;rename_i v hv;split at h;cases h;rename_i r' hr;simp only[agw]at h;subst h;rw[ahh,rx (hx x (by simp)) hv,Ba l r' (fun y hy=>hx y (by simp[hy])) hr]
def Ew(P:Program)(τ:Nat->AV)(u:Nat)(f:FuncId)(xs:Array Operand):Option Rec:=match Bb τ xs.toList with
 |none=>none
 |some vs=>match da P (callFunc f vs.toArray)with
  |some (.value y)=>some ⟨[],[],.v y,u⟩
  |_=>none
theorem It{u:Nat}{f:FuncId}{xs:Array Operand}{ats:Array TypeId}{r:Rec}(h:Ew P τ u f xs=some r):LOp P ⟨d,.call {callee:=.value (.func f),args:=xs,argTypes:=ats},ty,pos,af,g⟩ τ η r.fp r.δ r.v:=by unfold Ew at h;split at h;cases h;rename_i vs hv;split at h;rename_i y hq;simp only[agw]at h;subst h;refine .look [] fun C a hg h0 _=>⟨y,?_,VR.v C y⟩;have e1:xs.map a.eval=vs.toArray:=(by have:=Ba (a:=a) xs.toList vs (fun x hx=>h0 x (by simp[Op.operands,Call.operands];exact .inr (by simpa using hx))) hv;rw[<-this];apply Array.ext';simp);have e0:execOp a.eval ⟨d,.call {callee:=.value (.func f),args:=xs,argTypes:=ats},ty,pos,af,g⟩=callFunc f (#[]++xs.map a.eval++#[]):=rfl;rw[e0,e1];rw[show(#[]++vs.toArray++#[]:Array Value)=vs.toArray by simp];exact iz _ _ hq C.w;cases h
def Nb(η:bf):AV->Option (List Nat)
 |.v (.slice none 0 0)=>some []
 |.tree _ []=>some []
 |.sl id ver off 0=>match fw η id ver with
  |some _=>some [id]
  |none=>none
 |_=>none
theorem Co{a:AV}{fp:List Nat}(h:Nb η a=some fp){C:Ctx}(h0:∀id∈fp,C.η id=η id){x:Value}(hx:VR C a x):∃ad c,x=.slice ad 0 c:=by
 unfold Nb at h
 split at h
 ·exact⟨_,_,hx.v_inv⟩
 ·have:=hx.tree_inv
  cases this with
  |tree=>exact⟨_,_,rfl⟩
  |tree0=>exact⟨_,_,rfl⟩
 ·rename_i id ver off
  split at h
  ·rename_i b hb
   simp only[agw]at h
   subst h
   obtain⟨b1,b2,b3⟩:=b9 hb
   obtain⟨ad,cap,e,_⟩:=hx.sl_inv ((h0 id (by simp)).trans b1) b2 b3
   exact⟨_,_,e⟩
  ·cases h
 ·cases h
def Au(P:Program)(τ:Nat->AV)(η:bf)(u t:Nat)(s x:Operand):Option Rec:=match P.underlying t with
 |some (.slice e)=>match ap P e with
  |none=>none
  |some _=>match Nb η (aev τ x)with
   |none=>none
   |some fp=>match aev τ s with
    |.v (.slice none 0 0)=>some ⟨fp,[],.v (.slice none 0 0),u⟩
    |.sl id ver off len=>match fw η id ver with
     |some _=>some ⟨id::fp,[],.sl id ver off len,u⟩
     |none=>none
    |_=>none
 |_=>none
theorem Fa{u t:Nat}{s x:Operand}{r:Rec}(h:Au P τ η u t s x=some r):LOp P ⟨d,.call {callee:=.builtin .append,args:=#[s,x],argTypes:=#[t,t]},ty,pos,af,g⟩ τ η r.fp r.δ r.v:=by
 unfold Au at h
 split at h
 ·rename_i e ht
  split at h
  ·cases h
  ·rename_i n hs
   unfold ap at hs
   cases hi:P.info? e with
   |none=>rw[hi]at hs;cases hs
   |some inf=>
    split at h
    ·cases h
    ·rename_i fp hf
     split at h
     ·rename_i h2
      simp only[agw]at h
      subst h
      refine .look fp fun C a hg h0 h1=>?_
      have e1:=h0 s (by simp[Op.operands,Call.operands])
      rw[h2]at e1
      obtain⟨ad,c,e2⟩:=Co hf h1 (h0 x (by simp[Op.operands,Call.operands]))
      refine⟨.slice none 0 0,dv C.w ?_,VR.v C _⟩
      rw[e1.v_inv,e2]
      exact cz (P:=P) (ty:=ty) ht hi C.w none ad 0 0 c (ag8 _)
     ·rename_i id ver off len h2
      split at h
      ·rename_i b hb
       obtain⟨b1,b2,b3⟩:=b9 hb
       simp only[agw]at h
       subst h
       refine .look (id::fp) fun C a hg h0 h1=>?_
       have e1:=h0 s (by simp[Op.operands,Call.operands])
       rw[h2]at e1
       obtain⟨ad,c,e2⟩:=Co hf (fun i hi=>h1 i (by simp[hi])) (h0 x (by simp[Op.operands,Call.operands]))
       obtain⟨ad',cap,e3,k1,_⟩:=e1.sl_inv ((h1 id (by simp)).trans b1) b2 b3
       refine⟨a.eval s,dv C.w ?_,e1⟩
       rw[e3,e2]
       exact cz (P:=P) (ty:=ty) ht hi C.w (some ad') ad len cap c k1
      ·cases h
     ·cases h
 ·cases h
def Na(τ:Nat->AV)(η:bf)(u:Nat)(x:Operand):Option Rec:=match aev τ x with
 |.it id ver=>match Qh η id ver with
  |some (b,.ofm mid mver since seen last)=>match qa η mid mver with
   |none=>none
   |some (mb,clock,es)=>bif Nat.beq clock last then(match seen.getLast? with
    |none=>none
    |some stamp=>match es.find? (fun e=>Nat.beq e.2.2 stamp)with
     |none=>none
     |some e=>some ⟨[id,mid],[],.tup [.v e.1,e.2.1],u⟩)else none
  |_=>none
 |_=>none
theorem All2.find{α β:Type}{R:α->β->Prop}{p:α->Bool}{q:β->Bool}(h0:∀a b,R a b->p a=q b){l:List α}{m:List β}(h:All2 R l m){a:α}(ha:l.find? p=some a):∃b,m.find? q=some b/\R a b:=by
 induction h with
 |nil=>cases ha
 |cons hr _ ih=>
  rename_i a0 b0 l m _
  rw[List.find?_cons]at ha ⊢
  rw[<-h0 _ _ hr]
  cases hp:p a0 with
  |true=>
   rw[hp]at ha
   simp only[agw]at ha
   subst ha
   exact⟨b0,rfl,hr⟩
  |false=>
   rw[hp]at ha
   exact ih ha
theorem M9{u:Nat}{x:Operand}{r:Rec}(h:Na τ η u x=some r):LOp P ⟨d,.entry x,ty,pos,af,g⟩ τ η r.fp r.δ r.v:=by
 unfold Na at h
 split at h
 ·rename_i id ver hx
  split at h
  ·rename_i b mid mver since seen last hb
   obtain⟨ha,h4⟩:=Aa hb
   have hd:b.cs=i6 (.mp mid mver) since seen last:=by rw[h4];rfl
   split at h
   ·cases h
   ·rename_i mb clock es hm
    obtain⟨he,h6⟩:=jp hm
    cases hc:Nat.beq clock last with
    |false=>rw[hc]at h;simp at h
    |true=>
     rw[hc]at h
     simp only[cond_true]at h
     obtain rfl:=agv hc
     split at h
     ·cases h
     ·rename_i stamp hh
      split at h
      ·cases h
      ·rename_i e hf
       simp only[agw]at h
       subst h
       refine .look [id,mid] fun C a hg hi h7=>?_
       have h8:C.η id=some b:=(h7 id (by simp)).trans ha
       have h9:C.η mid=some mb:=(h7 mid (by simp)).trans he
       have e1:=hi x (by simp[Op.operands])
       rw[hx]at e1
       have e1':=e1.it_inv h8 (by rw[h4];rfl)
       obtain⟨ob,g1,g2⟩:=hg.obj h8 (by rw[h4];rfl)
       rw[hd]at g2
       obtain⟨m,rfl,hj⟩:=g2.miter_inv
       have hk:=hj.mp_inv h9 (by rw[h6];rfl)
       have hl:m=(C.ρ mid).1:=by simpa using hk
       subst hl
       obtain⟨entries,q1,q2,q3⟩:=yf hg h9 h6
       have h5:All2 (fun(x:Value×AV×Nat) (e:MapEntry)=>e.key=x.1/\VR C x.2.1 e.val/\e.born=x.2.2) es entries.toList:=ql (by simpa using q2) (fun i h1 h2=>by simpa using q3 i h1 (by simpa using h2))
       obtain⟨en,hn,k1,k2,k3⟩:=h5.find (q:=fun e=>e.born==stamp) (fun a b ho=>by
        rw[ho.2.2,Bool.eq_iff_iff,beq_iff_eq]
        constructor
        ·exact agv
        ·intro e;rw[e];exact Nat.beq_refl _) hf
       refine⟨.tuple #[en.key,en.val],?_,VR.pair (by rw[k1];exact VR.v C _) k2⟩
       have h0:seen.toArray.back? =some stamp:=by rw[<-hh];simp
       have h3:entries.find? (fun e=>e.born==stamp)=some en:=by rw[<-hn];simp
       simp only[execOp,e1',Instr.entry,Sem.run_bind,fb g1 (fun _ _ _ e=>by cases e),ahc,h0,fb q1 (fun _ _ _ e=>by cases e),bne_self_eq_false,Bool.false_eq_true,if_false,h3,ahd]
  ·cases h
 ·cases h
def aa9(P:Program)(E:ESX)(o:Oper):Option Rec:=match o.op with
 |.call ⟨.value (.func f),xs,ats⟩=>Ew P (bc E.t) E.u f xs
 |.call ⟨.builtin .append,⟨[s,x]⟩,⟨[t,t']⟩⟩=>bif Nat.beq t t' then Au P (bc E.t) (be E.h) E.u t s x else none
 |.entry x=>Na (bc E.t) (be E.h) E.u x
 |_=>none
def Wv(P:Program):cm:=fun o E=>match afq P o E with
 |some r=>some r
 |none=>match aa9 P E o with
  |some r=>zr E r
  |none=>none
theorem Qw:(Wv P).Ok P:=by
 intro o E r hl h
 unfold Wv at h
 split at h
 ·rename_i r' hr
  simp only[agw]at h
  subst h
  exact Wt _ _ _ hl hr
 ·rename_i h0
  clear h0
  split at h
  ·rename_i r' hr
   refine oq h ?_
   obtain⟨d,op,ty,pos,af,g⟩:=o
   unfold aa9 at hr
   simp only at hr
   split at hr
   ·exact It hr
   ·rename_i s x t t'
    cases ht:Nat.beq t t' with
    |false=>rw[ht]at hr;simp at hr
    |true=>
     rw[ht]at hr
     simp only[cond_true]at hr
     obtain rfl:=agv ht
     exact Fa hr
   ·exact M9 hr
   ·cases hr
  ·cases h
end
section
variable{P:Program}{τ:Nat->AV}{η:bf}{d:Option Tmp}{ty:TypeId}{pos:String}{af:Array Edge}{g:Option (Nat×Bool)}
theorem zf{t e len cap:Nat}{inf:TypeInfo}{z:Value}(he:P.underlying t=some (.slice e))(hi:P.info? e=some inf)(hz:inf.zero=some z)(hlc:len<=cap)(hc2:cap<=16777216)(hb2:inf.bytes*cap<=281474976710656)(w:World):
 (Instr.makeSlice t (.int .i64 (Int.ofNat len)) (.int .i64 (Int.ofNat cap))).run P w=.ok (.slice (some ⟨w.heap.size,0,none⟩) len cap) (w.alloc (.cells ((Array.range (cap*inf.size)).map fun i=>(if cap*inf.size=0 then(#[]:Array Value)else z.cells)[i%(if cap*inf.size=0 then(#[]:Array Value)else z.cells).size]!) e)):=by
 have h1:IntKind.i64.wrap (Int.ofNat len)=Int.ofNat len:=IntWalk.i64_in _ (by constructor<;>simp<;>omega)
 have h2:IntKind.i64.wrap (Int.ofNat cap)=Int.ofNat cap:=IntWalk.i64_in _ (by constructor<;>simp<;>omega)
 have c1:¬(((inf.bytes:Int)*Int.ofNat cap>2^48)):=by have:(inf.bytes:Int)*Int.ofNat cap=((inf.bytes*cap:Nat):Int):=(by simp);rw[this];omega
 have c2:¬((Int.ofNat cap:Int)<0):=by simp
 have c3:¬((Int.ofNat len:Int)<0):=by simp
 have c4:¬((Int.ofNat len:Int)>Int.ofNat cap):=by simp;omega
 simp only[Instr.makeSlice,Sem.run_bind,run_underlying he,ahc,asInt,typeInfo,run_program,hi,ahd]
 have a1:∀(n:Nat) (w:World),(asIntOf (Value.int IntKind.i64 (Int.ofNat n))).run P w=.ok (IntKind.i64,Int.ofNat n) w:=fun n w=>rfl
 simp only[a1,ahc,h1,h2]
 have cc:(decide ((Int.ofNat cap:Int)<0)||decide ((inf.bytes:Int)*Int.ofNat cap>2^48)||decide ((Int.ofNat len:Int)<0)||decide ((Int.ofNat len:Int)>Int.ofNat cap))=false:=by simp only[Bool.or_eq_false_iff,decide_eq_false_iff_not];exact⟨⟨⟨c2,c1⟩,c3⟩,c4⟩
 rw[ag1 (by rw[cc];exact ahr)]
 have tn:∀n:Nat,(Int.ofNat n).toNat=n:=fun n=>rfl
 simp only[tn,Sem.run_bind]
 have ar:∀w:World,(askRoom (cap*inf.bytes)).run P w=.ok () w:=fun w=>by unfold askRoom;split<;>rfl
 simp only[ar,ahc,sizeOf,typeInfo,Sem.run_bind,run_program,hi,ahd]
 by_cases h0:cap*inf.size=0
 ·rw[ag2 h0]
  simp only[ahd,ahc,h0,if_true]
  rfl
 ·rw[ag1 h0]
  simp only[Sem.run_bind,zeroValue,typeInfo,run_program,hi,ahd,ahc,hz,h0,if_false]
  rfl
theorem xr(u:Nat){t e len cap s bys:Nat}{z:Value}{x y:Operand}(he:P.underlying t=some (.slice e))(hs:ap P e=some s)(hz:bi P e=some z)(h2:(P.info? e).map (·.bytes)=some bys)
 (hx:aev τ x=.v (.int .i64 (Int.ofNat len)))(hy:aev τ y=.v (.int .i64 (Int.ofNat cap)))(hb:Nat.ble len cap=true)(hc:Nat.ble cap 16777216=true)(hd:Nat.ble (bys*cap) 281474976710656=true):
 LOp P ⟨d,.makeSlice t x y,ty,pos,af,g⟩ τ η [] [(u,some ⟨0,b6 z (cap*s),s,false⟩)] (.sl u 0 0 len):=by
 intro C a hg h9 _ h5 K Q hK
 have hu:¬C.U u:=h5 (u,some ⟨0,b6 z (cap*s),s,false⟩) (by simp) (by simp)
 have h6:=aha hc
 have h1:=aha hb
 have h7:=aha hd
 have e1:=h9 x (by simp[Op.operands])
 have e2:=h9 y (by simp[Op.operands])
 rw[hx]at e1
 rw[hy]at e2
 unfold ap at hs
 unfold bi at hz
 cases hi:P.info? e with
 |none=>rw[hi]at hz;cases hz
 |some inf=>
  rw[hi]at hz hs h2
  simp only[ahq]at hz
  simp only[ahp,agw]at hs h2
  subst hs h2
  have hr:=zf he hi hz h1 h6 h7 C.w
  generalize ha:((Array.range (cap*inf.size)).map fun i=>(if cap*inf.size=0 then(#[]:Array Value)else z.cells)[i%(if cap*inf.size=0 then(#[]:Array Value)else z.cells).size]!)=es at hr
  have gsz:es.size=cap*inf.size:=by rw[<-ha];simp
  have z1:(b6 z (cap*inf.size)).length=es.size:=by simp[b6,gsz]
  have z2:∀i (h:i<(b6 z (cap*inf.size)).length) (h':i<es.size),VR C (b6 z (cap*inf.size))[i] es[i]:=fun i h h'=>by have h0:¬(cap*inf.size=0):=(by omega);subst ha;simp only[b6,List.getElem_map,List.getElem_range,Array.getElem_map,Array.getElem_range,h0,if_false];exact VR.v C _
  have h8:(execOp a.eval ⟨d,.makeSlice t x y,ty,pos,af,g⟩).run P C.w=.ok (.value (.slice (some ⟨C.w.heap.size,0,none⟩) len cap)) (C.w.alloc (.cells es e)):=by simp only[execOp,e1.v_inv,e2.v_inv,Sem.run_bind,hr,ahc];rfl
  unfold Oper.wp
  rw[h8]
  refine hK _ (C.alloc u es e ⟨0,b6 z (cap*inf.size),inf.size,false⟩) rfl (fun i=>by simp[Ctx.alloc]) (cy hg hu rfl (Nat.le_of_eq z1) z2) (df hg hu rfl) ?_
  have h3:(C.alloc u es e ⟨0,b6 z (cap*inf.size),inf.size,false⟩).ρ u=(C.w.heap.size,0):=by simp[Ctx.alloc]
  have h4:(C.alloc u es e ⟨0,b6 z (cap*inf.size),inf.size,false⟩).sz u=es.size:=by simp[Ctx.alloc]
  have:=VR.sl (C:=C.alloc u es e ⟨0,b6 z (cap*inf.size),inf.size,false⟩) (id:=u) (ver:=0) (off:=0) (len:=len) (cap:=cap) (b:=⟨0,b6 z (cap*inf.size),inf.size,false⟩) (am _ _ _) rfl rfl h1 (by unfold maxLen;omega) (by omega)
   (by rw[h3,h4,gsz];simp)
  rw[h3]at this
  exact this
def pw(P:Program)(τ:Nat->AV)(u t:Nat)(x y:Operand):Option Rec:=match P.underlying t with
 |some (.slice e)=>match ap P e with
  |none=>none
  |some s=>match bi P e with
   |none=>none
   |some z=>match(P.info? e).map (·.bytes)with
    |none=>none
    |some bys=>match aev τ x with
     |.v (.int .i64 (.ofNat len))=>match aev τ y with
      |.v (.int .i64 (.ofNat cap))=>bif Nat.ble len cap&&Nat.ble cap 16777216&&Nat.ble (bys*cap) 281474976710656 then
       some ⟨[],[(u,some ⟨0,b6 z (cap*s),s,false⟩)],.sl u 0 0 len,u+1⟩else none
      |_=>none
     |_=>none
 |_=>none
theorem xo{u t:Nat}{x y:Operand}{r:Rec}(h:pw P τ u t x y=some r):LOp P ⟨d,.makeSlice t x y,ty,pos,af,g⟩ τ η r.fp r.δ r.v:=by
 unfold pw at h
 split at h
 ·rename_i e he
  split at h
  ·cases h
  ·rename_i s hs
   split at h
   ·cases h
   ·rename_i z hz
    split at h
    ·cases h
    ·rename_i bys h0
     split at h
     ·rename_i len hx
      split at h
      ·rename_i cap hy
       cases hc:(Nat.ble len cap&&Nat.ble cap 16777216&&Nat.ble (bys*cap) 281474976710656)with
       |false=>rw[hc]at h;simp at h
       |true=>
        rw[hc]at h
        simp only[cond_true,agw]at h
        subst h
        simp only[ahs]at hc
        exact xr u he hs hz h0 hx hy hc.1.1 hc.1.2 hc.2
      ·cases h
     ·cases h
 ·cases h
theorem Jj{o:Oper}{id ver off n:Nat}{b:Blk}{vs:List AV}{v:AV}(hb:η id=some b)(hv:b.ver=ver)(hn:b.nilp=false)(hl:vs.length=n)(hc:off+n<=b.cs.length)(h1:vs.all AV.one=true)
 (h:∀(C:Ctx) (a:Act),Good C->(∀x∈o.op.operands,VR C (aev τ x) (a.eval x))->C.η id=some b->∃(xs:List Value) (x:Value),xs.length=vs.length/\(∀i (h:i<vs.length) (h':i<xs.length),VR C vs[i] xs[i])/\VR C v x/\
  ((storeCells ⟨(C.ρ id).1,(C.ρ id).2+off,none⟩ xs 0).run P C.w=.ok () (C.w.setCells (C.ρ id).1 ((C.ρ id).2+off) xs)->(execOp a.eval o).run P C.w=.ok (.value x) (C.w.setCells (C.ρ id).1 ((C.ρ id).2+off) xs))):
 LOp P o τ η [id] [(id,some {b with cs:=bg b.cs off vs})] v:=by
 intro C a hg h7 h8 _ K Q hK
 have hb':C.η id=some b:=(h8 id (by simp)).trans hb
 obtain⟨xs,x,h2,h3,h4,h5⟩:=h C a hg h7 hb'
 obtain⟨c,t',g1,g2,g3,g4⟩:=hg.blk hb' hn
 have h0:=run_storeCells_cells (P:=P) (C.ρ id).1 ((C.ρ id).2+off) xs 0 C.w (fun j hj=>by have:(C.ρ id).2+off+0+j<c.size:=(by omega);simp[World.cell?,g1];omega) (fun j _=>by simp[World.frozen?,g1]) (fun w hw=>by obtain⟨i,hi,rfl⟩:=ahe hw;exact(h3 i (by omega) hi).one (List.all_eq_true.1 h1 _ (agt _)))
 simp only[Nat.add_zero]at h0
 have hr:=h5 h0
 have h9:=ld (o:=off) (vs:=vs) (xs:=xs) hg hb' hn (by omega) h2 h3
 have h6:=kz (id:=id) (b:=b) (o:=off) (vs:=vs) (xs:=xs) hg hb' hn
 unfold Oper.wp
 rw[hr]
 exact hK x (C.store id b off vs xs) rfl (fun i=>by simp[Ctx.store];rintro rfl;exact hg.used hb') h9 h6 (h4.mono hg h6)
def er(z:Value)(n:Nat):List AV:=(Builtin.zeroCells z.cells n).toList.map .v
def Nm(P:Program)(τ:Nat->AV)(η:bf)(u:Nat)(x:Operand)(ats:Array TypeId):Option Rec:=match ats[0]? with
 |none=>none
 |some t=>match P.underlying t with
  |some (.slice e)=>match bi P e with
   |none=>none
   |some z=>match aev τ x with
    |.sl id ver off len=>match fw η id ver with
     |none=>none
     |some b=>bif Nat.beq len 0 then some ⟨[id],[],.v (.tuple #[]),u⟩else
      bif (er z len).all AV.one&&Nat.beq (er z len).length (len*b.esz)then(match t6 off b.cs (er z len)with
      |some ds=>some ⟨[id],[(id,some ⟨b.ver,ds,b.esz,b.nilp⟩)],.v (.tuple #[]),u⟩
      |none=>none)else none
    |.v (.slice none 0 0)=>some ⟨[],[],.v (.tuple #[]),u⟩
    |_=>none
  |_=>none
theorem Nl{u:Nat}{x:Operand}{ats:Array TypeId}{r:Rec}(h:Nm P τ η u x ats=some r):LOp P ⟨d,.call {callee:=.builtin .clear,args:=#[x],argTypes:=ats},ty,pos,af,g⟩ τ η r.fp r.δ r.v:=by
 have h5:∀(a:Act) (w:World),(execOp a.eval ⟨d,.call {callee:=.builtin .clear,args:=#[x],argTypes:=ats},ty,pos,af,g⟩).run P w=((Builtin.clear_ ats ty #[a.eval x]).run P w).andThen fun x w=>.ok (.value x) w:=by intro a w;simp only[execOp,resolve,invoke,builtin,Sem.run_bind,ahd,ahc];simp only[List.map_toArray,ahh,List.map_nil]
 unfold Nm at h;split at h;cases h;rename_i t ht;split at h;rename_i e hu;split at h;cases h;rename_i z hz;split at h;rename_i id ver off len hx;split at h;cases h;rename_i b hb;obtain⟨b1,b2,b3⟩:=b9 hb;cases h3:Nat.beq len 0 with
 |true=>
  rw[h3]at h
  simp only[cond_true,agw]at h
  subst h
  have:=agv h3
  subst this
  refine .look [id] fun C a hg h4 h7=>?_
  have e1:=h4 x (by simp[Op.operands,Call.operands])
  rw[hx]at e1
  obtain⟨ad,cap,e2,_⟩:=e1.sl_inv ((h7 id (by simp)).trans b1) b2 b3
  refine⟨.tuple #[],?_,VR.v C _⟩
  rw[h5,e2]
  simp[Builtin.clear_,ht,Sem.run_bind,run_underlying hu]
 |false=>
  rw[h3]at h
  simp only[cond_false]at h
  cases hc:((er z len).all AV.one&&Nat.beq (er z len).length (len*b.esz))with
  |false=>rw[hc]at h;simp at h
  |true=>
   rw[hc]at h
   simp only[cond_true]at h
   rw[ahs]at hc
   split at h
   ·rename_i ds hd
    simp only[agw]at h
    subst h
    obtain⟨k3,k4⟩:=qp _ _ _ _ hd
    subst k4
    refine Jj (n:=(er z len).length) b1 b2 b3 rfl k3 hc.1 fun C a hg h4 h8=>?_
    have e1:=h4 x (by simp[Op.operands,Call.operands])
    rw[hx]at e1
    obtain⟨ad,cap,e2,q1,q2,q3,q4⟩:=e1.sl_inv h8 b2 b3
    have h6:len≠0:=fun e=>by rw[e,Nat.beq_refl]at h3;cases h3
    have h9:ad=⟨(C.ρ id).1,(C.ρ id).2+off,none⟩:=by
     rcases q4 with⟨h0,_⟩|⟨h0,_⟩
     ·exact absurd h0 h6
     ·exact h0
    subst h9
    refine⟨(Builtin.zeroCells z.cells len).toList,.tuple #[],by simp[er],fun i h1 h2=>by simp only[er,List.getElem_map];exact VR.v C _,VR.v C _,fun ha=>?_⟩
    rw[h5,e2]
    obtain⟨m,rfl⟩:∃m,len=m+1:=⟨len-1,by omega⟩
    simp only[Builtin.clear_,List.getElem?_toArray,ht,Sem.run_bind,run_underlying hu,ahc]
    have e0:(#[Value.slice (some ⟨(C.ρ id).1,(C.ρ id).2+off,none⟩) (m+1) cap]:Array Value)[0]? =some (Value.slice (some ⟨(C.ρ id).1,(C.ρ id).2+off,none⟩) (m+1) cap):=rfl
    simp only[List.getElem?_cons_zero,Sem.run_bind,run_underlying hu,ahc,j5 hz,ha,ahd]
   ·cases h
 rename_i hx;simp only[agw]at h;subst h;refine .look [] fun C a hg h4 h7=>?_;have e1:=h4 x (by simp[Op.operands,Call.operands])
 rw[hx]at e1;refine⟨.tuple #[],?_,VR.v C _⟩;rw[h5,e1.v_inv];simp[Builtin.clear_,ht,Sem.run_bind,run_underlying hu];cases h;cases h
theorem tv{t ti e:TypeId}{k:IntKind}{i:TypeInfo}{z:Value}(ht:P.underlying t=some (.slice e))(h4:P.underlying ti=some (.int k))(hi:P.info? e=some i)(hz:i.zero=some z){n:Nat}(h0:0<n)(h63:n<=16777216)(h48:n*i.bytes<=140737488355328)(h5:¬(n*i.size=0))(h6:i.bytes≠0)(w:World):
 (Builtin.append_ #[t,ti] ty #[.slice none 0 0,.int .i64 (Int.ofNat n)]).run P w=.ok (.slice (some ⟨w.heap.size,0,none⟩) n (grownCap w n 0 e)) (w.drew.alloc (.cells (Builtin.zeroCells z.cells n++Builtin.zeroCells z.cells (grownCap w n 0 e-n)) e)):=by
 have hn:n≠0:=by omega
 have h7:IntKind.i64.wrap (Int.ofNat n)=Int.ofNat n:=IntWalk.i64_in _ (by constructor<;>simp<;>omega)
 have c1:¬((Int.ofNat n:Int)<0):=by simp
 have c2:¬((Int.ofNat n:Int)*(i.bytes:Int)>2^48):=by have:(Int.ofNat n:Int)*(i.bytes:Int)=((n*i.bytes:Nat):Int):=(by simp);rw[this];omega
 have h1:¬(9223372036854775807<(n:Int)):=by omega
 have h2:¬(281474976710656<Builtin.nextslicecap n 0*i.bytes):=by rw[nextslicecap_zero h0];omega
 have tn:(Int.ofNat n).toNat=n:=rfl
 have c1':¬((n:Int)<0):=by omega
 have c2':¬(281474976710656<(n:Int)*(i.bytes:Int)):=by have:(n:Int)*(i.bytes:Int)=((n*i.bytes:Nat):Int):=(by simp);rw[this];omega
 have h3:IntKind.i64.wrap (n:Int)=(n:Int):=h7
 simp[Builtin.append_,run_underlying ht,run_underlying h4,asInt,asIntOf,h3,c1',c2',sizeOf,typeInfo,zeroValue,hi,hz,hn,h1,h2,Question.forced,run_firstCells_none,newRow,grownCap,h6]
 intro h
 exact absurd h h5
theorem xb(u:Nat){t ti e n:Nat}{k:IntKind}{i:TypeInfo}{z:Value}{s x:Operand}(ht:P.underlying t=some (.slice e))(he:P.underlying ti=some (.int k))(hi:P.info? e=some i)(hz:i.zero=some z)(h7:z.cells.size=i.size)(h0:0<n)(hf:n<=16777216)(hh:n*i.bytes<=140737488355328)(hk:¬(n*i.size=0))(hl:i.bytes≠0)
 (hs:aev τ s=.v (.slice none 0 0))(hx:aev τ x=.v (.int .i64 (Int.ofNat n))):
 LOp P ⟨d,.call {callee:=.builtin .append,args:=#[s,x],argTypes:=#[t,ti]},ty,pos,af,g⟩ τ η [] [(u,some ⟨0,er z n,i.size,false⟩)] (.sl u 0 0 n):=by
 intro C a hg h8 _ h2 K Q hK
 have hu:¬C.U u:=h2 (u,some ⟨0,er z n,i.size,false⟩) (by simp) (by simp)
 have e1:=h8 s (by simp[Op.operands,Call.operands])
 have e2:=h8 x (by simp[Op.operands,Call.operands])
 rw[hs]at e1
 rw[hx]at e2
 have hr:=tv (P:=P) (ty:=ty) ht he hi hz h0 hf hh hk hl C.w
 generalize h1:(Builtin.zeroCells z.cells n++Builtin.zeroCells z.cells (grownCap C.w n 0 e-n))=nc at hr
 have h9:=grownCap_ge C.w n 0 e
 have hm:grownCap C.w n 0 e<=maxLen:=grownCap_le_maxLen C.w n 0 e (by unfold maxLen;omega)
 have h5:nc.size=grownCap C.w n 0 e*i.size:=by rw[<-h1];simp only[Array.size_append,size_zeroCells,h7,<-Nat.add_mul];congr 1;omega
 have hzl:(er z n).length=n*i.size:=by simp only[er,ag0,Array.length_toList,size_zeroCells,h7]
 have hle:n*i.size<=grownCap C.w n 0 e*i.size:=Nat.mul_le_mul_right _ h9
 have h6:∀j (h:j<(er z n).length) (h':j<nc.size),VR C (er z n)[j] nc[j]:=by intro j hj hn;have ha:j<(Builtin.zeroCells z.cells n).size:=(by simp[er]at hj;simpa using hj);have hb:nc[j]? =(Builtin.zeroCells z.cells n)[j]?:=(by rw[<-h1,Array.getElem?_append_left ha]);rw[Array.getElem?_eq_getElem hn,Array.getElem?_eq_getElem ha]at hb;rw[Option.some.inj hb];simp only[er,List.getElem_map,Array.getElem_toList];exact VR.v C _
 obtain⟨hc,hd⟩:=j9 hg
 unfold Oper.wp
 rw[dv C.w (by rw[e1.v_inv,e2.v_inv];exact hr)]
 have ho:=cy (C:={C with w:=C.w.drew}) (u:=u) (cells:=nc) (t:=e) (b:=⟨0,er z n,i.size,false⟩) hc hu rfl (by simp only;omega) (fun j h h'=>(h6 j h h').mono hg hd)
 have hp:=df (C:={C with w:=C.w.drew}) (u:=u) (cells:=nc) (t:=e) (b:=⟨0,er z n,i.size,false⟩) hc hu rfl
 refine hK _ (Ctx.alloc {C with w:=C.w.drew} u nc e ⟨0,er z n,i.size,false⟩) rfl (fun i=>by simp[Ctx.alloc]) ho (hd.trans hp) ?_
 have h3:(Ctx.alloc {C with w:=C.w.drew} u nc e ⟨0,er z n,i.size,false⟩).ρ u=(C.w.heap.size,0):=by simp[Ctx.alloc]
 have h4:(Ctx.alloc {C with w:=C.w.drew} u nc e ⟨0,er z n,i.size,false⟩).sz u=nc.size:=by simp[Ctx.alloc]
 have:=VR.sl (C:=Ctx.alloc {C with w:=C.w.drew} u nc e ⟨0,er z n,i.size,false⟩) (id:=u) (ver:=0) (off:=0) (len:=n) (cap:=grownCap C.w n 0 e) (b:=⟨0,er z n,i.size,false⟩) (am _ _ _) rfl rfl h9 hm (by omega)
  (by rw[h3,h4,h5];simp)
 rw[h3]at this
 exact this
def n9(P:Program)(τ:Nat->AV)(u t ti:Nat)(s x:Operand):Option Rec:=match P.underlying t with
 |some (.slice e)=>match P.underlying ti with
  |some (.int k)=>match P.info? e with
   |none=>none
   |some i=>match i.zero with
    |none=>none
    |some z=>match aev τ s with
     |.v (.slice none 0 0)=>match aev τ x with
      |.v (.int .i64 (.ofNat n))=>bif Nat.beq z.cells.size i.size&&Nat.ble 1 n&&Nat.ble n 16777216&&Nat.ble (n*i.bytes) 140737488355328&&!Nat.beq (n*i.size) 0&&!Nat.beq i.bytes 0 then
       some ⟨[],[(u,some ⟨0,er z n,i.size,false⟩)],.sl u 0 0 n,u+1⟩else none
      |_=>none
     |_=>none
  |_=>none
 |_=>none
theorem wu{u t ti:Nat}{s x:Operand}{r:Rec}(h:n9 P τ u t ti s x=some r):LOp P ⟨d,.call {callee:=.builtin .append,args:=#[s,x],argTypes:=#[t,ti]},ty,pos,af,g⟩ τ η r.fp r.δ r.v:=by
 unfold n9 at h
 split at h
 ·rename_i e ht
  split at h
  ·rename_i k h0
   split at h
   ·cases h
   ·rename_i i hi
    split at h
    ·cases h
    ·rename_i z hz
     split at h
     ·rename_i hs
      split at h
      ·rename_i n hx
       cases hc:(Nat.beq z.cells.size i.size&&Nat.ble 1 n&&Nat.ble n 16777216&&Nat.ble (n*i.bytes) 140737488355328&&!Nat.beq (n*i.size) 0&&!Nat.beq i.bytes 0)with
       |false=>rw[hc]at h;simp at h
       |true=>
        rw[hc]at h
        simp only[cond_true,agw]at h
        subst h
        simp only[ahs,Bool.not_eq_true']at hc
        obtain⟨⟨⟨⟨⟨c1,c2⟩,c3⟩,c4⟩,c5⟩,c6⟩:=hc
        exact xb u ht h0 hi hz (agv c1) (aha c2) (aha c3) (aha c4) (fun e=>by rw[e]at c5;cases c5) (fun e=>by rw[e]at c6;cases c6) hs hx
      ·cases h
     ·cases h
  ·cases h
 ·cases h
theorem ta{t e s len:Nat}{k:IntKind}{j b o:Nat}{w:World}(he:P.underlying t=some (.array len e))(hs:ap P e=some s)(hj:j<len):
 (Instr.indexAt t (.pointer (some ⟨b,o,none⟩)) (.int k (Int.ofNat j))).run P w=.ok (.pointer (some ⟨b,o+j*s,none⟩)) w:=by
 unfold ap at hs
 cases hi:P.info? e with
 |none=>rw[hi]at hs;cases hs
 |some inf=>
  rw[hi]at hs
  simp only[ahp,agw]at hs
  subst hs
  have c1:(0:Int)<=Int.ofNat j/\Int.ofNat j<(len:Int):=⟨by simp,by simp;exact_mod_cast hj⟩
  have c2:(Int.ofNat j).toNat=j:=rfl
  have h0:(Addr.add ⟨b,o,none⟩ (j*inf.size))=⟨b,o+j*inf.size,none⟩:=by simp[Addr.add]
  simp only[Instr.indexAt,asIntOf,Instr.sureAddr,Sem.run_bind,ahd,ahc,run_underlying he]
  simp only[c1,and_self,if_true,Sem.run_bind,sizeOf,typeInfo,run_program,hi,ahd,ahc,c2,h0]
def n4(P:Program)(τ:Nat->AV)(η:bf)(u t:Nat)(x i:Operand):Option Rec:=match P.underlying t with
 |some (.array len e)=>match ap P e with
  |none=>none
  |some n=>match aev τ i with
   |.v (.int k (.ofNat j))=>bif Nat.blt j len then(match aev τ x with
    |.tp cs o=>some ⟨[],[],.tp cs (o+j*n),u⟩
    |.ptr id ver o=>match fw η id ver with
     |some _=>some ⟨[id],[],.ptr id ver (o+j*n),u⟩
     |none=>none
    |_=>none)else none
   |_=>none
 |_=>none
theorem n0{u t:Nat}{x i:Operand}{r:Rec}(h:n4 P τ η u t x i=some r):LOp P ⟨d,.indexAddr t x i,ty,pos,af,g⟩ τ η r.fp r.δ r.v:=by
 unfold n4 at h
 split at h
 ·rename_i len e he
  split at h
  ·cases h
  ·rename_i n hs
   split at h
   ·rename_i k j hi
    cases h2:Nat.blt j len with
    |false=>rw[h2]at h;simp at h
    |true=>
     rw[h2]at h
     simp only[cond_true]at h
     have h0:j<len:=by simpa using h2
     split at h
     ·rename_i cs o hx
      simp only[agw]at h
      subst h
      refine .look [] fun C a hg h1 _=>?_
      have e1:=h1 x (by simp[Op.operands])
      have e0:=h1 i (by simp[Op.operands])
      rw[hx]at e1
      rw[hi]at e0
      have e0':=e0.v_inv
      have e2:=e1.tp_inv
      generalize h4:a.eval x=xv at e2
      cases e2 with
      |tp cell hT hc hr=>
       refine⟨_,by simp only[execOp,h4,e0',Sem.run_bind,ta he hs h0,ahc];rfl,?_⟩
       rw[Nat.add_assoc]
       exact .imm (.tp cell hT hc hr)
     ·rename_i id ver o hx
      split at h
      ·rename_i b hb
       obtain⟨b1,b2,b3⟩:=b9 hb
       simp only[agw]at h
       subst h
       refine .look [id] fun C a hg h1 h5=>?_
       have h3:C.η id=some b:=(h5 id (by simp)).trans b1
       have e1:=h1 x (by simp[Op.operands])
       have e0:=h1 i (by simp[Op.operands])
       rw[hx]at e1
       rw[hi]at e0
       have e0':=e0.v_inv
       have e2:=e1.ptr_inv h3 b2
       refine⟨_,by simp only[execOp,e2,e0',Sem.run_bind,ta he hs h0,ahc];rfl,?_⟩
       rw[Nat.add_assoc]
       exact .ptr h3 b2 b3
      ·cases h
     ·cases h
   ·cases h
 ·cases h
def aa8(P:Program)(E:ESX)(o:Oper):Option Rec:=match o.op with
 |.makeSlice t x y=>pw P (bc E.t) E.u t x y
 |.indexAddr t x i=>n4 P (bc E.t) (be E.h) E.u t x i
 |.call ⟨.builtin .clear,⟨[x]⟩,ats⟩=>Nm P (bc E.t) (be E.h) E.u x ats
 |.call ⟨.builtin .append,⟨[s,x]⟩,⟨[t,ti]⟩⟩=>n9 P (bc E.t) E.u t ti s x
 |_=>none
def Wu(P:Program):cm:=fun o E=>match Wv P o E with
 |some r=>some r
 |none=>match aa8 P E o with
  |some r=>zr E r
  |none=>none
theorem Qv:(Wu P).Ok P:=by intro o E r hl h;unfold Wu at h;split at h;rename_i r' hr;simp only[agw]at h;subst h;exact Qw _ _ _ hl hr;rename_i h0;clear h0;split at h;rename_i r' hr;refine oq h ?_;obtain⟨d,op,ty,pos,af,g⟩:=o;unfold aa8 at hr;simp only at hr;split at hr;exact xo hr;exact n0 hr;exact Nl hr;exact wu hr;cases hr;cases h
end
def yi(x:Operand):ESX->AV:=match x with
 |.tmp t=>fun E=>bc E.t t
 |.const v=>fun _=>.v v
 |.global g=>fun _=>.v (.pointer (some ⟨g,0,none⟩))
 |.func f=>fun _=>.clo f []
theorem db(x:Operand)(E:ESX):yi x E=aev (bc E.t) x:=by cases x<;>rfl
def Qd(x:Operand)(E:ESX):Option Rx:=some (ji E (yi x E))
def Zp(c x y:Operand)(E:ESX):Option Rx:=match yi c E with
 |.v (.bool true)=>some (ji E (yi x E))
 |.v (.bool false)=>some (ji E (yi y E))
 |_=>none
def pz(E:ESX)(id:Nat)(v:AV):Option Rx:=bif Nat.ble (id+1) E.u then some ⟨Nat.shiftLeft 1 id,0,E.u,E.u,E.h,v⟩else none
def M4(op:BinOp)(x y:Operand)(slow:ESX->Option Rx)(E:ESX):Option Rx:=match yi x E with
 |.v (.int .i64 a)=>match yi y E with
  |.v (.int .i64 b)=>match Wr op a b with
   |some v=>some (ji E (.v v))
   |none=>slow E
  |_=>slow E
 |_=>slow E
def aai(row:Option (Option Nat))(x:Operand)(E:ESX):Option Rx:=match row with
 |none=>none
 |some none=>match yi x E with
  |.ptr id ver o=>match fw (be E.h) id ver with
   |none=>none
   |some b=>match b.cs[o]? with
    |some v=>pz E id v
    |none=>none
  |.tp cs o=>match cs[o]? with
   |some v=>some (ji E v)
   |none=>none
  |_=>none
 |some (some n)=>match yi x E with
  |.ptr id ver o=>match fw (be E.h) id ver with
   |none=>none
   |some b=>match co o n b.cs with
    |some ds=>pz E id (.agg ds)
    |none=>none
  |.tp cs o=>match co o n cs with
   |some ds=>some (ji E (.agg ds))
   |none=>none
  |_=>none
def faK(fi:Option (Nat×Nat))(x:Operand)(E:ESX):Option Rx:=match fi with
 |none=>none
 |some (off,sz)=>bif Nat.beq sz 0 then none else match yi x E with
  |.ptr id ver o=>match fw (be E.h) id ver with
   |none=>none
   |some _=>pz E id (.ptr id ver (o+off))
  |.tp cs o=>some (ji E (.tp cs (o+off)))
  |_=>none
def Tk(P:Program)(t:Nat):Option Nat:=match P.underlying t with
 |some (.slice e)=>ap P e
 |_=>none
def iaK(n:Option Nat)(x i:Operand)(slow:ESX->Option Rx)(E:ESX):Option Rx:=match n with
 |none=>slow E
 |some n=>match yi i E with
  |.v (.int k (.ofNat j))=>match yi x E with
   |.tree m rows=>bif Nat.beq m n then(match rows[j]? with
    |some row=>some (ji E (.tp row 0))
    |none=>none)else none
   |.sl id ver off len=>bif Nat.ble (j+1) len then(match fw (be E.h) id ver with
    |some b=>bif Nat.beq b.esz n then pz E id (.ptr id ver (off+j*n))else none
    |none=>none)else none
   |_=>none
  |_=>none
def Ws(k:IntKind)(op:BinOp)(a b:Int):Option Value:=match op with
 |.add=>some (.int k (k.wrap (a+b)))
 |.sub=>some (.int k (k.wrap (a-b)))
 |.mul=>some (.int k (k.wrap (a*b)))
 |.eql=>some (.bool (eqI a b))
 |.neq=>some (.bool (!eqI a b))
 |.lss=>some (.bool (ltI a b))
 |.gtr=>some (.bool (ltI b a))
 |.leq=>some (.bool (!ltI b a))
 |.geq=>some (.bool (!ltI a b))
 |_=>none
def U3:IntKind->IntKind->Bool
 |.u8,.u8=>true
 |.u32,.u32=>true
 |.u64,.u64=>true
 |.i64,.i64=>true
 |.i32,.i32=>true
 |_,_=>false
theorem Pr{k k':IntKind}(h:U3 k k'=true):k'=k:=by cases k<;>cases k'<;>first|rfl|cases h
def agl(op:BinOp)(x y:Operand)(slow:ESX->Option Rx)(E:ESX):Option Rx:=match yi x E with
 |.v (.int k a)=>match yi y E with
  |.v (.int k' b)=>bif U3 k k' then(match Ws k op a b with
   |some v=>some (ji E (.v v))
   |none=>slow E)else slow E
  |_=>slow E
 |_=>slow E
theorem Ri{P:Program}{τ:Nat->AV}{η:bf}{d:Option Tmp}{ty:TypeId}{pos:String}{af:Array Edge}{g:Option (Nat×Bool)}{op:BinOp}{t t':Nat}{x y:Operand}{k:IntKind}{a b:Int}{v:Value}(hx:aev τ x=.v (.int k a))(hy:aev τ y=.v (.int k b))(h:Ws k op a b=some v):LOp P ⟨d,.binOp op t x y t',ty,pos,af,g⟩ τ η [] [] (.v v):=by
 refine .look [] fun C ac hg h0 _=>⟨v,?_,VR.v C v⟩;have e1:=h0 x (by simp[Op.operands])
 have e2:=h0 y (by simp[Op.operands]);rw[hx]at e1;rw[hy]at e2;have e1':=e1.v_inv
 have e2':=e2.v_inv;have h1:∀w:World,(eqGuard op t x y (.int k a) (.int k b)).run P w=.ok () w:=by intro w;unfold eqGuard;split<;>rfl
 have hk:¬(k≠k):=fun h=>h rfl;unfold Ws at h;split at h
 all_goals first
  |(cases h;done)
  |(
   have h':=Option.some.inj h
   subst h'
   simp only[execOp,e1',e2',Sem.run_bind,h1,ahc]
   first
    |(simp only[binOp,hk,if_false,Op.intArith,ahd,ahc];done)
    |(rw[S1];simp only[binOp,hk,if_false,Op.intCmp,ahd,ahc];done)
    |(rw[Ly];simp only[binOp,hk,if_false,Op.intCmp,ahd,ahc];done)
    |(rw[M8];simp only[binOp,hk,if_false,Op.intCmp,ahd,ahc];done)
    |(rw[M8];simp only[binOp,hk,if_false,Op.intCmp,ahd,ahc];rfl))
def Wc(P:Program)(t:Nat):Option IntKind:=match P.underlying t with
 |some (.int k)=>some k
 |_=>none
def abq(s t:Option IntKind)(x:Operand)(slow:ESX->Option Rx)(E:ESX):Option Rx:=match s with
 |none=>slow E
 |some _=>match t with
  |none=>slow E
  |some k=>match yi x E with
   |.v (.int _ n)=>some (ji E (.v (.int k (k.wrap n))))
   |_=>slow E
def afg(P:Program)(ats:Array TypeId):Bool:=match ats[0]? with
 |some t=>match P.underlying t with
  |some (.slice _)=>true
  |_=>false
 |none=>false
def lenK(sl:Bool)(x:Operand)(slow:ESX->Option Rx)(E:ESX):Option Rx:=bif sl then(match yi x E with
 |.tree n rows=>some (ji E (.v (.int .i64 (rows.length:Int))))
 |.sl id ver off len=>match fw (be E.h) id ver with
  |some _=>pz E id (.v (.int .i64 (len:Int)))
  |none=>none
 |_=>slow E)else slow E
def aa7(x:Operand)(i:Nat)(slow:ESX->Option Rx)(E:ESX):Option Rx:=match yi x E with
 |.tup cs=>match cs[i]? with
  |some v=>some (ji E v)
  |none=>none
 |_=>slow E
def Sj(sz:Option Nat)(x y:Operand)(E:ESX):Option Rx:=match sz with
 |none=>none
 |some n=>match yi x E with
  |.ptr id ver o=>match fw (be E.h) id ver with
   |none=>none
   |some b=>match jc (yi y E)with
    |none=>none
    |some vs=>bif Nat.beq vs.length n&&vs.all AV.one&&Nat.ble (id+1) E.u then
     (match t6 o b.cs vs with
     |some ds=>match Tri.set 24 E.h id (some ⟨b.ver,ds,b.esz,b.nilp⟩)with
      |some h=>some ⟨Nat.shiftLeft 1 id,Nat.shiftLeft 1 id,E.u,E.u,h,.v undef⟩
      |none=>none
     |none=>none)
     else none
  |_=>none
def opF(P:Program)(ov:FuncId->Bool)(ovr:fj)(call:Fp)(ext:cm)(o:Oper):ESX->Option Rx:=match o.op with
 |.move x=>Qd x
 |.assign x=>Qd x
 |.pick c x y=>Zp c x y
 |.binOp op _ x y _=>M4 op x y (agl op x y (opX P ov ovr call ext o))
 |.load t x=>aai (c9 P t) x
 |.fieldAddr t x i=>faK (cp P t i) x
 |.indexAddr t x i=>iaK (Tk P t) x i (opX P ov ovr call ext o)
 |.convert s t x=>abq (Wc P s) (Wc P t) x (opX P ov ovr call ext o)
 |.extract x i=>aa7 x i (opX P ov ovr call ext o)
 |.store t x y=>Sj (ap P t) x y
 |.call ⟨.builtin .len,⟨[x]⟩,ats⟩=>lenK (afg P ats) x (opX P ov ovr call ext o)
 |_=>opX P ov ovr call ext o
section
variable{P:Program}{o:Oper}{E:ESX}
theorem l4{id:Nat}{v:AV}{r:Rx}(h:pz E id v=some r)(hL:LOp P o (bc E.t) (be E.h) [id] [] v):r.u0=E.u/\Fits (be E.h) r.rc/\re P o (bc E.t) (be E.h) r.rc:=by
 unfold pz at h
 cases hb:Nat.ble (id+1) E.u with
 |false=>rw[hb]at h;simp at h
 |true=>
  rw[hb]at h
  simp only[cond_true,agw]at h
  subst h
  have hF:∀i,(Nat.shiftLeft 1 id).testBit i=true↔i=id:=fun i=>wo
  refine⟨rfl,⟨ag8 _,fun i _=>rfl,fun i hi=>?_,fun i hi=>?_⟩,?_⟩
  ·have:(0:Nat).testBit i=true:=hi
   simp at this
  ·have:=(hF i).1 hi
   subst this
   exact aha hb
  ·have:=hL.toX (u:=E.u)
   have e:ff [id]=Nat.shiftLeft 1 id:=by simp[ff]
   rw[e]at this
   exact this
end
theorem vx{P:Program}{ov:FuncId->Bool}{ovr:fj}{call:Fp}{ext:cm}(ho:∀f ys ret,ovr f ys=some ret->eu P f ys ret)(hc:call.Ok P)(he:ext.Ok P):cm.Ok P (opF P ov ovr call ext):=by
 intro o E r hl h
 have slow:∀r,opX P ov ovr call ext o E=some r->r.u0=E.u/\Fits (be E.h) r.rc/\re P o (bc E.t) (be E.h) r.rc:=fun r h=>Zu ho hc he o E r hl h
 obtain⟨d,op,ty,pos,af,g⟩:=o
 unfold opF at h
 simp only at h
 split at h
 ·simp only[Qd,db,agw]at h;subst h;exact dh (LOp.move _)
 ·simp only[Qd,db,agw]at h;subst h;exact dh (LOp.assign _)
 ·unfold Zp at h
  split at h
  ·rename_i h4
   rw[db]at h4
   simp only[db,agw]at h;subst h;exact dh (Fh h4 rfl rfl)
  ·rename_i h4
   rw[db]at h4
   simp only[db,agw]at h;subst h;exact dh (Fi h4 rfl rfl)
  ·cases h
 ·rename_i bop t x y t'
  have slowG:∀r,agl bop x y (opX P ov ovr call ext ⟨d,.binOp bop t x y t',ty,pos,af,g⟩) E=some r->r.u0=E.u/\Fits (be E.h) r.rc/\re P ⟨d,.binOp bop t x y t',ty,pos,af,g⟩ (bc E.t) (be E.h) r.rc:=by
   intro r h
   unfold agl at h
   split at h
   ·rename_i k a hx
    split at h
    ·rename_i k' b hy
     cases hk:U3 k k' with
     |false=>rw[hk]at h;exact slow _ h
     |true=>
      rw[hk]at h
      simp only[cond_true]at h
      obtain rfl:=Pr hk
      split at h
      ·rename_i v hv
       simp only[agw]at h
       subst h
       rw[db]at hx hy
       exact dh (Ri hx hy hv)
      ·exact slow _ h
    ·exact slow _ h
   ·exact slow _ h
  unfold M4 at h
  split at h
  ·rename_i a hx
   split at h
   ·rename_i b hy
    split at h
    ·rename_i v hv
     simp only[agw]at h
     subst h
     rw[db]at hx hy
     refine dh (Al ?_)
     simp only[Ir,hx,hy,hv]
    ·exact slowG _ h
   ·exact slowG _ h
  ·exact slowG _ h
 ·rename_i t x
  unfold aai at h
  split at h
  ·cases h
  ·rename_i hr
   split at h
   ·rename_i id ver o hx
    rw[db]at hx
    split at h
    ·cases h
    ·rename_i b hb
     obtain⟨h1,h2,h3⟩:=b9 hb
     split at h
     ·rename_i v hv
      exact l4 h (lD hr hx h1 h2 h3 hv)
     ·cases h
   ·rename_i cs o hx
    rw[db]at hx
    split at h
    ·rename_i v hv
     simp only[agw]at h
     subst h
     exact dh (lE hr hx hv)
    ·cases h
   ·cases h
  ·rename_i n hr
   split at h
   ·rename_i id ver o hx
    rw[db]at hx
    split at h
    ·cases h
    ·rename_i b hb
     obtain⟨h1,h2,h3⟩:=b9 hb
     split at h
     ·rename_i v hv
      exact l4 h (Fk hr hx h1 h2 h3 hv)
     ·cases h
   ·rename_i cs o hx
    rw[db]at hx
    split at h
    ·rename_i v hv
     simp only[agw]at h
     subst h
     exact dh (A0 hr hx hv)
    ·cases h
   ·cases h
 ·rename_i t x i
  unfold faK at h
  split at h
  ·cases h
  ·rename_i off sz hf
   cases hz:Nat.beq sz 0 with
   |true=>rw[hz]at h;simp at h
   |false=>
    rw[hz]at h
    simp only[cond_false]at h
    split at h
    ·rename_i id ver o hx
     rw[db]at hx
     split at h
     ·cases h
     ·rename_i b hb
      obtain⟨h1,h2,h3⟩:=b9 hb
      exact l4 h (lF hf hz hx h1 h2 h3)
    ·rename_i cs o hx
     rw[db]at hx
     simp only[agw]at h
     subst h
     exact dh (lc hf hz hx)
    ·cases h
 ·rename_i t x i
  unfold iaK at h
  split at h
  ·exact slow _ h
  ·rename_i n hn
   unfold Tk at hn
   split at hn
   ·rename_i e hu
    split at h
    ·rename_i k j hi
     rw[db]at hi
     split at h
     ·rename_i m rows hx
      rw[db]at hx
      cases hc:Nat.beq m n with
      |false=>rw[hc]at h;simp at h
      |true=>
       rw[hc]at h
       simp only[cond_true]at h
       obtain rfl:=agv hc
       split at h
       ·rename_i row h5
        simp only[agw]at h
        subst h
        obtain⟨hj,e⟩:=ahn.1 h5
        subst e
        exact dh (lI (f:=fun a=>a) (l:=rows) hu hn (by rw[hx];simp) hi hj)
       ·cases h
     ·rename_i id ver off len hx
      rw[db]at hx
      cases hc:Nat.ble (j+1) len with
      |false=>rw[hc]at h;simp at h
      |true=>
       rw[hc]at h
       simp only[cond_true]at h
       split at h
       ·rename_i b hb
        obtain⟨h1,h2,h3⟩:=b9 hb
        cases hz:Nat.beq b.esz n with
        |false=>rw[hz]at h;simp at h
        |true=>
         rw[hz]at h
         simp only[cond_true]at h
         exact l4 h (me hu hn hx hi (aha hc) h1 h2 h3 (agv hz))
       ·cases h
     ·cases h
    ·cases h
   ·cases hn
 ·rename_i s t x
  unfold abq at h
  split at h
  ·exact slow _ h
  ·rename_i k0 hs
   split at h
   ·exact slow _ h
   ·rename_i k ht
    split at h
    ·rename_i k1 n hx
     simp only[agw]at h
     subst h
     rw[db]at hx
     unfold Wc at hs ht
     split at hs
     ·rename_i ks h7
      split at ht
      ·rename_i kt h8
       simp only[agw]at hs ht
       subst hs ht
       refine dh (.look [] fun C a hg h9 _=>⟨_,?_,VR.v C _⟩)
       have e1:=h9 x (by simp[Op.operands])
       rw[hx]at e1
       simp only[execOp,e1.v_inv,convert,Sem.run_bind,run_underlying h7,run_underlying h8,ahc,Conv.intToInt,ahd]
      ·cases ht
     ·cases hs
    ·exact slow _ h
 ·rename_i x i
  unfold aa7 at h
  split at h
  ·rename_i cs hx
   rw[db]at hx
   split at h
   ·rename_i v hv
    simp only[agw]at h
    subst h
    exact dh (LOp.extract hx hv)
   ·cases h
  ·exact slow _ h
 ·rename_i t x y
  unfold Sj at h
  split at h
  ·cases h
  ·rename_i n hs
   split at h
   ·rename_i id ver o hx
    rw[db]at hx
    split at h
    ·cases h
    ·rename_i b hb
     obtain⟨h1,h2,h3⟩:=b9 hb
     split at h
     ·cases h
     ·rename_i vs hv
      rw[db]at hv
      cases hc:(Nat.beq vs.length n&&vs.all AV.one&&Nat.ble (id+1) E.u)with
      |false=>rw[hc]at h;simp at h
      |true=>
       rw[hc]at h
       simp only[cond_true]at h
       simp only[ahs]at hc
       split at h
       ·rename_i ds hd
        split at h
        ·rename_i h' h6
         simp only[agw]at h
         subst h
         have hL:LOp P ⟨d,.store t x y,ty,pos,af,g⟩ (bc E.t) (be E.h) [id] [(id,some ⟨b.ver,ds,b.esz,b.nilp⟩)] (.v undef):=
          LOp.st (w:=b.ver) (np:=b.nilp) (cs:=b.cs) (ez:=b.esz) hs hx h1 h2 h3 hv (agv hc.1.1) hc.1.2 hd
         have e:be h'=(be E.h).set id (some ⟨b.ver,ds,b.esz,b.nilp⟩):=lf h6
         have ha:ff [id]=Nat.shiftLeft 1 id:=by simp[ff]
         refine⟨rfl,⟨ag8 _,fun i hi=>?_,fun i hi=>hi,fun i hi=>?_⟩,?_⟩
         ·show be h' i=_
          rw[e]
          have:i≠id:=fun e=>by
           subst e
           have h2:=hi
           rw[show Rc.D (Rx.rc ⟨Nat.shiftLeft 1 i,Nat.shiftLeft 1 i,E.u,E.u,h',.v undef⟩) i=true from Rc.D_iff.2 (.inl (wo.2 rfl))]at h2
           cases h2
          rw[aq _ _ this]
         ·have:(Nat.shiftLeft 1 id).testBit i=true:=hi
          rw[wo]at this
          subst this
          exact aha hc.2
         ·have:=hL.toX_old (u:=E.u) (by simp)
          rw[ha]at this
          show re P _ (bc E.t) (be E.h) ⟨Nat.shiftLeft 1 id,Nat.shiftLeft 1 id,E.u,E.u,be h',.v undef⟩
          rw[e]
          exact this
        ·cases h
       ·cases h
   ·cases h
 ·rename_i x ats
  unfold lenK at h
  cases h0:afg P ats with
  |false=>rw[h0]at h;exact slow _ h
  |true=>
   rw[h0]at h
   simp only[cond_true]at h
   unfold afg at h0
   split at h0
   ·rename_i t ht
    split at h0
    ·rename_i e hu
     split at h
     ·rename_i n rows hx
      simp only[agw]at h
      subst h
      rw[db]at hx
      exact dh (lT (n:=n) (f:=fun a=>a) (l:=rows) ht hu (by rw[hx];simp))
     ·rename_i id ver off len hx
      rw[db]at hx
      split at h
      ·rename_i b hb
       obtain⟨h1,h2,h3⟩:=b9 hb
       exact l4 h (bo ht hu hx h1 h2)
      ·cases h
     ·exact slow _ h
    ·cases h0
   ·cases h0
 ·exact slow _ h
end Go.Proofs.YtmbmbhkemgmhfaaGreatDoor
