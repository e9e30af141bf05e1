/- Texts of the claim. -/
import Derived.Test.YtbhhmbchdponjaaGreatDoorE1
namespace Go.Proofs.YtbhhmbchdponjaaGreatDoor
set_option linter.unusedVariables false
set_option linter.unusedSimpArgs false
open Go.RowKit
section
variable{P:Program}{τ:Nat->AV}{η:bi}{d:Option Tmp}{ty:TypeId}{pos:String}{af:Array Edge}{g:Option (Nat×Bool)}
theorem d9{w:World}{r:Nat}{es:Array MapEntry}{clock:Nat}(h:w.heap[r]? =some (.map es clock)):(getObj r).run P w=.ok (.map es clock) w:=by simp[getObj,Sem.run,h]
theorem fy{w:World}{r:Nat}{o o':Obj}(h:w.heap[r]? =some o)(hn:∀c t f,o≠.cells c t f):(setObj r o').run P w=.ok () {w with heap:=w.heap.setIfInBounds r o'}:=by unfold setObj;unfold Sem.run;rw[h];cases o<;>first|rfl|(exact absurd rfl (hn _ _ _))
theorem x7{w:World}{o:Obj}:(newObj o).run P w=.ok w.heap.size (w.alloc o):=rfl
theorem yh{C:Ctx}(hg:Good C){id ver clock:Nat}{b:Blk}{es:List (Value×AV×Nat)}(hb:C.η id=some b)(he:b=cn ver b.esz clock es):
 ∃entries,C.w.heap[(C.ρ id).1]? =some (.map entries clock)/\es.length=entries.size/\∀i (h:i<es.length) (h':i<entries.size),entries[i].key=es[i].1/\VR C es[i].2.1 entries[i].val/\entries[i].born=es[i].2.2:=by
 have hk:b.kind=2:=by rw[he];rfl
 obtain⟨o,h1,h2⟩:=hg.obj hb hk
 have ha:b.cs=ki clock es:=by rw[he];rfl
 rw[ha]at h2
 obtain⟨entries,rfl,h3,h4⟩:=h2.map_inv
 exact⟨entries,h1,h3,h4⟩
theorem LOp.makeMap(u:Nat){t:Nat}:LOp P ⟨d,.makeMap t none,ty,pos,af,g⟩ τ η [] [(u,some (cn 0 0 0 []))] (.mp u 0):=by intro C a hg hxs _ ha K Q hK;have hu:¬C.U u:=ha (u,some (cn 0 0 0 [])) (by simp) (by simp);have hb:(execOp a.eval ⟨d,.makeMap t none,ty,pos,af,g⟩).run P C.w=.ok (.value (.map (some C.w.heap.size))) (C.w.alloc (.map #[] 0)):=rfl;unfold Oper.wp;rw[hb];have hc:ObjR C (cn 0 0 0 []).cs (.map #[] 0):=ObjR.map (es:=[]) rfl (fun i h=>absurd h (by simp));refine hK _ (C.allocO u (.map #[] 0) (cn 0 0 0 [])) rfl (fun i=>by simp[Ctx.allocO]) (ou hg hu rfl hc) (m7 hg hu) ?_;have:=VR.mp (C:=C.allocO u (.map #[] 0) (cn 0 0 0 [])) (id:=u) (ver:=0) (ak _ _ _) rfl rfl;have e:((C.allocO u (.map #[] 0) (cn 0 0 0 [])).ρ u).1=C.w.heap.size:=(by simp[Ctx.allocO]);rw[e]at this;exact this
def If(P:Program)(τ:Nat->AV)(η:bi)(u t:Nat)(x i:Operand)(ok:Bool):Option Rec:=
 match P.underlying t with
 |some (.map kt et)=>match aev τ i with
  |.v k=>match bj P et with
   |none=>none
   |some z=>match aev τ x with
    |.mp id ver=>match qj η id ver with
     |none=>none
     |some (b,clock,es)=>match ui P kt k es with
      |none=>none
      |some none=>some ⟨[id],[],bif ok then .tup [.v z,.v (.bool false)]else .v z,u⟩
      |some (some j)=>match es[j]? with
       |none=>none
       |some e=>some ⟨[id],[],bif ok then .tup [e.2.1,.v (.bool true)]else e.2.1,u⟩
    |.v (.map none)=>match ui P kt k []with
     |some none=>some ⟨[],[],bif ok then .tup [.v z,.v (.bool false)]else .v z,u⟩
     |_=>none
    |_=>none
  |_=>none
 |_=>none
theorem VR.pair{C:Ctx}{a b:AV}{x y:Value}(h1:VR C a x)(h2:VR C b y):VR C (.tup [a,b]) (.tuple #[x,y]):=by
 refine .tup rfl (fun i h h'=>?_);match i,h with
 |0,_=>exact h1
 |1,_=>exact h2
theorem km{t:Nat}{z:Value}(hz:bj P t=some z)(w:World):(zeroValue t).run P w=.ok z w:=by
 unfold bj at hz
 cases hi:P.info? t with
 |none=>rw[hi]at hz;cases hz
 |some inf=>
  rw[hi]at hz
  simp only[aho]at hz
  simp only[zeroValue,typeInfo,Sem.run_bind,run_program,hi,ahc,ahb,hz]
theorem sq{es:List (Value×AV×Nat)}{entries:Array MapEntry}(hl:es.length=entries.size):entries.isEmpty=es.isEmpty:=by
 cases es with
 |nil=>simp only[ahf]at hl;simp[Array.isEmpty,<-hl]
 |cons e l=>
  simp only[ahe]at hl
  simp[Array.isEmpty,<-hl]
theorem uv{u t:Nat}{x i:Operand}{ok:Bool}{r:Rec}(h:If P τ η u t x i ok=some r):LOp P ⟨d,.lookup t x i ok,ty,pos,af,g⟩ τ η r.fp r.δ r.v:=by
 unfold If at h
 split at h
 ·rename_i kt et hu
  split at h
  ·rename_i k hk
   split at h
   ·cases h
   ·rename_i z hz
    split at h
    ·rename_i id ver hx
     split at h
     ·cases h
     ·rename_i b clock es hb
      obtain⟨hi,hc⟩:=j3 hb
      have main:∀(v:AV) (jr:Option Nat),ui P kt k es=some jr->(jr=none->v=.v z)->(∀j,jr=some j->∃e,es[j]? =some e/\v=e.2.1)->
       LOp P ⟨d,.lookup t x i ok,ty,pos,af,g⟩ τ η [id] [] (bif ok then .tup [v,.v (.bool jr.isSome)]else v):=by
       intro v jr hf h0 h1
       refine .look [id] fun C a hg ha hd=>?_
       have hh:C.η id=some b:=(hd id (by simp)).trans hi
       have e1:=ha x (by simp[Op.operands])
       have e2:=ha i (by simp[Op.operands])
       rw[hx]at e1
       rw[hk]at e2
       have e1':=e1.mp_inv hh (by rw[hc];rfl)
       have e2':=e2.v_inv
       obtain⟨entries,g1,g2,g3⟩:=yh hg hh hc
       obtain⟨c1,c2⟩:=lc g2 g3 hf C.w
       have c1':=(c1 entries.isEmpty).resolve_right (by rw[sq g2];simp)
       rcases c2 with⟨rfl,hr⟩|⟨j,rfl,hj,hr⟩
       ·refine⟨if ok then .tuple #[z,.bool false]else z,by simp only[execOp,e1',e2',Instr.lookup,Sem.run_bind,run_underlying hu,ahb,d9 g1,ahc,c1',hr,km hz],?_⟩
        rw[h0 rfl]
        cases ok with
        |true=>exact VR.pair (VR.v C _) (VR.v C _)
        |false=>exact VR.v C _
       ·obtain⟨e,he,rfl⟩:=h1 j rfl
        obtain⟨hl,rfl⟩:=ahl.1 he
        refine⟨if ok then .tuple #[entries[j].val,.bool true]else entries[j].val,by simp only[execOp,e1',e2',Instr.lookup,Sem.run_bind,run_underlying hu,ahb,d9 g1,ahc,c1',hr],?_⟩
        have hv:=(g3 j hl hj).2.1
        cases ok with
        |true=>exact VR.pair hv (VR.v C _)
        |false=>exact hv
      split at h
      ·cases h
      ·rename_i hf
       simp only[agv]at h
       subst h
       exact main (.v z) none hf (fun _=>rfl) (fun j hj=>by cases hj)
      ·rename_i j hf
       split at h
       ·cases h
       ·rename_i e he
        simp only[agv]at h
        subst h
        exact main e.2.1 (some j) hf (fun hj=>by cases hj) (fun j' hj=>by cases hj;exact⟨e,he,rfl⟩)
    ·rename_i hx
     split at h
     ·rename_i hf
      simp only[agv]at h
      subst h
      refine .look [] fun C a hg ha hd=>?_
      have e1:=ha x (by simp[Op.operands])
      have e2:=ha i (by simp[Op.operands])
      rw[hx]at e1
      rw[hk]at e2
      have e1':=e1.v_inv
      have e2':=e2.v_inv
      obtain⟨c1,c2⟩:=lc (C:=C) (es:=[]) (entries:=#[]) rfl (fun i h=>absurd h (by simp)) hf C.w
      have c1':=(c1 true).resolve_right (by simp)
      have hr:(Instr.findKey kt k []).run P C.w=.ok none C.w:=by
       rcases c2 with⟨_,hr⟩|⟨j,hj,_⟩
       ·exact hr
       ·cases hj
      refine⟨if ok then .tuple #[z,.bool false]else z,?_,?_⟩
      ·simp only[execOp,e1',e2',Instr.lookup,Sem.run_bind,run_underlying hu,ahb,ahc]
       have e0:(#[]:Array MapEntry).isEmpty=true:=rfl
       simp only[e0,c1',hr,ahb,Sem.run_bind,km hz,ahc]
      ·cases ok with
       |true=>exact VR.pair (VR.v C _) (VR.v C _)
       |false=>exact VR.v C _
     ·cases h
    ·cases h
  ·cases h
 ·cases h
theorem jy{o:Oper}{id ver clock clock':Nat}{b:Blk}{es es':List (Value×AV×Nat)}{v:AV}{res:Value->Next}(hi:η id=some b)(hd:b=cn ver b.esz clock es)
 (h:∀(C:Ctx) (a:Act),Good C->(∀x∈o.op.operands,VR C (aev τ x) (a.eval x))->C.η id=some b->∀entries,C.w.heap[(C.ρ id).1]? =some (.map entries clock)->es.length=entries.size->(∀i (h:i<es.length) (h':i<entries.size),entries[i].key=es[i].1/\VR C es[i].2.1 entries[i].val/\entries[i].born=es[i].2.2)->
  ∃entries' nx,(execOp a.eval o).run P C.w=.ok nx {C.w with heap:=C.w.heap.setIfInBounds (C.ρ id).1 (.map entries' clock')}/\(nx=.skip/\v=.v undef\/∃x,nx=.value x/\VR C v x)/\es'.length=entries'.size/\(∀i (h:i<es'.length) (h':i<entries'.size),entries'[i].key=es'[i].1/\VR C es'[i].2.1 entries'[i].val/\entries'[i].born=es'[i].2.2)):
 LOp P o τ η [id] [(id,some (cn ver b.esz clock' es'))] v:=by
 intro C a hg hj hk _ K Q hK
 have ha:C.η id=some b:=(hk id (by simp)).trans hi
 obtain⟨entries,g1,g2,g3⟩:=yh hg ha hd
 obtain⟨entries',nx,r1,r2,r3,r4⟩:=h C a hg hj ha entries g1 g2 g3
 have hf:b.kind=2:=by rw[hd];rfl
 have hb:(cn ver b.esz clock' es').ver=b.ver:=by rw[hd];rfl
 have hc:(cn ver b.esz clock' es').esz=b.esz:=rfl
 have he:=qs (C:=C) (o:=.map entries' clock') (b:=cn ver b.esz clock' es') hg ha hf rfl hb hc
 have hh:=rx (C:=C) (o:=.map entries' clock') (b:=cn ver b.esz clock' es') hg ha hf rfl hb hc (ObjR.map r3 r4)
 have hU:∀i,(C.setO id (cn ver b.esz clock' es') (.map entries' clock')).U i↔C.U i\/i∈[(id,some (cn ver b.esz clock' es'))].map (·.1):=fun i=>by simp[Ctx.setO];rintro rfl;exact hg.used ha
 unfold Oper.wp
 rw[r1]
 rcases r2 with⟨rfl,rfl⟩|⟨x,rfl,hx⟩
 ·exact hK undef _ rfl hU hh he (VR.v _ _)
 ·exact hK x _ rfl hU hh he (hx.mono hg he)
def jd{α:Type}:List α->Nat->α->List α
 |[],_,_=>[]
 |_::l,0,a=>a::l
 |x::l,n+1,a=>x::jd l n a
theorem i8{α:Type}:∀(l:List α) (n:Nat) (a:α),(jd l n a).length=l.length
 |[],_,_=>rfl
 |_::l,0,a=>rfl
 |x::l,n+1,a=>by simp[jd,i8 l]
theorem oy{α:Type}:∀(l:List α) (n:Nat) (a:α) (i:Nat) (h:i<(jd l n a).length),(jd l n a)[i]=if i=n then a else l[i]'(by rw[i8]at h;exact h)
 |[],_,_,i,h=>absurd h (by simp[jd])
 |x::l,0,a,0,h=>by simp[jd]
 |x::l,0,a,i+1,h=>by simp[jd]
 |x::l,n+1,a,0,h=>by simp[jd]
 |x::l,n+1,a,i+1,h=>by have:=oy l n a i (by simpa[jd]using h);simp only[jd,List.getElem_cons_succ,this];by_cases e:i=n<;>simp[e]
def qf(P:Program)(τ:Nat->AV)(η:bi)(u t:Nat)(m k x:Operand):Option Rec:=
 match P.underlying t with
 |some (.map kt et)=>match aev τ k with
  |.v key=>match aev τ m with
   |.mp id ver=>match qj η id ver with
    |none=>none
    |some (b,clock,es)=>match du P (Instr.checkKey false 10000 kt key)with
     |none=>none
     |some _=>match ui P kt key es with
      |none=>none
      |some none=>some ⟨[id],[(id,some (cn ver b.esz (clock+1) (es++[(key,aev τ x,clock)])))],.v undef,u⟩
      |some (some j)=>match es[j]? with
       |none=>none
       |some e=>bif Instr.sameBits 10000 e.1 key then some ⟨[id],[(id,some (cn ver b.esz clock (jd es j (key,aev τ x,e.2.2))))],.v undef,u⟩else none
   |_=>none
  |_=>none
 |_=>none
theorem l4{u t:Nat}{m k x:Operand}{r:Rec}{op:Op}(hv:op=.mapUpdate t m k x\/op=.insert t m k x)(h:qf P τ η u t m k x=some r):LOp P ⟨d,op,ty,pos,af,g⟩ τ η r.fp r.δ r.v:=by
 unfold qf at h
 split at h
 ·rename_i kt et hu
  split at h
  ·rename_i key hk
   split at h
   ·rename_i id ver hm
    split at h
    ·cases h
    ·rename_i b clock es hb
     obtain⟨hw,hn⟩:=j3 hb
     split at h
     ·cases h
     ·rename_i q hq
      have hx:∀(a:Act) (w:World),(execOp a.eval ⟨d,op,ty,pos,af,g⟩).run P w=((Instr.mapUpdate t (a.eval m) (a.eval k) (a.eval x)).run P w).andThen fun _ w=>.ok .skip w:=by
       intro a w
       rcases hv with rfl|rfl<;>simp only[execOp,Sem.run_bind]<;>rfl
      have ha:m∈op.operands/\k∈op.operands/\x∈op.operands:=by rcases hv with rfl|rfl<;>simp[Op.operands]
      have hc:(⟨d,op,ty,pos,af,g⟩:Oper).op.operands=op.operands:=rfl
      split at h
      ·cases h
      ·rename_i hf
       simp only[agv]at h
       subst h
       refine jy (res:=.value) hw hn fun C a hg hd ho entries g1 g2 g3=>?_
       have e1:=hd m (by rw[hc];exact ha.1)
       have e2:=hd k (by rw[hc];exact ha.2.1)
       have e3:=hd x (by rw[hc];exact ha.2.2)
       rw[hm]at e1
       rw[hk]at e2
       have e1':=e1.mp_inv ho (by rw[hn];rfl)
       have e2':=e2.v_inv
       obtain⟨_,c2⟩:=lc g2 g3 hf C.w
       have hr:(Instr.findKey kt key entries.toList).run P C.w=.ok none C.w:=by
        rcases c2 with⟨_,hr⟩|⟨j,hj,_⟩
        ·exact hr
        ·cases hj
       refine⟨entries.push {key,val:=a.eval x,born:=clock},.skip,?_,.inl ⟨rfl,rfl⟩,by simp[g2],fun i h1 h2=>?_⟩
       ·rw[hx,e1',e2']
        simp only[Instr.mapUpdate,Sem.run_bind,run_underlying hu,ahb,d9 g1,je _ _ hq,hr,fy g1 (fun _ _ _ e=>by cases e)]
       ·by_cases hi:i<es.length
        ·have hy:i<entries.size:=by omega
         have q1:(es++[(key,aev τ x,clock)])[i]=es[i]:=List.getElem_append_left hi
         have q2:(entries.push {key,val:=a.eval x,born:=clock})[i]=entries[i]:=Array.getElem_push_lt hy
         rw[q1,q2]
         exact g3 i hi hy
        ·have g0:i=es.length:=by simp at h1;omega
         subst g0
         have q1:(es++[(key,aev τ x,clock)])[es.length]=(key,aev τ x,clock):=by simp
         have q2:(entries.push {key,val:=a.eval x,born:=clock})[es.length]={key,val:=a.eval x,born:=clock}:=by simp[g2]
         rw[q1,q2]
         exact⟨rfl,e3,rfl⟩
      ·rename_i j hf
       split at h
       ·cases h
       ·rename_i e he
        cases hs:Instr.sameBits 10000 e.1 key with
        |false=>rw[hs]at h;simp at h
        |true=>
         rw[hs]at h
         simp only[cond_true,agv]at h
         subst h
         refine jy (res:=.value) hw hn fun C a hg hd ho entries g1 g2 g3=>?_
         have e1:=hd m (by rw[hc];exact ha.1)
         have e2:=hd k (by rw[hc];exact ha.2.1)
         have e3:=hd x (by rw[hc];exact ha.2.2)
         rw[hm]at e1
         rw[hk]at e2
         have e1':=e1.mp_inv ho (by rw[hn];rfl)
         have e2':=e2.v_inv
         obtain⟨_,c2⟩:=lc g2 g3 hf C.w
         obtain⟨hz,rfl⟩:=ahl.1 he
         have hj:j<entries.size:=by omega
         have hr:(Instr.findKey kt key entries.toList).run P C.w=.ok (some (j,entries[j].val)) C.w:=by
          rcases c2 with⟨hh,_⟩|⟨j',hh,_,hr⟩
          ·cases hh
          ·cases hh;exact hr
         refine⟨entries.modify j fun e=>{e with key,val:=a.eval x},.skip,?_,.inl ⟨rfl,rfl⟩,by rw[i8];simp[g2],fun i h1 h2=>?_⟩
         ·have hp:((entries[j]?).map (·.key)).getD key=es[j].1:=by
           rw[Array.getElem?_eq_getElem hj]
           exact(g3 j hz hj).1
          have hl:∀w:World,(Instr.keyThatStays (((entries[j]?).map (·.key)).getD key) key).run P w=.ok key w:=fun w=>by
           rw[hp]
           simp only[Instr.keyThatStays,hs,if_true]
           rfl
          rw[hx,e1',e2']
          simp only[Instr.mapUpdate,Sem.run_bind,run_underlying hu,ahb,d9 g1,je _ _ hq,hr,hl,fy g1 (fun _ _ _ e=>by cases e)]
         ·have g4:i<es.length:=by rw[i8]at h1;exact h1
          have g5:i<entries.size:=by simpa using h2
          rw[oy,Array.getElem_modify]
          by_cases ht:i=j
          ·subst ht
           simp only[if_true]
           exact⟨trivial,e3,(g3 i hz hj).2.2⟩
          ·rw[ag0 ht,ag0 (fun e=>ht e.symm)]
           exact g3 i g4 g5
   ·cases h
  ·cases h
 ·cases h
end
section
variable{P:Program}{τ:Nat->AV}{η:bi}{d:Option Tmp}{ty:TypeId}{pos:String}{af:Array Edge}{g:Option (Nat×Bool)}
def Dz(P:Program)(τ:Nat->AV)(η:bi)(u t:Nat)(m k:Operand):Option Rec:=
 match P.underlying t with
 |some (.map kt et)=>match aev τ k with
  |.v key=>match bj P et with
   |none=>none
   |some z=>match aev τ m with
    |.mp id ver=>match qj η id ver with
     |none=>none
     |some (b,clock,es)=>match du P (Instr.checkKey false 10000 kt key)with
      |none=>none
      |some _=>match ui P kt key es with
       |none=>none
       |some none=>some ⟨[id],[(id,some (cn ver b.esz (clock+1) (es++[(key,.v z,clock)])))],.tup [.v z,.v (goInt clock)],u⟩
       |some (some j)=>match es[j]? with
        |none=>none
        |some e=>bif Instr.sameBits 10000 e.1 key then some ⟨[id],[(id,some (cn ver b.esz clock (jd es j (key,e.2.1,e.2.2))))],.tup [e.2.1,.v (goInt e.2.2)],u⟩else none
    |_=>none
  |_=>none
 |_=>none
theorem Ie{u t:Nat}{m k:Operand}{r:Rec}(h:Dz P τ η u t m k=some r):LOp P ⟨d,.mapEntry t m k,ty,pos,af,g⟩ τ η r.fp r.δ r.v:=by
 unfold Dz at h
 split at h
 ·rename_i kt et hu
  split at h
  ·rename_i key hk
   split at h
   ·cases h
   ·rename_i z hz
    split at h
    ·rename_i id ver hm
     split at h
     ·cases h
     ·rename_i b clock es hb
      obtain⟨hv,hn⟩:=j3 hb
      split at h
      ·cases h
      ·rename_i q hq
       have hw:∀(a:Act) (w:World),(execOp a.eval ⟨d,.mapEntry t m k,ty,pos,af,g⟩).run P w=((Instr.mapEntry t (a.eval m) (a.eval k)).run P w).andThen fun x w=>.ok (.value x) w:=by
        intro a w
        simp only[execOp,Sem.run_bind]
        rfl
       split at h
       ·cases h
       ·rename_i hf
        simp only[agv]at h
        subst h
        refine jy (res:=.value) hv hn fun C a hg ha ho entries g1 g2 g3=>?_
        have e1:=ha m (by simp[Op.operands])
        have e2:=ha k (by simp[Op.operands])
        rw[hm]at e1
        rw[hk]at e2
        have e1':=e1.mp_inv ho (by rw[hn];rfl)
        have e2':=e2.v_inv
        obtain⟨_,c2⟩:=lc g2 g3 hf C.w
        have hr:(Instr.findKey kt key entries.toList).run P C.w=.ok none C.w:=by
         rcases c2 with⟨_,hr⟩|⟨j,hj,_⟩
         ·exact hr
         ·cases hj
        refine⟨entries.push {key,val:=z,born:=clock},.value (.tuple #[z,goInt clock]),?_,.inr ⟨_,rfl,VR.pair (VR.v C _) (VR.v C _)⟩,by simp[g2],fun i h1 h2=>?_⟩
        ·rw[hw,e1',e2']
         simp only[Instr.mapEntry,Sem.run_bind,run_underlying hu,ahb,d9 g1,je _ _ hq,hr,km hz,fy g1 (fun _ _ _ e=>by cases e),ahc]
        ·by_cases hi:i<es.length
         ·have hx:i<entries.size:=by omega
          have q1:(es++[(key,AV.v z,clock)])[i]=es[i]:=List.getElem_append_left hi
          have q2:(entries.push {key,val:=z,born:=clock})[i]=entries[i]:=Array.getElem_push_lt hx
          rw[q1,q2]
          exact g3 i hi hx
         ·have hy:i=es.length:=by simp at h1;omega
          subst hy
          have q1:(es++[(key,AV.v z,clock)])[es.length]=(key,AV.v z,clock):=by simp
          have q2:(entries.push {key,val:=z,born:=clock})[es.length]={key,val:=z,born:=clock}:=by simp[g2]
          rw[q1,q2]
          exact⟨rfl,VR.v C _,rfl⟩
       ·rename_i j hf
        split at h
        ·cases h
        ·rename_i e he
         cases hs:Instr.sameBits 10000 e.1 key with
         |false=>rw[hs]at h;simp at h
         |true=>
          rw[hs]at h
          simp only[cond_true,agv]at h
          subst h
          refine jy (res:=.value) hv hn fun C a hg ha ho entries g1 g2 g3=>?_
          have e1:=ha m (by simp[Op.operands])
          have e2:=ha k (by simp[Op.operands])
          rw[hm]at e1
          rw[hk]at e2
          have e1':=e1.mp_inv ho (by rw[hn];rfl)
          have e2':=e2.v_inv
          obtain⟨_,c2⟩:=lc g2 g3 hf C.w
          obtain⟨hc,rfl⟩:=ahl.1 he
          have hj:j<entries.size:=by omega
          have hr:(Instr.findKey kt key entries.toList).run P C.w=.ok (some (j,entries[j].val)) C.w:=by
           rcases c2 with⟨hh,_⟩|⟨j',hh,_,hr⟩
           ·cases hh
           ·cases hh;exact hr
          refine⟨entries.modify j fun e=>{e with key},.value (.tuple #[entries[j].val,goInt entries[j].born]),?_,.inr ⟨_,rfl,?_⟩,by rw[i8];simp[g2],fun i h1 h2=>?_⟩
          ·have hp:((entries[j]?).map (·.key)).getD key=es[j].1:=by
            rw[Array.getElem?_eq_getElem hj]
            exact(g3 j hc hj).1
           have hd:((entries[j]?).map (fun x=>(x.born:Int))).getD 0=(entries[j].born:Int):=by
            rw[Array.getElem?_eq_getElem hj];rfl
           have hl:∀w:World,(Instr.keyThatStays (((entries[j]?).map (·.key)).getD key) key).run P w=.ok key w:=fun w=>by
            rw[hp]
            simp only[Instr.keyThatStays,hs,if_true]
            rfl
           rw[hw,e1',e2']
           simp only[Instr.mapEntry,Sem.run_bind,run_underlying hu,ahb,d9 g1,je _ _ hq,hr,hl,hd,fy g1 (fun _ _ _ e=>by cases e),ahc]
          ·refine VR.pair (g3 j hc hj).2.1 ?_
           rw[(g3 j hc hj).2.2]
           exact VR.v C _
          ·have g0:i<es.length:=by rw[i8]at h1;exact h1
           have g4:i<entries.size:=by simpa using h2
           rw[oy,Array.getElem_modify]
           by_cases ht:i=j
           ·subst ht
            simp only[if_true]
            exact⟨trivial,(g3 i hc hj).2.1,(g3 i hc hj).2.2⟩
           ·rw[ag0 ht,ag0 (fun e=>ht e.symm)]
            exact g3 i g0 g4
    ·cases h
  ·cases h
 ·cases h
def Hg(n:Nat):List (Value×AV×Nat)->Nat->Option Nat
 |[],_=>none
 |e::l,i=>bif Nat.beq e.2.2 n then some i else Hg n l (i+1)
theorem Cr{n:Nat}:∀(l:List (Value×AV×Nat)) (i0 i:Nat),Hg n l i0=some i->∃j e,i=i0+j/\l[j]? =some e/\e.2.2=n/\∀k e',k<j->l[k]? =some e'->e'.2.2≠n
 |[],_,_,h=>by cases h
 |e::l,i0,i,h=>by
  simp only[Hg]at h;cases hb:Nat.beq e.2.2 n with
  |true=>
   rw[hb]at h
   simp only[cond_true,agv]at h
   exact⟨0,e,by omega,rfl,agu hb,fun k e' hk=>by omega⟩
  |false=>
   rw[hb]at h
   simp only[cond_false]at h
   obtain⟨j,e1,h1,h2,h3,h4⟩:=Cr l (i0+1) i h
   refine⟨j+1,e1,by omega,by simpa using h2,h3,fun k e' hk ha=>?_⟩
   cases k with
   |zero=>
    simp only[List.getElem?_cons_zero,agv]at ha
    subst ha
    exact fun e=>by rw[e,Nat.beq_refl]at hb;cases hb
   |succ k=>exact h4 k e' (by omega) (by simpa using ha)
def wm(P:Program)(τ:Nat->AV)(η:bi)(u t:Nat)(m s x:Operand):Option Rec:=
 match aev τ s with
 |.v (.int k (.ofNat n))=>match aev τ m with
  |.mp id ver=>match qj η id ver with
   |none=>none
   |some (b,clock,es)=>match Hg n es 0 with
    |none=>none
    |some j=>match es[j]? with
     |none=>none
     |some e=>some ⟨[id],[(id,some (cn ver b.esz clock (jd es j (e.1,aev τ x,e.2.2))))],.v undef,u⟩
  |_=>none
 |_=>none
theorem Ci{u t:Nat}{m s x:Operand}{r:Rec}(h:wm P τ η u t m s x=some r):LOp P ⟨d,.entryStore t m s x,ty,pos,af,g⟩ τ η r.fp r.δ r.v:=by
 unfold wm at h;split at h;rename_i kk n hs;split at h;rename_i id ver hm;split at h;cases h;rename_i b clock es hb;obtain⟨ho,hl⟩:=j3 hb;split at h;cases h;rename_i j hj;split at h;cases h;rename_i e he;simp only[agv]at h;subst h;refine jy (res:=.value) ho hl fun C a hg hc hp entries g1 g2 g3=>have e1:=hc m (by simp[Op.operands]);have e2:=hc s (by simp[Op.operands]);have e3:=hc x (by simp[Op.operands]);?_
 rw[hm]at e1;rw[hs]at e2;have e1':=e1.mp_inv hp (by rw[hl];rfl)
 have e2':=e2.v_inv;obtain⟨j',e',q1,q2,q3,q4⟩:=Cr _ _ _ hj;rw[Nat.zero_add]at q1;subst q1;rw[he]at q2;cases q2;obtain⟨hd,rfl⟩:=ahl.1 he;have ha:j<entries.size:=by omega
 have hf:entries.findIdx? (fun e=>(e.born:Int)==Int.ofNat n)=some j:=by rw[Array.findIdx?_eq_some_iff_getElem];exact⟨ha,by rw[(g3 j hd ha).2.2,q3];simp,fun k hk=>by have hn:k<es.length:=(by omega);have:=q4 k es[k] hk (agt hn);rw[(g3 k hn (by omega)).2.2];simp only[beq_iff_eq];intro hh;exact this (Int.ofNat.inj hh)⟩
 refine⟨entries.modify j fun e=>{e with val:=a.eval x},.skip,by simp only[execOp,e1',e2',Instr.entryStore,Sem.run_bind,d9 g1,ahb,asInt,asIntOf,ahc,hf,fy g1 (fun _ _ _ e=>by cases e)],.inl ⟨rfl,rfl⟩,by rw[i8];simp[g2],fun i h1 h2=>?_⟩;have hq:i<es.length:=by rw[i8]at h1;exact h1
 have hr:i<entries.size:=by simpa using h2
 rw[oy,Array.getElem_modify];by_cases hi:i=j;subst hi;simp only[if_true];exact⟨(g3 i hd ha).1,e3,(g3 i hd ha).2.2⟩;rw[ag0 hi,ag0 (fun e=>hi e.symm)];exact g3 i hq hr;cases h;cases h
def Vo(P:Program)(τ:Nat->AV)(η:bi)(u:Nat)(x:Operand)(ats:Array TypeId):Option Rec:=match ats[0]? with
 |none=>none
 |some t=>match P.underlying t with
  |some (.map _ _)=>match aev τ x with
   |.mp id ver=>match qj η id ver with
    |some (b,clock,es)=>some ⟨[id],[],.v (goInt es.length),u⟩
    |none=>none
   |_=>none
  |_=>none
theorem P3{u:Nat}{x:Operand}{ats:Array TypeId}{r:Rec}(h:Vo P τ η u x ats=some r):LOp P ⟨d,.call {callee:=.builtin .len,args:=#[x],argTypes:=ats},ty,pos,af,g⟩ τ η r.fp r.δ r.v:=by unfold Vo at h;split at h;cases h;rename_i t ht;split at h;rename_i kt et hu;split at h;rename_i id ver hx;split at h;rename_i b clock es hb;obtain⟨hd,ha⟩:=j3 hb;simp only[agv]at h;subst h;refine .look [id] fun C a hg he hf=>?_;have hc:C.η id=some b:=(hf id (by simp)).trans hd;have e1:=he x (by simp[Op.operands,Call.operands]);rw[hx]at e1;have e1':=e1.mp_inv hc (by rw[ha];rfl);obtain⟨entries,g1,g2,g3⟩:=yh hg hc ha;refine⟨goInt es.length,?_,VR.v C _⟩;rw[g2];simp[execOp,e1',resolve,invoke,builtin,Builtin.len_,ht,run_underlying hu,d9 g1,Sem.run_bind,Result.andThen];cases h;cases h;cases h
def ql{α:Type}:List α->Nat->List α
 |[],_=>[]
 |_::l,0=>l
 |x::l,n+1=>x::ql l n
theorem o8{α:Type}:∀(l:List α) (n:Nat),ql l n=l.eraseIdx n
 |[],n=>by simp[ql]
 |_::l,0=>rfl
 |x::l,n+1=>by simp[ql,o8 l n]
def afw(P:Program)(τ:Nat->AV)(η:bi)(u:Nat)(m k:Operand)(ats:Array TypeId):Option Rec:=match ats[0]? with
 |none=>none
 |some t=>match P.underlying t with
  |some (.map kt et)=>match aev τ k with
   |.v key=>match aev τ m with
    |.mp id ver=>match qj η id ver with
     |none=>none
     |some (b,clock,es)=>match ui P kt key es with
      |none=>none
      |some none=>some ⟨[id],[(id,some (cn ver b.esz clock es))],.v (.tuple #[]),u⟩
      |some (some j)=>some ⟨[id],[(id,some (cn ver b.esz clock (ql es j)))],.v (.tuple #[]),u⟩
    |_=>none
   |_=>none
  |_=>none
theorem Wr{u:Nat}{m k:Operand}{ats:Array TypeId}{r:Rec}(h:afw P τ η u m k ats=some r):LOp P ⟨d,.call {callee:=.builtin .delete,args:=#[m,k],argTypes:=ats},ty,pos,af,g⟩ τ η r.fp r.δ r.v:=by
 unfold afw at h
 split at h
 ·cases h
 ·rename_i t ht
  split at h
  ·rename_i kt et hu
   split at h
   ·rename_i key hk
    split at h
    ·rename_i id ver hm
     split at h
     ·cases h
     ·rename_i b clock es hb
      obtain⟨he,hc⟩:=j3 hb
      have hi:∀(a:Act) (w:World),(execOp a.eval ⟨d,.call {callee:=.builtin .delete,args:=#[m,k],argTypes:=ats},ty,pos,af,g⟩).run P w=((Builtin.delete_ ats ty #[a.eval m,a.eval k]).run P w).andThen fun x w=>.ok (.value x) w:=by
       intro a w
       simp only[execOp,resolve,invoke,builtin,Sem.run_bind,ahc,ahb]
       simp only[List.map_toArray,ahg,List.map_nil]
      split at h
      ·cases h
      ·rename_i hf
       simp only[agv]at h
       subst h
       refine jy (res:=.value) he hc fun C a hg ha hd entries g1 g2 g3=>?_
       have e1:=ha m (by simp[Op.operands,Call.operands])
       have e2:=ha k (by simp[Op.operands,Call.operands])
       rw[hm]at e1
       rw[hk]at e2
       have e1':=e1.mp_inv hd (by rw[hc];rfl)
       have e2':=e2.v_inv
       obtain⟨c1,c2⟩:=lc g2 g3 hf C.w
       have c1':=(c1 entries.isEmpty).resolve_right (by rw[sq g2];simp)
       have hr:(Instr.findKey kt key entries.toList).run P C.w=.ok none C.w:=by
        rcases c2 with⟨_,hr⟩|⟨j,hj,_⟩
        ·exact hr
        ·cases hj
       refine⟨entries,.value (.tuple #[]),?_,.inr ⟨_,rfl,VR.v C _⟩,g2,g3⟩
       rw[hi,e1',e2']
       simp[Builtin.delete_,ht,Sem.run_bind,run_underlying hu,ahb,d9 g1,c1',hr,fy g1 (fun _ _ _ e=>by cases e),ahc]
      ·rename_i j hf
       simp only[agv]at h
       subst h
       refine jy (res:=.value) he hc fun C a hg ha hd entries g1 g2 g3=>?_
       have e1:=ha m (by simp[Op.operands,Call.operands])
       have e2:=ha k (by simp[Op.operands,Call.operands])
       rw[hm]at e1
       rw[hk]at e2
       have e1':=e1.mp_inv hd (by rw[hc];rfl)
       have e2':=e2.v_inv
       obtain⟨c1,c2⟩:=lc g2 g3 hf C.w
       have c1':=(c1 entries.isEmpty).resolve_right (by rw[sq g2];simp)
       have hr:∃v,(Instr.findKey kt key entries.toList).run P C.w=.ok (some (j,v)) C.w/\j<entries.size:=by
        rcases c2 with⟨hh,_⟩|⟨j',hh,hj,hr⟩
        ·cases hh
        ·cases hh;exact⟨_,hr,hj⟩
       obtain⟨v,hr,hj⟩:=hr
       refine⟨entries.eraseIdxIfInBounds j,.value (.tuple #[]),?_,.inr ⟨_,rfl,VR.v C _⟩,?_,fun i h1 h2=>?_⟩
       ·rw[hi,e1',e2']
        simp[Builtin.delete_,ht,Sem.run_bind,run_underlying hu,ahb,d9 g1,c1',hr,fy g1 (fun _ _ _ e=>by cases e),ahc]
       ·rw[o8,Array.eraseIdxIfInBounds,dif_pos hj]
        rw[List.length_eraseIdx,ag1 (by omega),Array.size_eraseIdx,g2]
       ·have q:(entries.eraseIdxIfInBounds j)[i]=entries[if i<j then i else i+1]'(by
         rw[Array.eraseIdxIfInBounds,dif_pos hj]at h2
         simp at h2
         split<;>omega):=by
         have:(entries.eraseIdxIfInBounds j)[i]? =(entries.eraseIdx j hj)[i]?:=by rw[Array.eraseIdxIfInBounds,dif_pos hj]
         rw[Array.getElem?_eq_getElem h2]at this
         have h3:i<(entries.eraseIdx j hj).size:=by
          rw[Array.eraseIdxIfInBounds,dif_pos hj]at h2;exact h2
         rw[Array.getElem?_eq_getElem h3,Array.getElem_eraseIdx]at this
         have:=Option.some.inj this
         rw[this]
         split<;>rfl
        have h1b:i<(es.eraseIdx j).length:=by rw[<-o8];exact h1
        have q':(ql es j)[i]=es[if i<j then i else i+1]'(by
         rw[List.length_eraseIdx]at h1b
         split at h1b<;>split<;>omega):=by
         have:(ql es j)[i]? =(es.eraseIdx j)[i]?:=by rw[o8]
         rw[agt h1,agt h1b,List.getElem_eraseIdx]at this
         have:=Option.some.inj this
         rw[this]
         split<;>rfl
        rw[q,q']
        exact g3 _ _ _
    ·cases h
   ·cases h
  ·cases h
end
inductive All2{α β:Type}(R:α->β->Prop):List α->List β->Prop where
 |nil:All2 R [] []
 |cons {a:α} {b:β} {l:List α} {m:List β}:R a b->All2 R l m->All2 R (a :: l) (b :: m)
theorem qt{α β:Type}{R:α->β->Prop}:∀{l:List α} {m:List β},l.length=m.length->(∀i (h:i<l.length) (h':i<m.length),R l[i] m[i])->All2 R l m
 |[],[],_,_=>.nil
 |[],_::_,h,_=>by simp at h
 |_::_,[],h,_=>by simp at h
 |a::l,b::m,h,hi=>.cons (hi 0 (by simp) (by simp)) (qt (by simpa using h) (fun i h1 h2=>hi (i+1) (by simpa using h1) (by simpa using h2)))
theorem All2.filter{α β:Type}{R:α->β->Prop}{p:α->Bool}{q:β->Bool}(ha:∀a b,R a b->p a=q b){l:List α}{m:List β}(h:All2 R l m):All2 R (l.filter p) (m.filter q):=by
 induction h with
 |nil=>exact .nil
 |cons hr _ ih=>
  rename_i a b l m _
  rw[List.filter_cons,List.filter_cons,ha a b hr]
  split
  ·exact .cons hr ih
  ·exact ih
theorem All2.all{α β:Type}{R:α->β->Prop}{p:α->Bool}{q:β->Bool}(ha:∀a b,R a b->p a=q b){l:List α}{m:List β}(h:All2 R l m):l.all p=m.all q:=by
 induction h with
 |nil=>rfl
 |cons hr _ ih=>rw[List.all_cons,List.all_cons,ha _ _ hr,ih]
theorem All2.isEmpty{α β:Type}{R:α->β->Prop}{l:List α}{m:List β}(h:All2 R l m):l.isEmpty=m.isEmpty:=by cases h<;>rfl
def Bc:List AV->Option (List Nat)
 |[]=>some []
 |.v (.int .i64 (.ofNat n))::l=>match Bc l with
  |some r=>some (n::r)
  |none=>none
 |_=>none
theorem Jg:∀(l:List AV) (ns:List Nat),Bc l=some ns->l=ns.map fun n=>.v (.int .i64 (Int.ofNat n)):=by
 intro l
 induction l with
 |nil=>intro ns h;simp only[Bc,agv]at h;subst h;rfl
 |cons x l ih=>
  intro ns h
  unfold Bc at h
  split at h
  ·rename_i e;cases e
  ·rename_i n l' e
   obtain⟨rfl,rfl⟩:=List.cons.inj e
   split at h
   ·rename_i r hr
    simp only[agv]at h
    subst h
    rw[ahg,<-ih _ hr]
   ·cases h
  ·cases h
def za(ver esz:Nat)(s:ByteArray)(pos:Nat):Blk:=⟨ver,lh s pos,esz,true⟩
def ut(ver esz:Nat)(m:AV)(since:Nat)(seen:List Nat)(last:Nat):Blk:=⟨ver,jf m since seen last,esz,true⟩
inductive Iter where
 |txt (s:ByteArray) (pos:Nat)
 |ofm (id ver since:Nat) (seen:List Nat) (last:Nat)
def Iter.blk(ver esz:Nat):Iter->Blk
 |.txt s pos=>za ver esz s pos
 |.ofm id v since seen last=>ut ver esz (.mp id v) since seen last
def Jj:List AV->Option Iter
 |[.v (.int .i64 (.ofNat 1)),.v (.string s),.v (.int .i64 (.ofNat pos))]=>some (.txt s pos)
 |.v (.int .i64 (.ofNat 2))::.mp id v::.v (.int .i64 (.ofNat since))::.v (.int .i64 (.ofNat last))::l=>match Bc l with
  |some seen=>some (.ofm id v since seen last)
  |none=>none
 |_=>none
theorem Ji{cs:List AV}{i:Iter}(h:Jj cs=some i)(ver esz:Nat):(⟨ver,cs,esz,true⟩:Blk)=i.blk ver esz:=by unfold Jj at h;split at h;simp only[agv]at h;subst h;rfl;split at h;rename_i seen hs;simp only[agv]at h;subst h;simp only[Iter.blk,ut,jf];rw[<-Jg _ _ hs];rfl;cases h;cases h
def P2(η:bi)(id ver:Nat):Option (Blk×Iter):=match η id with
 |some b=>bif Nat.beq b.ver ver&&b.nilp then(match Jj b.cs with
  |some i=>some (b,i)
  |none=>none)else none
 |none=>none
theorem zt{η:bi}{id ver:Nat}{b:Blk}{i:Iter}(h:P2 η id ver=some (b,i)):η id=some b/\b=i.blk ver b.esz:=by
 unfold P2 at h
 cases hb:η id with
 |none=>rw[hb]at h;cases h
 |some b'=>
  rw[hb]at h
  simp only at h
  cases hc:(Nat.beq b'.ver ver&&b'.nilp)with
  |false=>rw[hc]at h;simp at h
  |true=>
   rw[hc]at h
   simp only[cond_true]at h
   rw[ahq]at hc
   split at h
   ·rename_i i' hm
    simp only[agv,Prod.mk.injEq]at h
    obtain⟨rfl,rfl⟩:=h
    refine⟨rfl,?_⟩
    obtain⟨v,cs,z,n⟩:=b'
    have e1:=agu hc.1
    have e2:=hc.2
    simp only at e1 e2 hm
    subst e1 e2
    exact Ji hm _ _
   ·cases h
theorem ObjR.siter_inv{C:Ctx}{s:ByteArray}{pos:Nat}{o:Obj}(h:ObjR C (lh s pos) o):o=.stringIter s pos:=by
 generalize hc:lh s pos=cs at h
 cases h with
 |map _ _=>exact absurd (List.cons.inj hc).1 (by simp)
 |siter=>
  simp only[lh,List.cons.injEq,AV.v.injEq,Value.string.injEq,Value.int.injEq,Int.ofNat.injEq,true_and,and_true]at hc
  obtain⟨rfl,h2⟩:=hc
  subst h2
  rfl
 |miter0=>exact absurd (List.cons.inj hc).1 (by simp)
 |miter _=>exact absurd (List.cons.inj hc).1 (by simp)
theorem Gf:∀{a b:List Nat},(a.map fun n=>AV.v (.int .i64 (Int.ofNat n)))=(b.map fun n=>.v (.int .i64 (Int.ofNat n)))->a=b
 |[],[],_=>rfl
 |[],_::_,h=>by cases h
 |_::_,[],h=>by cases h
 |n::a,m::b,h=>by simp only[ahg,List.cons.injEq,AV.v.injEq,Value.int.injEq,true_and]at h;have h1:n=m:=Int.ofNat.inj h.1;rw[h1,Gf h.2]
theorem ObjR.miter_inv{C:Ctx}{id ver since last:Nat}{seen:List Nat}{o:Obj}(h:ObjR C (jf (.mp id ver) since seen last) o):∃m,o=.mapIter (some m) since seen.toArray last/\VR C (.mp id ver) (.map (some m)):=by
 generalize hc:jf (.mp id ver) since seen last=cs at h
 cases h with
 |map _ _=>exact absurd (List.cons.inj hc).1 (by simp)
 |siter=>exact absurd (List.cons.inj hc).1 (by simp)
 |miter0=>exact absurd (List.cons.inj (List.cons.inj hc).2).1 (by simp)
 |miter hv=>
  simp only[jf,List.cons.injEq,AV.v.injEq,Value.int.injEq,true_and]at hc
  obtain⟨rfl,h1,h2,h3⟩:=hc
  have e1:=Int.ofNat.inj h1
  have e2:=Int.ofNat.inj h2
  subst e1 e2
  obtain rfl:=Gf h3
  exact⟨_,rfl,hv⟩
section
variable{P:Program}{τ:Nat->AV}{η:bi}{d:Option Tmp}{ty:TypeId}{pos:String}{af:Array Edge}{g:Option (Nat×Bool)}
def J8(P:Program)(τ:Nat->AV)(η:bi)(u t:Nat)(x:Operand):Option Rec:=match P.underlying t with
 |some .string=>match aev τ x with
  |.v (.string s)=>some ⟨[],[(u,some (za 0 0 s 0))],.it u 0,u+1⟩
  |_=>none
 |some (.map _ _)=>match aev τ x with
  |.mp id ver=>match qj η id ver with
   |some (b,clock,es)=>bif Nat.beq id u then none else some ⟨[id],[(u,some (ut 0 0 (.mp id ver) clock [] clock))],.it u 0,u+1⟩
   |none=>none
  |_=>none
 |_=>none
theorem J7{u t:Nat}{x:Operand}{r:Rec}(h:J8 P τ η u t x=some r):LOp P ⟨d,.range t x,ty,pos,af,g⟩ τ η r.fp r.δ r.v:=by
 have main:∀(fp:List Nat) (b:Blk),u∉fp->b.kind=2->b.ver=0->(∀(C:Ctx) (a:Act),Good C->(∀x'∈(Op.range t x).operands,VR C (aev τ x') (a.eval x'))->(∀id∈fp,C.η id=η id)->∃o,ObjR C b.cs o/\(execOp a.eval ⟨d,.range t x,ty,pos,af,g⟩).run P C.w=.ok (.value (.pointer (some ⟨C.w.heap.size,0,none⟩))) (C.w.alloc o))->
  LOp P ⟨d,.range t x,ty,pos,af,g⟩ τ η fp [(u,some b)] (.it u 0):=by
  intro fp b he hk hv hj C a hg ha hc hf K Q hK
  have hu:¬C.U u:=hf (u,some b) (by simp) he
  obtain⟨o,ho,hr⟩:=hj C a hg ha hc
  unfold Oper.wp
  rw[hr]
  refine hK _ (C.allocO u o b) rfl (fun i=>by simp[Ctx.allocO]) (ou hg hu hk ho) (m7 hg hu) ?_
  have:=VR.it (C:=C.allocO u o b) (id:=u) (ver:=0) (ak _ _ _) hv hk
  have e:((C.allocO u o b).ρ u).1=C.w.heap.size:=by simp[Ctx.allocO]
  rw[e]at this
  exact this
 unfold J8 at h
 split at h
 ·rename_i hu
  split at h
  ·rename_i s hx
   simp only[agv]at h
   subst h
   refine main [] _ (by simp) rfl rfl fun C a hg ha hc=>⟨.stringIter s 0,.siter,?_⟩
   have e1:=ha x (by simp[Op.operands])
   rw[hx]at e1
   have e1':=e1.v_inv
   simp only[execOp,e1',Instr.range,Sem.run_bind,run_underlying hu,ahb,ahc,x7]
  ·cases h
 ·rename_i kt et hu
  split at h
  ·rename_i id ver hx
   split at h
   ·rename_i b clock es hb
    obtain⟨hl,hh⟩:=j3 hb
    cases hd:Nat.beq id u with
    |true=>rw[hd]at h;simp at h
    |false=>
     rw[hd]at h
     simp only[cond_false,agv]at h
     subst h
     refine main [id] _ (by simp;intro e;rw[e,Nat.beq_refl]at hd;cases hd) rfl rfl fun C a hg ha hc=>?_
     have hi:C.η id=some b:=(hc id (by simp)).trans hl
     have e1:=ha x (by simp[Op.operands])
     rw[hx]at e1
     have e1':=e1.mp_inv hi (by rw[hh];rfl)
     obtain⟨entries,g1,g2,g3⟩:=yh hg hi hh
     rw[e1']at e1
     refine⟨.mapIter (some (C.ρ id).1) clock #[] clock,.miter (seen:=[]) e1,?_⟩
     simp only[execOp,e1',Instr.range,Sem.run_bind,run_underlying hu,ahb,d9 g1,ahc,x7]
   ·cases h
  ·cases h
 ·cases h
theorem w8{o:Oper}{id ver:Nat}{fp:List Nat}{b:Blk}{i i':Iter}{v:AV}(hj:id∈fp)(hk:η id=some b)(he:b=i.blk ver b.esz)
 (h:∀(C:Ctx) (a:Act),Good C->(∀x∈o.op.operands,VR C (aev τ x) (a.eval x))->(∀id∈fp,C.η id=η id)->∀ob,C.w.heap[(C.ρ id).1]? =some ob->ObjR C b.cs ob->
  ∃ob' x,(execOp a.eval o).run P C.w=.ok (.value x) {C.w with heap:=C.w.heap.setIfInBounds (C.ρ id).1 ob'}/\VR C v x/\ObjR C (i'.blk ver b.esz).cs ob'):
 LOp P o τ η fp [(id,some (i'.blk ver b.esz))] v:=by
 intro C a hg hl hf _ K Q hK
 have hc:C.η id=some b:=(hf id hj).trans hk
 have hd:b.kind=2:=by rw[he];cases i<;>rfl
 have hh:(i'.blk ver b.esz).kind=2:=by cases i'<;>rfl
 have ha:(i'.blk ver b.esz).ver=b.ver:=by rw[he];cases i'<;>cases i<;>rfl
 have hb:(i'.blk ver b.esz).esz=b.esz:=by cases i'<;>rfl
 obtain⟨ob,g1,g2⟩:=hg.obj hc hd
 obtain⟨ob',x,r1,r2,r3⟩:=h C a hg hl hf ob g1 g2
 have hi:=qs (C:=C) (o:=ob') (b:=i'.blk ver b.esz) hg hc hd hh ha hb
 have hm:=rx (C:=C) (o:=ob') (b:=i'.blk ver b.esz) hg hc hd hh ha hb r3
 unfold Oper.wp
 rw[r1]
 exact hK x _ rfl (fun j=>by simp[Ctx.setO];rintro rfl;exact hg.used hc) hm hi (r2.mono hg hi)
def Ve(P:Program)(τ:Nat->AV)(η:bi)(u:Nat)(x:Operand)(isString:Bool):Option Rec:=match aev τ x with
 |.it id ver=>match P2 η id ver with
  |none=>none
  |some (b,.txt s pos)=>bif isString then
   (bif Nat.blt pos s.size then(match Utf8.decode s pos with
    |(c,width)=>some ⟨[id],[(id,some (za ver b.esz s (pos+width)))],.tup [.v (.bool true),.v (goInt pos),.v (.int .i32 c)],u⟩)
   else some ⟨[id],[],.tup [.v (.bool false)],u⟩)
   else none
  |some (b,.ofm mid mver since seen last)=>bif isString then none else
   match qj η mid mver with
   |none=>none
   |some (mb,clock,es)=>
    bif !seen.isEmpty&&!es.isEmpty&&es.all (fun e=>Nat.ble last e.2.2)then none else
    match(es.filter fun e=>!seen.contains e.2.2).filter (fun e=>Nat.blt e.2.2 since),(es.filter fun e=>!seen.contains e.2.2).filter (fun e=>Nat.ble since e.2.2)with
    |[],[]=>some ⟨[id,mid],[],.tup [.v (.bool false)],u⟩
    |[e],[]=>some ⟨[id,mid],[(id,some (ut ver b.esz (.mp mid mver) since (seen++[e.2.2]) clock))],.tup [.v (.bool true),.v e.1,e.2.1],u⟩
    |_,_=>none
 |_=>none
theorem Ub{C:Ctx}{a b c:AV}{x y z:Value}(h1:VR C a x)(h2:VR C b y)(h3:VR C c z):VR C (.tup [a,b,c]) (.tuple #[x,y,z]):=by
 refine .tup rfl (fun i h h'=>?_);match i,h with
 |0,_=>exact h1
 |1,_=>exact h2
 |2,_=>exact h3
theorem Nc{C:Ctx}{a:AV}{x:Value}(h1:VR C a x):VR C (.tup [a]) (.tuple #[x]):=by
 refine .tup rfl (fun i h h'=>?_);match i,h with
 |0,_=>exact h1
theorem fq{w:World}{r:Nat}{o:Obj}(h:w.heap[r]? =some o)(hn:∀c t f,o≠.cells c t f):(getObj r).run P w=.ok o w:=by unfold getObj;unfold Sem.run;rw[h];cases o<;>first|rfl|(exact absurd rfl (hn _ _ _))
theorem Pt{u:Nat}{x:Operand}{isString:Bool}{r:Rec}(h:Ve P τ η u x isString=some r):LOp P ⟨d,.next x isString,ty,pos,af,g⟩ τ η r.fp r.δ r.v:=by
 unfold Ve at h
 split at h
 ·rename_i id ver hx
  have hv:∀(a:Act) (w:World),(execOp a.eval ⟨d,.next x isString,ty,pos,af,g⟩).run P w=((Instr.next (a.eval x) isString ty).run P w).andThen fun x w=>.ok (.value x) w:=by
   intro a w
   simp only[execOp,Sem.run_bind]
   rfl
  split at h
  ·cases h
  ·rename_i b s ps hb
   obtain⟨hn,hf⟩:=zt hb
   have hw:b.cs=lh s ps:=by rw[hf];rfl
   cases isString with
   |false=>simp at h
   |true=>
    simp only[cond_true]at h
    cases hq:Nat.blt ps s.size with
    |true=>
     rw[hq]at h
     simp only[cond_true]at h
     have ho:ps<s.size:=by simpa using hq
     cases hs:Utf8.decode s ps with
     |mk c width=>
      rw[hs]at h
      simp only[agv]at h
      subst h
      refine w8 (i':=.txt s (ps+width)) (by simp) hn hf fun C a hg hj hd ob g1 g2=>?_
      have hk:C.η id=some b:=(hd id (by simp)).trans hn
      have e1:=hj x (by simp[Op.operands])
      rw[hx]at e1
      have e1':=e1.it_inv hk (by rw[hf];rfl)
      rw[hw]at g2
      obtain rfl:=g2.siter_inv
      refine⟨.stringIter s (ps+width),.tuple #[.bool true,goInt ps,.int .i32 c],?_,Ub (VR.v C _) (VR.v C _) (VR.v C _),.siter⟩
      rw[hv,e1']
      simp only[Instr.next,Sem.run_bind,fq g1 (fun _ _ _ e=>by cases e),ahb,ho,if_true,hs,fy g1 (fun _ _ _ e=>by cases e),ahc]
    |false=>
     rw[hq]at h
     simp only[cond_false,agv]at h
     subst h
     have ho:¬ps<s.size:=by
      intro hh
      rw[show Nat.blt ps s.size=true by simpa using hh]at hq
      cases hq
     refine .look [id] fun C a hg hj hd=>?_
     have hk:C.η id=some b:=(hd id (by simp)).trans hn
     have e1:=hj x (by simp[Op.operands])
     rw[hx]at e1
     have e1':=e1.it_inv hk (by rw[hf];rfl)
     obtain⟨ob,g1,g2⟩:=hg.obj hk (by rw[hf];rfl)
     rw[hw]at g2
     obtain rfl:=g2.siter_inv
     refine⟨.tuple #[.bool false],?_,Nc (VR.v C _)⟩
     rw[hv,e1']
     simp only[Instr.next,Sem.run_bind,fq g1 (fun _ _ _ e=>by cases e),ahb,ho,if_false,ahc]
  ·rename_i b mid mver since seen last hb
   obtain⟨hn,hf⟩:=zt hb
   have hw:b.cs=jf (.mp mid mver) since seen last:=by rw[hf];rfl
   cases isString with
   |true=>simp at h
   |false=>
    simp only[cond_false]at h
    split at h
    ·cases h
    ·rename_i mb clock es hm
     obtain⟨g5,g3⟩:=j3 hm
     cases he:(!seen.isEmpty&&!es.isEmpty&&es.all (fun e=>Nat.ble last e.2.2))with
     |true=>rw[he]at h;simp at h
     |false=>
      rw[he]at h
      simp only[cond_false]at h
      have core:∀(C:Ctx) (a:Act),Good C->(∀x'∈(Op.next x false).operands,VR C (aev τ x') (a.eval x'))->(∀i∈[id,mid],C.η i=η i)->∀ob,C.w.heap[(C.ρ id).1]? =some ob->ObjR C b.cs ob->
       ∃entries:Array MapEntry,∃m,ob=.mapIter (some m) since seen.toArray last/\VR C (.mp mid mver) (.map (some m))/\a.eval x=.pointer (some ⟨(C.ρ id).1,0,none⟩)/\C.w.heap[m]? =some (.map entries clock)/\All2 (fun(x:Value×AV×Nat) (e:MapEntry)=>e.key=x.1/\VR C x.2.1 e.val/\e.born=x.2.2) es entries.toList:=by
       intro C a hg hj hd ob g1 g2
       have hk:C.η id=some b:=(hd id (by simp)).trans hn
       have g4:C.η mid=some mb:=(hd mid (by simp)).trans g5
       have e1:=hj x (by simp[Op.operands])
       rw[hx]at e1
       have e1':=e1.it_inv hk (by rw[hf];rfl)
       rw[hw]at g2
       obtain⟨m,rfl,ht⟩:=g2.miter_inv
       have g6:=ht.mp_inv g4 (by rw[g3];rfl)
       have g7:m=(C.ρ mid).1:=by simpa using g6
       subst g7
       obtain⟨entries,q1,q2,q3⟩:=yh hg g4 g3
       exact⟨entries,_,rfl,ht,e1',q1,qt (by simpa using q2) (fun i h1 h2=>by simpa using q3 i h1 (by simpa using h2))⟩
      have toRun:∀(C:Ctx) (entries:Array MapEntry),All2 (fun(x:Value×AV×Nat) (e:MapEntry)=>e.key=x.1/\VR C x.2.1 e.val/\e.born=x.2.2) es entries.toList->
       (!seen.toArray.isEmpty&&!entries.isEmpty&&entries.all (·.born≥last))=false/\
       All2 (fun(x:Value×AV×Nat) (e:MapEntry)=>e.key=x.1/\VR C x.2.1 e.val/\e.born=x.2.2) ((es.filter fun e=>!seen.contains e.2.2).filter (fun e=>Nat.blt e.2.2 since)) ((entries.filter fun e=>!seen.toArray.contains e.born).filter (·.born<since)).toList/\
       All2 (fun(x:Value×AV×Nat) (e:MapEntry)=>e.key=x.1/\VR C x.2.1 e.val/\e.born=x.2.2) ((es.filter fun e=>!seen.contains e.2.2).filter (fun e=>Nat.ble since e.2.2)) ((entries.filter fun e=>!seen.toArray.contains e.born).filter (·.born≥since)).toList:=by
       intro C entries ha
       have hl:All2 (fun(x:Value×AV×Nat) (e:MapEntry)=>e.key=x.1/\VR C x.2.1 e.val/\e.born=x.2.2) (es.filter fun e=>!seen.contains e.2.2) (entries.filter fun e=>!seen.toArray.contains e.born).toList:=by
        rw[Array.toList_filter]
        refine ha.filter (fun a b hp=>?_)
        rw[hp.2.2]
        simp
       refine⟨?_,?_,?_⟩
       ·rw[<-he]
        congr 1
        ·congr 1
         ·simp
         ·have:=ha.isEmpty
          rw[this]
          simp
        ·rw[ha.all (q:=fun e=>decide (e.born≥last)) (fun a b hp=>by
          rw[hp.2.2]
          rw[Bool.eq_iff_iff]
          simp[Nat.ble_eq])]
         simp
       ·rw[Array.toList_filter]
        refine hl.filter (fun a b hp=>?_)
        rw[hp.2.2,Bool.eq_iff_iff]
        simp
       ·rw[Array.toList_filter]
        refine hl.filter (fun a b hp=>?_)
        rw[hp.2.2,Bool.eq_iff_iff]
        simp[Nat.ble_eq]
      split at h
      ·rename_i f1 f2
       simp only[agv]at h
       subst h
       refine .look [id,mid] fun C a hg hj hd=>?_
       have hk:C.η id=some b:=(hd id (by simp)).trans hn
       obtain⟨ob,g1,g2⟩:=hg.obj hk (by rw[hf];rfl)
       obtain⟨entries,m,rfl,ht,e1',q1,ha⟩:=core C a hg hj hd ob g1 g2
       obtain⟨t1,t2,t3⟩:=toRun C entries ha
       rw[f1]at t2
       rw[f2]at t3
       have n1:((entries.filter fun e=>!seen.toArray.contains e.born).filter (·.born<since))=#[]:=by
        generalize((entries.filter fun e=>!seen.toArray.contains e.born).filter (·.born<since))=arr at t2
        obtain⟨l⟩:=arr
        cases t2;rfl
       have n2:((entries.filter fun e=>!seen.toArray.contains e.born).filter (·.born≥since))=#[]:=by
        generalize((entries.filter fun e=>!seen.toArray.contains e.born).filter (·.born≥since))=arr at t3
        obtain⟨l⟩:=arr
        cases t3;rfl
       refine⟨.tuple #[.bool false],?_,Nc (VR.v C _)⟩
       rw[hv,e1']
       simp only[Instr.next,Sem.run_bind,fq g1 (fun _ _ _ e=>by cases e),ahb,fq q1 (fun _ _ _ e=>by cases e),t1,Bool.false_eq_true,if_false,n1,n2]
       have hy:∀w:World,(choose (.mapNext 1)).run P w=.ok 0 w:=fun w=>by simp[choose,Sem.run,Question.forced]
       have hc:((if(#[]:Array MapEntry).isEmpty=true then#[none]else#[])++((#[]:Array MapEntry)++(#[]:Array MapEntry)).map some)=#[none]:=by simp
       simp only[hc]
       have hz:(#[none]:Array (Option MapEntry)).size=1:=rfl
       rw[hz]
       simp only[hy,ahb]
       have hi:(#[none]:Array (Option MapEntry))[0]? =some none:=rfl
       simp only[hi,ahc,ahb]
      ·rename_i e f1 f2
       simp only[agv]at h
       subst h
       refine w8 (i':=.ofm mid mver since (seen++[e.2.2]) clock) (by simp) hn hf fun C a hg hj hd ob g1 g2=>?_
       obtain⟨entries,m,rfl,ht,e1',q1,ha⟩:=core C a hg hj hd ob g1 g2
       obtain⟨t1,t2,t3⟩:=toRun C entries ha
       rw[f1]at t2
       rw[f2]at t3
       have n1:∃en,((entries.filter fun e=>!seen.toArray.contains e.born).filter (·.born<since))=#[en]/\en.key=e.1/\VR C e.2.1 en.val/\en.born=e.2.2:=by
        generalize((entries.filter fun e=>!seen.toArray.contains e.born).filter (·.born<since))=arr at t2
        obtain⟨l⟩:=arr
        cases t2 with
        |cons hr g0=>cases g0;exact⟨_,rfl,hr⟩
       have n2:((entries.filter fun e=>!seen.toArray.contains e.born).filter (·.born≥since))=#[]:=by
        generalize((entries.filter fun e=>!seen.toArray.contains e.born).filter (·.born≥since))=arr at t3
        obtain⟨l⟩:=arr
        cases t3;rfl
       obtain⟨en,n1,k1,k2,k3⟩:=n1
       refine⟨.mapIter (some m) since (seen++[e.2.2]).toArray clock,.tuple #[.bool true,en.key,en.val],?_,Ub (VR.v C _) (by rw[k1];exact VR.v C _) k2,.miter ht⟩
       rw[hv,e1']
       have hu:(seen++[e.2.2]).toArray=seen.toArray.push en.born:=by rw[k3];simp
       rw[hu]
       simp only[Instr.next,Sem.run_bind,fq g1 (fun _ _ _ e=>by cases e),ahb,fq q1 (fun _ _ _ e=>by cases e),t1,Bool.false_eq_true,if_false,n1,n2]
       have hy:∀w:World,(choose (.mapNext 1)).run P w=.ok 0 w:=fun w=>by simp[choose,Sem.run,Question.forced]
       have hc:((if(#[en]:Array MapEntry).isEmpty=true then#[none]else#[])++((#[en]:Array MapEntry)++(#[]:Array MapEntry)).map some)=#[some en]:=by simp
       simp only[hc]
       have hz:(#[some en]:Array (Option MapEntry)).size=1:=rfl
       rw[hz]
       simp only[hy,ahb]
       have hi:(#[some en]:Array (Option MapEntry))[0]? =some (some en):=rfl
       simp only[hi,Sem.run_bind,fy g1 (fun _ _ _ e=>by cases e),ahb,ahc]
      ·cases h
 ·cases h
end
section
variable{P:Program}{τ:Nat->AV}{η:bi}{d:Option Tmp}{ty:TypeId}{pos:String}{af:Array Edge}{g:Option (Nat×Bool)}
def Pg(P:Program)(t:Nat)(cs:List AV)(off:Nat):Option AV:=match ej P t with
 |none=>none
 |some none=>cs[off]?
 |some (some n)=>match cy off n cs with
  |some ds=>some (.agg ds)
  |none=>none
theorem Ga{t off:Nat}{cs:List AV}{v:AV}(h:Pg P t cs off=some v){C:Ctx}{vs:Array Value}(hl:cs.length=vs.size)(hi:∀i (h:i<cs.length) (h':i<vs.size),VR C cs[i] vs[i])(w:World):∃x,(part t vs off).run P w=.ok x w/\VR C v x:=by
 unfold Pg at h
 split at h
 ·cases h
 ·rename_i hr
  obtain⟨hb,rfl⟩:=ahl.1 h
  refine⟨vs[off]'(by omega),?_,hi off hb (by omega)⟩
  unfold ej at hr
  cases hu:P.underlying t with
  |none=>rw[hu]at hr;cases ha:P.info? t<;>rw[ha]at hr<;>cases hr
  |some dd=>
   rw[hu]at hr
   have hv:vs[off]? =some (vs[off]'(by omega)):=Array.getElem?_eq_getElem (by omega)
   cases dd<;>first
    |(simp[part,isAgg,Sem.run_bind,run_underlying hu,hv];done)
    |(cases ha:P.info? t<;>rw[ha]at hr<;>simp at hr)
 ·rename_i n hr
  split at h
  ·rename_i ds hd
   simp only[agv]at h
   subst h
   obtain⟨hle,rfl⟩:=dy _ _ _ _ hd
   refine⟨.agg (vs.extract off (off+n)),?_,.agg (by simp;omega) (fun i h1 h2=>?_)⟩
   ·unfold ej at hr
    cases hu:P.underlying t with
    |none=>rw[hu]at hr;cases ha:P.info? t<;>rw[ha]at hr<;>cases hr
    |some dd=>
     rw[hu]at hr
     cases dd<;>first
      |(
       cases ha:P.info? t with
       |none=>rw[ha]at hr;cases hr
       |some inf=>
        rw[ha]at hr
        simp only[agv]at hr
        subst hr
        simp[part,isAgg,sizeOf,typeInfo,Sem.run_bind,run_underlying hu,run_program,ha];done)
      |(cases ha:P.info? t<;>rw[ha]at hr<;>simp at hr)
   ·have h1':i<n:=by simp at h1;omega
    simp only[List.getElem_take,List.getElem_drop,Array.getElem_extract]
    exact hi _ (by omega) (by omega)
  ·cases h
def Lw(P:Program)(t i:Nat):Option (Nat×Nat):=match P.underlying t with
 |some (.struct fs)=>(fs[i]?).map fun f=>(f.offset,f.type)
 |_=>none
def Ly(P:Program)(τ:Nat->AV)(u t:Nat)(x:Operand)(i:Nat):Option Rec:=match Lw P t i with
 |none=>none
 |some (off,ft)=>match aev τ x with
  |.agg cs=>match Pg P ft cs off with
   |some v=>some ⟨[],[],v,u⟩
   |none=>none
  |_=>none
theorem Lx{u t i:Nat}{x:Operand}{r:Rec}(h:Ly P τ u t x i=some r):LOp P ⟨d,.field t x i,ty,pos,af,g⟩ τ η r.fp r.δ r.v:=by
 unfold Ly at h
 split at h
 ·cases h
 ·rename_i off ft hf
  split at h
  ·rename_i cs hx
   split at h
   ·rename_i v hv
    simp only[agv]at h
    subst h
    refine .look [] fun C a hg hb _=>?_
    have e1:=hb x (by simp[Op.operands])
    rw[hx]at e1
    obtain⟨vs,e2,e3,e4⟩:=e1.agg_inv
    obtain⟨y,hy,hc⟩:=Ga hv e3 e4 C.w
    refine⟨y,?_,hc⟩
    unfold Lw at hf
    split at hf
    ·rename_i fs hu
     cases ha:fs[i]? with
     |none=>rw[ha]at hf;cases hf
     |some f=>
      rw[ha]at hf
      simp only[ahn,agv,Prod.mk.injEq]at hf
      obtain⟨rfl,rfl⟩:=hf
      simp only[execOp,e2,Instr.field,Sem.run_bind,run_underlying hu,ahb,ha,asAgg,ahc,hy]
    ·cases hf
   ·cases h
  ·cases h
def Lg(P:Program)(τ:Nat->AV)(u t:Nat)(x i:Operand):Option Rec:=match P.underlying t with
 |some (.array len e)=>match ao P e with
  |none=>none
  |some n=>match aev τ i with
   |.v (.int k (.ofNat j))=>bif Nat.blt j len then(match aev τ x with
    |.agg cs=>match Pg P e cs (j*n)with
     |some v=>some ⟨[],[],v,u⟩
     |none=>none
    |_=>none)else none
   |_=>none
 |_=>none
theorem Lf{u t:Nat}{x i:Operand}{r:Rec}(h:Lg P τ u t x i=some r):LOp P ⟨d,.index t x i,ty,pos,af,g⟩ τ η r.fp r.δ r.v:=by
 unfold Lg at h
 split at h
 ·rename_i len e hu
  split at h
  ·cases h
  ·rename_i n hs
   split at h
   ·rename_i k j hi
    cases ha:Nat.blt j len with
    |false=>rw[ha]at h;simp at h
    |true=>
     rw[ha]at h
     simp only[cond_true]at h
     have hb:j<len:=by simpa using ha
     split at h
     ·rename_i cs hx
      split at h
      ·rename_i v hv
       simp only[agv]at h
       subst h
       refine .look [] fun C a hg hd _=>?_
       have e1:=hd x (by simp[Op.operands])
       have e0:=hd i (by simp[Op.operands])
       rw[hx]at e1
       rw[hi]at e0
       have e0':=e0.v_inv
       obtain⟨vs,e2,e3,e4⟩:=e1.agg_inv
       obtain⟨y,hy,he⟩:=Ga hv e3 e4 C.w
       refine⟨y,?_,he⟩
       unfold ao at hs
       cases hc:P.info? e with
       |none=>rw[hc]at hs;cases hs
       |some inf=>
        rw[hc]at hs
        simp only[ahn,agv]at hs
        subst hs
        have c1:(0:Int)<=Int.ofNat j/\Int.ofNat j<(len:Int):=⟨by simp,by simp;exact_mod_cast hb⟩
        have c2:(Int.ofNat j).toNat=j:=rfl
        simp only[execOp,e2,e0',Instr.index,asIntOf,Sem.run_bind,ahc,ahb,run_underlying hu,c1,and_self,if_true,sizeOf,typeInfo,run_program,hc,c2,hy]
      ·cases h
     ·cases h
   ·cases h
 ·cases h
def zp(τ:Nat->AV)(dflt:Nat):Option Operand->Option Nat
 |none=>some dflt
 |some x=>match aev τ x with
  |.v (.int _ (.ofNat n))=>some n
  |_=>none
def Bj(P:Program)(τ:Nat->AV)(η:bi)(u t:Nat)(x:Operand)(lo hi:Option Operand):Option Rec:=match P.underlying t with
 |some (.slice e)=>match ao P e with
  |none=>none
  |some n=>match aev τ x with
   |.sl id ver off len=>match ii η id ver with
    |none=>none
    |some b=>match zp τ 0 lo with
     |none=>none
     |some l=>match zp τ len hi with
      |none=>none
      |some h=>bif Nat.ble l h&&Nat.ble h len&&Nat.beq b.esz n then some ⟨[id],[],.sl id ver (off+l*n) (h-l),u⟩else none
   |.tree m rows=>match zp τ 0 lo with
    |none=>none
    |some l=>match zp τ rows.length hi with
     |none=>none
     |some h=>bif Nat.ble l h&&Nat.ble h rows.length&&Nat.beq m n then some ⟨[],[],.tree m ((rows.drop l).take (h-l)),u⟩else none
   |_=>none
 |_=>none
theorem sk{a:Act}{len cap l h:Nat}{lo hi:Option Operand}{w:World}(he:∀x,lo=some x->∃k,a.eval x=.int k (Int.ofNat l))(hc:lo=none->l=0)(hd:∀x,hi=some x->∃k,a.eval x=.int k (Int.ofNat h))(ha:hi=none->h=len)(h1:l<=h)(h2:h<=cap):
 (Instr.sliceBounds true len cap (lo.map a.eval) (hi.map a.eval) none).run P w=.ok (l,h,cap) w:=by
 have hb:∀(k:IntKind) (n y:Nat) (code:BoundsCode),n<=y->(Instr.sliceBound (.int k (Int.ofNat n)) y code).run P w=.ok n w:=by intro k n y code hn;have c1:(0:Int)<=Int.ofNat n/\Int.ofNat n<=(y:Int):=⟨by simp,by simp;exact_mod_cast hn⟩;simp only[Instr.sliceBound,asIntOf,Sem.run_bind,ahc,ahb,c1,and_self,if_true];rfl
 cases lo with
 |none=>
  have:=hc rfl
  subst this
  cases hi with
  |none=>
   have:=ha rfl
   subst this
   simp only[Instr.sliceBounds,Option.map_none,Sem.run_bind,ahc,ahb]
  |some y=>
   obtain⟨k,e⟩:=hd y rfl
   simp only[Instr.sliceBounds,ahn,Option.map_none,Sem.run_bind,e,hb _ _ _ _ h2,ahc,ahb]
 |some x=>
  obtain⟨k,e⟩:=he x rfl
  cases hi with
  |none=>
   have:=ha rfl
   subst this
   simp only[Instr.sliceBounds,ahn,Option.map_none,Sem.run_bind,e,hb _ _ _ _ h1,ahc,ahb]
  |some y=>
   obtain⟨k',e'⟩:=hd y rfl
   simp only[Instr.sliceBounds,ahn,Option.map_none,Sem.run_bind,e,e',hb _ _ _ _ h1,hb _ _ _ _ h2,ahc,ahb]
theorem Gg{dflt n:Nat}{x:Option Operand}(h:zp τ dflt x=some n):(x=none->n=dflt)/\∀y,x=some y->∃k,aev τ y=.v (.int k (Int.ofNat n)):=by unfold zp at h;split at h;simp only[agv]at h;exact⟨fun _=>h.symm,fun y hy=>by cases hy⟩;rename_i y;split at h;rename_i k m hy;simp only[agv]at h;subst h;exact⟨fun e=>(by cases e),fun y' e=>(by cases e;exact⟨k,hy⟩)⟩;cases h
theorem qc{t e n:Nat}(hu:P.underlying t=some (.slice e))(hs:ao P e=some n){a:Act}{ad:Option Addr}{len cap l h:Nat}{lo hi:Option Operand}{w:World}(hb:(Instr.sliceBounds true len cap (lo.map a.eval) (hi.map a.eval) none).run P w=.ok (l,h,cap) w):
 (Instr.sliceAt t (.slice ad len cap) (lo.map a.eval) (hi.map a.eval) none).run P w=.ok (.slice (if cap=l then ad else ad.map (·.add (l*n))) (h-l) (cap-l)) w:=by
 unfold ao at hs
 cases ha:P.info? e with
 |none=>rw[ha]at hs;cases hs
 |some inf=>
  rw[ha]at hs
  simp only[ahn,agv]at hs
  subst hs
  simp only[Instr.sliceAt,Instr.slice,Sem.run_bind,run_underlying hu,ahb,hb,sizeOf,typeInfo,run_program,ha,ahc]
theorem Bi{u t:Nat}{x:Operand}{lo hi:Option Operand}{r:Rec}(h:Bj P τ η u t x lo hi=some r):LOp P ⟨d,.slice t x lo hi none,ty,pos,af,g⟩ τ η r.fp r.δ r.v:=by
 unfold Bj at h
 split at h
 ·rename_i e hu
  split at h
  ·cases h
  ·rename_i n hs
   have hf:∀{C:Ctx} {a:Act} {l h:Nat} {d0:Nat} {d1:Nat},(∀x'∈(Op.slice t x lo hi none).operands,VR C (aev τ x') (a.eval x'))->zp τ d0 lo=some l->zp τ d1 hi=some h->
    (∀y,lo=some y->∃k,a.eval y=.int k (Int.ofNat l))/\(lo=none->l=d0)/\(∀y,hi=some y->∃k,a.eval y=.int k (Int.ofNat h))/\(hi=none->h=d1):=by
    intro C a l h d0 d1 hd h1 h2
    obtain⟨p1,p2⟩:=Gg h1
    obtain⟨q1,q2⟩:=Gg h2
    refine⟨fun y hy=>?_,p1,fun y hy=>?_,q1⟩
    ·obtain⟨k,hk⟩:=p2 y hy
     have:=hd y (by subst hy;simp[Op.operands])
     rw[hk]at this
     exact⟨k,this.v_inv⟩
    ·obtain⟨k,hk⟩:=q2 y hy
     have:=hd y (by subst hy;simp[Op.operands])
     rw[hk]at this
     exact⟨k,this.v_inv⟩
   split at h
   ·rename_i id ver off len hx
    split at h
    ·cases h
    ·rename_i b hb
     obtain⟨b1,b2,b3⟩:=ca hb
     split at h
     ·cases h
     ·rename_i l hl
      split at h
      ·cases h
      ·rename_i hh ho
       cases hc:(Nat.ble l hh&&Nat.ble hh len&&Nat.beq b.esz n)with
       |false=>rw[hc]at h;simp at h
       |true=>
        rw[hc]at h
        simp only[cond_true,agv]at h
        subst h
        simp only[ahq]at hc
        have c1:=ag9 hc.1.1
        have c2:=ag9 hc.1.2
        have c3:=agu hc.2
        refine .look [id] fun C a hg hd hq=>?_
        have hp:C.η id=some b:=(hq id (by simp)).trans b1
        have e1:=hd x (by simp[Op.operands])
        rw[hx]at e1
        obtain⟨ad,cap,e2,k1,k2,k3,k4⟩:=e1.sl_inv hp b2 b3
        obtain⟨o1,o2,o3,o4⟩:=hf hd hl ho
        have hm:=sk (P:=P) (w:=C.w) (len:=len) (cap:=cap) o1 o2 o3 o4 c1 (by omega)
        refine⟨.slice (if cap=l then some ad else(some ad).map (·.add (l*n))) (hh-l) (cap-l),?_,?_⟩
        ·simp only[execOp,e2,Option.map_none,Sem.run_bind,qc hu hs hm,ahb]
         rfl
        ·by_cases hn:cap=l
         ·have z1:hh-l=0:=by omega
          have z2:cap-l=0:=by omega
          rw[ag1 hn,z1,z2]
          exact .slz hp b2 b3
         ·rw[ag0 hn]
          rcases k4 with⟨k4,k5⟩|⟨k4,k5⟩
          ·omega
          ·subst k4
           have he:(Addr.add ⟨(C.ρ id).1,(C.ρ id).2+off,none⟩ (l*n))=⟨(C.ρ id).1,(C.ρ id).2+(off+l*n),none⟩:=by
            simp[Addr.add,Nat.add_assoc]
           simp only[ahn,he]
           refine .sl hp b2 b3 (by omega) (by omega) (by omega) ?_
           rw[c3]at k5 ⊢
           have:l*n+(cap-l)*n=cap*n:=by rw[<-Nat.add_mul];congr 1;omega
           omega
   ·rename_i m rows hx
    split at h
    ·cases h
    ·rename_i l hl
     split at h
     ·cases h
     ·rename_i hh ho
      cases hc:(Nat.ble l hh&&Nat.ble hh rows.length&&Nat.beq m n)with
      |false=>rw[hc]at h;simp at h
      |true=>
       rw[hc]at h
       simp only[cond_true,agv]at h
       subst h
       simp only[ahq]at hc
       have c1:=ag9 hc.1.1
       have c2:=ag9 hc.1.2
       have c3:=agu hc.2
       subst c3
       refine .look [] fun C a hg hd hq=>?_
       have e1:=hd x (by simp[Op.operands])
       rw[hx]at e1
       have e2:=e1.tree_inv
       generalize hr:a.eval x=xv at e2
       obtain⟨o1,o2,o3,o4⟩:=hf hd hl ho
       cases e2 with
       |tree cell hT q1 q2 q3 q4 q5 q6=>
        rename_i bb off cap
        have hm:=sk (P:=P) (w:=C.w) (len:=rows.length) (cap:=cap) o1 o2 o3 o4 c1 (by omega)
        refine⟨_,by simp only[execOp,hr,Option.map_none,Sem.run_bind,qc hu hs hm,ahb];rfl,?_⟩
        by_cases hn:cap=l
        ·have z1:hh-l=0:=by omega
         have z2:cap-l=0:=by omega
         have z3:(rows.drop l).take (hh-l)=[]:=by rw[z1];simp
         rw[ag1 hn,z1,z2]
         rw[show List.take 0 (List.drop l rows)=[]by simp]
         exact .imm (.tree0 (by omega))
        ·rw[ag0 hn]
         have he:(Addr.add ⟨bb,off,none⟩ (l*m))=⟨bb,off+l*m,none⟩:=by simp[Addr.add]
         simp only[ahn,he]
         have ha:((rows.drop l).take (hh-l)).length=hh-l:=by simp;omega
         have key:VR C (.tree m ((rows.drop l).take (hh-l))) (.slice (some ⟨bb,off+l*m,none⟩) ((rows.drop l).take (hh-l)).length (cap-l)):=?_
         ·rw[ha]at key;exact key
         refine .imm (.tree (fun k j=>cell (l+k) j) hT (by rw[ha];omega) (by omega) (by rw[ha];omega) (fun k hk=>?_) (fun k j hk hj=>?_) (fun k hk j hj=>?_))
         ·simp only[List.getElem_take,List.getElem_drop]
          exact q4 _ _
         ·rw[ha]at hk
          have:=q5 (l+k) j (by omega) hj
          rw[<-this]
          congr 2
          rw[Nat.add_mul];omega
         ·rw[ha]at hk
          simp only[List.getElem_take,List.getElem_drop]at hj ⊢
          exact q6 (l+k) (by omega) j hj
       |tree0 hcap=>
        rename_i ad cap
        have hz:l=0:=by simp at c2;omega
        have ht:hh=0:=by simp at c2;omega
        have hm:=sk (P:=P) (w:=C.w) (len:=0) (cap:=cap) o1 o2 o3 o4 c1 (by omega)
        refine⟨_,by simp only[execOp,hr,Option.map_none,Sem.run_bind,qc hu hs hm,ahb];rfl,?_⟩
        subst hz
        subst ht
        exact .imm (.tree0 (by omega))
   ·cases h
 ·cases h
def xh(η:bi):AV->Option (List Nat)
 |.sl id ver off len=>match ii η id ver with
  |some _=>some [id]
  |none=>none
 |.ptr id ver off=>match ii η id ver with
  |some _=>some [id]
  |none=>none
 |.mp id ver=>match qj η id ver with
  |some _=>some [id]
  |none=>none
 |.clo _ _=>some []
 |.tree n (_::_)=>some []
 |.tp _ _=>some []
 |_=>none
def nf(P:Program)(t:Nat):AV->AV->Bool
 |.sl _ _ _ _,.v (.slice none _ _)=>match P.underlying t with|some (.slice _)=>true|_=>false
 |.tree _ _,.v (.slice none _ _)=>match P.underlying t with|some (.slice _)=>true|_=>false
 |.ptr _ _ _,.v (.pointer none)=>match P.underlying t with|some (.pointer _)=>true|_=>false
 |.tp _ _,.v (.pointer none)=>match P.underlying t with|some (.pointer _)=>true|_=>false
 |.mp _ _,.v (.map none)=>match P.underlying t with|some (.map _ _)=>true|_=>false
 |.clo _ _,.v .nilFunc=>match P.underlying t with|some (.func _ _ _)=>true|_=>false
 |_,_=>false
inductive NE(P:Program)(t:Nat):Value->Value->Prop where
 |sl {e:TypeId} {ad:Addr} {a b l c:Nat}:P.underlying t=some (.slice e)->NE P t (.slice (some ad) a b) (.slice none l c)
 |pt {e:TypeId} {ad:Addr}:P.underlying t=some (.pointer e)->NE P t (.pointer (some ad)) (.pointer none)
 |mp {k e:TypeId} {r:Nat}:P.underlying t=some (.map k e)->NE P t (.map (some r)) (.map none)
 |fn {a b c} {f:Fn} {x y:Array Value}:P.underlying t=some (.func a b c)->NE P t (.func f x y) .nilFunc
theorem NE.eq1{t:Nat}{x y:Value}(h:NE P t x y)(n:Nat)(w:World):(Op.equalIn (n+1) t x y).run P w=.ok false w:=by
 cases h with
 |sl hu=>simp only[Op.equalIn,Sem.run_bind,run_underlying hu,ahb,ahc]
 |pt hu=>simp only[Op.equalIn,Sem.run_bind,run_underlying hu,ahb,ahc]
 |mp hu=>simp only[Op.equalIn,Sem.run_bind,run_underlying hu,ahb,ahc]
 |fn hu=>simp only[Op.equalIn,Sem.run_bind,run_underlying hu,ahb,ahc]
theorem NE.eq2{t:Nat}{x y:Value}(h:NE P t x y)(n:Nat)(w:World):(Op.equalIn (n+1) t y x).run P w=.ok false w:=by
 cases h with
 |sl hu=>simp only[Op.equalIn,Sem.run_bind,run_underlying hu,ahb,ahc,Option.isNone_some]
 |pt hu=>simp only[Op.equalIn,Sem.run_bind,run_underlying hu,ahb,ahc,Option.isNone_some]
 |mp hu=>simp only[Op.equalIn,Sem.run_bind,run_underlying hu,ahb,ahc,Option.isNone_some]
 |fn hu=>simp only[Op.equalIn,Sem.run_bind,run_underlying hu,ahb,ahc]
theorem NE.run1{t:Nat}{x y:Value}(h:NE P t x y)(w:World):(Op.equal t x y).run P w=.ok false w:=h.eq1 9999 w
theorem NE.run2{t:Nat}{x y:Value}(h:NE P t x y)(w:World):(Op.equal t y x).run P w=.ok false w:=h.eq2 9999 w
theorem NE.op1{t:Nat}{x y:Value}(h:NE P t x y)(o1 o2:Operand)(w:World):(eqGuard .eql t o1 o2 x y).run P w=.ok () w/\(eqGuard .neq t o1 o2 x y).run P w=.ok () w/\(binOp .eql t x y).run P w=.ok (.bool false) w/\(binOp .neq t x y).run P w=.ok (.bool true) w:=by have e1:binOp .eql t x y=(do pure (.bool (<-Op.equal t x y))):=(by cases h<;>rfl);have e2:binOp .neq t x y=(do pure (.bool (!(<-Op.equal t x y)))):=(by cases h<;>rfl);have e3:eqGuard .eql t o1 o2 x y=pure ():=(by cases h<;>rfl);have e4:eqGuard .neq t o1 o2 x y=pure ():=(by cases h<;>rfl);rw[e1,e2,e3,e4];refine⟨rfl,rfl,?_,?_⟩<;>simp only[Sem.run_bind,h.run1,ahb,ahc,Bool.not_false]
theorem NE.op2{t:Nat}{x y:Value}(h:NE P t x y)(o1 o2:Operand)(w:World):(eqGuard .eql t o1 o2 y x).run P w=.ok () w/\(eqGuard .neq t o1 o2 y x).run P w=.ok () w/\(binOp .eql t y x).run P w=.ok (.bool false) w/\(binOp .neq t y x).run P w=.ok (.bool true) w:=by have e1:binOp .eql t y x=(do pure (.bool (<-Op.equal t y x))):=(by cases h<;>rfl);have e2:binOp .neq t y x=(do pure (.bool (!(<-Op.equal t y x)))):=(by cases h<;>rfl);have e3:eqGuard .eql t o1 o2 y x=pure ():=(by cases h<;>rfl);have e4:eqGuard .neq t o1 o2 y x=pure ():=(by cases h<;>rfl);rw[e1,e2,e3,e4];refine⟨rfl,rfl,?_,?_⟩<;>simp only[Sem.run_bind,h.run2,ahb,ahc,Bool.not_false]
theorem Pu{t:Nat}{a c:AV}{fp:List Nat}(hs:xh η a=some fp)(hn:nf P t a c=true){C:Ctx}(ha:∀id∈fp,C.η id=η id){x y:Value}(hx:VR C a x)(hy:VR C c y):NE P t x y:=by
 unfold nf at hn
 split at hn
 ·rename_i id ver off len l1 l2
  split at hn
  ·rename_i e hu
   obtain rfl:=hy.v_inv
   simp only[xh]at hs
   cases hb:ii η id ver with
   |none=>rw[hb]at hs;cases hs
   |some b=>
    rw[hb]at hs
    simp only[agv]at hs
    subst hs
    obtain⟨b1,b2,b3⟩:=ca hb
    obtain⟨ad,cap,rfl,_⟩:=hx.sl_inv ((ha id (by simp)).trans b1) b2 b3
    exact .sl hu
  ·cases hn
 ·rename_i n rows l1 l2
  split at hn
  ·rename_i e hu
   obtain rfl:=hy.v_inv
   cases rows with
   |nil=>cases hs
   |cons row rows=>
    have hd:=hx.tree_inv
    cases hd with
    |tree cell hT q1 q2 q3 q4 q5 q6=>exact .sl hu
  ·cases hn
 ·rename_i id ver off
  split at hn
  ·rename_i e hu
   obtain rfl:=hy.v_inv
   simp only[xh]at hs
   cases hb:ii η id ver with
   |none=>rw[hb]at hs;cases hs
   |some b=>
    rw[hb]at hs
    simp only[agv]at hs
    subst hs
    obtain⟨b1,b2,b3⟩:=ca hb
    obtain rfl:=hx.ptr_inv ((ha id (by simp)).trans b1) b2
    exact .pt hu
  ·cases hn
 ·rename_i cs o
  split at hn
  ·rename_i e hu
   obtain rfl:=hy.v_inv
   have hd:=hx.tp_inv
   cases hd with
   |tp cell hT hc hr=>exact .pt hu
  ·cases hn
 ·rename_i id ver
  split at hn
  ·rename_i k e hu
   obtain rfl:=hy.v_inv
   simp only[xh]at hs
   cases hb:qj η id ver with
   |none=>rw[hb]at hs;cases hs
   |some q=>
    obtain⟨b,clock,es⟩:=q
    rw[hb]at hs
    simp only[agv]at hs
    subst hs
    obtain⟨b1,b2⟩:=j3 hb
    obtain rfl:=hx.mp_inv ((ha id (by simp)).trans b1) (by rw[b2];rfl)
    exact .mp hu
  ·cases hn
 ·rename_i f caps
  split at hn
  ·rename_i a b c hu
   obtain rfl:=hy.v_inv
   obtain⟨vs,rfl,_⟩:=hx.clo_inv
   exact .fn hu
  ·cases hn
 ·cases hn
def ad9(P:Program)(τ:Nat->AV)(η:bi)(u t:Nat)(op:BinOp)(x y:Operand):Option Rec:=
 match op with
 |.eql=>match xh η (aev τ x)with
  |some fp=>bif nf P t (aev τ x) (aev τ y)then some ⟨fp,[],.v (.bool false),u⟩else none
  |none=>match xh η (aev τ y)with
   |some fp=>bif nf P t (aev τ y) (aev τ x)then some ⟨fp,[],.v (.bool false),u⟩else none
   |none=>none
 |.neq=>match xh η (aev τ x)with
  |some fp=>bif nf P t (aev τ x) (aev τ y)then some ⟨fp,[],.v (.bool true),u⟩else none
  |none=>match xh η (aev τ y)with
   |some fp=>bif nf P t (aev τ y) (aev τ x)then some ⟨fp,[],.v (.bool true),u⟩else none
   |none=>none
 |_=>none
theorem Vb{u t t':Nat}{op:BinOp}{x y:Operand}{r:Rec}(h:ad9 P τ η u t op x y=some r):LOp P ⟨d,.binOp op t x y t',ty,pos,af,g⟩ τ η r.fp r.δ r.v:=by
 have m1:∀(fp:List Nat),xh η (aev τ x)=some fp->nf P t (aev τ x) (aev τ y)=true->(op=.eql->LOp P ⟨d,.binOp op t x y t',ty,pos,af,g⟩ τ η fp [] (.v (.bool false)))/\(op=.neq->LOp P ⟨d,.binOp op t x y t',ty,pos,af,g⟩ τ η fp [] (.v (.bool true))):=by
  intro fp hs hn
  constructor
  ·rintro rfl
   refine .look fp fun C a hg ha hb=>?_
   have hc:=Pu hs hn hb (ha x (by simp[Op.operands])) (ha y (by simp[Op.operands]))
   obtain⟨q1,q2,q3,q4⟩:=hc.op1 x y C.w
   exact⟨_,by simp only[execOp,Sem.run_bind,q1,q3,ahb,ahc],VR.v C _⟩
  ·rintro rfl
   refine .look fp fun C a hg ha hb=>?_
   have hc:=Pu hs hn hb (ha x (by simp[Op.operands])) (ha y (by simp[Op.operands]))
   obtain⟨q1,q2,q3,q4⟩:=hc.op1 x y C.w
   exact⟨_,by simp only[execOp,Sem.run_bind,q2,q4,ahb,ahc],VR.v C _⟩
 have m2:∀(fp:List Nat),xh η (aev τ y)=some fp->nf P t (aev τ y) (aev τ x)=true->(op=.eql->LOp P ⟨d,.binOp op t x y t',ty,pos,af,g⟩ τ η fp [] (.v (.bool false)))/\(op=.neq->LOp P ⟨d,.binOp op t x y t',ty,pos,af,g⟩ τ η fp [] (.v (.bool true))):=by
  intro fp hs hn
  constructor
  ·rintro rfl
   refine .look fp fun C a hg ha hb=>?_
   have hc:=Pu hs hn hb (ha y (by simp[Op.operands])) (ha x (by simp[Op.operands]))
   obtain⟨q1,q2,q3,q4⟩:=hc.op2 x y C.w
   exact⟨_,by simp only[execOp,Sem.run_bind,q1,q3,ahb,ahc],VR.v C _⟩
  ·rintro rfl
   refine .look fp fun C a hg ha hb=>?_
   have hc:=Pu hs hn hb (ha y (by simp[Op.operands])) (ha x (by simp[Op.operands]))
   obtain⟨q1,q2,q3,q4⟩:=hc.op2 x y C.w
   exact⟨_,by simp only[execOp,Sem.run_bind,q2,q4,ahb,ahc],VR.v C _⟩
 unfold ad9 at h
 split at h
 ·split at h
  ·rename_i fp hs
   cases hn:nf P t (aev τ x) (aev τ y)with
   |false=>rw[hn]at h;simp at h
   |true=>
    rw[hn]at h
    simp only[cond_true,agv]at h
    subst h
    exact(m1 fp hs hn).1 rfl
  ·split at h
   ·rename_i fp hs
    cases hn:nf P t (aev τ y) (aev τ x)with
    |false=>rw[hn]at h;simp at h
    |true=>
     rw[hn]at h
     simp only[cond_true,agv]at h
     subst h
     exact(m2 fp hs hn).1 rfl
   ·cases h
 ·split at h
  ·rename_i fp hs
   cases hn:nf P t (aev τ x) (aev τ y)with
   |false=>rw[hn]at h;simp at h
   |true=>
    rw[hn]at h
    simp only[cond_true,agv]at h
    subst h
    exact(m1 fp hs hn).2 rfl
  ·split at h
   ·rename_i fp hs
    cases hn:nf P t (aev τ y) (aev τ x)with
    |false=>rw[hn]at h;simp at h
    |true=>
     rw[hn]at h
     simp only[cond_true,agv]at h
     subst h
     exact(m2 fp hs hn).2 rfl
   ·cases h
 ·cases h
def extE(P:Program)(E:ESX)(o:Oper):Option Rec:=match o.op with
 |.makeMap t none=>some ⟨[],[(E.u,some (cn 0 0 0 []))],.mp E.u 0,E.u+1⟩
 |.lookup t x i ok=>If P (bf E.t) (be E.h) E.u t x i ok
 |.mapUpdate t m k x=>qf P (bf E.t) (be E.h) E.u t m k x
 |.insert t m k x=>qf P (bf E.t) (be E.h) E.u t m k x
 |.mapEntry t m k=>Dz P (bf E.t) (be E.h) E.u t m k
 |.entryStore t m s x=>wm P (bf E.t) (be E.h) E.u t m s x
 |.range t x=>J8 P (bf E.t) (be E.h) E.u t x
 |.next x s=>Ve P (bf E.t) (be E.h) E.u x s
 |.field t x i=>Ly P (bf E.t) E.u t x i
 |.index t x i=>Lg P (bf E.t) E.u t x i
 |.slice t x lo hi none=>Bj P (bf E.t) (be E.h) E.u t x lo hi
 |.binOp op t x y _=>ad9 P (bf E.t) (be E.h) E.u t op x y
 |.call ⟨.builtin .len,⟨[x]⟩,ats⟩=>Vo P (bf E.t) (be E.h) E.u x ats
 |.call ⟨.builtin .delete,⟨[m,k]⟩,ats⟩=>afw P (bf E.t) (be E.h) E.u m k ats
 |_=>none
def afn(P:Program):ct:=fun o E=>match extE P E o with
 |some r=>zl E r
 |none=>none
theorem Wi:(afn P).Ok P:=by intro o E r hl h;unfold afn at h;split at h;rename_i r' hr;refine o0 h ?_;obtain⟨d,op,ty,pos,af,g⟩:=o;unfold extE at hr;simp only at hr;split at hr;simp only[agv]at hr;subst hr;exact LOp.makeMap _;exact uv hr;exact l4 (.inl rfl) hr;exact l4 (.inr rfl) hr;exact Ie hr;exact Ci hr;exact J7 hr;exact Pt hr;exact Lx hr;exact Lf hr;exact Bi hr;exact Vb hr;exact P3 hr;exact Wr hr;cases hr;cases h
end
section
variable{P:Program}{τ:Nat->AV}{η:bi}{d:Option Tmp}{ty:TypeId}{pos:String}{af:Array Edge}{g:Option (Nat×Bool)}
def A9(τ:Nat->AV):List Operand->Option (List Value)
 |[]=>some []
 |x::l=>match Xv (aev τ x)with
  |none=>none
  |some v=>match A9 τ l with
   |none=>none
   |some r=>some (v::r)
theorem A8{C:Ctx}{a:Act}:∀(l:List Operand) (r:List Value),(∀x∈l,VR C (aev τ x) (a.eval x))->A9 τ l=some r->l.map a.eval=r
 |[],r,_,h=>by simp only[A9,agv]at h;subst h;rfl
 |x::l,r,hx,h=>by simp only[A9]at h;split at h;cases h;rename_i v hv;split at h;cases h;rename_i r' hr;simp only[agv]at h;subst h;rw[ahg,Jl (hx x (by simp)) hv,A8 l r' (fun y hy=>hx y (by simp[hy])) hr]
def D9(P:Program)(τ:Nat->AV)(u:Nat)(f:FuncId)(xs:Array Operand):Option Rec:=match A9 τ xs.toList with
 |none=>none
 |some vs=>match du P (callFunc f vs.toArray)with
  |some (.value y)=>some ⟨[],[],.v y,u⟩
  |_=>none
theorem Iq{u:Nat}{f:FuncId}{xs:Array Operand}{ats:Array TypeId}{r:Rec}(h:D9 P τ u f xs=some r):LOp P ⟨d,.call {callee:=.value (.func f),args:=xs,argTypes:=ats},ty,pos,af,g⟩ τ η r.fp r.δ r.v:=by unfold D9 at h;split at h;cases h;rename_i vs hv;split at h;rename_i y hq;simp only[agv]at h;subst h;refine .look [] fun C a hg ha _=>⟨y,?_,VR.v C y⟩;have e1:xs.map a.eval=vs.toArray:=(by have:=A8 (a:=a) xs.toList vs (fun x hx=>ha x (by simp[Op.operands,Call.operands];exact .inr (by simpa using hx))) hv;rw[<-this];apply Array.ext';simp);have e0:execOp a.eval ⟨d,.call {callee:=.value (.func f),args:=xs,argTypes:=ats},ty,pos,af,g⟩=callFunc f (#[]++xs.map a.eval++#[]):=rfl;rw[e0,e1];rw[show(#[]++vs.toArray++#[]:Array Value)=vs.toArray by simp];exact je _ _ hq C.w;cases h
def L3(η:bi):AV->Option (List Nat)
 |.v (.slice none 0 0)=>some []
 |.tree _ []=>some []
 |.sl id ver off 0=>match ii η id ver with
  |some _=>some [id]
  |none=>none
 |_=>none
theorem Cj{a:AV}{fp:List Nat}(h:L3 η a=some fp){C:Ctx}(ha:∀id∈fp,C.η id=η id){x:Value}(hx:VR C a x):∃ad c,x=.slice ad 0 c:=by
 unfold L3 at h
 split at h
 ·exact⟨_,_,hx.v_inv⟩
 ·have:=hx.tree_inv
  cases this with
  |tree=>exact⟨_,_,rfl⟩
  |tree0=>exact⟨_,_,rfl⟩
 ·rename_i id ver off
  split at h
  ·rename_i b hb
   simp only[agv]at h
   subst h
   obtain⟨b1,b2,b3⟩:=ca hb
   obtain⟨ad,cap,e,_⟩:=hx.sl_inv ((ha id (by simp)).trans b1) b2 b3
   exact⟨_,_,e⟩
  ·cases h
 ·cases h
def Aq(P:Program)(τ:Nat->AV)(η:bi)(u t:Nat)(s x:Operand):Option Rec:=match P.underlying t with
 |some (.slice e)=>match ao P e with
  |none=>none
  |some _=>match L3 η (aev τ x)with
   |none=>none
   |some fp=>match aev τ s with
    |.v (.slice none 0 0)=>some ⟨fp,[],.v (.slice none 0 0),u⟩
    |.sl id ver off len=>match ii η id ver with
     |some _=>some ⟨id::fp,[],.sl id ver off len,u⟩
     |none=>none
    |_=>none
 |_=>none
theorem Es{u t:Nat}{s x:Operand}{r:Rec}(h:Aq P τ η u t s x=some r):LOp P ⟨d,.call {callee:=.builtin .append,args:=#[s,x],argTypes:=#[t,t]},ty,pos,af,g⟩ τ η r.fp r.δ r.v:=by
 unfold Aq at h
 split at h
 ·rename_i e ht
  split at h
  ·cases h
  ·rename_i n hs
   unfold ao at hs
   cases hi:P.info? e with
   |none=>rw[hi]at hs;cases hs
   |some inf=>
    split at h
    ·cases h
    ·rename_i fp hf
     split at h
     ·rename_i hd
      simp only[agv]at h
      subst h
      refine .look fp fun C a hg ha hc=>?_
      have e1:=ha s (by simp[Op.operands,Call.operands])
      rw[hd]at e1
      obtain⟨ad,c,e2⟩:=Cj hf hc (ha x (by simp[Op.operands,Call.operands]))
      refine⟨.slice none 0 0,d4 C.w ?_,VR.v C _⟩
      rw[e1.v_inv,e2]
      exact c9 (P:=P) (ty:=ty) ht hi C.w none ad 0 0 c (ag7 _)
     ·rename_i id ver off len hd
      split at h
      ·rename_i b hb
       obtain⟨b1,b2,b3⟩:=ca hb
       simp only[agv]at h
       subst h
       refine .look (id::fp) fun C a hg ha hc=>?_
       have e1:=ha s (by simp[Op.operands,Call.operands])
       rw[hd]at e1
       obtain⟨ad,c,e2⟩:=Cj hf (fun i hi=>hc i (by simp[hi])) (ha x (by simp[Op.operands,Call.operands]))
       obtain⟨ad',cap,e3,k1,_⟩:=e1.sl_inv ((hc id (by simp)).trans b1) b2 b3
       refine⟨a.eval s,d4 C.w ?_,e1⟩
       rw[e3,e2]
       exact c9 (P:=P) (ty:=ty) ht hi C.w (some ad') ad len cap c k1
      ·cases h
     ·cases h
 ·cases h
def L2(τ:Nat->AV)(η:bi)(u:Nat)(x:Operand):Option Rec:=match aev τ x with
 |.it id ver=>match P2 η id ver with
  |some (b,.ofm mid mver since seen last)=>match qj η mid mver with
   |none=>none
   |some (mb,clock,es)=>bif Nat.beq clock last then(match seen.getLast? with
    |none=>none
    |some stamp=>match es.find? (fun e=>Nat.beq e.2.2 stamp)with
     |none=>none
     |some e=>some ⟨[id,mid],[],.tup [.v e.1,e.2.1],u⟩)else none
  |_=>none
 |_=>none
theorem All2.find{α β:Type}{R:α->β->Prop}{p:α->Bool}{q:β->Bool}(hb:∀a b,R a b->p a=q b){l:List α}{m:List β}(h:All2 R l m){a:α}(ha:l.find? p=some a):∃b,m.find? q=some b/\R a b:=by
 induction h with
 |nil=>cases ha
 |cons hr _ ih=>
  rename_i a0 b0 l m _
  rw[List.find?_cons]at ha ⊢
  rw[<-hb _ _ hr]
  cases hp:p a0 with
  |true=>
   rw[hp]at ha
   simp only[agv]at ha
   subst ha
   exact⟨b0,rfl,hr⟩
  |false=>
   rw[hp]at ha
   exact ih ha
theorem L1{u:Nat}{x:Operand}{r:Rec}(h:L2 τ η u x=some r):LOp P ⟨d,.entry x,ty,pos,af,g⟩ τ η r.fp r.δ r.v:=by
 unfold L2 at h
 split at h
 ·rename_i id ver hx
  split at h
  ·rename_i b mid mver since seen last hb
   obtain⟨hn,he⟩:=zt hb
   have ho:b.cs=jf (.mp mid mver) since seen last:=by rw[he];rfl
   split at h
   ·cases h
   ·rename_i mb clock es hm
    obtain⟨hp,hi⟩:=j3 hm
    cases hc:Nat.beq clock last with
    |false=>rw[hc]at h;simp at h
    |true=>
     rw[hc]at h
     simp only[cond_true]at h
     obtain rfl:=agu hc
     split at h
     ·cases h
     ·rename_i stamp hq
      split at h
      ·cases h
      ·rename_i e hf
       simp only[agv]at h
       subst h
       refine .look [id,mid] fun C a hg hr hj=>?_
       have hk:C.η id=some b:=(hj id (by simp)).trans hn
       have hl:C.η mid=some mb:=(hj mid (by simp)).trans hp
       have e1:=hr x (by simp[Op.operands])
       rw[hx]at e1
       have e1':=e1.it_inv hk (by rw[he];rfl)
       obtain⟨ob,g1,g2⟩:=hg.obj hk (by rw[he];rfl)
       rw[ho]at g2
       obtain⟨m,rfl,hs⟩:=g2.miter_inv
       have ht:=hs.mp_inv hl (by rw[hi];rfl)
       have hu:m=(C.ρ mid).1:=by simpa using ht
       subst hu
       obtain⟨entries,q1,q2,q3⟩:=yh hg hl hi
       have hh:All2 (fun(x:Value×AV×Nat) (e:MapEntry)=>e.key=x.1/\VR C x.2.1 e.val/\e.born=x.2.2) es entries.toList:=qt (by simpa using q2) (fun i h1 h2=>by simpa using q3 i h1 (by simpa using h2))
       obtain⟨en,hv,k1,k2,k3⟩:=hh.find (q:=fun e=>e.born==stamp) (fun a b hw=>by
        rw[hw.2.2,Bool.eq_iff_iff,beq_iff_eq]
        constructor
        ·exact agu
        ·intro e;rw[e];exact Nat.beq_refl _) hf
       refine⟨.tuple #[en.key,en.val],?_,VR.pair (by rw[k1];exact VR.v C _) k2⟩
       have ha:seen.toArray.back? =some stamp:=by rw[<-hq];simp
       have hd:entries.find? (fun e=>e.born==stamp)=some en:=by rw[<-hv];simp
       simp only[execOp,e1',Instr.entry,Sem.run_bind,fq g1 (fun _ _ _ e=>by cases e),ahb,ha,fq q1 (fun _ _ _ e=>by cases e),bne_self_eq_false,Bool.false_eq_true,if_false,hd,ahc]
  ·cases h
 ·cases h
def aad(P:Program)(E:ESX)(o:Oper):Option Rec:=match o.op with
 |.call ⟨.value (.func f),xs,ats⟩=>D9 P (bf E.t) E.u f xs
 |.call ⟨.builtin .append,⟨[s,x]⟩,⟨[t,t']⟩⟩=>bif Nat.beq t t' then Aq P (bf E.t) (be E.h) E.u t s x else none
 |.entry x=>L2 (bf E.t) (be E.h) E.u x
 |_=>none
def Wl(P:Program):ct:=fun o E=>match afn P o E with
 |some r=>some r
 |none=>match aad P E o with
  |some r=>zl E r
  |none=>none
theorem Qk:(Wl P).Ok P:=by
 intro o E r hl h
 unfold Wl at h
 split at h
 ·rename_i r' hr
  simp only[agv]at h
  subst h
  exact Wi _ _ _ hl hr
 ·rename_i ha
  clear ha
  split at h
  ·rename_i r' hr
   refine o0 h ?_
   obtain⟨d,op,ty,pos,af,g⟩:=o
   unfold aad at hr
   simp only at hr
   split at hr
   ·exact Iq hr
   ·rename_i s x t t'
    cases ht:Nat.beq t t' with
    |false=>rw[ht]at hr;simp at hr
    |true=>
     rw[ht]at hr
     simp only[cond_true]at hr
     obtain rfl:=agu ht
     exact Es hr
   ·exact L1 hr
   ·cases hr
  ·cases h
end
section
variable{P:Program}{τ:Nat->AV}{η:bi}{d:Option Tmp}{ty:TypeId}{pos:String}{af:Array Edge}{g:Option (Nat×Bool)}
theorem zd{t e len cap:Nat}{inf:TypeInfo}{z:Value}(he:P.underlying t=some (.slice e))(hi:P.info? e=some inf)(hz:inf.zero=some z)(hlc:len<=cap)(hc2:cap<=16777216)(hb2:inf.bytes*cap<=281474976710656)(w:World):
 (Instr.makeSlice t (.int .i64 (Int.ofNat len)) (.int .i64 (Int.ofNat cap))).run P w=.ok (.slice (some ⟨w.heap.size,0,none⟩) len cap) (w.alloc (.cells ((Array.range (cap*inf.size)).map fun i=>(if cap*inf.size=0 then(#[]:Array Value)else z.cells)[i%(if cap*inf.size=0 then(#[]:Array Value)else z.cells).size]!) e)):=by
 have ha:IntKind.i64.wrap (Int.ofNat len)=Int.ofNat len:=IntWalk.i64_in _ (by constructor<;>simp<;>omega)
 have hb:IntKind.i64.wrap (Int.ofNat cap)=Int.ofNat cap:=IntWalk.i64_in _ (by constructor<;>simp<;>omega)
 have c1:¬(((inf.bytes:Int)*Int.ofNat cap>2^48)):=by have:(inf.bytes:Int)*Int.ofNat cap=((inf.bytes*cap:Nat):Int):=(by simp);rw[this];omega
 have c2:¬((Int.ofNat cap:Int)<0):=by simp
 have c3:¬((Int.ofNat len:Int)<0):=by simp
 have c4:¬((Int.ofNat len:Int)>Int.ofNat cap):=by simp;omega
 simp only[Instr.makeSlice,Sem.run_bind,run_underlying he,ahb,asInt,typeInfo,run_program,hi,ahc]
 have a1:∀(n:Nat) (w:World),(asIntOf (Value.int IntKind.i64 (Int.ofNat n))).run P w=.ok (IntKind.i64,Int.ofNat n) w:=fun n w=>rfl
 simp only[a1,ahb,ha,hb]
 have cc:(decide ((Int.ofNat cap:Int)<0)||decide ((inf.bytes:Int)*Int.ofNat cap>2^48)||decide ((Int.ofNat len:Int)<0)||decide ((Int.ofNat len:Int)>Int.ofNat cap))=false:=by simp only[Bool.or_eq_false_iff,decide_eq_false_iff_not];exact⟨⟨⟨c2,c1⟩,c3⟩,c4⟩
 rw[ag0 (by rw[cc];exact ahp)]
 have tn:∀n:Nat,(Int.ofNat n).toNat=n:=fun n=>rfl
 simp only[tn,Sem.run_bind]
 have ar:∀w:World,(askRoom (cap*inf.bytes)).run P w=.ok () w:=fun w=>by unfold askRoom;split<;>rfl
 simp only[ar,ahb,sizeOf,typeInfo,Sem.run_bind,run_program,hi,ahc]
 by_cases h0:cap*inf.size=0
 ·rw[ag1 h0]
  simp only[ahc,ahb,h0,if_true]
  rfl
 ·rw[ag0 h0]
  simp only[Sem.run_bind,zeroValue,typeInfo,run_program,hi,ahc,ahb,hz,h0,if_false]
  rfl
theorem xt(u:Nat){t e len cap s bys:Nat}{z:Value}{x y:Operand}(he:P.underlying t=some (.slice e))(hs:ao P e=some s)(hz:bj P e=some z)(hb:(P.info? e).map (·.bytes)=some bys)
 (hx:aev τ x=.v (.int .i64 (Int.ofNat len)))(hy:aev τ y=.v (.int .i64 (Int.ofNat cap)))(hl:Nat.ble len cap=true)(hm:Nat.ble cap 16777216=true)(hn:Nat.ble (bys*cap) 281474976710656=true):
 LOp P ⟨d,.makeSlice t x y,ty,pos,af,g⟩ τ η [] [(u,some ⟨0,b5 z (cap*s),s,false⟩)] (.sl u 0 0 len):=by
 intro C a hg hj _ hc K Q hK
 have hu:¬C.U u:=hc (u,some ⟨0,b5 z (cap*s),s,false⟩) (by simp) (by simp)
 have hd:=ag9 hm
 have ha:=ag9 hl
 have hf:=ag9 hn
 have e1:=hj x (by simp[Op.operands])
 have e2:=hj y (by simp[Op.operands])
 rw[hx]at e1
 rw[hy]at e2
 unfold ao at hs
 unfold bj at hz
 cases hi:P.info? e with
 |none=>rw[hi]at hz;cases hz
 |some inf=>
  rw[hi]at hz hs hb
  simp only[aho]at hz
  simp only[ahn,agv]at hs hb
  subst hs hb
  have hr:=zd he hi hz ha hd hf C.w
  generalize hk:((Array.range (cap*inf.size)).map fun i=>(if cap*inf.size=0 then(#[]:Array Value)else z.cells)[i%(if cap*inf.size=0 then(#[]:Array Value)else z.cells).size]!)=es at hr
  have gsz:es.size=cap*inf.size:=by rw[<-hk];simp
  have z1:(b5 z (cap*inf.size)).length=es.size:=by simp[b5,gsz]
  have z2:∀i (h:i<(b5 z (cap*inf.size)).length) (h':i<es.size),VR C (b5 z (cap*inf.size))[i] es[i]:=fun i h h'=>by have h0:¬(cap*inf.size=0):=(by omega);subst hk;simp only[b5,List.getElem_map,List.getElem_range,Array.getElem_map,Array.getElem_range,h0,if_false];exact VR.v C _
  have hh:(execOp a.eval ⟨d,.makeSlice t x y,ty,pos,af,g⟩).run P C.w=.ok (.value (.slice (some ⟨C.w.heap.size,0,none⟩) len cap)) (C.w.alloc (.cells es e)):=by simp only[execOp,e1.v_inv,e2.v_inv,Sem.run_bind,hr,ahb];rfl
  unfold Oper.wp
  rw[hh]
  refine hK _ (C.alloc u es e ⟨0,b5 z (cap*inf.size),inf.size,false⟩) rfl (fun i=>by simp[Ctx.alloc]) (c8 hg hu rfl (Nat.le_of_eq z1) z2) (dg hg hu rfl) ?_
  have h3:(C.alloc u es e ⟨0,b5 z (cap*inf.size),inf.size,false⟩).ρ u=(C.w.heap.size,0):=by simp[Ctx.alloc]
  have h4:(C.alloc u es e ⟨0,b5 z (cap*inf.size),inf.size,false⟩).sz u=es.size:=by simp[Ctx.alloc]
  have:=VR.sl (C:=C.alloc u es e ⟨0,b5 z (cap*inf.size),inf.size,false⟩) (id:=u) (ver:=0) (off:=0) (len:=len) (cap:=cap) (b:=⟨0,b5 z (cap*inf.size),inf.size,false⟩) (ak _ _ _) rfl rfl ha (by unfold maxLen;omega) (by omega)
   (by rw[h3,h4,gsz];simp)
  rw[h3]at this
  exact this
def qg(P:Program)(τ:Nat->AV)(u t:Nat)(x y:Operand):Option Rec:=match P.underlying t with
 |some (.slice e)=>match ao P e with
  |none=>none
  |some s=>match bj P e with
   |none=>none
   |some z=>match(P.info? e).map (·.bytes)with
    |none=>none
    |some bys=>match aev τ x with
     |.v (.int .i64 (.ofNat len))=>match aev τ y with
      |.v (.int .i64 (.ofNat cap))=>bif Nat.ble len cap&&Nat.ble cap 16777216&&Nat.ble (bys*cap) 281474976710656 then
       some ⟨[],[(u,some ⟨0,b5 z (cap*s),s,false⟩)],.sl u 0 0 len,u+1⟩else none
      |_=>none
     |_=>none
 |_=>none
theorem xn{u t:Nat}{x y:Operand}{r:Rec}(h:qg P τ u t x y=some r):LOp P ⟨d,.makeSlice t x y,ty,pos,af,g⟩ τ η r.fp r.δ r.v:=by
 unfold qg at h
 split at h
 ·rename_i e he
  split at h
  ·cases h
  ·rename_i s hs
   split at h
   ·cases h
   ·rename_i z hz
    split at h
    ·cases h
    ·rename_i bys ha
     split at h
     ·rename_i len hx
      split at h
      ·rename_i cap hy
       cases hc:(Nat.ble len cap&&Nat.ble cap 16777216&&Nat.ble (bys*cap) 281474976710656)with
       |false=>rw[hc]at h;simp at h
       |true=>
        rw[hc]at h
        simp only[cond_true,agv]at h
        subst h
        simp only[ahq]at hc
        exact xt u he hs hz ha hx hy hc.1.1 hc.1.2 hc.2
      ·cases h
     ·cases h
 ·cases h
theorem I2{o:Oper}{id ver off n:Nat}{b:Blk}{vs:List AV}{v:AV}(hb:η id=some b)(hv:b.ver=ver)(hn:b.nilp=false)(hl:vs.length=n)(hc:off+n<=b.cs.length)(h1:vs.all AV.one=true)
 (h:∀(C:Ctx) (a:Act),Good C->(∀x∈o.op.operands,VR C (aev τ x) (a.eval x))->C.η id=some b->∃(xs:List Value) (x:Value),xs.length=vs.length/\(∀i (h:i<vs.length) (h':i<xs.length),VR C vs[i] xs[i])/\VR C v x/\
  ((storeCells ⟨(C.ρ id).1,(C.ρ id).2+off,none⟩ xs 0).run P C.w=.ok () (C.w.setCells (C.ρ id).1 ((C.ρ id).2+off) xs)->(execOp a.eval o).run P C.w=.ok (.value x) (C.w.setCells (C.ρ id).1 ((C.ρ id).2+off) xs))):
 LOp P o τ η [id] [(id,some {b with cs:=bg b.cs off vs})] v:=by
 intro C a hg he hf _ K Q hK
 have hb':C.η id=some b:=(hf id (by simp)).trans hb
 obtain⟨xs,x,h2,h3,h4,h5⟩:=h C a hg he hb'
 obtain⟨c,t',g1,g2,g3,g4⟩:=hg.blk hb' hn
 have ha:=run_storeCells_cells (P:=P) (C.ρ id).1 ((C.ρ id).2+off) xs 0 C.w (fun j hj=>by have:(C.ρ id).2+off+0+j<c.size:=(by omega);simp[World.cell?,g1];omega) (fun j _=>by simp[World.frozen?,g1]) (fun w hw=>by obtain⟨i,hi,rfl⟩:=ahd hw;exact(h3 i (by omega) hi).one (List.all_eq_true.1 h1 _ (ags _)))
 simp only[Nat.add_zero]at ha
 have hr:=h5 ha
 have hh:=lu (o:=off) (vs:=vs) (xs:=xs) hg hb' hn (by omega) h2 h3
 have hd:=lg (id:=id) (b:=b) (o:=off) (vs:=vs) (xs:=xs) hg hb' hn
 unfold Oper.wp
 rw[hr]
 exact hK x (C.store id b off vs xs) rfl (fun i=>by simp[Ctx.store];rintro rfl;exact hg.used hb') hh hd (h4.mono hg hd)
def fh(z:Value)(n:Nat):List AV:=(Builtin.zeroCells z.cells n).toList.map .v
def Mg(P:Program)(τ:Nat->AV)(η:bi)(u:Nat)(x:Operand)(ats:Array TypeId):Option Rec:=match ats[0]? with
 |none=>none
 |some t=>match P.underlying t with
  |some (.slice e)=>match bj P e with
   |none=>none
   |some z=>match aev τ x with
    |.sl id ver off len=>match ii η id ver with
     |none=>none
     |some b=>bif Nat.beq len 0 then some ⟨[id],[],.v (.tuple #[]),u⟩else
      bif (fh z len).all AV.one&&Nat.beq (fh z len).length (len*b.esz)then(match ue off b.cs (fh z len)with
      |some ds=>some ⟨[id],[(id,some ⟨b.ver,ds,b.esz,b.nilp⟩)],.v (.tuple #[]),u⟩
      |none=>none)else none
    |.v (.slice none 0 0)=>some ⟨[],[],.v (.tuple #[]),u⟩
    |_=>none
  |_=>none
theorem Mf{u:Nat}{x:Operand}{ats:Array TypeId}{r:Rec}(h:Mg P τ η u x ats=some r):LOp P ⟨d,.call {callee:=.builtin .clear,args:=#[x],argTypes:=ats},ty,pos,af,g⟩ τ η r.fp r.δ r.v:=by
 have hf:∀(a:Act) (w:World),(execOp a.eval ⟨d,.call {callee:=.builtin .clear,args:=#[x],argTypes:=ats},ty,pos,af,g⟩).run P w=((Builtin.clear_ ats ty #[a.eval x]).run P w).andThen fun x w=>.ok (.value x) w:=by intro a w;simp only[execOp,resolve,invoke,builtin,Sem.run_bind,ahc,ahb];simp only[List.map_toArray,ahg,List.map_nil]
 unfold Mg at h;split at h;cases h;rename_i t ht;split at h;rename_i e hu;split at h;cases h;rename_i z hz;split at h;rename_i id ver off len hx;split at h;cases h;rename_i b hb;obtain⟨b1,b2,b3⟩:=ca hb;cases ha:Nat.beq len 0 with
 |true=>
  rw[ha]at h
  simp only[cond_true,agv]at h
  subst h
  have:=agu ha
  subst this
  refine .look [id] fun C a hg he hi=>?_
  have e1:=he x (by simp[Op.operands,Call.operands])
  rw[hx]at e1
  obtain⟨ad,cap,e2,_⟩:=e1.sl_inv ((hi id (by simp)).trans b1) b2 b3
  refine⟨.tuple #[],?_,VR.v C _⟩
  rw[hf,e2]
  simp[Builtin.clear_,ht,Sem.run_bind,run_underlying hu]
 |false=>
  rw[ha]at h
  simp only[cond_false]at h
  cases hc:((fh z len).all AV.one&&Nat.beq (fh z len).length (len*b.esz))with
  |false=>rw[hc]at h;simp at h
  |true=>
   rw[hc]at h
   simp only[cond_true]at h
   rw[ahq]at hc
   split at h
   ·rename_i ds hd
    simp only[agv]at h
    subst h
    obtain⟨k3,k4⟩:=q7 _ _ _ _ hd
    subst k4
    refine I2 (n:=(fh z len).length) b1 b2 b3 rfl k3 hc.1 fun C a hg he hj=>?_
    have e1:=he x (by simp[Op.operands,Call.operands])
    rw[hx]at e1
    obtain⟨ad,cap,e2,q1,q2,q3,q4⟩:=e1.sl_inv hj b2 b3
    have hh:len≠0:=fun e=>by rw[e,Nat.beq_refl]at ha;cases ha
    have hk:ad=⟨(C.ρ id).1,(C.ρ id).2+off,none⟩:=by
     rcases q4 with⟨h0,_⟩|⟨h0,_⟩
     ·exact absurd h0 hh
     ·exact h0
    subst hk
    refine⟨(Builtin.zeroCells z.cells len).toList,.tuple #[],by simp[fh],fun i h1 h2=>by simp only[fh,List.getElem_map];exact VR.v C _,VR.v C _,fun hl=>?_⟩
    rw[hf,e2]
    obtain⟨m,rfl⟩:∃m,len=m+1:=⟨len-1,by omega⟩
    simp only[Builtin.clear_,List.getElem?_toArray,ht,Sem.run_bind,run_underlying hu,ahb]
    have e0:(#[Value.slice (some ⟨(C.ρ id).1,(C.ρ id).2+off,none⟩) (m+1) cap]:Array Value)[0]? =some (Value.slice (some ⟨(C.ρ id).1,(C.ρ id).2+off,none⟩) (m+1) cap):=rfl
    simp only[List.getElem?_cons_zero,Sem.run_bind,run_underlying hu,ahb,km hz,hl,ahc]
   ·cases h
 rename_i hx;simp only[agv]at h;subst h;refine .look [] fun C a hg he hi=>?_;have e1:=he x (by simp[Op.operands,Call.operands])
 rw[hx]at e1;refine⟨.tuple #[],?_,VR.v C _⟩;rw[hf,e1.v_inv];simp[Builtin.clear_,ht,Sem.run_bind,run_underlying hu];cases h;cases h
theorem ua{t ti e:TypeId}{k:IntKind}{i:TypeInfo}{z:Value}(ht:P.underlying t=some (.slice e))(hd:P.underlying ti=some (.int k))(hi:P.info? e=some i)(hz:i.zero=some z){n:Nat}(h0:0<n)(h63:n<=16777216)(h48:n*i.bytes<=140737488355328)(he:¬(n*i.size=0))(hf:i.bytes≠0)(w:World):
 (Builtin.append_ #[t,ti] ty #[.slice none 0 0,.int .i64 (Int.ofNat n)]).run P w=.ok (.slice (some ⟨w.heap.size,0,none⟩) n (grownCap w n 0 e)) (w.drew.alloc (.cells (Builtin.zeroCells z.cells n++Builtin.zeroCells z.cells (grownCap w n 0 e-n)) e)):=by
 have hn:n≠0:=by omega
 have hg:IntKind.i64.wrap (Int.ofNat n)=Int.ofNat n:=IntWalk.i64_in _ (by constructor<;>simp<;>omega)
 have c1:¬((Int.ofNat n:Int)<0):=by simp
 have c2:¬((Int.ofNat n:Int)*(i.bytes:Int)>2^48):=by have:(Int.ofNat n:Int)*(i.bytes:Int)=((n*i.bytes:Nat):Int):=(by simp);rw[this];omega
 have ha:¬(9223372036854775807<(n:Int)):=by omega
 have hb:¬(281474976710656<Builtin.nextslicecap n 0*i.bytes):=by rw[nextslicecap_zero h0];omega
 have tn:(Int.ofNat n).toNat=n:=rfl
 have c1':¬((n:Int)<0):=by omega
 have c2':¬(281474976710656<(n:Int)*(i.bytes:Int)):=by have:(n:Int)*(i.bytes:Int)=((n*i.bytes:Nat):Int):=(by simp);rw[this];omega
 have hc:IntKind.i64.wrap (n:Int)=(n:Int):=hg
 simp[Builtin.append_,run_underlying ht,run_underlying hd,asInt,asIntOf,hc,c1',c2',sizeOf,typeInfo,zeroValue,hi,hz,hn,ha,hb,Question.forced,run_firstCells_none,newRow,grownCap,hf]
 intro h
 exact absurd h he
theorem xb(u:Nat){t ti e n:Nat}{k:IntKind}{i:TypeInfo}{z:Value}{s x:Operand}(ht:P.underlying t=some (.slice e))(ho:P.underlying ti=some (.int k))(hi:P.info? e=some i)(hz:i.zero=some z)(he:z.cells.size=i.size)(h0:0<n)(h63:n<=16777216)(h48:n*i.bytes<=140737488355328)(hp:¬(n*i.size=0))(hq:i.bytes≠0)
 (hs:aev τ s=.v (.slice none 0 0))(hx:aev τ x=.v (.int .i64 (Int.ofNat n))):
 LOp P ⟨d,.call {callee:=.builtin .append,args:=#[s,x],argTypes:=#[t,ti]},ty,pos,af,g⟩ τ η [] [(u,some ⟨0,fh z n,i.size,false⟩)] (.sl u 0 0 n):=by
 intro C a hg hf _ hb K Q hK
 have hu:¬C.U u:=hb (u,some ⟨0,fh z n,i.size,false⟩) (by simp) (by simp)
 have e1:=hf s (by simp[Op.operands,Call.operands])
 have e2:=hf x (by simp[Op.operands,Call.operands])
 rw[hs]at e1
 rw[hx]at e2
 have hr:=ua (P:=P) (ty:=ty) ht ho hi hz h0 h63 h48 hp hq C.w
 generalize ha:(Builtin.zeroCells z.cells n++Builtin.zeroCells z.cells (grownCap C.w n 0 e-n))=nc at hr
 have hh:=grownCap_ge C.w n 0 e
 have hv:grownCap C.w n 0 e<=maxLen:=grownCap_le_maxLen C.w n 0 e (by unfold maxLen;omega)
 have hc:nc.size=grownCap C.w n 0 e*i.size:=by rw[<-ha];simp only[Array.size_append,size_zeroCells,he,<-Nat.add_mul];congr 1;omega
 have hzl:(fh z n).length=n*i.size:=by simp only[fh,agz,Array.length_toList,size_zeroCells,he]
 have hle:n*i.size<=grownCap C.w n 0 e*i.size:=Nat.mul_le_mul_right _ hh
 have hd:∀j (h:j<(fh z n).length) (h':j<nc.size),VR C (fh z n)[j] nc[j]:=by intro j hj hw;have hk:j<(Builtin.zeroCells z.cells n).size:=(by simp[fh]at hj;simpa using hj);have hl:nc[j]? =(Builtin.zeroCells z.cells n)[j]?:=(by rw[<-ha,Array.getElem?_append_left hk]);rw[Array.getElem?_eq_getElem hw,Array.getElem?_eq_getElem hk]at hl;rw[Option.some.inj hl];simp only[fh,List.getElem_map,Array.getElem_toList];exact VR.v C _
 obtain⟨hm,hn⟩:=kp hg
 unfold Oper.wp
 rw[d4 C.w (by rw[e1.v_inv,e2.v_inv];exact hr)]
 have hy:=c8 (C:={C with w:=C.w.drew}) (u:=u) (cells:=nc) (t:=e) (b:=⟨0,fh z n,i.size,false⟩) hm hu rfl (by simp only;omega) (fun j h h'=>(hd j h h').mono hg hn)
 have g0:=dg (C:={C with w:=C.w.drew}) (u:=u) (cells:=nc) (t:=e) (b:=⟨0,fh z n,i.size,false⟩) hm hu rfl
 refine hK _ (Ctx.alloc {C with w:=C.w.drew} u nc e ⟨0,fh z n,i.size,false⟩) rfl (fun i=>by simp[Ctx.alloc]) hy (hn.trans g0) ?_
 have h3:(Ctx.alloc {C with w:=C.w.drew} u nc e ⟨0,fh z n,i.size,false⟩).ρ u=(C.w.heap.size,0):=by simp[Ctx.alloc]
 have h4:(Ctx.alloc {C with w:=C.w.drew} u nc e ⟨0,fh z n,i.size,false⟩).sz u=nc.size:=by simp[Ctx.alloc]
 have:=VR.sl (C:=Ctx.alloc {C with w:=C.w.drew} u nc e ⟨0,fh z n,i.size,false⟩) (id:=u) (ver:=0) (off:=0) (len:=n) (cap:=grownCap C.w n 0 e) (b:=⟨0,fh z n,i.size,false⟩) (ak _ _ _) rfl rfl hh hv (by omega)
  (by rw[h3,h4,hc];simp)
 rw[h3]at this
 exact this
def ol(P:Program)(τ:Nat->AV)(u t ti:Nat)(s x:Operand):Option Rec:=match P.underlying t with
 |some (.slice e)=>match P.underlying ti with
  |some (.int k)=>match P.info? e with
   |none=>none
   |some i=>match i.zero with
    |none=>none
    |some z=>match aev τ s with
     |.v (.slice none 0 0)=>match aev τ x with
      |.v (.int .i64 (.ofNat n))=>bif Nat.beq z.cells.size i.size&&Nat.ble 1 n&&Nat.ble n 16777216&&Nat.ble (n*i.bytes) 140737488355328&&!Nat.beq (n*i.size) 0&&!Nat.beq i.bytes 0 then
       some ⟨[],[(u,some ⟨0,fh z n,i.size,false⟩)],.sl u 0 0 n,u+1⟩else none
      |_=>none
     |_=>none
  |_=>none
 |_=>none
theorem ww{u t ti:Nat}{s x:Operand}{r:Rec}(h:ol P τ u t ti s x=some r):LOp P ⟨d,.call {callee:=.builtin .append,args:=#[s,x],argTypes:=#[t,ti]},ty,pos,af,g⟩ τ η r.fp r.δ r.v:=by
 unfold ol at h
 split at h
 ·rename_i e ht
  split at h
  ·rename_i k ha
   split at h
   ·cases h
   ·rename_i i hi
    split at h
    ·cases h
    ·rename_i z hz
     split at h
     ·rename_i hs
      split at h
      ·rename_i n hx
       cases hc:(Nat.beq z.cells.size i.size&&Nat.ble 1 n&&Nat.ble n 16777216&&Nat.ble (n*i.bytes) 140737488355328&&!Nat.beq (n*i.size) 0&&!Nat.beq i.bytes 0)with
       |false=>rw[hc]at h;simp at h
       |true=>
        rw[hc]at h
        simp only[cond_true,agv]at h
        subst h
        simp only[ahq,Bool.not_eq_true']at hc
        obtain⟨⟨⟨⟨⟨c1,c2⟩,c3⟩,c4⟩,c5⟩,c6⟩:=hc
        exact xb u ht ha hi hz (agu c1) (ag9 c2) (ag9 c3) (ag9 c4) (fun e=>by rw[e]at c5;cases c5) (fun e=>by rw[e]at c6;cases c6) hs hx
      ·cases h
     ·cases h
  ·cases h
 ·cases h
theorem th{t e s len:Nat}{k:IntKind}{j b o:Nat}{w:World}(he:P.underlying t=some (.array len e))(hs:ao P e=some s)(hj:j<len):
 (Instr.indexAt t (.pointer (some ⟨b,o,none⟩)) (.int k (Int.ofNat j))).run P w=.ok (.pointer (some ⟨b,o+j*s,none⟩)) w:=by
 unfold ao at hs
 cases hi:P.info? e with
 |none=>rw[hi]at hs;cases hs
 |some inf=>
  rw[hi]at hs
  simp only[ahn,agv]at hs
  subst hs
  have c1:(0:Int)<=Int.ofNat j/\Int.ofNat j<(len:Int):=⟨by simp,by simp;exact_mod_cast hj⟩
  have c2:(Int.ofNat j).toNat=j:=rfl
  have ha:(Addr.add ⟨b,o,none⟩ (j*inf.size))=⟨b,o+j*inf.size,none⟩:=by simp[Addr.add]
  simp only[Instr.indexAt,asIntOf,Instr.sureAddr,Sem.run_bind,ahc,ahb,run_underlying he]
  simp only[c1,and_self,if_true,Sem.run_bind,sizeOf,typeInfo,run_program,hi,ahc,ahb,c2,ha]
def rf(P:Program)(τ:Nat->AV)(η:bi)(u t:Nat)(x i:Operand):Option Rec:=match P.underlying t with
 |some (.array len e)=>match ao P e with
  |none=>none
  |some n=>match aev τ i with
   |.v (.int k (.ofNat j))=>bif Nat.blt j len then(match aev τ x with
    |.tp cs o=>some ⟨[],[],.tp cs (o+j*n),u⟩
    |.ptr id ver o=>match ii η id ver with
     |some _=>some ⟨[id],[],.ptr id ver (o+j*n),u⟩
     |none=>none
    |_=>none)else none
   |_=>none
 |_=>none
theorem tl{u t:Nat}{x i:Operand}{r:Rec}(h:rf P τ η u t x i=some r):LOp P ⟨d,.indexAddr t x i,ty,pos,af,g⟩ τ η r.fp r.δ r.v:=by
 unfold rf at h
 split at h
 ·rename_i len e he
  split at h
  ·cases h
  ·rename_i n hs
   split at h
   ·rename_i k j hi
    cases hf:Nat.blt j len with
    |false=>rw[hf]at h;simp at h
    |true=>
     rw[hf]at h
     simp only[cond_true]at h
     have ha:j<len:=by simpa using hf
     split at h
     ·rename_i cs o hx
      simp only[agv]at h
      subst h
      refine .look [] fun C a hg hd _=>?_
      have e1:=hd x (by simp[Op.operands])
      have e0:=hd i (by simp[Op.operands])
      rw[hx]at e1
      rw[hi]at e0
      have e0':=e0.v_inv
      have e2:=e1.tp_inv
      generalize hj:a.eval x=xv at e2
      cases e2 with
      |tp cell hT hc hr=>
       refine⟨_,by simp only[execOp,hj,e0',Sem.run_bind,th he hs ha,ahb];rfl,?_⟩
       rw[Nat.add_assoc]
       exact .imm (.tp cell hT hc hr)
     ·rename_i id ver o hx
      split at h
      ·rename_i b hb
       obtain⟨b1,b2,b3⟩:=ca hb
       simp only[agv]at h
       subst h
       refine .look [id] fun C a hg hd hk=>?_
       have hh:C.η id=some b:=(hk id (by simp)).trans b1
       have e1:=hd x (by simp[Op.operands])
       have e0:=hd i (by simp[Op.operands])
       rw[hx]at e1
       rw[hi]at e0
       have e0':=e0.v_inv
       have e2:=e1.ptr_inv hh b2
       refine⟨_,by simp only[execOp,e2,e0',Sem.run_bind,th he hs ha,ahb];rfl,?_⟩
       rw[Nat.add_assoc]
       exact .ptr hh b2 b3
      ·cases h
     ·cases h
   ·cases h
 ·cases h
def aac(P:Program)(E:ESX)(o:Oper):Option Rec:=match o.op with
 |.makeSlice t x y=>qg P (bf E.t) E.u t x y
 |.indexAddr t x i=>rf P (bf E.t) (be E.h) E.u t x i
 |.call ⟨.builtin .clear,⟨[x]⟩,ats⟩=>Mg P (bf E.t) (be E.h) E.u x ats
 |.call ⟨.builtin .append,⟨[s,x]⟩,⟨[t,ti]⟩⟩=>ol P (bf E.t) E.u t ti s x
 |_=>none
def Wj(P:Program):ct:=fun o E=>match Wl P o E with
 |some r=>some r
 |none=>match aac P E o with
  |some r=>zl E r
  |none=>none
theorem Qj:(Wj P).Ok P:=by intro o E r hl h;unfold Wj at h;split at h;rename_i r' hr;simp only[agv]at h;subst h;exact Qk _ _ _ hl hr;rename_i ha;clear ha;split at h;rename_i r' hr;refine o0 h ?_;obtain⟨d,op,ty,pos,af,g⟩:=o;unfold aac at hr;simp only at hr;split at hr;exact xn hr;exact tl hr;exact Mf hr;exact ww hr;cases hr;cases h
end
def yj(x:Operand):ESX->AV:=match x with
 |.tmp t=>fun E=>bf E.t t
 |.const v=>fun _=>.v v
 |.global g=>fun _=>.v (.pointer (some ⟨g,0,none⟩))
 |.func f=>fun _=>.clo f []
theorem dc(x:Operand)(E:ESX):yj x E=aev (bf E.t) x:=by cases x<;>rfl
def Pv(x:Operand)(E:ESX):Option Rx:=some (js E (yj x E))
def Y4(c x y:Operand)(E:ESX):Option Rx:=match yj c E with
 |.v (.bool true)=>some (js E (yj x E))
 |.v (.bool false)=>some (js E (yj y E))
 |_=>none
def qi(E:ESX)(id:Nat)(v:AV):Option Rx:=bif Nat.ble (id+1) E.u then some ⟨Nat.shiftLeft 1 id,0,E.u,E.u,E.h,v⟩else none
def Lz(op:BinOp)(x y:Operand)(slow:ESX->Option Rx)(E:ESX):Option Rx:=match yj x E with
 |.v (.int .i64 a)=>match yj y E with
  |.v (.int .i64 b)=>match Wg op a b with
   |some v=>some (js E (.v v))
   |none=>slow E
  |_=>slow E
 |_=>slow E
def Zo(row:Option (Option Nat))(x:Operand)(E:ESX):Option Rx:=match row with
 |none=>none
 |some none=>match yj x E with
  |.ptr id ver o=>match ii (be E.h) id ver with
   |none=>none
   |some b=>match b.cs[o]? with
    |some v=>qi E id v
    |none=>none
  |.tp cs o=>match cs[o]? with
   |some v=>some (js E v)
   |none=>none
  |_=>none
 |some (some n)=>match yj x E with
  |.ptr id ver o=>match ii (be E.h) id ver with
   |none=>none
   |some b=>match cy o n b.cs with
    |some ds=>qi E id (.agg ds)
    |none=>none
  |.tp cs o=>match cy o n cs with
   |some ds=>some (js E (.agg ds))
   |none=>none
  |_=>none
def faK(fi:Option (Nat×Nat))(x:Operand)(E:ESX):Option Rx:=match fi with
 |none=>none
 |some (off,sz)=>bif Nat.beq sz 0 then none else match yj x E with
  |.ptr id ver o=>match ii (be E.h) id ver with
   |none=>none
   |some _=>qi E id (.ptr id ver (o+off))
  |.tp cs o=>some (js E (.tp cs (o+off)))
  |_=>none
def Tl(P:Program)(t:Nat):Option Nat:=match P.underlying t with
 |some (.slice e)=>ao P e
 |_=>none
def iaK(n:Option Nat)(x i:Operand)(slow:ESX->Option Rx)(E:ESX):Option Rx:=match n with
 |none=>slow E
 |some n=>match yj i E with
  |.v (.int k (.ofNat j))=>match yj x E with
   |.tree m rows=>bif Nat.beq m n then(match rows[j]? with
    |some row=>some (js E (.tp row 0))
    |none=>none)else none
   |.sl id ver off len=>bif Nat.ble (j+1) len then(match ii (be E.h) id ver with
    |some b=>bif Nat.beq b.esz n then qi E id (.ptr id ver (off+j*n))else none
    |none=>none)else none
   |_=>none
  |_=>none
def Wh(k:IntKind)(op:BinOp)(a b:Int):Option Value:=match op with
 |.add=>some (.int k (k.wrap (a+b)))
 |.sub=>some (.int k (k.wrap (a-b)))
 |.mul=>some (.int k (k.wrap (a*b)))
 |.eql=>some (.bool (eqI a b))
 |.neq=>some (.bool (!eqI a b))
 |.lss=>some (.bool (ltI a b))
 |.gtr=>some (.bool (ltI b a))
 |.leq=>some (.bool (!ltI b a))
 |.geq=>some (.bool (!ltI a b))
 |_=>none
def Uw:IntKind->IntKind->Bool
 |.u8,.u8=>true
 |.u32,.u32=>true
 |.u64,.u64=>true
 |.i64,.i64=>true
 |.i32,.i32=>true
 |_,_=>false
theorem O3{k k':IntKind}(h:Uw k k'=true):k'=k:=by cases k<;>cases k'<;>first|rfl|cases h
def agi(op:BinOp)(x y:Operand)(slow:ESX->Option Rx)(E:ESX):Option Rx:=match yj x E with
 |.v (.int k a)=>match yj y E with
  |.v (.int k' b)=>bif Uw k k' then(match Wh k op a b with
   |some v=>some (js E (.v v))
   |none=>slow E)else slow E
  |_=>slow E
 |_=>slow E
theorem Qz{P:Program}{τ:Nat->AV}{η:bi}{d:Option Tmp}{ty:TypeId}{pos:String}{af:Array Edge}{g:Option (Nat×Bool)}{op:BinOp}{t t':Nat}{x y:Operand}{k:IntKind}{a b:Int}{v:Value}(hx:aev τ x=.v (.int k a))(hy:aev τ y=.v (.int k b))(h:Wh k op a b=some v):LOp P ⟨d,.binOp op t x y t',ty,pos,af,g⟩ τ η [] [] (.v v):=by
 refine .look [] fun C ac hg ha _=>⟨v,?_,VR.v C v⟩;have e1:=ha x (by simp[Op.operands])
 have e2:=ha y (by simp[Op.operands]);rw[hx]at e1;rw[hy]at e2;have e1':=e1.v_inv
 have e2':=e2.v_inv;have hb:∀w:World,(eqGuard op t x y (.int k a) (.int k b)).run P w=.ok () w:=by intro w;unfold eqGuard;split<;>rfl
 have hk:¬(k≠k):=fun h=>h rfl;unfold Wh at h;split at h
 all_goals first
  |(cases h;done)
  |(
   have h':=Option.some.inj h
   subst h'
   simp only[execOp,e1',e2',Sem.run_bind,hb,ahb]
   first
    |(simp only[binOp,hk,if_false,Op.intArith,ahc,ahb];done)
    |(rw[Sv];simp only[binOp,hk,if_false,Op.intCmp,ahc,ahb];done)
    |(rw[K1];simp only[binOp,hk,if_false,Op.intCmp,ahc,ahb];done)
    |(rw[L0];simp only[binOp,hk,if_false,Op.intCmp,ahc,ahb];done)
    |(rw[L0];simp only[binOp,hk,if_false,Op.intCmp,ahc,ahb];rfl))
def Vy(P:Program)(t:Nat):Option IntKind:=match P.underlying t with
 |some (.int k)=>some k
 |_=>none
def aat(s t:Option IntKind)(x:Operand)(slow:ESX->Option Rx)(E:ESX):Option Rx:=match s with
 |none=>slow E
 |some _=>match t with
  |none=>slow E
  |some k=>match yj x E with
   |.v (.int _ n)=>some (js E (.v (.int k (k.wrap n))))
   |_=>slow E
def aen(P:Program)(ats:Array TypeId):Bool:=match ats[0]? with
 |some t=>match P.underlying t with
  |some (.slice _)=>true
  |_=>false
 |none=>false
def lenK(sl:Bool)(x:Operand)(slow:ESX->Option Rx)(E:ESX):Option Rx:=bif sl then(match yj x E with
 |.tree n rows=>some (js E (.v (.int .i64 (rows.length:Int))))
 |.sl id ver off len=>match ii (be E.h) id ver with
  |some _=>qi E id (.v (.int .i64 (len:Int)))
  |none=>none
 |_=>slow E)else slow E
def aab(x:Operand)(i:Nat)(slow:ESX->Option Rx)(E:ESX):Option Rx:=match yj x E with
 |.tup cs=>match cs[i]? with
  |some v=>some (js E v)
  |none=>none
 |_=>slow E
def R4(sz:Option Nat)(x y:Operand)(E:ESX):Option Rx:=match sz with
 |none=>none
 |some n=>match yj x E with
  |.ptr id ver o=>match ii (be E.h) id ver with
   |none=>none
   |some b=>match ji (yj y E)with
    |none=>none
    |some vs=>bif Nat.beq vs.length n&&vs.all AV.one&&Nat.ble (id+1) E.u then
     (match ue o b.cs vs with
     |some ds=>match Tri.set 24 E.h id (some ⟨b.ver,ds,b.esz,b.nilp⟩)with
      |some h=>some ⟨Nat.shiftLeft 1 id,Nat.shiftLeft 1 id,E.u,E.u,h,.v undef⟩
      |none=>none
     |none=>none)
     else none
  |_=>none
def opF(P:Program)(ov:FuncId->Bool)(ovr:d7)(call:Fe)(ext:ct)(o:Oper):ESX->Option Rx:=match o.op with
 |.move x=>Pv x
 |.assign x=>Pv x
 |.pick c x y=>Y4 c x y
 |.binOp op _ x y _=>Lz op x y (agi op x y (opX P ov ovr call ext o))
 |.load t x=>Zo (ej P t) x
 |.fieldAddr t x i=>faK (dx P t i) x
 |.indexAddr t x i=>iaK (Tl P t) x i (opX P ov ovr call ext o)
 |.convert s t x=>aat (Vy P s) (Vy P t) x (opX P ov ovr call ext o)
 |.extract x i=>aab x i (opX P ov ovr call ext o)
 |.store t x y=>R4 (ao P t) x y
 |.call ⟨.builtin .len,⟨[x]⟩,ats⟩=>lenK (aen P ats) x (opX P ov ovr call ext o)
 |_=>opX P ov ovr call ext o
section
variable{P:Program}{o:Oper}{E:ESX}
theorem l5{id:Nat}{v:AV}{r:Rx}(h:qi E id v=some r)(hL:LOp P o (bf E.t) (be E.h) [id] [] v):r.u0=E.u/\Fits (be E.h) r.rc/\rq P o (bf E.t) (be E.h) r.rc:=by
 unfold qi at h
 cases hb:Nat.ble (id+1) E.u with
 |false=>rw[hb]at h;simp at h
 |true=>
  rw[hb]at h
  simp only[cond_true,agv]at h
  subst h
  have hF:∀i,(Nat.shiftLeft 1 id).testBit i=true↔i=id:=fun i=>wt
  refine⟨rfl,⟨ag7 _,fun i _=>rfl,fun i hi=>?_,fun i hi=>?_⟩,?_⟩
  ·have:(0:Nat).testBit i=true:=hi
   simp at this
  ·have:=(hF i).1 hi
   subst this
   exact ag9 hb
  ·have:=hL.toX (u:=E.u)
   have e:fv [id]=Nat.shiftLeft 1 id:=by simp[fv]
   rw[e]at this
   exact this
end
theorem ye{P:Program}{ov:FuncId->Bool}{ovr:d7}{call:Fe}{ext:ct}(ho:∀f ys ret,ovr f ys=some ret->b8 P f ys ret)(hc:call.Ok P)(he:ext.Ok P):ct.Ok P (opF P ov ovr call ext):=by
 intro o E r hl h
 have slow:∀r,opX P ov ovr call ext o E=some r->r.u0=E.u/\Fits (be E.h) r.rc/\rq P o (bf E.t) (be E.h) r.rc:=fun r h=>Zb ho hc he o E r hl h
 obtain⟨d,op,ty,pos,af,g⟩:=o
 unfold opF at h
 simp only at h
 split at h
 ·simp only[Pv,dc,agv]at h;subst h;exact dh (LOp.move _)
 ·simp only[Pv,dc,agv]at h;subst h;exact dh (LOp.assign _)
 ·unfold Y4 at h
  split at h
  ·rename_i hh
   rw[dc]at hh
   simp only[dc,agv]at h;subst h;exact dh (Ez hh rfl rfl)
  ·rename_i hh
   rw[dc]at hh
   simp only[dc,agv]at h;subst h;exact dh (Fa hh rfl rfl)
  ·cases h
 ·rename_i bop t x y t'
  have slowG:∀r,agi bop x y (opX P ov ovr call ext ⟨d,.binOp bop t x y t',ty,pos,af,g⟩) E=some r->r.u0=E.u/\Fits (be E.h) r.rc/\rq P ⟨d,.binOp bop t x y t',ty,pos,af,g⟩ (bf E.t) (be E.h) r.rc:=by
   intro r h
   unfold agi at h
   split at h
   ·rename_i k a hx
    split at h
    ·rename_i k' b hy
     cases hk:Uw k k' with
     |false=>rw[hk]at h;exact slow _ h
     |true=>
      rw[hk]at h
      simp only[cond_true]at h
      obtain rfl:=O3 hk
      split at h
      ·rename_i v hv
       simp only[agv]at h
       subst h
       rw[dc]at hx hy
       exact dh (Qz hx hy hv)
      ·exact slow _ h
    ·exact slow _ h
   ·exact slow _ h
  unfold Lz at h
  split at h
  ·rename_i a hx
   split at h
   ·rename_i b hy
    split at h
    ·rename_i v hv
     simp only[agv]at h
     subst h
     rw[dc]at hx hy
     refine dh (Ah ?_)
     simp only[Ip,hx,hy,hv]
    ·exact slowG _ h
   ·exact slowG _ h
  ·exact slowG _ h
 ·rename_i t x
  unfold Zo at h
  split at h
  ·cases h
  ·rename_i hr
   split at h
   ·rename_i id ver o hx
    rw[dc]at hx
    split at h
    ·cases h
    ·rename_i b hb
     obtain⟨h1,h2,h3⟩:=ca hb
     split at h
     ·rename_i v hv
      exact l5 h (lD hr hx h1 h2 h3 hv)
     ·cases h
   ·rename_i cs o hx
    rw[dc]at hx
    split at h
    ·rename_i v hv
     simp only[agv]at h
     subst h
     exact dh (lE hr hx hv)
    ·cases h
   ·cases h
  ·rename_i n hr
   split at h
   ·rename_i id ver o hx
    rw[dc]at hx
    split at h
    ·cases h
    ·rename_i b hb
     obtain⟨h1,h2,h3⟩:=ca hb
     split at h
     ·rename_i v hv
      exact l5 h (Fb hr hx h1 h2 h3 hv)
     ·cases h
   ·rename_i cs o hx
    rw[dc]at hx
    split at h
    ·rename_i v hv
     simp only[agv]at h
     subst h
     exact dh (Av hr hx hv)
    ·cases h
   ·cases h
 ·rename_i t x i
  unfold faK at h
  split at h
  ·cases h
  ·rename_i off sz hf
   cases hz:Nat.beq sz 0 with
   |true=>rw[hz]at h;simp at h
   |false=>
    rw[hz]at h
    simp only[cond_false]at h
    split at h
    ·rename_i id ver o hx
     rw[dc]at hx
     split at h
     ·cases h
     ·rename_i b hb
      obtain⟨h1,h2,h3⟩:=ca hb
      exact l5 h (lF hf hz hx h1 h2 h3)
    ·rename_i cs o hx
     rw[dc]at hx
     simp only[agv]at h
     subst h
     exact dh (lr hf hz hx)
    ·cases h
 ·rename_i t x i
  unfold iaK at h
  split at h
  ·exact slow _ h
  ·rename_i n hn
   unfold Tl at hn
   split at hn
   ·rename_i e hu
    split at h
    ·rename_i k j hi
     rw[dc]at hi
     split at h
     ·rename_i m rows hx
      rw[dc]at hx
      cases hc:Nat.beq m n with
      |false=>rw[hc]at h;simp at h
      |true=>
       rw[hc]at h
       simp only[cond_true]at h
       obtain rfl:=agu hc
       split at h
       ·rename_i row hm
        simp only[agv]at h
        subst h
        obtain⟨hj,e⟩:=ahl.1 hm
        subst e
        exact dh (lI (f:=fun a=>a) (l:=rows) hu hn (by rw[hx];simp) hi hj)
       ·cases h
     ·rename_i id ver off len hx
      rw[dc]at hx
      cases hc:Nat.ble (j+1) len with
      |false=>rw[hc]at h;simp at h
      |true=>
       rw[hc]at h
       simp only[cond_true]at h
       split at h
       ·rename_i b hb
        obtain⟨h1,h2,h3⟩:=ca hb
        cases hz:Nat.beq b.esz n with
        |false=>rw[hz]at h;simp at h
        |true=>
         rw[hz]at h
         simp only[cond_true]at h
         exact l5 h (mg hu hn hx hi (ag9 hc) h1 h2 h3 (agu hz))
       ·cases h
     ·cases h
    ·cases h
   ·cases hn
 ·rename_i s t x
  unfold aat at h
  split at h
  ·exact slow _ h
  ·rename_i k0 hs
   split at h
   ·exact slow _ h
   ·rename_i k ht
    split at h
    ·rename_i k1 n hx
     simp only[agv]at h
     subst h
     rw[dc]at hx
     unfold Vy at hs ht
     split at hs
     ·rename_i ks hq
      split at ht
      ·rename_i kt hw
       simp only[agv]at hs ht
       subst hs ht
       refine dh (.look [] fun C a hg g0 _=>⟨_,?_,VR.v C _⟩)
       have e1:=g0 x (by simp[Op.operands])
       rw[hx]at e1
       simp only[execOp,e1.v_inv,convert,Sem.run_bind,run_underlying hq,run_underlying hw,ahb,Conv.intToInt,ahc]
      ·cases ht
     ·cases hs
    ·exact slow _ h
 ·rename_i x i
  unfold aab at h
  split at h
  ·rename_i cs hx
   rw[dc]at hx
   split at h
   ·rename_i v hv
    simp only[agv]at h
    subst h
    exact dh (LOp.extract hx hv)
   ·cases h
  ·exact slow _ h
 ·rename_i t x y
  unfold R4 at h
  split at h
  ·cases h
  ·rename_i n hs
   split at h
   ·rename_i id ver o hx
    rw[dc]at hx
    split at h
    ·cases h
    ·rename_i b hb
     obtain⟨h1,h2,h3⟩:=ca hb
     split at h
     ·cases h
     ·rename_i vs hv
      rw[dc]at hv
      cases hc:(Nat.beq vs.length n&&vs.all AV.one&&Nat.ble (id+1) E.u)with
      |false=>rw[hc]at h;simp at h
      |true=>
       rw[hc]at h
       simp only[cond_true]at h
       simp only[ahq]at hc
       split at h
       ·rename_i ds hd
        split at h
        ·rename_i h' hp
         simp only[agv]at h
         subst h
         have hL:LOp P ⟨d,.store t x y,ty,pos,af,g⟩ (bf E.t) (be E.h) [id] [(id,some ⟨b.ver,ds,b.esz,b.nilp⟩)] (.v undef):=
          LOp.st (w:=b.ver) (np:=b.nilp) (cs:=b.cs) (ez:=b.esz) hs hx h1 h2 h3 hv (agu hc.1.1) hc.1.2 hd
         have e:be h'=(be E.h).set id (some ⟨b.ver,ds,b.esz,b.nilp⟩):=lx hp
         have g1:fv [id]=Nat.shiftLeft 1 id:=by simp[fv]
         refine⟨rfl,⟨ag7 _,fun i hi=>?_,fun i hi=>hi,fun i hi=>?_⟩,?_⟩
         ·show be h' i=_
          rw[e]
          have:i≠id:=fun e=>by
           subst e
           have h2:=hi
           rw[show Rc.D (Rx.rc ⟨Nat.shiftLeft 1 i,Nat.shiftLeft 1 i,E.u,E.u,h',.v undef⟩) i=true from Rc.D_iff.2 (.inl (wt.2 rfl))]at h2
           cases h2
          rw[am _ _ this]
         ·have:(Nat.shiftLeft 1 id).testBit i=true:=hi
          rw[wt]at this
          subst this
          exact ag9 hc.2
         ·have:=hL.toX_old (u:=E.u) (by simp)
          rw[g1]at this
          show rq P _ (bf E.t) (be E.h) ⟨Nat.shiftLeft 1 id,Nat.shiftLeft 1 id,E.u,E.u,be h',.v undef⟩
          rw[e]
          exact this
        ·cases h
       ·cases h
   ·cases h
 ·rename_i x ats
  unfold lenK at h
  cases ha:aen P ats with
  |false=>rw[ha]at h;exact slow _ h
  |true=>
   rw[ha]at h
   simp only[cond_true]at h
   unfold aen at ha
   split at ha
   ·rename_i t ht
    split at ha
    ·rename_i e hu
     split at h
     ·rename_i n rows hx
      simp only[agv]at h
      subst h
      rw[dc]at hx
      exact dh (lT (n:=n) (f:=fun a=>a) (l:=rows) ht hu (by rw[hx];simp))
     ·rename_i id ver off len hx
      rw[dc]at hx
      split at h
      ·rename_i b hb
       obtain⟨h1,h2,h3⟩:=ca hb
       exact l5 h (cd ht hu hx h1 h2)
      ·cases h
     ·exact slow _ h
    ·cases ha
   ·cases ha
 ·exact slow _ h
end Go.Proofs.YtbhhmbchdponjaaGreatDoor
