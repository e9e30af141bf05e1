/- Texts of the claim. -/
import Derived.Test.YthpangmpihkniaaGreatDoorE1
namespace Go.Proofs.YthpangmpihkniaaGreatDoor
set_option linter.unusedVariables false
set_option linter.unusedSimpArgs false
open Go.RowKit
section
variable {P:Program} {τ:Nat->AV} {η:au} {d:Option Tmp} {ty:TypeId} {pos:String} {af:Array Edge} {g:Option (Nat×Bool)}
theorem dy {w:World} {r:Nat} {es:Array MapEntry} {clock:Nat} (h:w.heap[r]? = some (.map es clock)):(getObj r).run P w=.ok (.map es clock) w:=by
 simp [getObj,Sem.run,h]
theorem ej {w:World} {r:Nat} {o o':Obj} (h:w.heap[r]? = some o) (hn:∀ c t f,o≠.cells c t f):(setObj r o').run P w=.ok () { w with heap:=w.heap.setIfInBounds r o' }:=by
 unfold setObj
 unfold Sem.run
 rw [h]
 cases o <;> first | rfl | (exact absurd rfl (hn _ _ _))
theorem vx {w:World} {o:Obj}:(newObj o).run P w=.ok w.heap.size (w.alloc o):=rfl
/-- What is known of a map that is at hand. -/
theorem tw {C:Ctx} (hg:Good C) {id ver clock:Nat} {b:Blk} {es:List (Value×AV×Nat)} (hb:C.η id=some b) (he:b=bn ver b.esz clock es) :
  ∃ entries,C.w.heap[(C.ρ id).1]? = some (.map entries clock)/\es.length=entries.size/\∀ i (h:i < es.length) (h':i < entries.size),entries[i].key=es[i].1/\VR C es[i].2.1 entries[i].val/\entries[i].born=es[i].2.2:=by
 have hk:b.kind=2:=by rw [he]; rfl
 obtain ⟨o,h1,h2⟩:=hg.obj hb hk
 have hcs:b.cs=jm clock es:=by rw [he]; rfl
 rw [hcs] at h2
 obtain ⟨entries,rfl,h3,h4⟩:=h2.map_inv
 exact ⟨entries,h1,h3,h4⟩
theorem LOp.makeMap (u:Nat) {t:Nat}:LOp P ⟨d,.makeMap t none,ty,pos,af,g⟩ τ η [] [(u,some (bn 0 0 0 []))] (.mp u 0):=by
 intro C a hg hxs _ hnew K Q hK
 have hu:¬ C.U u:=hnew (u,some (bn 0 0 0 [])) (by simp) (by simp)
 have hrun:(execOp a.eval ⟨d,.makeMap t none,ty,pos,af,g⟩).run P C.w=.ok (.value (.map (some C.w.heap.size))) (C.w.alloc (.map #[] 0)):=rfl
 unfold Oper.wp
 rw [hrun]
 have hob:ObjR C (bn 0 0 0 []).cs (.map #[] 0):=ObjR.map (es:=[]) rfl (fun i h=>absurd h (by simp))
 refine hK _ (C.allocO u (.map #[] 0) (bn 0 0 0 [])) rfl (fun i=>by simp [Ctx.allocO]) (m5 hg hu rfl hob) (lm hg hu) ?_
 have:=VR.mp (C:=C.allocO u (.map #[] 0) (bn 0 0 0 [])) (id:=u) (ver:=0) (ae _ _ _) rfl rfl
 have e:((C.allocO u (.map #[] 0) (bn 0 0 0 [])).ρ u).1=C.w.heap.size:=by simp [Ctx.allocO]
 rw [e] at this
 exact this
def H5 (P:Program) (τ:Nat->AV) (η:au) (u t:Nat) (x i:Operand) (ok:Bool):Option Rec :=
 match P.underlying t with
 | some (.map kt et)=>match aev τ i with
  | .v k=>match ax P et with
   | none=>none
   | some z=>match aev τ x with
    | .mp id ver=>match nv η id ver with
     | none=>none
     | some (b,clock,es)=>match sd P kt k es with
      | none=>none
      | some none=>some ⟨[id],[],bif ok then .tup [.v z,.v (.bool false)] else .v z,u⟩
      | some (some j)=>match es[j]? with
       | none=>none
       | some e=>some ⟨[id],[],bif ok then .tup [e.2.1,.v (.bool true)] else e.2.1,u⟩
    | .v (.map none)=>match sd P kt k [] with
     | some none=>some ⟨[],[],bif ok then .tup [.v z,.v (.bool false)] else .v z,u⟩
     | _=>none
    | _=>none
  | _=>none
 | _=>none
theorem VR.pair {C:Ctx} {a b:AV} {x y:Value} (h1:VR C a x) (h2:VR C b y):VR C (.tup [a,b]) (.tuple #[x,y]):=by
 refine .tup rfl (fun i h h'=>?_)
 match i,h with
 | 0,_=>exact h1
 | 1,_=>exact h2
theorem ja {t:Nat} {z:Value} (hz:ax P t=some z) (w:World):(zeroValue t).run P w=.ok z w:=by
 unfold ax at hz
 cases hi:P.info? t with
 | none=>rw [hi] at hz; cases hz
 | some inf=>
  rw [hi] at hz
  simp only [Option.bind_some] at hz
  simp only [zeroValue,typeInfo,Sem.run_bind,run_program,hi,Sem.run_pure,Result.andThen_ok,hz]
theorem qu {es:List (Value×AV×Nat)} {entries:Array MapEntry} (hl:es.length=entries.size):entries.isEmpty=es.isEmpty:=by
 cases es with
 | nil=>simp only [List.length_nil] at hl; simp [Array.isEmpty,<- hl]
 | cons e l=>
  simp only [List.length_cons] at hl
  simp [Array.isEmpty,<- hl]
theorem xq {u t:Nat} {x i:Operand} {ok:Bool} {r:Rec} (h:H5 P τ η u t x i ok=some r):LOp P ⟨d,.lookup t x i ok,ty,pos,af,g⟩ τ η r.fp r.δ r.v:=by
 unfold H5 at h
 split at h
 ·rename_i kt et hu
  split at h
  ·rename_i k hk
   split at h
   ·cases h
   ·rename_i z hz
    split at h
    ·rename_i id ver hx
     split at h
     ·cases h
     ·rename_i b clock es hb
      obtain ⟨hb1,hb2⟩:=gp hb
      have main:∀ (v:AV) (jr:Option Nat),sd P kt k es=some jr->(jr=none->v=.v z)->(∀ j,jr=some j->∃ e,es[j]? = some e/\v=e.2.1) ->
        LOp P ⟨d,.lookup t x i ok,ty,pos,af,g⟩ τ η [id] [] (bif ok then .tup [v,.v (.bool jr.isSome)] else v):=by
       intro v jr hf h0 h1
       refine .look [id] fun C a hg hxs hfp=>?_
       have hbC:C.η id=some b:=(hfp id (by simp)).trans hb1
       have e1:=hxs x (by simp [Op.operands])
       have e2:=hxs i (by simp [Op.operands])
       rw [hx] at e1
       rw [hk] at e2
       have e1':=e1.mp_inv hbC (by rw [hb2]; rfl)
       have e2':=e2.v_inv
       obtain ⟨entries,g1,g2,g3⟩:=tw hg hbC hb2
       obtain ⟨c1,c2⟩:=jx g2 g3 hf C.w
       have c1':=(c1 entries.isEmpty).resolve_right (by rw [qu g2]; simp)
       rcases c2 with ⟨rfl,hr⟩ | ⟨j,rfl,hj,hr⟩
       ·refine ⟨if ok then .tuple #[z,.bool false] else z,by simp only [execOp,e1',e2',Instr.lookup,Sem.run_bind,run_underlying hu,Result.andThen_ok,dy g1,Sem.run_pure,c1',hr,ja hz],?_⟩
        rw [h0 rfl]
        cases ok with
        | true=>exact VR.pair (VR.v C _) (VR.v C _)
        | false=>exact VR.v C _
       ·obtain ⟨e,he,rfl⟩:=h1 j rfl
        obtain ⟨hj',rfl⟩:=List.getElem?_eq_some_iff.1 he
        refine ⟨if ok then .tuple #[entries[j].val,.bool true] else entries[j].val,by simp only [execOp,e1',e2',Instr.lookup,Sem.run_bind,run_underlying hu,Result.andThen_ok,dy g1,Sem.run_pure,c1',hr],?_⟩
        have hv:=(g3 j hj' hj).2.1
        cases ok with
        | true=>exact VR.pair hv (VR.v C _)
        | false=>exact hv
      split at h
      ·cases h
      ·rename_i hf
       simp only [Zh] at h
       subst h
       exact main (.v z) none hf (fun _=>rfl) (fun j hj=>by cases hj)
      ·rename_i j hf
       split at h
       ·cases h
       ·rename_i e he
        simp only [Zh] at h
        subst h
        exact main e.2.1 (some j) hf (fun hj=>by cases hj) (fun j' hj=>by cases hj; exact ⟨e,he,rfl⟩)
    ·rename_i hx
     split at h
     ·rename_i hf
      simp only [Zh] at h
      subst h
      refine .look [] fun C a hg hxs hfp=>?_
      have e1:=hxs x (by simp [Op.operands])
      have e2:=hxs i (by simp [Op.operands])
      rw [hx] at e1
      rw [hk] at e2
      have e1':=e1.v_inv
      have e2':=e2.v_inv
      obtain ⟨c1,c2⟩:=jx (C:=C) (es:=[]) (entries:=#[]) rfl (fun i h=>absurd h (by simp)) hf C.w
      have c1':=(c1 true).resolve_right (by simp)
      have hr:(Instr.findKey kt k []).run P C.w=.ok none C.w:=by
       rcases c2 with ⟨_,hr⟩ | ⟨j,hj,_⟩
       ·exact hr
       ·cases hj
      refine ⟨if ok then .tuple #[z,.bool false] else z,?_,?_⟩
      ·simp only [execOp,e1',e2',Instr.lookup,Sem.run_bind,run_underlying hu,Result.andThen_ok,Sem.run_pure]
       have e0:(#[]:Array MapEntry).isEmpty=true:=rfl
       simp only [e0,c1',hr,Result.andThen_ok,Sem.run_bind,ja hz,Sem.run_pure]
      ·cases ok with
       | true=>exact VR.pair (VR.v C _) (VR.v C _)
       | false=>exact VR.v C _
     ·cases h
    ·cases h
  ·cases h
 ·cases h
/-- An operation that writes a map anew. -/
theorem ii {o:Oper} {id ver clock clock':Nat} {b:Blk} {es es':List (Value×AV×Nat)} {v:AV} {res:Value->Next} (hb1:η id=some b) (hb2:b=bn ver b.esz clock es)
  (h:∀ (C:Ctx) (a:Act),Good C->(∀ x∈o.op.operands,VR C (aev τ x) (a.eval x))->C.η id=some b->∀ entries,C.w.heap[(C.ρ id).1]? = some (.map entries clock)->es.length=entries.size->(∀ i (h:i < es.length) (h':i < entries.size),entries[i].key=es[i].1/\VR C es[i].2.1 entries[i].val/\entries[i].born=es[i].2.2) ->
   ∃ entries' nx,(execOp a.eval o).run P C.w=.ok nx { C.w with heap:=C.w.heap.setIfInBounds (C.ρ id).1 (.map entries' clock') }/\(nx=.skip/\v=.v undef\/∃ x,nx=.value x/\VR C v x)/\es'.length=entries'.size/\(∀ i (h:i < es'.length) (h':i < entries'.size),entries'[i].key=es'[i].1/\VR C es'[i].2.1 entries'[i].val/\entries'[i].born=es'[i].2.2)) :
  LOp P o τ η [id] [(id,some (bn ver b.esz clock' es'))] v:=by
 intro C a hg hxs hfp _ K Q hK
 have hbC:C.η id=some b:=(hfp id (by simp)).trans hb1
 obtain ⟨entries,g1,g2,g3⟩:=tw hg hbC hb2
 obtain ⟨entries',nx,r1,r2,r3,r4⟩:=h C a hg hxs hbC entries g1 g2 g3
 have hk0:b.kind=2:=by rw [hb2]; rfl
 have hver:(bn ver b.esz clock' es').ver=b.ver:=by rw [hb2]; rfl
 have hesz:(bn ver b.esz clock' es').esz=b.esz:=rfl
 have hev:=lh (C:=C) (o:=.map entries' clock') (b:=bn ver b.esz clock' es') hg hbC hk0 rfl hver hesz
 have hgd:=lg (C:=C) (o:=.map entries' clock') (b:=bn ver b.esz clock' es') hg hbC hk0 rfl hver hesz (ObjR.map r3 r4)
 have hU:∀ i,(C.setO id (bn ver b.esz clock' es') (.map entries' clock')).U i↔C.U i\/i∈[(id,some (bn ver b.esz clock' es'))].map (·.1):=fun i=>by
  simp [Ctx.setO]
  rintro rfl
  exact hg.used hbC
 unfold Oper.wp
 rw [r1]
 rcases r2 with ⟨rfl,rfl⟩ | ⟨x,rfl,hx⟩
 ·exact hK undef _ rfl hU hgd hev (VR.v _ _)
 ·exact hK x _ rfl hU hgd hev (hx.mono hg hev)
def jv {α:Type}:List α->Nat->α->List α
 | [],_,_=>[]
 | _ :: l,0,a=>a :: l
 | x :: l,n+1,a=>x :: jv l n a
theorem gj {α:Type}:∀ (l:List α) (n:Nat) (a:α),(jv l n a).length=l.length
 | [],_,_=>rfl
 | _ :: l,0,a=>rfl
 | x :: l,n+1,a=>by simp [jv,gj l]
theorem m7 {α:Type}:∀ (l:List α) (n:Nat) (a:α) (i:Nat) (h:i < (jv l n a).length),(jv l n a)[i]=if i=n then a else l[i]'(by rw [gj] at h; exact h)
 | [],_,_,i,h=>absurd h (by simp [jv])
 | x :: l,0,a,0,h=>by simp [jv]
 | x :: l,0,a,i+1,h=>by simp [jv]
 | x :: l,n+1,a,0,h=>by simp [jv]
 | x :: l,n+1,a,i+1,h=>by
  have:=m7 l n a i (by simpa [jv] using h)
  simp only [jv,List.getElem_cons_succ,this]
  by_cases e:i=n <;> simp [e]
/-- m[k] = x. -/
def tz (P:Program) (τ:Nat->AV) (η:au) (u t:Nat) (m k x:Operand):Option Rec :=
 match P.underlying t with
 | some (.map kt et)=>match aev τ k with
  | .v key=>match aev τ m with
   | .mp id ver=>match nv η id ver with
    | none=>none
    | some (b,clock,es)=>match db P (Instr.checkKey false 10000 kt key) with
     | none=>none
     | some _=>match sd P kt key es with
      | none=>none
      | some none=>some ⟨[id],[(id,some (bn ver b.esz (clock+1) (es++[(key,aev τ x,clock)])))],.v undef,u⟩
      | some (some j)=>match es[j]? with
       | none=>none
       | some e=>bif Instr.sameBits 10000 e.1 key then some ⟨[id],[(id,some (bn ver b.esz clock (jv es j (key,aev τ x,e.2.2))))],.v undef,u⟩ else none
   | _=>none
  | _=>none
 | _=>none
theorem qq {u t:Nat} {m k x:Operand} {r:Rec} {op:Op} (hop:op=.mapUpdate t m k x\/op=.insert t m k x) (h:tz P τ η u t m k x=some r):LOp P ⟨d,op,ty,pos,af,g⟩ τ η r.fp r.δ r.v:=by
 unfold tz at h
 split at h
 ·rename_i kt et hu
  split at h
  ·rename_i key hk
   split at h
   ·rename_i id ver hm
    split at h
    ·cases h
    ·rename_i b clock es hb
     obtain ⟨hb1,hb2⟩:=gp hb
     split at h
     ·cases h
     ·rename_i q hq
      have hex:∀ (a:Act) (w:World),(execOp a.eval ⟨d,op,ty,pos,af,g⟩).run P w=((Instr.mapUpdate t (a.eval m) (a.eval k) (a.eval x)).run P w).andThen fun _ w=>.ok .skip w:=by
       intro a w
       rcases hop with rfl | rfl <;> simp only [execOp,Sem.run_bind] <;> rfl
      have hmem:m∈op.operands/\k∈op.operands/\x∈op.operands:=by rcases hop with rfl | rfl <;> simp [Op.operands]
      have hopr:(⟨d,op,ty,pos,af,g⟩:Oper).op.operands=op.operands:=rfl
      split at h
      ·cases h
      ·rename_i hf
       simp only [Zh] at h
       subst h
       refine ii (res:=.value) hb1 hb2 fun C a hg hxs hbC entries g1 g2 g3=>?_
       have e1:=hxs m (by rw [hopr]; exact hmem.1)
       have e2:=hxs k (by rw [hopr]; exact hmem.2.1)
       have e3:=hxs x (by rw [hopr]; exact hmem.2.2)
       rw [hm] at e1
       rw [hk] at e2
       have e1':=e1.mp_inv hbC (by rw [hb2]; rfl)
       have e2':=e2.v_inv
       obtain ⟨_,c2⟩:=jx g2 g3 hf C.w
       have hr:(Instr.findKey kt key entries.toList).run P C.w=.ok none C.w:=by
        rcases c2 with ⟨_,hr⟩ | ⟨j,hj,_⟩
        ·exact hr
        ·cases hj
       refine ⟨entries.push { key,val:=a.eval x,born:=clock },.skip,?_,.inl ⟨rfl,rfl⟩,by simp [g2],fun i h1 h2=>?_⟩
       ·rw [hex,e1',e2']
        simp only [Instr.mapUpdate,Sem.run_bind,run_underlying hu,Result.andThen_ok,dy g1,gn _ _ hq,hr,ej g1 (fun _ _ _ e=>by cases e)]
       ·by_cases hi:i < es.length
        ·have hi':i < entries.size:=by omega
         have q1:(es++[(key,aev τ x,clock)])[i]=es[i]:=List.getElem_append_left hi
         have q2:(entries.push { key,val:=a.eval x,born:=clock })[i]=entries[i]:=Array.getElem_push_lt hi'
         rw [q1,q2]
         exact g3 i hi hi'
        ·have hi2:i=es.length:=by simp at h1; omega
         subst hi2
         have q1:(es++[(key,aev τ x,clock)])[es.length]=(key,aev τ x,clock):=by simp
         have q2:(entries.push { key,val:=a.eval x,born:=clock })[es.length]={ key,val:=a.eval x,born:=clock }:=by simp [g2]
         rw [q1,q2]
         exact ⟨rfl,e3,rfl⟩
      ·rename_i j hf
       split at h
       ·cases h
       ·rename_i e he
        cases hs:Instr.sameBits 10000 e.1 key with
        | false=>rw [hs] at h; simp at h
        | true=>
         rw [hs] at h
         simp only [cond_true,Zh] at h
         subst h
         refine ii (res:=.value) hb1 hb2 fun C a hg hxs hbC entries g1 g2 g3=>?_
         have e1:=hxs m (by rw [hopr]; exact hmem.1)
         have e2:=hxs k (by rw [hopr]; exact hmem.2.1)
         have e3:=hxs x (by rw [hopr]; exact hmem.2.2)
         rw [hm] at e1
         rw [hk] at e2
         have e1':=e1.mp_inv hbC (by rw [hb2]; rfl)
         have e2':=e2.v_inv
         obtain ⟨_,c2⟩:=jx g2 g3 hf C.w
         obtain ⟨hj',rfl⟩:=List.getElem?_eq_some_iff.1 he
         have hj:j < entries.size:=by omega
         have hr:(Instr.findKey kt key entries.toList).run P C.w=.ok (some (j,entries[j].val)) C.w:=by
          rcases c2 with ⟨hh,_⟩ | ⟨j',hh,_,hr⟩
          ·cases hh
          ·cases hh; exact hr
         refine ⟨entries.modify j fun e=>{ e with key,val:=a.eval x },.skip,?_,.inl ⟨rfl,rfl⟩,by rw [gj]; simp [g2],fun i h1 h2=>?_⟩
         ·have hkey:((entries[j]?).map (·.key)).getD key=es[j].1:=by
           rw [Array.getElem?_eq_getElem hj]
           exact (g3 j hj' hj).1
          have hstay:∀ w:World,(Instr.keyThatStays (((entries[j]?).map (·.key)).getD key) key).run P w=.ok key w:=fun w=>by
           rw [hkey]
           simp only [Instr.keyThatStays,hs,if_true]
           rfl
          rw [hex,e1',e2']
          simp only [Instr.mapUpdate,Sem.run_bind,run_underlying hu,Result.andThen_ok,dy g1,gn _ _ hq,hr,hstay,ej g1 (fun _ _ _ e=>by cases e)]
         ·have h1':i < es.length:=by rw [gj] at h1; exact h1
          have h2':i < entries.size:=by simpa using h2
          rw [m7,Array.getElem_modify]
          by_cases hij:i=j
          ·subst hij
           simp only [if_true]
           exact ⟨trivial,e3,(g3 i hj' hj).2.2⟩
          ·rw [if_neg hij,if_neg (fun e=>hij e.symm)]
           exact g3 i h1' h2'
   ·cases h
  ·cases h
 ·cases h
end
section
variable {P:Program} {τ:Nat->AV} {η:au} {d:Option Tmp} {ty:TypeId} {pos:String} {af:Array Edge} {g:Option (Nat×Bool)}
/-- The entry of a key, and its stamp. -/
def Be (P:Program) (τ:Nat->AV) (η:au) (u t:Nat) (m k:Operand):Option Rec :=
 match P.underlying t with
 | some (.map kt et)=>match aev τ k with
  | .v key=>match ax P et with
   | none=>none
   | some z=>match aev τ m with
    | .mp id ver=>match nv η id ver with
     | none=>none
     | some (b,clock,es)=>match db P (Instr.checkKey false 10000 kt key) with
      | none=>none
      | some _=>match sd P kt key es with
       | none=>none
       | some none=>some ⟨[id],[(id,some (bn ver b.esz (clock+1) (es++[(key,.v z,clock)])))],.tup [.v z,.v (goInt clock)],u⟩
       | some (some j)=>match es[j]? with
        | none=>none
        | some e=>bif Instr.sameBits 10000 e.1 key then some ⟨[id],[(id,some (bn ver b.esz clock (jv es j (key,e.2.1,e.2.2))))],.tup [e.2.1,.v (goInt e.2.2)],u⟩ else none
    | _=>none
  | _=>none
 | _=>none
theorem Et {u t:Nat} {m k:Operand} {r:Rec} (h:Be P τ η u t m k=some r):LOp P ⟨d,.mapEntry t m k,ty,pos,af,g⟩ τ η r.fp r.δ r.v:=by
 unfold Be at h
 split at h
 ·rename_i kt et hu
  split at h
  ·rename_i key hk
   split at h
   ·cases h
   ·rename_i z hz
    split at h
    ·rename_i id ver hm
     split at h
     ·cases h
     ·rename_i b clock es hb
      obtain ⟨hb1,hb2⟩:=gp hb
      split at h
      ·cases h
      ·rename_i q hq
       have hex:∀ (a:Act) (w:World),(execOp a.eval ⟨d,.mapEntry t m k,ty,pos,af,g⟩).run P w=((Instr.mapEntry t (a.eval m) (a.eval k)).run P w).andThen fun x w=>.ok (.value x) w:=by
        intro a w
        simp only [execOp,Sem.run_bind]
        rfl
       split at h
       ·cases h
       ·rename_i hf
        simp only [Zh] at h
        subst h
        refine ii (res:=.value) hb1 hb2 fun C a hg hxs hbC entries g1 g2 g3=>?_
        have e1:=hxs m (by simp [Op.operands])
        have e2:=hxs k (by simp [Op.operands])
        rw [hm] at e1
        rw [hk] at e2
        have e1':=e1.mp_inv hbC (by rw [hb2]; rfl)
        have e2':=e2.v_inv
        obtain ⟨_,c2⟩:=jx g2 g3 hf C.w
        have hr:(Instr.findKey kt key entries.toList).run P C.w=.ok none C.w:=by
         rcases c2 with ⟨_,hr⟩ | ⟨j,hj,_⟩
         ·exact hr
         ·cases hj
        refine ⟨entries.push { key,val:=z,born:=clock },.value (.tuple #[z,goInt clock]),?_,.inr ⟨_,rfl,VR.pair (VR.v C _) (VR.v C _)⟩,by simp [g2],fun i h1 h2=>?_⟩
        ·rw [hex,e1',e2']
         simp only [Instr.mapEntry,Sem.run_bind,run_underlying hu,Result.andThen_ok,dy g1,gn _ _ hq,hr,ja hz,ej g1 (fun _ _ _ e=>by cases e),Sem.run_pure]
        ·by_cases hi:i < es.length
         ·have hi':i < entries.size:=by omega
          have q1:(es++[(key,AV.v z,clock)])[i]=es[i]:=List.getElem_append_left hi
          have q2:(entries.push { key,val:=z,born:=clock })[i]=entries[i]:=Array.getElem_push_lt hi'
          rw [q1,q2]
          exact g3 i hi hi'
         ·have hi2:i=es.length:=by simp at h1; omega
          subst hi2
          have q1:(es++[(key,AV.v z,clock)])[es.length]=(key,AV.v z,clock):=by simp
          have q2:(entries.push { key,val:=z,born:=clock })[es.length]={ key,val:=z,born:=clock }:=by simp [g2]
          rw [q1,q2]
          exact ⟨rfl,VR.v C _,rfl⟩
       ·rename_i j hf
        split at h
        ·cases h
        ·rename_i e he
         cases hs:Instr.sameBits 10000 e.1 key with
         | false=>rw [hs] at h; simp at h
         | true=>
          rw [hs] at h
          simp only [cond_true,Zh] at h
          subst h
          refine ii (res:=.value) hb1 hb2 fun C a hg hxs hbC entries g1 g2 g3=>?_
          have e1:=hxs m (by simp [Op.operands])
          have e2:=hxs k (by simp [Op.operands])
          rw [hm] at e1
          rw [hk] at e2
          have e1':=e1.mp_inv hbC (by rw [hb2]; rfl)
          have e2':=e2.v_inv
          obtain ⟨_,c2⟩:=jx g2 g3 hf C.w
          obtain ⟨hj',rfl⟩:=List.getElem?_eq_some_iff.1 he
          have hj:j < entries.size:=by omega
          have hr:(Instr.findKey kt key entries.toList).run P C.w=.ok (some (j,entries[j].val)) C.w:=by
           rcases c2 with ⟨hh,_⟩ | ⟨j',hh,_,hr⟩
           ·cases hh
           ·cases hh; exact hr
          refine ⟨entries.modify j fun e=>{ e with key },.value (.tuple #[entries[j].val,goInt entries[j].born]),?_,.inr ⟨_,rfl,?_⟩,by rw [gj]; simp [g2],fun i h1 h2=>?_⟩
          ·have hkey:((entries[j]?).map (·.key)).getD key=es[j].1:=by
            rw [Array.getElem?_eq_getElem hj]
            exact (g3 j hj' hj).1
           have hborn:((entries[j]?).map (fun x=>(x.born:Int))).getD 0=(entries[j].born:Int):=by
            rw [Array.getElem?_eq_getElem hj]; rfl
           have hstay:∀ w:World,(Instr.keyThatStays (((entries[j]?).map (·.key)).getD key) key).run P w=.ok key w:=fun w=>by
            rw [hkey]
            simp only [Instr.keyThatStays,hs,if_true]
            rfl
           rw [hex,e1',e2']
           simp only [Instr.mapEntry,Sem.run_bind,run_underlying hu,Result.andThen_ok,dy g1,gn _ _ hq,hr,hstay,hborn,ej g1 (fun _ _ _ e=>by cases e),Sem.run_pure]
          ·refine VR.pair (g3 j hj' hj).2.1 ?_
           rw [(g3 j hj' hj).2.2]
           exact VR.v C _
          ·have h1':i < es.length:=by rw [gj] at h1; exact h1
           have h2':i < entries.size:=by simpa using h2
           rw [m7,Array.getElem_modify]
           by_cases hij:i=j
           ·subst hij
            simp only [if_true]
            exact ⟨trivial,(g3 i hj' hj).2.1,(g3 i hj' hj).2.2⟩
           ·rw [if_neg hij,if_neg (fun e=>hij e.symm)]
            exact g3 i h1' h2'
    ·cases h
  ·cases h
 ·cases h
/-- The place of a stamp. -/
def D1 (n:Nat):List (Value×AV×Nat)->Nat->Option Nat
 | [],_=>none
 | e :: l,i=>bif Nat.beq e.2.2 n then some i else D1 n l (i+1)
theorem Af {n:Nat}:∀ (l:List (Value×AV×Nat)) (i0 i:Nat),D1 n l i0=some i->∃ j e,i=i0+j/\l[j]? = some e/\e.2.2=n/\∀ k e',k < j->l[k]? = some e'->e'.2.2≠n
 | [],_,_,h=>by cases h
 | e :: l,i0,i,h=>by
  simp only [D1] at h
  cases hb:Nat.beq e.2.2 n with
  | true=>
   rw [hb] at h
   simp only [cond_true,Zh] at h
   exact ⟨0,e,by omega,rfl,Zg hb,fun k e' hk=>by omega⟩
  | false=>
   rw [hb] at h
   simp only [cond_false] at h
   obtain ⟨j,e1,h1,h2,h3,h4⟩:=Af l (i0+1) i h
   refine ⟨j+1,e1,by omega,by simpa using h2,h3,fun k e' hk he'=>?_⟩
   cases k with
   | zero=>
    simp only [List.getElem?_cons_zero,Zh] at he'
    subst he'
    exact fun e=>by rw [e,Nat.beq_refl] at hb; cases hb
   | succ k=>exact h4 k e' (by omega) (by simpa using he')
def uo (P:Program) (τ:Nat->AV) (η:au) (u t:Nat) (m s x:Operand):Option Rec :=
 match aev τ s with
 | .v (.int k (.ofNat n))=>match aev τ m with
  | .mp id ver=>match nv η id ver with
   | none=>none
   | some (b,clock,es)=>match D1 n es 0 with
    | none=>none
    | some j=>match es[j]? with
     | none=>none
     | some e=>some ⟨[id],[(id,some (bn ver b.esz clock (jv es j (e.1,aev τ x,e.2.2))))],.v undef,u⟩
  | _=>none
 | _=>none
theorem Aa {u t:Nat} {m s x:Operand} {r:Rec} (h:uo P τ η u t m s x=some r):LOp P ⟨d,.entryStore t m s x,ty,pos,af,g⟩ τ η r.fp r.δ r.v:=by
 unfold uo at h
 split at h
 ·rename_i kk n hs
  split at h
  ·rename_i id ver hm
   split at h
   ·cases h
   ·rename_i b clock es hb
    obtain ⟨hb1,hb2⟩:=gp hb
    split at h
    ·cases h
    ·rename_i j hj
     split at h
     ·cases h
     ·rename_i e he
      simp only [Zh] at h
      subst h
      refine ii (res:=.value) hb1 hb2 fun C a hg hxs hbC entries g1 g2 g3=>?_
      have e1:=hxs m (by simp [Op.operands])
      have e2:=hxs s (by simp [Op.operands])
      have e3:=hxs x (by simp [Op.operands])
      rw [hm] at e1
      rw [hs] at e2
      have e1':=e1.mp_inv hbC (by rw [hb2]; rfl)
      have e2':=e2.v_inv
      obtain ⟨j',e',q1,q2,q3,q4⟩:=Af _ _ _ hj
      rw [Nat.zero_add] at q1
      subst q1
      rw [he] at q2
      cases q2
      obtain ⟨hj',rfl⟩:=List.getElem?_eq_some_iff.1 he
      have hjs:j < entries.size:=by omega
      have hidx:entries.findIdx? (fun e=>(e.born:Int)==Int.ofNat n)=some j:=by
       rw [Array.findIdx?_eq_some_iff_getElem]
       refine ⟨hjs,?_,fun k hk=>?_⟩
       ·rw [(g3 j hj' hjs).2.2,q3]
        simp
       ·have hk':k < es.length:=by omega
        have:=q4 k es[k] hk (Zf hk')
        rw [(g3 k hk' (by omega)).2.2]
        simp only [beq_iff_eq]
        intro hh
        exact this (Int.ofNat.inj hh)
      refine ⟨entries.modify j fun e=>{ e with val:=a.eval x },.skip,?_,.inl ⟨rfl,rfl⟩,by rw [gj]; simp [g2],fun i h1 h2=>?_⟩
      ·simp only [execOp,e1',e2',Instr.entryStore,Sem.run_bind,dy g1,Result.andThen_ok,asInt,asIntOf,Sem.run_pure,hidx,ej g1 (fun _ _ _ e=>by cases e)]
      ·have h1':i < es.length:=by rw [gj] at h1; exact h1
       have h2':i < entries.size:=by simpa using h2
       rw [m7,Array.getElem_modify]
       by_cases hij:i=j
       ·subst hij
        simp only [if_true]
        exact ⟨(g3 i hj' hjs).1,e3,(g3 i hj' hjs).2.2⟩
       ·rw [if_neg hij,if_neg (fun e=>hij e.symm)]
        exact g3 i h1' h2'
  ·cases h
 ·cases h
/-- The length of a map. -/
def Qr (P:Program) (τ:Nat->AV) (η:au) (u:Nat) (x:Operand) (ats:Array TypeId):Option Rec:=match ats[0]? with
 | none=>none
 | some t=>match P.underlying t with
  | some (.map _ _)=>match aev τ x with
   | .mp id ver=>match nv η id ver with
    | some (b,clock,es)=>some ⟨[id],[],.v (goInt es.length),u⟩
    | none=>none
   | _=>none
  | _=>none
theorem Lz {u:Nat} {x:Operand} {ats:Array TypeId} {r:Rec} (h:Qr P τ η u x ats=some r):LOp P ⟨d,.call { callee:=.builtin .len,args:=#[x],argTypes:=ats },ty,pos,af,g⟩ τ η r.fp r.δ r.v:=by
 unfold Qr at h
 split at h
 ·cases h
 ·rename_i t ht
  split at h
  ·rename_i kt et hu
   split at h
   ·rename_i id ver hx
    split at h
    ·rename_i b clock es hb
     obtain ⟨hb1,hb2⟩:=gp hb
     simp only [Zh] at h
     subst h
     refine .look [id] fun C a hg hxs hfp=>?_
     have hbC:C.η id=some b:=(hfp id (by simp)).trans hb1
     have e1:=hxs x (by simp [Op.operands,Call.operands])
     rw [hx] at e1
     have e1':=e1.mp_inv hbC (by rw [hb2]; rfl)
     obtain ⟨entries,g1,g2,g3⟩:=tw hg hbC hb2
     refine ⟨goInt es.length,?_,VR.v C _⟩
     rw [g2]
     simp [execOp,e1',resolve,invoke,builtin,Builtin.len_,ht,run_underlying hu,dy g1,Sem.run_bind,Result.andThen]
    ·cases h
   ·cases h
  ·cases h
def ox {α:Type}:List α->Nat->List α
 | [],_=>[]
 | _ :: l,0=>l
 | x :: l,n+1=>x :: ox l n
theorem nh {α:Type}:∀ (l:List α) (n:Nat),ox l n=l.eraseIdx n
 | [],n=>by simp [ox]
 | _ :: l,0=>rfl
 | x :: l,n+1=>by simp [ox,nh l n]
/-- delete(m, k). -/
def Ym (P:Program) (τ:Nat->AV) (η:au) (u:Nat) (m k:Operand) (ats:Array TypeId):Option Rec:=match ats[0]? with
 | none=>none
 | some t=>match P.underlying t with
  | some (.map kt et)=>match aev τ k with
   | .v key=>match aev τ m with
    | .mp id ver=>match nv η id ver with
     | none=>none
     | some (b,clock,es)=>match sd P kt key es with
      | none=>none
      | some none=>some ⟨[id],[(id,some (bn ver b.esz clock es))],.v (.tuple #[]),u⟩
      | some (some j)=>some ⟨[id],[(id,some (bn ver b.esz clock (ox es j)))],.v (.tuple #[]),u⟩
    | _=>none
   | _=>none
  | _=>none
theorem Rl {u:Nat} {m k:Operand} {ats:Array TypeId} {r:Rec} (h:Ym P τ η u m k ats=some r):LOp P ⟨d,.call { callee:=.builtin .delete,args:=#[m,k],argTypes:=ats },ty,pos,af,g⟩ τ η r.fp r.δ r.v:=by
 unfold Ym at h
 split at h
 ·cases h
 ·rename_i t ht
  split at h
  ·rename_i kt et hu
   split at h
   ·rename_i key hk
    split at h
    ·rename_i id ver hm
     split at h
     ·cases h
     ·rename_i b clock es hb
      obtain ⟨hb1,hb2⟩:=gp hb
      have hex:∀ (a:Act) (w:World),(execOp a.eval ⟨d,.call { callee:=.builtin .delete,args:=#[m,k],argTypes:=ats },ty,pos,af,g⟩).run P w=((Builtin.delete_ ats ty #[a.eval m,a.eval k]).run P w).andThen fun x w=>.ok (.value x) w:=by
       intro a w
       simp only [execOp,resolve,invoke,builtin,Sem.run_bind,Sem.run_pure,Result.andThen_ok]
       simp only [List.map_toArray,List.map_cons,List.map_nil]
      split at h
      ·cases h
      ·rename_i hf
       simp only [Zh] at h
       subst h
       refine ii (res:=.value) hb1 hb2 fun C a hg hxs hbC entries g1 g2 g3=>?_
       have e1:=hxs m (by simp [Op.operands,Call.operands])
       have e2:=hxs k (by simp [Op.operands,Call.operands])
       rw [hm] at e1
       rw [hk] at e2
       have e1':=e1.mp_inv hbC (by rw [hb2]; rfl)
       have e2':=e2.v_inv
       obtain ⟨c1,c2⟩:=jx g2 g3 hf C.w
       have c1':=(c1 entries.isEmpty).resolve_right (by rw [qu g2]; simp)
       have hr:(Instr.findKey kt key entries.toList).run P C.w=.ok none C.w:=by
        rcases c2 with ⟨_,hr⟩ | ⟨j,hj,_⟩
        ·exact hr
        ·cases hj
       refine ⟨entries,.value (.tuple #[]),?_,.inr ⟨_,rfl,VR.v C _⟩,g2,g3⟩
       rw [hex,e1',e2']
       simp [Builtin.delete_,ht,Sem.run_bind,run_underlying hu,Result.andThen_ok,dy g1,c1',hr,ej g1 (fun _ _ _ e=>by cases e),Sem.run_pure]
      ·rename_i j hf
       simp only [Zh] at h
       subst h
       refine ii (res:=.value) hb1 hb2 fun C a hg hxs hbC entries g1 g2 g3=>?_
       have e1:=hxs m (by simp [Op.operands,Call.operands])
       have e2:=hxs k (by simp [Op.operands,Call.operands])
       rw [hm] at e1
       rw [hk] at e2
       have e1':=e1.mp_inv hbC (by rw [hb2]; rfl)
       have e2':=e2.v_inv
       obtain ⟨c1,c2⟩:=jx g2 g3 hf C.w
       have c1':=(c1 entries.isEmpty).resolve_right (by rw [qu g2]; simp)
       have hr:∃ v,(Instr.findKey kt key entries.toList).run P C.w=.ok (some (j,v)) C.w/\j < entries.size:=by
        rcases c2 with ⟨hh,_⟩ | ⟨j',hh,hj,hr⟩
        ·cases hh
        ·cases hh; exact ⟨_,hr,hj⟩
       obtain ⟨v,hr,hj⟩:=hr
       refine ⟨entries.eraseIdxIfInBounds j,.value (.tuple #[]),?_,.inr ⟨_,rfl,VR.v C _⟩,?_,fun i h1 h2=>?_⟩
       ·rw [hex,e1',e2']
        simp [Builtin.delete_,ht,Sem.run_bind,run_underlying hu,Result.andThen_ok,dy g1,c1',hr,ej g1 (fun _ _ _ e=>by cases e),Sem.run_pure]
       ·rw [nh,Array.eraseIdxIfInBounds,dif_pos hj]
        rw [List.length_eraseIdx,if_pos (by omega),Array.size_eraseIdx,g2]
       ·have q:(entries.eraseIdxIfInBounds j)[i]=entries[if i < j then i else i+1]'(by
          rw [Array.eraseIdxIfInBounds,dif_pos hj] at h2
          simp at h2
          split <;> omega):=by
         have:(entries.eraseIdxIfInBounds j)[i]? = (entries.eraseIdx j hj)[i]?:=by rw [Array.eraseIdxIfInBounds,dif_pos hj]
         rw [Array.getElem?_eq_getElem h2] at this
         have h3:i < (entries.eraseIdx j hj).size:=by
          rw [Array.eraseIdxIfInBounds,dif_pos hj] at h2; exact h2
         rw [Array.getElem?_eq_getElem h3,Array.getElem_eraseIdx] at this
         have:=Option.some.inj this
         rw [this]
         split <;> rfl
        have h1b:i < (es.eraseIdx j).length:=by rw [<- nh]; exact h1
        have q':(ox es j)[i]=es[if i < j then i else i+1]'(by
          rw [List.length_eraseIdx] at h1b
          split at h1b <;> split <;> omega):=by
         have:(ox es j)[i]? = (es.eraseIdx j)[i]?:=by rw [nh]
         rw [Zf h1,Zf h1b,List.getElem_eraseIdx] at this
         have:=Option.some.inj this
         rw [this]
         split <;> rfl
        rw [q,q']
        exact g3 _ _ _
    ·cases h
   ·cases h
  ·cases h
end
inductive All2 {α β:Type} (R:α->β->Prop):List α->List β->Prop where
 | nil:All2 R [] []
 | cons {a:α} {b:β} {l:List α} {m:List β}:R a b->All2 R l m->All2 R (a :: l) (b :: m)
theorem ln {α β:Type} {R:α->β->Prop}:∀ {l:List α} {m:List β},l.length=m.length->(∀ i (h:i < l.length) (h':i < m.length),R l[i] m[i])->All2 R l m
 | [],[],_,_=>.nil
 | [],_ :: _,h,_=>by simp at h
 | _ :: _,[],h,_=>by simp at h
 | a :: l,b :: m,h,hi=>.cons (hi 0 (by simp) (by simp)) (ln (by simpa using h) (fun i h1 h2=>hi (i+1) (by simpa using h1) (by simpa using h2)))
theorem All2.filter {α β:Type} {R:α->β->Prop} {p:α->Bool} {q:β->Bool} (hpq:∀ a b,R a b->p a=q b) {l:List α} {m:List β} (h:All2 R l m):All2 R (l.filter p) (m.filter q):=by
 induction h with
 | nil=>exact .nil
 | cons hr _ ih=>
  rename_i a b l m _
  rw [List.filter_cons,List.filter_cons,hpq a b hr]
  split
  ·exact .cons hr ih
  ·exact ih
theorem All2.all {α β:Type} {R:α->β->Prop} {p:α->Bool} {q:β->Bool} (hpq:∀ a b,R a b->p a=q b) {l:List α} {m:List β} (h:All2 R l m):l.all p=m.all q:=by
 induction h with
 | nil=>rfl
 | cons hr _ ih=>rw [List.all_cons,List.all_cons,hpq _ _ hr,ih]
theorem All2.isEmpty {α β:Type} {R:α->β->Prop} {l:List α} {m:List β} (h:All2 R l m):l.isEmpty=m.isEmpty:=by cases h <;> rfl
def pd:List AV->Option (List Nat)
 | []=>some []
 | .v (.int .i64 (.ofNat n)) :: l=>match pd l with
  | some r=>some (n :: r)
  | none=>none
 | _=>none
theorem Gi:∀ (l:List AV) (ns:List Nat),pd l=some ns->l=ns.map fun n=>.v (.int .i64 (Int.ofNat n)):=by
 intro l
 induction l with
 | nil=>intro ns h; simp only [pd,Zh] at h; subst h; rfl
 | cons x l ih=>
  intro ns h
  unfold pd at h
  split at h
  ·rename_i e; cases e
  ·rename_i n l' e
   obtain ⟨rfl,rfl⟩:=List.cons.inj e
   split at h
   ·rename_i r hr
    simp only [Zh] at h
    subst h
    rw [List.map_cons,<- ih _ hr]
   ·cases h
  ·cases h
def xa (ver esz:Nat) (s:ByteArray) (pos:Nat):Blk:=⟨ver,j5 s pos,esz,true⟩
def cd (ver esz:Nat) (m:AV) (since:Nat) (seen:List Nat) (last:Nat):Blk:=⟨ver,d5 m since seen last,esz,true⟩
inductive Iter where
 | txt (s:ByteArray) (pos:Nat)
 | ofm (id ver since:Nat) (seen:List Nat) (last:Nat)
def Iter.blk (ver esz:Nat):Iter->Blk
 | .txt s pos=>xa ver esz s pos
 | .ofm id v since seen last=>cd ver esz (.mp id v) since seen last
def yx:List AV->Option Iter
 | [.v (.int .i64 (.ofNat 1)),.v (.string s),.v (.int .i64 (.ofNat pos))]=>some (.txt s pos)
 | .v (.int .i64 (.ofNat 2)) :: .mp id v :: .v (.int .i64 (.ofNat since)) :: .v (.int .i64 (.ofNat last)) :: l=>match pd l with
  | some seen=>some (.ofm id v since seen last)
  | none=>none
 | _=>none
theorem Gk {cs:List AV} {i:Iter} (h:yx cs=some i) (ver esz:Nat):(⟨ver,cs,esz,true⟩:Blk)=i.blk ver esz:=by
 unfold yx at h
 split at h
 ·simp only [Zh] at h
  subst h
  rfl
 ·split at h
  ·rename_i seen hs
   simp only [Zh] at h
   subst h
   simp only [Iter.blk,cd,d5]
   rw [<- Gi _ _ hs]
   rfl
  ·cases h
 ·cases h
def Bg (η:au) (id ver:Nat):Option (Blk×Iter):=match η id with
 | some b=>bif Nat.beq b.ver ver&&b.nilp then (match yx b.cs with
  | some i=>some (b,i)
  | none=>none) else none
 | none=>none
theorem sn {η:au} {id ver:Nat} {b:Blk} {i:Iter} (h:Bg η id ver=some (b,i)):η id=some b/\b=i.blk ver b.esz:=by
 unfold Bg at h
 cases hb:η id with
 | none=>rw [hb] at h; cases h
 | some b'=>
  rw [hb] at h
  simp only at h
  cases hc:(Nat.beq b'.ver ver&&b'.nilp) with
  | false=>rw [hc] at h; simp at h
  | true=>
   rw [hc] at h
   simp only [cond_true] at h
   rw [Bool.and_eq_true] at hc
   split at h
   ·rename_i i' hm
    simp only [Zh,Prod.mk.injEq] at h
    obtain ⟨rfl,rfl⟩:=h
    refine ⟨rfl,?_⟩
    obtain ⟨v,cs,z,n⟩:=b'
    have e1:=Zg hc.1
    have e2:=hc.2
    simp only at e1 e2 hm
    subst e1 e2
    exact Gk hm _ _
   ·cases h
theorem ObjR.siter_inv {C:Ctx} {s:ByteArray} {pos:Nat} {o:Obj} (h:ObjR C (j5 s pos) o):o=.stringIter s pos:=by
 generalize hc:j5 s pos=cs at h
 cases h with
 | map _ _=>exact absurd (List.cons.inj hc).1 (by simp)
 | siter=>
  simp only [j5,List.cons.injEq,AV.v.injEq,Value.string.injEq,Value.int.injEq,Int.ofNat.injEq,true_and,and_true] at hc
  obtain ⟨rfl,h2⟩:=hc
  subst h2
  rfl
 | miter0=>exact absurd (List.cons.inj hc).1 (by simp)
 | miter _=>exact absurd (List.cons.inj hc).1 (by simp)
theorem Da:∀ {a b:List Nat},(a.map fun n=>AV.v (.int .i64 (Int.ofNat n)))=(b.map fun n=>.v (.int .i64 (Int.ofNat n)))->a=b
 | [],[],_=>rfl
 | [],_ :: _,h=>by cases h
 | _ :: _,[],h=>by cases h
 | n :: a,m :: b,h=>by
  simp only [List.map_cons,List.cons.injEq,AV.v.injEq,Value.int.injEq,true_and] at h
  have h1:n=m:=Int.ofNat.inj h.1
  rw [h1,Da h.2]
theorem ObjR.miter_inv {C:Ctx} {id ver since last:Nat} {seen:List Nat} {o:Obj} (h:ObjR C (d5 (.mp id ver) since seen last) o):∃ m,o=.mapIter (some m) since seen.toArray last/\VR C (.mp id ver) (.map (some m)):=by
 generalize hc:d5 (.mp id ver) since seen last=cs at h
 cases h with
 | map _ _=>exact absurd (List.cons.inj hc).1 (by simp)
 | siter=>exact absurd (List.cons.inj hc).1 (by simp)
 | miter0=>exact absurd (List.cons.inj (List.cons.inj hc).2).1 (by simp)
 | miter hv=>
  simp only [d5,List.cons.injEq,AV.v.injEq,Value.int.injEq,true_and] at hc
  obtain ⟨rfl,h1,h2,h3⟩:=hc
  have e1:=Int.ofNat.inj h1
  have e2:=Int.ofNat.inj h2
  subst e1 e2
  obtain rfl:=Da h3
  exact ⟨_,rfl,hv⟩
section
variable {P:Program} {τ:Nat->AV} {η:au} {d:Option Tmp} {ty:TypeId} {pos:String} {af:Array Edge} {g:Option (Nat×Bool)}
def Cz (P:Program) (τ:Nat->AV) (η:au) (u t:Nat) (x:Operand):Option Rec:=match P.underlying t with
 | some .string=>match aev τ x with
  | .v (.string s)=>some ⟨[],[(u,some (xa 0 0 s 0))],.it u 0,u+1⟩
  | _=>none
 | some (.map _ _)=>match aev τ x with
  | .mp id ver=>match nv η id ver with
   | some (b,clock,es)=>bif Nat.beq id u then none else some ⟨[id],[(u,some (cd 0 0 (.mp id ver) clock [] clock))],.it u 0,u+1⟩
   | none=>none
  | _=>none
 | _=>none
theorem zf {u t:Nat} {x:Operand} {r:Rec} (h:Cz P τ η u t x=some r):LOp P ⟨d,.range t x,ty,pos,af,g⟩ τ η r.fp r.δ r.v:=by
 have main:∀ (fp:List Nat) (b:Blk),u∉fp->b.kind=2->b.ver=0->(∀ (C:Ctx) (a:Act),Good C->(∀ x'∈(Op.range t x).operands,VR C (aev τ x') (a.eval x'))->(∀ id∈fp,C.η id=η id)->∃ o,ObjR C b.cs o/\(execOp a.eval ⟨d,.range t x,ty,pos,af,g⟩).run P C.w=.ok (.value (.pointer (some ⟨C.w.heap.size,0,none⟩))) (C.w.alloc o)) ->
   LOp P ⟨d,.range t x,ty,pos,af,g⟩ τ η fp [(u,some b)] (.it u 0):=by
  intro fp b hufp hk hv hex C a hg hxs hfp hnew K Q hK
  have hu:¬ C.U u:=hnew (u,some b) (by simp) hufp
  obtain ⟨o,ho,hr⟩:=hex C a hg hxs hfp
  unfold Oper.wp
  rw [hr]
  refine hK _ (C.allocO u o b) rfl (fun i=>by simp [Ctx.allocO]) (m5 hg hu hk ho) (lm hg hu) ?_
  have:=VR.it (C:=C.allocO u o b) (id:=u) (ver:=0) (ae _ _ _) hv hk
  have e:((C.allocO u o b).ρ u).1=C.w.heap.size:=by simp [Ctx.allocO]
  rw [e] at this
  exact this
 unfold Cz at h
 split at h
 ·rename_i hu
  split at h
  ·rename_i s hx
   simp only [Zh] at h
   subst h
   refine main [] _ (by simp) rfl rfl fun C a hg hxs hfp=>⟨.stringIter s 0,.siter,?_⟩
   have e1:=hxs x (by simp [Op.operands])
   rw [hx] at e1
   have e1':=e1.v_inv
   simp only [execOp,e1',Instr.range,Sem.run_bind,run_underlying hu,Result.andThen_ok,Sem.run_pure,vx]
  ·cases h
 ·rename_i kt et hu
  split at h
  ·rename_i id ver hx
   split at h
   ·rename_i b clock es hb
    obtain ⟨hb1,hb2⟩:=gp hb
    cases hid:Nat.beq id u with
    | true=>rw [hid] at h; simp at h
    | false=>
     rw [hid] at h
     simp only [cond_false,Zh] at h
     subst h
     refine main [id] _ (by simp; intro e; rw [e,Nat.beq_refl] at hid; cases hid) rfl rfl fun C a hg hxs hfp=>?_
     have hbC:C.η id=some b:=(hfp id (by simp)).trans hb1
     have e1:=hxs x (by simp [Op.operands])
     rw [hx] at e1
     have e1':=e1.mp_inv hbC (by rw [hb2]; rfl)
     obtain ⟨entries,g1,g2,g3⟩:=tw hg hbC hb2
     rw [e1'] at e1
     refine ⟨.mapIter (some (C.ρ id).1) clock #[] clock,.miter (seen:=[]) e1,?_⟩
     simp only [execOp,e1',Instr.range,Sem.run_bind,run_underlying hu,Result.andThen_ok,dy g1,Sem.run_pure,vx]
   ·cases h
  ·cases h
 ·cases h
/-- An operation that moves an iteration on. -/
theorem u3 {o:Oper} {id ver:Nat} {fp:List Nat} {b:Blk} {i i':Iter} {v:AV} (hid:id∈fp) (hb1:η id=some b) (hb2:b=i.blk ver b.esz)
  (h:∀ (C:Ctx) (a:Act),Good C->(∀ x∈o.op.operands,VR C (aev τ x) (a.eval x))->(∀ id∈fp,C.η id=η id)->∀ ob,C.w.heap[(C.ρ id).1]? = some ob->ObjR C b.cs ob ->
   ∃ ob' x,(execOp a.eval o).run P C.w=.ok (.value x) { C.w with heap:=C.w.heap.setIfInBounds (C.ρ id).1 ob' }/\VR C v x/\ObjR C (i'.blk ver b.esz).cs ob') :
  LOp P o τ η fp [(id,some (i'.blk ver b.esz))] v:=by
 intro C a hg hxs hfp _ K Q hK
 have hbC:C.η id=some b:=(hfp id hid).trans hb1
 have hk0:b.kind=2:=by rw [hb2]; cases i <;> rfl
 have hk1:(i'.blk ver b.esz).kind=2:=by cases i' <;> rfl
 have hver:(i'.blk ver b.esz).ver=b.ver:=by rw [hb2]; cases i' <;> cases i <;> rfl
 have hesz:(i'.blk ver b.esz).esz=b.esz:=by cases i' <;> rfl
 obtain ⟨ob,g1,g2⟩:=hg.obj hbC hk0
 obtain ⟨ob',x,r1,r2,r3⟩:=h C a hg hxs hfp ob g1 g2
 have hev:=lh (C:=C) (o:=ob') (b:=i'.blk ver b.esz) hg hbC hk0 hk1 hver hesz
 have hgd:=lg (C:=C) (o:=ob') (b:=i'.blk ver b.esz) hg hbC hk0 hk1 hver hesz r3
 unfold Oper.wp
 rw [r1]
 exact hK x _ rfl (fun j=>by
  simp [Ctx.setO]
  rintro rfl
  exact hg.used hbC) hgd hev (r2.mono hg hev)
def Ba (P:Program) (τ:Nat->AV) (η:au) (u:Nat) (x:Operand) (isString:Bool):Option Rec:=match aev τ x with
 | .it id ver=>match Bg η id ver with
  | none=>none
  | some (b,.txt s pos)=>bif isString then
    (bif Nat.blt pos s.size then (match Utf8.decode s pos with
     | (c,width)=>some ⟨[id],[(id,some (xa ver b.esz s (pos+width)))],.tup [.v (.bool true),.v (goInt pos),.v (.int .i32 c)],u⟩)
    else some ⟨[id],[],.tup [.v (.bool false)],u⟩)
   else none
  | some (b,.ofm mid mver since seen last)=>bif isString then none else
    match nv η mid mver with
    | none=>none
    | some (mb,clock,es)=>
     bif !seen.isEmpty&&!es.isEmpty&&es.all (fun e=>Nat.ble last e.2.2) then none else
     match (es.filter fun e=>!seen.contains e.2.2).filter (fun e=>Nat.blt e.2.2 since),(es.filter fun e=>!seen.contains e.2.2).filter (fun e=>Nat.ble since e.2.2) with
     | [],[]=>some ⟨[id,mid],[],.tup [.v (.bool false)],u⟩
     | [e],[]=>some ⟨[id,mid],[(id,some (cd ver b.esz (.mp mid mver) since (seen++[e.2.2]) clock))],.tup [.v (.bool true),.v e.1,e.2.1],u⟩
     | _,_=>none
 | _=>none
theorem J0 {C:Ctx} {a b c:AV} {x y z:Value} (h1:VR C a x) (h2:VR C b y) (h3:VR C c z):VR C (.tup [a,b,c]) (.tuple #[x,y,z]):=by
 refine .tup rfl (fun i h h'=>?_)
 match i,h with
 | 0,_=>exact h1
 | 1,_=>exact h2
 | 2,_=>exact h3
theorem J1 {C:Ctx} {a:AV} {x:Value} (h1:VR C a x):VR C (.tup [a]) (.tuple #[x]):=by
 refine .tup rfl (fun i h h'=>?_)
 match i,h with
 | 0,_=>exact h1
theorem dl {w:World} {r:Nat} {o:Obj} (h:w.heap[r]? = some o) (hn:∀ c t f,o≠.cells c t f):(getObj r).run P w=.ok o w:=by
 unfold getObj
 unfold Sem.run
 rw [h]
 cases o <;> first | rfl | (exact absurd rfl (hn _ _ _))
theorem xl {u:Nat} {x:Operand} {isString:Bool} {r:Rec} (h:Ba P τ η u x isString=some r):LOp P ⟨d,.next x isString,ty,pos,af,g⟩ τ η r.fp r.δ r.v:=by
 unfold Ba at h
 split at h
 ·rename_i id ver hx
  have hex:∀ (a:Act) (w:World),(execOp a.eval ⟨d,.next x isString,ty,pos,af,g⟩).run P w=((Instr.next (a.eval x) isString ty).run P w).andThen fun x w=>.ok (.value x) w:=by
   intro a w
   simp only [execOp,Sem.run_bind]
   rfl
  split at h
  ·cases h
  ·rename_i b s ps hb
   obtain ⟨hb1,hb2⟩:=sn hb
   have hcs:b.cs=j5 s ps:=by rw [hb2]; rfl
   cases isString with
   | false=>simp at h
   | true=>
    simp only [cond_true] at h
    cases hlt:Nat.blt ps s.size with
    | true=>
     rw [hlt] at h
     simp only [cond_true] at h
     have hlt':ps < s.size:=by simpa using hlt
     cases hdec:Utf8.decode s ps with
     | mk c width=>
      rw [hdec] at h
      simp only [Zh] at h
      subst h
      refine u3 (i':=.txt s (ps+width)) (by simp) hb1 hb2 fun C a hg hxs hfp ob g1 g2=>?_
      have hbC:C.η id=some b:=(hfp id (by simp)).trans hb1
      have e1:=hxs x (by simp [Op.operands])
      rw [hx] at e1
      have e1':=e1.it_inv hbC (by rw [hb2]; rfl)
      rw [hcs] at g2
      obtain rfl:=g2.siter_inv
      refine ⟨.stringIter s (ps+width),.tuple #[.bool true,goInt ps,.int .i32 c],?_,J0 (VR.v C _) (VR.v C _) (VR.v C _),.siter⟩
      rw [hex,e1']
      simp only [Instr.next,Sem.run_bind,dl g1 (fun _ _ _ e=>by cases e),Result.andThen_ok,hlt',if_true,hdec,ej g1 (fun _ _ _ e=>by cases e),Sem.run_pure]
    | false=>
     rw [hlt] at h
     simp only [cond_false,Zh] at h
     subst h
     have hlt':¬ ps < s.size:=by
      intro hh
      rw [show Nat.blt ps s.size=true by simpa using hh] at hlt
      cases hlt
     refine .look [id] fun C a hg hxs hfp=>?_
     have hbC:C.η id=some b:=(hfp id (by simp)).trans hb1
     have e1:=hxs x (by simp [Op.operands])
     rw [hx] at e1
     have e1':=e1.it_inv hbC (by rw [hb2]; rfl)
     obtain ⟨ob,g1,g2⟩:=hg.obj hbC (by rw [hb2]; rfl)
     rw [hcs] at g2
     obtain rfl:=g2.siter_inv
     refine ⟨.tuple #[.bool false],?_,J1 (VR.v C _)⟩
     rw [hex,e1']
     simp only [Instr.next,Sem.run_bind,dl g1 (fun _ _ _ e=>by cases e),Result.andThen_ok,hlt',if_false,Sem.run_pure]
  ·rename_i b mid mver since seen last hb
   obtain ⟨hb1,hb2⟩:=sn hb
   have hcs:b.cs=d5 (.mp mid mver) since seen last:=by rw [hb2]; rfl
   cases isString with
   | true=>simp at h
   | false=>
    simp only [cond_false] at h
    split at h
    ·cases h
    ·rename_i mb clock es hm
     obtain ⟨hm1,hm2⟩:=gp hm
     cases hgone:(!seen.isEmpty&&!es.isEmpty&&es.all (fun e=>Nat.ble last e.2.2)) with
     | true=>rw [hgone] at h; simp at h
     | false=>
      rw [hgone] at h
      simp only [cond_false] at h
      have core:∀ (C:Ctx) (a:Act),Good C->(∀ x'∈(Op.next x false).operands,VR C (aev τ x') (a.eval x'))->(∀ i∈[id,mid],C.η i=η i)->∀ ob,C.w.heap[(C.ρ id).1]? = some ob->ObjR C b.cs ob ->
        ∃ entries:Array MapEntry,∃ m,ob=.mapIter (some m) since seen.toArray last/\VR C (.mp mid mver) (.map (some m))/\a.eval x=.pointer (some ⟨(C.ρ id).1,0,none⟩)/\C.w.heap[m]? = some (.map entries clock)/\All2 (fun (x:Value×AV×Nat) (e:MapEntry)=>e.key=x.1/\VR C x.2.1 e.val/\e.born=x.2.2) es entries.toList:=by
       intro C a hg hxs hfp ob g1 g2
       have hbC:C.η id=some b:=(hfp id (by simp)).trans hb1
       have hmC:C.η mid=some mb:=(hfp mid (by simp)).trans hm1
       have e1:=hxs x (by simp [Op.operands])
       rw [hx] at e1
       have e1':=e1.it_inv hbC (by rw [hb2]; rfl)
       rw [hcs] at g2
       obtain ⟨m,rfl,hvm⟩:=g2.miter_inv
       have hmv:=hvm.mp_inv hmC (by rw [hm2]; rfl)
       have hmm:m=(C.ρ mid).1:=by simpa using hmv
       subst hmm
       obtain ⟨entries,q1,q2,q3⟩:=tw hg hmC hm2
       exact ⟨entries,_,rfl,hvm,e1',q1,ln (by simpa using q2) (fun i h1 h2=>by simpa using q3 i h1 (by simpa using h2))⟩
      have toRun:∀ (C:Ctx) (entries:Array MapEntry),All2 (fun (x:Value×AV×Nat) (e:MapEntry)=>e.key=x.1/\VR C x.2.1 e.val/\e.born=x.2.2) es entries.toList ->
        (!seen.toArray.isEmpty&&!entries.isEmpty&&entries.all (·.born≥last))=false /\
        All2 (fun (x:Value×AV×Nat) (e:MapEntry)=>e.key=x.1/\VR C x.2.1 e.val/\e.born=x.2.2) ((es.filter fun e=>!seen.contains e.2.2).filter (fun e=>Nat.blt e.2.2 since)) ((entries.filter fun e=>!seen.toArray.contains e.born).filter (·.born < since)).toList /\
        All2 (fun (x:Value×AV×Nat) (e:MapEntry)=>e.key=x.1/\VR C x.2.1 e.val/\e.born=x.2.2) ((es.filter fun e=>!seen.contains e.2.2).filter (fun e=>Nat.ble since e.2.2)) ((entries.filter fun e=>!seen.toArray.contains e.born).filter (·.born≥since)).toList:=by
       intro C entries hall
       have hleft:All2 (fun (x:Value×AV×Nat) (e:MapEntry)=>e.key=x.1/\VR C x.2.1 e.val/\e.born=x.2.2) (es.filter fun e=>!seen.contains e.2.2) (entries.filter fun e=>!seen.toArray.contains e.born).toList:=by
        rw [Array.toList_filter]
        refine hall.filter (fun a b hab=>?_)
        rw [hab.2.2]
        simp
       refine ⟨?_,?_,?_⟩
       ·rw [<- hgone]
        congr 1
        ·congr 1
         ·simp
         ·have:=hall.isEmpty
          rw [this]
          simp
        ·rw [hall.all (q:=fun e=>decide (e.born≥last)) (fun a b hab=>by
          rw [hab.2.2]
          rw [Bool.eq_iff_iff]
          simp [Nat.ble_eq])]
         simp
       ·rw [Array.toList_filter]
        refine hleft.filter (fun a b hab=>?_)
        rw [hab.2.2,Bool.eq_iff_iff]
        simp
       ·rw [Array.toList_filter]
        refine hleft.filter (fun a b hab=>?_)
        rw [hab.2.2,Bool.eq_iff_iff]
        simp [Nat.ble_eq]
      split at h
      ·rename_i f1 f2
       simp only [Zh] at h
       subst h
       refine .look [id,mid] fun C a hg hxs hfp=>?_
       have hbC:C.η id=some b:=(hfp id (by simp)).trans hb1
       obtain ⟨ob,g1,g2⟩:=hg.obj hbC (by rw [hb2]; rfl)
       obtain ⟨entries,m,rfl,hvm,e1',q1,hall⟩:=core C a hg hxs hfp ob g1 g2
       obtain ⟨t1,t2,t3⟩:=toRun C entries hall
       rw [f1] at t2
       rw [f2] at t3
       have n1:((entries.filter fun e=>!seen.toArray.contains e.born).filter (·.born < since))=#[]:=by
        generalize ((entries.filter fun e=>!seen.toArray.contains e.born).filter (·.born < since))=arr at t2
        obtain ⟨l⟩:=arr
        cases t2; rfl
       have n2:((entries.filter fun e=>!seen.toArray.contains e.born).filter (·.born≥since))=#[]:=by
        generalize ((entries.filter fun e=>!seen.toArray.contains e.born).filter (·.born≥since))=arr at t3
        obtain ⟨l⟩:=arr
        cases t3; rfl
       refine ⟨.tuple #[.bool false],?_,J1 (VR.v C _)⟩
       rw [hex,e1']
       simp only [Instr.next,Sem.run_bind,dl g1 (fun _ _ _ e=>by cases e),Result.andThen_ok,dl q1 (fun _ _ _ e=>by cases e),t1,Bool.false_eq_true,if_false,n1,n2]
       have hch:∀ w:World,(choose (.mapNext 1)).run P w=.ok 0 w:=fun w=>by simp [choose,Sem.run,Question.forced]
       have hc:((if (#[]:Array MapEntry).isEmpty=true then #[none] else #[])++((#[]:Array MapEntry)++(#[]:Array MapEntry)).map some)=#[none]:=by simp
       simp only [hc]
       have hz:(#[none]:Array (Option MapEntry)).size=1:=rfl
       rw [hz]
       simp only [hch,Result.andThen_ok]
       have hi:(#[none]:Array (Option MapEntry))[0]? = some none:=rfl
       simp only [hi,Sem.run_pure,Result.andThen_ok]
      ·rename_i e f1 f2
       simp only [Zh] at h
       subst h
       refine u3 (i':=.ofm mid mver since (seen++[e.2.2]) clock) (by simp) hb1 hb2 fun C a hg hxs hfp ob g1 g2=>?_
       obtain ⟨entries,m,rfl,hvm,e1',q1,hall⟩:=core C a hg hxs hfp ob g1 g2
       obtain ⟨t1,t2,t3⟩:=toRun C entries hall
       rw [f1] at t2
       rw [f2] at t3
       have n1:∃ en,((entries.filter fun e=>!seen.toArray.contains e.born).filter (·.born < since))=#[en]/\en.key=e.1/\VR C e.2.1 en.val/\en.born=e.2.2:=by
        generalize ((entries.filter fun e=>!seen.toArray.contains e.born).filter (·.born < since))=arr at t2
        obtain ⟨l⟩:=arr
        cases t2 with
        | cons hr hnil=>cases hnil; exact ⟨_,rfl,hr⟩
       have n2:((entries.filter fun e=>!seen.toArray.contains e.born).filter (·.born≥since))=#[]:=by
        generalize ((entries.filter fun e=>!seen.toArray.contains e.born).filter (·.born≥since))=arr at t3
        obtain ⟨l⟩:=arr
        cases t3; rfl
       obtain ⟨en,n1,k1,k2,k3⟩:=n1
       refine ⟨.mapIter (some m) since (seen++[e.2.2]).toArray clock,.tuple #[.bool true,en.key,en.val],?_,J0 (VR.v C _) (by rw [k1]; exact VR.v C _) k2,.miter hvm⟩
       rw [hex,e1']
       have hseen:(seen++[e.2.2]).toArray=seen.toArray.push en.born:=by rw [k3]; simp
       rw [hseen]
       simp only [Instr.next,Sem.run_bind,dl g1 (fun _ _ _ e=>by cases e),Result.andThen_ok,dl q1 (fun _ _ _ e=>by cases e),t1,Bool.false_eq_true,if_false,n1,n2]
       have hch:∀ w:World,(choose (.mapNext 1)).run P w=.ok 0 w:=fun w=>by simp [choose,Sem.run,Question.forced]
       have hc:((if (#[en]:Array MapEntry).isEmpty=true then #[none] else #[])++((#[en]:Array MapEntry)++(#[]:Array MapEntry)).map some)=#[some en]:=by simp
       simp only [hc]
       have hz:(#[some en]:Array (Option MapEntry)).size=1:=rfl
       rw [hz]
       simp only [hch,Result.andThen_ok]
       have hi:(#[some en]:Array (Option MapEntry))[0]? = some (some en):=rfl
       simp only [hi,Sem.run_bind,ej g1 (fun _ _ _ e=>by cases e),Result.andThen_ok,Sem.run_pure]
      ·cases h
 ·cases h
end
section
variable {P:Program} {τ:Nat->AV} {η:au} {d:Option Tmp} {ty:TypeId} {pos:String} {af:Array Edge} {g:Option (Nat×Bool)}
def Hh (P:Program) (t:Nat) (cs:List AV) (off:Nat):Option AV:=match el P t with
 | none=>none
 | some none=>cs[off]?
 | some (some n)=>match cn off n cs with
  | some ds=>some (.agg ds)
  | none=>none
theorem C4 {t off:Nat} {cs:List AV} {v:AV} (h:Hh P t cs off=some v) {C:Ctx} {vs:Array Value} (hl:cs.length=vs.size) (hi:∀ i (h:i < cs.length) (h':i < vs.size),VR C cs[i] vs[i]) (w:World):∃ x,(part t vs off).run P w=.ok x w/\VR C v x:=by
 unfold Hh at h
 split at h
 ·cases h
 ·rename_i hr
  obtain ⟨hlt,rfl⟩:=List.getElem?_eq_some_iff.1 h
  refine ⟨vs[off]'(by omega),?_,hi off hlt (by omega)⟩
  unfold el at hr
  cases hu:P.underlying t with
  | none=>rw [hu] at hr; cases hin:P.info? t <;> rw [hin] at hr <;> cases hr
  | some dd=>
   rw [hu] at hr
   have hv:vs[off]? = some (vs[off]'(by omega)):=Array.getElem?_eq_getElem (by omega)
   cases dd <;> first
    | (simp [part,isAgg,Sem.run_bind,run_underlying hu,hv]; done)
    | (cases hin:P.info? t <;> rw [hin] at hr <;> simp at hr)
 ·rename_i n hr
  split at h
  ·rename_i ds hd
   simp only [Zh] at h
   subst h
   obtain ⟨hle,rfl⟩:=dk _ _ _ _ hd
   refine ⟨.agg (vs.extract off (off+n)),?_,.agg (by simp; omega) (fun i h1 h2=>?_)⟩
   ·unfold el at hr
    cases hu:P.underlying t with
    | none=>rw [hu] at hr; cases hin:P.info? t <;> rw [hin] at hr <;> cases hr
    | some dd=>
     rw [hu] at hr
     cases dd <;> first
      |(
       cases hin:P.info? t with
       | none=>rw [hin] at hr; cases hr
       | some inf=>
        rw [hin] at hr
        simp only [Zh] at hr
        subst hr
        simp [part,isAgg,sizeOf,typeInfo,Sem.run_bind,run_underlying hu,run_program,hin]; done)
      | (cases hin:P.info? t <;> rw [hin] at hr <;> simp at hr)
   ·have h1':i < n:=by simp at h1; omega
    simp only [List.getElem_take,List.getElem_drop,Array.getElem_extract]
    exact hi _ (by omega) (by omega)
  ·cases h
def Bm (P:Program) (t i:Nat):Option (Nat×Nat):=match P.underlying t with
 | some (.struct fs)=>(fs[i]?).map fun f=>(f.offset,f.type)
 | _=>none
def Dt (P:Program) (τ:Nat->AV) (u t:Nat) (x:Operand) (i:Nat):Option Rec:=match Bm P t i with
 | none=>none
 | some (off,ft)=>match aev τ x with
  | .agg cs=>match Hh P ft cs off with
   | some v=>some ⟨[],[],v,u⟩
   | none=>none
  | _=>none
theorem z7 {u t i:Nat} {x:Operand} {r:Rec} (h:Dt P τ u t x i=some r):LOp P ⟨d,.field t x i,ty,pos,af,g⟩ τ η r.fp r.δ r.v:=by
 unfold Dt at h
 split at h
 ·cases h
 ·rename_i off ft hf
  split at h
  ·rename_i cs hx
   split at h
   ·rename_i v hv
    simp only [Zh] at h
    subst h
    refine .look [] fun C a hg hxs _=>?_
    have e1:=hxs x (by simp [Op.operands])
    rw [hx] at e1
    obtain ⟨vs,e2,e3,e4⟩:=e1.agg_inv
    obtain ⟨y,hy,hvy⟩:=C4 hv e3 e4 C.w
    refine ⟨y,?_,hvy⟩
    unfold Bm at hf
    split at hf
    ·rename_i fs hu
     cases hfi:fs[i]? with
     | none=>rw [hfi] at hf; cases hf
     | some f=>
      rw [hfi] at hf
      simp only [Option.map_some,Zh,Prod.mk.injEq] at hf
      obtain ⟨rfl,rfl⟩:=hf
      simp only [execOp,e2,Instr.field,Sem.run_bind,run_underlying hu,Result.andThen_ok,hfi,asAgg,Sem.run_pure,hy]
    ·cases hf
   ·cases h
  ·cases h
def Id (P:Program) (τ:Nat->AV) (u t:Nat) (x i:Operand):Option Rec:=match P.underlying t with
 | some (.array len e)=>match aa P e with
  | none=>none
  | some n=>match aev τ i with
   | .v (.int k (.ofNat j))=>bif Nat.blt j len then (match aev τ x with
    | .agg cs=>match Hh P e cs (j * n) with
     | some v=>some ⟨[],[],v,u⟩
     | none=>none
    | _=>none) else none
   | _=>none
 | _=>none
theorem Ic {u t:Nat} {x i:Operand} {r:Rec} (h:Id P τ u t x i=some r):LOp P ⟨d,.index t x i,ty,pos,af,g⟩ τ η r.fp r.δ r.v:=by
 unfold Id at h
 split at h
 ·rename_i len e hu
  split at h
  ·cases h
  ·rename_i n hs
   split at h
   ·rename_i k j hi
    cases hlt:Nat.blt j len with
    | false=>rw [hlt] at h; simp at h
    | true=>
     rw [hlt] at h
     simp only [cond_true] at h
     have hlt':j < len:=by simpa using hlt
     split at h
     ·rename_i cs hx
      split at h
      ·rename_i v hv
       simp only [Zh] at h
       subst h
       refine .look [] fun C a hg hxs _=>?_
       have e1:=hxs x (by simp [Op.operands])
       have e0:=hxs i (by simp [Op.operands])
       rw [hx] at e1
       rw [hi] at e0
       have e0':=e0.v_inv
       obtain ⟨vs,e2,e3,e4⟩:=e1.agg_inv
       obtain ⟨y,hy,hvy⟩:=C4 hv e3 e4 C.w
       refine ⟨y,?_,hvy⟩
       unfold aa at hs
       cases hin:P.info? e with
       | none=>rw [hin] at hs; cases hs
       | some inf=>
        rw [hin] at hs
        simp only [Option.map_some,Zh] at hs
        subst hs
        have c1:(0:Int)<=Int.ofNat j/\Int.ofNat j < (len:Int):=⟨by simp,by simp; exact_mod_cast hlt'⟩
        have c2:(Int.ofNat j).toNat=j:=rfl
        simp only [execOp,e2,e0',Instr.index,asIntOf,Sem.run_bind,Sem.run_pure,Result.andThen_ok,run_underlying hu,c1,and_self,if_true,sizeOf,typeInfo,run_program,hin,c2,hy]
      ·cases h
     ·cases h
   ·cases h
 ·cases h
def xm (τ:Nat->AV) (dflt:Nat):Option Operand->Option Nat
 | none=>some dflt
 | some x=>match aev τ x with
  | .v (.int _ (.ofNat n))=>some n
  | _=>none
def y8 (P:Program) (τ:Nat->AV) (η:au) (u t:Nat) (x:Operand) (lo hi:Option Operand):Option Rec:=match P.underlying t with
 | some (.slice e)=>match aa P e with
  | none=>none
  | some n=>match aev τ x with
   | .sl id ver off len=>match fm η id ver with
    | none=>none
    | some b=>match xm τ 0 lo with
     | none=>none
     | some l=>match xm τ len hi with
      | none=>none
      | some h=>bif Nat.ble l h&&Nat.ble h len&&Nat.beq b.esz n then some ⟨[id],[],.sl id ver (off+l * n) (h - l),u⟩ else none
   | .tree m rows=>match xm τ 0 lo with
    | none=>none
    | some l=>match xm τ rows.length hi with
     | none=>none
     | some h=>bif Nat.ble l h&&Nat.ble h rows.length&&Nat.beq m n then some ⟨[],[],.tree m ((rows.drop l).take (h - l)),u⟩ else none
   | _=>none
 | _=>none
theorem qm {a:Act} {len cap l h:Nat} {lo hi:Option Operand} {w:World} (hlo:∀ x,lo=some x->∃ k,a.eval x=.int k (Int.ofNat l)) (hlo0:lo=none->l=0) (hhi:∀ x,hi=some x->∃ k,a.eval x=.int k (Int.ofNat h)) (hhi0:hi=none->h=len) (h1:l<=h) (h2:h<=cap) :
  (Instr.sliceBounds true len cap (lo.map a.eval) (hi.map a.eval) none).run P w=.ok (l,h,cap) w:=by
 have hb:∀ (k:IntKind) (n y:Nat) (code:BoundsCode),n<=y->(Instr.sliceBound (.int k (Int.ofNat n)) y code).run P w=.ok n w:=by
  intro k n y code hn
  have c1:(0:Int)<=Int.ofNat n/\Int.ofNat n<=(y:Int):=⟨by simp,by simp; exact_mod_cast hn⟩
  simp only [Instr.sliceBound,asIntOf,Sem.run_bind,Sem.run_pure,Result.andThen_ok,c1,and_self,if_true]
  rfl
 cases lo with
 | none=>
  have:=hlo0 rfl
  subst this
  cases hi with
  | none=>
   have:=hhi0 rfl
   subst this
   simp only [Instr.sliceBounds,Option.map_none,Sem.run_bind,Sem.run_pure,Result.andThen_ok]
  | some y=>
   obtain ⟨k,e⟩:=hhi y rfl
   simp only [Instr.sliceBounds,Option.map_some,Option.map_none,Sem.run_bind,e,hb _ _ _ _ h2,Sem.run_pure,Result.andThen_ok]
 | some x=>
  obtain ⟨k,e⟩:=hlo x rfl
  cases hi with
  | none=>
   have:=hhi0 rfl
   subst this
   simp only [Instr.sliceBounds,Option.map_some,Option.map_none,Sem.run_bind,e,hb _ _ _ _ h1,Sem.run_pure,Result.andThen_ok]
  | some y=>
   obtain ⟨k',e'⟩:=hhi y rfl
   simp only [Instr.sliceBounds,Option.map_some,Option.map_none,Sem.run_bind,e,e',hb _ _ _ _ h1,hb _ _ _ _ h2,Sem.run_pure,Result.andThen_ok]
theorem Db {dflt n:Nat} {x:Option Operand} (h:xm τ dflt x=some n):(x=none->n=dflt)/\∀ y,x=some y->∃ k,aev τ y=.v (.int k (Int.ofNat n)):=by
 unfold xm at h
 split at h
 ·simp only [Zh] at h
  exact ⟨fun _=>h.symm,fun y hy=>by cases hy⟩
 ·rename_i y
  split at h
  ·rename_i k m hy
   simp only [Zh] at h
   subst h
   exact ⟨fun e=>(by cases e),fun y' e=>(by cases e; exact ⟨k,hy⟩)⟩
  ·cases h
theorem oe {t e n:Nat} (hu:P.underlying t=some (.slice e)) (hs:aa P e=some n) {a:Act} {ad:Option Addr} {len cap l h:Nat} {lo hi:Option Operand} {w:World} (hb:(Instr.sliceBounds true len cap (lo.map a.eval) (hi.map a.eval) none).run P w=.ok (l,h,cap) w) :
  (Instr.sliceAt t (.slice ad len cap) (lo.map a.eval) (hi.map a.eval) none).run P w=.ok (.slice (if cap=l then ad else ad.map (·.add (l * n))) (h - l) (cap - l)) w:=by
 unfold aa at hs
 cases hin:P.info? e with
 | none=>rw [hin] at hs; cases hs
 | some inf=>
  rw [hin] at hs
  simp only [Option.map_some,Zh] at hs
  subst hs
  simp only [Instr.sliceAt,Instr.slice,Sem.run_bind,run_underlying hu,Result.andThen_ok,hb,sizeOf,typeInfo,run_program,hin,Sem.run_pure]
theorem y7 {u t:Nat} {x:Operand} {lo hi:Option Operand} {r:Rec} (h:y8 P τ η u t x lo hi=some r):LOp P ⟨d,.slice t x lo hi none,ty,pos,af,g⟩ τ η r.fp r.δ r.v:=by
 unfold y8 at h
 split at h
 ·rename_i e hu
  split at h
  ·cases h
  ·rename_i n hs
   have hops:∀ {C:Ctx} {a:Act} {l h:Nat} {d0:Nat} {d1:Nat},(∀ x'∈(Op.slice t x lo hi none).operands,VR C (aev τ x') (a.eval x'))->xm τ d0 lo=some l->xm τ d1 hi=some h ->
     (∀ y,lo=some y->∃ k,a.eval y=.int k (Int.ofNat l))/\(lo=none->l=d0)/\(∀ y,hi=some y->∃ k,a.eval y=.int k (Int.ofNat h))/\(hi=none->h=d1):=by
    intro C a l h d0 d1 hxs h1 h2
    obtain ⟨p1,p2⟩:=Db h1
    obtain ⟨q1,q2⟩:=Db h2
    refine ⟨fun y hy=>?_,p1,fun y hy=>?_,q1⟩
    ·obtain ⟨k,hk⟩:=p2 y hy
     have:=hxs y (by subst hy; simp [Op.operands])
     rw [hk] at this
     exact ⟨k,this.v_inv⟩
    ·obtain ⟨k,hk⟩:=q2 y hy
     have:=hxs y (by subst hy; simp [Op.operands])
     rw [hk] at this
     exact ⟨k,this.v_inv⟩
   split at h
   ·rename_i id ver off len hx
    split at h
    ·cases h
    ·rename_i b hb
     obtain ⟨b1,b2,b3⟩:=cb hb
     split at h
     ·cases h
     ·rename_i l hl
      split at h
      ·cases h
      ·rename_i hh hhi
       cases hc:(Nat.ble l hh&&Nat.ble hh len&&Nat.beq b.esz n) with
       | false=>rw [hc] at h; simp at h
       | true=>
        rw [hc] at h
        simp only [cond_true,Zh] at h
        subst h
        simp only [Bool.and_eq_true] at hc
        have c1:=Nat.le_of_ble_eq_true hc.1.1
        have c2:=Nat.le_of_ble_eq_true hc.1.2
        have c3:=Zg hc.2
        refine .look [id] fun C a hg hxs hfp=>?_
        have hbC:C.η id=some b:=(hfp id (by simp)).trans b1
        have e1:=hxs x (by simp [Op.operands])
        rw [hx] at e1
        obtain ⟨ad,cap,e2,k1,k2,k3,k4⟩:=e1.sl_inv hbC b2 b3
        obtain ⟨o1,o2,o3,o4⟩:=hops hxs hl hhi
        have hbd:=qm (P:=P) (w:=C.w) (len:=len) (cap:=cap) o1 o2 o3 o4 c1 (by omega)
        refine ⟨.slice (if cap=l then some ad else (some ad).map (·.add (l * n))) (hh - l) (cap - l),?_,?_⟩
        ·simp only [execOp,e2,Option.map_none,Sem.run_bind,oe hu hs hbd,Result.andThen_ok]
         rfl
        ·by_cases hcl:cap=l
         ·have z1:hh - l=0:=by omega
          have z2:cap - l=0:=by omega
          rw [if_pos hcl,z1,z2]
          exact .slz hbC b2 b3
         ·rw [if_neg hcl]
          rcases k4 with ⟨k4,k5⟩ | ⟨k4,k5⟩
          ·omega
          ·subst k4
           have hadd:(Addr.add ⟨(C.ρ id).1,(C.ρ id).2+off,none⟩ (l * n))=⟨(C.ρ id).1,(C.ρ id).2+(off+l * n),none⟩:=by
            simp [Addr.add,Nat.add_assoc]
           simp only [Option.map_some,hadd]
           refine .sl hbC b2 b3 (by omega) (by omega) (by omega) ?_
           rw [c3] at k5 ⊢
           have:l * n+(cap - l) * n=cap * n:=by rw [<- Nat.add_mul]; congr 1; omega
           omega
   ·rename_i m rows hx
    split at h
    ·cases h
    ·rename_i l hl
     split at h
     ·cases h
     ·rename_i hh hhi
      cases hc:(Nat.ble l hh&&Nat.ble hh rows.length&&Nat.beq m n) with
      | false=>rw [hc] at h; simp at h
      | true=>
       rw [hc] at h
       simp only [cond_true,Zh] at h
       subst h
       simp only [Bool.and_eq_true] at hc
       have c1:=Nat.le_of_ble_eq_true hc.1.1
       have c2:=Nat.le_of_ble_eq_true hc.1.2
       have c3:=Zg hc.2
       subst c3
       refine .look [] fun C a hg hxs hfp=>?_
       have e1:=hxs x (by simp [Op.operands])
       rw [hx] at e1
       have e2:=e1.tree_inv
       generalize hxe:a.eval x=xv at e2
       obtain ⟨o1,o2,o3,o4⟩:=hops hxs hl hhi
       cases e2 with
       | tree cell hT q1 q2 q3 q4 q5 q6=>
        rename_i bb off cap
        have hbd:=qm (P:=P) (w:=C.w) (len:=rows.length) (cap:=cap) o1 o2 o3 o4 c1 (by omega)
        refine ⟨_,by simp only [execOp,hxe,Option.map_none,Sem.run_bind,oe hu hs hbd,Result.andThen_ok]; rfl,?_⟩
        by_cases hcl:cap=l
        ·have z1:hh - l=0:=by omega
         have z2:cap - l=0:=by omega
         have z3:(rows.drop l).take (hh - l)=[]:=by rw [z1]; simp
         rw [if_pos hcl,z1,z2]
         rw [show List.take 0 (List.drop l rows)=[] by simp]
         exact .imm (.tree0 (by omega))
        ·rw [if_neg hcl]
         have hadd:(Addr.add ⟨bb,off,none⟩ (l * m))=⟨bb,off+l * m,none⟩:=by simp [Addr.add]
         simp only [Option.map_some,hadd]
         have hlen:((rows.drop l).take (hh - l)).length=hh - l:=by simp; omega
         have key:VR C (.tree m ((rows.drop l).take (hh - l))) (.slice (some ⟨bb,off+l * m,none⟩) ((rows.drop l).take (hh - l)).length (cap - l)):=?_
         ·rw [hlen] at key; exact key
         refine .imm (.tree (fun k j=>cell (l+k) j) hT (by rw [hlen]; omega) (by omega) (by rw [hlen]; omega) (fun k hk=>?_) (fun k j hk hj=>?_) (fun k hk j hj=>?_))
         ·simp only [List.getElem_take,List.getElem_drop]
          exact q4 _ _
         ·rw [hlen] at hk
          have:=q5 (l+k) j (by omega) hj
          rw [<- this]
          congr 2
          rw [Nat.add_mul]; omega
         ·rw [hlen] at hk
          simp only [List.getElem_take,List.getElem_drop] at hj ⊢
          exact q6 (l+k) (by omega) j hj
       | tree0 hcap=>
        rename_i ad cap
        have hz:l=0:=by simp at c2; omega
        have hz':hh=0:=by simp at c2; omega
        have hbd:=qm (P:=P) (w:=C.w) (len:=0) (cap:=cap) o1 o2 o3 o4 c1 (by omega)
        refine ⟨_,by simp only [execOp,hxe,Option.map_none,Sem.run_bind,oe hu hs hbd,Result.andThen_ok]; rfl,?_⟩
        subst hz
        subst hz'
        exact .imm (.tree0 (by omega))
   ·cases h
 ·cases h
/-- Is not nil. -/
def ta (η:au):AV->Option (List Nat)
 | .sl id ver off len=>match fm η id ver with
  | some _=>some [id]
  | none=>none
 | .ptr id ver off=>match fm η id ver with
  | some _=>some [id]
  | none=>none
 | .mp id ver=>match nv η id ver with
  | some _=>some [id]
  | none=>none
 | .clo _ _=>some []
 | .tree n (_ :: _)=>some []
 | .tp _ _=>some []
 | _=>none
def isNil:AV->Bool
 | .v (.slice none _ _)=>true
 | .v (.pointer none)=>true
 | .v (.map none)=>true
 | .v .nilFunc=>true
 | _=>false
/-- The kind of nil that belongs to a value that is not nil. -/
def ke (P:Program) (t:Nat):AV->AV->Bool
 | .sl _ _ _ _,.v (.slice none _ _)=>match P.underlying t with | some (.slice _)=>true | _=>false
 | .tree _ _,.v (.slice none _ _)=>match P.underlying t with | some (.slice _)=>true | _=>false
 | .ptr _ _ _,.v (.pointer none)=>match P.underlying t with | some (.pointer _)=>true | _=>false
 | .tp _ _,.v (.pointer none)=>match P.underlying t with | some (.pointer _)=>true | _=>false
 | .mp _ _,.v (.map none)=>match P.underlying t with | some (.map _ _)=>true | _=>false
 | .clo _ _,.v .nilFunc=>match P.underlying t with | some (.func _ _ _)=>true | _=>false
 | _,_=>false
/-- A value that is not nil beside a nil of its kind. -/
inductive NE (P:Program) (t:Nat):Value->Value->Prop where
 | sl {e:TypeId} {ad:Addr} {a b l c:Nat}:P.underlying t=some (.slice e)->NE P t (.slice (some ad) a b) (.slice none l c)
 | pt {e:TypeId} {ad:Addr}:P.underlying t=some (.pointer e)->NE P t (.pointer (some ad)) (.pointer none)
 | mp {k e:TypeId} {r:Nat}:P.underlying t=some (.map k e)->NE P t (.map (some r)) (.map none)
 | fn {a b c} {f:Fn} {x y:Array Value}:P.underlying t=some (.func a b c)->NE P t (.func f x y) .nilFunc
theorem NE.eq1 {t:Nat} {x y:Value} (h:NE P t x y) (n:Nat) (w:World):(Op.equalIn (n+1) t x y).run P w=.ok false w:=by
 cases h with
 | sl hu=>simp only [Op.equalIn,Sem.run_bind,run_underlying hu,Result.andThen_ok,Sem.run_pure]
 | pt hu=>simp only [Op.equalIn,Sem.run_bind,run_underlying hu,Result.andThen_ok,Sem.run_pure]
 | mp hu=>simp only [Op.equalIn,Sem.run_bind,run_underlying hu,Result.andThen_ok,Sem.run_pure]
 | fn hu=>simp only [Op.equalIn,Sem.run_bind,run_underlying hu,Result.andThen_ok,Sem.run_pure]
theorem NE.eq2 {t:Nat} {x y:Value} (h:NE P t x y) (n:Nat) (w:World):(Op.equalIn (n+1) t y x).run P w=.ok false w:=by
 cases h with
 | sl hu=>simp only [Op.equalIn,Sem.run_bind,run_underlying hu,Result.andThen_ok,Sem.run_pure,Option.isNone_some]
 | pt hu=>simp only [Op.equalIn,Sem.run_bind,run_underlying hu,Result.andThen_ok,Sem.run_pure,Option.isNone_some]
 | mp hu=>simp only [Op.equalIn,Sem.run_bind,run_underlying hu,Result.andThen_ok,Sem.run_pure,Option.isNone_some]
 | fn hu=>simp only [Op.equalIn,Sem.run_bind,run_underlying hu,Result.andThen_ok,Sem.run_pure]
theorem NE.run1 {t:Nat} {x y:Value} (h:NE P t x y) (w:World):(Op.equal t x y).run P w=.ok false w:=h.eq1 9999 w
theorem NE.run2 {t:Nat} {x y:Value} (h:NE P t x y) (w:World):(Op.equal t y x).run P w=.ok false w:=h.eq2 9999 w
theorem NE.op1 {t:Nat} {x y:Value} (h:NE P t x y) (o1 o2:Operand) (w:World):(eqGuard .eql t o1 o2 x y).run P w=.ok () w/\(eqGuard .neq t o1 o2 x y).run P w=.ok () w/\(binOp .eql t x y).run P w=.ok (.bool false) w/\(binOp .neq t x y).run P w=.ok (.bool true) w:=by
 have e1:binOp .eql t x y=(do pure (.bool (<- Op.equal t x y))):=by cases h <;> rfl
 have e2:binOp .neq t x y=(do pure (.bool (!(<- Op.equal t x y)))):=by cases h <;> rfl
 have e3:eqGuard .eql t o1 o2 x y=pure ():=by cases h <;> rfl
 have e4:eqGuard .neq t o1 o2 x y=pure ():=by cases h <;> rfl
 rw [e1,e2,e3,e4]
 refine ⟨rfl,rfl,?_,?_⟩ <;> simp only [Sem.run_bind,h.run1,Result.andThen_ok,Sem.run_pure,Bool.not_false]
theorem NE.op2 {t:Nat} {x y:Value} (h:NE P t x y) (o1 o2:Operand) (w:World):(eqGuard .eql t o1 o2 y x).run P w=.ok () w/\(eqGuard .neq t o1 o2 y x).run P w=.ok () w/\(binOp .eql t y x).run P w=.ok (.bool false) w/\(binOp .neq t y x).run P w=.ok (.bool true) w:=by
 have e1:binOp .eql t y x=(do pure (.bool (<- Op.equal t y x))):=by cases h <;> rfl
 have e2:binOp .neq t y x=(do pure (.bool (!(<- Op.equal t y x)))):=by cases h <;> rfl
 have e3:eqGuard .eql t o1 o2 y x=pure ():=by cases h <;> rfl
 have e4:eqGuard .neq t o1 o2 y x=pure ():=by cases h <;> rfl
 rw [e1,e2,e3,e4]
 refine ⟨rfl,rfl,?_,?_⟩ <;> simp only [Sem.run_bind,h.run2,Result.andThen_ok,Sem.run_pure,Bool.not_false]
theorem Ln {t:Nat} {a c:AV} {fp:List Nat} (hs:ta η a=some fp) (hn:ke P t a c=true) {C:Ctx} (hfp:∀ id∈fp,C.η id=η id) {x y:Value} (hx:VR C a x) (hy:VR C c y):NE P t x y:=by
 unfold ke at hn
 split at hn
 ·rename_i id ver off len l1 l2
  split at hn
  ·rename_i e hu
   obtain rfl:=hy.v_inv
   simp only [ta] at hs
   cases hb:fm η id ver with
   | none=>rw [hb] at hs; cases hs
   | some b=>
    rw [hb] at hs
    simp only [Zh] at hs
    subst hs
    obtain ⟨b1,b2,b3⟩:=cb hb
    obtain ⟨ad,cap,rfl,_⟩:=hx.sl_inv ((hfp id (by simp)).trans b1) b2 b3
    exact .sl hu
  ·cases hn
 ·rename_i n rows l1 l2
  split at hn
  ·rename_i e hu
   obtain rfl:=hy.v_inv
   cases rows with
   | nil=>cases hs
   | cons row rows=>
    have hx':=hx.tree_inv
    cases hx' with
    | tree cell hT q1 q2 q3 q4 q5 q6=>exact .sl hu
  ·cases hn
 ·rename_i id ver off
  split at hn
  ·rename_i e hu
   obtain rfl:=hy.v_inv
   simp only [ta] at hs
   cases hb:fm η id ver with
   | none=>rw [hb] at hs; cases hs
   | some b=>
    rw [hb] at hs
    simp only [Zh] at hs
    subst hs
    obtain ⟨b1,b2,b3⟩:=cb hb
    obtain rfl:=hx.ptr_inv ((hfp id (by simp)).trans b1) b2
    exact .pt hu
  ·cases hn
 ·rename_i cs o
  split at hn
  ·rename_i e hu
   obtain rfl:=hy.v_inv
   have hx':=hx.tp_inv
   cases hx' with
   | tp cell hT hc hr=>exact .pt hu
  ·cases hn
 ·rename_i id ver
  split at hn
  ·rename_i k e hu
   obtain rfl:=hy.v_inv
   simp only [ta] at hs
   cases hb:nv η id ver with
   | none=>rw [hb] at hs; cases hs
   | some q=>
    obtain ⟨b,clock,es⟩:=q
    rw [hb] at hs
    simp only [Zh] at hs
    subst hs
    obtain ⟨b1,b2⟩:=gp hb
    obtain rfl:=hx.mp_inv ((hfp id (by simp)).trans b1) (by rw [b2]; rfl)
    exact .mp hu
  ·cases hn
 ·rename_i f caps
  split at hn
  ·rename_i a b c hu
   obtain rfl:=hy.v_inv
   obtain ⟨vs,rfl,_⟩:=hx.clo_inv
   exact .fn hu
  ·cases hn
 ·cases hn
def T3 (P:Program) (τ:Nat->AV) (η:au) (u t:Nat) (op:BinOp) (x y:Operand):Option Rec :=
 match op with
 | .eql=>match ta η (aev τ x) with
  | some fp=>bif ke P t (aev τ x) (aev τ y) then some ⟨fp,[],.v (.bool false),u⟩ else none
  | none=>match ta η (aev τ y) with
   | some fp=>bif ke P t (aev τ y) (aev τ x) then some ⟨fp,[],.v (.bool false),u⟩ else none
   | none=>none
 | .neq=>match ta η (aev τ x) with
  | some fp=>bif ke P t (aev τ x) (aev τ y) then some ⟨fp,[],.v (.bool true),u⟩ else none
  | none=>match ta η (aev τ y) with
   | some fp=>bif ke P t (aev τ y) (aev τ x) then some ⟨fp,[],.v (.bool true),u⟩ else none
   | none=>none
 | _=>none
theorem Hs {u t t':Nat} {op:BinOp} {x y:Operand} {r:Rec} (h:T3 P τ η u t op x y=some r):LOp P ⟨d,.binOp op t x y t',ty,pos,af,g⟩ τ η r.fp r.δ r.v:=by
 have m1:∀ (fp:List Nat),ta η (aev τ x)=some fp->ke P t (aev τ x) (aev τ y)=true->(op=.eql->LOp P ⟨d,.binOp op t x y t',ty,pos,af,g⟩ τ η fp [] (.v (.bool false)))/\(op=.neq->LOp P ⟨d,.binOp op t x y t',ty,pos,af,g⟩ τ η fp [] (.v (.bool true))):=by
  intro fp hs hn
  constructor
  ·rintro rfl
   refine .look fp fun C a hg hxs hfp=>?_
   have hne:=Ln hs hn hfp (hxs x (by simp [Op.operands])) (hxs y (by simp [Op.operands]))
   obtain ⟨q1,q2,q3,q4⟩:=hne.op1 x y C.w
   exact ⟨_,by simp only [execOp,Sem.run_bind,q1,q3,Result.andThen_ok,Sem.run_pure],VR.v C _⟩
  ·rintro rfl
   refine .look fp fun C a hg hxs hfp=>?_
   have hne:=Ln hs hn hfp (hxs x (by simp [Op.operands])) (hxs y (by simp [Op.operands]))
   obtain ⟨q1,q2,q3,q4⟩:=hne.op1 x y C.w
   exact ⟨_,by simp only [execOp,Sem.run_bind,q2,q4,Result.andThen_ok,Sem.run_pure],VR.v C _⟩
 have m2:∀ (fp:List Nat),ta η (aev τ y)=some fp->ke P t (aev τ y) (aev τ x)=true->(op=.eql->LOp P ⟨d,.binOp op t x y t',ty,pos,af,g⟩ τ η fp [] (.v (.bool false)))/\(op=.neq->LOp P ⟨d,.binOp op t x y t',ty,pos,af,g⟩ τ η fp [] (.v (.bool true))):=by
  intro fp hs hn
  constructor
  ·rintro rfl
   refine .look fp fun C a hg hxs hfp=>?_
   have hne:=Ln hs hn hfp (hxs y (by simp [Op.operands])) (hxs x (by simp [Op.operands]))
   obtain ⟨q1,q2,q3,q4⟩:=hne.op2 x y C.w
   exact ⟨_,by simp only [execOp,Sem.run_bind,q1,q3,Result.andThen_ok,Sem.run_pure],VR.v C _⟩
  ·rintro rfl
   refine .look fp fun C a hg hxs hfp=>?_
   have hne:=Ln hs hn hfp (hxs y (by simp [Op.operands])) (hxs x (by simp [Op.operands]))
   obtain ⟨q1,q2,q3,q4⟩:=hne.op2 x y C.w
   exact ⟨_,by simp only [execOp,Sem.run_bind,q2,q4,Result.andThen_ok,Sem.run_pure],VR.v C _⟩
 unfold T3 at h
 split at h
 ·split at h
  ·rename_i fp hs
   cases hn:ke P t (aev τ x) (aev τ y) with
   | false=>rw [hn] at h; simp at h
   | true=>
    rw [hn] at h
    simp only [cond_true,Zh] at h
    subst h
    exact (m1 fp hs hn).1 rfl
  ·split at h
   ·rename_i fp hs
    cases hn:ke P t (aev τ y) (aev τ x) with
    | false=>rw [hn] at h; simp at h
    | true=>
     rw [hn] at h
     simp only [cond_true,Zh] at h
     subst h
     exact (m2 fp hs hn).1 rfl
   ·cases h
 ·split at h
  ·rename_i fp hs
   cases hn:ke P t (aev τ x) (aev τ y) with
   | false=>rw [hn] at h; simp at h
   | true=>
    rw [hn] at h
    simp only [cond_true,Zh] at h
    subst h
    exact (m1 fp hs hn).2 rfl
  ·split at h
   ·rename_i fp hs
    cases hn:ke P t (aev τ y) (aev τ x) with
    | false=>rw [hn] at h; simp at h
    | true=>
     rw [hn] at h
     simp only [cond_true,Zh] at h
     subst h
     exact (m2 fp hs hn).2 rfl
   ·cases h
 ·cases h
/-- The further operations. -/
def extE (P:Program) (E:ESX) (o:Oper):Option Rec:=match o.op with
 | .makeMap t none=>some ⟨[],[(E.u,some (bn 0 0 0 []))],.mp E.u 0,E.u+1⟩
 | .lookup t x i ok=>H5 P (bm E.t) (bc E.h) E.u t x i ok
 | .mapUpdate t m k x=>tz P (bm E.t) (bc E.h) E.u t m k x
 | .insert t m k x=>tz P (bm E.t) (bc E.h) E.u t m k x
 | .mapEntry t m k=>Be P (bm E.t) (bc E.h) E.u t m k
 | .entryStore t m s x=>uo P (bm E.t) (bc E.h) E.u t m s x
 | .range t x=>Cz P (bm E.t) (bc E.h) E.u t x
 | .next x s=>Ba P (bm E.t) (bc E.h) E.u x s
 | .field t x i=>Dt P (bm E.t) E.u t x i
 | .index t x i=>Id P (bm E.t) E.u t x i
 | .slice t x lo hi none=>y8 P (bm E.t) (bc E.h) E.u t x lo hi
 | .binOp op t x y _=>T3 P (bm E.t) (bc E.h) E.u t op x y
 | .call ⟨.builtin .len,⟨[x]⟩,ats⟩=>Qr P (bm E.t) (bc E.h) E.u x ats
 | .call ⟨.builtin .delete,⟨[m,k]⟩,ats⟩=>Ym P (bm E.t) (bc E.h) E.u m k ats
 | _=>none
def Yg (P:Program):df:=fun o E=>match extE P E o with
 | some r=>zk E r
 | none=>none
theorem Rh:(Yg P).Ok P:=by
 intro o E r hl h
 unfold Yg at h
 split at h
 ·rename_i r' hr
  refine pp h ?_
  obtain ⟨d,op,ty,pos,af,g⟩:=o
  unfold extE at hr
  simp only at hr
  split at hr
  ·simp only [Zh] at hr; subst hr; exact LOp.makeMap _
  ·exact xq hr
  ·exact qq (.inl rfl) hr
  ·exact qq (.inr rfl) hr
  ·exact Et hr
  ·exact Aa hr
  ·exact zf hr
  ·exact xl hr
  ·exact z7 hr
  ·exact Ic hr
  ·exact y7 hr
  ·exact Hs hr
  ·exact Lz hr
  ·exact Rl hr
  ·cases hr
 ·cases h
end
section
variable {P:Program} {τ:Nat->AV} {η:au} {d:Option Tmp} {ty:TypeId} {pos:String} {af:Array Edge} {g:Option (Nat×Bool)}
def yu (τ:Nat->AV):List Operand->Option (List Value)
 | []=>some []
 | x :: l=>match Sn (aev τ x) with
  | none=>none
  | some v=>match yu τ l with
   | none=>none
   | some r=>some (v :: r)
theorem yt {C:Ctx} {a:Act}:∀ (l:List Operand) (r:List Value),(∀ x∈l,VR C (aev τ x) (a.eval x))->yu τ l=some r->l.map a.eval=r
 | [],r,_,h=>by simp only [yu,Zh] at h; subst h; rfl
 | x :: l,r,hx,h=>by
  simp only [yu] at h
  split at h
  ·cases h
  ·rename_i v hv
   split at h
   ·cases h
   ·rename_i r' hr
    simp only [Zh] at h
    subst h
    rw [List.map_cons,qh (hx x (by simp)) hv,yt l r' (fun y hy=>hx y (by simp [hy])) hr]
/-- A function that the model itself gives. -/
def Bp (P:Program) (τ:Nat->AV) (u:Nat) (f:FuncId) (xs:Array Operand):Option Rec:=match yu τ xs.toList with
 | none=>none
 | some vs=>match db P (callFunc f vs.toArray) with
  | some (.value y)=>some ⟨[],[],.v y,u⟩
  | _=>none
theorem E7 {u:Nat} {f:FuncId} {xs:Array Operand} {ats:Array TypeId} {r:Rec} (h:Bp P τ u f xs=some r):LOp P ⟨d,.call { callee:=.value (.func f),args:=xs,argTypes:=ats },ty,pos,af,g⟩ τ η r.fp r.δ r.v:=by
 unfold Bp at h
 split at h
 ·cases h
 ·rename_i vs hv
  split at h
  ·rename_i y hq
   simp only [Zh] at h
   subst h
   refine .look [] fun C a hg hxs _=>⟨y,?_,VR.v C y⟩
   have e1:xs.map a.eval=vs.toArray:=by
    have:=yt (a:=a) xs.toList vs (fun x hx=>hxs x (by simp [Op.operands,Call.operands]; exact .inr (by simpa using hx))) hv
    rw [<- this]
    apply Array.ext'
    simp
   have e0:execOp a.eval ⟨d,.call { callee:=.value (.func f),args:=xs,argTypes:=ats },ty,pos,af,g⟩=callFunc f (#[]++xs.map a.eval++#[]):=rfl
   rw [e0,e1]
   rw [show (#[]++vs.toArray++#[]:Array Value)=vs.toArray by simp]
   exact gn _ _ hq C.w
  ·cases h
/-- Has no elements. -/
def I7 (η:au):AV->Option (List Nat)
 | .v (.slice none 0 0)=>some []
 | .tree _ []=>some []
 | .sl id ver off 0=>match fm η id ver with
  | some _=>some [id]
  | none=>none
 | _=>none
theorem Ab {a:AV} {fp:List Nat} (h:I7 η a=some fp) {C:Ctx} (hfp:∀ id∈fp,C.η id=η id) {x:Value} (hx:VR C a x):∃ ad c,x=.slice ad 0 c:=by
 unfold I7 at h
 split at h
 ·exact ⟨_,_,hx.v_inv⟩
 ·have:=hx.tree_inv
  cases this with
  | tree=>exact ⟨_,_,rfl⟩
  | tree0=>exact ⟨_,_,rfl⟩
 ·rename_i id ver off
  split at h
  ·rename_i b hb
   simp only [Zh] at h
   subst h
   obtain ⟨b1,b2,b3⟩:=cb hb
   obtain ⟨ad,cap,e,_⟩:=hx.sl_inv ((hfp id (by simp)).trans b1) b2 b3
   exact ⟨_,_,e⟩
  ·cases h
 ·cases h
def yg (P:Program) (τ:Nat->AV) (η:au) (u t:Nat) (s x:Operand):Option Rec:=match P.underlying t with
 | some (.slice e)=>match aa P e with
  | none=>none
  | some _=>match I7 η (aev τ x) with
   | none=>none
   | some fp=>match aev τ s with
    | .v (.slice none 0 0)=>some ⟨fp,[],.v (.slice none 0 0),u⟩
    | .sl id ver off len=>match fm η id ver with
     | some _=>some ⟨id :: fp,[],.sl id ver off len,u⟩
     | none=>none
    | _=>none
 | _=>none
theorem B0 {u t:Nat} {s x:Operand} {r:Rec} (h:yg P τ η u t s x=some r):LOp P ⟨d,.call { callee:=.builtin .append,args:=#[s,x],argTypes:=#[t,t] },ty,pos,af,g⟩ τ η r.fp r.δ r.v:=by
 unfold yg at h
 split at h
 ·rename_i e ht
  split at h
  ·cases h
  ·rename_i n hs
   unfold aa at hs
   cases hi:P.info? e with
   | none=>rw [hi] at hs; cases hs
   | some inf=>
    split at h
    ·cases h
    ·rename_i fp hf
     split at h
     ·rename_i hsx
      simp only [Zh] at h
      subst h
      refine .look fp fun C a hg hxs hfp=>?_
      have e1:=hxs s (by simp [Op.operands,Call.operands])
      rw [hsx] at e1
      obtain ⟨ad,c,e2⟩:=Ab hf hfp (hxs x (by simp [Op.operands,Call.operands]))
      refine ⟨.slice none 0 0,ga C.w ?_,VR.v C _⟩
      rw [e1.v_inv,e2]
      exact dz (P:=P) (ty:=ty) ht hi C.w none ad 0 0 c (Nat.le_refl _)
     ·rename_i id ver off len hsx
      split at h
      ·rename_i b hb
       obtain ⟨b1,b2,b3⟩:=cb hb
       simp only [Zh] at h
       subst h
       refine .look (id :: fp) fun C a hg hxs hfp=>?_
       have e1:=hxs s (by simp [Op.operands,Call.operands])
       rw [hsx] at e1
       obtain ⟨ad,c,e2⟩:=Ab hf (fun i hi=>hfp i (by simp [hi])) (hxs x (by simp [Op.operands,Call.operands]))
       obtain ⟨ad',cap,e3,k1,_⟩:=e1.sl_inv ((hfp id (by simp)).trans b1) b2 b3
       refine ⟨a.eval s,ga C.w ?_,e1⟩
       rw [e3,e2]
       exact dz (P:=P) (ty:=ty) ht hi C.w (some ad') ad len cap c k1
      ·cases h
     ·cases h
 ·cases h
/-- The entry at which an iteration ju. -/
def Du (τ:Nat->AV) (η:au) (u:Nat) (x:Operand):Option Rec:=match aev τ x with
 | .it id ver=>match Bg η id ver with
  | some (b,.ofm mid mver since seen last)=>match nv η mid mver with
   | none=>none
   | some (mb,clock,es)=>bif Nat.beq clock last then (match seen.getLast? with
    | none=>none
    | some stamp=>match es.find? (fun e=>Nat.beq e.2.2 stamp) with
     | none=>none
     | some e=>some ⟨[id,mid],[],.tup [.v e.1,e.2.1],u⟩) else none
  | _=>none
 | _=>none
theorem All2.find {α β:Type} {R:α->β->Prop} {p:α->Bool} {q:β->Bool} (hpq:∀ a b,R a b->p a=q b) {l:List α} {m:List β} (h:All2 R l m) {a:α} (ha:l.find? p=some a):∃ b,m.find? q=some b/\R a b:=by
 induction h with
 | nil=>cases ha
 | cons hr _ ih=>
  rename_i a0 b0 l m _
  rw [List.find?_cons] at ha ⊢
  rw [<- hpq _ _ hr]
  cases hp:p a0 with
  | true=>
   rw [hp] at ha
   simp only [Zh] at ha
   subst ha
   exact ⟨b0,rfl,hr⟩
  | false=>
   rw [hp] at ha
   exact ih ha
theorem z8 {u:Nat} {x:Operand} {r:Rec} (h:Du τ η u x=some r):LOp P ⟨d,.entry x,ty,pos,af,g⟩ τ η r.fp r.δ r.v:=by
 unfold Du at h
 split at h
 ·rename_i id ver hx
  split at h
  ·rename_i b mid mver since seen last hb
   obtain ⟨hb1,hb2⟩:=sn hb
   have hcs:b.cs=d5 (.mp mid mver) since seen last:=by rw [hb2]; rfl
   split at h
   ·cases h
   ·rename_i mb clock es hm
    obtain ⟨hm1,hm2⟩:=gp hm
    cases hc:Nat.beq clock last with
    | false=>rw [hc] at h; simp at h
    | true=>
     rw [hc] at h
     simp only [cond_true] at h
     obtain rfl:=Zg hc
     split at h
     ·cases h
     ·rename_i stamp hst
      split at h
      ·cases h
      ·rename_i e hf
       simp only [Zh] at h
       subst h
       refine .look [id,mid] fun C a hg hxs hfp=>?_
       have hbC:C.η id=some b:=(hfp id (by simp)).trans hb1
       have hmC:C.η mid=some mb:=(hfp mid (by simp)).trans hm1
       have e1:=hxs x (by simp [Op.operands])
       rw [hx] at e1
       have e1':=e1.it_inv hbC (by rw [hb2]; rfl)
       obtain ⟨ob,g1,g2⟩:=hg.obj hbC (by rw [hb2]; rfl)
       rw [hcs] at g2
       obtain ⟨m,rfl,hvm⟩:=g2.miter_inv
       have hmv:=hvm.mp_inv hmC (by rw [hm2]; rfl)
       have hmm:m=(C.ρ mid).1:=by simpa using hmv
       subst hmm
       obtain ⟨entries,q1,q2,q3⟩:=tw hg hmC hm2
       have hall:All2 (fun (x:Value×AV×Nat) (e:MapEntry)=>e.key=x.1/\VR C x.2.1 e.val/\e.born=x.2.2) es entries.toList:=ln (by simpa using q2) (fun i h1 h2=>by simpa using q3 i h1 (by simpa using h2))
       obtain ⟨en,hen,k1,k2,k3⟩:=hall.find (q:=fun e=>e.born==stamp) (fun a b hab=>by
        rw [hab.2.2,Bool.eq_iff_iff,beq_iff_eq]
        constructor
        ·exact Zg
        ·intro e; rw [e]; exact Nat.beq_refl _) hf
       refine ⟨.tuple #[en.key,en.val],?_,VR.pair (by rw [k1]; exact VR.v C _) k2⟩
       have hback:seen.toArray.back? = some stamp:=by rw [<- hst]; simp
       have hfind:entries.find? (fun e=>e.born==stamp)=some en:=by rw [<- hen]; simp
       simp only [execOp,e1',Instr.entry,Sem.run_bind,dl g1 (fun _ _ _ e=>by cases e),Result.andThen_ok,hback,dl q1 (fun _ _ _ e=>by cases e),bne_self_eq_false,Bool.false_eq_true,if_false,hfind,Sem.run_pure]
  ·cases h
 ·cases h
/-- Further operations still. -/
def Uy (P:Program) (E:ESX) (o:Oper):Option Rec:=match o.op with
 | .call ⟨.value (.func f),xs,ats⟩=>Bp P (bm E.t) E.u f xs
 | .call ⟨.builtin .append,⟨[s,x]⟩,⟨[t,t']⟩⟩=>bif Nat.beq t t' then yg P (bm E.t) (bc E.h) E.u t s x else none
 | .entry x=>Du (bm E.t) (bc E.h) E.u x
 | _=>none
def Rj (P:Program):df:=fun o E=>match Yg P o E with
 | some r=>some r
 | none=>match Uy P E o with
  | some r=>zk E r
  | none=>none
theorem Mm:(Rj P).Ok P:=by
 intro o E r hl h
 unfold Rj at h
 split at h
 ·rename_i r' hr
  simp only [Zh] at h
  subst h
  exact Rh _ _ _ hl hr
 ·rename_i hno
  clear hno
  split at h
  ·rename_i r' hr
   refine pp h ?_
   obtain ⟨d,op,ty,pos,af,g⟩:=o
   unfold Uy at hr
   simp only at hr
   split at hr
   ·exact E7 hr
   ·rename_i s x t t'
    cases ht:Nat.beq t t' with
    | false=>rw [ht] at hr; simp at hr
    | true=>
     rw [ht] at hr
     simp only [cond_true] at hr
     obtain rfl:=Zg ht
     exact B0 hr
   ·exact z8 hr
   ·cases hr
  ·cases h
end
section
variable {P:Program} {τ:Nat->AV} {η:au} {d:Option Tmp} {ty:TypeId} {pos:String} {af:Array Edge} {g:Option (Nat×Bool)}
theorem xb {t e len cap:Nat} {inf:TypeInfo} {z:Value} (he:P.underlying t=some (.slice e)) (hi:P.info? e=some inf) (hz:inf.zero=some z) (hlc:len<=cap) (hc2:cap<=16777216) (hb2:inf.bytes * cap<=281474976710656) (w:World) :
  (Instr.makeSlice t (.int .i64 (Int.ofNat len)) (.int .i64 (Int.ofNat cap))).run P w=.ok (.slice (some ⟨w.heap.size,0,none⟩) len cap) (w.alloc (.cells ((Array.range (cap * inf.size)).map fun i=>(if cap * inf.size=0 then (#[]:Array Value) else z.cells)[i % (if cap * inf.size=0 then (#[]:Array Value) else z.cells).size]!) e)):=by
 have hw1:IntKind.i64.wrap (Int.ofNat len)=Int.ofNat len:=IntWalk.i64_in _ (by constructor <;> simp <;> omega)
 have hw2:IntKind.i64.wrap (Int.ofNat cap)=Int.ofNat cap:=IntWalk.i64_in _ (by constructor <;> simp <;> omega)
 have c1:¬ (((inf.bytes:Int) * Int.ofNat cap > 2 ^ 48)):=by
  have:(inf.bytes:Int) * Int.ofNat cap=((inf.bytes * cap:Nat):Int):=by simp
  rw [this]; omega
 have c2:¬ ((Int.ofNat cap:Int) < 0):=by simp
 have c3:¬ ((Int.ofNat len:Int) < 0):=by simp
 have c4:¬ ((Int.ofNat len:Int) > Int.ofNat cap):=by simp; omega
 simp only [Instr.makeSlice,Sem.run_bind,run_underlying he,Result.andThen_ok,asInt,typeInfo,run_program,hi,Sem.run_pure]
 have a1:∀ (n:Nat) (w:World),(asIntOf (Value.int IntKind.i64 (Int.ofNat n))).run P w=.ok (IntKind.i64,Int.ofNat n) w:=fun n w=>rfl
 simp only [a1,Result.andThen_ok,hw1,hw2]
 have cc:(decide ((Int.ofNat cap:Int) < 0)||decide ((inf.bytes:Int) * Int.ofNat cap > 2 ^ 48)||decide ((Int.ofNat len:Int) < 0)||decide ((Int.ofNat len:Int) > Int.ofNat cap))=false:=by
  simp only [Bool.or_eq_false_iff,decide_eq_false_iff_not]
  exact ⟨⟨⟨c2,c1⟩,c3⟩,c4⟩
 rw [if_neg (by rw [cc]; exact Bool.false_ne_true)]
 have tn:∀ n:Nat,(Int.ofNat n).toNat=n:=fun n=>rfl
 simp only [tn,Sem.run_bind]
 have ar:∀ w:World,(askRoom (cap * inf.bytes)).run P w=.ok () w:=fun w=>by unfold askRoom; split <;> rfl
 simp only [ar,Result.andThen_ok,sizeOf,typeInfo,Sem.run_bind,run_program,hi,Sem.run_pure]
 by_cases h0:cap * inf.size=0
 ·rw [if_pos h0]
  simp only [Sem.run_pure,Result.andThen_ok,h0,if_true]
  rfl
 ·rw [if_neg h0]
  simp only [Sem.run_bind,zeroValue,typeInfo,run_program,hi,Sem.run_pure,Result.andThen_ok,hz,h0,if_false]
  rfl
theorem vl (u:Nat) {t e len cap s bys:Nat} {z:Value} {x y:Operand} (he:P.underlying t=some (.slice e)) (hs:aa P e=some s) (hz:ax P e=some z) (hby:(P.info? e).map (·.bytes)=some bys)
  (hx:aev τ x=.v (.int .i64 (Int.ofNat len))) (hy:aev τ y=.v (.int .i64 (Int.ofNat cap))) (hlc:Nat.ble len cap=true) (hl2:Nat.ble cap 16777216=true) (hb2:Nat.ble (bys * cap) 281474976710656=true) :
  LOp P ⟨d,.makeSlice t x y,ty,pos,af,g⟩ τ η [] [(u,some ⟨0,bz z (cap * s),s,false⟩)] (.sl u 0 0 len):=by
 intro C a hg hxs _ hnew K Q hK
 have hu:¬ C.U u:=hnew (u,some ⟨0,bz z (cap * s),s,false⟩) (by simp) (by simp)
 have hl2':=Nat.le_of_ble_eq_true hl2
 have hlc':=Nat.le_of_ble_eq_true hlc
 have hb2':=Nat.le_of_ble_eq_true hb2
 have e1:=hxs x (by simp [Op.operands])
 have e2:=hxs y (by simp [Op.operands])
 rw [hx] at e1
 rw [hy] at e2
 unfold aa at hs
 unfold ax at hz
 cases hi:P.info? e with
 | none=>rw [hi] at hz; cases hz
 | some inf=>
  rw [hi] at hz hs hby
  simp only [Option.bind_some] at hz
  simp only [Option.map_some,Zh] at hs hby
  subst hs hby
  have hr:=xb he hi hz hlc' hl2' hb2' C.w
  generalize hes:((Array.range (cap * inf.size)).map fun i=>(if cap * inf.size=0 then (#[]:Array Value) else z.cells)[i % (if cap * inf.size=0 then (#[]:Array Value) else z.cells).size]!)=es at hr
  have gsz:es.size=cap * inf.size:=by rw [<- hes]; simp
  have z1:(bz z (cap * inf.size)).length=es.size:=by simp [bz,gsz]
  have z2:∀ i (h:i < (bz z (cap * inf.size)).length) (h':i < es.size),VR C (bz z (cap * inf.size))[i] es[i]:=fun i h h'=>by
   have h0:¬ (cap * inf.size=0):=by omega
   subst hes
   simp only [bz,List.getElem_map,List.getElem_range,Array.getElem_map,Array.getElem_range,h0,if_false]
   exact VR.v C _
  have hrun:(execOp a.eval ⟨d,.makeSlice t x y,ty,pos,af,g⟩).run P C.w=.ok (.value (.slice (some ⟨C.w.heap.size,0,none⟩) len cap)) (C.w.alloc (.cells es e)):=by
   simp only [execOp,e1.v_inv,e2.v_inv,Sem.run_bind,hr,Result.andThen_ok]
   rfl
  unfold Oper.wp
  rw [hrun]
  refine hK _ (C.alloc u es e ⟨0,bz z (cap * inf.size),inf.size,false⟩) rfl (fun i=>by simp [Ctx.alloc]) (du hg hu rfl (Nat.le_of_eq z1) z2) (d9 hg hu rfl) ?_
  have h3:(C.alloc u es e ⟨0,bz z (cap * inf.size),inf.size,false⟩).ρ u=(C.w.heap.size,0):=by simp [Ctx.alloc]
  have h4:(C.alloc u es e ⟨0,bz z (cap * inf.size),inf.size,false⟩).sz u=es.size:=by simp [Ctx.alloc]
  have:=VR.sl (C:=C.alloc u es e ⟨0,bz z (cap * inf.size),inf.size,false⟩) (id:=u) (ver:=0) (off:=0) (len:=len) (cap:=cap) (b:=⟨0,bz z (cap * inf.size),inf.size,false⟩) (ae _ _ _) rfl rfl hlc' (by unfold maxLen; omega) (by omega)
   (by rw [h3,h4,gsz]; simp)
  rw [h3] at this
  exact this
def om (P:Program) (τ:Nat->AV) (u t:Nat) (x y:Operand):Option Rec:=match P.underlying t with
 | some (.slice e)=>match aa P e with
  | none=>none
  | some s=>match ax P e with
   | none=>none
   | some z=>match (P.info? e).map (·.bytes) with
    | none=>none
    | some bys=>match aev τ x with
     | .v (.int .i64 (.ofNat len))=>match aev τ y with
      | .v (.int .i64 (.ofNat cap))=>bif Nat.ble len cap&&Nat.ble cap 16777216&&Nat.ble (bys * cap) 281474976710656 then
        some ⟨[],[(u,some ⟨0,bz z (cap * s),s,false⟩)],.sl u 0 0 len,u+1⟩ else none
      | _=>none
     | _=>none
 | _=>none
theorem vi {u t:Nat} {x y:Operand} {r:Rec} (h:om P τ u t x y=some r):LOp P ⟨d,.makeSlice t x y,ty,pos,af,g⟩ τ η r.fp r.δ r.v:=by
 unfold om at h
 split at h
 ·rename_i e he
  split at h
  ·cases h
  ·rename_i s hs
   split at h
   ·cases h
   ·rename_i z hz
    split at h
    ·cases h
    ·rename_i bys hby
     split at h
     ·rename_i len hx
      split at h
      ·rename_i cap hy
       cases hc:(Nat.ble len cap&&Nat.ble cap 16777216&&Nat.ble (bys * cap) 281474976710656) with
       | false=>rw [hc] at h; simp at h
       | true=>
        rw [hc] at h
        simp only [cond_true,Zh] at h
        subst h
        simp only [Bool.and_eq_true] at hc
        exact vl u he hs hz hby hx hy hc.1.1 hc.1.2 hc.2
      ·cases h
     ·cases h
 ·cases h
/-- Cells of a block written at once. -/
theorem F0 {o:Oper} {id ver off n:Nat} {b:Blk} {vs:List AV} {v:AV} (hb:η id=some b) (hv:b.ver=ver) (hn:b.nilp=false) (hl:vs.length=n) (hc:off+n<=b.cs.length) (h1:vs.all AV.one=true)
  (h:∀ (C:Ctx) (a:Act),Good C->(∀ x∈o.op.operands,VR C (aev τ x) (a.eval x))->C.η id=some b->∃ (xs:List Value) (x:Value),xs.length=vs.length/\(∀ i (h:i < vs.length) (h':i < xs.length),VR C vs[i] xs[i])/\VR C v x /\
   ((storeCells ⟨(C.ρ id).1,(C.ρ id).2+off,none⟩ xs 0).run P C.w=.ok () (C.w.setCells (C.ρ id).1 ((C.ρ id).2+off) xs)->(execOp a.eval o).run P C.w=.ok (.value x) (C.w.setCells (C.ρ id).1 ((C.ρ id).2+off) xs))) :
  LOp P o τ η [id] [(id,some { b with cs:=bp b.cs off vs })] v:=by
 intro C a hg hxs hfp _ K Q hK
 have hb':C.η id=some b:=(hfp id (by simp)).trans hb
 obtain ⟨xs,x,h2,h3,h4,h5⟩:=h C a hg hxs hb'
 obtain ⟨c,t',g1,g2,g3,g4⟩:=hg.blk hb' hn
 have hst:=run_storeCells_cells (P:=P) (C.ρ id).1 ((C.ρ id).2+off) xs 0 C.w (fun j hj=>by
  have:(C.ρ id).2+off+0+j < c.size:=by omega
  simp [World.cell?,g1]; omega) (fun j _=>by simp [World.frozen?,g1]) (fun w hw=>by
   obtain ⟨i,hi,rfl⟩:=List.getElem_of_mem hw
   exact (h3 i (by omega) hi).one (List.all_eq_true.1 h1 _ (Ze _)))
 simp only [Nat.add_zero] at hst
 have hr:=h5 hst
 have hgd:=oa (o:=off) (vs:=vs) (xs:=xs) hg hb' hn (by omega) h2 h3
 have hev:=m4 (id:=id) (b:=b) (o:=off) (vs:=vs) (xs:=xs) hg hb' hn
 unfold Oper.wp
 rw [hr]
 exact hK x (C.store id b off vs xs) rfl (fun i=>by simp [Ctx.store]; rintro rfl; exact hg.used hb') hgd hev (h4.mono hg hev)
def eu (z:Value) (n:Nat):List AV:=(Builtin.zeroCells z.cells n).toList.map .v
/-- clear of a slice. -/
def Ji (P:Program) (τ:Nat->AV) (η:au) (u:Nat) (x:Operand) (ats:Array TypeId):Option Rec:=match ats[0]? with
 | none=>none
 | some t=>match P.underlying t with
  | some (.slice e)=>match ax P e with
   | none=>none
   | some z=>match aev τ x with
    | .sl id ver off len=>match fm η id ver with
     | none=>none
     | some b=>bif Nat.beq len 0 then some ⟨[id],[],.v (.tuple #[]),u⟩ else
      bif (eu z len).all AV.one&&Nat.beq (eu z len).length (len * b.esz) then (match sb off b.cs (eu z len) with
      | some ds=>some ⟨[id],[(id,some ⟨b.ver,ds,b.esz,b.nilp⟩)],.v (.tuple #[]),u⟩
      | none=>none) else none
    | .v (.slice none 0 0)=>some ⟨[],[],.v (.tuple #[]),u⟩
    | _=>none
  | _=>none
theorem Jh {u:Nat} {x:Operand} {ats:Array TypeId} {r:Rec} (h:Ji P τ η u x ats=some r):LOp P ⟨d,.call { callee:=.builtin .clear,args:=#[x],argTypes:=ats },ty,pos,af,g⟩ τ η r.fp r.δ r.v:=by
 have hex:∀ (a:Act) (w:World),(execOp a.eval ⟨d,.call { callee:=.builtin .clear,args:=#[x],argTypes:=ats },ty,pos,af,g⟩).run P w=((Builtin.clear_ ats ty #[a.eval x]).run P w).andThen fun x w=>.ok (.value x) w:=by
  intro a w
  simp only [execOp,resolve,invoke,builtin,Sem.run_bind,Sem.run_pure,Result.andThen_ok]
  simp only [List.map_toArray,List.map_cons,List.map_nil]
 unfold Ji at h
 split at h
 ·cases h
 ·rename_i t ht
  split at h
  ·rename_i e hu
   split at h
   ·cases h
   ·rename_i z hz
    split at h
    ·rename_i id ver off len hx
     split at h
     ·cases h
     ·rename_i b hb
      obtain ⟨b1,b2,b3⟩:=cb hb
      cases hl0:Nat.beq len 0 with
      | true=>
       rw [hl0] at h
       simp only [cond_true,Zh] at h
       subst h
       have:=Zg hl0
       subst this
       refine .look [id] fun C a hg hxs hfp=>?_
       have e1:=hxs x (by simp [Op.operands,Call.operands])
       rw [hx] at e1
       obtain ⟨ad,cap,e2,_⟩:=e1.sl_inv ((hfp id (by simp)).trans b1) b2 b3
       refine ⟨.tuple #[],?_,VR.v C _⟩
       rw [hex,e2]
       simp [Builtin.clear_,ht,Sem.run_bind,run_underlying hu]
      | false=>
       rw [hl0] at h
       simp only [cond_false] at h
       cases hc:((eu z len).all AV.one&&Nat.beq (eu z len).length (len * b.esz)) with
       | false=>rw [hc] at h; simp at h
       | true=>
        rw [hc] at h
        simp only [cond_true] at h
        rw [Bool.and_eq_true] at hc
        split at h
        ·rename_i ds hd
         simp only [Zh] at h
         subst h
         obtain ⟨k3,k4⟩:=pn _ _ _ _ hd
         subst k4
         refine F0 (n:=(eu z len).length) b1 b2 b3 rfl k3 hc.1 fun C a hg hxs hbC=>?_
         have e1:=hxs x (by simp [Op.operands,Call.operands])
         rw [hx] at e1
         obtain ⟨ad,cap,e2,q1,q2,q3,q4⟩:=e1.sl_inv hbC b2 b3
         have hlen:len≠0:=fun e=>by rw [e,Nat.beq_refl] at hl0; cases hl0
         have had:ad=⟨(C.ρ id).1,(C.ρ id).2+off,none⟩:=by
          rcases q4 with ⟨h0,_⟩ | ⟨h0,_⟩
          ·exact absurd h0 hlen
          ·exact h0
         subst had
         refine ⟨(Builtin.zeroCells z.cells len).toList,.tuple #[],by simp [eu],fun i h1 h2=>by simp only [eu,List.getElem_map]; exact VR.v C _,VR.v C _,fun hst=>?_⟩
         rw [hex,e2]
         obtain ⟨m,rfl⟩:∃ m,len=m+1:=⟨len - 1,by omega⟩
         simp only [Builtin.clear_,List.getElem?_toArray,ht,Sem.run_bind,run_underlying hu,Result.andThen_ok]
         have e0:(#[Value.slice (some ⟨(C.ρ id).1,(C.ρ id).2+off,none⟩) (m+1) cap]:Array Value)[0]? = some (Value.slice (some ⟨(C.ρ id).1,(C.ρ id).2+off,none⟩) (m+1) cap):=rfl
         simp only [List.getElem?_cons_zero,Sem.run_bind,run_underlying hu,Result.andThen_ok,ja hz,hst,Sem.run_pure]
        ·cases h
    ·rename_i hx
     simp only [Zh] at h
     subst h
     refine .look [] fun C a hg hxs hfp=>?_
     have e1:=hxs x (by simp [Op.operands,Call.operands])
     rw [hx] at e1
     refine ⟨.tuple #[],?_,VR.v C _⟩
     rw [hex,e1.v_inv]
     simp [Builtin.clear_,ht,Sem.run_bind,run_underlying hu]
    ·cases h
  ·cases h
theorem r6 {t ti e:TypeId} {k:IntKind} {i:TypeInfo} {z:Value} (ht:P.underlying t=some (.slice e)) (hti:P.underlying ti=some (.int k)) (hi:P.info? e=some i) (hz:i.zero=some z) {n:Nat} (h0:0 < n) (h63:n<=16777216) (h48:n * i.bytes<=140737488355328) (hsz:¬ (n * i.size=0)) (hb0:i.bytes≠0) (w:World) :
  (Builtin.append_ #[t,ti] ty #[.slice none 0 0,.int .i64 (Int.ofNat n)]).run P w=.ok (.slice (some ⟨w.heap.size,0,none⟩) n (grownCap w n 0 e)) (w.drew.alloc (.cells (Builtin.zeroCells z.cells n++Builtin.zeroCells z.cells (grownCap w n 0 e - n)) e)):=by
 have hn:n≠0:=by omega
 have hw1:IntKind.i64.wrap (Int.ofNat n)=Int.ofNat n:=IntWalk.i64_in _ (by constructor <;> simp <;> omega)
 have c1:¬ ((Int.ofNat n:Int) < 0):=by simp
 have c2:¬ ((Int.ofNat n:Int) * (i.bytes:Int) > 2 ^ 48):=by
  have:(Int.ofNat n:Int) * (i.bytes:Int)=((n * i.bytes:Nat):Int):=by simp
  rw [this]; omega
 have h63':¬ (9223372036854775807 < (n:Int)):=by omega
 have h48':¬ (281474976710656 < Builtin.nextslicecap n 0 * i.bytes):=by rw [nextslicecap_zero h0]; omega
 have tn:(Int.ofNat n).toNat=n:=rfl
 have c1':¬ ((n:Int) < 0):=by omega
 have c2':¬ (281474976710656 < (n:Int) * (i.bytes:Int)):=by
  have:(n:Int) * (i.bytes:Int)=((n * i.bytes:Nat):Int):=by simp
  rw [this]; omega
 have hw1':IntKind.i64.wrap (n:Int)=(n:Int):=hw1
 simp [Builtin.append_,run_underlying ht,run_underlying hti,asInt,asIntOf,hw1',c1',c2',sizeOf,typeInfo,zeroValue,hi,hz,hn,h63',h48',Question.forced,run_firstCells_none,newRow,grownCap,hb0]
 intro h
 exact absurd h hsz
/-- append of n zeros to nil. -/
theorem u5 (u:Nat) {t ti e n:Nat} {k:IntKind} {i:TypeInfo} {z:Value} {s x:Operand} (ht:P.underlying t=some (.slice e)) (hti:P.underlying ti=some (.int k)) (hi:P.info? e=some i) (hz:i.zero=some z) (hzs:z.cells.size=i.size) (h0:0 < n) (h63:n<=16777216) (h48:n * i.bytes<=140737488355328) (hsz:¬ (n * i.size=0)) (hb0:i.bytes≠0)
  (hs:aev τ s=.v (.slice none 0 0)) (hx:aev τ x=.v (.int .i64 (Int.ofNat n))) :
  LOp P ⟨d,.call { callee:=.builtin .append,args:=#[s,x],argTypes:=#[t,ti] },ty,pos,af,g⟩ τ η [] [(u,some ⟨0,eu z n,i.size,false⟩)] (.sl u 0 0 n):=by
 intro C a hg hxs _ hnew K Q hK
 have hu:¬ C.U u:=hnew (u,some ⟨0,eu z n,i.size,false⟩) (by simp) (by simp)
 have e1:=hxs s (by simp [Op.operands,Call.operands])
 have e2:=hxs x (by simp [Op.operands,Call.operands])
 rw [hs] at e1
 rw [hx] at e2
 have hr:=r6 (P:=P) (ty:=ty) ht hti hi hz h0 h63 h48 hsz hb0 C.w
 generalize hcell:(Builtin.zeroCells z.cells n++Builtin.zeroCells z.cells (grownCap C.w n 0 e - n))=nc at hr
 have hge:=grownCap_ge C.w n 0 e
 have hcm:grownCap C.w n 0 e<=maxLen:=grownCap_le_maxLen C.w n 0 e (by unfold maxLen; omega)
 have hncs:nc.size=grownCap C.w n 0 e * i.size:=by
  rw [<- hcell]
  simp only [Array.size_append,size_zeroCells,hzs,<- Nat.add_mul]
  congr 1
  omega
 have hzl:(eu z n).length=n * i.size:=by simp only [eu,Zl,Array.length_toList,size_zeroCells,hzs]
 have hle:n * i.size<=grownCap C.w n 0 e * i.size:=Nat.mul_le_mul_right _ hge
 have hget:∀ j (h:j < (eu z n).length) (h':j < nc.size),VR C (eu z n)[j] nc[j]:=by
  intro j hj hj'
  have hj2:j < (Builtin.zeroCells z.cells n).size:=by simp [eu] at hj; simpa using hj
  have hnj:nc[j]? = (Builtin.zeroCells z.cells n)[j]?:=by
   rw [<- hcell,Array.getElem?_append_left hj2]
  rw [Array.getElem?_eq_getElem hj',Array.getElem?_eq_getElem hj2] at hnj
  rw [Option.some.inj hnj]
  simp only [eu,List.getElem_map,Array.getElem_toList]
  exact VR.v C _
 obtain ⟨hg1,he1⟩:=gz hg
 unfold Oper.wp
 rw [ga C.w (by rw [e1.v_inv,e2.v_inv]; exact hr)]
 have hgA:=du (C:={ C with w:=C.w.drew }) (u:=u) (cells:=nc) (t:=e) (b:=⟨0,eu z n,i.size,false⟩) hg1 hu rfl (by simp only; omega) (fun j h h'=>(hget j h h').mono hg he1)
 have heA:=d9 (C:={ C with w:=C.w.drew }) (u:=u) (cells:=nc) (t:=e) (b:=⟨0,eu z n,i.size,false⟩) hg1 hu rfl
 refine hK _ (Ctx.alloc { C with w:=C.w.drew } u nc e ⟨0,eu z n,i.size,false⟩) rfl (fun i=>by simp [Ctx.alloc]) hgA (he1.trans heA) ?_
 have h3:(Ctx.alloc { C with w:=C.w.drew } u nc e ⟨0,eu z n,i.size,false⟩).ρ u=(C.w.heap.size,0):=by simp [Ctx.alloc]
 have h4:(Ctx.alloc { C with w:=C.w.drew } u nc e ⟨0,eu z n,i.size,false⟩).sz u=nc.size:=by simp [Ctx.alloc]
 have:=VR.sl (C:=Ctx.alloc { C with w:=C.w.drew } u nc e ⟨0,eu z n,i.size,false⟩) (id:=u) (ver:=0) (off:=0) (len:=n) (cap:=grownCap C.w n 0 e) (b:=⟨0,eu z n,i.size,false⟩) (ae _ _ _) rfl rfl hge hcm (by omega)
  (by rw [h3,h4,hncs]; simp)
 rw [h3] at this
 exact this
def mw (P:Program) (τ:Nat->AV) (u t ti:Nat) (s x:Operand):Option Rec:=match P.underlying t with
 | some (.slice e)=>match P.underlying ti with
  | some (.int k)=>match P.info? e with
   | none=>none
   | some i=>match i.zero with
    | none=>none
    | some z=>match aev τ s with
     | .v (.slice none 0 0)=>match aev τ x with
      | .v (.int .i64 (.ofNat n))=>bif Nat.beq z.cells.size i.size&&Nat.ble 1 n&&Nat.ble n 16777216&&Nat.ble (n * i.bytes) 140737488355328&&!Nat.beq (n * i.size) 0&&!Nat.beq i.bytes 0 then
        some ⟨[],[(u,some ⟨0,eu z n,i.size,false⟩)],.sl u 0 0 n,u+1⟩ else none
      | _=>none
     | _=>none
  | _=>none
 | _=>none
theorem uv {u t ti:Nat} {s x:Operand} {r:Rec} (h:mw P τ u t ti s x=some r):LOp P ⟨d,.call { callee:=.builtin .append,args:=#[s,x],argTypes:=#[t,ti] },ty,pos,af,g⟩ τ η r.fp r.δ r.v:=by
 unfold mw at h
 split at h
 ·rename_i e ht
  split at h
  ·rename_i k hti
   split at h
   ·cases h
   ·rename_i i hi
    split at h
    ·cases h
    ·rename_i z hz
     split at h
     ·rename_i hs
      split at h
      ·rename_i n hx
       cases hc:(Nat.beq z.cells.size i.size&&Nat.ble 1 n&&Nat.ble n 16777216&&Nat.ble (n * i.bytes) 140737488355328&&!Nat.beq (n * i.size) 0&&!Nat.beq i.bytes 0) with
       | false=>rw [hc] at h; simp at h
       | true=>
        rw [hc] at h
        simp only [cond_true,Zh] at h
        subst h
        simp only [Bool.and_eq_true,Bool.not_eq_true'] at hc
        obtain ⟨⟨⟨⟨⟨c1,c2⟩,c3⟩,c4⟩,c5⟩,c6⟩:=hc
        exact u5 u ht hti hi hz (Zg c1) (Nat.le_of_ble_eq_true c2) (Nat.le_of_ble_eq_true c3) (Nat.le_of_ble_eq_true c4) (fun e=>by rw [e] at c5; cases c5) (fun e=>by rw [e] at c6; cases c6) hs hx
      ·cases h
     ·cases h
  ·cases h
 ·cases h
theorem rb {t e s len:Nat} {k:IntKind} {j b o:Nat} {w:World} (he:P.underlying t=some (.array len e)) (hs:aa P e=some s) (hj:j < len) :
  (Instr.indexAt t (.pointer (some ⟨b,o,none⟩)) (.int k (Int.ofNat j))).run P w=.ok (.pointer (some ⟨b,o+j * s,none⟩)) w:=by
 unfold aa at hs
 cases hi:P.info? e with
 | none=>rw [hi] at hs; cases hs
 | some inf=>
  rw [hi] at hs
  simp only [Option.map_some,Zh] at hs
  subst hs
  have c1:(0:Int)<=Int.ofNat j/\Int.ofNat j < (len:Int):=⟨by simp,by simp; exact_mod_cast hj⟩
  have c2:(Int.ofNat j).toNat=j:=rfl
  have hadd:(Addr.add ⟨b,o,none⟩ (j * inf.size))=⟨b,o+j * inf.size,none⟩:=by simp [Addr.add]
  simp only [Instr.indexAt,asIntOf,Instr.sureAddr,Sem.run_bind,Sem.run_pure,Result.andThen_ok,run_underlying he]
  simp only [c1,and_self,if_true,Sem.run_bind,sizeOf,typeInfo,run_program,hi,Sem.run_pure,Result.andThen_ok,c2,hadd]
/-- The place of an element of an array. -/
def mn (P:Program) (τ:Nat->AV) (η:au) (u t:Nat) (x i:Operand):Option Rec:=match P.underlying t with
 | some (.array len e)=>match aa P e with
  | none=>none
  | some n=>match aev τ i with
   | .v (.int k (.ofNat j))=>bif Nat.blt j len then (match aev τ x with
    | .tp cs o=>some ⟨[],[],.tp cs (o+j * n),u⟩
    | .ptr id ver o=>match fm η id ver with
     | some _=>some ⟨[id],[],.ptr id ver (o+j * n),u⟩
     | none=>none
    | _=>none) else none
   | _=>none
 | _=>none
theorem mm {u t:Nat} {x i:Operand} {r:Rec} (h:mn P τ η u t x i=some r):LOp P ⟨d,.indexAddr t x i,ty,pos,af,g⟩ τ η r.fp r.δ r.v:=by
 unfold mn at h
 split at h
 ·rename_i len e he
  split at h
  ·cases h
  ·rename_i n hs
   split at h
   ·rename_i k j hi
    cases hlt:Nat.blt j len with
    | false=>rw [hlt] at h; simp at h
    | true=>
     rw [hlt] at h
     simp only [cond_true] at h
     have hlt':j < len:=by simpa using hlt
     split at h
     ·rename_i cs o hx
      simp only [Zh] at h
      subst h
      refine .look [] fun C a hg hxs _=>?_
      have e1:=hxs x (by simp [Op.operands])
      have e0:=hxs i (by simp [Op.operands])
      rw [hx] at e1
      rw [hi] at e0
      have e0':=e0.v_inv
      have e2:=e1.tp_inv
      generalize hxe:a.eval x=xv at e2
      cases e2 with
      | tp cell hT hc hr=>
       refine ⟨_,by simp only [execOp,hxe,e0',Sem.run_bind,rb he hs hlt',Result.andThen_ok]; rfl,?_⟩
       rw [Nat.add_assoc]
       exact .imm (.tp cell hT hc hr)
     ·rename_i id ver o hx
      split at h
      ·rename_i b hb
       obtain ⟨b1,b2,b3⟩:=cb hb
       simp only [Zh] at h
       subst h
       refine .look [id] fun C a hg hxs hfp=>?_
       have hbC:C.η id=some b:=(hfp id (by simp)).trans b1
       have e1:=hxs x (by simp [Op.operands])
       have e0:=hxs i (by simp [Op.operands])
       rw [hx] at e1
       rw [hi] at e0
       have e0':=e0.v_inv
       have e2:=e1.ptr_inv hbC b2
       refine ⟨_,by simp only [execOp,e2,e0',Sem.run_bind,rb he hs hlt',Result.andThen_ok]; rfl,?_⟩
       rw [Nat.add_assoc]
       exact .ptr hbC b2 b3
      ·cases h
     ·cases h
   ·cases h
 ·cases h
def Ux (P:Program) (E:ESX) (o:Oper):Option Rec:=match o.op with
 | .makeSlice t x y=>om P (bm E.t) E.u t x y
 | .indexAddr t x i=>mn P (bm E.t) (bc E.h) E.u t x i
 | .call ⟨.builtin .clear,⟨[x]⟩,ats⟩=>Ji P (bm E.t) (bc E.h) E.u x ats
 | .call ⟨.builtin .append,⟨[s,x]⟩,⟨[t,ti]⟩⟩=>mw P (bm E.t) E.u t ti s x
 | _=>none
def Ri (P:Program):df:=fun o E=>match Rj P o E with
 | some r=>some r
 | none=>match Ux P E o with
  | some r=>zk E r
  | none=>none
theorem Ml:(Ri P).Ok P:=by
 intro o E r hl h
 unfold Ri at h
 split at h
 ·rename_i r' hr
  simp only [Zh] at h
  subst h
  exact Mm _ _ _ hl hr
 ·rename_i hno
  clear hno
  split at h
  ·rename_i r' hr
   refine pp h ?_
   obtain ⟨d,op,ty,pos,af,g⟩:=o
   unfold Ux at hr
   simp only at hr
   split at hr
   ·exact vi hr
   ·exact mm hr
   ·exact Jh hr
   ·exact uv hr
   ·cases hr
  ·cases h
end
def wi (x:Operand):ESX->AV:=match x with
 | .tmp t=>fun E=>bm E.t t
 | .const v=>fun _=>.v v
 | .global g=>fun _=>.v (.pointer (some ⟨g,0,none⟩))
 | .func f=>fun _=>.clo f []
theorem cx (x:Operand) (E:ESX):wi x E=aev (bm E.t) x:=by cases x <;> rfl
def Lq (x:Operand) (E:ESX):Option Rx:=some (fv E (wi x E))
def Tr (c x y:Operand) (E:ESX):Option Rx:=match wi c E with
 | .v (.bool true)=>some (fv E (wi x E))
 | .v (.bool false)=>some (fv E (wi y E))
 | _=>none
/-- A step that looks at one block. -/
def ot (E:ESX) (id:Nat) (v:AV):Option Rx:=bif Nat.ble (id+1) E.u then some ⟨Nat.shiftLeft 1 id,0,E.u,E.u,E.h,v⟩ else none
def I2 (op:BinOp) (x y:Operand) (slow:ESX->Option Rx) (E:ESX):Option Rx:=match wi x E with
 | .v (.int .i64 a)=>match wi y E with
  | .v (.int .i64 b)=>match Re op a b with
   | some v=>some (fv E (.v v))
   | none=>slow E
  | _=>slow E
 | _=>slow E
def Uc (row:Option (Option Nat)) (x:Operand) (E:ESX):Option Rx:=match row with
 | none=>none
 | some none=>match wi x E with
  | .ptr id ver o=>match fm (bc E.h) id ver with
   | none=>none
   | some b=>match b.cs[o]? with
    | some v=>ot E id v
    | none=>none
  | .tp cs o=>match cs[o]? with
   | some v=>some (fv E v)
   | none=>none
  | _=>none
 | some (some n)=>match wi x E with
  | .ptr id ver o=>match fm (bc E.h) id ver with
   | none=>none
   | some b=>match cn o n b.cs with
    | some ds=>ot E id (.agg ds)
    | none=>none
  | .tp cs o=>match cn o n cs with
   | some ds=>some (fv E (.agg ds))
   | none=>none
  | _=>none
def faK (fi:Option (Nat×Nat)) (x:Operand) (E:ESX):Option Rx:=match fi with
 | none=>none
 | some (off,sz)=>bif Nat.beq sz 0 then none else match wi x E with
  | .ptr id ver o=>match fm (bc E.h) id ver with
   | none=>none
   | some _=>ot E id (.ptr id ver (o+off))
  | .tp cs o=>some (fv E (.tp cs (o+off)))
  | _=>none
/-- The size of a slice's elements. -/
def Ol (P:Program) (t:Nat):Option Nat:=match P.underlying t with
 | some (.slice e)=>aa P e
 | _=>none
def iaK (n:Option Nat) (x i:Operand) (slow:ESX->Option Rx) (E:ESX):Option Rx:=match n with
 | none=>slow E
 | some n=>match wi i E with
  | .v (.int k (.ofNat j))=>match wi x E with
   | .tree m rows=>bif Nat.beq m n then (match rows[j]? with
     | some row=>some (fv E (.tp row 0))
     | none=>none) else none
   | .sl id ver off len=>bif Nat.ble (j+1) len then (match fm (bc E.h) id ver with
     | some b=>bif Nat.beq b.esz n then ot E id (.ptr id ver (off+j * n)) else none
     | none=>none) else none
   | _=>none
  | _=>none
/-- Sums, products and comparisons of ints of any kind. -/
def Rf (k:IntKind) (op:BinOp) (a b:Int):Option Value:=match op with
 | .add=>some (.int k (k.wrap (a+b)))
 | .sub=>some (.int k (k.wrap (a - b)))
 | .mul=>some (.int k (k.wrap (a * b)))
 | .eql=>some (.bool (eqI a b))
 | .neq=>some (.bool (!eqI a b))
 | .lss=>some (.bool (ltI a b))
 | .gtr=>some (.bool (ltI b a))
 | .leq=>some (.bool (!ltI b a))
 | .geq=>some (.bool (!ltI a b))
 | _=>none
def Py:IntKind->IntKind->Bool
 | .u8,.u8=>true
 | .u32,.u32=>true
 | .u64,.u64=>true
 | .i64,.i64=>true
 | .i32,.i32=>true
 | _,_=>false
theorem K2 {k k':IntKind} (h:Py k k'=true):k'=k:=by cases k <;> cases k' <;> first | rfl | cases h
def Y6 (op:BinOp) (x y:Operand) (slow:ESX->Option Rx) (E:ESX):Option Rx:=match wi x E with
 | .v (.int k a)=>match wi y E with
  | .v (.int k' b)=>bif Py k k' then (match Rf k op a b with
    | some v=>some (fv E (.v v))
    | none=>slow E) else slow E
  | _=>slow E
 | _=>slow E
theorem M1 {P:Program} {τ:Nat->AV} {η:au} {d:Option Tmp} {ty:TypeId} {pos:String} {af:Array Edge} {g:Option (Nat×Bool)} {op:BinOp} {t t':Nat} {x y:Operand} {k:IntKind} {a b:Int} {v:Value} (hx:aev τ x=.v (.int k a)) (hy:aev τ y=.v (.int k b)) (h:Rf k op a b=some v):LOp P ⟨d,.binOp op t x y t',ty,pos,af,g⟩ τ η [] [] (.v v):=by
 refine .look [] fun C ac hg hxs _=>⟨v,?_,VR.v C v⟩
 have e1:=hxs x (by simp [Op.operands])
 have e2:=hxs y (by simp [Op.operands])
 rw [hx] at e1
 rw [hy] at e2
 have e1':=e1.v_inv
 have e2':=e2.v_inv
 have hgd:∀ w:World,(eqGuard op t x y (.int k a) (.int k b)).run P w=.ok () w:=by
  intro w
  unfold eqGuard
  split <;> rfl
 have hk:¬ (k≠k):=fun h=>h rfl
 unfold Rf at h
 split at h
 all_goals first
  | (cases h; done)
  |(
   have h':=Option.some.inj h
   subst h'
   simp only [execOp,e1',e2',Sem.run_bind,hgd,Result.andThen_ok]
   first
    | (simp only [binOp,hk,if_false,Op.intArith,Sem.run_pure,Result.andThen_ok]; done)
    | (rw [N5]; simp only [binOp,hk,if_false,Op.intCmp,Sem.run_pure,Result.andThen_ok]; done)
    | (rw [H2]; simp only [binOp,hk,if_false,Op.intCmp,Sem.run_pure,Result.andThen_ok]; done)
    | (rw [I6]; simp only [binOp,hk,if_false,Op.intCmp,Sem.run_pure,Result.andThen_ok]; done)
    | (rw [I6]; simp only [binOp,hk,if_false,Op.intCmp,Sem.run_pure,Result.andThen_ok]; rfl))
/-- The kind of int that a type is. -/
def Qv (P:Program) (t:Nat):Option IntKind:=match P.underlying t with
 | some (.int k)=>some k
 | _=>none
def U7 (s t:Option IntKind) (x:Operand) (slow:ESX->Option Rx) (E:ESX):Option Rx:=match s with
 | none=>slow E
 | some _=>match t with
  | none=>slow E
  | some k=>match wi x E with
   | .v (.int _ n)=>some (fv E (.v (.int k (k.wrap n))))
   | _=>slow E
def X5 (P:Program) (ats:Array TypeId):Bool:=match ats[0]? with
 | some t=>match P.underlying t with
  | some (.slice _)=>true
  | _=>false
 | none=>false
def lenK (sl:Bool) (x:Operand) (slow:ESX->Option Rx) (E:ESX):Option Rx:=bif sl then (match wi x E with
 | .tree n rows=>some (fv E (.v (.int .i64 (rows.length:Int))))
 | .sl id ver off len=>match fm (bc E.h) id ver with
  | some _=>ot E id (.v (.int .i64 (len:Int)))
  | none=>none
 | _=>slow E) else slow E
def Uw (x:Operand) (i:Nat) (slow:ESX->Option Rx) (E:ESX):Option Rx:=match wi x E with
 | .tup cs=>match cs[i]? with
  | some v=>some (fv E v)
  | none=>none
 | _=>slow E
def Nr (sz:Option Nat) (x y:Operand) (E:ESX):Option Rx:=match sz with
 | none=>none
 | some n=>match wi x E with
  | .ptr id ver o=>match fm (bc E.h) id ver with
   | none=>none
   | some b=>match gu (wi y E) with
    | none=>none
    | some vs=>bif Nat.beq vs.length n&&vs.all AV.one&&Nat.ble (id+1) E.u then
      (match sb o b.cs vs with
      | some ds=>match Tri.set 24 E.h id (some ⟨b.ver,ds,b.esz,b.nilp⟩) with
       | some h=>some ⟨Nat.shiftLeft 1 id,Nat.shiftLeft 1 id,E.u,E.u,h,.v undef⟩
       | none=>none
      | none=>none)
     else none
  | _=>none
def opF (P:Program) (ov:FuncId->Bool) (ovr:iy) (call:F4) (ext:df) (o:Oper):ESX->Option Rx:=match o.op with
 | .move x=>Lq x
 | .assign x=>Lq x
 | .pick c x y=>Tr c x y
 | .binOp op _ x y _=>I2 op x y (Y6 op x y (opX P ov ovr call ext o))
 | .load t x=>Uc (el P t) x
 | .fieldAddr t x i=>faK (ir P t i) x
 | .indexAddr t x i=>iaK (Ol P t) x i (opX P ov ovr call ext o)
 | .convert s t x=>U7 (Qv P s) (Qv P t) x (opX P ov ovr call ext o)
 | .extract x i=>Uw x i (opX P ov ovr call ext o)
 | .store t x y=>Nr (aa P t) x y
 | .call ⟨.builtin .len,⟨[x]⟩,ats⟩=>lenK (X5 P ats) x (opX P ov ovr call ext o)
 | _=>opX P ov ovr call ext o
section
variable {P:Program} {o:Oper} {E:ESX}
theorem kf {id:Nat} {v:AV} {r:Rx} (h:ot E id v=some r) (hL:LOp P o (bm E.t) (bc E.h) [id] [] v):r.u0=E.u/\Fits (bc E.h) r.rc/\va P o (bm E.t) (bc E.h) r.rc:=by
 unfold ot at h
 cases hb:Nat.ble (id+1) E.u with
 | false=>rw [hb] at h; simp at h
 | true=>
  rw [hb] at h
  simp only [cond_true,Zh] at h
  subst h
  have hF:∀ i,(Nat.shiftLeft 1 id).testBit i=true↔i=id:=fun i=>ut
  refine ⟨rfl,⟨Nat.le_refl _,fun i _=>rfl,fun i hi=>?_,fun i hi=>?_⟩,?_⟩
  ·have:(0:Nat).testBit i=true:=hi
   simp at this
  ·have:=(hF i).1 hi
   subst this
   exact Nat.le_of_ble_eq_true hb
  ·have:=hL.toX (u:=E.u)
   have e:jb [id]=Nat.shiftLeft 1 id:=by simp [jb]
   rw [e] at this
   exact this
end
theorem N4 {P:Program} {ov:FuncId->Bool} {ovr:iy} {call:F4} {ext:df} (ho:∀ f ys ret,ovr f ys=some ret->ep P f ys ret) (hc:call.Ok P) (he:ext.Ok P):df.Ok P (opF P ov ovr call ext):=by
 intro o E r hl h
 have slow:∀ r,opX P ov ovr call ext o E=some r->r.u0=E.u/\Fits (bc E.h) r.rc/\va P o (bm E.t) (bc E.h) r.rc:=fun r h=>Tv ho hc he o E r hl h
 obtain ⟨d,op,ty,pos,af,g⟩:=o
 unfold opF at h
 simp only at h
 split at h
 ·simp only [Lq,cx,Zh] at h; subst h; exact c8 (LOp.move _)
 ·simp only [Lq,cx,Zh] at h; subst h; exact c8 (LOp.assign _)
 ·unfold Tr at h
  split at h
  ·rename_i hcd
   rw [cx] at hcd
   simp only [cx,Zh] at h; subst h; exact c8 (B3 hcd rfl rfl)
  ·rename_i hcd
   rw [cx] at hcd
   simp only [cx,Zh] at h; subst h; exact c8 (B4 hcd rfl rfl)
  ·cases h
 ·rename_i bop t x y t'
  have slowG:∀ r,Y6 bop x y (opX P ov ovr call ext ⟨d,.binOp bop t x y t',ty,pos,af,g⟩) E=some r->r.u0=E.u/\Fits (bc E.h) r.rc/\va P ⟨d,.binOp bop t x y t',ty,pos,af,g⟩ (bm E.t) (bc E.h) r.rc:=by
   intro r h
   unfold Y6 at h
   split at h
   ·rename_i k a hx
    split at h
    ·rename_i k' b hy
     cases hk:Py k k' with
     | false=>rw [hk] at h; exact slow _ h
     | true=>
      rw [hk] at h
      simp only [cond_true] at h
      obtain rfl:=K2 hk
      split at h
      ·rename_i v hv
       simp only [Zh] at h
       subst h
       rw [cx] at hx hy
       exact c8 (M1 hx hy hv)
      ·exact slow _ h
    ·exact slow _ h
   ·exact slow _ h
  unfold I2 at h
  split at h
  ·rename_i a hx
   split at h
   ·rename_i b hy
    split at h
    ·rename_i v hv
     simp only [Zh] at h
     subst h
     rw [cx] at hx hy
     refine c8 (x8 ?_)
     simp only [E6,hx,hy,hv]
    ·exact slowG _ h
   ·exact slowG _ h
  ·exact slowG _ h
 ·rename_i t x
  unfold Uc at h
  split at h
  ·cases h
  ·rename_i hr
   split at h
   ·rename_i id ver o hx
    rw [cx] at hx
    split at h
    ·cases h
    ·rename_i b hb
     obtain ⟨h1,h2,h3⟩:=cb hb
     split at h
     ·rename_i v hv
      exact kf h (lD hr hx h1 h2 h3 hv)
     ·cases h
   ·rename_i cs o hx
    rw [cx] at hx
    split at h
    ·rename_i v hv
     simp only [Zh] at h
     subst h
     exact c8 (lE hr hx hv)
    ·cases h
   ·cases h
  ·rename_i n hr
   split at h
   ·rename_i id ver o hx
    rw [cx] at hx
    split at h
    ·cases h
    ·rename_i b hb
     obtain ⟨h1,h2,h3⟩:=cb hb
     split at h
     ·rename_i v hv
      exact kf h (q9 hr hx h1 h2 h3 hv)
     ·cases h
   ·rename_i cs o hx
    rw [cx] at hx
    split at h
    ·rename_i v hv
     simp only [Zh] at h
     subst h
     exact c8 (aq hr hx hv)
    ·cases h
   ·cases h
 ·rename_i t x i
  unfold faK at h
  split at h
  ·cases h
  ·rename_i off sz hf
   cases hz:Nat.beq sz 0 with
   | true=>rw [hz] at h; simp at h
   | false=>
    rw [hz] at h
    simp only [cond_false] at h
    split at h
    ·rename_i id ver o hx
     rw [cx] at hx
     split at h
     ·cases h
     ·rename_i b hb
      obtain ⟨h1,h2,h3⟩:=cb hb
      exact kf h (lF hf hz hx h1 h2 h3)
    ·rename_i cs o hx
     rw [cx] at hx
     simp only [Zh] at h
     subst h
     exact c8 (j9 hf hz hx)
    ·cases h
 ·rename_i t x i
  unfold iaK at h
  split at h
  ·exact slow _ h
  ·rename_i n hn
   unfold Ol at hn
   split at hn
   ·rename_i e hu
    split at h
    ·rename_i k j hi
     rw [cx] at hi
     split at h
     ·rename_i m rows hx
      rw [cx] at hx
      cases hc:Nat.beq m n with
      | false=>rw [hc] at h; simp at h
      | true=>
       rw [hc] at h
       simp only [cond_true] at h
       obtain rfl:=Zg hc
       split at h
       ·rename_i row hrow
        simp only [Zh] at h
        subst h
        obtain ⟨hj,e⟩:=List.getElem?_eq_some_iff.1 hrow
        subst e
        exact c8 (lI (f:=fun a=>a) (l:=rows) hu hn (by rw [hx]; simp) hi hj)
       ·cases h
     ·rename_i id ver off len hx
      rw [cx] at hx
      cases hc:Nat.ble (j+1) len with
      | false=>rw [hc] at h; simp at h
      | true=>
       rw [hc] at h
       simp only [cond_true] at h
       split at h
       ·rename_i b hb
        obtain ⟨h1,h2,h3⟩:=cb hb
        cases hz:Nat.beq b.esz n with
        | false=>rw [hz] at h; simp at h
        | true=>
         rw [hz] at h
         simp only [cond_true] at h
         exact kf h (nq hu hn hx hi (Nat.le_of_ble_eq_true hc) h1 h2 h3 (Zg hz))
       ·cases h
     ·cases h
    ·cases h
   ·cases hn
 ·rename_i s t x
  unfold U7 at h
  split at h
  ·exact slow _ h
  ·rename_i k0 hs
   split at h
   ·exact slow _ h
   ·rename_i k ht
    split at h
    ·rename_i k1 n hx
     simp only [Zh] at h
     subst h
     rw [cx] at hx
     unfold Qv at hs ht
     split at hs
     ·rename_i ks hus
      split at ht
      ·rename_i kt hut
       simp only [Zh] at hs ht
       subst hs ht
       refine c8 (.look [] fun C a hg hxs _=>⟨_,?_,VR.v C _⟩)
       have e1:=hxs x (by simp [Op.operands])
       rw [hx] at e1
       simp only [execOp,e1.v_inv,convert,Sem.run_bind,run_underlying hus,run_underlying hut,Result.andThen_ok,Conv.intToInt,Sem.run_pure]
      ·cases ht
     ·cases hs
    ·exact slow _ h
 ·rename_i x i
  unfold Uw at h
  split at h
  ·rename_i cs hx
   rw [cx] at hx
   split at h
   ·rename_i v hv
    simp only [Zh] at h
    subst h
    exact c8 (LOp.extract hx hv)
   ·cases h
  ·exact slow _ h
 ·rename_i t x y
  unfold Nr at h
  split at h
  ·cases h
  ·rename_i n hs
   split at h
   ·rename_i id ver o hx
    rw [cx] at hx
    split at h
    ·cases h
    ·rename_i b hb
     obtain ⟨h1,h2,h3⟩:=cb hb
     split at h
     ·cases h
     ·rename_i vs hv
      rw [cx] at hv
      cases hc:(Nat.beq vs.length n&&vs.all AV.one&&Nat.ble (id+1) E.u) with
      | false=>rw [hc] at h; simp at h
      | true=>
       rw [hc] at h
       simp only [cond_true] at h
       simp only [Bool.and_eq_true] at hc
       split at h
       ·rename_i ds hd
        split at h
        ·rename_i h' hset
         simp only [Zh] at h
         subst h
         have hL:LOp P ⟨d,.store t x y,ty,pos,af,g⟩ (bm E.t) (bc E.h) [id] [(id,some ⟨b.ver,ds,b.esz,b.nilp⟩)] (.v undef) :=
          LOp.st (w:=b.ver) (np:=b.nilp) (cs:=b.cs) (ez:=b.esz) hs hx h1 h2 h3 hv (Zg hc.1.1) hc.1.2 hd
         have e:bc h'=(bc E.h).set id (some ⟨b.ver,ds,b.esz,b.nilp⟩):=l6 hset
         have hmk:jb [id]=Nat.shiftLeft 1 id:=by simp [jb]
         refine ⟨rfl,⟨Nat.le_refl _,fun i hi=>?_,fun i hi=>hi,fun i hi=>?_⟩,?_⟩
         ·show bc h' i=_
          rw [e]
          have:i≠id:=fun e=>by
           subst e
           have h2:=hi
           rw [show Rc.D (Rx.rc ⟨Nat.shiftLeft 1 i,Nat.shiftLeft 1 i,E.u,E.u,h',.v undef⟩) i=true from Rc.D_iff.2 (.inl (ut.2 rfl))] at h2
           cases h2
          rw [am _ _ this]
         ·have:(Nat.shiftLeft 1 id).testBit i=true:=hi
          rw [ut] at this
          subst this
          exact Nat.le_of_ble_eq_true hc.2
         ·have:=hL.toX_old (u:=E.u) (by simp)
          rw [hmk] at this
          show va P _ (bm E.t) (bc E.h) ⟨Nat.shiftLeft 1 id,Nat.shiftLeft 1 id,E.u,E.u,bc h',.v undef⟩
          rw [e]
          exact this
        ·cases h
       ·cases h
   ·cases h
 ·rename_i x ats
  unfold lenK at h
  cases hsl:X5 P ats with
  | false=>rw [hsl] at h; exact slow _ h
  | true=>
   rw [hsl] at h
   simp only [cond_true] at h
   unfold X5 at hsl
   split at hsl
   ·rename_i t ht
    split at hsl
    ·rename_i e hu
     split at h
     ·rename_i n rows hx
      simp only [Zh] at h
      subst h
      rw [cx] at hx
      exact c8 (lT (n:=n) (f:=fun a=>a) (l:=rows) ht hu (by rw [hx]; simp))
     ·rename_i id ver off len hx
      rw [cx] at hx
      split at h
      ·rename_i b hb
       obtain ⟨h1,h2,h3⟩:=cb hb
       exact kf h (nk ht hu hx h1 h2)
      ·cases h
     ·exact slow _ h
    ·cases hsl
   ·cases hsl
 ·exact slow _ h
end Go.Proofs.YthpangmpihkniaaGreatDoor
