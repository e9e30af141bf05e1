/- Texts of the claim. -/
import Derived.Test.YtbhhmbchdponjaaGreatDoorE1
namespace Go.Proofs.YtbhhmbchdponjaaGreatDoor
set_option linter.unusedVariables false
set_option linter.unusedSimpArgs false
open Go.RowKit
section
variable {P:Program} {τ:Nat→AV} {η:Heap} {d:Option Tmp} {ty:TypeId} {pos:String} {af:Array Edge} {g:Option (Nat×Bool)}
theorem run_getObj {w:World} {r:Nat} {es:Array MapEntry} {clock:Nat} (h:w.heap[r]? = some (.map es clock)):(getObj r).run P w=.ok (.map es clock) w:=by simp [getObj,Sem.run,h]
theorem run_setObj {w:World} {r:Nat} {o o':Obj} (h:w.heap[r]? = some o) (hn:∀ c t f,o≠.cells c t f):(setObj r o').run P w=.ok () { w with heap:=w.heap.setIfInBounds r o' }:=by unfold setObj;unfold Sem.run;rw [h];cases o <;> first | rfl | (exact absurd rfl (hn _ _ _))
theorem run_newObj {w:World} {o:Obj}:(newObj o).run P w=.ok w.heap.size (w.alloc o):=rfl
theorem map_at {C:Ctx} (hg:Good C) {id ver clock:Nat} {b:Blk} {es:List (Value×AV×Nat)} (hb:C.η id=some b) (he:b=mapBlk ver b.esz clock es) :
 ∃ entries,C.w.heap[(C.ρ id).1]? = some (.map entries clock)∧es.length=entries.size∧∀ i (h:i < es.length) (h':i < entries.size),entries[i].key=es[i].1∧VR C es[i].2.1 entries[i].val∧entries[i].born=es[i].2.2:=by
 have hk:b.kind=2:=by rw [he]; rfl
 obtain ⟨o,h1,h2⟩:=hg.obj hb hk
 have hcs:b.cs=mapCs clock es:=by rw [he]; rfl
 rw [hcs] at h2
 obtain ⟨entries,rfl,h3,h4⟩:=h2.map_inv
 exact ⟨entries,h1,h3,h4⟩
theorem LOp.makeMap (u:Nat) {t:Nat}:LOp P ⟨d,.makeMap t none,ty,pos,af,g⟩ τ η [] [(u,some (mapBlk 0 0 0 []))] (.mp u 0):=by intro C a hg hxs _ hnew K Q hK;have hu:¬ C.U u:=hnew (u,some (mapBlk 0 0 0 [])) (by simp) (by simp);have hrun:(execOp a.eval ⟨d,.makeMap t none,ty,pos,af,g⟩).run P C.w=.ok (.value (.map (some C.w.heap.size))) (C.w.alloc (.map #[] 0)):=rfl;unfold Oper.wp;rw [hrun];have hob:ObjR C (mapBlk 0 0 0 []).cs (.map #[] 0):=ObjR.map (es:=[]) rfl (fun i h=>absurd h (by simp));refine hK _ (C.allocO u (.map #[] 0) (mapBlk 0 0 0 [])) rfl (fun i=>by simp [Ctx.allocO]) (Ctx.allocO_good hg hu rfl hob) (Ctx.allocO_ev hg hu) ?_;have:=VR.mp (C:=C.allocO u (.map #[] 0) (mapBlk 0 0 0 [])) (id:=u) (ver:=0) (Heap.set_same _ _ _) rfl rfl;have e:((C.allocO u (.map #[] 0) (mapBlk 0 0 0 [])).ρ u).1=C.w.heap.size:=(by simp [Ctx.allocO]);rw [e] at this;exact this
def lookE (P:Program) (τ:Nat→AV) (η:Heap) (u t:Nat) (x i:Operand) (ok:Bool):Option Rec :=
 match P.underlying t with
 | some (.map kt et)=>match aev τ i with
  | .v k=>match zeroOf P et with
   | none=>none
   | some z=>match aev τ x with
    | .mp id ver=>match liveM η id ver with
     | none=>none
     | some (b,clock,es)=>match findE P kt k es with
      | none=>none
      | some none=>some ⟨[id],[],bif ok then .tup [.v z,.v (.bool false)] else .v z,u⟩
      | some (some j)=>match es[j]? with
       | none=>none
       | some e=>some ⟨[id],[],bif ok then .tup [e.2.1,.v (.bool true)] else e.2.1,u⟩
    | .v (.map none)=>match findE P kt k [] with
     | some none=>some ⟨[],[],bif ok then .tup [.v z,.v (.bool false)] else .v z,u⟩
     | _=>none
    | _=>none
  | _=>none
 | _=>none
theorem VR.pair {C:Ctx} {a b:AV} {x y:Value} (h1:VR C a x) (h2:VR C b y):VR C (.tup [a,b]) (.tuple #[x,y]):=by
 refine .tup rfl (fun i h h'=>?_);match i,h with
 | 0,_=>exact h1
 | 1,_=>exact h2
theorem run_zeroValue {t:Nat} {z:Value} (hz:zeroOf P t=some z) (w:World):(zeroValue t).run P w=.ok z w:=by
 unfold zeroOf at hz
 cases hi:P.info? t with
 | none=>rw [hi] at hz; cases hz
 | some inf=>
  rw [hi] at hz
  simp only [Option.bind_some] at hz
  simp only [zeroValue,typeInfo,Sem.run_bind,run_program,hi,Sem.run_pure,Result.andThen_ok,hz]
theorem isEmpty_eq {es:List (Value×AV×Nat)} {entries:Array MapEntry} (hl:es.length=entries.size):entries.isEmpty=es.isEmpty:=by
 cases es with
 | nil=>simp only [List.length_nil] at hl; simp [Array.isEmpty,← hl]
 | cons e l=>
  simp only [List.length_cons] at hl
  simp [Array.isEmpty,← hl]
theorem lookE_ok {u t:Nat} {x i:Operand} {ok:Bool} {r:Rec} (h:lookE P τ η u t x i ok=some r):LOp P ⟨d,.lookup t x i ok,ty,pos,af,g⟩ τ η r.fp r.δ r.v:=by
 unfold lookE at h
 split at h
 ·rename_i kt et hu
  split at h
  ·rename_i k hk
   split at h
   ·cases h
   ·rename_i z hz
    split at h
    ·rename_i id ver hx
     split at h
     ·cases h
     ·rename_i b clock es hb
      obtain ⟨hb1,hb2⟩:=liveM_ok hb
      have main:∀ (v:AV) (jr:Option Nat),findE P kt k es=some jr→(jr=none→v=.v z)→(∀ j,jr=some j→∃ e,es[j]? = some e∧v=e.2.1) →
       LOp P ⟨d,.lookup t x i ok,ty,pos,af,g⟩ τ η [id] [] (bif ok then .tup [v,.v (.bool jr.isSome)] else v):=by
       intro v jr hf h0 h1
       refine .look [id] fun C a hg hxs hfp=>?_
       have hbC:C.η id=some b:=(hfp id (by simp)).trans hb1
       have e1:=hxs x (by simp [Op.operands])
       have e2:=hxs i (by simp [Op.operands])
       rw [hx] at e1
       rw [hk] at e2
       have e1':=e1.mp_inv hbC (by rw [hb2]; rfl)
       have e2':=e2.v_inv
       obtain ⟨entries,g1,g2,g3⟩:=map_at hg hbC hb2
       obtain ⟨c1,c2⟩:=findE_ok g2 g3 hf C.w
       have c1':=(c1 entries.isEmpty).resolve_right (by rw [isEmpty_eq g2]; simp)
       rcases c2 with ⟨rfl,hr⟩ | ⟨j,rfl,hj,hr⟩
       ·refine ⟨if ok then .tuple #[z,.bool false] else z,by simp only [execOp,e1',e2',Instr.lookup,Sem.run_bind,run_underlying hu,Result.andThen_ok,run_getObj g1,Sem.run_pure,c1',hr,run_zeroValue hz],?_⟩
        rw [h0 rfl]
        cases ok with
        | true=>exact VR.pair (VR.v C _) (VR.v C _)
        | false=>exact VR.v C _
       ·obtain ⟨e,he,rfl⟩:=h1 j rfl
        obtain ⟨hj',rfl⟩:=List.getElem?_eq_some_iff.1 he
        refine ⟨if ok then .tuple #[entries[j].val,.bool true] else entries[j].val,by simp only [execOp,e1',e2',Instr.lookup,Sem.run_bind,run_underlying hu,Result.andThen_ok,run_getObj g1,Sem.run_pure,c1',hr],?_⟩
        have hv:=(g3 j hj' hj).2.1
        cases ok with
        | true=>exact VR.pair hv (VR.v C _)
        | false=>exact hv
      split at h
      ·cases h
      ·rename_i hf
       simp only [Option.some.injEq] at h
       subst h
       exact main (.v z) none hf (fun _=>rfl) (fun j hj=>by cases hj)
      ·rename_i j hf
       split at h
       ·cases h
       ·rename_i e he
        simp only [Option.some.injEq] at h
        subst h
        exact main e.2.1 (some j) hf (fun hj=>by cases hj) (fun j' hj=>by cases hj; exact ⟨e,he,rfl⟩)
    ·rename_i hx
     split at h
     ·rename_i hf
      simp only [Option.some.injEq] at h
      subst h
      refine .look [] fun C a hg hxs hfp=>?_
      have e1:=hxs x (by simp [Op.operands])
      have e2:=hxs i (by simp [Op.operands])
      rw [hx] at e1
      rw [hk] at e2
      have e1':=e1.v_inv
      have e2':=e2.v_inv
      obtain ⟨c1,c2⟩:=findE_ok (C:=C) (es:=[]) (entries:=#[]) rfl (fun i h=>absurd h (by simp)) hf C.w
      have c1':=(c1 true).resolve_right (by simp)
      have hr:(Instr.findKey kt k []).run P C.w=.ok none C.w:=by
       rcases c2 with ⟨_,hr⟩ | ⟨j,hj,_⟩
       ·exact hr
       ·cases hj
      refine ⟨if ok then .tuple #[z,.bool false] else z,?_,?_⟩
      ·simp only [execOp,e1',e2',Instr.lookup,Sem.run_bind,run_underlying hu,Result.andThen_ok,Sem.run_pure]
       have e0:(#[]:Array MapEntry).isEmpty=true:=rfl
       simp only [e0,c1',hr,Result.andThen_ok,Sem.run_bind,run_zeroValue hz,Sem.run_pure]
      ·cases ok with
       | true=>exact VR.pair (VR.v C _) (VR.v C _)
       | false=>exact VR.v C _
     ·cases h
    ·cases h
  ·cases h
 ·cases h
theorem LOp.setMap {o:Oper} {id ver clock clock':Nat} {b:Blk} {es es':List (Value×AV×Nat)} {v:AV} {res:Value→Next} (hb1:η id=some b) (hb2:b=mapBlk ver b.esz clock es)
 (h:∀ (C:Ctx) (a:Act),Good C→(∀ x∈o.op.operands,VR C (aev τ x) (a.eval x))→C.η id=some b→∀ entries,C.w.heap[(C.ρ id).1]? = some (.map entries clock)→es.length=entries.size→(∀ i (h:i < es.length) (h':i < entries.size),entries[i].key=es[i].1∧VR C es[i].2.1 entries[i].val∧entries[i].born=es[i].2.2) →
  ∃ entries' nx,(execOp a.eval o).run P C.w=.ok nx { C.w with heap:=C.w.heap.setIfInBounds (C.ρ id).1 (.map entries' clock') }∧(nx=.skip∧v=.v undef∨∃ x,nx=.value x∧VR C v x)∧es'.length=entries'.size∧(∀ i (h:i < es'.length) (h':i < entries'.size),entries'[i].key=es'[i].1∧VR C es'[i].2.1 entries'[i].val∧entries'[i].born=es'[i].2.2)) :
 LOp P o τ η [id] [(id,some (mapBlk ver b.esz clock' es'))] v:=by
 intro C a hg hxs hfp _ K Q hK
 have hbC:C.η id=some b:=(hfp id (by simp)).trans hb1
 obtain ⟨entries,g1,g2,g3⟩:=map_at hg hbC hb2
 obtain ⟨entries',nx,r1,r2,r3,r4⟩:=h C a hg hxs hbC entries g1 g2 g3
 have hk0:b.kind=2:=by rw [hb2]; rfl
 have hver:(mapBlk ver b.esz clock' es').ver=b.ver:=by rw [hb2]; rfl
 have hesz:(mapBlk ver b.esz clock' es').esz=b.esz:=rfl
 have hev:=Ctx.setO_ev (C:=C) (o:=.map entries' clock') (b:=mapBlk ver b.esz clock' es') hg hbC hk0 rfl hver hesz
 have hgd:=Ctx.setO_good (C:=C) (o:=.map entries' clock') (b:=mapBlk ver b.esz clock' es') hg hbC hk0 rfl hver hesz (ObjR.map r3 r4)
 have hU:∀ i,(C.setO id (mapBlk ver b.esz clock' es') (.map entries' clock')).U i↔C.U i∨i∈[(id,some (mapBlk ver b.esz clock' es'))].map (·.1):=fun i=>by simp [Ctx.setO];rintro rfl;exact hg.used hbC
 unfold Oper.wp
 rw [r1]
 rcases r2 with ⟨rfl,rfl⟩ | ⟨x,rfl,hx⟩
 ·exact hK undef _ rfl hU hgd hev (VR.v _ _)
 ·exact hK x _ rfl hU hgd hev (hx.mono hg hev)
def setNth {α:Type}:List α→Nat→α→List α
 | [],_,_=>[]
 | _ :: l,0,a=>a :: l
 | x :: l,n+1,a=>x :: setNth l n a
theorem setNth_len {α:Type}:∀ (l:List α) (n:Nat) (a:α),(setNth l n a).length=l.length
 | [],_,_=>rfl
 | _ :: l,0,a=>rfl
 | x :: l,n+1,a=>by simp [setNth,setNth_len l]
theorem setNth_get {α:Type}:∀ (l:List α) (n:Nat) (a:α) (i:Nat) (h:i < (setNth l n a).length),(setNth l n a)[i]=if i=n then a else l[i]'(by rw [setNth_len] at h; exact h)
 | [],_,_,i,h=>absurd h (by simp [setNth])
 | x :: l,0,a,0,h=>by simp [setNth]
 | x :: l,0,a,i+1,h=>by simp [setNth]
 | x :: l,n+1,a,0,h=>by simp [setNth]
 | x :: l,n+1,a,i+1,h=>by have:=setNth_get l n a i (by simpa [setNth] using h);simp only [setNth,List.getElem_cons_succ,this];by_cases e:i=n <;> simp [e]
def mapSetE (P:Program) (τ:Nat→AV) (η:Heap) (u t:Nat) (m k x:Operand):Option Rec :=
 match P.underlying t with
 | some (.map kt et)=>match aev τ k with
  | .v key=>match aev τ m with
   | .mp id ver=>match liveM η id ver with
    | none=>none
    | some (b,clock,es)=>match quiet P (Instr.checkKey false 10000 kt key) with
     | none=>none
     | some _=>match findE P kt key es with
      | none=>none
      | some none=>some ⟨[id],[(id,some (mapBlk ver b.esz (clock+1) (es++[(key,aev τ x,clock)])))],.v undef,u⟩
      | some (some j)=>match es[j]? with
       | none=>none
       | some e=>bif Instr.sameBits 10000 e.1 key then some ⟨[id],[(id,some (mapBlk ver b.esz clock (setNth es j (key,aev τ x,e.2.2))))],.v undef,u⟩ else none
   | _=>none
  | _=>none
 | _=>none
theorem mapSetE_ok {u t:Nat} {m k x:Operand} {r:Rec} {op:Op} (hop:op=.mapUpdate t m k x∨op=.insert t m k x) (h:mapSetE P τ η u t m k x=some r):LOp P ⟨d,op,ty,pos,af,g⟩ τ η r.fp r.δ r.v:=by
 unfold mapSetE at h
 split at h
 ·rename_i kt et hu
  split at h
  ·rename_i key hk
   split at h
   ·rename_i id ver hm
    split at h
    ·cases h
    ·rename_i b clock es hb
     obtain ⟨hb1,hb2⟩:=liveM_ok hb
     split at h
     ·cases h
     ·rename_i q hq
      have hex:∀ (a:Act) (w:World),(execOp a.eval ⟨d,op,ty,pos,af,g⟩).run P w=((Instr.mapUpdate t (a.eval m) (a.eval k) (a.eval x)).run P w).andThen fun _ w=>.ok .skip w:=by
       intro a w
       rcases hop with rfl | rfl <;> simp only [execOp,Sem.run_bind] <;> rfl
      have hmem:m∈op.operands∧k∈op.operands∧x∈op.operands:=by rcases hop with rfl | rfl <;> simp [Op.operands]
      have hopr:(⟨d,op,ty,pos,af,g⟩:Oper).op.operands=op.operands:=rfl
      split at h
      ·cases h
      ·rename_i hf
       simp only [Option.some.injEq] at h
       subst h
       refine LOp.setMap (res:=.value) hb1 hb2 fun C a hg hxs hbC entries g1 g2 g3=>?_
       have e1:=hxs m (by rw [hopr]; exact hmem.1)
       have e2:=hxs k (by rw [hopr]; exact hmem.2.1)
       have e3:=hxs x (by rw [hopr]; exact hmem.2.2)
       rw [hm] at e1
       rw [hk] at e2
       have e1':=e1.mp_inv hbC (by rw [hb2]; rfl)
       have e2':=e2.v_inv
       obtain ⟨_,c2⟩:=findE_ok g2 g3 hf C.w
       have hr:(Instr.findKey kt key entries.toList).run P C.w=.ok none C.w:=by
        rcases c2 with ⟨_,hr⟩ | ⟨j,hj,_⟩
        ·exact hr
        ·cases hj
       refine ⟨entries.push { key,val:=a.eval x,born:=clock },.skip,?_,.inl ⟨rfl,rfl⟩,by simp [g2],fun i h1 h2=>?_⟩
       ·rw [hex,e1',e2']
        simp only [Instr.mapUpdate,Sem.run_bind,run_underlying hu,Result.andThen_ok,run_getObj g1,quiet_run _ _ hq,hr,run_setObj g1 (fun _ _ _ e=>by cases e)]
       ·by_cases hi:i < es.length
        ·have hi':i < entries.size:=by omega
         have q1:(es++[(key,aev τ x,clock)])[i]=es[i]:=List.getElem_append_left hi
         have q2:(entries.push { key,val:=a.eval x,born:=clock })[i]=entries[i]:=Array.getElem_push_lt hi'
         rw [q1,q2]
         exact g3 i hi hi'
        ·have hi2:i=es.length:=by simp at h1; omega
         subst hi2
         have q1:(es++[(key,aev τ x,clock)])[es.length]=(key,aev τ x,clock):=by simp
         have q2:(entries.push { key,val:=a.eval x,born:=clock })[es.length]={ key,val:=a.eval x,born:=clock }:=by simp [g2]
         rw [q1,q2]
         exact ⟨rfl,e3,rfl⟩
      ·rename_i j hf
       split at h
       ·cases h
       ·rename_i e he
        cases hs:Instr.sameBits 10000 e.1 key with
        | false=>rw [hs] at h; simp at h
        | true=>
         rw [hs] at h
         simp only [cond_true,Option.some.injEq] at h
         subst h
         refine LOp.setMap (res:=.value) hb1 hb2 fun C a hg hxs hbC entries g1 g2 g3=>?_
         have e1:=hxs m (by rw [hopr]; exact hmem.1)
         have e2:=hxs k (by rw [hopr]; exact hmem.2.1)
         have e3:=hxs x (by rw [hopr]; exact hmem.2.2)
         rw [hm] at e1
         rw [hk] at e2
         have e1':=e1.mp_inv hbC (by rw [hb2]; rfl)
         have e2':=e2.v_inv
         obtain ⟨_,c2⟩:=findE_ok g2 g3 hf C.w
         obtain ⟨hj',rfl⟩:=List.getElem?_eq_some_iff.1 he
         have hj:j < entries.size:=by omega
         have hr:(Instr.findKey kt key entries.toList).run P C.w=.ok (some (j,entries[j].val)) C.w:=by
          rcases c2 with ⟨hh,_⟩ | ⟨j',hh,_,hr⟩
          ·cases hh
          ·cases hh; exact hr
         refine ⟨entries.modify j fun e=>{ e with key,val:=a.eval x },.skip,?_,.inl ⟨rfl,rfl⟩,by rw [setNth_len]; simp [g2],fun i h1 h2=>?_⟩
         ·have hkey:((entries[j]?).map (·.key)).getD key=es[j].1:=by
           rw [Array.getElem?_eq_getElem hj]
           exact (g3 j hj' hj).1
          have hstay:∀ w:World,(Instr.keyThatStays (((entries[j]?).map (·.key)).getD key) key).run P w=.ok key w:=fun w=>by
           rw [hkey]
           simp only [Instr.keyThatStays,hs,if_true]
           rfl
          rw [hex,e1',e2']
          simp only [Instr.mapUpdate,Sem.run_bind,run_underlying hu,Result.andThen_ok,run_getObj g1,quiet_run _ _ hq,hr,hstay,run_setObj g1 (fun _ _ _ e=>by cases e)]
         ·have h1':i < es.length:=by rw [setNth_len] at h1; exact h1
          have h2':i < entries.size:=by simpa using h2
          rw [setNth_get,Array.getElem_modify]
          by_cases hij:i=j
          ·subst hij
           simp only [if_true]
           exact ⟨trivial,e3,(g3 i hj' hj).2.2⟩
          ·rw [if_neg hij,if_neg (fun e=>hij e.symm)]
           exact g3 i h1' h2'
   ·cases h
  ·cases h
 ·cases h
end
end Go.Proofs.YtbhhmbchdponjaaGreatDoor
namespace Go.Proofs.YtbhhmbchdponjaaGreatDoor
set_option linter.unusedVariables false
set_option linter.unusedSimpArgs false
open Go.RowKit
section
variable {P:Program} {τ:Nat→AV} {η:Heap} {d:Option Tmp} {ty:TypeId} {pos:String} {af:Array Edge} {g:Option (Nat×Bool)}
def mapEntE (P:Program) (τ:Nat→AV) (η:Heap) (u t:Nat) (m k:Operand):Option Rec :=
 match P.underlying t with
 | some (.map kt et)=>match aev τ k with
  | .v key=>match zeroOf P et with
   | none=>none
   | some z=>match aev τ m with
    | .mp id ver=>match liveM η id ver with
     | none=>none
     | some (b,clock,es)=>match quiet P (Instr.checkKey false 10000 kt key) with
      | none=>none
      | some _=>match findE P kt key es with
       | none=>none
       | some none=>some ⟨[id],[(id,some (mapBlk ver b.esz (clock+1) (es++[(key,.v z,clock)])))],.tup [.v z,.v (goInt clock)],u⟩
       | some (some j)=>match es[j]? with
        | none=>none
        | some e=>bif Instr.sameBits 10000 e.1 key then some ⟨[id],[(id,some (mapBlk ver b.esz clock (setNth es j (key,e.2.1,e.2.2))))],.tup [e.2.1,.v (goInt e.2.2)],u⟩ else none
    | _=>none
  | _=>none
 | _=>none
theorem mapEntE_ok {u t:Nat} {m k:Operand} {r:Rec} (h:mapEntE P τ η u t m k=some r):LOp P ⟨d,.mapEntry t m k,ty,pos,af,g⟩ τ η r.fp r.δ r.v:=by
 unfold mapEntE at h
 split at h
 ·rename_i kt et hu
  split at h
  ·rename_i key hk
   split at h
   ·cases h
   ·rename_i z hz
    split at h
    ·rename_i id ver hm
     split at h
     ·cases h
     ·rename_i b clock es hb
      obtain ⟨hb1,hb2⟩:=liveM_ok hb
      split at h
      ·cases h
      ·rename_i q hq
       have hex:∀ (a:Act) (w:World),(execOp a.eval ⟨d,.mapEntry t m k,ty,pos,af,g⟩).run P w=((Instr.mapEntry t (a.eval m) (a.eval k)).run P w).andThen fun x w=>.ok (.value x) w:=by
        intro a w
        simp only [execOp,Sem.run_bind]
        rfl
       split at h
       ·cases h
       ·rename_i hf
        simp only [Option.some.injEq] at h
        subst h
        refine LOp.setMap (res:=.value) hb1 hb2 fun C a hg hxs hbC entries g1 g2 g3=>?_
        have e1:=hxs m (by simp [Op.operands])
        have e2:=hxs k (by simp [Op.operands])
        rw [hm] at e1
        rw [hk] at e2
        have e1':=e1.mp_inv hbC (by rw [hb2]; rfl)
        have e2':=e2.v_inv
        obtain ⟨_,c2⟩:=findE_ok g2 g3 hf C.w
        have hr:(Instr.findKey kt key entries.toList).run P C.w=.ok none C.w:=by
         rcases c2 with ⟨_,hr⟩ | ⟨j,hj,_⟩
         ·exact hr
         ·cases hj
        refine ⟨entries.push { key,val:=z,born:=clock },.value (.tuple #[z,goInt clock]),?_,.inr ⟨_,rfl,VR.pair (VR.v C _) (VR.v C _)⟩,by simp [g2],fun i h1 h2=>?_⟩
        ·rw [hex,e1',e2']
         simp only [Instr.mapEntry,Sem.run_bind,run_underlying hu,Result.andThen_ok,run_getObj g1,quiet_run _ _ hq,hr,run_zeroValue hz,run_setObj g1 (fun _ _ _ e=>by cases e),Sem.run_pure]
        ·by_cases hi:i < es.length
         ·have hi':i < entries.size:=by omega
          have q1:(es++[(key,AV.v z,clock)])[i]=es[i]:=List.getElem_append_left hi
          have q2:(entries.push { key,val:=z,born:=clock })[i]=entries[i]:=Array.getElem_push_lt hi'
          rw [q1,q2]
          exact g3 i hi hi'
         ·have hi2:i=es.length:=by simp at h1; omega
          subst hi2
          have q1:(es++[(key,AV.v z,clock)])[es.length]=(key,AV.v z,clock):=by simp
          have q2:(entries.push { key,val:=z,born:=clock })[es.length]={ key,val:=z,born:=clock }:=by simp [g2]
          rw [q1,q2]
          exact ⟨rfl,VR.v C _,rfl⟩
       ·rename_i j hf
        split at h
        ·cases h
        ·rename_i e he
         cases hs:Instr.sameBits 10000 e.1 key with
         | false=>rw [hs] at h; simp at h
         | true=>
          rw [hs] at h
          simp only [cond_true,Option.some.injEq] at h
          subst h
          refine LOp.setMap (res:=.value) hb1 hb2 fun C a hg hxs hbC entries g1 g2 g3=>?_
          have e1:=hxs m (by simp [Op.operands])
          have e2:=hxs k (by simp [Op.operands])
          rw [hm] at e1
          rw [hk] at e2
          have e1':=e1.mp_inv hbC (by rw [hb2]; rfl)
          have e2':=e2.v_inv
          obtain ⟨_,c2⟩:=findE_ok g2 g3 hf C.w
          obtain ⟨hj',rfl⟩:=List.getElem?_eq_some_iff.1 he
          have hj:j < entries.size:=by omega
          have hr:(Instr.findKey kt key entries.toList).run P C.w=.ok (some (j,entries[j].val)) C.w:=by
           rcases c2 with ⟨hh,_⟩ | ⟨j',hh,_,hr⟩
           ·cases hh
           ·cases hh; exact hr
          refine ⟨entries.modify j fun e=>{ e with key },.value (.tuple #[entries[j].val,goInt entries[j].born]),?_,.inr ⟨_,rfl,?_⟩,by rw [setNth_len]; simp [g2],fun i h1 h2=>?_⟩
          ·have hkey:((entries[j]?).map (·.key)).getD key=es[j].1:=by
            rw [Array.getElem?_eq_getElem hj]
            exact (g3 j hj' hj).1
           have hborn:((entries[j]?).map (fun x=>(x.born:Int))).getD 0=(entries[j].born:Int):=by
            rw [Array.getElem?_eq_getElem hj]; rfl
           have hstay:∀ w:World,(Instr.keyThatStays (((entries[j]?).map (·.key)).getD key) key).run P w=.ok key w:=fun w=>by
            rw [hkey]
            simp only [Instr.keyThatStays,hs,if_true]
            rfl
           rw [hex,e1',e2']
           simp only [Instr.mapEntry,Sem.run_bind,run_underlying hu,Result.andThen_ok,run_getObj g1,quiet_run _ _ hq,hr,hstay,hborn,run_setObj g1 (fun _ _ _ e=>by cases e),Sem.run_pure]
          ·refine VR.pair (g3 j hj' hj).2.1 ?_
           rw [(g3 j hj' hj).2.2]
           exact VR.v C _
          ·have h1':i < es.length:=by rw [setNth_len] at h1; exact h1
           have h2':i < entries.size:=by simpa using h2
           rw [setNth_get,Array.getElem_modify]
           by_cases hij:i=j
           ·subst hij
            simp only [if_true]
            exact ⟨trivial,(g3 i hj' hj).2.1,(g3 i hj' hj).2.2⟩
           ·rw [if_neg hij,if_neg (fun e=>hij e.symm)]
            exact g3 i h1' h2'
    ·cases h
  ·cases h
 ·cases h
def bornAt (n:Nat):List (Value×AV×Nat)→Nat→Option Nat
 | [],_=>none
 | e :: l,i=>bif Nat.beq e.2.2 n then some i else bornAt n l (i+1)
theorem bornAt_ok {n:Nat}:∀ (l:List (Value×AV×Nat)) (i0 i:Nat),bornAt n l i0=some i→∃ j e,i=i0+j∧l[j]? = some e∧e.2.2=n∧∀ k e',k < j→l[k]? = some e'→e'.2.2≠n
 | [],_,_,h=>by cases h
 | e :: l,i0,i,h=>by
  simp only [bornAt] at h;cases hb:Nat.beq e.2.2 n with
  | true=>
   rw [hb] at h
   simp only [cond_true,Option.some.injEq] at h
   exact ⟨0,e,by omega,rfl,Nat.eq_of_beq_eq_true hb,fun k e' hk=>by omega⟩
  | false=>
   rw [hb] at h
   simp only [cond_false] at h
   obtain ⟨j,e1,h1,h2,h3,h4⟩:=bornAt_ok l (i0+1) i h
   refine ⟨j+1,e1,by omega,by simpa using h2,h3,fun k e' hk he'=>?_⟩
   cases k with
   | zero=>
    simp only [List.getElem?_cons_zero,Option.some.injEq] at he'
    subst he'
    exact fun e=>by rw [e,Nat.beq_refl] at hb; cases hb
   | succ k=>exact h4 k e' (by omega) (by simpa using he')
def entStoreE (P:Program) (τ:Nat→AV) (η:Heap) (u t:Nat) (m s x:Operand):Option Rec :=
 match aev τ s with
 | .v (.int k (.ofNat n))=>match aev τ m with
  | .mp id ver=>match liveM η id ver with
   | none=>none
   | some (b,clock,es)=>match bornAt n es 0 with
    | none=>none
    | some j=>match es[j]? with
     | none=>none
     | some e=>some ⟨[id],[(id,some (mapBlk ver b.esz clock (setNth es j (e.1,aev τ x,e.2.2))))],.v undef,u⟩
  | _=>none
 | _=>none
theorem entStoreE_ok {u t:Nat} {m s x:Operand} {r:Rec} (h:entStoreE P τ η u t m s x=some r):LOp P ⟨d,.entryStore t m s x,ty,pos,af,g⟩ τ η r.fp r.δ r.v:=by
 unfold entStoreE at h;split at h;rename_i kk n hs;split at h;rename_i id ver hm;split at h;cases h;rename_i b clock es hb;obtain ⟨hb1,hb2⟩:=liveM_ok hb;split at h;cases h;rename_i j hj;split at h;cases h;rename_i e he;simp only [Option.some.injEq] at h;subst h;refine LOp.setMap (res:=.value) hb1 hb2 fun C a hg hxs hbC entries g1 g2 g3=>have e1:=hxs m (by simp [Op.operands]); have e2:=hxs s (by simp [Op.operands]); have e3:=hxs x (by simp [Op.operands]); ?_
 rw [hm] at e1;rw [hs] at e2;have e1':=e1.mp_inv hbC (by rw [hb2]; rfl)
 have e2':=e2.v_inv;obtain ⟨j',e',q1,q2,q3,q4⟩:=bornAt_ok _ _ _ hj;rw [Nat.zero_add] at q1;subst q1;rw [he] at q2;cases q2;obtain ⟨hj',rfl⟩:=List.getElem?_eq_some_iff.1 he;have hjs:j < entries.size:=by omega
 have hidx:entries.findIdx? (fun e=>(e.born:Int)==Int.ofNat n)=some j:=by rw [Array.findIdx?_eq_some_iff_getElem];exact ⟨hjs,by rw [(g3 j hj' hjs).2.2,q3];simp,fun k hk=>by have hk':k < es.length:=(by omega);have:=q4 k es[k] hk (List.getElem?_eq_getElem hk');rw [(g3 k hk' (by omega)).2.2];simp only [beq_iff_eq];intro hh;exact this (Int.ofNat.inj hh)⟩
 refine ⟨entries.modify j fun e=>{ e with val:=a.eval x },.skip,by simp only [execOp,e1',e2',Instr.entryStore,Sem.run_bind,run_getObj g1,Result.andThen_ok,asInt,asIntOf,Sem.run_pure,hidx,run_setObj g1 (fun _ _ _ e=>by cases e)],.inl ⟨rfl,rfl⟩,by rw [setNth_len]; simp [g2],fun i h1 h2=>?_⟩;have h1':i < es.length:=by rw [setNth_len] at h1; exact h1
 have h2':i < entries.size:=by simpa using h2
 rw [setNth_get,Array.getElem_modify];by_cases hij:i=j;subst hij;simp only [if_true];exact ⟨(g3 i hj' hjs).1,e3,(g3 i hj' hjs).2.2⟩;rw [if_neg hij,if_neg (fun e=>hij e.symm)];exact g3 i h1' h2';cases h;cases h
def lenME (P:Program) (τ:Nat→AV) (η:Heap) (u:Nat) (x:Operand) (ats:Array TypeId):Option Rec:=match ats[0]? with
 | none=>none
 | some t=>match P.underlying t with
  | some (.map _ _)=>match aev τ x with
   | .mp id ver=>match liveM η id ver with
    | some (b,clock,es)=>some ⟨[id],[],.v (goInt es.length),u⟩
    | none=>none
   | _=>none
  | _=>none
theorem lenME_ok {u:Nat} {x:Operand} {ats:Array TypeId} {r:Rec} (h:lenME P τ η u x ats=some r):LOp P ⟨d,.call { callee:=.builtin .len,args:=#[x],argTypes:=ats },ty,pos,af,g⟩ τ η r.fp r.δ r.v:=by unfold lenME at h;split at h;cases h;rename_i t ht;split at h;rename_i kt et hu;split at h;rename_i id ver hx;split at h;rename_i b clock es hb;obtain ⟨hb1,hb2⟩:=liveM_ok hb;simp only [Option.some.injEq] at h;subst h;refine .look [id] fun C a hg hxs hfp=>?_;have hbC:C.η id=some b:=(hfp id (by simp)).trans hb1;have e1:=hxs x (by simp [Op.operands,Call.operands]);rw [hx] at e1;have e1':=e1.mp_inv hbC (by rw [hb2]; rfl);obtain ⟨entries,g1,g2,g3⟩:=map_at hg hbC hb2;refine ⟨goInt es.length,?_,VR.v C _⟩;rw [g2];simp [execOp,e1',resolve,invoke,builtin,Builtin.len_,ht,run_underlying hu,run_getObj g1,Sem.run_bind,Result.andThen];cases h;cases h;cases h
def dropNth {α:Type}:List α→Nat→List α
 | [],_=>[]
 | _ :: l,0=>l
 | x :: l,n+1=>x :: dropNth l n
theorem dropNth_eq {α:Type}:∀ (l:List α) (n:Nat),dropNth l n=l.eraseIdx n
 | [],n=>by simp [dropNth]
 | _ :: l,0=>rfl
 | x :: l,n+1=>by simp [dropNth,dropNth_eq l n]
def delE (P:Program) (τ:Nat→AV) (η:Heap) (u:Nat) (m k:Operand) (ats:Array TypeId):Option Rec:=match ats[0]? with
 | none=>none
 | some t=>match P.underlying t with
  | some (.map kt et)=>match aev τ k with
   | .v key=>match aev τ m with
    | .mp id ver=>match liveM η id ver with
     | none=>none
     | some (b,clock,es)=>match findE P kt key es with
      | none=>none
      | some none=>some ⟨[id],[(id,some (mapBlk ver b.esz clock es))],.v (.tuple #[]),u⟩
      | some (some j)=>some ⟨[id],[(id,some (mapBlk ver b.esz clock (dropNth es j)))],.v (.tuple #[]),u⟩
    | _=>none
   | _=>none
  | _=>none
theorem delE_ok {u:Nat} {m k:Operand} {ats:Array TypeId} {r:Rec} (h:delE P τ η u m k ats=some r):LOp P ⟨d,.call { callee:=.builtin .delete,args:=#[m,k],argTypes:=ats },ty,pos,af,g⟩ τ η r.fp r.δ r.v:=by
 unfold delE at h
 split at h
 ·cases h
 ·rename_i t ht
  split at h
  ·rename_i kt et hu
   split at h
   ·rename_i key hk
    split at h
    ·rename_i id ver hm
     split at h
     ·cases h
     ·rename_i b clock es hb
      obtain ⟨hb1,hb2⟩:=liveM_ok hb
      have hex:∀ (a:Act) (w:World),(execOp a.eval ⟨d,.call { callee:=.builtin .delete,args:=#[m,k],argTypes:=ats },ty,pos,af,g⟩).run P w=((Builtin.delete_ ats ty #[a.eval m,a.eval k]).run P w).andThen fun x w=>.ok (.value x) w:=by
       intro a w
       simp only [execOp,resolve,invoke,builtin,Sem.run_bind,Sem.run_pure,Result.andThen_ok]
       simp only [List.map_toArray,List.map_cons,List.map_nil]
      split at h
      ·cases h
      ·rename_i hf
       simp only [Option.some.injEq] at h
       subst h
       refine LOp.setMap (res:=.value) hb1 hb2 fun C a hg hxs hbC entries g1 g2 g3=>?_
       have e1:=hxs m (by simp [Op.operands,Call.operands])
       have e2:=hxs k (by simp [Op.operands,Call.operands])
       rw [hm] at e1
       rw [hk] at e2
       have e1':=e1.mp_inv hbC (by rw [hb2]; rfl)
       have e2':=e2.v_inv
       obtain ⟨c1,c2⟩:=findE_ok g2 g3 hf C.w
       have c1':=(c1 entries.isEmpty).resolve_right (by rw [isEmpty_eq g2]; simp)
       have hr:(Instr.findKey kt key entries.toList).run P C.w=.ok none C.w:=by
        rcases c2 with ⟨_,hr⟩ | ⟨j,hj,_⟩
        ·exact hr
        ·cases hj
       refine ⟨entries,.value (.tuple #[]),?_,.inr ⟨_,rfl,VR.v C _⟩,g2,g3⟩
       rw [hex,e1',e2']
       simp [Builtin.delete_,ht,Sem.run_bind,run_underlying hu,Result.andThen_ok,run_getObj g1,c1',hr,run_setObj g1 (fun _ _ _ e=>by cases e),Sem.run_pure]
      ·rename_i j hf
       simp only [Option.some.injEq] at h
       subst h
       refine LOp.setMap (res:=.value) hb1 hb2 fun C a hg hxs hbC entries g1 g2 g3=>?_
       have e1:=hxs m (by simp [Op.operands,Call.operands])
       have e2:=hxs k (by simp [Op.operands,Call.operands])
       rw [hm] at e1
       rw [hk] at e2
       have e1':=e1.mp_inv hbC (by rw [hb2]; rfl)
       have e2':=e2.v_inv
       obtain ⟨c1,c2⟩:=findE_ok g2 g3 hf C.w
       have c1':=(c1 entries.isEmpty).resolve_right (by rw [isEmpty_eq g2]; simp)
       have hr:∃ v,(Instr.findKey kt key entries.toList).run P C.w=.ok (some (j,v)) C.w∧j < entries.size:=by
        rcases c2 with ⟨hh,_⟩ | ⟨j',hh,hj,hr⟩
        ·cases hh
        ·cases hh; exact ⟨_,hr,hj⟩
       obtain ⟨v,hr,hj⟩:=hr
       refine ⟨entries.eraseIdxIfInBounds j,.value (.tuple #[]),?_,.inr ⟨_,rfl,VR.v C _⟩,?_,fun i h1 h2=>?_⟩
       ·rw [hex,e1',e2']
        simp [Builtin.delete_,ht,Sem.run_bind,run_underlying hu,Result.andThen_ok,run_getObj g1,c1',hr,run_setObj g1 (fun _ _ _ e=>by cases e),Sem.run_pure]
       ·rw [dropNth_eq,Array.eraseIdxIfInBounds,dif_pos hj]
        rw [List.length_eraseIdx,if_pos (by omega),Array.size_eraseIdx,g2]
       ·have q:(entries.eraseIdxIfInBounds j)[i]=entries[if i < j then i else i+1]'(by
         rw [Array.eraseIdxIfInBounds,dif_pos hj] at h2
         simp at h2
         split <;> omega):=by
         have:(entries.eraseIdxIfInBounds j)[i]? = (entries.eraseIdx j hj)[i]?:=by rw [Array.eraseIdxIfInBounds,dif_pos hj]
         rw [Array.getElem?_eq_getElem h2] at this
         have h3:i < (entries.eraseIdx j hj).size:=by
          rw [Array.eraseIdxIfInBounds,dif_pos hj] at h2; exact h2
         rw [Array.getElem?_eq_getElem h3,Array.getElem_eraseIdx] at this
         have:=Option.some.inj this
         rw [this]
         split <;> rfl
        have h1b:i < (es.eraseIdx j).length:=by rw [← dropNth_eq]; exact h1
        have q':(dropNth es j)[i]=es[if i < j then i else i+1]'(by
         rw [List.length_eraseIdx] at h1b
         split at h1b <;> split <;> omega):=by
         have:(dropNth es j)[i]? = (es.eraseIdx j)[i]?:=by rw [dropNth_eq]
         rw [List.getElem?_eq_getElem h1,List.getElem?_eq_getElem h1b,List.getElem_eraseIdx] at this
         have:=Option.some.inj this
         rw [this]
         split <;> rfl
        rw [q,q']
        exact g3 _ _ _
    ·cases h
   ·cases h
  ·cases h
end
end Go.Proofs.YtbhhmbchdponjaaGreatDoor
namespace Go.Proofs.YtbhhmbchdponjaaGreatDoor
set_option linter.unusedVariables false
set_option linter.unusedSimpArgs false
open Go.RowKit
inductive All2 {α β:Type} (R:α→β→Prop):List α→List β→Prop where
 | nil:All2 R [] []
 | cons {a:α} {b:β} {l:List α} {m:List β}:R a b→All2 R l m→All2 R (a :: l) (b :: m)
theorem All2.of_idx {α β:Type} {R:α→β→Prop}:∀ {l:List α} {m:List β},l.length=m.length→(∀ i (h:i < l.length) (h':i < m.length),R l[i] m[i])→All2 R l m
 | [],[],_,_=>.nil
 | [],_ :: _,h,_=>by simp at h
 | _ :: _,[],h,_=>by simp at h
 | a :: l,b :: m,h,hi=>.cons (hi 0 (by simp) (by simp)) (All2.of_idx (by simpa using h) (fun i h1 h2=>hi (i+1) (by simpa using h1) (by simpa using h2)))
theorem All2.filter {α β:Type} {R:α→β→Prop} {p:α→Bool} {q:β→Bool} (hpq:∀ a b,R a b→p a=q b) {l:List α} {m:List β} (h:All2 R l m):All2 R (l.filter p) (m.filter q):=by
 induction h with
 | nil=>exact .nil
 | cons hr _ ih=>
  rename_i a b l m _
  rw [List.filter_cons,List.filter_cons,hpq a b hr]
  split
  ·exact .cons hr ih
  ·exact ih
theorem All2.all {α β:Type} {R:α→β→Prop} {p:α→Bool} {q:β→Bool} (hpq:∀ a b,R a b→p a=q b) {l:List α} {m:List β} (h:All2 R l m):l.all p=m.all q:=by
 induction h with
 | nil=>rfl
 | cons hr _ ih=>rw [List.all_cons,List.all_cons,hpq _ _ hr,ih]
theorem All2.isEmpty {α β:Type} {R:α→β→Prop} {l:List α} {m:List β} (h:All2 R l m):l.isEmpty=m.isEmpty:=by cases h <;> rfl
def unNats:List AV→Option (List Nat)
 | []=>some []
 | .v (.int .i64 (.ofNat n)) :: l=>match unNats l with
  | some r=>some (n :: r)
  | none=>none
 | _=>none
theorem unNats_ok:∀ (l:List AV) (ns:List Nat),unNats l=some ns→l=ns.map fun n=>.v (.int .i64 (Int.ofNat n)):=by
 intro l
 induction l with
 | nil=>intro ns h; simp only [unNats,Option.some.injEq] at h; subst h; rfl
 | cons x l ih=>
  intro ns h
  unfold unNats at h
  split at h
  ·rename_i e; cases e
  ·rename_i n l' e
   obtain ⟨rfl,rfl⟩:=List.cons.inj e
   split at h
   ·rename_i r hr
    simp only [Option.some.injEq] at h
    subst h
    rw [List.map_cons,← ih _ hr]
   ·cases h
  ·cases h
def siterBlk (ver esz:Nat) (s:ByteArray) (pos:Nat):Blk:=⟨ver,siterCs s pos,esz,true⟩
def miterBlk (ver esz:Nat) (m:AV) (since:Nat) (seen:List Nat) (last:Nat):Blk:=⟨ver,miterCs m since seen last,esz,true⟩
inductive Iter where
 | txt (s:ByteArray) (pos:Nat)
 | ofm (id ver since:Nat) (seen:List Nat) (last:Nat)
def Iter.blk (ver esz:Nat):Iter→Blk
 | .txt s pos=>siterBlk ver esz s pos
 | .ofm id v since seen last=>miterBlk ver esz (.mp id v) since seen last
def unIter:List AV→Option Iter
 | [.v (.int .i64 (.ofNat 1)),.v (.string s),.v (.int .i64 (.ofNat pos))]=>some (.txt s pos)
 | .v (.int .i64 (.ofNat 2)) :: .mp id v :: .v (.int .i64 (.ofNat since)) :: .v (.int .i64 (.ofNat last)) :: l=>match unNats l with
  | some seen=>some (.ofm id v since seen last)
  | none=>none
 | _=>none
theorem unIter_ok {cs:List AV} {i:Iter} (h:unIter cs=some i) (ver esz:Nat):(⟨ver,cs,esz,true⟩:Blk)=i.blk ver esz:=by unfold unIter at h;split at h;simp only [Option.some.injEq] at h;subst h;rfl;split at h;rename_i seen hs;simp only [Option.some.injEq] at h;subst h;simp only [Iter.blk,miterBlk,miterCs];rw [← unNats_ok _ _ hs];rfl;cases h;cases h
def liveI (η:Heap) (id ver:Nat):Option (Blk×Iter):=match η id with
 | some b=>bif Nat.beq b.ver ver&&b.nilp then (match unIter b.cs with
  | some i=>some (b,i)
  | none=>none) else none
 | none=>none
theorem liveI_ok {η:Heap} {id ver:Nat} {b:Blk} {i:Iter} (h:liveI η id ver=some (b,i)):η id=some b∧b=i.blk ver b.esz:=by
 unfold liveI at h
 cases hb:η id with
 | none=>rw [hb] at h; cases h
 | some b'=>
  rw [hb] at h
  simp only at h
  cases hc:(Nat.beq b'.ver ver&&b'.nilp) with
  | false=>rw [hc] at h; simp at h
  | true=>
   rw [hc] at h
   simp only [cond_true] at h
   rw [Bool.and_eq_true] at hc
   split at h
   ·rename_i i' hm
    simp only [Option.some.injEq,Prod.mk.injEq] at h
    obtain ⟨rfl,rfl⟩:=h
    refine ⟨rfl,?_⟩
    obtain ⟨v,cs,z,n⟩:=b'
    have e1:=Nat.eq_of_beq_eq_true hc.1
    have e2:=hc.2
    simp only at e1 e2 hm
    subst e1 e2
    exact unIter_ok hm _ _
   ·cases h
theorem ObjR.siter_inv {C:Ctx} {s:ByteArray} {pos:Nat} {o:Obj} (h:ObjR C (siterCs s pos) o):o=.stringIter s pos:=by
 generalize hc:siterCs s pos=cs at h
 cases h with
 | map _ _=>exact absurd (List.cons.inj hc).1 (by simp)
 | siter=>
  simp only [siterCs,List.cons.injEq,AV.v.injEq,Value.string.injEq,Value.int.injEq,Int.ofNat.injEq,true_and,and_true] at hc
  obtain ⟨rfl,h2⟩:=hc
  subst h2
  rfl
 | miter0=>exact absurd (List.cons.inj hc).1 (by simp)
 | miter _=>exact absurd (List.cons.inj hc).1 (by simp)
theorem nats_inj:∀ {a b:List Nat},(a.map fun n=>AV.v (.int .i64 (Int.ofNat n)))=(b.map fun n=>.v (.int .i64 (Int.ofNat n)))→a=b
 | [],[],_=>rfl
 | [],_ :: _,h=>by cases h
 | _ :: _,[],h=>by cases h
 | n :: a,m :: b,h=>by simp only [List.map_cons,List.cons.injEq,AV.v.injEq,Value.int.injEq,true_and] at h;have h1:n=m:=Int.ofNat.inj h.1;rw [h1,nats_inj h.2]
theorem ObjR.miter_inv {C:Ctx} {id ver since last:Nat} {seen:List Nat} {o:Obj} (h:ObjR C (miterCs (.mp id ver) since seen last) o):∃ m,o=.mapIter (some m) since seen.toArray last∧VR C (.mp id ver) (.map (some m)):=by
 generalize hc:miterCs (.mp id ver) since seen last=cs at h
 cases h with
 | map _ _=>exact absurd (List.cons.inj hc).1 (by simp)
 | siter=>exact absurd (List.cons.inj hc).1 (by simp)
 | miter0=>exact absurd (List.cons.inj (List.cons.inj hc).2).1 (by simp)
 | miter hv=>
  simp only [miterCs,List.cons.injEq,AV.v.injEq,Value.int.injEq,true_and] at hc
  obtain ⟨rfl,h1,h2,h3⟩:=hc
  have e1:=Int.ofNat.inj h1
  have e2:=Int.ofNat.inj h2
  subst e1 e2
  obtain rfl:=nats_inj h3
  exact ⟨_,rfl,hv⟩
section
variable {P:Program} {τ:Nat→AV} {η:Heap} {d:Option Tmp} {ty:TypeId} {pos:String} {af:Array Edge} {g:Option (Nat×Bool)}
def rangeE (P:Program) (τ:Nat→AV) (η:Heap) (u t:Nat) (x:Operand):Option Rec:=match P.underlying t with
 | some .string=>match aev τ x with
  | .v (.string s)=>some ⟨[],[(u,some (siterBlk 0 0 s 0))],.it u 0,u+1⟩
  | _=>none
 | some (.map _ _)=>match aev τ x with
  | .mp id ver=>match liveM η id ver with
   | some (b,clock,es)=>bif Nat.beq id u then none else some ⟨[id],[(u,some (miterBlk 0 0 (.mp id ver) clock [] clock))],.it u 0,u+1⟩
   | none=>none
  | _=>none
 | _=>none
theorem rangeE_ok {u t:Nat} {x:Operand} {r:Rec} (h:rangeE P τ η u t x=some r):LOp P ⟨d,.range t x,ty,pos,af,g⟩ τ η r.fp r.δ r.v:=by
 have main:∀ (fp:List Nat) (b:Blk),u∉fp→b.kind=2→b.ver=0→(∀ (C:Ctx) (a:Act),Good C→(∀ x'∈(Op.range t x).operands,VR C (aev τ x') (a.eval x'))→(∀ id∈fp,C.η id=η id)→∃ o,ObjR C b.cs o∧(execOp a.eval ⟨d,.range t x,ty,pos,af,g⟩).run P C.w=.ok (.value (.pointer (some ⟨C.w.heap.size,0,none⟩))) (C.w.alloc o)) →
  LOp P ⟨d,.range t x,ty,pos,af,g⟩ τ η fp [(u,some b)] (.it u 0):=by
  intro fp b hufp hk hv hex C a hg hxs hfp hnew K Q hK
  have hu:¬ C.U u:=hnew (u,some b) (by simp) hufp
  obtain ⟨o,ho,hr⟩:=hex C a hg hxs hfp
  unfold Oper.wp
  rw [hr]
  refine hK _ (C.allocO u o b) rfl (fun i=>by simp [Ctx.allocO]) (Ctx.allocO_good hg hu hk ho) (Ctx.allocO_ev hg hu) ?_
  have:=VR.it (C:=C.allocO u o b) (id:=u) (ver:=0) (Heap.set_same _ _ _) hv hk
  have e:((C.allocO u o b).ρ u).1=C.w.heap.size:=by simp [Ctx.allocO]
  rw [e] at this
  exact this
 unfold rangeE at h
 split at h
 ·rename_i hu
  split at h
  ·rename_i s hx
   simp only [Option.some.injEq] at h
   subst h
   refine main [] _ (by simp) rfl rfl fun C a hg hxs hfp=>⟨.stringIter s 0,.siter,?_⟩
   have e1:=hxs x (by simp [Op.operands])
   rw [hx] at e1
   have e1':=e1.v_inv
   simp only [execOp,e1',Instr.range,Sem.run_bind,run_underlying hu,Result.andThen_ok,Sem.run_pure,run_newObj]
  ·cases h
 ·rename_i kt et hu
  split at h
  ·rename_i id ver hx
   split at h
   ·rename_i b clock es hb
    obtain ⟨hb1,hb2⟩:=liveM_ok hb
    cases hid:Nat.beq id u with
    | true=>rw [hid] at h; simp at h
    | false=>
     rw [hid] at h
     simp only [cond_false,Option.some.injEq] at h
     subst h
     refine main [id] _ (by simp; intro e; rw [e,Nat.beq_refl] at hid; cases hid) rfl rfl fun C a hg hxs hfp=>?_
     have hbC:C.η id=some b:=(hfp id (by simp)).trans hb1
     have e1:=hxs x (by simp [Op.operands])
     rw [hx] at e1
     have e1':=e1.mp_inv hbC (by rw [hb2]; rfl)
     obtain ⟨entries,g1,g2,g3⟩:=map_at hg hbC hb2
     rw [e1'] at e1
     refine ⟨.mapIter (some (C.ρ id).1) clock #[] clock,.miter (seen:=[]) e1,?_⟩
     simp only [execOp,e1',Instr.range,Sem.run_bind,run_underlying hu,Result.andThen_ok,run_getObj g1,Sem.run_pure,run_newObj]
   ·cases h
  ·cases h
 ·cases h
theorem LOp.setIter {o:Oper} {id ver:Nat} {fp:List Nat} {b:Blk} {i i':Iter} {v:AV} (hid:id∈fp) (hb1:η id=some b) (hb2:b=i.blk ver b.esz)
 (h:∀ (C:Ctx) (a:Act),Good C→(∀ x∈o.op.operands,VR C (aev τ x) (a.eval x))→(∀ id∈fp,C.η id=η id)→∀ ob,C.w.heap[(C.ρ id).1]? = some ob→ObjR C b.cs ob →
  ∃ ob' x,(execOp a.eval o).run P C.w=.ok (.value x) { C.w with heap:=C.w.heap.setIfInBounds (C.ρ id).1 ob' }∧VR C v x∧ObjR C (i'.blk ver b.esz).cs ob') :
 LOp P o τ η fp [(id,some (i'.blk ver b.esz))] v:=by
 intro C a hg hxs hfp _ K Q hK
 have hbC:C.η id=some b:=(hfp id hid).trans hb1
 have hk0:b.kind=2:=by rw [hb2]; cases i <;> rfl
 have hk1:(i'.blk ver b.esz).kind=2:=by cases i' <;> rfl
 have hver:(i'.blk ver b.esz).ver=b.ver:=by rw [hb2]; cases i' <;> cases i <;> rfl
 have hesz:(i'.blk ver b.esz).esz=b.esz:=by cases i' <;> rfl
 obtain ⟨ob,g1,g2⟩:=hg.obj hbC hk0
 obtain ⟨ob',x,r1,r2,r3⟩:=h C a hg hxs hfp ob g1 g2
 have hev:=Ctx.setO_ev (C:=C) (o:=ob') (b:=i'.blk ver b.esz) hg hbC hk0 hk1 hver hesz
 have hgd:=Ctx.setO_good (C:=C) (o:=ob') (b:=i'.blk ver b.esz) hg hbC hk0 hk1 hver hesz r3
 unfold Oper.wp
 rw [r1]
 exact hK x _ rfl (fun j=>by simp [Ctx.setO];rintro rfl;exact hg.used hbC) hgd hev (r2.mono hg hev)
def nextE (P:Program) (τ:Nat→AV) (η:Heap) (u:Nat) (x:Operand) (isString:Bool):Option Rec:=match aev τ x with
 | .it id ver=>match liveI η id ver with
  | none=>none
  | some (b,.txt s pos)=>bif isString then
   (bif Nat.blt pos s.size then (match Utf8.decode s pos with
    | (c,width)=>some ⟨[id],[(id,some (siterBlk ver b.esz s (pos+width)))],.tup [.v (.bool true),.v (goInt pos),.v (.int .i32 c)],u⟩)
   else some ⟨[id],[],.tup [.v (.bool false)],u⟩)
   else none
  | some (b,.ofm mid mver since seen last)=>bif isString then none else
   match liveM η mid mver with
   | none=>none
   | some (mb,clock,es)=>
    bif !seen.isEmpty&&!es.isEmpty&&es.all (fun e=>Nat.ble last e.2.2) then none else
    match (es.filter fun e=>!seen.contains e.2.2).filter (fun e=>Nat.blt e.2.2 since),(es.filter fun e=>!seen.contains e.2.2).filter (fun e=>Nat.ble since e.2.2) with
    | [],[]=>some ⟨[id,mid],[],.tup [.v (.bool false)],u⟩
    | [e],[]=>some ⟨[id,mid],[(id,some (miterBlk ver b.esz (.mp mid mver) since (seen++[e.2.2]) clock))],.tup [.v (.bool true),.v e.1,e.2.1],u⟩
    | _,_=>none
 | _=>none
theorem VR.tri {C:Ctx} {a b c:AV} {x y z:Value} (h1:VR C a x) (h2:VR C b y) (h3:VR C c z):VR C (.tup [a,b,c]) (.tuple #[x,y,z]):=by
 refine .tup rfl (fun i h h'=>?_);match i,h with
 | 0,_=>exact h1
 | 1,_=>exact h2
 | 2,_=>exact h3
theorem VR.one1 {C:Ctx} {a:AV} {x:Value} (h1:VR C a x):VR C (.tup [a]) (.tuple #[x]):=by
 refine .tup rfl (fun i h h'=>?_);match i,h with
 | 0,_=>exact h1
theorem run_getIter {w:World} {r:Nat} {o:Obj} (h:w.heap[r]? = some o) (hn:∀ c t f,o≠.cells c t f):(getObj r).run P w=.ok o w:=by unfold getObj;unfold Sem.run;rw [h];cases o <;> first | rfl | (exact absurd rfl (hn _ _ _))
theorem nextE_ok {u:Nat} {x:Operand} {isString:Bool} {r:Rec} (h:nextE P τ η u x isString=some r):LOp P ⟨d,.next x isString,ty,pos,af,g⟩ τ η r.fp r.δ r.v:=by
 unfold nextE at h
 split at h
 ·rename_i id ver hx
  have hex:∀ (a:Act) (w:World),(execOp a.eval ⟨d,.next x isString,ty,pos,af,g⟩).run P w=((Instr.next (a.eval x) isString ty).run P w).andThen fun x w=>.ok (.value x) w:=by
   intro a w
   simp only [execOp,Sem.run_bind]
   rfl
  split at h
  ·cases h
  ·rename_i b s ps hb
   obtain ⟨hb1,hb2⟩:=liveI_ok hb
   have hcs:b.cs=siterCs s ps:=by rw [hb2]; rfl
   cases isString with
   | false=>simp at h
   | true=>
    simp only [cond_true] at h
    cases hlt:Nat.blt ps s.size with
    | true=>
     rw [hlt] at h
     simp only [cond_true] at h
     have hlt':ps < s.size:=by simpa using hlt
     cases hdec:Utf8.decode s ps with
     | mk c width=>
      rw [hdec] at h
      simp only [Option.some.injEq] at h
      subst h
      refine LOp.setIter (i':=.txt s (ps+width)) (by simp) hb1 hb2 fun C a hg hxs hfp ob g1 g2=>?_
      have hbC:C.η id=some b:=(hfp id (by simp)).trans hb1
      have e1:=hxs x (by simp [Op.operands])
      rw [hx] at e1
      have e1':=e1.it_inv hbC (by rw [hb2]; rfl)
      rw [hcs] at g2
      obtain rfl:=g2.siter_inv
      refine ⟨.stringIter s (ps+width),.tuple #[.bool true,goInt ps,.int .i32 c],?_,VR.tri (VR.v C _) (VR.v C _) (VR.v C _),.siter⟩
      rw [hex,e1']
      simp only [Instr.next,Sem.run_bind,run_getIter g1 (fun _ _ _ e=>by cases e),Result.andThen_ok,hlt',if_true,hdec,run_setObj g1 (fun _ _ _ e=>by cases e),Sem.run_pure]
    | false=>
     rw [hlt] at h
     simp only [cond_false,Option.some.injEq] at h
     subst h
     have hlt':¬ ps < s.size:=by
      intro hh
      rw [show Nat.blt ps s.size=true by simpa using hh] at hlt
      cases hlt
     refine .look [id] fun C a hg hxs hfp=>?_
     have hbC:C.η id=some b:=(hfp id (by simp)).trans hb1
     have e1:=hxs x (by simp [Op.operands])
     rw [hx] at e1
     have e1':=e1.it_inv hbC (by rw [hb2]; rfl)
     obtain ⟨ob,g1,g2⟩:=hg.obj hbC (by rw [hb2]; rfl)
     rw [hcs] at g2
     obtain rfl:=g2.siter_inv
     refine ⟨.tuple #[.bool false],?_,VR.one1 (VR.v C _)⟩
     rw [hex,e1']
     simp only [Instr.next,Sem.run_bind,run_getIter g1 (fun _ _ _ e=>by cases e),Result.andThen_ok,hlt',if_false,Sem.run_pure]
  ·rename_i b mid mver since seen last hb
   obtain ⟨hb1,hb2⟩:=liveI_ok hb
   have hcs:b.cs=miterCs (.mp mid mver) since seen last:=by rw [hb2]; rfl
   cases isString with
   | true=>simp at h
   | false=>
    simp only [cond_false] at h
    split at h
    ·cases h
    ·rename_i mb clock es hm
     obtain ⟨hm1,hm2⟩:=liveM_ok hm
     cases hgone:(!seen.isEmpty&&!es.isEmpty&&es.all (fun e=>Nat.ble last e.2.2)) with
     | true=>rw [hgone] at h; simp at h
     | false=>
      rw [hgone] at h
      simp only [cond_false] at h
      have core:∀ (C:Ctx) (a:Act),Good C→(∀ x'∈(Op.next x false).operands,VR C (aev τ x') (a.eval x'))→(∀ i∈[id,mid],C.η i=η i)→∀ ob,C.w.heap[(C.ρ id).1]? = some ob→ObjR C b.cs ob →
       ∃ entries:Array MapEntry,∃ m,ob=.mapIter (some m) since seen.toArray last∧VR C (.mp mid mver) (.map (some m))∧a.eval x=.pointer (some ⟨(C.ρ id).1,0,none⟩)∧C.w.heap[m]? = some (.map entries clock)∧All2 (fun (x:Value×AV×Nat) (e:MapEntry)=>e.key=x.1∧VR C x.2.1 e.val∧e.born=x.2.2) es entries.toList:=by
       intro C a hg hxs hfp ob g1 g2
       have hbC:C.η id=some b:=(hfp id (by simp)).trans hb1
       have hmC:C.η mid=some mb:=(hfp mid (by simp)).trans hm1
       have e1:=hxs x (by simp [Op.operands])
       rw [hx] at e1
       have e1':=e1.it_inv hbC (by rw [hb2]; rfl)
       rw [hcs] at g2
       obtain ⟨m,rfl,hvm⟩:=g2.miter_inv
       have hmv:=hvm.mp_inv hmC (by rw [hm2]; rfl)
       have hmm:m=(C.ρ mid).1:=by simpa using hmv
       subst hmm
       obtain ⟨entries,q1,q2,q3⟩:=map_at hg hmC hm2
       exact ⟨entries,_,rfl,hvm,e1',q1,All2.of_idx (by simpa using q2) (fun i h1 h2=>by simpa using q3 i h1 (by simpa using h2))⟩
      have toRun:∀ (C:Ctx) (entries:Array MapEntry),All2 (fun (x:Value×AV×Nat) (e:MapEntry)=>e.key=x.1∧VR C x.2.1 e.val∧e.born=x.2.2) es entries.toList →
       (!seen.toArray.isEmpty&&!entries.isEmpty&&entries.all (·.born≥last))=false ∧
       All2 (fun (x:Value×AV×Nat) (e:MapEntry)=>e.key=x.1∧VR C x.2.1 e.val∧e.born=x.2.2) ((es.filter fun e=>!seen.contains e.2.2).filter (fun e=>Nat.blt e.2.2 since)) ((entries.filter fun e=>!seen.toArray.contains e.born).filter (·.born < since)).toList ∧
       All2 (fun (x:Value×AV×Nat) (e:MapEntry)=>e.key=x.1∧VR C x.2.1 e.val∧e.born=x.2.2) ((es.filter fun e=>!seen.contains e.2.2).filter (fun e=>Nat.ble since e.2.2)) ((entries.filter fun e=>!seen.toArray.contains e.born).filter (·.born≥since)).toList:=by
       intro C entries hall
       have hleft:All2 (fun (x:Value×AV×Nat) (e:MapEntry)=>e.key=x.1∧VR C x.2.1 e.val∧e.born=x.2.2) (es.filter fun e=>!seen.contains e.2.2) (entries.filter fun e=>!seen.toArray.contains e.born).toList:=by
        rw [Array.toList_filter]
        refine hall.filter (fun a b hab=>?_)
        rw [hab.2.2]
        simp
       refine ⟨?_,?_,?_⟩
       ·rw [← hgone]
        congr 1
        ·congr 1
         ·simp
         ·have:=hall.isEmpty
          rw [this]
          simp
        ·rw [hall.all (q:=fun e=>decide (e.born≥last)) (fun a b hab=>by
          rw [hab.2.2]
          rw [Bool.eq_iff_iff]
          simp [Nat.ble_eq])]
         simp
       ·rw [Array.toList_filter]
        refine hleft.filter (fun a b hab=>?_)
        rw [hab.2.2,Bool.eq_iff_iff]
        simp
       ·rw [Array.toList_filter]
        refine hleft.filter (fun a b hab=>?_)
        rw [hab.2.2,Bool.eq_iff_iff]
        simp [Nat.ble_eq]
      split at h
      ·rename_i f1 f2
       simp only [Option.some.injEq] at h
       subst h
       refine .look [id,mid] fun C a hg hxs hfp=>?_
       have hbC:C.η id=some b:=(hfp id (by simp)).trans hb1
       obtain ⟨ob,g1,g2⟩:=hg.obj hbC (by rw [hb2]; rfl)
       obtain ⟨entries,m,rfl,hvm,e1',q1,hall⟩:=core C a hg hxs hfp ob g1 g2
       obtain ⟨t1,t2,t3⟩:=toRun C entries hall
       rw [f1] at t2
       rw [f2] at t3
       have n1:((entries.filter fun e=>!seen.toArray.contains e.born).filter (·.born < since))=#[]:=by
        generalize ((entries.filter fun e=>!seen.toArray.contains e.born).filter (·.born < since))=arr at t2
        obtain ⟨l⟩:=arr
        cases t2; rfl
       have n2:((entries.filter fun e=>!seen.toArray.contains e.born).filter (·.born≥since))=#[]:=by
        generalize ((entries.filter fun e=>!seen.toArray.contains e.born).filter (·.born≥since))=arr at t3
        obtain ⟨l⟩:=arr
        cases t3; rfl
       refine ⟨.tuple #[.bool false],?_,VR.one1 (VR.v C _)⟩
       rw [hex,e1']
       simp only [Instr.next,Sem.run_bind,run_getIter g1 (fun _ _ _ e=>by cases e),Result.andThen_ok,run_getIter q1 (fun _ _ _ e=>by cases e),t1,Bool.false_eq_true,if_false,n1,n2]
       have hch:∀ w:World,(choose (.mapNext 1)).run P w=.ok 0 w:=fun w=>by simp [choose,Sem.run,Question.forced]
       have hc:((if (#[]:Array MapEntry).isEmpty=true then #[none] else #[])++((#[]:Array MapEntry)++(#[]:Array MapEntry)).map some)=#[none]:=by simp
       simp only [hc]
       have hz:(#[none]:Array (Option MapEntry)).size=1:=rfl
       rw [hz]
       simp only [hch,Result.andThen_ok]
       have hi:(#[none]:Array (Option MapEntry))[0]? = some none:=rfl
       simp only [hi,Sem.run_pure,Result.andThen_ok]
      ·rename_i e f1 f2
       simp only [Option.some.injEq] at h
       subst h
       refine LOp.setIter (i':=.ofm mid mver since (seen++[e.2.2]) clock) (by simp) hb1 hb2 fun C a hg hxs hfp ob g1 g2=>?_
       obtain ⟨entries,m,rfl,hvm,e1',q1,hall⟩:=core C a hg hxs hfp ob g1 g2
       obtain ⟨t1,t2,t3⟩:=toRun C entries hall
       rw [f1] at t2
       rw [f2] at t3
       have n1:∃ en,((entries.filter fun e=>!seen.toArray.contains e.born).filter (·.born < since))=#[en]∧en.key=e.1∧VR C e.2.1 en.val∧en.born=e.2.2:=by
        generalize ((entries.filter fun e=>!seen.toArray.contains e.born).filter (·.born < since))=arr at t2
        obtain ⟨l⟩:=arr
        cases t2 with
        | cons hr hnil=>cases hnil; exact ⟨_,rfl,hr⟩
       have n2:((entries.filter fun e=>!seen.toArray.contains e.born).filter (·.born≥since))=#[]:=by
        generalize ((entries.filter fun e=>!seen.toArray.contains e.born).filter (·.born≥since))=arr at t3
        obtain ⟨l⟩:=arr
        cases t3; rfl
       obtain ⟨en,n1,k1,k2,k3⟩:=n1
       refine ⟨.mapIter (some m) since (seen++[e.2.2]).toArray clock,.tuple #[.bool true,en.key,en.val],?_,VR.tri (VR.v C _) (by rw [k1]; exact VR.v C _) k2,.miter hvm⟩
       rw [hex,e1']
       have hseen:(seen++[e.2.2]).toArray=seen.toArray.push en.born:=by rw [k3]; simp
       rw [hseen]
       simp only [Instr.next,Sem.run_bind,run_getIter g1 (fun _ _ _ e=>by cases e),Result.andThen_ok,run_getIter q1 (fun _ _ _ e=>by cases e),t1,Bool.false_eq_true,if_false,n1,n2]
       have hch:∀ w:World,(choose (.mapNext 1)).run P w=.ok 0 w:=fun w=>by simp [choose,Sem.run,Question.forced]
       have hc:((if (#[en]:Array MapEntry).isEmpty=true then #[none] else #[])++((#[en]:Array MapEntry)++(#[]:Array MapEntry)).map some)=#[some en]:=by simp
       simp only [hc]
       have hz:(#[some en]:Array (Option MapEntry)).size=1:=rfl
       rw [hz]
       simp only [hch,Result.andThen_ok]
       have hi:(#[some en]:Array (Option MapEntry))[0]? = some (some en):=rfl
       simp only [hi,Sem.run_bind,run_setObj g1 (fun _ _ _ e=>by cases e),Result.andThen_ok,Sem.run_pure]
      ·cases h
 ·cases h
end
end Go.Proofs.YtbhhmbchdponjaaGreatDoor
namespace Go.Proofs.YtbhhmbchdponjaaGreatDoor
set_option linter.unusedVariables false
set_option linter.unusedSimpArgs false
open Go.RowKit
section
variable {P:Program} {τ:Nat→AV} {η:Heap} {d:Option Tmp} {ty:TypeId} {pos:String} {af:Array Edge} {g:Option (Nat×Bool)}
def partE (P:Program) (t:Nat) (cs:List AV) (off:Nat):Option AV:=match rowOf P t with
 | none=>none
 | some none=>cs[off]?
 | some (some n)=>match takeFrom off n cs with
  | some ds=>some (.agg ds)
  | none=>none
theorem partE_ok {t off:Nat} {cs:List AV} {v:AV} (h:partE P t cs off=some v) {C:Ctx} {vs:Array Value} (hl:cs.length=vs.size) (hi:∀ i (h:i < cs.length) (h':i < vs.size),VR C cs[i] vs[i]) (w:World):∃ x,(part t vs off).run P w=.ok x w∧VR C v x:=by
 unfold partE at h
 split at h
 ·cases h
 ·rename_i hr
  obtain ⟨hlt,rfl⟩:=List.getElem?_eq_some_iff.1 h
  refine ⟨vs[off]'(by omega),?_,hi off hlt (by omega)⟩
  unfold rowOf at hr
  cases hu:P.underlying t with
  | none=>rw [hu] at hr; cases hin:P.info? t <;> rw [hin] at hr <;> cases hr
  | some dd=>
   rw [hu] at hr
   have hv:vs[off]? = some (vs[off]'(by omega)):=Array.getElem?_eq_getElem (by omega)
   cases dd <;> first
    | (simp [part,isAgg,Sem.run_bind,run_underlying hu,hv]; done)
    | (cases hin:P.info? t <;> rw [hin] at hr <;> simp at hr)
 ·rename_i n hr
  split at h
  ·rename_i ds hd
   simp only [Option.some.injEq] at h
   subst h
   obtain ⟨hle,rfl⟩:=takeFrom_eq _ _ _ _ hd
   refine ⟨.agg (vs.extract off (off+n)),?_,.agg (by simp; omega) (fun i h1 h2=>?_)⟩
   ·unfold rowOf at hr
    cases hu:P.underlying t with
    | none=>rw [hu] at hr; cases hin:P.info? t <;> rw [hin] at hr <;> cases hr
    | some dd=>
     rw [hu] at hr
     cases dd <;> first
      |(
       cases hin:P.info? t with
       | none=>rw [hin] at hr; cases hr
       | some inf=>
        rw [hin] at hr
        simp only [Option.some.injEq] at hr
        subst hr
        simp [part,isAgg,sizeOf,typeInfo,Sem.run_bind,run_underlying hu,run_program,hin]; done)
      | (cases hin:P.info? t <;> rw [hin] at hr <;> simp at hr)
   ·have h1':i < n:=by simp at h1; omega
    simp only [List.getElem_take,List.getElem_drop,Array.getElem_extract]
    exact hi _ (by omega) (by omega)
  ·cases h
def fieldTy (P:Program) (t i:Nat):Option (Nat×Nat):=match P.underlying t with
 | some (.struct fs)=>(fs[i]?).map fun f=>(f.offset,f.type)
 | _=>none
def fieldE (P:Program) (τ:Nat→AV) (u t:Nat) (x:Operand) (i:Nat):Option Rec:=match fieldTy P t i with
 | none=>none
 | some (off,ft)=>match aev τ x with
  | .agg cs=>match partE P ft cs off with
   | some v=>some ⟨[],[],v,u⟩
   | none=>none
  | _=>none
theorem fieldE_ok {u t i:Nat} {x:Operand} {r:Rec} (h:fieldE P τ u t x i=some r):LOp P ⟨d,.field t x i,ty,pos,af,g⟩ τ η r.fp r.δ r.v:=by
 unfold fieldE at h
 split at h
 ·cases h
 ·rename_i off ft hf
  split at h
  ·rename_i cs hx
   split at h
   ·rename_i v hv
    simp only [Option.some.injEq] at h
    subst h
    refine .look [] fun C a hg hxs _=>?_
    have e1:=hxs x (by simp [Op.operands])
    rw [hx] at e1
    obtain ⟨vs,e2,e3,e4⟩:=e1.agg_inv
    obtain ⟨y,hy,hvy⟩:=partE_ok hv e3 e4 C.w
    refine ⟨y,?_,hvy⟩
    unfold fieldTy at hf
    split at hf
    ·rename_i fs hu
     cases hfi:fs[i]? with
     | none=>rw [hfi] at hf; cases hf
     | some f=>
      rw [hfi] at hf
      simp only [Option.map_some,Option.some.injEq,Prod.mk.injEq] at hf
      obtain ⟨rfl,rfl⟩:=hf
      simp only [execOp,e2,Instr.field,Sem.run_bind,run_underlying hu,Result.andThen_ok,hfi,asAgg,Sem.run_pure,hy]
    ·cases hf
   ·cases h
  ·cases h
def indexE (P:Program) (τ:Nat→AV) (u t:Nat) (x i:Operand):Option Rec:=match P.underlying t with
 | some (.array len e)=>match sizeInfo P e with
  | none=>none
  | some n=>match aev τ i with
   | .v (.int k (.ofNat j))=>bif Nat.blt j len then (match aev τ x with
    | .agg cs=>match partE P e cs (j * n) with
     | some v=>some ⟨[],[],v,u⟩
     | none=>none
    | _=>none) else none
   | _=>none
 | _=>none
theorem indexE_ok {u t:Nat} {x i:Operand} {r:Rec} (h:indexE P τ u t x i=some r):LOp P ⟨d,.index t x i,ty,pos,af,g⟩ τ η r.fp r.δ r.v:=by
 unfold indexE at h
 split at h
 ·rename_i len e hu
  split at h
  ·cases h
  ·rename_i n hs
   split at h
   ·rename_i k j hi
    cases hlt:Nat.blt j len with
    | false=>rw [hlt] at h; simp at h
    | true=>
     rw [hlt] at h
     simp only [cond_true] at h
     have hlt':j < len:=by simpa using hlt
     split at h
     ·rename_i cs hx
      split at h
      ·rename_i v hv
       simp only [Option.some.injEq] at h
       subst h
       refine .look [] fun C a hg hxs _=>?_
       have e1:=hxs x (by simp [Op.operands])
       have e0:=hxs i (by simp [Op.operands])
       rw [hx] at e1
       rw [hi] at e0
       have e0':=e0.v_inv
       obtain ⟨vs,e2,e3,e4⟩:=e1.agg_inv
       obtain ⟨y,hy,hvy⟩:=partE_ok hv e3 e4 C.w
       refine ⟨y,?_,hvy⟩
       unfold sizeInfo at hs
       cases hin:P.info? e with
       | none=>rw [hin] at hs; cases hs
       | some inf=>
        rw [hin] at hs
        simp only [Option.map_some,Option.some.injEq] at hs
        subst hs
        have c1:(0:Int)≤Int.ofNat j∧Int.ofNat j < (len:Int):=⟨by simp,by simp; exact_mod_cast hlt'⟩
        have c2:(Int.ofNat j).toNat=j:=rfl
        simp only [execOp,e2,e0',Instr.index,asIntOf,Sem.run_bind,Sem.run_pure,Result.andThen_ok,run_underlying hu,c1,and_self,if_true,sizeOf,typeInfo,run_program,hin,c2,hy]
      ·cases h
     ·cases h
   ·cases h
 ·cases h
def natOf (τ:Nat→AV) (dflt:Nat):Option Operand→Option Nat
 | none=>some dflt
 | some x=>match aev τ x with
  | .v (.int _ (.ofNat n))=>some n
  | _=>none
def sliceE (P:Program) (τ:Nat→AV) (η:Heap) (u t:Nat) (x:Operand) (lo hi:Option Operand):Option Rec:=match P.underlying t with
 | some (.slice e)=>match sizeInfo P e with
  | none=>none
  | some n=>match aev τ x with
   | .sl id ver off len=>match liveB η id ver with
    | none=>none
    | some b=>match natOf τ 0 lo with
     | none=>none
     | some l=>match natOf τ len hi with
      | none=>none
      | some h=>bif Nat.ble l h&&Nat.ble h len&&Nat.beq b.esz n then some ⟨[id],[],.sl id ver (off+l * n) (h - l),u⟩ else none
   | .tree m rows=>match natOf τ 0 lo with
    | none=>none
    | some l=>match natOf τ rows.length hi with
     | none=>none
     | some h=>bif Nat.ble l h&&Nat.ble h rows.length&&Nat.beq m n then some ⟨[],[],.tree m ((rows.drop l).take (h - l)),u⟩ else none
   | _=>none
 | _=>none
theorem run_bounds {a:Act} {len cap l h:Nat} {lo hi:Option Operand} {w:World} (hlo:∀ x,lo=some x→∃ k,a.eval x=.int k (Int.ofNat l)) (hlo0:lo=none→l=0) (hhi:∀ x,hi=some x→∃ k,a.eval x=.int k (Int.ofNat h)) (hhi0:hi=none→h=len) (h1:l≤h) (h2:h≤cap) :
 (Instr.sliceBounds true len cap (lo.map a.eval) (hi.map a.eval) none).run P w=.ok (l,h,cap) w:=by
 have hb:∀ (k:IntKind) (n y:Nat) (code:BoundsCode),n≤y→(Instr.sliceBound (.int k (Int.ofNat n)) y code).run P w=.ok n w:=by intro k n y code hn;have c1:(0:Int)≤Int.ofNat n∧Int.ofNat n≤(y:Int):=⟨by simp,by simp; exact_mod_cast hn⟩;simp only [Instr.sliceBound,asIntOf,Sem.run_bind,Sem.run_pure,Result.andThen_ok,c1,and_self,if_true];rfl
 cases lo with
 | none=>
  have:=hlo0 rfl
  subst this
  cases hi with
  | none=>
   have:=hhi0 rfl
   subst this
   simp only [Instr.sliceBounds,Option.map_none,Sem.run_bind,Sem.run_pure,Result.andThen_ok]
  | some y=>
   obtain ⟨k,e⟩:=hhi y rfl
   simp only [Instr.sliceBounds,Option.map_some,Option.map_none,Sem.run_bind,e,hb _ _ _ _ h2,Sem.run_pure,Result.andThen_ok]
 | some x=>
  obtain ⟨k,e⟩:=hlo x rfl
  cases hi with
  | none=>
   have:=hhi0 rfl
   subst this
   simp only [Instr.sliceBounds,Option.map_some,Option.map_none,Sem.run_bind,e,hb _ _ _ _ h1,Sem.run_pure,Result.andThen_ok]
  | some y=>
   obtain ⟨k',e'⟩:=hhi y rfl
   simp only [Instr.sliceBounds,Option.map_some,Option.map_none,Sem.run_bind,e,e',hb _ _ _ _ h1,hb _ _ _ _ h2,Sem.run_pure,Result.andThen_ok]
theorem natOf_ok {dflt n:Nat} {x:Option Operand} (h:natOf τ dflt x=some n):(x=none→n=dflt)∧∀ y,x=some y→∃ k,aev τ y=.v (.int k (Int.ofNat n)):=by unfold natOf at h;split at h;simp only [Option.some.injEq] at h;exact ⟨fun _=>h.symm,fun y hy=>by cases hy⟩;rename_i y;split at h;rename_i k m hy;simp only [Option.some.injEq] at h;subst h;exact ⟨fun e=>(by cases e),fun y' e=>(by cases e; exact ⟨k,hy⟩)⟩;cases h
theorem run_sliceAt {t e n:Nat} (hu:P.underlying t=some (.slice e)) (hs:sizeInfo P e=some n) {a:Act} {ad:Option Addr} {len cap l h:Nat} {lo hi:Option Operand} {w:World} (hb:(Instr.sliceBounds true len cap (lo.map a.eval) (hi.map a.eval) none).run P w=.ok (l,h,cap) w) :
 (Instr.sliceAt t (.slice ad len cap) (lo.map a.eval) (hi.map a.eval) none).run P w=.ok (.slice (if cap=l then ad else ad.map (·.add (l * n))) (h - l) (cap - l)) w:=by
 unfold sizeInfo at hs
 cases hin:P.info? e with
 | none=>rw [hin] at hs; cases hs
 | some inf=>
  rw [hin] at hs
  simp only [Option.map_some,Option.some.injEq] at hs
  subst hs
  simp only [Instr.sliceAt,Instr.slice,Sem.run_bind,run_underlying hu,Result.andThen_ok,hb,sizeOf,typeInfo,run_program,hin,Sem.run_pure]
theorem sliceE_ok {u t:Nat} {x:Operand} {lo hi:Option Operand} {r:Rec} (h:sliceE P τ η u t x lo hi=some r):LOp P ⟨d,.slice t x lo hi none,ty,pos,af,g⟩ τ η r.fp r.δ r.v:=by
 unfold sliceE at h
 split at h
 ·rename_i e hu
  split at h
  ·cases h
  ·rename_i n hs
   have hops:∀ {C:Ctx} {a:Act} {l h:Nat} {d0:Nat} {d1:Nat},(∀ x'∈(Op.slice t x lo hi none).operands,VR C (aev τ x') (a.eval x'))→natOf τ d0 lo=some l→natOf τ d1 hi=some h →
    (∀ y,lo=some y→∃ k,a.eval y=.int k (Int.ofNat l))∧(lo=none→l=d0)∧(∀ y,hi=some y→∃ k,a.eval y=.int k (Int.ofNat h))∧(hi=none→h=d1):=by
    intro C a l h d0 d1 hxs h1 h2
    obtain ⟨p1,p2⟩:=natOf_ok h1
    obtain ⟨q1,q2⟩:=natOf_ok h2
    refine ⟨fun y hy=>?_,p1,fun y hy=>?_,q1⟩
    ·obtain ⟨k,hk⟩:=p2 y hy
     have:=hxs y (by subst hy; simp [Op.operands])
     rw [hk] at this
     exact ⟨k,this.v_inv⟩
    ·obtain ⟨k,hk⟩:=q2 y hy
     have:=hxs y (by subst hy; simp [Op.operands])
     rw [hk] at this
     exact ⟨k,this.v_inv⟩
   split at h
   ·rename_i id ver off len hx
    split at h
    ·cases h
    ·rename_i b hb
     obtain ⟨b1,b2,b3⟩:=liveB_ok hb
     split at h
     ·cases h
     ·rename_i l hl
      split at h
      ·cases h
      ·rename_i hh hhi
       cases hc:(Nat.ble l hh&&Nat.ble hh len&&Nat.beq b.esz n) with
       | false=>rw [hc] at h; simp at h
       | true=>
        rw [hc] at h
        simp only [cond_true,Option.some.injEq] at h
        subst h
        simp only [Bool.and_eq_true] at hc
        have c1:=Nat.le_of_ble_eq_true hc.1.1
        have c2:=Nat.le_of_ble_eq_true hc.1.2
        have c3:=Nat.eq_of_beq_eq_true hc.2
        refine .look [id] fun C a hg hxs hfp=>?_
        have hbC:C.η id=some b:=(hfp id (by simp)).trans b1
        have e1:=hxs x (by simp [Op.operands])
        rw [hx] at e1
        obtain ⟨ad,cap,e2,k1,k2,k3,k4⟩:=e1.sl_inv hbC b2 b3
        obtain ⟨o1,o2,o3,o4⟩:=hops hxs hl hhi
        have hbd:=run_bounds (P:=P) (w:=C.w) (len:=len) (cap:=cap) o1 o2 o3 o4 c1 (by omega)
        refine ⟨.slice (if cap=l then some ad else (some ad).map (·.add (l * n))) (hh - l) (cap - l),?_,?_⟩
        ·simp only [execOp,e2,Option.map_none,Sem.run_bind,run_sliceAt hu hs hbd,Result.andThen_ok]
         rfl
        ·by_cases hcl:cap=l
         ·have z1:hh - l=0:=by omega
          have z2:cap - l=0:=by omega
          rw [if_pos hcl,z1,z2]
          exact .slz hbC b2 b3
         ·rw [if_neg hcl]
          rcases k4 with ⟨k4,k5⟩ | ⟨k4,k5⟩
          ·omega
          ·subst k4
           have hadd:(Addr.add ⟨(C.ρ id).1,(C.ρ id).2+off,none⟩ (l * n))=⟨(C.ρ id).1,(C.ρ id).2+(off+l * n),none⟩:=by
            simp [Addr.add,Nat.add_assoc]
           simp only [Option.map_some,hadd]
           refine .sl hbC b2 b3 (by omega) (by omega) (by omega) ?_
           rw [c3] at k5 ⊢
           have:l * n+(cap - l) * n=cap * n:=by rw [← Nat.add_mul]; congr 1; omega
           omega
   ·rename_i m rows hx
    split at h
    ·cases h
    ·rename_i l hl
     split at h
     ·cases h
     ·rename_i hh hhi
      cases hc:(Nat.ble l hh&&Nat.ble hh rows.length&&Nat.beq m n) with
      | false=>rw [hc] at h; simp at h
      | true=>
       rw [hc] at h
       simp only [cond_true,Option.some.injEq] at h
       subst h
       simp only [Bool.and_eq_true] at hc
       have c1:=Nat.le_of_ble_eq_true hc.1.1
       have c2:=Nat.le_of_ble_eq_true hc.1.2
       have c3:=Nat.eq_of_beq_eq_true hc.2
       subst c3
       refine .look [] fun C a hg hxs hfp=>?_
       have e1:=hxs x (by simp [Op.operands])
       rw [hx] at e1
       have e2:=e1.tree_inv
       generalize hxe:a.eval x=xv at e2
       obtain ⟨o1,o2,o3,o4⟩:=hops hxs hl hhi
       cases e2 with
       | tree cell hT q1 q2 q3 q4 q5 q6=>
        rename_i bb off cap
        have hbd:=run_bounds (P:=P) (w:=C.w) (len:=rows.length) (cap:=cap) o1 o2 o3 o4 c1 (by omega)
        refine ⟨_,by simp only [execOp,hxe,Option.map_none,Sem.run_bind,run_sliceAt hu hs hbd,Result.andThen_ok]; rfl,?_⟩
        by_cases hcl:cap=l
        ·have z1:hh - l=0:=by omega
         have z2:cap - l=0:=by omega
         have z3:(rows.drop l).take (hh - l)=[]:=by rw [z1]; simp
         rw [if_pos hcl,z1,z2]
         rw [show List.take 0 (List.drop l rows)=[] by simp]
         exact .imm (.tree0 (by omega))
        ·rw [if_neg hcl]
         have hadd:(Addr.add ⟨bb,off,none⟩ (l * m))=⟨bb,off+l * m,none⟩:=by simp [Addr.add]
         simp only [Option.map_some,hadd]
         have hlen:((rows.drop l).take (hh - l)).length=hh - l:=by simp; omega
         have key:VR C (.tree m ((rows.drop l).take (hh - l))) (.slice (some ⟨bb,off+l * m,none⟩) ((rows.drop l).take (hh - l)).length (cap - l)):=?_
         ·rw [hlen] at key; exact key
         refine .imm (.tree (fun k j=>cell (l+k) j) hT (by rw [hlen]; omega) (by omega) (by rw [hlen]; omega) (fun k hk=>?_) (fun k j hk hj=>?_) (fun k hk j hj=>?_))
         ·simp only [List.getElem_take,List.getElem_drop]
          exact q4 _ _
         ·rw [hlen] at hk
          have:=q5 (l+k) j (by omega) hj
          rw [← this]
          congr 2
          rw [Nat.add_mul]; omega
         ·rw [hlen] at hk
          simp only [List.getElem_take,List.getElem_drop] at hj ⊢
          exact q6 (l+k) (by omega) j hj
       | tree0 hcap=>
        rename_i ad cap
        have hz:l=0:=by simp at c2; omega
        have hz':hh=0:=by simp at c2; omega
        have hbd:=run_bounds (P:=P) (w:=C.w) (len:=0) (cap:=cap) o1 o2 o3 o4 c1 (by omega)
        refine ⟨_,by simp only [execOp,hxe,Option.map_none,Sem.run_bind,run_sliceAt hu hs hbd,Result.andThen_ok]; rfl,?_⟩
        subst hz
        subst hz'
        exact .imm (.tree0 (by omega))
   ·cases h
 ·cases h
def someE (η:Heap):AV→Option (List Nat)
 | .sl id ver off len=>match liveB η id ver with
  | some _=>some [id]
  | none=>none
 | .ptr id ver off=>match liveB η id ver with
  | some _=>some [id]
  | none=>none
 | .mp id ver=>match liveM η id ver with
  | some _=>some [id]
  | none=>none
 | .clo _ _=>some []
 | .tree n (_ :: _)=>some []
 | .tp _ _=>some []
 | _=>none
def nilFor (P:Program) (t:Nat):AV→AV→Bool
 | .sl _ _ _ _,.v (.slice none _ _)=>match P.underlying t with | some (.slice _)=>true | _=>false
 | .tree _ _,.v (.slice none _ _)=>match P.underlying t with | some (.slice _)=>true | _=>false
 | .ptr _ _ _,.v (.pointer none)=>match P.underlying t with | some (.pointer _)=>true | _=>false
 | .tp _ _,.v (.pointer none)=>match P.underlying t with | some (.pointer _)=>true | _=>false
 | .mp _ _,.v (.map none)=>match P.underlying t with | some (.map _ _)=>true | _=>false
 | .clo _ _,.v .nilFunc=>match P.underlying t with | some (.func _ _ _)=>true | _=>false
 | _,_=>false
inductive NE (P:Program) (t:Nat):Value→Value→Prop where
 | sl {e:TypeId} {ad:Addr} {a b l c:Nat}:P.underlying t=some (.slice e)→NE P t (.slice (some ad) a b) (.slice none l c)
 | pt {e:TypeId} {ad:Addr}:P.underlying t=some (.pointer e)→NE P t (.pointer (some ad)) (.pointer none)
 | mp {k e:TypeId} {r:Nat}:P.underlying t=some (.map k e)→NE P t (.map (some r)) (.map none)
 | fn {a b c} {f:Fn} {x y:Array Value}:P.underlying t=some (.func a b c)→NE P t (.func f x y) .nilFunc
theorem NE.eq1 {t:Nat} {x y:Value} (h:NE P t x y) (n:Nat) (w:World):(Op.equalIn (n+1) t x y).run P w=.ok false w:=by
 cases h with
 | sl hu=>simp only [Op.equalIn,Sem.run_bind,run_underlying hu,Result.andThen_ok,Sem.run_pure]
 | pt hu=>simp only [Op.equalIn,Sem.run_bind,run_underlying hu,Result.andThen_ok,Sem.run_pure]
 | mp hu=>simp only [Op.equalIn,Sem.run_bind,run_underlying hu,Result.andThen_ok,Sem.run_pure]
 | fn hu=>simp only [Op.equalIn,Sem.run_bind,run_underlying hu,Result.andThen_ok,Sem.run_pure]
theorem NE.eq2 {t:Nat} {x y:Value} (h:NE P t x y) (n:Nat) (w:World):(Op.equalIn (n+1) t y x).run P w=.ok false w:=by
 cases h with
 | sl hu=>simp only [Op.equalIn,Sem.run_bind,run_underlying hu,Result.andThen_ok,Sem.run_pure,Option.isNone_some]
 | pt hu=>simp only [Op.equalIn,Sem.run_bind,run_underlying hu,Result.andThen_ok,Sem.run_pure,Option.isNone_some]
 | mp hu=>simp only [Op.equalIn,Sem.run_bind,run_underlying hu,Result.andThen_ok,Sem.run_pure,Option.isNone_some]
 | fn hu=>simp only [Op.equalIn,Sem.run_bind,run_underlying hu,Result.andThen_ok,Sem.run_pure]
theorem NE.run1 {t:Nat} {x y:Value} (h:NE P t x y) (w:World):(Op.equal t x y).run P w=.ok false w:=h.eq1 9999 w
theorem NE.run2 {t:Nat} {x y:Value} (h:NE P t x y) (w:World):(Op.equal t y x).run P w=.ok false w:=h.eq2 9999 w
theorem NE.op1 {t:Nat} {x y:Value} (h:NE P t x y) (o1 o2:Operand) (w:World):(eqGuard .eql t o1 o2 x y).run P w=.ok () w∧(eqGuard .neq t o1 o2 x y).run P w=.ok () w∧(binOp .eql t x y).run P w=.ok (.bool false) w∧(binOp .neq t x y).run P w=.ok (.bool true) w:=by have e1:binOp .eql t x y=(do pure (.bool (← Op.equal t x y))):=(by cases h <;> rfl);have e2:binOp .neq t x y=(do pure (.bool (!(← Op.equal t x y)))):=(by cases h <;> rfl);have e3:eqGuard .eql t o1 o2 x y=pure ():=(by cases h <;> rfl);have e4:eqGuard .neq t o1 o2 x y=pure ():=(by cases h <;> rfl);rw [e1,e2,e3,e4];refine ⟨rfl,rfl,?_,?_⟩ <;> simp only [Sem.run_bind,h.run1,Result.andThen_ok,Sem.run_pure,Bool.not_false]
theorem NE.op2 {t:Nat} {x y:Value} (h:NE P t x y) (o1 o2:Operand) (w:World):(eqGuard .eql t o1 o2 y x).run P w=.ok () w∧(eqGuard .neq t o1 o2 y x).run P w=.ok () w∧(binOp .eql t y x).run P w=.ok (.bool false) w∧(binOp .neq t y x).run P w=.ok (.bool true) w:=by have e1:binOp .eql t y x=(do pure (.bool (← Op.equal t y x))):=(by cases h <;> rfl);have e2:binOp .neq t y x=(do pure (.bool (!(← Op.equal t y x)))):=(by cases h <;> rfl);have e3:eqGuard .eql t o1 o2 y x=pure ():=(by cases h <;> rfl);have e4:eqGuard .neq t o1 o2 y x=pure ():=(by cases h <;> rfl);rw [e1,e2,e3,e4];refine ⟨rfl,rfl,?_,?_⟩ <;> simp only [Sem.run_bind,h.run2,Result.andThen_ok,Sem.run_pure,Bool.not_false]
theorem ne_of {t:Nat} {a c:AV} {fp:List Nat} (hs:someE η a=some fp) (hn:nilFor P t a c=true) {C:Ctx} (hfp:∀ id∈fp,C.η id=η id) {x y:Value} (hx:VR C a x) (hy:VR C c y):NE P t x y:=by
 unfold nilFor at hn
 split at hn
 ·rename_i id ver off len l1 l2
  split at hn
  ·rename_i e hu
   obtain rfl:=hy.v_inv
   simp only [someE] at hs
   cases hb:liveB η id ver with
   | none=>rw [hb] at hs; cases hs
   | some b=>
    rw [hb] at hs
    simp only [Option.some.injEq] at hs
    subst hs
    obtain ⟨b1,b2,b3⟩:=liveB_ok hb
    obtain ⟨ad,cap,rfl,_⟩:=hx.sl_inv ((hfp id (by simp)).trans b1) b2 b3
    exact .sl hu
  ·cases hn
 ·rename_i n rows l1 l2
  split at hn
  ·rename_i e hu
   obtain rfl:=hy.v_inv
   cases rows with
   | nil=>cases hs
   | cons row rows=>
    have hx':=hx.tree_inv
    cases hx' with
    | tree cell hT q1 q2 q3 q4 q5 q6=>exact .sl hu
  ·cases hn
 ·rename_i id ver off
  split at hn
  ·rename_i e hu
   obtain rfl:=hy.v_inv
   simp only [someE] at hs
   cases hb:liveB η id ver with
   | none=>rw [hb] at hs; cases hs
   | some b=>
    rw [hb] at hs
    simp only [Option.some.injEq] at hs
    subst hs
    obtain ⟨b1,b2,b3⟩:=liveB_ok hb
    obtain rfl:=hx.ptr_inv ((hfp id (by simp)).trans b1) b2
    exact .pt hu
  ·cases hn
 ·rename_i cs o
  split at hn
  ·rename_i e hu
   obtain rfl:=hy.v_inv
   have hx':=hx.tp_inv
   cases hx' with
   | tp cell hT hc hr=>exact .pt hu
  ·cases hn
 ·rename_i id ver
  split at hn
  ·rename_i k e hu
   obtain rfl:=hy.v_inv
   simp only [someE] at hs
   cases hb:liveM η id ver with
   | none=>rw [hb] at hs; cases hs
   | some q=>
    obtain ⟨b,clock,es⟩:=q
    rw [hb] at hs
    simp only [Option.some.injEq] at hs
    subst hs
    obtain ⟨b1,b2⟩:=liveM_ok hb
    obtain rfl:=hx.mp_inv ((hfp id (by simp)).trans b1) (by rw [b2]; rfl)
    exact .mp hu
  ·cases hn
 ·rename_i f caps
  split at hn
  ·rename_i a b c hu
   obtain rfl:=hy.v_inv
   obtain ⟨vs,rfl,_⟩:=hx.clo_inv
   exact .fn hu
  ·cases hn
 ·cases hn
def nilE (P:Program) (τ:Nat→AV) (η:Heap) (u t:Nat) (op:BinOp) (x y:Operand):Option Rec :=
 match op with
 | .eql=>match someE η (aev τ x) with
  | some fp=>bif nilFor P t (aev τ x) (aev τ y) then some ⟨fp,[],.v (.bool false),u⟩ else none
  | none=>match someE η (aev τ y) with
   | some fp=>bif nilFor P t (aev τ y) (aev τ x) then some ⟨fp,[],.v (.bool false),u⟩ else none
   | none=>none
 | .neq=>match someE η (aev τ x) with
  | some fp=>bif nilFor P t (aev τ x) (aev τ y) then some ⟨fp,[],.v (.bool true),u⟩ else none
  | none=>match someE η (aev τ y) with
   | some fp=>bif nilFor P t (aev τ y) (aev τ x) then some ⟨fp,[],.v (.bool true),u⟩ else none
   | none=>none
 | _=>none
theorem nilE_ok {u t t':Nat} {op:BinOp} {x y:Operand} {r:Rec} (h:nilE P τ η u t op x y=some r):LOp P ⟨d,.binOp op t x y t',ty,pos,af,g⟩ τ η r.fp r.δ r.v:=by
 have m1:∀ (fp:List Nat),someE η (aev τ x)=some fp→nilFor P t (aev τ x) (aev τ y)=true→(op=.eql→LOp P ⟨d,.binOp op t x y t',ty,pos,af,g⟩ τ η fp [] (.v (.bool false)))∧(op=.neq→LOp P ⟨d,.binOp op t x y t',ty,pos,af,g⟩ τ η fp [] (.v (.bool true))):=by
  intro fp hs hn
  constructor
  ·rintro rfl
   refine .look fp fun C a hg hxs hfp=>?_
   have hne:=ne_of hs hn hfp (hxs x (by simp [Op.operands])) (hxs y (by simp [Op.operands]))
   obtain ⟨q1,q2,q3,q4⟩:=hne.op1 x y C.w
   exact ⟨_,by simp only [execOp,Sem.run_bind,q1,q3,Result.andThen_ok,Sem.run_pure],VR.v C _⟩
  ·rintro rfl
   refine .look fp fun C a hg hxs hfp=>?_
   have hne:=ne_of hs hn hfp (hxs x (by simp [Op.operands])) (hxs y (by simp [Op.operands]))
   obtain ⟨q1,q2,q3,q4⟩:=hne.op1 x y C.w
   exact ⟨_,by simp only [execOp,Sem.run_bind,q2,q4,Result.andThen_ok,Sem.run_pure],VR.v C _⟩
 have m2:∀ (fp:List Nat),someE η (aev τ y)=some fp→nilFor P t (aev τ y) (aev τ x)=true→(op=.eql→LOp P ⟨d,.binOp op t x y t',ty,pos,af,g⟩ τ η fp [] (.v (.bool false)))∧(op=.neq→LOp P ⟨d,.binOp op t x y t',ty,pos,af,g⟩ τ η fp [] (.v (.bool true))):=by
  intro fp hs hn
  constructor
  ·rintro rfl
   refine .look fp fun C a hg hxs hfp=>?_
   have hne:=ne_of hs hn hfp (hxs y (by simp [Op.operands])) (hxs x (by simp [Op.operands]))
   obtain ⟨q1,q2,q3,q4⟩:=hne.op2 x y C.w
   exact ⟨_,by simp only [execOp,Sem.run_bind,q1,q3,Result.andThen_ok,Sem.run_pure],VR.v C _⟩
  ·rintro rfl
   refine .look fp fun C a hg hxs hfp=>?_
   have hne:=ne_of hs hn hfp (hxs y (by simp [Op.operands])) (hxs x (by simp [Op.operands]))
   obtain ⟨q1,q2,q3,q4⟩:=hne.op2 x y C.w
   exact ⟨_,by simp only [execOp,Sem.run_bind,q2,q4,Result.andThen_ok,Sem.run_pure],VR.v C _⟩
 unfold nilE at h
 split at h
 ·split at h
  ·rename_i fp hs
   cases hn:nilFor P t (aev τ x) (aev τ y) with
   | false=>rw [hn] at h; simp at h
   | true=>
    rw [hn] at h
    simp only [cond_true,Option.some.injEq] at h
    subst h
    exact (m1 fp hs hn).1 rfl
  ·split at h
   ·rename_i fp hs
    cases hn:nilFor P t (aev τ y) (aev τ x) with
    | false=>rw [hn] at h; simp at h
    | true=>
     rw [hn] at h
     simp only [cond_true,Option.some.injEq] at h
     subst h
     exact (m2 fp hs hn).1 rfl
   ·cases h
 ·split at h
  ·rename_i fp hs
   cases hn:nilFor P t (aev τ x) (aev τ y) with
   | false=>rw [hn] at h; simp at h
   | true=>
    rw [hn] at h
    simp only [cond_true,Option.some.injEq] at h
    subst h
    exact (m1 fp hs hn).2 rfl
  ·split at h
   ·rename_i fp hs
    cases hn:nilFor P t (aev τ y) (aev τ x) with
    | false=>rw [hn] at h; simp at h
    | true=>
     rw [hn] at h
     simp only [cond_true,Option.some.injEq] at h
     subst h
     exact (m2 fp hs hn).2 rfl
   ·cases h
 ·cases h
def extE (P:Program) (E:ESX) (o:Oper):Option Rec:=match o.op with
 | .makeMap t none=>some ⟨[],[(E.u,some (mapBlk 0 0 0 []))],.mp E.u 0,E.u+1⟩
 | .lookup t x i ok=>lookE P (triτ E.t) (triη E.h) E.u t x i ok
 | .mapUpdate t m k x=>mapSetE P (triτ E.t) (triη E.h) E.u t m k x
 | .insert t m k x=>mapSetE P (triτ E.t) (triη E.h) E.u t m k x
 | .mapEntry t m k=>mapEntE P (triτ E.t) (triη E.h) E.u t m k
 | .entryStore t m s x=>entStoreE P (triτ E.t) (triη E.h) E.u t m s x
 | .range t x=>rangeE P (triτ E.t) (triη E.h) E.u t x
 | .next x s=>nextE P (triτ E.t) (triη E.h) E.u x s
 | .field t x i=>fieldE P (triτ E.t) E.u t x i
 | .index t x i=>indexE P (triτ E.t) E.u t x i
 | .slice t x lo hi none=>sliceE P (triτ E.t) (triη E.h) E.u t x lo hi
 | .binOp op t x y _=>nilE P (triτ E.t) (triη E.h) E.u t op x y
 | .call ⟨.builtin .len,⟨[x]⟩,ats⟩=>lenME P (triτ E.t) (triη E.h) E.u x ats
 | .call ⟨.builtin .delete,⟨[m,k]⟩,ats⟩=>delE P (triτ E.t) (triη E.h) E.u m k ats
 | _=>none
def extX (P:Program):OpRunX:=fun o E=>match extE P E o with
 | some r=>ofRec E r
 | none=>none
theorem extX_ok:(extX P).Ok P:=by intro o E r hl h;unfold extX at h;split at h;rename_i r' hr;refine ofRec_ok h ?_;obtain ⟨d,op,ty,pos,af,g⟩:=o;unfold extE at hr;simp only at hr;split at hr;simp only [Option.some.injEq] at hr;subst hr;exact LOp.makeMap _;exact lookE_ok hr;exact mapSetE_ok (.inl rfl) hr;exact mapSetE_ok (.inr rfl) hr;exact mapEntE_ok hr;exact entStoreE_ok hr;exact rangeE_ok hr;exact nextE_ok hr;exact fieldE_ok hr;exact indexE_ok hr;exact sliceE_ok hr;exact nilE_ok hr;exact lenME_ok hr;exact delE_ok hr;cases hr;cases h
end
end Go.Proofs.YtbhhmbchdponjaaGreatDoor
namespace Go.Proofs.YtbhhmbchdponjaaGreatDoor
set_option linter.unusedVariables false
set_option linter.unusedSimpArgs false
open Go.RowKit
section
variable {P:Program} {τ:Nat→AV} {η:Heap} {d:Option Tmp} {ty:TypeId} {pos:String} {af:Array Edge} {g:Option (Nat×Bool)}
def valsOf (τ:Nat→AV):List Operand→Option (List Value)
 | []=>some []
 | x :: l=>match toVE (aev τ x) with
  | none=>none
  | some v=>match valsOf τ l with
   | none=>none
   | some r=>some (v :: r)
theorem valsOf_ok {C:Ctx} {a:Act}:∀ (l:List Operand) (r:List Value),(∀ x∈l,VR C (aev τ x) (a.eval x))→valsOf τ l=some r→l.map a.eval=r
 | [],r,_,h=>by simp only [valsOf,Option.some.injEq] at h; subst h; rfl
 | x :: l,r,hx,h=>by simp only [valsOf] at h;split at h;cases h;rename_i v hv;split at h;cases h;rename_i r' hr;simp only [Option.some.injEq] at h;subst h;rw [List.map_cons,toVE_ok (hx x (by simp)) hv,valsOf_ok l r' (fun y hy=>hx y (by simp [hy])) hr]
def externE (P:Program) (τ:Nat→AV) (u:Nat) (f:FuncId) (xs:Array Operand):Option Rec:=match valsOf τ xs.toList with
 | none=>none
 | some vs=>match quiet P (callFunc f vs.toArray) with
  | some (.value y)=>some ⟨[],[],.v y,u⟩
  | _=>none
theorem externE_ok {u:Nat} {f:FuncId} {xs:Array Operand} {ats:Array TypeId} {r:Rec} (h:externE P τ u f xs=some r):LOp P ⟨d,.call { callee:=.value (.func f),args:=xs,argTypes:=ats },ty,pos,af,g⟩ τ η r.fp r.δ r.v:=by unfold externE at h;split at h;cases h;rename_i vs hv;split at h;rename_i y hq;simp only [Option.some.injEq] at h;subst h;refine .look [] fun C a hg hxs _=>⟨y,?_,VR.v C y⟩;have e1:xs.map a.eval=vs.toArray:=(by have:=valsOf_ok (a:=a) xs.toList vs (fun x hx=>hxs x (by simp [Op.operands,Call.operands]; exact .inr (by simpa using hx))) hv;rw [← this];apply Array.ext';simp);have e0:execOp a.eval ⟨d,.call { callee:=.value (.func f),args:=xs,argTypes:=ats },ty,pos,af,g⟩=callFunc f (#[]++xs.map a.eval++#[]):=rfl;rw [e0,e1];rw [show (#[]++vs.toArray++#[]:Array Value)=vs.toArray by simp];exact quiet_run _ _ hq C.w;cases h
def emptyE (η:Heap):AV→Option (List Nat)
 | .v (.slice none 0 0)=>some []
 | .tree _ []=>some []
 | .sl id ver off 0=>match liveB η id ver with
  | some _=>some [id]
  | none=>none
 | _=>none
theorem emptyE_ok {a:AV} {fp:List Nat} (h:emptyE η a=some fp) {C:Ctx} (hfp:∀ id∈fp,C.η id=η id) {x:Value} (hx:VR C a x):∃ ad c,x=.slice ad 0 c:=by
 unfold emptyE at h
 split at h
 ·exact ⟨_,_,hx.v_inv⟩
 ·have:=hx.tree_inv
  cases this with
  | tree=>exact ⟨_,_,rfl⟩
  | tree0=>exact ⟨_,_,rfl⟩
 ·rename_i id ver off
  split at h
  ·rename_i b hb
   simp only [Option.some.injEq] at h
   subst h
   obtain ⟨b1,b2,b3⟩:=liveB_ok hb
   obtain ⟨ad,cap,e,_⟩:=hx.sl_inv ((hfp id (by simp)).trans b1) b2 b3
   exact ⟨_,_,e⟩
  ·cases h
 ·cases h
def appendZE (P:Program) (τ:Nat→AV) (η:Heap) (u t:Nat) (s x:Operand):Option Rec:=match P.underlying t with
 | some (.slice e)=>match sizeInfo P e with
  | none=>none
  | some _=>match emptyE η (aev τ x) with
   | none=>none
   | some fp=>match aev τ s with
    | .v (.slice none 0 0)=>some ⟨fp,[],.v (.slice none 0 0),u⟩
    | .sl id ver off len=>match liveB η id ver with
     | some _=>some ⟨id :: fp,[],.sl id ver off len,u⟩
     | none=>none
    | _=>none
 | _=>none
theorem appendZE_ok {u t:Nat} {s x:Operand} {r:Rec} (h:appendZE P τ η u t s x=some r):LOp P ⟨d,.call { callee:=.builtin .append,args:=#[s,x],argTypes:=#[t,t] },ty,pos,af,g⟩ τ η r.fp r.δ r.v:=by
 unfold appendZE at h
 split at h
 ·rename_i e ht
  split at h
  ·cases h
  ·rename_i n hs
   unfold sizeInfo at hs
   cases hi:P.info? e with
   | none=>rw [hi] at hs; cases hs
   | some inf=>
    split at h
    ·cases h
    ·rename_i fp hf
     split at h
     ·rename_i hsx
      simp only [Option.some.injEq] at h
      subst h
      refine .look fp fun C a hg hxs hfp=>?_
      have e1:=hxs s (by simp [Op.operands,Call.operands])
      rw [hsx] at e1
      obtain ⟨ad,c,e2⟩:=emptyE_ok hf hfp (hxs x (by simp [Op.operands,Call.operands]))
      refine ⟨.slice none 0 0,exec_append C.w ?_,VR.v C _⟩
      rw [e1.v_inv,e2]
      exact run_append_zero (P:=P) (ty:=ty) ht hi C.w none ad 0 0 c (Nat.le_refl _)
     ·rename_i id ver off len hsx
      split at h
      ·rename_i b hb
       obtain ⟨b1,b2,b3⟩:=liveB_ok hb
       simp only [Option.some.injEq] at h
       subst h
       refine .look (id :: fp) fun C a hg hxs hfp=>?_
       have e1:=hxs s (by simp [Op.operands,Call.operands])
       rw [hsx] at e1
       obtain ⟨ad,c,e2⟩:=emptyE_ok hf (fun i hi=>hfp i (by simp [hi])) (hxs x (by simp [Op.operands,Call.operands]))
       obtain ⟨ad',cap,e3,k1,_⟩:=e1.sl_inv ((hfp id (by simp)).trans b1) b2 b3
       refine ⟨a.eval s,exec_append C.w ?_,e1⟩
       rw [e3,e2]
       exact run_append_zero (P:=P) (ty:=ty) ht hi C.w (some ad') ad len cap c k1
      ·cases h
     ·cases h
 ·cases h
def entryE (τ:Nat→AV) (η:Heap) (u:Nat) (x:Operand):Option Rec:=match aev τ x with
 | .it id ver=>match liveI η id ver with
  | some (b,.ofm mid mver since seen last)=>match liveM η mid mver with
   | none=>none
   | some (mb,clock,es)=>bif Nat.beq clock last then (match seen.getLast? with
    | none=>none
    | some stamp=>match es.find? (fun e=>Nat.beq e.2.2 stamp) with
     | none=>none
     | some e=>some ⟨[id,mid],[],.tup [.v e.1,e.2.1],u⟩) else none
  | _=>none
 | _=>none
theorem All2.find {α β:Type} {R:α→β→Prop} {p:α→Bool} {q:β→Bool} (hpq:∀ a b,R a b→p a=q b) {l:List α} {m:List β} (h:All2 R l m) {a:α} (ha:l.find? p=some a):∃ b,m.find? q=some b∧R a b:=by
 induction h with
 | nil=>cases ha
 | cons hr _ ih=>
  rename_i a0 b0 l m _
  rw [List.find?_cons] at ha ⊢
  rw [← hpq _ _ hr]
  cases hp:p a0 with
  | true=>
   rw [hp] at ha
   simp only [Option.some.injEq] at ha
   subst ha
   exact ⟨b0,rfl,hr⟩
  | false=>
   rw [hp] at ha
   exact ih ha
theorem entryE_ok {u:Nat} {x:Operand} {r:Rec} (h:entryE τ η u x=some r):LOp P ⟨d,.entry x,ty,pos,af,g⟩ τ η r.fp r.δ r.v:=by
 unfold entryE at h
 split at h
 ·rename_i id ver hx
  split at h
  ·rename_i b mid mver since seen last hb
   obtain ⟨hb1,hb2⟩:=liveI_ok hb
   have hcs:b.cs=miterCs (.mp mid mver) since seen last:=by rw [hb2]; rfl
   split at h
   ·cases h
   ·rename_i mb clock es hm
    obtain ⟨hm1,hm2⟩:=liveM_ok hm
    cases hc:Nat.beq clock last with
    | false=>rw [hc] at h; simp at h
    | true=>
     rw [hc] at h
     simp only [cond_true] at h
     obtain rfl:=Nat.eq_of_beq_eq_true hc
     split at h
     ·cases h
     ·rename_i stamp hst
      split at h
      ·cases h
      ·rename_i e hf
       simp only [Option.some.injEq] at h
       subst h
       refine .look [id,mid] fun C a hg hxs hfp=>?_
       have hbC:C.η id=some b:=(hfp id (by simp)).trans hb1
       have hmC:C.η mid=some mb:=(hfp mid (by simp)).trans hm1
       have e1:=hxs x (by simp [Op.operands])
       rw [hx] at e1
       have e1':=e1.it_inv hbC (by rw [hb2]; rfl)
       obtain ⟨ob,g1,g2⟩:=hg.obj hbC (by rw [hb2]; rfl)
       rw [hcs] at g2
       obtain ⟨m,rfl,hvm⟩:=g2.miter_inv
       have hmv:=hvm.mp_inv hmC (by rw [hm2]; rfl)
       have hmm:m=(C.ρ mid).1:=by simpa using hmv
       subst hmm
       obtain ⟨entries,q1,q2,q3⟩:=map_at hg hmC hm2
       have hall:All2 (fun (x:Value×AV×Nat) (e:MapEntry)=>e.key=x.1∧VR C x.2.1 e.val∧e.born=x.2.2) es entries.toList:=All2.of_idx (by simpa using q2) (fun i h1 h2=>by simpa using q3 i h1 (by simpa using h2))
       obtain ⟨en,hen,k1,k2,k3⟩:=hall.find (q:=fun e=>e.born==stamp) (fun a b hab=>by
        rw [hab.2.2,Bool.eq_iff_iff,beq_iff_eq]
        constructor
        ·exact Nat.eq_of_beq_eq_true
        ·intro e; rw [e]; exact Nat.beq_refl _) hf
       refine ⟨.tuple #[en.key,en.val],?_,VR.pair (by rw [k1]; exact VR.v C _) k2⟩
       have hback:seen.toArray.back? = some stamp:=by rw [← hst]; simp
       have hfind:entries.find? (fun e=>e.born==stamp)=some en:=by rw [← hen]; simp
       simp only [execOp,e1',Instr.entry,Sem.run_bind,run_getIter g1 (fun _ _ _ e=>by cases e),Result.andThen_ok,hback,run_getIter q1 (fun _ _ _ e=>by cases e),bne_self_eq_false,Bool.false_eq_true,if_false,hfind,Sem.run_pure]
  ·cases h
 ·cases h
def extE2 (P:Program) (E:ESX) (o:Oper):Option Rec:=match o.op with
 | .call ⟨.value (.func f),xs,ats⟩=>externE P (triτ E.t) E.u f xs
 | .call ⟨.builtin .append,⟨[s,x]⟩,⟨[t,t']⟩⟩=>bif Nat.beq t t' then appendZE P (triτ E.t) (triη E.h) E.u t s x else none
 | .entry x=>entryE (triτ E.t) (triη E.h) E.u x
 | _=>none
def extX2 (P:Program):OpRunX:=fun o E=>match extX P o E with
 | some r=>some r
 | none=>match extE2 P E o with
  | some r=>ofRec E r
  | none=>none
theorem extX2_ok:(extX2 P).Ok P:=by
 intro o E r hl h
 unfold extX2 at h
 split at h
 ·rename_i r' hr
  simp only [Option.some.injEq] at h
  subst h
  exact extX_ok _ _ _ hl hr
 ·rename_i hno
  clear hno
  split at h
  ·rename_i r' hr
   refine ofRec_ok h ?_
   obtain ⟨d,op,ty,pos,af,g⟩:=o
   unfold extE2 at hr
   simp only at hr
   split at hr
   ·exact externE_ok hr
   ·rename_i s x t t'
    cases ht:Nat.beq t t' with
    | false=>rw [ht] at hr; simp at hr
    | true=>
     rw [ht] at hr
     simp only [cond_true] at hr
     obtain rfl:=Nat.eq_of_beq_eq_true ht
     exact appendZE_ok hr
   ·exact entryE_ok hr
   ·cases hr
  ·cases h
end
end Go.Proofs.YtbhhmbchdponjaaGreatDoor
namespace Go.Proofs.YtbhhmbchdponjaaGreatDoor
set_option linter.unusedVariables false
set_option linter.unusedSimpArgs false
open Go.RowKit
section
variable {P:Program} {τ:Nat→AV} {η:Heap} {d:Option Tmp} {ty:TypeId} {pos:String} {af:Array Edge} {g:Option (Nat×Bool)}
theorem run_makeSlice {t e len cap:Nat} {inf:TypeInfo} {z:Value} (he:P.underlying t=some (.slice e)) (hi:P.info? e=some inf) (hz:inf.zero=some z) (hlc:len≤cap) (hc2:cap≤16777216) (hb2:inf.bytes * cap≤281474976710656) (w:World) :
 (Instr.makeSlice t (.int .i64 (Int.ofNat len)) (.int .i64 (Int.ofNat cap))).run P w=.ok (.slice (some ⟨w.heap.size,0,none⟩) len cap) (w.alloc (.cells ((Array.range (cap * inf.size)).map fun i=>(if cap * inf.size=0 then (#[]:Array Value) else z.cells)[i % (if cap * inf.size=0 then (#[]:Array Value) else z.cells).size]!) e)):=by
 have hw1:IntKind.i64.wrap (Int.ofNat len)=Int.ofNat len:=IntWalk.i64_in _ (by constructor <;> simp <;> omega)
 have hw2:IntKind.i64.wrap (Int.ofNat cap)=Int.ofNat cap:=IntWalk.i64_in _ (by constructor <;> simp <;> omega)
 have c1:¬ (((inf.bytes:Int) * Int.ofNat cap > 2 ^ 48)):=by have:(inf.bytes:Int) * Int.ofNat cap=((inf.bytes * cap:Nat):Int):=(by simp);rw [this];omega
 have c2:¬ ((Int.ofNat cap:Int) < 0):=by simp
 have c3:¬ ((Int.ofNat len:Int) < 0):=by simp
 have c4:¬ ((Int.ofNat len:Int) > Int.ofNat cap):=by simp; omega
 simp only [Instr.makeSlice,Sem.run_bind,run_underlying he,Result.andThen_ok,asInt,typeInfo,run_program,hi,Sem.run_pure]
 have a1:∀ (n:Nat) (w:World),(asIntOf (Value.int IntKind.i64 (Int.ofNat n))).run P w=.ok (IntKind.i64,Int.ofNat n) w:=fun n w=>rfl
 simp only [a1,Result.andThen_ok,hw1,hw2]
 have cc:(decide ((Int.ofNat cap:Int) < 0)||decide ((inf.bytes:Int) * Int.ofNat cap > 2 ^ 48)||decide ((Int.ofNat len:Int) < 0)||decide ((Int.ofNat len:Int) > Int.ofNat cap))=false:=by simp only [Bool.or_eq_false_iff,decide_eq_false_iff_not];exact ⟨⟨⟨c2,c1⟩,c3⟩,c4⟩
 rw [if_neg (by rw [cc]; exact Bool.false_ne_true)]
 have tn:∀ n:Nat,(Int.ofNat n).toNat=n:=fun n=>rfl
 simp only [tn,Sem.run_bind]
 have ar:∀ w:World,(askRoom (cap * inf.bytes)).run P w=.ok () w:=fun w=>by unfold askRoom; split <;> rfl
 simp only [ar,Result.andThen_ok,sizeOf,typeInfo,Sem.run_bind,run_program,hi,Sem.run_pure]
 by_cases h0:cap * inf.size=0
 ·rw [if_pos h0]
  simp only [Sem.run_pure,Result.andThen_ok,h0,if_true]
  rfl
 ·rw [if_neg h0]
  simp only [Sem.run_bind,zeroValue,typeInfo,run_program,hi,Sem.run_pure,Result.andThen_ok,hz,h0,if_false]
  rfl
theorem LOp.makeSliceC (u:Nat) {t e len cap s bys:Nat} {z:Value} {x y:Operand} (he:P.underlying t=some (.slice e)) (hs:sizeInfo P e=some s) (hz:zeroOf P e=some z) (hby:(P.info? e).map (·.bytes)=some bys)
 (hx:aev τ x=.v (.int .i64 (Int.ofNat len))) (hy:aev τ y=.v (.int .i64 (Int.ofNat cap))) (hlc:Nat.ble len cap=true) (hl2:Nat.ble cap 16777216=true) (hb2:Nat.ble (bys * cap) 281474976710656=true) :
 LOp P ⟨d,.makeSlice t x y,ty,pos,af,g⟩ τ η [] [(u,some ⟨0,zerosA z (cap * s),s,false⟩)] (.sl u 0 0 len):=by
 intro C a hg hxs _ hnew K Q hK
 have hu:¬ C.U u:=hnew (u,some ⟨0,zerosA z (cap * s),s,false⟩) (by simp) (by simp)
 have hl2':=Nat.le_of_ble_eq_true hl2
 have hlc':=Nat.le_of_ble_eq_true hlc
 have hb2':=Nat.le_of_ble_eq_true hb2
 have e1:=hxs x (by simp [Op.operands])
 have e2:=hxs y (by simp [Op.operands])
 rw [hx] at e1
 rw [hy] at e2
 unfold sizeInfo at hs
 unfold zeroOf at hz
 cases hi:P.info? e with
 | none=>rw [hi] at hz; cases hz
 | some inf=>
  rw [hi] at hz hs hby
  simp only [Option.bind_some] at hz
  simp only [Option.map_some,Option.some.injEq] at hs hby
  subst hs hby
  have hr:=run_makeSlice he hi hz hlc' hl2' hb2' C.w
  generalize hes:((Array.range (cap * inf.size)).map fun i=>(if cap * inf.size=0 then (#[]:Array Value) else z.cells)[i % (if cap * inf.size=0 then (#[]:Array Value) else z.cells).size]!)=es at hr
  have gsz:es.size=cap * inf.size:=by rw [← hes]; simp
  have z1:(zerosA z (cap * inf.size)).length=es.size:=by simp [zerosA,gsz]
  have z2:∀ i (h:i < (zerosA z (cap * inf.size)).length) (h':i < es.size),VR C (zerosA z (cap * inf.size))[i] es[i]:=fun i h h'=>by have h0:¬ (cap * inf.size=0):=(by omega);subst hes;simp only [zerosA,List.getElem_map,List.getElem_range,Array.getElem_map,Array.getElem_range,h0,if_false];exact VR.v C _
  have hrun:(execOp a.eval ⟨d,.makeSlice t x y,ty,pos,af,g⟩).run P C.w=.ok (.value (.slice (some ⟨C.w.heap.size,0,none⟩) len cap)) (C.w.alloc (.cells es e)):=by simp only [execOp,e1.v_inv,e2.v_inv,Sem.run_bind,hr,Result.andThen_ok];rfl
  unfold Oper.wp
  rw [hrun]
  refine hK _ (C.alloc u es e ⟨0,zerosA z (cap * inf.size),inf.size,false⟩) rfl (fun i=>by simp [Ctx.alloc]) (Ctx.alloc_good hg hu rfl (Nat.le_of_eq z1) z2) (Ctx.alloc_ev hg hu rfl) ?_
  have h3:(C.alloc u es e ⟨0,zerosA z (cap * inf.size),inf.size,false⟩).ρ u=(C.w.heap.size,0):=by simp [Ctx.alloc]
  have h4:(C.alloc u es e ⟨0,zerosA z (cap * inf.size),inf.size,false⟩).sz u=es.size:=by simp [Ctx.alloc]
  have:=VR.sl (C:=C.alloc u es e ⟨0,zerosA z (cap * inf.size),inf.size,false⟩) (id:=u) (ver:=0) (off:=0) (len:=len) (cap:=cap) (b:=⟨0,zerosA z (cap * inf.size),inf.size,false⟩) (Heap.set_same _ _ _) rfl rfl hlc' (by unfold maxLen; omega) (by omega)
   (by rw [h3,h4,gsz]; simp)
  rw [h3] at this
  exact this
def makeSliceCE (P:Program) (τ:Nat→AV) (u t:Nat) (x y:Operand):Option Rec:=match P.underlying t with
 | some (.slice e)=>match sizeInfo P e with
  | none=>none
  | some s=>match zeroOf P e with
   | none=>none
   | some z=>match (P.info? e).map (·.bytes) with
    | none=>none
    | some bys=>match aev τ x with
     | .v (.int .i64 (.ofNat len))=>match aev τ y with
      | .v (.int .i64 (.ofNat cap))=>bif Nat.ble len cap&&Nat.ble cap 16777216&&Nat.ble (bys * cap) 281474976710656 then
       some ⟨[],[(u,some ⟨0,zerosA z (cap * s),s,false⟩)],.sl u 0 0 len,u+1⟩ else none
      | _=>none
     | _=>none
 | _=>none
theorem makeSliceCE_ok {u t:Nat} {x y:Operand} {r:Rec} (h:makeSliceCE P τ u t x y=some r):LOp P ⟨d,.makeSlice t x y,ty,pos,af,g⟩ τ η r.fp r.δ r.v:=by
 unfold makeSliceCE at h
 split at h
 ·rename_i e he
  split at h
  ·cases h
  ·rename_i s hs
   split at h
   ·cases h
   ·rename_i z hz
    split at h
    ·cases h
    ·rename_i bys hby
     split at h
     ·rename_i len hx
      split at h
      ·rename_i cap hy
       cases hc:(Nat.ble len cap&&Nat.ble cap 16777216&&Nat.ble (bys * cap) 281474976710656) with
       | false=>rw [hc] at h; simp at h
       | true=>
        rw [hc] at h
        simp only [cond_true,Option.some.injEq] at h
        subst h
        simp only [Bool.and_eq_true] at hc
        exact LOp.makeSliceC u he hs hz hby hx hy hc.1.1 hc.1.2 hc.2
      ·cases h
     ·cases h
 ·cases h
theorem LOp.cellsW {o:Oper} {id ver off n:Nat} {b:Blk} {vs:List AV} {v:AV} (hb:η id=some b) (hv:b.ver=ver) (hn:b.nilp=false) (hl:vs.length=n) (hc:off+n≤b.cs.length) (h1:vs.all AV.one=true)
 (h:∀ (C:Ctx) (a:Act),Good C→(∀ x∈o.op.operands,VR C (aev τ x) (a.eval x))→C.η id=some b→∃ (xs:List Value) (x:Value),xs.length=vs.length∧(∀ i (h:i < vs.length) (h':i < xs.length),VR C vs[i] xs[i])∧VR C v x ∧
  ((storeCells ⟨(C.ρ id).1,(C.ρ id).2+off,none⟩ xs 0).run P C.w=.ok () (C.w.setCells (C.ρ id).1 ((C.ρ id).2+off) xs)→(execOp a.eval o).run P C.w=.ok (.value x) (C.w.setCells (C.ρ id).1 ((C.ρ id).2+off) xs))) :
 LOp P o τ η [id] [(id,some { b with cs:=setRange b.cs off vs })] v:=by
 intro C a hg hxs hfp _ K Q hK
 have hb':C.η id=some b:=(hfp id (by simp)).trans hb
 obtain ⟨xs,x,h2,h3,h4,h5⟩:=h C a hg hxs hb'
 obtain ⟨c,t',g1,g2,g3,g4⟩:=hg.blk hb' hn
 have hst:=run_storeCells_cells (P:=P) (C.ρ id).1 ((C.ρ id).2+off) xs 0 C.w (fun j hj=>by have:(C.ρ id).2+off+0+j < c.size:=(by omega);simp [World.cell?,g1]; omega) (fun j _=>by simp [World.frozen?,g1]) (fun w hw=>by obtain ⟨i,hi,rfl⟩:=List.getElem_of_mem hw;exact (h3 i (by omega) hi).one (List.all_eq_true.1 h1 _ (List.getElem_mem _)))
 simp only [Nat.add_zero] at hst
 have hr:=h5 hst
 have hgd:=Ctx.store_good (o:=off) (vs:=vs) (xs:=xs) hg hb' hn (by omega) h2 h3
 have hev:=Ctx.store_ev (id:=id) (b:=b) (o:=off) (vs:=vs) (xs:=xs) hg hb' hn
 unfold Oper.wp
 rw [hr]
 exact hK x (C.store id b off vs xs) rfl (fun i=>by simp [Ctx.store]; rintro rfl; exact hg.used hb') hgd hev (h4.mono hg hev)
def zcells (z:Value) (n:Nat):List AV:=(Builtin.zeroCells z.cells n).toList.map .v
def clearE (P:Program) (τ:Nat→AV) (η:Heap) (u:Nat) (x:Operand) (ats:Array TypeId):Option Rec:=match ats[0]? with
 | none=>none
 | some t=>match P.underlying t with
  | some (.slice e)=>match zeroOf P e with
   | none=>none
   | some z=>match aev τ x with
    | .sl id ver off len=>match liveB η id ver with
     | none=>none
     | some b=>bif Nat.beq len 0 then some ⟨[id],[],.v (.tuple #[]),u⟩ else
      bif (zcells z len).all AV.one&&Nat.beq (zcells z len).length (len * b.esz) then (match putAt off b.cs (zcells z len) with
      | some ds=>some ⟨[id],[(id,some ⟨b.ver,ds,b.esz,b.nilp⟩)],.v (.tuple #[]),u⟩
      | none=>none) else none
    | .v (.slice none 0 0)=>some ⟨[],[],.v (.tuple #[]),u⟩
    | _=>none
  | _=>none
theorem clearE_ok {u:Nat} {x:Operand} {ats:Array TypeId} {r:Rec} (h:clearE P τ η u x ats=some r):LOp P ⟨d,.call { callee:=.builtin .clear,args:=#[x],argTypes:=ats },ty,pos,af,g⟩ τ η r.fp r.δ r.v:=by
 have hex:∀ (a:Act) (w:World),(execOp a.eval ⟨d,.call { callee:=.builtin .clear,args:=#[x],argTypes:=ats },ty,pos,af,g⟩).run P w=((Builtin.clear_ ats ty #[a.eval x]).run P w).andThen fun x w=>.ok (.value x) w:=by intro a w;simp only [execOp,resolve,invoke,builtin,Sem.run_bind,Sem.run_pure,Result.andThen_ok];simp only [List.map_toArray,List.map_cons,List.map_nil]
 unfold clearE at h;split at h;cases h;rename_i t ht;split at h;rename_i e hu;split at h;cases h;rename_i z hz;split at h;rename_i id ver off len hx;split at h;cases h;rename_i b hb;obtain ⟨b1,b2,b3⟩:=liveB_ok hb;cases hl0:Nat.beq len 0 with
 | true=>
  rw [hl0] at h
  simp only [cond_true,Option.some.injEq] at h
  subst h
  have:=Nat.eq_of_beq_eq_true hl0
  subst this
  refine .look [id] fun C a hg hxs hfp=>?_
  have e1:=hxs x (by simp [Op.operands,Call.operands])
  rw [hx] at e1
  obtain ⟨ad,cap,e2,_⟩:=e1.sl_inv ((hfp id (by simp)).trans b1) b2 b3
  refine ⟨.tuple #[],?_,VR.v C _⟩
  rw [hex,e2]
  simp [Builtin.clear_,ht,Sem.run_bind,run_underlying hu]
 | false=>
  rw [hl0] at h
  simp only [cond_false] at h
  cases hc:((zcells z len).all AV.one&&Nat.beq (zcells z len).length (len * b.esz)) with
  | false=>rw [hc] at h; simp at h
  | true=>
   rw [hc] at h
   simp only [cond_true] at h
   rw [Bool.and_eq_true] at hc
   split at h
   ·rename_i ds hd
    simp only [Option.some.injEq] at h
    subst h
    obtain ⟨k3,k4⟩:=putAt_eq _ _ _ _ hd
    subst k4
    refine LOp.cellsW (n:=(zcells z len).length) b1 b2 b3 rfl k3 hc.1 fun C a hg hxs hbC=>?_
    have e1:=hxs x (by simp [Op.operands,Call.operands])
    rw [hx] at e1
    obtain ⟨ad,cap,e2,q1,q2,q3,q4⟩:=e1.sl_inv hbC b2 b3
    have hlen:len≠0:=fun e=>by rw [e,Nat.beq_refl] at hl0; cases hl0
    have had:ad=⟨(C.ρ id).1,(C.ρ id).2+off,none⟩:=by
     rcases q4 with ⟨h0,_⟩ | ⟨h0,_⟩
     ·exact absurd h0 hlen
     ·exact h0
    subst had
    refine ⟨(Builtin.zeroCells z.cells len).toList,.tuple #[],by simp [zcells],fun i h1 h2=>by simp only [zcells,List.getElem_map]; exact VR.v C _,VR.v C _,fun hst=>?_⟩
    rw [hex,e2]
    obtain ⟨m,rfl⟩:∃ m,len=m+1:=⟨len - 1,by omega⟩
    simp only [Builtin.clear_,List.getElem?_toArray,ht,Sem.run_bind,run_underlying hu,Result.andThen_ok]
    have e0:(#[Value.slice (some ⟨(C.ρ id).1,(C.ρ id).2+off,none⟩) (m+1) cap]:Array Value)[0]? = some (Value.slice (some ⟨(C.ρ id).1,(C.ρ id).2+off,none⟩) (m+1) cap):=rfl
    simp only [List.getElem?_cons_zero,Sem.run_bind,run_underlying hu,Result.andThen_ok,run_zeroValue hz,hst,Sem.run_pure]
   ·cases h
 rename_i hx;simp only [Option.some.injEq] at h;subst h;refine .look [] fun C a hg hxs hfp=>?_;have e1:=hxs x (by simp [Op.operands,Call.operands])
 rw [hx] at e1;refine ⟨.tuple #[],?_,VR.v C _⟩;rw [hex,e1.v_inv];simp [Builtin.clear_,ht,Sem.run_bind,run_underlying hu];cases h;cases h
theorem run_append_zeros {t ti e:TypeId} {k:IntKind} {i:TypeInfo} {z:Value} (ht:P.underlying t=some (.slice e)) (hti:P.underlying ti=some (.int k)) (hi:P.info? e=some i) (hz:i.zero=some z) {n:Nat} (h0:0 < n) (h63:n≤16777216) (h48:n * i.bytes≤140737488355328) (hsz:¬ (n * i.size=0)) (hb0:i.bytes≠0) (w:World) :
 (Builtin.append_ #[t,ti] ty #[.slice none 0 0,.int .i64 (Int.ofNat n)]).run P w=.ok (.slice (some ⟨w.heap.size,0,none⟩) n (grownCap w n 0 e)) (w.drew.alloc (.cells (Builtin.zeroCells z.cells n++Builtin.zeroCells z.cells (grownCap w n 0 e - n)) e)):=by
 have hn:n≠0:=by omega
 have hw1:IntKind.i64.wrap (Int.ofNat n)=Int.ofNat n:=IntWalk.i64_in _ (by constructor <;> simp <;> omega)
 have c1:¬ ((Int.ofNat n:Int) < 0):=by simp
 have c2:¬ ((Int.ofNat n:Int) * (i.bytes:Int) > 2 ^ 48):=by have:(Int.ofNat n:Int) * (i.bytes:Int)=((n * i.bytes:Nat):Int):=(by simp);rw [this];omega
 have h63':¬ (9223372036854775807 < (n:Int)):=by omega
 have h48':¬ (281474976710656 < Builtin.nextslicecap n 0 * i.bytes):=by rw [nextslicecap_zero h0]; omega
 have tn:(Int.ofNat n).toNat=n:=rfl
 have c1':¬ ((n:Int) < 0):=by omega
 have c2':¬ (281474976710656 < (n:Int) * (i.bytes:Int)):=by have:(n:Int) * (i.bytes:Int)=((n * i.bytes:Nat):Int):=(by simp);rw [this];omega
 have hw1':IntKind.i64.wrap (n:Int)=(n:Int):=hw1
 simp [Builtin.append_,run_underlying ht,run_underlying hti,asInt,asIntOf,hw1',c1',c2',sizeOf,typeInfo,zeroValue,hi,hz,hn,h63',h48',Question.forced,run_firstCells_none,newRow,grownCap,hb0]
 intro h
 exact absurd h hsz
theorem LOp.appendZeros (u:Nat) {t ti e n:Nat} {k:IntKind} {i:TypeInfo} {z:Value} {s x:Operand} (ht:P.underlying t=some (.slice e)) (hti:P.underlying ti=some (.int k)) (hi:P.info? e=some i) (hz:i.zero=some z) (hzs:z.cells.size=i.size) (h0:0 < n) (h63:n≤16777216) (h48:n * i.bytes≤140737488355328) (hsz:¬ (n * i.size=0)) (hb0:i.bytes≠0)
 (hs:aev τ s=.v (.slice none 0 0)) (hx:aev τ x=.v (.int .i64 (Int.ofNat n))) :
 LOp P ⟨d,.call { callee:=.builtin .append,args:=#[s,x],argTypes:=#[t,ti] },ty,pos,af,g⟩ τ η [] [(u,some ⟨0,zcells z n,i.size,false⟩)] (.sl u 0 0 n):=by
 intro C a hg hxs _ hnew K Q hK
 have hu:¬ C.U u:=hnew (u,some ⟨0,zcells z n,i.size,false⟩) (by simp) (by simp)
 have e1:=hxs s (by simp [Op.operands,Call.operands])
 have e2:=hxs x (by simp [Op.operands,Call.operands])
 rw [hs] at e1
 rw [hx] at e2
 have hr:=run_append_zeros (P:=P) (ty:=ty) ht hti hi hz h0 h63 h48 hsz hb0 C.w
 generalize hcell:(Builtin.zeroCells z.cells n++Builtin.zeroCells z.cells (grownCap C.w n 0 e - n))=nc at hr
 have hge:=grownCap_ge C.w n 0 e
 have hcm:grownCap C.w n 0 e≤maxLen:=grownCap_le_maxLen C.w n 0 e (by unfold maxLen; omega)
 have hncs:nc.size=grownCap C.w n 0 e * i.size:=by rw [← hcell];simp only [Array.size_append,size_zeroCells,hzs,← Nat.add_mul];congr 1;omega
 have hzl:(zcells z n).length=n * i.size:=by simp only [zcells,List.length_map,Array.length_toList,size_zeroCells,hzs]
 have hle:n * i.size≤grownCap C.w n 0 e * i.size:=Nat.mul_le_mul_right _ hge
 have hget:∀ j (h:j < (zcells z n).length) (h':j < nc.size),VR C (zcells z n)[j] nc[j]:=by intro j hj hj';have hj2:j < (Builtin.zeroCells z.cells n).size:=(by simp [zcells] at hj; simpa using hj);have hnj:nc[j]? = (Builtin.zeroCells z.cells n)[j]?:=(by rw [← hcell,Array.getElem?_append_left hj2]);rw [Array.getElem?_eq_getElem hj',Array.getElem?_eq_getElem hj2] at hnj;rw [Option.some.inj hnj];simp only [zcells,List.getElem_map,Array.getElem_toList];exact VR.v C _
 obtain ⟨hg1,he1⟩:=Ctx.drew_good hg
 unfold Oper.wp
 rw [exec_append C.w (by rw [e1.v_inv,e2.v_inv]; exact hr)]
 have hgA:=Ctx.alloc_good (C:={ C with w:=C.w.drew }) (u:=u) (cells:=nc) (t:=e) (b:=⟨0,zcells z n,i.size,false⟩) hg1 hu rfl (by simp only; omega) (fun j h h'=>(hget j h h').mono hg he1)
 have heA:=Ctx.alloc_ev (C:={ C with w:=C.w.drew }) (u:=u) (cells:=nc) (t:=e) (b:=⟨0,zcells z n,i.size,false⟩) hg1 hu rfl
 refine hK _ (Ctx.alloc { C with w:=C.w.drew } u nc e ⟨0,zcells z n,i.size,false⟩) rfl (fun i=>by simp [Ctx.alloc]) hgA (he1.trans heA) ?_
 have h3:(Ctx.alloc { C with w:=C.w.drew } u nc e ⟨0,zcells z n,i.size,false⟩).ρ u=(C.w.heap.size,0):=by simp [Ctx.alloc]
 have h4:(Ctx.alloc { C with w:=C.w.drew } u nc e ⟨0,zcells z n,i.size,false⟩).sz u=nc.size:=by simp [Ctx.alloc]
 have:=VR.sl (C:=Ctx.alloc { C with w:=C.w.drew } u nc e ⟨0,zcells z n,i.size,false⟩) (id:=u) (ver:=0) (off:=0) (len:=n) (cap:=grownCap C.w n 0 e) (b:=⟨0,zcells z n,i.size,false⟩) (Heap.set_same _ _ _) rfl rfl hge hcm (by omega)
  (by rw [h3,h4,hncs]; simp)
 rw [h3] at this
 exact this
def appendZerosE (P:Program) (τ:Nat→AV) (u t ti:Nat) (s x:Operand):Option Rec:=match P.underlying t with
 | some (.slice e)=>match P.underlying ti with
  | some (.int k)=>match P.info? e with
   | none=>none
   | some i=>match i.zero with
    | none=>none
    | some z=>match aev τ s with
     | .v (.slice none 0 0)=>match aev τ x with
      | .v (.int .i64 (.ofNat n))=>bif Nat.beq z.cells.size i.size&&Nat.ble 1 n&&Nat.ble n 16777216&&Nat.ble (n * i.bytes) 140737488355328&&!Nat.beq (n * i.size) 0&&!Nat.beq i.bytes 0 then
       some ⟨[],[(u,some ⟨0,zcells z n,i.size,false⟩)],.sl u 0 0 n,u+1⟩ else none
      | _=>none
     | _=>none
  | _=>none
 | _=>none
theorem appendZerosE_ok {u t ti:Nat} {s x:Operand} {r:Rec} (h:appendZerosE P τ u t ti s x=some r):LOp P ⟨d,.call { callee:=.builtin .append,args:=#[s,x],argTypes:=#[t,ti] },ty,pos,af,g⟩ τ η r.fp r.δ r.v:=by
 unfold appendZerosE at h
 split at h
 ·rename_i e ht
  split at h
  ·rename_i k hti
   split at h
   ·cases h
   ·rename_i i hi
    split at h
    ·cases h
    ·rename_i z hz
     split at h
     ·rename_i hs
      split at h
      ·rename_i n hx
       cases hc:(Nat.beq z.cells.size i.size&&Nat.ble 1 n&&Nat.ble n 16777216&&Nat.ble (n * i.bytes) 140737488355328&&!Nat.beq (n * i.size) 0&&!Nat.beq i.bytes 0) with
       | false=>rw [hc] at h; simp at h
       | true=>
        rw [hc] at h
        simp only [cond_true,Option.some.injEq] at h
        subst h
        simp only [Bool.and_eq_true,Bool.not_eq_true'] at hc
        obtain ⟨⟨⟨⟨⟨c1,c2⟩,c3⟩,c4⟩,c5⟩,c6⟩:=hc
        exact LOp.appendZeros u ht hti hi hz (Nat.eq_of_beq_eq_true c1) (Nat.le_of_ble_eq_true c2) (Nat.le_of_ble_eq_true c3) (Nat.le_of_ble_eq_true c4) (fun e=>by rw [e] at c5; cases c5) (fun e=>by rw [e] at c6; cases c6) hs hx
      ·cases h
     ·cases h
  ·cases h
 ·cases h
theorem run_indexArr {t e s len:Nat} {k:IntKind} {j b o:Nat} {w:World} (he:P.underlying t=some (.array len e)) (hs:sizeInfo P e=some s) (hj:j < len) :
 (Instr.indexAt t (.pointer (some ⟨b,o,none⟩)) (.int k (Int.ofNat j))).run P w=.ok (.pointer (some ⟨b,o+j * s,none⟩)) w:=by
 unfold sizeInfo at hs
 cases hi:P.info? e with
 | none=>rw [hi] at hs; cases hs
 | some inf=>
  rw [hi] at hs
  simp only [Option.map_some,Option.some.injEq] at hs
  subst hs
  have c1:(0:Int)≤Int.ofNat j∧Int.ofNat j < (len:Int):=⟨by simp,by simp; exact_mod_cast hj⟩
  have c2:(Int.ofNat j).toNat=j:=rfl
  have hadd:(Addr.add ⟨b,o,none⟩ (j * inf.size))=⟨b,o+j * inf.size,none⟩:=by simp [Addr.add]
  simp only [Instr.indexAt,asIntOf,Instr.sureAddr,Sem.run_bind,Sem.run_pure,Result.andThen_ok,run_underlying he]
  simp only [c1,and_self,if_true,Sem.run_bind,sizeOf,typeInfo,run_program,hi,Sem.run_pure,Result.andThen_ok,c2,hadd]
def indexArrE (P:Program) (τ:Nat→AV) (η:Heap) (u t:Nat) (x i:Operand):Option Rec:=match P.underlying t with
 | some (.array len e)=>match sizeInfo P e with
  | none=>none
  | some n=>match aev τ i with
   | .v (.int k (.ofNat j))=>bif Nat.blt j len then (match aev τ x with
    | .tp cs o=>some ⟨[],[],.tp cs (o+j * n),u⟩
    | .ptr id ver o=>match liveB η id ver with
     | some _=>some ⟨[id],[],.ptr id ver (o+j * n),u⟩
     | none=>none
    | _=>none) else none
   | _=>none
 | _=>none
theorem indexArrE_ok {u t:Nat} {x i:Operand} {r:Rec} (h:indexArrE P τ η u t x i=some r):LOp P ⟨d,.indexAddr t x i,ty,pos,af,g⟩ τ η r.fp r.δ r.v:=by
 unfold indexArrE at h
 split at h
 ·rename_i len e he
  split at h
  ·cases h
  ·rename_i n hs
   split at h
   ·rename_i k j hi
    cases hlt:Nat.blt j len with
    | false=>rw [hlt] at h; simp at h
    | true=>
     rw [hlt] at h
     simp only [cond_true] at h
     have hlt':j < len:=by simpa using hlt
     split at h
     ·rename_i cs o hx
      simp only [Option.some.injEq] at h
      subst h
      refine .look [] fun C a hg hxs _=>?_
      have e1:=hxs x (by simp [Op.operands])
      have e0:=hxs i (by simp [Op.operands])
      rw [hx] at e1
      rw [hi] at e0
      have e0':=e0.v_inv
      have e2:=e1.tp_inv
      generalize hxe:a.eval x=xv at e2
      cases e2 with
      | tp cell hT hc hr=>
       refine ⟨_,by simp only [execOp,hxe,e0',Sem.run_bind,run_indexArr he hs hlt',Result.andThen_ok]; rfl,?_⟩
       rw [Nat.add_assoc]
       exact .imm (.tp cell hT hc hr)
     ·rename_i id ver o hx
      split at h
      ·rename_i b hb
       obtain ⟨b1,b2,b3⟩:=liveB_ok hb
       simp only [Option.some.injEq] at h
       subst h
       refine .look [id] fun C a hg hxs hfp=>?_
       have hbC:C.η id=some b:=(hfp id (by simp)).trans b1
       have e1:=hxs x (by simp [Op.operands])
       have e0:=hxs i (by simp [Op.operands])
       rw [hx] at e1
       rw [hi] at e0
       have e0':=e0.v_inv
       have e2:=e1.ptr_inv hbC b2
       refine ⟨_,by simp only [execOp,e2,e0',Sem.run_bind,run_indexArr he hs hlt',Result.andThen_ok]; rfl,?_⟩
       rw [Nat.add_assoc]
       exact .ptr hbC b2 b3
      ·cases h
     ·cases h
   ·cases h
 ·cases h
def extE3 (P:Program) (E:ESX) (o:Oper):Option Rec:=match o.op with
 | .makeSlice t x y=>makeSliceCE P (triτ E.t) E.u t x y
 | .indexAddr t x i=>indexArrE P (triτ E.t) (triη E.h) E.u t x i
 | .call ⟨.builtin .clear,⟨[x]⟩,ats⟩=>clearE P (triτ E.t) (triη E.h) E.u x ats
 | .call ⟨.builtin .append,⟨[s,x]⟩,⟨[t,ti]⟩⟩=>appendZerosE P (triτ E.t) E.u t ti s x
 | _=>none
def extX3 (P:Program):OpRunX:=fun o E=>match extX2 P o E with
 | some r=>some r
 | none=>match extE3 P E o with
  | some r=>ofRec E r
  | none=>none
theorem extX3_ok:(extX3 P).Ok P:=by intro o E r hl h;unfold extX3 at h;split at h;rename_i r' hr;simp only [Option.some.injEq] at h;subst h;exact extX2_ok _ _ _ hl hr;rename_i hno;clear hno;split at h;rename_i r' hr;refine ofRec_ok h ?_;obtain ⟨d,op,ty,pos,af,g⟩:=o;unfold extE3 at hr;simp only at hr;split at hr;exact makeSliceCE_ok hr;exact indexArrE_ok hr;exact clearE_ok hr;exact appendZerosE_ok hr;cases hr;cases h
end
end Go.Proofs.YtbhhmbchdponjaaGreatDoor
namespace Go.Proofs.YtbhhmbchdponjaaGreatDoor
set_option linter.unusedVariables false
set_option linter.unusedSimpArgs false
open Go.RowKit
def getK (x:Operand):ESX→AV:=match x with
 | .tmp t=>fun E=>triτ E.t t
 | .const v=>fun _=>.v v
 | .global g=>fun _=>.v (.pointer (some ⟨g,0,none⟩))
 | .func f=>fun _=>.clo f []
theorem getK_eq (x:Operand) (E:ESX):getK x E=aev (triτ E.t) x:=by cases x <;> rfl
def moveK (x:Operand) (E:ESX):Option Rx:=some (looked E (getK x E))
def pickK (c x y:Operand) (E:ESX):Option Rx:=match getK c E with
 | .v (.bool true)=>some (looked E (getK x E))
 | .v (.bool false)=>some (looked E (getK y E))
 | _=>none
def lookedF (E:ESX) (id:Nat) (v:AV):Option Rx:=bif Nat.ble (id+1) E.u then some ⟨Nat.shiftLeft 1 id,0,E.u,E.u,E.h,v⟩ else none
def fastBin (op:BinOp) (x y:Operand) (slow:ESX→Option Rx) (E:ESX):Option Rx:=match getK x E with
 | .v (.int .i64 a)=>match getK y E with
  | .v (.int .i64 b)=>match fastI op a b with
   | some v=>some (looked E (.v v))
   | none=>slow E
  | _=>slow E
 | _=>slow E
def loadK (row:Option (Option Nat)) (x:Operand) (E:ESX):Option Rx:=match row with
 | none=>none
 | some none=>match getK x E with
  | .ptr id ver o=>match liveB (triη E.h) id ver with
   | none=>none
   | some b=>match b.cs[o]? with
    | some v=>lookedF E id v
    | none=>none
  | .tp cs o=>match cs[o]? with
   | some v=>some (looked E v)
   | none=>none
  | _=>none
 | some (some n)=>match getK x E with
  | .ptr id ver o=>match liveB (triη E.h) id ver with
   | none=>none
   | some b=>match takeFrom o n b.cs with
    | some ds=>lookedF E id (.agg ds)
    | none=>none
  | .tp cs o=>match takeFrom o n cs with
   | some ds=>some (looked E (.agg ds))
   | none=>none
  | _=>none
def faK (fi:Option (Nat×Nat)) (x:Operand) (E:ESX):Option Rx:=match fi with
 | none=>none
 | some (off,sz)=>bif Nat.beq sz 0 then none else match getK x E with
  | .ptr id ver o=>match liveB (triη E.h) id ver with
   | none=>none
   | some _=>lookedF E id (.ptr id ver (o+off))
  | .tp cs o=>some (looked E (.tp cs (o+off)))
  | _=>none
def elemSz (P:Program) (t:Nat):Option Nat:=match P.underlying t with
 | some (.slice e)=>sizeInfo P e
 | _=>none
def iaK (n:Option Nat) (x i:Operand) (slow:ESX→Option Rx) (E:ESX):Option Rx:=match n with
 | none=>slow E
 | some n=>match getK i E with
  | .v (.int k (.ofNat j))=>match getK x E with
   | .tree m rows=>bif Nat.beq m n then (match rows[j]? with
    | some row=>some (looked E (.tp row 0))
    | none=>none) else none
   | .sl id ver off len=>bif Nat.ble (j+1) len then (match liveB (triη E.h) id ver with
    | some b=>bif Nat.beq b.esz n then lookedF E id (.ptr id ver (off+j * n)) else none
    | none=>none) else none
   | _=>none
  | _=>none
def fastG (k:IntKind) (op:BinOp) (a b:Int):Option Value:=match op with
 | .add=>some (.int k (k.wrap (a+b)))
 | .sub=>some (.int k (k.wrap (a - b)))
 | .mul=>some (.int k (k.wrap (a * b)))
 | .eql=>some (.bool (eqI a b))
 | .neq=>some (.bool (!eqI a b))
 | .lss=>some (.bool (ltI a b))
 | .gtr=>some (.bool (ltI b a))
 | .leq=>some (.bool (!ltI b a))
 | .geq=>some (.bool (!ltI a b))
 | _=>none
def sameK:IntKind→IntKind→Bool
 | .u8,.u8=>true
 | .u32,.u32=>true
 | .u64,.u64=>true
 | .i64,.i64=>true
 | .i32,.i32=>true
 | _,_=>false
theorem sameK_ok {k k':IntKind} (h:sameK k k'=true):k'=k:=by cases k <;> cases k' <;> first | rfl | cases h
def binG (op:BinOp) (x y:Operand) (slow:ESX→Option Rx) (E:ESX):Option Rx:=match getK x E with
 | .v (.int k a)=>match getK y E with
  | .v (.int k' b)=>bif sameK k k' then (match fastG k op a b with
   | some v=>some (looked E (.v v))
   | none=>slow E) else slow E
  | _=>slow E
 | _=>slow E
theorem binG_lop {P:Program} {τ:Nat→AV} {η:Heap} {d:Option Tmp} {ty:TypeId} {pos:String} {af:Array Edge} {g:Option (Nat×Bool)} {op:BinOp} {t t':Nat} {x y:Operand} {k:IntKind} {a b:Int} {v:Value} (hx:aev τ x=.v (.int k a)) (hy:aev τ y=.v (.int k b)) (h:fastG k op a b=some v):LOp P ⟨d,.binOp op t x y t',ty,pos,af,g⟩ τ η [] [] (.v v):=by
 refine .look [] fun C ac hg hxs _=>⟨v,?_,VR.v C v⟩;have e1:=hxs x (by simp [Op.operands])
 have e2:=hxs y (by simp [Op.operands]);rw [hx] at e1;rw [hy] at e2;have e1':=e1.v_inv
 have e2':=e2.v_inv;have hgd:∀ w:World,(eqGuard op t x y (.int k a) (.int k b)).run P w=.ok () w:=by intro w;unfold eqGuard;split <;> rfl
 have hk:¬ (k≠k):=fun h=>h rfl;unfold fastG at h;split at h
 all_goals first
  | (cases h; done)
  |(
   have h':=Option.some.inj h
   subst h'
   simp only [execOp,e1',e2',Sem.run_bind,hgd,Result.andThen_ok]
   first
    | (simp only [binOp,hk,if_false,Op.intArith,Sem.run_pure,Result.andThen_ok]; done)
    | (rw [nlt_eq]; simp only [binOp,hk,if_false,Op.intCmp,Sem.run_pure,Result.andThen_ok]; done)
    | (rw [ltI_eq]; simp only [binOp,hk,if_false,Op.intCmp,Sem.run_pure,Result.andThen_ok]; done)
    | (rw [eqI_eq]; simp only [binOp,hk,if_false,Op.intCmp,Sem.run_pure,Result.andThen_ok]; done)
    | (rw [eqI_eq]; simp only [binOp,hk,if_false,Op.intCmp,Sem.run_pure,Result.andThen_ok]; rfl))
def intOf (P:Program) (t:Nat):Option IntKind:=match P.underlying t with
 | some (.int k)=>some k
 | _=>none
def convK (s t:Option IntKind) (x:Operand) (slow:ESX→Option Rx) (E:ESX):Option Rx:=match s with
 | none=>slow E
 | some _=>match t with
  | none=>slow E
  | some k=>match getK x E with
   | .v (.int _ n)=>some (looked E (.v (.int k (k.wrap n))))
   | _=>slow E
def isSl (P:Program) (ats:Array TypeId):Bool:=match ats[0]? with
 | some t=>match P.underlying t with
  | some (.slice _)=>true
  | _=>false
 | none=>false
def lenK (sl:Bool) (x:Operand) (slow:ESX→Option Rx) (E:ESX):Option Rx:=bif sl then (match getK x E with
 | .tree n rows=>some (looked E (.v (.int .i64 (rows.length:Int))))
 | .sl id ver off len=>match liveB (triη E.h) id ver with
  | some _=>lookedF E id (.v (.int .i64 (len:Int)))
  | none=>none
 | _=>slow E) else slow E
def extrK (x:Operand) (i:Nat) (slow:ESX→Option Rx) (E:ESX):Option Rx:=match getK x E with
 | .tup cs=>match cs[i]? with
  | some v=>some (looked E v)
  | none=>none
 | _=>slow E
def storeK (sz:Option Nat) (x y:Operand) (E:ESX):Option Rx:=match sz with
 | none=>none
 | some n=>match getK x E with
  | .ptr id ver o=>match liveB (triη E.h) id ver with
   | none=>none
   | some b=>match cellsO (getK y E) with
    | none=>none
    | some vs=>bif Nat.beq vs.length n&&vs.all AV.one&&Nat.ble (id+1) E.u then
     (match putAt o b.cs vs with
     | some ds=>match Tri.set 24 E.h id (some ⟨b.ver,ds,b.esz,b.nilp⟩) with
      | some h=>some ⟨Nat.shiftLeft 1 id,Nat.shiftLeft 1 id,E.u,E.u,h,.v undef⟩
      | none=>none
     | none=>none)
     else none
  | _=>none
def opF (P:Program) (ov:FuncId→Bool) (ovr:CallRun) (call:CallX) (ext:OpRunX) (o:Oper):ESX→Option Rx:=match o.op with
 | .move x=>moveK x
 | .assign x=>moveK x
 | .pick c x y=>pickK c x y
 | .binOp op _ x y _=>fastBin op x y (binG op x y (opX P ov ovr call ext o))
 | .load t x=>loadK (rowOf P t) x
 | .fieldAddr t x i=>faK (fieldInfo P t i) x
 | .indexAddr t x i=>iaK (elemSz P t) x i (opX P ov ovr call ext o)
 | .convert s t x=>convK (intOf P s) (intOf P t) x (opX P ov ovr call ext o)
 | .extract x i=>extrK x i (opX P ov ovr call ext o)
 | .store t x y=>storeK (sizeInfo P t) x y
 | .call ⟨.builtin .len,⟨[x]⟩,ats⟩=>lenK (isSl P ats) x (opX P ov ovr call ext o)
 | _=>opX P ov ovr call ext o
section
variable {P:Program} {o:Oper} {E:ESX}
theorem lookedF_ok {id:Nat} {v:AV} {r:Rx} (h:lookedF E id v=some r) (hL:LOp P o (triτ E.t) (triη E.h) [id] [] v):r.u0=E.u∧Fits (triη E.h) r.rc∧LOpX P o (triτ E.t) (triη E.h) r.rc:=by
 unfold lookedF at h
 cases hb:Nat.ble (id+1) E.u with
 | false=>rw [hb] at h; simp at h
 | true=>
  rw [hb] at h
  simp only [cond_true,Option.some.injEq] at h
  subst h
  have hF:∀ i,(Nat.shiftLeft 1 id).testBit i=true↔i=id:=fun i=>bit_iff
  refine ⟨rfl,⟨Nat.le_refl _,fun i _=>rfl,fun i hi=>?_,fun i hi=>?_⟩,?_⟩
  ·have:(0:Nat).testBit i=true:=hi
   simp at this
  ·have:=(hF i).1 hi
   subst this
   exact Nat.le_of_ble_eq_true hb
  ·have:=hL.toX (u:=E.u)
   have e:maskL [id]=Nat.shiftLeft 1 id:=by simp [maskL]
   rw [e] at this
   exact this
end
theorem opF_ok {P:Program} {ov:FuncId→Bool} {ovr:CallRun} {call:CallX} {ext:OpRunX} (ho:∀ f ys ret,ovr f ys=some ret→PCall P f ys ret) (hc:call.Ok P) (he:ext.Ok P):OpRunX.Ok P (opF P ov ovr call ext):=by
 intro o E r hl h
 have slow:∀ r,opX P ov ovr call ext o E=some r→r.u0=E.u∧Fits (triη E.h) r.rc∧LOpX P o (triτ E.t) (triη E.h) r.rc:=fun r h=>opX_ok ho hc he o E r hl h
 obtain ⟨d,op,ty,pos,af,g⟩:=o
 unfold opF at h
 simp only at h
 split at h
 ·simp only [moveK,getK_eq,Option.some.injEq] at h; subst h; exact looked_ok (LOp.move _)
 ·simp only [moveK,getK_eq,Option.some.injEq] at h; subst h; exact looked_ok (LOp.assign _)
 ·unfold pickK at h
  split at h
  ·rename_i hcd
   rw [getK_eq] at hcd
   simp only [getK_eq,Option.some.injEq] at h; subst h; exact looked_ok (LOp.pkT hcd rfl rfl)
  ·rename_i hcd
   rw [getK_eq] at hcd
   simp only [getK_eq,Option.some.injEq] at h; subst h; exact looked_ok (LOp.pkF hcd rfl rfl)
  ·cases h
 ·rename_i bop t x y t'
  have slowG:∀ r,binG bop x y (opX P ov ovr call ext ⟨d,.binOp bop t x y t',ty,pos,af,g⟩) E=some r→r.u0=E.u∧Fits (triη E.h) r.rc∧LOpX P ⟨d,.binOp bop t x y t',ty,pos,af,g⟩ (triτ E.t) (triη E.h) r.rc:=by
   intro r h
   unfold binG at h
   split at h
   ·rename_i k a hx
    split at h
    ·rename_i k' b hy
     cases hk:sameK k k' with
     | false=>rw [hk] at h; exact slow _ h
     | true=>
      rw [hk] at h
      simp only [cond_true] at h
      obtain rfl:=sameK_ok hk
      split at h
      ·rename_i v hv
       simp only [Option.some.injEq] at h
       subst h
       rw [getK_eq] at hx hy
       exact looked_ok (binG_lop hx hy hv)
      ·exact slow _ h
    ·exact slow _ h
   ·exact slow _ h
  unfold fastBin at h
  split at h
  ·rename_i a hx
   split at h
   ·rename_i b hy
    split at h
    ·rename_i v hv
     simp only [Option.some.injEq] at h
     subst h
     rw [getK_eq] at hx hy
     refine looked_ok (fastE_ok ?_)
     simp only [fastE,hx,hy,hv]
    ·exact slowG _ h
   ·exact slowG _ h
  ·exact slowG _ h
 ·rename_i t x
  unfold loadK at h
  split at h
  ·cases h
  ·rename_i hr
   split at h
   ·rename_i id ver o hx
    rw [getK_eq] at hx
    split at h
    ·cases h
    ·rename_i b hb
     obtain ⟨h1,h2,h3⟩:=liveB_ok hb
     split at h
     ·rename_i v hv
      exact lookedF_ok h (lD hr hx h1 h2 h3 hv)
     ·cases h
   ·rename_i cs o hx
    rw [getK_eq] at hx
    split at h
    ·rename_i v hv
     simp only [Option.some.injEq] at h
     subst h
     exact looked_ok (lE hr hx hv)
    ·cases h
   ·cases h
  ·rename_i n hr
   split at h
   ·rename_i id ver o hx
    rw [getK_eq] at hx
    split at h
    ·cases h
    ·rename_i b hb
     obtain ⟨h1,h2,h3⟩:=liveB_ok hb
     split at h
     ·rename_i v hv
      exact lookedF_ok h (LOp.ldN hr hx h1 h2 h3 hv)
     ·cases h
   ·rename_i cs o hx
    rw [getK_eq] at hx
    split at h
    ·rename_i v hv
     simp only [Option.some.injEq] at h
     subst h
     exact looked_ok (LOp.ldTN hr hx hv)
    ·cases h
   ·cases h
 ·rename_i t x i
  unfold faK at h
  split at h
  ·cases h
  ·rename_i off sz hf
   cases hz:Nat.beq sz 0 with
   | true=>rw [hz] at h; simp at h
   | false=>
    rw [hz] at h
    simp only [cond_false] at h
    split at h
    ·rename_i id ver o hx
     rw [getK_eq] at hx
     split at h
     ·cases h
     ·rename_i b hb
      obtain ⟨h1,h2,h3⟩:=liveB_ok hb
      exact lookedF_ok h (lF hf hz hx h1 h2 h3)
    ·rename_i cs o hx
     rw [getK_eq] at hx
     simp only [Option.some.injEq] at h
     subst h
     exact looked_ok (LOp.fieldAddrT hf hz hx)
    ·cases h
 ·rename_i t x i
  unfold iaK at h
  split at h
  ·exact slow _ h
  ·rename_i n hn
   unfold elemSz at hn
   split at hn
   ·rename_i e hu
    split at h
    ·rename_i k j hi
     rw [getK_eq] at hi
     split at h
     ·rename_i m rows hx
      rw [getK_eq] at hx
      cases hc:Nat.beq m n with
      | false=>rw [hc] at h; simp at h
      | true=>
       rw [hc] at h
       simp only [cond_true] at h
       obtain rfl:=Nat.eq_of_beq_eq_true hc
       split at h
       ·rename_i row hrow
        simp only [Option.some.injEq] at h
        subst h
        obtain ⟨hj,e⟩:=List.getElem?_eq_some_iff.1 hrow
        subst e
        exact looked_ok (lI (f:=fun a=>a) (l:=rows) hu hn (by rw [hx]; simp) hi hj)
       ·cases h
     ·rename_i id ver off len hx
      rw [getK_eq] at hx
      cases hc:Nat.ble (j+1) len with
      | false=>rw [hc] at h; simp at h
      | true=>
       rw [hc] at h
       simp only [cond_true] at h
       split at h
       ·rename_i b hb
        obtain ⟨h1,h2,h3⟩:=liveB_ok hb
        cases hz:Nat.beq b.esz n with
        | false=>rw [hz] at h; simp at h
        | true=>
         rw [hz] at h
         simp only [cond_true] at h
         exact lookedF_ok h (LOp.indexS hu hn hx hi (Nat.le_of_ble_eq_true hc) h1 h2 h3 (Nat.eq_of_beq_eq_true hz))
       ·cases h
     ·cases h
    ·cases h
   ·cases hn
 ·rename_i s t x
  unfold convK at h
  split at h
  ·exact slow _ h
  ·rename_i k0 hs
   split at h
   ·exact slow _ h
   ·rename_i k ht
    split at h
    ·rename_i k1 n hx
     simp only [Option.some.injEq] at h
     subst h
     rw [getK_eq] at hx
     unfold intOf at hs ht
     split at hs
     ·rename_i ks hus
      split at ht
      ·rename_i kt hut
       simp only [Option.some.injEq] at hs ht
       subst hs ht
       refine looked_ok (.look [] fun C a hg hxs _=>⟨_,?_,VR.v C _⟩)
       have e1:=hxs x (by simp [Op.operands])
       rw [hx] at e1
       simp only [execOp,e1.v_inv,convert,Sem.run_bind,run_underlying hus,run_underlying hut,Result.andThen_ok,Conv.intToInt,Sem.run_pure]
      ·cases ht
     ·cases hs
    ·exact slow _ h
 ·rename_i x i
  unfold extrK at h
  split at h
  ·rename_i cs hx
   rw [getK_eq] at hx
   split at h
   ·rename_i v hv
    simp only [Option.some.injEq] at h
    subst h
    exact looked_ok (LOp.extract hx hv)
   ·cases h
  ·exact slow _ h
 ·rename_i t x y
  unfold storeK at h
  split at h
  ·cases h
  ·rename_i n hs
   split at h
   ·rename_i id ver o hx
    rw [getK_eq] at hx
    split at h
    ·cases h
    ·rename_i b hb
     obtain ⟨h1,h2,h3⟩:=liveB_ok hb
     split at h
     ·cases h
     ·rename_i vs hv
      rw [getK_eq] at hv
      cases hc:(Nat.beq vs.length n&&vs.all AV.one&&Nat.ble (id+1) E.u) with
      | false=>rw [hc] at h; simp at h
      | true=>
       rw [hc] at h
       simp only [cond_true] at h
       simp only [Bool.and_eq_true] at hc
       split at h
       ·rename_i ds hd
        split at h
        ·rename_i h' hset
         simp only [Option.some.injEq] at h
         subst h
         have hL:LOp P ⟨d,.store t x y,ty,pos,af,g⟩ (triτ E.t) (triη E.h) [id] [(id,some ⟨b.ver,ds,b.esz,b.nilp⟩)] (.v undef) :=
          LOp.st (w:=b.ver) (np:=b.nilp) (cs:=b.cs) (ez:=b.esz) hs hx h1 h2 h3 hv (Nat.eq_of_beq_eq_true hc.1.1) hc.1.2 hd
         have e:triη h'=(triη E.h).set id (some ⟨b.ver,ds,b.esz,b.nilp⟩):=triη_set hset
         have hmk:maskL [id]=Nat.shiftLeft 1 id:=by simp [maskL]
         refine ⟨rfl,⟨Nat.le_refl _,fun i hi=>?_,fun i hi=>hi,fun i hi=>?_⟩,?_⟩
         ·show triη h' i=_
          rw [e]
          have:i≠id:=fun e=>by
           subst e
           have h2:=hi
           rw [show Rc.D (Rx.rc ⟨Nat.shiftLeft 1 i,Nat.shiftLeft 1 i,E.u,E.u,h',.v undef⟩) i=true from Rc.D_iff.2 (.inl (bit_iff.2 rfl))] at h2
           cases h2
          rw [Heap.set_other _ _ this]
         ·have:(Nat.shiftLeft 1 id).testBit i=true:=hi
          rw [bit_iff] at this
          subst this
          exact Nat.le_of_ble_eq_true hc.2
         ·have:=hL.toX_old (u:=E.u) (by simp)
          rw [hmk] at this
          show LOpX P _ (triτ E.t) (triη E.h) ⟨Nat.shiftLeft 1 id,Nat.shiftLeft 1 id,E.u,E.u,triη h',.v undef⟩
          rw [e]
          exact this
        ·cases h
       ·cases h
   ·cases h
 ·rename_i x ats
  unfold lenK at h
  cases hsl:isSl P ats with
  | false=>rw [hsl] at h; exact slow _ h
  | true=>
   rw [hsl] at h
   simp only [cond_true] at h
   unfold isSl at hsl
   split at hsl
   ·rename_i t ht
    split at hsl
    ·rename_i e hu
     split at h
     ·rename_i n rows hx
      simp only [Option.some.injEq] at h
      subst h
      rw [getK_eq] at hx
      exact looked_ok (lT (n:=n) (f:=fun a=>a) (l:=rows) ht hu (by rw [hx]; simp))
     ·rename_i id ver off len hx
      rw [getK_eq] at hx
      split at h
      ·rename_i b hb
       obtain ⟨h1,h2,h3⟩:=liveB_ok hb
       exact lookedF_ok h (LOp.lenS ht hu hx h1 h2)
      ·cases h
     ·exact slow _ h
    ·cases hsl
   ·cases hsl
 ·exact slow _ h
end Go.Proofs.YtbhhmbchdponjaaGreatDoor
