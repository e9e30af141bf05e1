/- Texts of the claim. -/
import Derived.Deep.Slices
import Derived.Deep.Fields
import Derived.ChangeSame
import Derived.ChangeArms
import Derived.SizedLaws
import Derived.OpenShut
import Derived.Test.YthpangmpihkniaaGreatDoorF7
import Derived.Test.YthpangmpihkniaaGreatDoorQ2
import Derived.Test.YthpangmpihkniaaGreatDoorF5
namespace Go.Proofs.YthpangmpihkniaaGreatDoor
set_option maxRecDepth 1000000
set_option maxHeartbeats 0
set_option linter.unusedVariables false
set_option linter.unusedSimpArgs false
open Go.RowKit
/-- A key value for a column of type ty. -/
def RdV (v:GVal) (ty:Int):Prop:=(v.kind_=1/\ey v.text_=true/\ty=1/\-2147483648<=v.int_/\v.int_<=2147483647)\/(v.kind_=2/\v.int_=0/\Kf v.text_=true/\v.text_.size<=16/\ty=2)
/-- A set of a table: columns and values. -/
structure RdT (t:GTab) (cs:List Int) (vs:List GVal):Prop where
 len:vs.length=cs.length
 pos:0 < cs.length
 le:cs.length<=20
 each:∀ i (h1:i < cs.length) (h2:i < vs.length),∃ p:Nat,∃ hp:p < t.columns_.length,cs[i]=((p:Nat):Int)/\RdV vs[i] t.columns_[p].type_
def RdOk (s:List GTab) (x:GRd):Prop:=∃ j:Nat,x.table_=((j:Nat):Int)/\∃ h:j < s.length,RdT s[j] x.columns_ x.values_
/-- The key value of a possible row. -/
theorem H7 {t:GTab} {r v:List GVal} {cs:List Int} (h:0 < r.length->B2 t r) (hl:LOk (ap t)) (hc:∀ x∈cs,0<=x/\x < t.columns_.length) (hv:de r cs=some v):v.length=cs.length/\∀ i (h1:i < cs.length) (h2:i < v.length),∃ p:Nat,∃ hp:p < t.columns_.length,cs[i]=((p:Nat):Int)/\RdV v[i] t.columns_[p].type_:=by
 refine ⟨ml hv,fun i h1 h2=>?_⟩
 unfold de at hv
 split at hv
 ·cases hv
 ·rename_i hn
  have hv:=Option.some.inj hv
  subst hv
  have h0:0 < r.length:=by omega
  have hb:=Y7.2 (h h0).1
  have hm:=hc _ (Ze h1)
  obtain ⟨p,hp⟩:∃ p:Nat,cs[i]=((p:Nat):Int):=⟨cs[i].toNat,by omega⟩
  have hpl:p < t.columns_.length:=by omega
  have hpr:p < r.length:=by have:=hb.1; rw [ji] at this; omega
  refine ⟨p,hpl,hp,?_⟩
  have e1:(cs.map (a8 r))[i]=r[p]:=by rw [List.getElem_map,hp,ia hpr]
  rw [e1]
  have hnz:¬ r[p].kind_=0:=fun e=>hn (.inr ⟨cs[i],Ze h1,by rw [hp,ia hpr]; exact e⟩)
  have ev:(ap t)[p]'(by rw [ji]; exact hpl)=wz t.columns_[p]:=by simp [ap]
  have hf:=Js hb hpr
  rcases um hf with ⟨k,_⟩ | ⟨k,g1,g2,_,_⟩ | ⟨k,g1,g2,g3,g4⟩
  ·exact absurd k hnz
  ·have:=Bz hb hl hpr k
   rw [ev] at g2
   exact .inl ⟨k,g1,g2,this⟩
  ·rw [ev] at g4
   exact .inr ⟨k,g1,g2,g3,g4⟩
section
variable {s:List GTab} {c:GChg} {K:List (List Int)} {F:List GFor} {R:List (Int×Int)} {v:List GVal} {q:Nat} {x:GRd}
theorem Ob:∀ {n:Nat},n<=K.length->x∈kA c K n->∃ k,∃ h:k < K.length,∃ v,cw c.new_ c.old_ K[k]=some v/\x=⟨c.table_,K[k],v⟩
 | 0,_,h=>by simp [kA] at h
 | n+1,hn,h=>by
  rw [kA,gD (by omega)] at h
  rcases Zk.1 h with h | h
  ·exact Ob (by omega) h
  ·cases hf:cw c.new_ c.old_ (K[n]'(by omega)) with
   | none=>rw [hf] at h; simp [wc] at h
   | some v=>rw [hf] at h; simp [wc] at h; exact ⟨n,by omega,v,hf,h⟩
theorem Oc:∀ {n:Nat},n<=F.length->x∈fA s c F n->∃ k,∃ h:k < F.length,∃ v,cw c.new_ c.old_ F[k].columns_=some v/\x=⟨F[k].table_,H8 s F[k],v⟩
 | 0,_,h=>by simp [fA] at h
 | n+1,hn,h=>by
  rw [fA,gD (by omega)] at h
  rcases Zk.1 h with h | h
  ·exact Oc (by omega) h
  ·cases hf:cw c.new_ c.old_ (F[n]'(by omega)).columns_ with
   | none=>rw [hf] at h; simp [wc] at h
   | some v=>rw [hf] at h; simp [wc] at h; exact ⟨n,by omega,v,hf,h⟩
theorem N9:∀ {n:Nat},n<=R.length->x∈rA s v q R n->∃ k,∃ h:k < R.length,(Bl s R[k]).key_=((q:Nat):Int)/\x=⟨R[k].1,(Bl s R[k]).columns_,v⟩
 | 0,_,h=>by simp [rA] at h
 | n+1,hn,h=>by
  rw [rA,gD (by omega)] at h
  rcases Zk.1 h with h | h
  ·exact N9 (by omega) h
  ·split at h
   ·rename_i e; exact ⟨n,by omega,e,Zj.1 h⟩
   ·simp at h
theorem Lr {X:GRd} {l:List GRd} (h:x∈js X l):x=X\/x∈l:=by
 cases l with
 | nil=>simp [js] at h
 | cons a r=>simpa [js] using h
theorem Oa:∀ {n:Nat},n<=K.length->x∈oA s c K R n->∃ k,∃ h:k < K.length,∃ v,cw c.old_ c.new_ K[k]=some v/\(x=⟨c.table_,K[k],v⟩\/x∈rA s v k R R.length)
 | 0,_,h=>by simp [oA] at h
 | n+1,hn,h=>by
  rw [oA,gD (by omega)] at h
  rcases Zk.1 h with h | h
  ·exact Oa (by omega) h
  ·cases hf:cw c.old_ c.new_ (K[n]'(by omega)) with
   | none=>rw [hf] at h; simp [wc] at h
   | some v=>rw [hf] at h; exact ⟨n,by omega,v,hf,Lr h⟩
end
/-- The sets of FootprintConstraints are such. -/
theorem U8 {s:List GTab} {l:List GChg} (hss:SchS s) (hcl:∀ c∈l,O6 s c):∀ x∈ka s l,RdOk s x:=by
 intro x hx
 unfold ka at hx
 obtain ⟨L,hL,hx⟩:=List.mem_flatten.1 hx
 obtain ⟨c,hc,rfl⟩:=List.mem_map.1 hL
 obtain ⟨j,hj,hjs,hold,hnew⟩:=hcl c hc
 have htb:=hss.tab _ (Ze hjs)
 have hlk:=htb.to.lk
 have hvk:=(hss.v j hjs).keys
 have hvf:=(hss.v j hjs).fors
 have eT:s.getD c.table_.toNat default=s[j]:=by rw [hj,Int.toNat_natCast,gD hjs]
 unfold Fc at hx
 rw [eT] at hx
 have own:∀ (r o:List GVal) (k:Nat) (hk:k < s[j].keys_.length) (v:List GVal),(0 < r.length->B2 s[j] r)->cw r o s[j].keys_[k]=some v->RdT s[j] s[j].keys_[k] v:=fun r o k hk v hr hf=>by
  obtain ⟨e1,e2⟩:=H7 hr hlk (hvk _ (Ze hk)) (mt hf)
  exact ⟨e1,by have:=hss.w.key _ (Ze hjs) _ (Ze hk); omega,htb.sm.key _ (Ze hk),e2⟩
 rcases Zk.1 hx with hx | hx
 ·rcases Zk.1 hx with hx | hx
  ·obtain ⟨k,hk,v,hf,rfl⟩:=Ob (Nat.le_refl _) hx
   exact ⟨j,hj,hjs,own _ _ k hk v hnew hf⟩
  ·obtain ⟨k,hk,v,hf,rfl⟩:=Oc (Nat.le_refl _) hx
   have hfk:=hss.w.fork _ (Ze hjs) _ (Ze hk)
   obtain ⟨j2,q2,hj2,hq2,hjs2,hqs2,hlen,htyp⟩:=hfk.tab
   obtain ⟨e1,e2⟩:=H7 hnew hlk (hvf _ (Ze hk)).cols (mt hf)
   refine ⟨j2,hj2,hjs2,?_⟩
   show RdT s[j2] (H8 s s[j].foreign_[k]) v
   rw [Dj hj2 hq2 hjs2 hqs2]
   have hne:=hfk.ne
   refine ⟨by omega,by omega,(hss.tab _ (Ze hjs2)).sm.key _ (Ze hqs2),fun i h1 h2=>?_⟩
   obtain ⟨p,hp,g1,g2⟩:=e2 i (by omega) h2
   obtain ⟨p',q',hp',hq',a1,a2,a3⟩:=htyp i (by omega)
   rw [Zf (by omega)] at a1
   rw [Zf h1] at a2
   have a1:=Option.some.inj a1
   have a2:=Option.some.inj a2
   have:p=p':=by omega
   subst this
   exact ⟨q',hq',a2,by rw [<- a3]; exact g2⟩
 ·obtain ⟨k,hk,v,hf,h⟩:=Oa (Nat.le_refl _) hx
  have ho:=own _ _ k hk v hold hf
  rcases h with rfl | h
  ·exact ⟨j,hj,hjs,ho⟩
  ·obtain ⟨m,hm,hq,rfl⟩:=N9 (Nat.le_refl _) h
   obtain ⟨j3,m3,hj3,hm3,hjs3,hms3,htab⟩:=si (Nat.le_refl _) (Ze hm:(gl s c.table_)[m]∈A5 s c.table_ s.length)
   have hfa:=xy hj3 hm3 hjs3 hms3
   rw [hfa] at hq
   have hfk:=hss.w.fork _ (Ze hjs3) _ (Ze hms3)
   obtain ⟨j2,q2,hj2,hq2,hjs2,hqs2,hlen,htyp⟩:=hfk.tab
   have e1:j2=j:=by omega
   subst e1
   have e2:q2=k:=by omega
   subst e2
   refine ⟨j3,hj3,hjs3,?_⟩
   show RdT s[j3] (Bl s (gl s c.table_)[m]).columns_ v
   rw [hfa]
   have hne:=hfk.ne
   have hl:=ho.len
   refine ⟨by omega,by omega,(hss.tab _ (Ze hjs3)).sm.fcol _ (Ze hms3),fun i h1 h2=>?_⟩
   obtain ⟨p,hp,g1,g2⟩:=ho.each i (by omega) h2
   obtain ⟨p',q',hp',hq',a1,a2,a3⟩:=htyp i h1
   rw [Zf h1] at a1
   rw [Zf (by omega)] at a2
   have a1:=Option.some.inj a1
   have a2:=Option.some.inj a2
   have:p=q':=by omega
   subst this
   exact ⟨p',hp',a1,by rw [a3]; exact g2⟩
/-- A constraint of one column. -/
theorem Ug {l:List PVar} {nn:List Int} {i:Nat} {n:Int} (hil:i < l.length) (ht:(l.getD i default).t=1) (hb:-2147483648<=n/\n<=2147483647) (hnn:Ii nn ((i:Nat):Int)=true):(!decide (fV ⟨-n,[⟨((i:Nat):Int),1⟩]⟩ nn l [] < 0))=true:=by
 have ha:cy (-n)<=2147483648/\0<=cy (-n):=by unfold cy; split <;> omega
 have eB:fB ⟨-n,[⟨((i:Nat):Int),1⟩]⟩ l [] 0=2147483648:=by
  unfold fB
  rw [if_neg]
  show ¬ ((i:Nat):Int)≥_
  omega
 have eS:fS ⟨-n,[⟨((i:Nat):Int),1⟩]⟩ l [] 1=cy (-n)+2147483648:=by
  show cy (-n)+cy 1 * fB _ l [] 0=_
  rw [eB,O2]; omega
 have e1:fOk ⟨-n,[⟨((i:Nat):Int),1⟩]⟩ nn l [] 0=true:=by
  unfold fOk
  rw [eB,eS]
  have c1:p4 ⟨-n,[⟨((i:Nat):Int),1⟩]⟩ l [] 0=false:=by
   show (decide (((i:Nat):Int) < 0)||decide (((i:Nat):Int)≥(l.length:Int)+(([]:List Int).length:Int))||(decide (0 < 0)&&_)||(1:Int)==0||!wiB 1 (-1048576) 1048576)=false
   have q1:decide (((i:Nat):Int) < 0)=false:=decide_eq_false (by omega)
   have q2:decide (((i:Nat):Int)≥(l.length:Int)+(([]:List Int).length:Int))=false:=decide_eq_false (by simp; omega)
   rw [q1,q2]; rfl
  have c2:fTy ⟨-n,[⟨((i:Nat):Int),1⟩]⟩ nn l 0=false:=by
   show (decide (((i:Nat):Int) < (l.length:Int))&&(!((l.getD ((i:Nat):Int).toNat default).t==1)||!Ii nn ((i:Nat):Int)))=false
   rw [hnn,Int.toNat_natCast,ht]; simp
  rw [c1,c2]
  show (!false&&!false&&decide ((2147483648:Int)<=1152921504606846977 / cy 1)&&decide (cy (-n)+2147483648<=1152921504606846977))=true
  rw [O2]
  simp; omega
 have e2:fV ⟨-n,[⟨((i:Nat):Int),1⟩]⟩ nn l []=cy (-n)+2147483648:=by
  unfold fV
  have q:wiB (-n) (-1099511627777) 1099511627777=true:=by unfold wiB; simp; omega
  have q2:rq 1 (fOk ⟨-n,[⟨((i:Nat):Int),1⟩]⟩ nn l [])=true:=by
   rw [ld]; intro j hj
   obtain rfl:j=0:=by omega
   exact e1
  show (if (wiB (-n) (-1099511627777) 1099511627777&&rq 1 _)=true then fS _ l [] 1 else -1)=_
  rw [q,q2,eS]; rfl
 rw [e2]
 simp; omega
theorem S5 {l:List PVar} {nn:List Int} {i:Nat} {s:ByteArray} (hil:i < l.length) (ht:(l.getD i default).t=2) (hp:Kf s=true) (hs:s.size<=16) (hnn:Ii nn ((i:Nat):Int)=true):(vd ⟨((i:Nat):Int),0,false,s⟩&&vb ((i:Nat):Int) nn l)=true:=by
 have b1:vd ⟨((i:Nat):Int),0,false,s⟩=true:=by
  unfold vd
  unfold Kf at hp
  simp only [hp]
  simp; omega
 have b2:vb ((i:Nat):Int) nn l=true:=by
  unfold vb
  rw [hnn,Int.toNat_natCast,ht]
  simp; omega
 simp only [b1,b2,Bool.and_self]
theorem R9 {l:List Int} {n:Int} (h:∀ x∈l,0<=x/\x < n):AscL (Ee l) n:=by
 refine ⟨fun x hx=>h x (Ls.1 hx),fun i hi=>?_⟩
 exact List.pairwise_iff_getElem.1 Gu i (i+1) (by omega) hi (by omega)
section
variable {t:GTab} {cs:List Int} {vs:List GVal}
/-- What is known of the pairs of a set. -/
theorem kw (h:RdT t cs vs):∀ p∈cs.zip vs,∃ i:Nat,∃ hi:i < t.columns_.length,p.1=((i:Nat):Int)/\RdV p.2 t.columns_[i].type_:=fun p hp=>by
 obtain ⟨k,hk,rfl⟩:=List.getElem_of_mem hp
 have hk2:=hk
 rw [List.length_zip] at hk2
 rw [List.getElem_zip]
 obtain ⟨i,hi,e1,e2⟩:=h.each k (by omega) (by omega)
 exact ⟨i,hi,e1,e2⟩
theorem Wd {P:List (Int×GVal)} {k:PCon}:k∈(jt P).ints↔∃ p∈P,p.2.kind_=1/\k=⟨⟨-p.2.int_,[⟨p.1,1⟩]⟩,true⟩:=by
 show k∈(P.map iC).flatten↔_
 simp only [List.mem_flatten,List.mem_map]
 constructor
 ·rintro ⟨_,⟨p,hp,rfl⟩,hk⟩
  unfold iC at hk
  split at hk
  ·rename_i h; exact ⟨p,hp,h,Zj.1 hk⟩
  ·simp at hk
 ·rintro ⟨p,hp,h,rfl⟩
  exact ⟨_,⟨p,hp,rfl⟩,by unfold iC; rw [if_pos h]; simp⟩
theorem T9 {P:List (Int×GVal)} {k:PTest}:k∈(jt P).tests↔∃ p∈P,¬ p.2.kind_=1/\k=⟨p.1,0,false,p.2.text_⟩:=by
 show k∈(P.map tC).flatten↔_
 simp only [List.mem_flatten,List.mem_map]
 constructor
 ·rintro ⟨_,⟨p,hp,rfl⟩,hk⟩
  unfold tC at hk
  split at hk
  ·simp at hk
  ·rename_i h; exact ⟨p,hp,h,Zj.1 hk⟩
 ·rintro ⟨p,hp,h,rfl⟩
  exact ⟨_,⟨p,hp,rfl⟩,by unfold tC; rw [if_neg h]; simp⟩
theorem Q7 {α β:Type} {f:α->List β} (hf:∀ a,(f a).length<=1):∀ l:List α,(l.map f).flatten.length<=l.length
 | []=>Nat.le_refl _
 | a :: l=>by
  have:=Q7 hf l
  have:=hf a
  simp only [List.map_cons,List.flatten_cons,Zi,List.length_cons]; omega
theorem Pq (l:List Int):(Ee l).length<=l.length:=by
 have:=Lib.compact_length_le (srt l)
 rw [j4] at this
 exact this
theorem G7 (h:RdT t cs vs):(cs.zip vs).length<=20:=by have:=h.le; rw [List.length_zip]; omega
theorem N0 (h:RdT t cs vs) {p:Int×GVal} (hp:p∈cs.zip vs):Ii (jt (cs.zip vs)).nn p.1=true:=Q1 (Ls.2 (List.mem_map.2 ⟨p,hp,rfl⟩))
theorem Ld (h:RdT t cs vs):HC (ap t).length (jt (cs.zip vs)) where
 nul:=fun v hv=>absurd hv (by simp [jt])
 nn:=fun v hv=>by
  obtain ⟨p,hp,rfl⟩:=List.mem_map.1 (Ls.1 hv)
  obtain ⟨i,hi,e,_⟩:=kw h p hp
  rw [ji,e]; omega
 aux:=rfl
 same:=rfl
 diff:=rfl
 ints:=fun k hk=>by
  obtain ⟨p,hp,hk1,rfl⟩:=Wd.1 hk
  obtain ⟨i,hi,e,e2⟩:=kw h p hp
  refine ⟨_,_,rfl,by rw [ji,e]; omega,?_⟩
  rcases e2 with ⟨_,_,_,g⟩ | ⟨g,_⟩
  ·exact g
  ·omega
 tests:=fun k hk=>by
  obtain ⟨p,hp,hk1,rfl⟩:=T9.1 hk
  obtain ⟨i,hi,e,e2⟩:=kw h p hp
  refine ⟨rfl,rfl,?_,?_⟩
  ·show 0<=p.1; omega
  ·show p.1 < _; rw [ji]; omega
 l1:=Nat.zero_le _
 l2:=by have:=G7 h; have:=Pq ((cs.zip vs).map (·.1)); rw [Zl] at this; show (Ee _).length<=_; omega
 l3:=by have:=G7 h; have:=Q7 iC1 (cs.zip vs); show ((cs.zip vs).map iC).flatten.length<=_; omega
 l4:=by have:=G7 h; have:=Q7 tC1 (cs.zip vs); show ((cs.zip vs).map tC).flatten.length<=_; omega
theorem Xg (h:RdT t cs vs):(jt (cs.zip vs)).Ok where
 nul:=Nat.zero_le _
 nn:=(Ld h).l2
 aux:=Nat.zero_le _
 ints:=(Ld h).l3
 tests:=(Ld h).l4
 same:=Nat.zero_le _
 diff:=Nat.zero_le _
 auxc:=fun a h=>absurd h (by simp [jt])
 intc:=fun a ha=>by
  obtain ⟨p,hp,hk1,rfl⟩:=Wd.1 ha
  simp
 tes:=fun a ha=>by
  obtain ⟨p,hp,hk1,rfl⟩:=T9.1 ha
  obtain ⟨i,hi,e,e2⟩:=kw h p hp
  rcases e2 with ⟨g,_⟩ | ⟨_,_,_,g,_⟩
  ·exact absurd g hk1
  ·show p.2.text_.size<=1000; omega
theorem Tq (h:RdT t cs vs):clB (jt (cs.zip vs)) (ap t)=true:=by
 have ha:∀ x∈(cs.zip vs).map (·.1),0<=x/\x < (((ap t).length:Nat):Int):=fun x hx=>by
  obtain ⟨p,hp,rfl⟩:=List.mem_map.1 hx
  obtain ⟨i,hi,e,_⟩:=kw h p hp
  rw [ji,e]; omega
 have a2:O0 (jt (cs.zip vs)).nn (ap t).length=true:=Sa (R9 ha)
 have hty:∀ i (hi:i < t.columns_.length),((ap t).getD i default).t=t.columns_[i].type_:=fun i hi=>by
  rw [bu (by rw [ji]; exact hi)]; simp [ap,wz]
 have a3:rq (jt (cs.zip vs)).ints.length (Od (jt (cs.zip vs)) (ap t))=true:=by
  rw [ld]
  intro j hj
  unfold Od
  rw [bu hj]
  obtain ⟨p,hp,hk1,e0⟩:=Wd.1 (Ze hj)
  obtain ⟨i,hi,e,e2⟩:=kw h p hp
  have hh:=N0 h hp
  rw [e0]
  show (!decide (fV ⟨-p.2.int_,[⟨p.1,1⟩]⟩ _ _ [] < 0))=true
  rcases e2 with ⟨_,_,g,g2⟩ | ⟨g,_⟩
  ·rw [e] at hh ⊢
   exact Ug (by rw [ji]; exact hi) ((hty i hi).trans g) g2 hh
  ·omega
 have a4:rq (jt (cs.zip vs)).tests.length (Nn (jt (cs.zip vs)) (ap t))=true:=by
  rw [ld]
  intro j hj
  unfold Nn
  rw [bu hj]
  obtain ⟨p,hp,hk1,e0⟩:=T9.1 (Ze hj)
  obtain ⟨i,hi,e,e2⟩:=kw h p hp
  have hh:=N0 h hp
  rw [e0]
  show (vd ⟨p.1,0,false,p.2.text_⟩&&vb p.1 _ _)=true
  rcases e2 with ⟨g,_⟩ | ⟨_,_,g1,g2,g3⟩
  ·exact absurd g hk1
  ·rw [e] at hh ⊢
   exact S5 (by rw [ji]; exact hi) ((hty i hi).trans g3) g1 g2 hh
 unfold clB
 rw [a2,a3,a4]
 rfl
theorem To (h:RdT t cs vs) (hv:∀ x∈ap t,Aw x=true) {tb n:Int} (h0:0<=tb) (hn:n=((t.columns_.length:Nat):Int)) (h1:1<=t.columns_.length) (h64:t.columns_.length<=64):F6 ⟨tb,n,ap t,[jt (cs.zip vs)]⟩ n=true:=by
 have hvl:=ji t
 subst hn
 have d:Ss (ap t)=true:=by
  unfold Ss
  have:rq (ap t).length (Sr (ap t))=true:=by
   rw [ld]; intro j hj
   unfold Sr; rw [bu hj]; exact hv _ (Ze _)
  rw [this]; simp; omega
 have b:Ag ⟨tb,((t.columns_.length:Nat):Int),ap t,[jt (cs.zip vs)]⟩ ((t.columns_.length:Nat):Int)=false:=by
  unfold Ag
  simp only [d]
  simp; omega
 unfold F6
 rw [b]
 have c:rq [jt (cs.zip vs)].length (Vc ⟨tb,((t.columns_.length:Nat):Int),ap t,[jt (cs.zip vs)]⟩)=true:=by
  rw [ld]; intro j hj
  obtain rfl:j=0:=by simp at hj; omega
  exact Tq h
 simp only [c]; rfl
/-- The clause holds in the rows that have the values. -/
theorem Cy (h:RdT t cs vs) {w:List GVal} (hw:n9 t w):HoldsS (jt (cs.zip vs)) w↔∀ i (h1:i < cs.length) (h2:i < vs.length),a8 w cs[i]=vs[i]:=by
 have hb:=Y7.2 hw
 have pr:∀ i (h1:i < cs.length) (h2:i < vs.length),(cs[i],vs[i])∈cs.zip vs:=fun i h1 h2=>by
  have hz:i < (cs.zip vs).length:=by rw [List.length_zip]; omega
  have:=Ze hz
  rwa [List.getElem_zip] at this
 constructor
 ·intro hh i h1 h2
  obtain ⟨p,hp,e1,e2⟩:=h.each i h1 h2
  have hpw:p < w.length:=by have:=hw.1; omega
  have er:a8 w cs[i]=w[p]:=by rw [e1,ia hpw]
  rw [er]
  rcases e2 with ⟨k,g1,_,_⟩ | ⟨k,g1,g2,g3,_⟩
  ·obtain ⟨v,m,e,z1,z2⟩:=hh.ints ⟨⟨-vs[i].int_,[⟨cs[i],1⟩]⟩,true⟩ (Wd.2 ⟨_,pr i h1 h2,k,rfl⟩)
   simp only [PCon.mk.injEq,PLin.mk.injEq,List.cons.injEq,PCoef.mk.injEq,and_true] at e
   obtain ⟨a1,a2⟩:=e
   subst a2
   rw [er] at z1 z2
   rcases um (Js hb hpw) with ⟨k',_⟩ | ⟨k',g',_⟩ | ⟨k',_⟩
   ·omega
   ·have e3:w[p].int_=vs[i].int_:=by omega
    generalize w[p]=a at *
    generalize vs[i]=b at *
    obtain ⟨ak,ai,at_⟩:=a
    obtain ⟨bk,bi,bt⟩:=b
    simp only at *
    subst k; subst k'; subst e3
    rw [Nm g' g1]
   ·omega
  ·obtain ⟨z1,z2⟩:=hh.tests ⟨cs[i],0,false,vs[i].text_⟩ (T9.2 ⟨_,pr i h1 h2,by show ¬ vs[i].kind_=1; omega,rfl⟩)
   have z1:(a8 w cs[i]).kind_=2:=z1
   have z2:(a8 w cs[i]).text_=vs[i].text_:=z2
   rw [er] at z1 z2
   rcases um (Js hb hpw) with ⟨k',_⟩ | ⟨k',_⟩ | ⟨k',g',_⟩
   ·omega
   ·omega
   ·generalize w[p]=a at *
    generalize vs[i]=b at *
    obtain ⟨ak,ai,at_⟩:=a
    obtain ⟨bk,bi,bt⟩:=b
    simp only at *
    subst k; subst k'; subst g1; subst g'; subst z2; rfl
 ·intro hh
  have pe:∀ p∈cs.zip vs,a8 w p.1=p.2:=fun p hp=>by
   obtain ⟨k,hk,rfl⟩:=List.getElem_of_mem hp
   have hk2:=hk
   rw [List.length_zip] at hk2
   rw [List.getElem_zip]
   exact hh k (by omega) (by omega)
  refine ⟨fun v hv=>absurd hv (by simp [jt]),fun v hv=>?_,fun k hk=>?_,fun k hk=>?_⟩
  ·obtain ⟨p,hp,rfl⟩:=List.mem_map.1 (Ls.1 hv)
   obtain ⟨i,hi,e,e2⟩:=kw h p hp
   unfold nnH
   rw [pe p hp]
   rcases e2 with ⟨g,_⟩ | ⟨g,_⟩ <;> omega
  ·obtain ⟨p,hp,hk1,rfl⟩:=Wd.1 hk
   exact ⟨_,_,rfl,by rw [pe p hp]; exact hk1,by rw [pe p hp]⟩
  ·obtain ⟨p,hp,hk1,rfl⟩:=T9.1 hk
   obtain ⟨i,hi,e,e2⟩:=kw h p hp
   refine ⟨?_,?_⟩
   ·show (a8 w p.1).kind_=2
    rw [pe p hp]
    rcases e2 with ⟨g,_⟩ | ⟨g,_⟩
    ·exact absurd g hk1
    ·exact g
   ·show (a8 w p.1).text_=p.2.text_
    rw [pe p hp]
end
theorem Lc {t:GTab} {cs:List Int} {vs w:List GVal} (h:RdT t cs vs):(Bel (ap t) w/\∃ c∈[jt (cs.zip vs)],HoldsS c w)↔n9 t w/\∀ i (h1:i < cs.length) (h2:i < vs.length),a8 w cs[i]=vs[i]:=by
 constructor
 ·rintro ⟨g,c,hc,g2⟩
  rw [Zj.1 hc] at g2
  exact ⟨Y7.1 g,(Cy h (Y7.1 g)).1 g2⟩
 rintro ⟨g,g2⟩
 exact ⟨Y7.2 g,_,Zj.2 rfl,(Cy h g).2 g2⟩
theorem Ez {A:Prop} {b:Bool} (h:b=true) (h2:(!b)=true):A:=by rw [h] at h2; cases h2
theorem Jd {s:List GTab} {c:GChg} (hss:SchS s) (hc:O6 s c):(Fc s c).length<=500:=by
 obtain ⟨j,hj,hjs,_⟩:=hc
 have htb:=hss.tab _ (Ze hjs)
 have h2:=htb.sm.keys
 have h3:=htb.sm.fors
 have hs4:=hss.len
 have eT:s.getD c.table_.toNat default=s[j]:=by rw [hj,Int.toNat_natCast,gD hjs]
 unfold Fc
 rw [eT,Zi,Zi]
 have a1:=wh (c:=c) (K:=s[j].keys_) s[j].keys_.length
 have a2:=wn (s:=s) (c:=c) (F:=s[j].foreign_) s[j].foreign_.length
 have a3:=we (s:=s) (c:=c) (K:=s[j].keys_) (R:=gl s c.table_) s[j].keys_.length
 have a4:(gl s c.table_).length<=40:=by
  have:=m8 (t:=c.table_) (fun x hx=>(hss.tab x hx).sm.fors) s.length
  unfold gl; omega
 have a5:((gl s c.table_).length+1) * s[j].keys_.length<=41 * 10:=Nat.mul_le_mul (by omega) h2
 omega
theorem Dx {s:List GTab} (hss:SchS s):∀ {l:List GChg},(∀ c∈l,O6 s c)->(ka s l).length<=500 * l.length
 | [],_=>Nat.le_refl _
 | c :: l,h=>by
  have h1:=Dx hss (fun x hx=>h x (List.mem_cons_of_mem _ hx):∀ x∈l,O6 s x)
  have h2:=Jd hss (h c (List.mem_cons_self ..))
  have e:ka s (c :: l)=Fc s c++ka s l:=by simp [ka]
  rw [e,Zi,List.length_cons]; omega
theorem conD {b c:Bool} {P:Prop} (h:b=true↔P) (h2:c=true↔P) (h3:(b != c)=true):False:=by
 have:b=true↔c=true:=h.trans h2.symm
 cases b <;> cases c <;> simp_all
theorem Tp {t:GTab} {cs:List Int} {vs:List GVal} (h:RdT t cs vs):bw vs (fun y=>FitVal y):=by
 refine ⟨by have:=h.len; have:=h.le; omega,fun y hy=>?_⟩
 obtain ⟨i,hi,rfl⟩:=List.getElem_of_mem hy
 obtain ⟨p,hp,_,e⟩:=h.each i (by have:=h.len; omega) hi
 refine ⟨?_⟩
 rcases e with ⟨_,g,_⟩ | ⟨_,_,_,g,_⟩
 ·have:vs[i].text_=⟨#[]⟩:=Nm g (by simp [ey])
  rw [this]; decide
 show _<=_; omega
theorem G6 {s:KW (List GVal)} {c:GChg} (h1:∀ y∈s.L,bw y (fun z=>FitVal z)) (hc:FitChg c) (h2:0 < s.L.length) (h3:s.L.length<=2 * s.k+1) (h4:1048576<=s.v):(∀ y∈s.L++[c.old_,c.new_],bw y (fun z=>FitVal z))/\0 < (s.L++[c.old_,c.new_]).length/\(s.L++[c.old_,c.new_]).length<=2 * (s.k+1)+1/\1048576<=s.v+1:=by
 refine ⟨fun y hy=>?_,by simp,by simp; omega,by omega⟩
 rcases Zk.1 hy with hy | hy
 ·exact h1 y hy
 rcases List.mem_cons.1 hy with rfl | hy
 ·exact hc.old_
 rw [Zj.1 hy]; exact hc.new_
theorem by26:(Tryz.prog.info? 26).map (·.bytes)=some 24:=by kernel_rfl
theorem sz26:aa Tryz.prog 26=some 1:=by kernel_rfl
theorem zr26:ax Tryz.prog 26=some (.slice none 0 0):=by kernel_rfl
theorem lawCon_p (s:List GTab) (hs:bw s (fun y=>FitTab y)) (l:List GChg) (hl:bw l (fun y=>FitChg y)) (o:List GVal) (ho:bw o (fun y=>FitVal y)) (haw:PRet Tryz.prog 5 [] (fun r=>r=.v (.bool true))):PRet Tryz.prog 4 [.tree 5 (s.map ef),.tree 4 (l.map o6),.tree 3 (o.map gvA)] (fun r=>r=.v (.bool true)):=by
 refine PRet.of_vc ao [71,84] [17] Tryz.func4 rfl Tryz.ntmps4 rfl (by kernel_rfl) ?_
 refine ArgG.mk (haw) rfl ?_
 rintro _ rfl
 refine cF (ArgG.mk (Eg s hs) rfl ?_)
 rintro _ ⟨b1,rfl,hb1⟩
 refine cB (fun hg23=>?_) (fun hg23=>?_)
 ·refine cT (ArgG.mk (haw) rfl ?_)
  rintro _ rfl
  exact rV Tryz.results4 rfl rfl
 have hss0:=hb1 (nb hg23)
 refine ArgG.mk (K5 s hs l hl hss0) rfl ?_
 rintro _ ⟨b3,rfl,hb3⟩
 refine cB (fun hc28=>?_) (fun hc28=>?_)
 ·refine ArgG.mk (haw) rfl ?_
  rintro _ rfl
  exact rV Tryz.results4 rfl rfl
 have hrs0:=hb3 (nb hc28)
 have hcn:=Dx hss0 hrs0.2
 have hl6:=hrs0.1
 refine ArgG.mk (U9 s hs l hl hss0 hrs0.2 hrs0.1) rfl ?_
 rintro _ rfl
 refine ArgG.mk (Rp s hs l hl hss0 hrs0.2 hrs0.1) rfl ?_
 rintro _ rfl
 refine LenG.of (LenG.of ?_)
 refine cB (fun hc40=>?_) (fun hc40=>?_)
 ·exfalso; simp at hc40
 have hq40:(((((ka s l).map (rdS s))).length:Nat):Int)=((((ka s l)).length:Nat):Int):=by simp
 refine LenG.of (LpG.on (fun k0:Nat=>(⟨fL [(0,.tree 5 (s.map ef)),(1,.tree 4 (l.map o6)),(2,.tree 3 (o.map gvA)),(7,.tree 5 ((((ka s l).map (rdS s))).map acA)),(41,.tree 3 (((ka s l)).map rdA)),(42,.v (.int .i64 ((((ka s l)).length:Nat):Int))),(43,.v (.int .i64 ((k0:Nat):Int)))],bl [],0⟩:St)) (fun k0=>(((ka s l)).length - k0)) (fun k0=>(k0<=((ka s l)).length)) 0 (cO (.cons rfl rfl (.cons rfl rfl (.cons rfl rfl (.cons rfl rfl (.cons rfl rfl (.cons rfl rfl (.cons rfl rfl .nil))))))) .nil) (Nat.zero_le _) ?_)
 rintro k0 hinv
 have hle_k0:=hinv
 refine cL (fun hlt44=>?_) (fun hge44=>?_)
 ·have hkm:k0 < ((ka s l).map (rdS s)).length:=by rw [Zl]; exact hlt44
  obtain ⟨j1,hj1,hjs,hrd⟩:=U8 hss0 hrs0.2 _ (Ze hlt44)
  have htb:=hss0.tab _ (Ze hjs)
  have hto:=htb.to
  have hc5:=htb.c5
  have hc1:=htb.c1
  have hvl:=ji s[j1]
  have hl6:=hrs0.1
  have hge:((ka s l).map (rdS s))[k0]=⟨false,⟨(ka s l)[k0].table_,((s[j1].columns_.length:Nat):Int),ap s[j1],[jt ((ka s l)[k0].columns_.zip (ka s l)[k0].values_)]⟩⟩:=(List.getElem_map _).trans (vz hj1 hjs).symm
  have hxf:FitRd (ka s l)[k0]:=⟨⟨by have:=hrd.le; omega,fun _ _=>trivial⟩,Tp hrd⟩
  have hxc:∀ c∈(ka s l)[k0].columns_,0<=c/\c < s[j1].columns_.length:=fun c hc=>by obtain ⟨i,hi,rfl⟩:=List.getElem_of_mem hc; obtain ⟨p,hp,e,_⟩:=hrd.each i hi (by have:=hrd.len; omega); omega
  refine IdxG.of (by assumption) (IdxG.of (by assumption) ?_)
  refine ArgG.mk (Mj ((ka s l).map (rdS s))[k0] s hs (ka s l)[k0].table_ false j1 hj1 hjs (by rw [hge]; exact ⟨by show (ap s[j1]).length<=_; omega,by simp,fun c hc=>by rw [Zj.1 hc]; exact Xg hrd⟩)) rfl ?_
  rintro _ ⟨b7,rfl,hb7⟩
  have hbt7:b7=true:=hb7.2 (by rw [hge]; exact ⟨rfl,rfl,To hrd htb.vars (by omega) rfl (by omega) (by omega)⟩)
  refine ⟨by kernel_rfl,?_⟩
  refine cB (fun hc56=>?_) (fun hc56=>?_)
  ·exact Ez (by assumption) hc56
  refine LenG.of (LpG.on (fun k2:KW (List GVal)=>(⟨fL [(0,.tree 5 (s.map ef)),(1,.tree 4 (l.map o6)),(2,.tree 3 (o.map gvA)),(7,.tree 5 ((((ka s l).map (rdS s))).map acA)),(9,.v (.int .i64 ((k0:Nat):Int))),(10,.ptr 0 0 0),(11,.sl 1 k2.v 0 k2.L.length),(41,.tree 3 (((ka s l)).map rdA)),(42,.v (.int .i64 ((((ka s l)).length:Nat):Int))),(43,.v (.int .i64 ((k0:Nat):Int))),(59,.tree 4 (l.map o6)),(60,.v (.int .i64 ((l.length:Nat):Int))),(61,.v (.int .i64 ((k2.k:Nat):Int)))],bl [(0,⟨0,rdA (ka s l)[k0],0,false⟩),(1,⟨k2.v,rF (fun l=>[.tree 3 (l.map gvA)]) k2.L,1,Nat.beq k2.L.length 0⟩)],2⟩:St)) (fun k2=>(l.length - k2.k)) (fun k2=>(k2.k<=l.length/\((∀ y∈k2.L,bw y (fun z=>FitVal z))/\0 < k2.L.length/\k2.L.length<=2 * k2.k+1/\1048576<=k2.v))) (⟨0,[o],TV⟩:KW (List GVal)) (cO (.cons rfl rfl (.cons rfl rfl (.cons rfl rfl (.cons rfl rfl (.cons rfl rfl (.cons rfl rfl (.cons (by rfl) rfl (.cons rfl rfl (.cons rfl rfl (.cons rfl rfl (.cons rfl rfl (.cons rfl rfl (.cons rfl rfl .nil))))))))))))) (.cons rfl rfl rfl (.cons (by rfl) rfl (ag pk _ _) .nil))) ⟨Nat.zero_le _,⟨fun y hy=>by rw [Zj.1 hy]; exact ho,Nat.zero_lt_one,Nat.le_refl _,Nat.le_refl _⟩⟩ ?_)
  rintro k2 hinv
  have hgr_k2:l.length<=140737488355328:=hl.1
  obtain ⟨hle_k2,hi_k2⟩:=hinv
  refine cL (fun hlt62=>?_) (fun hge62=>?_)
  ·have hcf:=hl.2 _ (Ze hlt62)
   obtain ⟨hz1,hz2,hz3,hz4⟩:=hi_k2
   refine IdxG.of (by assumption) (OpG.mk _ _ _ 4 (m0 pk (l:=k2.L) (l':=[l[k2.k].old_,l[k2.k].new_]) Tryz.underlying24 sz26 zr26 by26 rfl rfl rfl hz2 rfl rfl (by simp only [List.length_cons,List.length_nil]; omega) (by simp only [List.length_cons,List.length_nil]; omega) (by unfold TV; omega)) rfl rfl ?_)
   refine ⟨by omega,?_⟩
   refine ⟨(⟨k2.k+1,k2.L++[l[k2.k].old_,l[k2.k].new_],k2.v+1⟩:KW (List GVal)),(by show l.length - (k2.k+1) < l.length - k2.k; omega),(cO (.cons rfl rfl (.cons rfl rfl (.cons rfl rfl (.cons rfl rfl (.cons rfl rfl (.cons rfl rfl (.cons (by rfl) rfl (.cons rfl rfl (.cons rfl rfl (.cons rfl rfl (.cons rfl rfl (.cons rfl rfl (.cons rfl rfl .nil))))))))))))) (.cons rfl rfl rfl (.cons (by rfl) rfl (ag pk _ _) .nil))),?_⟩
   refine ⟨by show k2.k+1<=_; omega,?_⟩
   exact G6 hz1 hcf hz2 hz3 hz4
  have hz3:=hi_k2.2.2.1
  refine RegG.via (fun _ h=>fg [1] 11 (.tree 1 (k2.L.map (fun l=>[.tree 3 (l.map gvA)]))) (FzP.rows pk (Zj.2 rfl) rfl) rfl h) ?_
  refine cr ?_
  refine LenG.of (LpG.on (fun k4:Nat=>(⟨fL [(0,.tree 5 (s.map ef)),(1,.tree 4 (l.map o6)),(2,.tree 3 (o.map gvA)),(7,.tree 5 ((((ka s l).map (rdS s))).map acA)),(9,.v (.int .i64 ((k0:Nat):Int))),(10,.ptr 0 0 0),(41,.tree 3 (((ka s l)).map rdA)),(42,.v (.int .i64 ((((ka s l)).length:Nat):Int))),(43,.v (.int .i64 ((k0:Nat):Int))),(73,.tree 1 (k2.L.map (fun l=>[.tree 3 (l.map gvA)]))),(74,.v (.int .i64 ((k2.L.length:Nat):Int))),(75,.v (.int .i64 ((k4:Nat):Int)))],bl [(0,⟨0,rdA (ka s l)[k0],0,false⟩)],2⟩:St)) (fun k4=>(k2.L.length - k4)) (fun k4=>(k4<=k2.L.length)) 0 (cO (.cons rfl rfl (.cons rfl rfl (.cons rfl rfl (.cons rfl rfl (.cons rfl rfl (.cons rfl rfl (.cons rfl rfl (.cons rfl rfl (.cons rfl rfl (.cons rfl rfl (.cons rfl rfl (.cons rfl rfl .nil)))))))))))) (.cons rfl rfl rfl .nil)) (Nat.zero_le _) ?_)
  rintro k4 hinv
  have hle_k4:=hinv
  refine cL (fun hlt76=>?_) (fun hge76=>?_)
  ·refine IdxG.of (by assumption) (LenG.of ?_)
   refine OpG.lk (ah Tryz.underlying23 sy rfl rfl hj1 hjs) ?_
   refine LenG.of (cE (fun hq89=>?_) (fun hq89=>?_))
   ·refine IdxG.of (by assumption) (ArgG.mk (Hy ((ka s l).map (rdS s))[k0].p k2.L[k4] (hi_k2.1 _ (Ze hlt76)) (by rw [hge]; exact (by show ((s[j1].columns_.length:Nat):Int)=(((ap s[j1]).length:Nat):Int); rw [hvl])) (by rw [hge]; exact wy hto.cl) (by rw [hge]; exact hto.lk) (by rw [hge]; exact (fun c hc=>by rw [Zj.1 hc]; exact Ld hrd)) (by rw [hge]; exact (by simp))) rfl ?_)
    rintro _ ⟨b8,rfl,hb8⟩
    rw [hge] at hb8
    have hm8:=hb8.trans (Lc hrd)
    clear hb8
    refine ArgG.mk (Uk (ka s l)[k0] hxf s hs k2.L[k4] (hi_k2.1 _ (Ze hlt76)) j1 hj1 hjs hto hxc hrd.len) rfl ?_
    rintro _ ⟨b9,rfl,hb9⟩
    refine ⟨by kernel_rfl,?_⟩
    refine cB (fun hc104=>?_) (fun hc104=>?_)
    ·exact (conD (by assumption) (by assumption) hc104).elim
    refine ⟨by omega,?_⟩
    refine ⟨(k4+1),by omega,(cO (.cons rfl rfl (.cons rfl rfl (.cons rfl rfl (.cons rfl rfl (.cons rfl rfl (.cons rfl rfl (.cons rfl rfl (.cons rfl rfl (.cons rfl rfl (.cons rfl rfl (.cons rfl rfl (.cons rfl rfl .nil)))))))))))) (.cons rfl rfl rfl .nil)),?_⟩
    omega
   refine ⟨by kernel_rfl,?_⟩
   refine cF ⟨by omega,⟨(k4+1),by omega,(cO (.cons rfl rfl (.cons rfl rfl (.cons rfl rfl (.cons rfl rfl (.cons rfl rfl (.cons rfl rfl (.cons rfl rfl (.cons rfl rfl (.cons rfl rfl (.cons rfl rfl (.cons rfl rfl (.cons rfl rfl .nil)))))))))))) (.cons rfl rfl rfl .nil)),?_⟩⟩
   omega
  refine ⟨by omega,?_⟩
  refine ⟨(k0+1),by omega,(cO (.cons rfl rfl (.cons rfl rfl (.cons rfl rfl (.cons rfl rfl (.cons rfl rfl (.cons rfl rfl (.cons rfl rfl .nil))))))) .nil),?_⟩
  omega
 exact rV Tryz.results4 rfl rfl
open Go.RowKit Go.ChangeShapes Go.WideShapes Go.Deep
set_option maxRecDepth 100000
def LtB (n:Nat):Nat->Prop:=fun k=>k < n
/-- Cells read as plain values. -/
def TRL (T:Nat->Prop) (w:World) (xs:List AV) (cs:List Value):Prop:=xs.length=cs.length/\∀ i (h:i < xs.length) (h':i < cs.length),TR T w xs[i] cs[i]
theorem TRL.one {T:Nat->Prop} {w:World} {a:AV} {x:Value} (h:TR T w a x):TRL T w [a] [x]:=⟨rfl,fun i h1 h2=>by
 have:i=0:=by simp at h1; omega
 subst this; exact h⟩
theorem TRL.append {T:Nat->Prop} {w:World} {xs ys:List AV} {cs ds:List Value} (h1:TRL T w xs cs) (h2:TRL T w ys ds):TRL T w (xs++ys) (cs++ds):=by
 refine ⟨by simp [h1.1,h2.1],fun i h h'=>?_⟩
 have e:=h1.1
 by_cases hi:i < xs.length
 ·rw [List.getElem_append_left hi,List.getElem_append_left (by omega)]
  exact h1.2 i hi (by omega)
 rw [List.getElem_append_right (by omega),List.getElem_append_right (by omega)]
 simp only [<- e]
 exact h2.2 _ _ _
theorem TRL.done {T:Nat->Prop} {w:World} {cs:List Value} {n:Nat} (h:cs.length=n):TRL T w [] (cs.drop n):=by
 rw [<- h,List.drop_length]; exact ⟨rfl,fun i h=>absurd h (by simp)⟩
theorem bo {T:Nat->Prop} {w:World} {xs ys:List AV} {cs:List Value} {o m:Nat} (h1:TRL T w xs ((cs.drop o).take m)) (h2:TRL T w ys (cs.drop (o+m))):TRL T w (xs++ys) (cs.drop o):=by
 have:=h1.append h2
 rwa [<- List.drop_drop,List.take_append_drop] at this
theorem TRL.val {T:Nat->Prop} {w:World} {cs:List Value} {x:Value} (h:cs=[x]):TRL T w [.v x] cs:=by rw [h]; exact .one (.v x)
/-- Whatever type t's cells read as, within the reach, they read as some 'a'. -/
def J3 {α:Type} (P:Program) (R:α->List AV) (Wf:α->Prop) (t:TypeId) (N:Nat):Prop :=
 ∀ {H:Type} (enc:TypeId×Value->H) (W:World) (fuel:Nat) (cs:List Value) (d:DataW H) (ps:List MemPlace),fuel<=N ->
  DataW.trod enc P W 0 (fun _=>true) true fuel t cs=some (d,ps)->(∀ m∈d.weights P t,m<=140737488351232)->∃ a,Wf a/\TRL (LtB W.heap.size) W (R a) cs
def kp {α:Type} (P:Program) (R:α->List AV) (Wf:α->Prop) (t:TypeId):Prop :=
 ∀ {H:Type} (enc:TypeId×Value->H) (W:World) (fuel:Nat) (cs:List Value) (d:DataW H) (ps:List MemPlace),
  DataW.trod enc P W 0 (fun _=>true) true fuel t cs=some (d,ps)->(∀ m∈d.weights P t,m<=140737488351232)->∃ a,Wf a/\TRL (LtB W.heap.size) W (R a) cs
theorem kp.f {α:Type} {P:Program} {R:α->List AV} {Wf:α->Prop} {t:TypeId} (h:kp P R Wf t) (N:Nat):J3 P R Wf t N:=fun enc W fuel cs d ps _ h1 h2=>h enc W fuel cs d ps h1 h2
theorem kp.of {α:Type} {P:Program} {R:α->List AV} {Wf:α->Prop} {t:TypeId} (h:∀ N,J3 P R Wf t N):kp P R Wf t:=fun enc W fuel cs d ps h1 h2=>h fuel enc W fuel cs d ps (Nat.le_refl _) h1 h2
theorem ny {H:Type} {P:Program} {e:TypeId}:∀ {ds:List (DataW H)} {d:DataW H},d∈ds->∀ m∈d.weights P e,m∈DataW.weightsAll P e ds
 | x :: r,d,h,m,hm=>by
  simp only [DataW.weightsAll,Zk]
  rcases List.mem_cons.1 h with rfl | h
  ·exact .inl hm
  ·exact .inr (ny h m hm)
theorem Fh {α:Type} [Inhabited α] {m:Nat} {p:Nat->α->Prop} (h:∀ i,i < m->∃ y,p i y):∃ f:Nat->α,∀ i,i < m->p i (f i):=by
 refine ⟨fun i=>if h':i < m then Classical.choose (h i h') else default,fun i hi=>?_⟩
 simp only [hi,dif_pos]
 exact Classical.choose_spec (h i hi)
theorem J3.slice {α:Type} {P:Program} {R:α->List AV} {Wf:α->Prop} {t e q N:Nat} (hR:J3 P R Wf e N) (ht:P.underlying t=some (.slice e)) (hn:P.cellsOf e=q) (hq:∀ a,Wf a->(R a).length=q) (hpos:1<=q) (hb:1<=P.bytesOf e) :
  J3 P (fun l:List α=>[.tree q (l.map R)]) (fun l=>l.length<=140737488355328/\∀ a∈l,Wf a) t (N+1):=by
 intro H enc W fuel cs d ps hN h hw
 rcases DataW.trod_slice ht h with ⟨rfl,_⟩ | ⟨a,len,m,elems,rest,n,hfu,rfl,hx,_,hl,hm,hel,hi,_,_⟩
 ·exact ⟨[],⟨Nat.zero_le _,fun a h=>by cases h⟩,.one (.tree0 (Nat.zero_le _))⟩
 simp only [Prod.mk.injEq] at hx
 obtain ⟨rfl,_⟩:=hx
 simp only [DataW.weights,ht,Zl,List.mem_cons,Zk] at hw
 have hcap:=hw _ (.inl rfl)
 rw [hel] at hcap
 have hlen:len<=140737488355328:=by
  have:len * 1<=(len+rest.length) * P.bytesOf e:=Nat.mul_le_mul (by omega) hb
  omega
 have hex:∀ i,i < len->∃ (y:α×List Value),(Wf y.1/\TRL (LtB W.heap.size) W (R y.1) y.2)/\W.cells? 0 (a.add (i * P.cellsOf e)) (P.cellsOf e)=some y.2:=by
  intro i hil
  have h1:=hi i hil
  have hil':i < elems.length:=by omega
  rw [Zf hil'] at h1
  obtain ⟨cs',hc,ht'⟩:=Option.bind_eq_some_iff.1 h1
  obtain ⟨y,hy⟩:=hR enc W n cs' elems[i].1 elems[i].2 (by omega) ht' (fun j hj=>hw j (.inr (.inl (ny (List.mem_map.2 ⟨elems[i],Ze _,rfl⟩) j hj))))
  exact ⟨(y,cs'),hy,hc⟩
 by_cases h0:len=0
 ·subst h0
  exact ⟨[],⟨Nat.zero_le _,fun a h=>by cases h⟩,.one (.tree0 hm)⟩
 obtain ⟨y0,hy0⟩:=hex 0 (by omega)
 have:Inhabited (α×List Value):=⟨y0⟩
 obtain ⟨f,hf⟩:=Fh hex
 obtain ⟨b,off,spot⟩:=a
 have hc0:=World.cells?_some hy0.2
 have hcell0:=hc0.2.2 0 (by rw [hn]; exact hpos)
 have hsome:∃ v0,W.cell? ((⟨b,off,spot⟩:Addr).add (0 * P.cellsOf e))=some v0:=by
  have hlen0:0 < y0.2.length:=by rw [hc0.2.1,hn]; exact hpos
  refine ⟨y0.2[0],?_⟩
  have:=hcell0
  rw [Zf hlen0] at this
  simpa [Addr.add] using this
 obtain ⟨v0,hv0⟩:=hsome
 have hspot:spot=none:=by simpa [Addr.add] using World.cell?_spot hv0
 subst hspot
 have hblk:b < W.heap.size:=by
  have:=World.block_lt_of_cell? W _ hv0
  simpa [Addr.add] using this
 refine ⟨(List.range len).map fun i=>(f i).1,⟨by simpa using hlen,fun a ha=>?_⟩,.one ?_⟩
 ·obtain ⟨i,hi',rfl⟩:=List.mem_map.1 ha
  exact (hf i (by simpa using hi')).1.1
 have hlr:(((List.range len).map fun i=>(f i).1).map R).length=len:=by simp
 have hrow:∀ k (h:k < (((List.range len).map fun i=>(f i).1).map R).length),(((List.range len).map fun i=>(f i).1).map R)[k]=R (f k).1:=fun k h=>by simp
 have hT:=TR.tree (T:=LtB W.heap.size) (w:=W) (n:=q) (xs:=((List.range len).map fun i=>(f i).1).map R) (b:=b) (off:=off) (cap:=m) (fun k j=>(f k).2.getD j undef) hblk (by rw [hlr]; exact hl) hm (by rw [hlr]; exact hlen)
  (fun k h=>by rw [hrow k h]; exact hq _ (hf k (by rw [hlr] at h; exact h)).1.1)
  (fun k j hk hj=>by
   rw [hlr] at hk
   have hck:=World.cells?_some (hf k hk).2
   have hjl:j < P.cellsOf e:=by rw [hn]; exact hj
   have hg:=hck.2.2 j hjl
   rw [add_add,hn] at hg
   have hl2:j < (f k).2.length:=by rw [hck.2.1]; exact hjl
   have e1:(⟨b,off,none⟩:Addr).add (k * q+j)=⟨b,off+k * q+j,none⟩:=by
    by_cases hz:k * q+j=0
    ·have h1:k * q=0:=by omega
     have h2:j=0:=by omega
     rw [h1,h2]; simp [Addr.add]
    ·unfold Addr.add
     rw [if_neg hz]
     simp [Nat.add_assoc]
   rw [<- e1,hg]
   simp [List.getD,hl2])
  (fun k h j h'=>by
   have hk:k < len:=by rw [hlr] at h; exact h
   have hr:=(hf k hk).1.2
   have hjr:j < (R (f k).1).length:=by rw [hrow k h] at h'; exact h'
   have hl2:j < (f k).2.length:=by rw [<- hr.1]; exact hjr
   have:=hr.2 j hjr hl2
   simp only [hrow k h]
   rw [bu hl2]
   exact this)
 rw [hlr] at hT
 exact hT
theorem kp.slice {α:Type} {P:Program} {R:α->List AV} {Wf:α->Prop} {t e q:Nat} (hR:kp P R Wf e) (ht:P.underlying t=some (.slice e)) (hn:P.cellsOf e=q) (hq:∀ a,(R a).length=q) (hpos:1<=q) (hb:1<=P.bytesOf e) :
  kp P (fun l:List α=>[.tree q (l.map R)]) (fun l=>l.length<=140737488355328/\∀ a∈l,Wf a) t:=kp.of fun N=>fun enc W fuel cs d ps hN h1 h2=>J3.slice (hR.f N) ht hn (fun a _=>hq a) hpos hb enc W fuel cs d ps (by omega) h1 h2
/-- A struct, field by field. -/
theorem fd {P:Program} {t:TypeId} {fs:Array Field} (ht:P.underlying t=some (.struct fs)) {H:Type} {enc:TypeId×Value->H} {W:World} {fuel:Nat} {cs:List Value} {d:DataW H} {ps:List MemPlace}
  (h:DataW.trod enc P W 0 (fun _=>true) true fuel t cs=some (d,ps)) (hw:∀ m∈d.weights P t,m<=140737488351232) :
  ∃ n,fuel=n+1/\cs.length=P.cellsOf t/\∀ (i:Nat) (f:Field),fs[i]? = some f ->
   ∃ (d':DataW H) (ps':List MemPlace),DataW.trod enc P W 0 (fun _=>true) true n f.type ((cs.drop f.offset).take (P.cellsOf f.type))=some (d',ps')/\∀ q∈d'.weights P f.type,q<=140737488351232:=by
 obtain ⟨xs,n,hfu,hx,hlen,hxl,hf⟩:=DataW.trod_struct ht h
 simp only [Prod.mk.injEq] at hx
 obtain ⟨rfl,_⟩:=hx
 refine ⟨n,hfu,hlen,fun i f hi=>?_⟩
 have hil:i < fs.size:=(Array.getElem?_eq_some_iff.1 hi).1
 have hx':xs[i]? = some (xs[i]'(by omega)):=Zf (by omega)
 have h1:=hf i f hi
 rw [hx'] at h1
 refine ⟨_,_,h1,fun q hq=>hw q ?_⟩
 simp only [DataW.weights,ht]
 refine DataW.weights_mem_each (j:=i) (t:=f.type) (d:=(xs[i]'(by omega)).1) ?_ ?_ q hq
 ·simp only [List.getElem?_map,Array.getElem?_toList,hi,Option.map_some]
 simp only [List.getElem?_map,hx',Option.map_some]
theorem d4 {P:Program} {t:TypeId} (ht:P.underlying t=some (.int .i64)):kp P iA (fun x=>-9223372036854775808<=x/\x<=9223372036854775807) t:=by
 intro H enc W fuel cs d ps h hw
 obtain ⟨x,h1,_,h2⟩:=DataW.trod_int ht h
 exact ⟨x,bounds_i64 h2,.val h1⟩
theorem En {P:Program} {t:TypeId} (ht:P.underlying t=some .bool):kp P (fun b:Bool=>[.v (.bool b)]) (fun _=>True) t:=by
 intro H enc W fuel cs d ps h hw
 obtain ⟨x,h1,_⟩:=DataW.trod_bool ht h
 exact ⟨x,trivial,.val h1⟩
theorem mf {P:Program} {t:TypeId} (ht:P.underlying t=some .string):kp P (fun s:ByteArray=>[.v (.string s)]) (fun s=>s.size<=140737488351232) t:=by
 intro H enc W fuel cs d ps h hw
 obtain ⟨x,h1,h2,_⟩:=DataW.trod_string ht h
 simp only [Prod.mk.injEq] at h2
 obtain ⟨rfl,_⟩:=h2
 refine ⟨x,?_,.val h1⟩
 have:=hw x.data.toList.length (by simp [DataW.weights])
 have e:x.data.toList.length=x.size:=by simp
 omega
theorem oVal:kp Tryz.prog gvA FitVal 45:=by
 intro H enc W fuel cs d ps h hw
 obtain ⟨n,hn,hlen,hf⟩:=fd Tryz.underlying45 h hw
 rw [show Tryz.prog.cellsOf 45=3 by kernel_rfl] at hlen
 obtain ⟨_,_,h0,w0⟩:=hf 0 _ rfl
 obtain ⟨x0,r0,e0⟩:=(d4 Tryz.underlying3) enc W _ _ _ _ h0 w0
 change TRL _ _ _ (List.take (Tryz.prog.cellsOf 3) (List.drop 0 cs)) at e0
 rw [show Tryz.prog.cellsOf 3=1 by kernel_rfl] at e0
 obtain ⟨_,_,h1,w1⟩:=hf 1 _ rfl
 obtain ⟨x1,r1,e1⟩:=(d4 Tryz.underlying2) enc W _ _ _ _ h1 w1
 change TRL _ _ _ (List.take (Tryz.prog.cellsOf 2) (List.drop 1 cs)) at e1
 rw [show Tryz.prog.cellsOf 2=1 by kernel_rfl] at e1
 obtain ⟨_,_,h2,w2⟩:=hf 2 _ rfl
 obtain ⟨x2,r2,e2⟩:=(mf Tryz.underlying9) enc W _ _ _ _ h2 w2
 change TRL _ _ _ (List.take (Tryz.prog.cellsOf 9) (List.drop 2 cs)) at e2
 rw [show Tryz.prog.cellsOf 9=1 by kernel_rfl] at e2
 have hh:=(bo (o:=0) (m:=1) e0 (bo (o:=1) (m:=1) e1 (bo (o:=2) (m:=1) e2 (TRL.done hlen))))
 exact ⟨⟨x0,x1,x2⟩,⟨r2⟩,hh⟩
theorem oExF:∀ N,J3 Tryz.prog rwA IsEx 47 N:=by
 intro N
 induction N with
 | zero=>
  intro H enc W fuel cs d ps hN h hw
  obtain ⟨n,e,_⟩:=fd Tryz.underlying47 h hw
  omega
 | succ N ih=>
 intro H enc W fuel cs d ps hN h hw
 obtain ⟨n,hn,hlen,hf⟩:=fd Tryz.underlying47 h hw
 rw [show Tryz.prog.cellsOf 47=8 by kernel_rfl] at hlen
 obtain ⟨_,_,h0,w0⟩:=hf 0 _ rfl
 obtain ⟨x0,r0,e0⟩:=(d4 Tryz.underlying3) enc W _ _ _ _ h0 w0
 change TRL _ _ _ (List.take (Tryz.prog.cellsOf 3) (List.drop 0 cs)) at e0
 rw [show Tryz.prog.cellsOf 3=1 by kernel_rfl] at e0
 obtain ⟨_,_,h1,w1⟩:=hf 1 _ rfl
 obtain ⟨x1,r1,e1⟩:=(mf Tryz.underlying9) enc W _ _ _ _ h1 w1
 change TRL _ _ _ (List.take (Tryz.prog.cellsOf 9) (List.drop 1 cs)) at e1
 rw [show Tryz.prog.cellsOf 9=1 by kernel_rfl] at e1
 obtain ⟨_,_,h2,w2⟩:=hf 2 _ rfl
 obtain ⟨x2,r2,e2⟩:=(mf Tryz.underlying9) enc W _ _ _ _ h2 w2
 change TRL _ _ _ (List.take (Tryz.prog.cellsOf 9) (List.drop 2 cs)) at e2
 rw [show Tryz.prog.cellsOf 9=1 by kernel_rfl] at e2
 obtain ⟨_,_,h3,w3⟩:=hf 3 _ rfl
 obtain ⟨x3,r3,e3⟩:=(d4 Tryz.underlying3) enc W _ _ _ _ h3 w3
 change TRL _ _ _ (List.take (Tryz.prog.cellsOf 3) (List.drop 3 cs)) at e3
 rw [show Tryz.prog.cellsOf 3=1 by kernel_rfl] at e3
 obtain ⟨_,_,h4,w4⟩:=hf 4 _ rfl
 obtain ⟨x4,r4,e4⟩:=(oVal) enc W _ _ _ _ h4 w4
 change TRL _ _ _ (List.take (Tryz.prog.cellsOf 45) (List.drop 4 cs)) at e4
 rw [show Tryz.prog.cellsOf 45=3 by kernel_rfl] at e4
 obtain ⟨_,_,h5,w5⟩:=hf 5 _ rfl
 obtain ⟨x5,r5,e5⟩:=(J3.slice ih Tryz.underlying33 (show Tryz.prog.cellsOf 47=8 by kernel_rfl) (fun a h=>by cases h; rfl) (by decide) (Nat.le_of_ble_eq_true (by kernel_rfl))) enc W _ _ _ _ (by omega) h5 w5
 change TRL _ _ _ (List.take (Tryz.prog.cellsOf 33) (List.drop 7 cs)) at e5
 rw [show Tryz.prog.cellsOf 33=1 by kernel_rfl] at e5
 have hh:=(bo (o:=0) (m:=1) e0 (bo (o:=1) (m:=1) e1 (bo (o:=2) (m:=1) e2 (bo (o:=3) (m:=1) e3 (bo (o:=4) (m:=3) e4 (bo (o:=7) (m:=1) e5 (TRL.done hlen)))))))
 exact ⟨exA ⟨x0,x1,x2,x3,x4,x5⟩,g9 ⟨r5,r1,r2,r4⟩,hh⟩
theorem oExs:kp Tryz.prog (fun l:List (List AV)=>[.tree 8 (l.map rwA)]) (fun l=>l.length<=140737488355328/\∀ a∈l,IsEx a) 33:=kp.of fun N=>fun enc W fuel cs d ps hN h1 h2=>J3.slice (oExF N) Tryz.underlying33 (show Tryz.prog.cellsOf 47=8 by kernel_rfl) (fun a h=>by cases h; rfl) (by decide) (Nat.le_of_ble_eq_true (by kernel_rfl)) enc W fuel cs d ps (by omega) h1 h2
theorem oCol:kp Tryz.prog us FitCol 81:=by
 intro H enc W fuel cs d ps h hw
 obtain ⟨n,hn,hlen,hf⟩:=fd Tryz.underlying81 h hw
 rw [show Tryz.prog.cellsOf 81=6 by kernel_rfl] at hlen
 obtain ⟨_,_,h0,w0⟩:=hf 0 _ rfl
 obtain ⟨x0,r0,e0⟩:=(mf Tryz.underlying9) enc W _ _ _ _ h0 w0
 change TRL _ _ _ (List.take (Tryz.prog.cellsOf 9) (List.drop 0 cs)) at e0
 rw [show Tryz.prog.cellsOf 9=1 by kernel_rfl] at e0
 obtain ⟨_,_,h1,w1⟩:=hf 1 _ rfl
 obtain ⟨x1,r1,e1⟩:=(d4 Tryz.underlying3) enc W _ _ _ _ h1 w1
 change TRL _ _ _ (List.take (Tryz.prog.cellsOf 3) (List.drop 1 cs)) at e1
 rw [show Tryz.prog.cellsOf 3=1 by kernel_rfl] at e1
 obtain ⟨_,_,h2,w2⟩:=hf 2 _ rfl
 obtain ⟨x2,r2,e2⟩:=(d4 Tryz.underlying2) enc W _ _ _ _ h2 w2
 change TRL _ _ _ (List.take (Tryz.prog.cellsOf 2) (List.drop 2 cs)) at e2
 rw [show Tryz.prog.cellsOf 2=1 by kernel_rfl] at e2
 obtain ⟨_,_,h3,w3⟩:=hf 3 _ rfl
 obtain ⟨x3,r3,e3⟩:=(d4 Tryz.underlying2) enc W _ _ _ _ h3 w3
 change TRL _ _ _ (List.take (Tryz.prog.cellsOf 2) (List.drop 3 cs)) at e3
 rw [show Tryz.prog.cellsOf 2=1 by kernel_rfl] at e3
 obtain ⟨_,_,h4,w4⟩:=hf 4 _ rfl
 obtain ⟨x4,r4,e4⟩:=(d4 Tryz.underlying3) enc W _ _ _ _ h4 w4
 change TRL _ _ _ (List.take (Tryz.prog.cellsOf 3) (List.drop 4 cs)) at e4
 rw [show Tryz.prog.cellsOf 3=1 by kernel_rfl] at e4
 obtain ⟨_,_,h5,w5⟩:=hf 5 _ rfl
 obtain ⟨x5,r5,e5⟩:=(En Tryz.underlying4) enc W _ _ _ _ h5 w5
 change TRL _ _ _ (List.take (Tryz.prog.cellsOf 4) (List.drop 5 cs)) at e5
 rw [show Tryz.prog.cellsOf 4=1 by kernel_rfl] at e5
 have hh:=(bo (o:=0) (m:=1) e0 (bo (o:=1) (m:=1) e1 (bo (o:=2) (m:=1) e2 (bo (o:=3) (m:=1) e3 (bo (o:=4) (m:=1) e4 (bo (o:=5) (m:=1) e5 (TRL.done hlen)))))))
 exact ⟨⟨x0,x1,x2,x3,x4,x5⟩,⟨r0⟩,hh⟩
theorem Xv:kp Tryz.prog (fun l:List GCol=>[.tree 6 (l.map us)]) (fun l=>l.length<=140737488355328/\∀ a∈l,FitCol a) 30:=kp.slice oCol Tryz.underlying30 (show Tryz.prog.cellsOf 81=6 by kernel_rfl) (fun _=>rfl) (by decide) (Nat.le_of_ble_eq_true (by kernel_rfl))
theorem Tx:kp Tryz.prog (fun l:List Int=>[.tree 1 (l.map iA)]) (fun l=>l.length<=140737488355328/\∀ a∈l,-9223372036854775808<=a/\a<=9223372036854775807) 51:=kp.slice (d4 Tryz.underlying3) Tryz.underlying51 (show Tryz.prog.cellsOf 3=1 by kernel_rfl) (fun _=>rfl) (by decide) (Nat.le_of_ble_eq_true (by kernel_rfl))
theorem Xt:kp Tryz.prog (fun l:List (List Int)=>[.tree 1 (l.map (fun l=>[.tree 1 (l.map iA)]))]) (fun l=>l.length<=140737488355328/\∀ a∈l,a.length<=140737488355328/\∀ b∈a,-9223372036854775808<=b/\b<=9223372036854775807) 31:=kp.slice Tx Tryz.underlying31 (show Tryz.prog.cellsOf 51=1 by kernel_rfl) (fun _=>rfl) (by decide) (Nat.le_of_ble_eq_true (by kernel_rfl))
theorem oFor:kp Tryz.prog Mh FitFor 111:=by
 intro H enc W fuel cs d ps h hw
 obtain ⟨n,hn,hlen,hf⟩:=fd Tryz.underlying111 h hw
 rw [show Tryz.prog.cellsOf 111=3 by kernel_rfl] at hlen
 obtain ⟨_,_,h0,w0⟩:=hf 0 _ rfl
 obtain ⟨x0,r0,e0⟩:=(Tx) enc W _ _ _ _ h0 w0
 change TRL _ _ _ (List.take (Tryz.prog.cellsOf 51) (List.drop 0 cs)) at e0
 rw [show Tryz.prog.cellsOf 51=1 by kernel_rfl] at e0
 obtain ⟨_,_,h1,w1⟩:=hf 1 _ rfl
 obtain ⟨x1,r1,e1⟩:=(d4 Tryz.underlying3) enc W _ _ _ _ h1 w1
 change TRL _ _ _ (List.take (Tryz.prog.cellsOf 3) (List.drop 1 cs)) at e1
 rw [show Tryz.prog.cellsOf 3=1 by kernel_rfl] at e1
 obtain ⟨_,_,h2,w2⟩:=hf 2 _ rfl
 obtain ⟨x2,r2,e2⟩:=(d4 Tryz.underlying3) enc W _ _ _ _ h2 w2
 change TRL _ _ _ (List.take (Tryz.prog.cellsOf 3) (List.drop 2 cs)) at e2
 rw [show Tryz.prog.cellsOf 3=1 by kernel_rfl] at e2
 have hh:=(bo (o:=0) (m:=1) e0 (bo (o:=1) (m:=1) e1 (bo (o:=2) (m:=1) e2 (TRL.done hlen))))
 exact ⟨⟨x0,x1,x2⟩,⟨r0.1,fun _ _=>trivial⟩,hh⟩
theorem Xu:kp Tryz.prog (fun l:List GFor=>[.tree 3 (l.map Mh)]) (fun l=>l.length<=140737488355328/\∀ a∈l,FitFor a) 32:=kp.slice oFor Tryz.underlying32 (show Tryz.prog.cellsOf 111=3 by kernel_rfl) (fun _=>rfl) (by decide) (Nat.le_of_ble_eq_true (by kernel_rfl))
theorem oTab:kp Tryz.prog ef FitTab 35:=by
 intro H enc W fuel cs d ps h hw
 obtain ⟨n,hn,hlen,hf⟩:=fd Tryz.underlying35 h hw
 rw [show Tryz.prog.cellsOf 35=5 by kernel_rfl] at hlen
 obtain ⟨_,_,h0,w0⟩:=hf 0 _ rfl
 obtain ⟨x0,r0,e0⟩:=(mf Tryz.underlying9) enc W _ _ _ _ h0 w0
 change TRL _ _ _ (List.take (Tryz.prog.cellsOf 9) (List.drop 0 cs)) at e0
 rw [show Tryz.prog.cellsOf 9=1 by kernel_rfl] at e0
 obtain ⟨_,_,h1,w1⟩:=hf 1 _ rfl
 obtain ⟨x1,r1,e1⟩:=(Xv) enc W _ _ _ _ h1 w1
 change TRL _ _ _ (List.take (Tryz.prog.cellsOf 30) (List.drop 1 cs)) at e1
 rw [show Tryz.prog.cellsOf 30=1 by kernel_rfl] at e1
 obtain ⟨_,_,h2,w2⟩:=hf 2 _ rfl
 obtain ⟨x2,r2,e2⟩:=(Xt) enc W _ _ _ _ h2 w2
 change TRL _ _ _ (List.take (Tryz.prog.cellsOf 31) (List.drop 2 cs)) at e2
 rw [show Tryz.prog.cellsOf 31=1 by kernel_rfl] at e2
 obtain ⟨_,_,h3,w3⟩:=hf 3 _ rfl
 obtain ⟨x3,r3,e3⟩:=(Xu) enc W _ _ _ _ h3 w3
 change TRL _ _ _ (List.take (Tryz.prog.cellsOf 32) (List.drop 3 cs)) at e3
 rw [show Tryz.prog.cellsOf 32=1 by kernel_rfl] at e3
 obtain ⟨_,_,h4,w4⟩:=hf 4 _ rfl
 obtain ⟨x4,r4,e4⟩:=(oExs) enc W _ _ _ _ h4 w4
 change TRL _ _ _ (List.take (Tryz.prog.cellsOf 33) (List.drop 4 cs)) at e4
 rw [show Tryz.prog.cellsOf 33=1 by kernel_rfl] at e4
 have hh:=(bo (o:=0) (m:=1) e0 (bo (o:=1) (m:=1) e1 (bo (o:=2) (m:=1) e2 (bo (o:=3) (m:=1) e3 (bo (o:=4) (m:=1) e4 (TRL.done hlen))))))
 exact ⟨⟨x0,x1,x2,x3,x4⟩,⟨r0,r1,⟨r2.1,fun y h=>⟨(r2.2 y h).1,fun _ _=>trivial⟩⟩,r3,r4⟩,hh⟩
theorem oSch:kp Tryz.prog (fun l:List GTab=>[.tree 5 (l.map ef)]) (fun l=>l.length<=140737488355328/\∀ a∈l,FitTab a) 23:=kp.slice oTab Tryz.underlying23 (show Tryz.prog.cellsOf 35=5 by kernel_rfl) (fun _=>rfl) (by decide) (Nat.le_of_ble_eq_true (by kernel_rfl))
theorem Xs:kp Tryz.prog (fun l:List GVal=>[.tree 3 (l.map gvA)]) (fun l=>l.length<=140737488355328/\∀ a∈l,FitVal a) 26:=kp.slice oVal Tryz.underlying26 (show Tryz.prog.cellsOf 45=3 by kernel_rfl) (fun _=>rfl) (by decide) (Nat.le_of_ble_eq_true (by kernel_rfl))
theorem oChg:kp Tryz.prog o6 FitChg 77:=by
 intro H enc W fuel cs d ps h hw
 obtain ⟨n,hn,hlen,hf⟩:=fd Tryz.underlying77 h hw
 rw [show Tryz.prog.cellsOf 77=4 by kernel_rfl] at hlen
 obtain ⟨_,_,h0,w0⟩:=hf 0 _ rfl
 obtain ⟨x0,r0,e0⟩:=(d4 Tryz.underlying3) enc W _ _ _ _ h0 w0
 change TRL _ _ _ (List.take (Tryz.prog.cellsOf 3) (List.drop 0 cs)) at e0
 rw [show Tryz.prog.cellsOf 3=1 by kernel_rfl] at e0
 obtain ⟨_,_,h1,w1⟩:=hf 1 _ rfl
 obtain ⟨x1,r1,e1⟩:=(d4 Tryz.underlying2) enc W _ _ _ _ h1 w1
 change TRL _ _ _ (List.take (Tryz.prog.cellsOf 2) (List.drop 1 cs)) at e1
 rw [show Tryz.prog.cellsOf 2=1 by kernel_rfl] at e1
 obtain ⟨_,_,h2,w2⟩:=hf 2 _ rfl
 obtain ⟨x2,r2,e2⟩:=(Xs) enc W _ _ _ _ h2 w2
 change TRL _ _ _ (List.take (Tryz.prog.cellsOf 26) (List.drop 2 cs)) at e2
 rw [show Tryz.prog.cellsOf 26=1 by kernel_rfl] at e2
 obtain ⟨_,_,h3,w3⟩:=hf 3 _ rfl
 obtain ⟨x3,r3,e3⟩:=(Xs) enc W _ _ _ _ h3 w3
 change TRL _ _ _ (List.take (Tryz.prog.cellsOf 26) (List.drop 3 cs)) at e3
 rw [show Tryz.prog.cellsOf 26=1 by kernel_rfl] at e3
 have hh:=(bo (o:=0) (m:=1) e0 (bo (o:=1) (m:=1) e1 (bo (o:=2) (m:=1) e2 (bo (o:=3) (m:=1) e3 (TRL.done hlen)))))
 exact ⟨⟨x0,x1,x2,x3⟩,⟨r2,r3⟩,hh⟩
theorem Xw:kp Tryz.prog (fun l:List GChg=>[.tree 4 (l.map o6)]) (fun l=>l.length<=140737488355328/\∀ a∈l,FitChg a) 69:=kp.slice oChg Tryz.underlying69 (show Tryz.prog.cellsOf 77=4 by kernel_rfl) (fun _=>rfl) (by decide) (Nat.le_of_ble_eq_true (by kernel_rfl))
theorem open_schema {r:Reach} {b0:Nat} {H:Type} {enc:TypeId×Value->H} {W:World} {v:Value} {d:DataW H} {ps:List MemPlace} (hv:Value.okWide Tryz.prog W r b0 23 v)
  (h:DataW.Trod enc Tryz.prog W 0 (fun _=>true) true 23 v d ps) (hw:∀ m∈d.weights Tryz.prog 23,m<=140737488351232) :
  ∃ l:List GTab,bw l (fun y=>FitTab y)/\TR (LtB W.heap.size) W (.tree 5 (l.map ef)) v:=by
 obtain ⟨a,len,cap,rfl⟩:=okWide_slice Tryz.underlying23 hv
 obtain ⟨fuel,hf⟩:=h
 obtain ⟨l,h1,h3⟩:=oSch enc W fuel _ d ps hf hw
 exact ⟨l,h1,h3.2 0 (by simp) (by simp [Value.cells])⟩
theorem open_changes {r:Reach} {b0:Nat} {H:Type} {enc:TypeId×Value->H} {W:World} {v:Value} {d:DataW H} {ps:List MemPlace} (hv:Value.okWide Tryz.prog W r b0 69 v)
  (h:DataW.Trod enc Tryz.prog W 0 (fun _=>true) true 69 v d ps) (hw:∀ m∈d.weights Tryz.prog 69,m<=140737488351232) :
  ∃ l:List GChg,bw l (fun y=>FitChg y)/\TR (LtB W.heap.size) W (.tree 4 (l.map o6)) v:=by
 obtain ⟨a,len,cap,rfl⟩:=okWide_slice Tryz.underlying69 hv
 obtain ⟨fuel,hf⟩:=h
 obtain ⟨l,h1,h3⟩:=Xw enc W fuel _ d ps hf hw
 exact ⟨l,h1,h3.2 0 (by simp) (by simp [Value.cells])⟩
theorem open_row {r:Reach} {b0:Nat} {H:Type} {enc:TypeId×Value->H} {W:World} {v:Value} {d:DataW H} {ps:List MemPlace} (hv:Value.okWide Tryz.prog W r b0 26 v)
  (h:DataW.Trod enc Tryz.prog W 0 (fun _=>true) true 26 v d ps) (hw:∀ m∈d.weights Tryz.prog 26,m<=140737488351232) :
  ∃ l:List GVal,bw l (fun y=>FitVal y)/\TR (LtB W.heap.size) W (.tree 3 (l.map gvA)) v:=by
 obtain ⟨a,len,cap,rfl⟩:=okWide_slice Tryz.underlying26 hv
 obtain ⟨fuel,hf⟩:=h
 obtain ⟨l,h1,h3⟩:=Xs enc W fuel _ d ps hf hw
 exact ⟨l,h1,h3.2 0 (by simp) (by simp [Value.cells])⟩
end Go.Proofs.YthpangmpihkniaaGreatDoor
