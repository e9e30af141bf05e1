/- Texts of the claim. -/
import Derived.Test.YthpangmpihkniaaGreatDoorF5
import Derived.Test.YthpangmpihkniaaGreatDoorQ2
import Derived.Test.YthpangmpihkniaaGreatDoorShelf
import Derived.Test.YthpangmpihkniaaGreatDoorQ1
namespace Go.Proofs.YthpangmpihkniaaGreatDoor
set_option maxRecDepth 1000000
set_option maxHeartbeats 0
set_option linter.unusedVariables false
set_option linter.unusedSimpArgs false
open Go.RowKit
structure GRd where
 table_:Int
 columns_:List Int
 values_:List GVal
abbrev rdA (x:GRd):List AV:=[.v (.int .i64 x.table_),.tree 1 (x.columns_.map iA),.tree 3 (x.values_.map gvA)]
structure FitRd (x:GRd):Prop where
 columns_:bw x.columns_ (fun y=>True)
 values_:bw x.values_ (fun y=>FitVal y)
instance:Inhabited GRd:=⟨⟨0,[],[]⟩⟩
theorem cq:RowF rdA 3:=⟨fun _=>rfl,fun _=>rfl,fun _ _=>rfl,fun _ _=>rfl,fun _ _=>rfl,fun _=>rfl⟩
theorem fj:RowF gvA 3:=⟨fun _=>rfl,fun _=>rfl,fun _ _=>rfl,fun _ _=>rfl,fun _ _=>rfl,fun _=>rfl⟩
theorem gm:RowF paA 2:=⟨fun _=>rfl,fun _=>rfl,fun _ _=>rfl,fun _ _=>rfl,fun _ _=>rfl,fun _=>rfl⟩
structure KW (α:Type) where
 k:Nat
 L:List α
 v:Nat
/-- The key value of a row. -/
def de (r:List GVal) (cs:List Int):Option (List GVal):=if r.length=0\/∃ c∈cs,(a8 r c).kind_=0 then none else some (cs.map (a8 r))
noncomputable def cw (r o:List GVal) (cs:List Int):Option (List GVal):=open Classical in if de r cs=de o cs then none else de r cs
/-- The columns of a key, if there is a row, are columns of it. -/
def InR (r:List GVal) (cs:List Int):Prop:=r.length=0\/∀ c∈cs,0<=c/\c < r.length
theorem InR.at {r:List GVal} {cs:List Int} (h:InR r cs) (h0:¬ r.length=0) {k:Nat} (hk:k < cs.length):∃ j:Nat,cs[k]=((j:Nat):Int)/\j < r.length:=by
 have:=(h.resolve_left h0) _ (Ze hk)
 exact ⟨cs[k].toNat,by omega,by omega⟩
section
variable {r o:List GVal} {cs:List Int}
theorem Bi (h:r.length=0):de r cs=none:=by unfold de; rw [if_pos (.inl h)]
theorem xr {k j:Nat} (hk:k < cs.length) (e:cs[k]=((j:Nat):Int)) (hj:j < r.length) (h0:r[j].kind_=0):de r cs=none:=by
 unfold de; rw [if_pos (.inr ⟨cs[k],Ze hk,by rw [e,ia hj]; exact h0⟩)]
theorem sq {s:KL GVal} (h:s.L=(cs.take s.k).map (a8 r)/\∀ c∈cs.take s.k,(a8 r c).kind_≠0) {j:Nat} (hk:s.k < cs.length) (e:cs[s.k]=((j:Nat):Int)) (hj:j < r.length) (h0:¬ r[j].kind_=0) :
  s.L++[r[j]]=(cs.take (s.k+1)).map (a8 r)/\∀ c∈cs.take (s.k+1),(a8 r c).kind_≠0:=by
 have e2:a8 r cs[s.k]=r[j]:=by rw [e,ia hj]
 rw [List.take_succ_eq_append_getElem hk]
 refine ⟨by rw [List.map_append,<- h.1,List.map_singleton,e2],fun c hc=>?_⟩
 rcases Zk.1 hc with hc | hc
 ·exact h.2 c hc
 rw [Zj.1 hc,e2]; exact h0
theorem sp {s:KL GVal} (hr:¬ r.length=0) (h:s.L=(cs.take s.k).map (a8 r)/\∀ c∈cs.take s.k,(a8 r c).kind_≠0) (hk:¬ s.k < cs.length):de r cs=some s.L:=by
 rw [List.take_of_length_le (by omega)] at h
 unfold de
 rw [if_neg,h.1]
 rintro (g | ⟨c,hc,g⟩)
 ·exact hr g
 exact h.2 c hc g
theorem ml {v:List GVal} (h:de r cs=some v):v.length=cs.length:=by
 unfold de at h
 split at h
 ·cases h
 rw [<- Option.some.inj h,Zl]
theorem la (hr:bw r (fun y=>FitVal y)) (hc:cs.length<=1000):bw ((de r cs).getD []) (fun y=>FitVal y):=by
 unfold de
 split
 ·exact ⟨by simp,by simp⟩
 refine ⟨by simp; omega,fun y hy=>?_⟩
 obtain ⟨c,_,rfl⟩:=List.mem_map.1 hy
 unfold a8
 by_cases h:c.toNat < r.length
 ·have e:r.getD c.toNat zV=r[c.toNat]:=by simp [List.getD,h]
  rw [e]; exact hr.2 _ (Ze h)
 have e:r.getD c.toNat zV=zV:=by simp [List.getD,List.getElem?_eq_none (Nat.le_of_not_lt h)]
 rw [e]; exact ⟨by decide⟩
theorem wj (h:de r cs=none):cw r o cs=none:=by unfold cw; split <;> simp [h]
theorem Up (h:(de r cs).isSome=false):cw r o cs=bif false then some ((de r cs).getD []) else none:=wj (by simpa using h)
theorem Uo (h:(de r cs).isSome=true) (h2:(de o cs).isSome=false):cw r o cs=bif (!false) then some ((de r cs).getD []) else none:=by
 obtain ⟨v,hv⟩:=Option.isSome_iff_exists.1 h
 have h3:de o cs=none:=by simpa using h2
 unfold cw
 rw [if_neg (by rw [hv,h3]; exact fun h=>nomatch h),hv]; rfl
theorem Un {b:Bool} (h:(de r cs).isSome=true) (h2:(de o cs).isSome=true) (hb:b=true↔(de r cs).getD []=(de o cs).getD []):cw r o cs=bif (!b) then some ((de r cs).getD []) else none:=by
 obtain ⟨v,hv⟩:=Option.isSome_iff_exists.1 h
 obtain ⟨w,hw⟩:=Option.isSome_iff_exists.1 h2
 rw [hv,hw] at hb
 unfold cw
 rw [hv,hw]
 by_cases e:v=w
 ·rw [if_pos (by rw [e]),hb.2 e]; rfl
 have:b=false:=by cases b; rfl; exact absurd (hb.1 rfl) e
 rw [if_neg (fun h=>e (Option.some.inj h)),this]; rfl
/-- The foreign keys of a table (number i) that refer to table t: of the first ones. -/
def At (t:Int) (F:List GFor) (i:Nat):Nat->List (Int×Int)
 | 0=>[]
 | k+1=>At t F i k++if (F.getD k default).table_=t then [(((i:Nat):Int),((k:Nat):Int))] else []
def A5 (s:List GTab) (t:Int):Nat->List (Int×Int)
 | 0=>[]
 | i+1=>A5 s t i++At t (s.getD i default).foreign_ i (s.getD i default).foreign_.length
def gl (s:List GTab) (t:Int):List (Int×Int):=A5 s t s.length
theorem sj {t:Int} {F:List GFor} {i:Nat}:∀ k,(At t F i k).length<=k
 | 0=>Nat.le_refl _
 | k+1=>by rw [At,Zi]; have:=sj (t:=t) (F:=F) (i:=i) k; split <;> simp <;> omega
theorem m8 {s:List GTab} {t:Int} (h:∀ x∈s,x.foreign_.length<=10):∀ k,(A5 s t k).length<=10 * k
 | 0=>Nat.le_refl _
 | k+1=>by
  rw [A5,Zi]
  have:=m8 (t:=t) h k
  have h2:=sj (t:=t) (F:=(s.getD k default).foreign_) (i:=k) (s.getD k default).foreign_.length
  have h3:(s.getD k default).foreign_.length<=10:=by
   by_cases hk:k < s.length
   ·have e:s.getD k default=s[k]:=by simp [List.getD,hk]
    rw [e]; exact h _ (Ze hk)
   ·have e:s.getD k default=default:=by simp [List.getD,List.getElem?_eq_none (Nat.le_of_not_lt hk)]
    rw [e]; decide
  omega
theorem Cx {t:Int} {F:List GFor} {i:Nat} {p:Int×Int}:∀ {k},k<=F.length->p∈At t F i k->p.1=((i:Nat):Int)/\∃ j:Nat,p.2=((j:Nat):Int)/\∃ h:j < F.length,F[j].table_=t
 | 0,_,h=>by simp [At] at h
 | k+1,hk,h=>by
  rw [At] at h
  rcases Zk.1 h with h | h
  ·exact Cx (by omega) h
  ·split at h
   ·rename_i e
    rw [Zj.1 h]
    refine ⟨rfl,k,rfl,by omega,?_⟩
    have:F.getD k default=F[k]:=by simp [List.getD,show k < F.length by omega]
    rw [<- this]; exact e
   ·simp at h
theorem si {s:List GTab} {t:Int} {p:Int×Int}:∀ {k},k<=s.length->p∈A5 s t k->∃ i j:Nat,p.1=((i:Nat):Int)/\p.2=((j:Nat):Int)/\∃ hi:i < s.length,∃ hj:j < s[i].foreign_.length,s[i].foreign_[j].table_=t
 | 0,_,h=>by simp [A5] at h
 | k+1,hk,h=>by
  rw [A5] at h
  rcases Zk.1 h with h | h
  ·exact si (by omega) h
  ·have e:s.getD k default=s[k]:=by simp [List.getD,show k < s.length by omega]
   rw [e] at h
   obtain ⟨h1,j,h2,h3,h4⟩:=Cx (Nat.le_refl _) h
   exact ⟨k,j,h1,h2,by omega,h3,h4⟩
theorem Ny {t:Int} {F:List GFor} {i k:Nat} (h:k < F.length) (e:F[k].table_=t):At t F i (k+1)=At t F i k++[(((i:Nat):Int),((k:Nat):Int))]:=by
 rw [At,show F.getD k default=F[k] by simp [List.getD,h],if_pos e]
theorem Nz {t:Int} {F:List GFor} {i k:Nat} (h:k < F.length) (e:¬ F[k].table_=t):At t F i (k+1)=At t F i k:=by
 rw [At,show F.getD k default=F[k] by simp [List.getD,h],if_neg e,List.append_nil]
theorem Nx {s:List GTab} {t:Int} {i k:Nat} (h:i < s.length) (hk:k<=s[i].foreign_.length) (h2:¬ k < s[i].foreign_.length):A5 s t (i+1)=A5 s t i++At t s[i].foreign_ i k:=by
 rw [A5,show s.getD i default=s[i] by simp [List.getD,h],show k=s[i].foreign_.length by omega]
end
theorem Ve:(Tryz.prog.info? 113).map (·.bytes)=some 16:=by kernel_rfl
theorem Wg:(Tryz.prog.info? 45).map (·.bytes)=some 32:=by kernel_rfl
theorem S9:aa Tryz.prog 113=some 2:=by kernel_rfl
theorem Sy:ax Tryz.prog 113=some (.agg #[.int .i64 0,.int .i64 0]):=by kernel_rfl
theorem V8:ax Tryz.prog 45=some (.agg #[.int .i64 0,.int .i64 0,.string ⟨#[]⟩]):=by kernel_rfl
theorem yr (r:List GVal) (hr:bw r (fun y=>FitVal y)) (cs:List Int) (hcs:bw cs (fun y=>True)) (hin:InR r cs) (hcs2:cs.length<=1000):PRet Tryz.prog 81 [.tree 3 (r.map gvA),.tree 1 (cs.map iA)] (fun q=>q=.tup [.tree 3 (((de r cs).getD []).map gvA),.v (.bool (de r cs).isSome)]):=by
 refine PRet.of_vc ao [22,32] [] Tryz.func81 rfl Tryz.ntmps81 rfl (by kernel_rfl) (LenG.of ?_)
 refine cB (fun hc10=>?_) (fun hc10=>?_)
 ·have hq10:((r.length:Nat):Int)=(0:Int):=by simpa using hc10
  refine ⟨.inr rfl,_,ab Tryz.results81 (O3.tmp (ret:=.tree 3 []) ⟨[],FzP.nil⟩) (O3.tmp ⟨[],FzP.pure rfl⟩),?_⟩
  rw [Bi (by simpa using hc10)]; rfl
 have hq10:¬ (((r.length:Nat):Int)=(0:Int)):=by simpa using hc10
 have h0:¬ r.length=0:=by simpa using hc10
 refine LpG.via (fun _ h=>bq 6 3 rfl 1 rfl h) (LpG.on (fun k0:KL GVal=>(⟨fL [(0,.tree 3 (r.map gvA)),(1,.tree 1 (cs.map iA)),(6,.sl 0 k0.L.length 0 k0.L.length),(7,.v (.int .i64 ((k0.k:Nat):Int)))],bl [(0,⟨k0.L.length,rF gvA k0.L,3,Nat.beq k0.L.length 0⟩)],1⟩:St)) (fun k0=>(cs.length - k0.k)) (fun k0=>(k0.k<=cs.length/\k0.L.length=k0.k/\(∀ x∈k0.L,FitVal x)/\(k0.L=(cs.take k0.k).map (a8 r)/\∀ c∈cs.take k0.k,(a8 r c).kind_≠0))) (⟨0,[]⟩:KL GVal) (cO (.cons rfl rfl (.cons rfl rfl (.cons (by rfl) rfl (.cons rfl rfl .nil)))) (.cons (by rfl) rfl (ag fj _ _) .nil)) ⟨Nat.zero_le _,rfl,by simp,⟨rfl,by simp⟩⟩ ?_)
 rintro k0 hinv
 have hgr_k0:cs.length<=140737488355328:=hcs.1
 obtain ⟨hle_k0,hL_k0,hf_k0,hi_k0⟩:=hinv
 refine LenG.of (cL (fun hlt14=>?_) (fun hge14=>?_))
 ·obtain ⟨j1,hje1,hjl1⟩:=hin.at h0 hlt14
  refine IdxG.of (by assumption) (OpG.lk (ah Tryz.underlying26 vt rfl rfl hje1 hjl1) ?_)
  refine cB (fun hc25=>?_) (fun hc25=>?_)
  ·have hq25:(r[j1].kind_:Int)=(0:Int):=by simpa using hc25
   refine ⟨.inr rfl,_,ab Tryz.results81 (O3.tmp (ret:=.tree 3 []) ⟨[],FzP.nil⟩) (O3.tmp ⟨[],FzP.pure rfl⟩),?_⟩
   rw [xr hlt14 hje1 hjl1 (by simpa using hc25)]; rfl
  have hq25:¬ ((r[j1].kind_:Int)=(0:Int)):=by simpa using hc25
  refine IdxG.of (by assumption) (OpG.lk (ah Tryz.underlying26 vt rfl rfl hje1 hjl1) ?_)
  refine OpG.mk _ _ _ 2 (aj fj (a:=r[j1]) Tryz.underlying26 vt V8 Wg rfl rfl rfl (az rfl rfl rfl rfl) rfl (by omega) (by omega) (by unfold TV; omega)) rfl rfl ⟨by omega,⟨(⟨k0.k+1,k0.L++[r[j1]]⟩:KL GVal),(by show cs.length - (k0.k+1) < cs.length - k0.k; omega),(cO (.cons rfl rfl (.cons rfl rfl (.cons (by (rw [Zi]; rfl)) rfl (.cons rfl rfl .nil)))) (.cons (by (rw [Zi]; rfl)) rfl (ag fj _ _) .nil)),?_⟩⟩
  exact ⟨by show k0.k+1<=_; omega,by show (_++[_]).length=k0.k+1; rw [Zi,hL_k0]; rfl,fun y_ hy_=>(Zk.1 hy_).elim (hf_k0 y_) (fun hy_=>by rw [Zj.1 hy_]; exact (hr.2 _ (Ze _))),sq hi_k0 hlt14 hje1 hjl1 (by simpa using hc25)⟩
 refine ⟨.inr rfl,_,ab Tryz.results81 (O3.tmp ⟨[0],FzP.rows fj (Zj.2 rfl) rfl⟩) (O3.tmp ⟨[],FzP.pure rfl⟩),?_⟩
 rw [sp h0 hi_k0 hge14]; rfl
theorem uj (r:List GVal) (hr:bw r (fun y=>FitVal y)) (o:List GVal) (ho:bw o (fun y=>FitVal y)) (cs:List Int) (hcs:bw cs (fun y=>True)) (hin:InR r cs) (hin2:InR o cs) (hcs2:cs.length<=1000):PRet Tryz.prog 40 [.tree 3 (r.map gvA),.tree 3 (o.map gvA),.tree 1 (cs.map iA)] (fun q=>∃ b:Bool,q=.tup [.tree 3 (((de r cs).getD []).map gvA),.v (.bool b)]/\cw r o cs=bif b then some ((de r cs).getD []) else none):=by
 refine PRet.of_vc ao [] [] Tryz.func40 rfl Tryz.ntmps40 rfl (by kernel_rfl) (ArgG.mk (yr r hr cs hcs (by assumption) (by omega)) rfl ?_)
 rintro _ rfl
 refine ArgG.mk (yr o ho cs hcs (by assumption) (by omega)) rfl ?_
 rintro _ rfl
 refine cB (fun hg26=>?_) (fun hg26=>?_)
 ·refine cB (fun hg28=>?_) (fun hg28=>?_)
  ·refine ArgG.mk (K3 ((de r cs).getD []) (la hr hcs2) ((de o cs).getD []) (la ho hcs2)) rfl ?_
   rintro _ ⟨b2,rfl,hb2⟩
   exact ⟨.inr rfl,_,ab Tryz.results40 (O3.tmp ⟨[],FzP.pure rfl⟩) (O3.tmp ⟨[],FzP.pure rfl⟩),⟨_,rfl,Un hg26 hg28 hb2⟩⟩
  exact ⟨.inr rfl,_,ab Tryz.results40 (O3.tmp ⟨[],FzP.pure rfl⟩) (O3.tmp ⟨[],FzP.pure rfl⟩),⟨_,rfl,Uo hg26 hg28⟩⟩
 exact ⟨.inr rfl,_,ab Tryz.results40 (O3.tmp ⟨[],FzP.pure rfl⟩) (O3.tmp ⟨[],FzP.pure rfl⟩),⟨_,rfl,Up hg26⟩⟩
theorem xf (s:List GTab) (hs:bw s (fun y=>FitTab y)) (t:Int) (hs8:s.length<=8) (hf10:∀ x∈s,x.foreign_.length<=10):PRet Tryz.prog 41 [.tree 5 (s.map ef),.v (.int .i64 t)] (fun q=>q=.tree 2 ((gl s t).map paA)):=by
 refine PRet.of_vc ao [] [] Tryz.func41 rfl Tryz.ntmps41 rfl (by kernel_rfl) (LpG.via (fun _ h=>bq 5 2 rfl 1 rfl h) ?_)
 refine LpG.on (fun k0:KL (Int×Int)=>(⟨fL [(0,.tree 5 (s.map ef)),(1,.v (.int .i64 t)),(5,.sl 0 k0.L.length 0 k0.L.length),(6,.v (.int .i64 ((k0.k:Nat):Int)))],bl [(0,⟨k0.L.length,rF paA k0.L,2,Nat.beq k0.L.length 0⟩)],1⟩:St)) (fun k0=>(s.length - k0.k)) (fun k0=>(k0.k<=s.length/\(k0.L=A5 s t k0.k))) (⟨0,[]⟩:KL (Int×Int)) (cO (.cons rfl rfl (.cons rfl rfl (.cons (by rfl) rfl (.cons rfl rfl .nil)))) (.cons (by rfl) rfl (ag gm _ _) .nil)) ⟨Nat.zero_le _,rfl⟩ ?_
 rintro k0 hinv
 have hgr_k0:s.length<=140737488355328:=hs.1
 obtain ⟨hle_k0,hi_k0⟩:=hinv
 refine LenG.of (cL (fun hlt11=>?_) (fun hge11=>?_))
 ·have hx10:=hf10 _ (Ze hlt11)
  have hlT:=m8 (t:=t) hf10 k0.k
  refine LpG.on (fun k2:KL (Int×Int)=>(⟨fL [(0,.tree 5 (s.map ef)),(1,.v (.int .i64 t)),(5,.sl 0 k2.L.length 0 k2.L.length),(6,.v (.int .i64 ((k0.k:Nat):Int))),(7,.v (.int .i64 ((k2.k:Nat):Int)))],bl [(0,⟨k2.L.length,rF paA k2.L,2,Nat.beq k2.L.length 0⟩)],1⟩:St)) (fun k2=>(s[k0.k].foreign_.length - k2.k)) (fun k2=>(k2.k<=s[k0.k].foreign_.length/\(k2.L=A5 s t k0.k++At t s[k0.k].foreign_ k0.k k2.k))) (⟨0,k0.L⟩:KL (Int×Int)) (cO (.cons rfl rfl (.cons rfl rfl (.cons (by rfl) rfl (.cons rfl rfl (.cons rfl rfl .nil))))) (.cons (by rfl) rfl (ag gm _ _) .nil)) ⟨Nat.zero_le _,(hi_k0.trans (List.append_nil _).symm)⟩ ?_
  rintro k2 hinv
  have hgr_k2:s[k0.k].foreign_.length<=140737488355328:=(hs.2 _ (Ze _)).foreign_.1
  obtain ⟨hle_k2,hi_k2⟩:=hinv
  refine IdxG.of (by assumption) (LenG.of ?_)
  refine cL (fun hlt21=>?_) (fun hge21=>?_)
  ·have hlR:=sj (t:=t) (F:=s[k0.k].foreign_) (i:=k0.k) k2.k
   have hlk:k2.L.length<=10 * k0.k+k2.k:=by rw [hi_k2,Zi]; omega
   refine IdxG.of (by assumption) (IdxG.of (by assumption) ?_)
   refine cE (fun hq34=>?_) (fun hq34=>?_)
   ·refine OpG.mk _ _ _ 2 (aj gm (a:=(((k0.k:Nat):Int),((k2.k:Nat):Int))) Tryz.underlying98 S9 Sy Ve rfl rfl rfl (az rfl rfl rfl rfl) rfl (by omega) (by omega) (by unfold TV; omega)) rfl rfl ⟨by omega,⟨(⟨k2.k+1,k2.L++[(((k0.k:Nat):Int),((k2.k:Nat):Int))]⟩:KL (Int×Int)),(by show s[k0.k].foreign_.length - (k2.k+1) < s[k0.k].foreign_.length - k2.k; omega),(cO (.cons rfl rfl (.cons rfl rfl (.cons (by (rw [Zi]; rfl)) rfl (.cons rfl rfl (.cons rfl rfl .nil))))) (.cons (by (rw [Zi]; rfl)) rfl (ag gm _ _) .nil)),?_⟩⟩
    refine ⟨by show k2.k+1<=_; omega,?_⟩
    (rw [Ny hlt21 hq34,<- List.append_assoc,<- hi_k2])
   refine ⟨by omega,⟨(⟨k2.k+1,k2.L⟩:KL (Int×Int)),(by show s[k0.k].foreign_.length - (k2.k+1) < s[k0.k].foreign_.length - k2.k; omega),(cO (.cons rfl rfl (.cons rfl rfl (.cons (by rfl) rfl (.cons rfl rfl (.cons rfl rfl .nil))))) (.cons (by rfl) rfl (ag gm _ _) .nil)),?_⟩⟩
   refine ⟨by show k2.k+1<=_; omega,?_⟩
   (rw [Nz hlt21 hq34]; exact hi_k2)
  refine ⟨by omega,⟨(⟨k0.k+1,k2.L⟩:KL (Int×Int)),(by show s.length - (k0.k+1) < s.length - k0.k; omega),(cO (.cons rfl rfl (.cons rfl rfl (.cons (by rfl) rfl (.cons rfl rfl .nil)))) (.cons (by rfl) rfl (ag gm _ _) .nil)),?_⟩⟩
  exact ⟨by show k0.k+1<=_; omega,hi_k2.trans (Nx hlt11 hle_k2 hge21).symm⟩
 refine ⟨.inr rfl,_,Kh.tmp Tryz.results41 ⟨[0],FzP.rows gm (Zj.2 rfl) rfl⟩,?_⟩
 rw [hi_k0,show k0.k=s.length by omega]; rfl
theorem ze (s:List GTab) (hs:bw s (fun y=>FitTab y)) (t:Int) (hs8:s.length<=8) (hf10:∀ x∈s,x.foreign_.length<=10):PRet Tryz.prog 39 [.tree 5 (s.map ef),.v (.int .i64 t)] (fun q=>q=.tree 2 ((gl s t).map paA)):=by
 refine PRet.of_vc ao [] [] Tryz.func39 rfl Tryz.ntmps39 rfl (by kernel_rfl) (LenG.of ?_)
 refine LpG.via (fun _ h=>bq 5 2 rfl 1 rfl h) (LpG.on (fun k0:KL (Int×Int)=>(⟨fL [(1,.v (.int .i64 t)),(5,.sl 0 k0.L.length 0 k0.L.length),(10,.tree 5 (s.map ef)),(11,.v (.int .i64 ((s.length:Nat):Int))),(12,.v (.int .i64 ((k0.k:Nat):Int)))],bl [(0,⟨k0.L.length,rF paA k0.L,2,Nat.beq k0.L.length 0⟩)],1⟩:St)) (fun k0=>(s.length - k0.k)) (fun k0=>(k0.k<=s.length/\(k0.L=A5 s t k0.k))) (⟨0,[]⟩:KL (Int×Int)) (cO (.cons rfl rfl (.cons (by rfl) rfl (.cons rfl rfl (.cons rfl rfl (.cons rfl rfl .nil))))) (.cons (by rfl) rfl (ag gm _ _) .nil)) ⟨Nat.zero_le _,rfl⟩ ?_)
 rintro k0 hinv
 have hgr_k0:s.length<=140737488355328:=hs.1
 obtain ⟨hle_k0,hi_k0⟩:=hinv
 refine cL (fun hlt13=>?_) (fun hge13=>?_)
 ·have hx10:=hf10 _ (Ze hlt13)
  have hlT:=m8 (t:=t) hf10 k0.k
  refine IdxG.of (by assumption) (LenG.of ?_)
  refine LpG.on (fun k2:KL (Int×Int)=>(⟨fL [(1,.v (.int .i64 t)),(5,.sl 0 k2.L.length 0 k2.L.length),(6,.v (.int .i64 ((k0.k:Nat):Int))),(10,.tree 5 (s.map ef)),(11,.v (.int .i64 ((s.length:Nat):Int))),(12,.v (.int .i64 ((k0.k:Nat):Int))),(18,.tree 3 ((s[k0.k].foreign_).map Mh)),(19,.v (.int .i64 ((s[k0.k].foreign_.length:Nat):Int))),(20,.v (.int .i64 ((k2.k:Nat):Int)))],bl [(0,⟨k2.L.length,rF paA k2.L,2,Nat.beq k2.L.length 0⟩)],2⟩:St)) (fun k2=>(s[k0.k].foreign_.length - k2.k)) (fun k2=>(k2.k<=s[k0.k].foreign_.length/\(k2.L=A5 s t k0.k++At t s[k0.k].foreign_ k0.k k2.k))) (⟨0,k0.L⟩:KL (Int×Int)) (cO (.cons rfl rfl (.cons (by rfl) rfl (.cons rfl rfl (.cons rfl rfl (.cons rfl rfl (.cons rfl rfl (.cons rfl rfl (.cons rfl rfl (.cons rfl rfl .nil))))))))) (.cons (by rfl) rfl (ag gm _ _) .nil)) ⟨Nat.zero_le _,(hi_k0.trans (List.append_nil _).symm)⟩ ?_
  rintro k2 hinv
  have hgr_k2:s[k0.k].foreign_.length<=140737488355328:=(hs.2 _ (Ze _)).foreign_.1
  obtain ⟨hle_k2,hi_k2⟩:=hinv
  refine cL (fun hlt21=>?_) (fun hge21=>?_)
  ·have hlR:=sj (t:=t) (F:=s[k0.k].foreign_) (i:=k0.k) k2.k
   have hlk:k2.L.length<=10 * k0.k+k2.k:=by rw [hi_k2,Zi]; omega
   refine IdxG.of (by assumption) (cE (fun hq28=>?_) (fun hq28=>?_))
   ·refine OpG.mk _ _ _ 4 (aj gm (a:=(((k0.k:Nat):Int),((k2.k:Nat):Int))) Tryz.underlying98 S9 Sy Ve rfl rfl rfl (az rfl rfl rfl rfl) rfl (by omega) (by omega) (by unfold TV; omega)) rfl rfl ⟨by omega,⟨(⟨k2.k+1,k2.L++[(((k0.k:Nat):Int),((k2.k:Nat):Int))]⟩:KL (Int×Int)),(by show s[k0.k].foreign_.length - (k2.k+1) < s[k0.k].foreign_.length - k2.k; omega),(cO (.cons rfl rfl (.cons (by (rw [Zi]; rfl)) rfl (.cons rfl rfl (.cons rfl rfl (.cons rfl rfl (.cons rfl rfl (.cons rfl rfl (.cons rfl rfl (.cons rfl rfl .nil))))))))) (.cons (by (rw [Zi]; rfl)) rfl (ag gm _ _) .nil)),?_⟩⟩
    refine ⟨by show k2.k+1<=_; omega,?_⟩
    (rw [Ny hlt21 hq28,<- List.append_assoc,<- hi_k2])
   refine ⟨by omega,⟨(⟨k2.k+1,k2.L⟩:KL (Int×Int)),(by show s[k0.k].foreign_.length - (k2.k+1) < s[k0.k].foreign_.length - k2.k; omega),(cO (.cons rfl rfl (.cons (by rfl) rfl (.cons rfl rfl (.cons rfl rfl (.cons rfl rfl (.cons rfl rfl (.cons rfl rfl (.cons rfl rfl (.cons rfl rfl .nil))))))))) (.cons (by rfl) rfl (ag gm _ _) .nil)),?_⟩⟩
   refine ⟨by show k2.k+1<=_; omega,?_⟩
   (rw [Nz hlt21 hq28]; exact hi_k2)
  refine ⟨by omega,⟨(⟨k0.k+1,k2.L⟩:KL (Int×Int)),(by show s.length - (k0.k+1) < s.length - k0.k; omega),(cO (.cons rfl rfl (.cons (by rfl) rfl (.cons rfl rfl (.cons rfl rfl (.cons rfl rfl .nil))))) (.cons (by rfl) rfl (ag gm _ _) .nil)),?_⟩⟩
  exact ⟨by show k0.k+1<=_; omega,hi_k2.trans (Nx hlt13 hle_k2 hge21).symm⟩
 refine ⟨.inr rfl,_,Kh.tmp Tryz.results39 ⟨[0],FzP.rows gm (Zj.2 rfl) rfl⟩,?_⟩
 rw [hi_k0,show k0.k=s.length by omega]; rfl
theorem Tt {α:Type} {o:Option α} {v:α} {b:Bool} (h:o=bif b then some v else none) (hb:b=true):o=some v:=by rw [h,hb]; rfl
theorem Tu {α:Type} {o:Option α} {v:α} {b:Bool} (h:o=bif b then some v else none) (hb:b=false):o=none:=by rw [h,hb]; rfl
def wc (o:Option (List GVal)) (f:List GVal->List GRd):List GRd:=match o with | none=>[] | some v=>f v
def js (x:GRd):List GRd->List GRd
 | []=>[]
 | a :: r=>x :: a :: r
/-- The sets on which the keys of a changed row depend: of the first keys. -/
noncomputable def kA (c:GChg) (K:List (List Int)):Nat->List GRd
 | 0=>[]
 | j+1=>kA c K j++wc (cw c.new_ c.old_ (K.getD j [])) (fun v=>[⟨c.table_,K.getD j [],v⟩])
def H8 (s:List GTab) (f:GFor):List Int:=(s.getD f.table_.toNat default).keys_.getD f.key_.toNat []
noncomputable def fA (s:List GTab) (c:GChg) (F:List GFor):Nat->List GRd
 | 0=>[]
 | j+1=>fA s c F j++wc (cw c.new_ c.old_ (F.getD j default).columns_) (fun v=>[⟨(F.getD j default).table_,H8 s (F.getD j default),v⟩])
def Bl (s:List GTab) (p:Int×Int):GFor:=(s.getD p.1.toNat default).foreign_.getD p.2.toNat default
def rA (s:List GTab) (v:List GVal) (q:Nat) (R:List (Int×Int)):Nat->List GRd
 | 0=>[]
 | m+1=>rA s v q R m++if (Bl s (R.getD m (0,0))).key_=((q:Nat):Int) then [⟨(R.getD m (0,0)).1,(Bl s (R.getD m (0,0))).columns_,v⟩] else []
noncomputable def oA (s:List GTab) (c:GChg) (K:List (List Int)) (R:List (Int×Int)):Nat->List GRd
 | 0=>[]
 | j+1=>oA s c K R j++wc (cw c.old_ c.new_ (K.getD j [])) (fun v=>js ⟨c.table_,K.getD j [],v⟩ (rA s v j R R.length))
noncomputable def Fc (s:List GTab) (c:GChg):List GRd:=kA c (s.getD c.table_.toNat default).keys_ (s.getD c.table_.toNat default).keys_.length++fA s c (s.getD c.table_.toNat default).foreign_ (s.getD c.table_.toNat default).foreign_.length++oA s c (s.getD c.table_.toNat default).keys_ (gl s c.table_) (s.getD c.table_.toNat default).keys_.length
noncomputable def ka (s:List GTab) (l:List GChg):List GRd:=(l.map (Fc s)).flatten
section
variable {s:List GTab} {c:GChg} {K:List (List Int)} {F:List GFor} {R:List (Int×Int)} {L L0:List GRd} {v:List GVal} {j k q:Nat}
theorem gD {α:Type} {l:List α} {k:Nat} {d:α} (h:k < l.length):l.getD k d=l[k]:=by simp [List.getD,h]
theorem wh:∀ k,(kA c K k).length<=k
 | 0=>Nat.le_refl _
 | k+1=>by rw [kA,Zi]; have:=wh k; unfold wc; split <;> simp <;> omega
theorem wn:∀ k,(fA s c F k).length<=k
 | 0=>Nat.le_refl _
 | k+1=>by rw [fA,Zi]; have:=wn k; unfold wc; split <;> simp <;> omega
theorem v7:∀ k,(rA s v q R k).length<=k
 | 0=>Nat.le_refl _
 | k+1=>by rw [rA,Zi]; have:=v7 k; split <;> simp <;> omega
theorem Ce {x:GRd} {l:List GRd}:(js x l).length<=l.length+1:=by cases l <;> simp [js]
theorem we:∀ k,(oA s c K R k).length<=(R.length+1) * k
 | 0=>Nat.zero_le _
 | k+1=>by
  rw [oA,Zi]
  have:=we k
  have h2:(wc (cw c.old_ c.new_ (K.getD k [])) (fun v=>js ⟨c.table_,K.getD k [],v⟩ (rA s v k R R.length))).length<=R.length+1:=by
   unfold wc; split
   ·simp
   ·exact Nat.le_trans Ce (Nat.add_le_add_right (v7 _) 1)
  rw [Nat.mul_succ]; omega
theorem kA_1 (h:k < K.length) (hL:L=L0++kA c K k) (hf:cw c.new_ c.old_ K[k]=some v):L++[⟨c.table_,K[k],v⟩]=L0++kA c K (k+1):=by rw [kA,gD h,hf,hL]; simp [wc]
theorem kA_0 (h:k < K.length) (hL:L=L0++kA c K k) (hf:cw c.new_ c.old_ K[k]=none):L=L0++kA c K (k+1):=by rw [kA,gD h,hf,hL]; simp [wc]
theorem Dj {f:GFor} {a b:Nat} (ha:f.table_=((a:Nat):Int)) (hb:f.key_=((b:Nat):Int)) (h:a < s.length) (h2:b < s[a].keys_.length):H8 s f=s[a].keys_[b]:=by
 unfold H8; rw [ha,hb,Int.toNat_natCast,Int.toNat_natCast,gD h,gD h2]
theorem fA_1 (h:k < F.length) (hL:L=L0++fA s c F k) (hf:cw c.new_ c.old_ F[k].columns_=some v) {a b:Nat} (ha:F[k].table_=((a:Nat):Int)) (hb:F[k].key_=((b:Nat):Int)) (h1:a < s.length) (h2:b < s[a].keys_.length):L++[⟨F[k].table_,s[a].keys_[b],v⟩]=L0++fA s c F (k+1):=by
 rw [fA,gD h,hf,hL,Dj ha hb h1 h2]; simp [wc]
theorem fA_0 (h:k < F.length) (hL:L=L0++fA s c F k) (hf:cw c.new_ c.old_ F[k].columns_=none):L=L0++fA s c F (k+1):=by rw [fA,gD h,hf,hL]; simp [wc]
theorem xy {p:Int×Int} {a b:Nat} (ha:p.1=((a:Nat):Int)) (hb:p.2=((b:Nat):Int)) (h:a < s.length) (h2:b < s[a].foreign_.length):Bl s p=s[a].foreign_[b]:=by
 unfold Bl; rw [ha,hb,Int.toNat_natCast,Int.toNat_natCast,gD h,gD h2]
theorem Xh (h:k < R.length) {a b:Nat} (ha:R[k].1=((a:Nat):Int)) (hb:R[k].2=((b:Nat):Int)) (h1:a < s.length) (h2:b < s[a].foreign_.length) (e:s[a].foreign_[b].key_=((q:Nat):Int)):rA s v q R (k+1)=rA s v q R k++[⟨R[k].1,s[a].foreign_[b].columns_,v⟩]:=by
 rw [rA,gD h,xy ha hb h1 h2,if_pos e]
theorem rA_0 (h:k < R.length) {a b:Nat} (ha:R[k].1=((a:Nat):Int)) (hb:R[k].2=((b:Nat):Int)) (h1:a < s.length) (h2:b < s[a].foreign_.length) (e:¬ s[a].foreign_[b].key_=((q:Nat):Int)):rA s v q R (k+1)=rA s v q R k:=by
 rw [rA,gD h,xy ha hb h1 h2,if_neg e,List.append_nil]
theorem oA_1 {b:Bool} {L8:List GRd} {m:Nat} (h:k < K.length) (hL:L=L0++oA s c K R k) (hf:cw c.old_ c.new_ K[k]=bif b then some v else none) (h8:L8=rA s v k R m/\(b=true\/m=0)) (hm:m<=R.length) (hx:b=false\/¬ m < R.length) (hp:0 < L8.length):L++[⟨c.table_,K[k],v⟩]++L8=L0++oA s c K R (k+1):=by
 cases b with
 | false=>
  rcases h8.2 with h | h
  ·cases h
  ·rw [h8.1,h] at hp; simp [rA] at hp
 | true=>
  have e:m=R.length:=by rcases hx with h | h; cases h; omega
  subst e
  rw [oA,gD h,hf,hL]
  show _=L0++(oA s c K R k++js ⟨c.table_,K[k],v⟩ (rA s v k R R.length))
  rw [<- h8.1]
  cases L8 with
  | nil=>simp at hp
  | cons a r=>simp [js]
theorem oA_0 {b:Bool} {L8:List GRd} {m:Nat} (h:k < K.length) (hL:L=L0++oA s c K R k) (hf:cw c.old_ c.new_ K[k]=bif b then some v else none) (h8:L8=rA s v k R m/\(b=true\/m=0)) (hm:m<=R.length) (hx:b=false\/¬ m < R.length) (hp:¬ 0 < L8.length):L=L0++oA s c K R (k+1):=by
 have e8:L8=[]:=List.eq_nil_of_length_eq_zero (by omega)
 rw [oA,gD h,hf,hL]
 cases b with
 | false=>simp [wc]
 | true=>
  have e:m=R.length:=by rcases hx with h | h; cases h; omega
  subst e
  have:rA s v k R R.length=[]:=by rw [<- h8.1,e8]
  simp [wc,js,this]
theorem Dw {l:List GChg} {L2 L4 L6:List GRd} (hk:k < l.length) (hj:l[k].table_=((j:Nat):Int)) (hs:j < s.length) (h0:L0=ka s (l.take k)) (h2:L2=L0++kA l[k] s[j].keys_ s[j].keys_.length) (h4:L4=L2++fA s l[k] s[j].foreign_ s[j].foreign_.length) (h6:L6=L4++oA s l[k] s[j].keys_ (gl s l[k].table_) s[j].keys_.length):L6=ka s (l.take (k+1)):=by
 unfold ka at h0 ⊢
 rw [List.take_succ_eq_append_getElem hk,List.map_append,List.flatten_append,<- h0,List.map_singleton,List.flatten_singleton]
 unfold Fc
 rw [h6,h4,h2,hj,Int.toNat_natCast,gD hs]
 simp
end
theorem Mg {r o v:List GVal} {cs:List Int} {b:Bool} (hv:de r cs=some v) (h0:0 < cs.length) (hb:b=true↔v=(de o cs).getD []):cw r o cs=bif (!b) then some v else none:=by
 have hl:=ml hv
 unfold cw
 rw [hv]
 cases ho:de o cs with
 | none=>
  rw [ho] at hb
  have:b=false:=by
   cases b with
   | false=>rfl
   | true=>have:=hb.1 rfl; rw [this] at hl; simp at hl; omega
  rw [if_neg (fun h=>nomatch h),this]; rfl
 | some w=>
  rw [ho] at hb
  by_cases e:v=w
  ·rw [if_pos (by rw [e]),hb.2 e]; rfl
  ·have:b=false:=by
    cases b with
    | false=>rfl
    | true=>exact absurd (hb.1 rfl) e
   rw [if_neg (fun h=>e (Option.some.inj h)),this]; rfl
/-- The columns of a key are columns of a row of the table. -/
theorem lq {t:GTab} {r:List GVal} {cs:List Int} (h:0 < r.length->B2 t r) (hc:∀ x∈cs,0<=x/\x < t.columns_.length):InR r cs:=by
 by_cases h0:r.length=0
 ·exact .inl h0
 have:=(h (by omega)).1.1
 exact .inr fun x hx=>by have:=hc x hx; omega
theorem Rv:(Tryz.prog.info? 75).map (·.bytes)=some 56:=by kernel_rfl
theorem Pk:aa Tryz.prog 75=some 3:=by kernel_rfl
theorem O7:ax Tryz.prog 75=some (.agg #[.int .i64 0,.slice none 0 0,.slice none 0 0]):=by kernel_rfl
theorem L9 (r:List GVal) (hr:bw r (fun y=>FitVal y)) (cs:List Int) (hcs:bw cs (fun y=>True)) (hin:InR r cs) (hcs2:cs.length<=1000) (hk:de r cs=none):PRet Tryz.prog 78 [.tree 3 (r.map gvA),.tree 1 (cs.map iA)] (fun q=>q=.v (.slice none 0 0)):=by
 refine PRet.of_vc ao [19,26] [] Tryz.func78 rfl Tryz.ntmps78 rfl (by kernel_rfl) ?_
 refine LenG.of (cB (fun hc10=>?_) (fun hc10=>?_))
 ·have hq10:((r.length:Nat):Int)=(0:Int):=by simpa using hc10
  exact rV Tryz.results78 rfl rfl
 have hq10:¬ (((r.length:Nat):Int)=(0:Int)):=by simpa using hc10
 have h0:¬ r.length=0:=by simpa using hc10
 refine LenG.of (LpG.via (fun _ h=>bq 5 3 rfl 1 rfl h) ?_)
 refine LpG.on (fun k0:KL GVal=>(⟨fL [(0,.tree 3 (r.map gvA)),(5,.sl 0 k0.L.length 0 k0.L.length),(11,.tree 1 (cs.map iA)),(12,.v (.int .i64 ((cs.length:Nat):Int))),(13,.v (.int .i64 ((k0.k:Nat):Int)))],bl [(0,⟨k0.L.length,rF gvA k0.L,3,Nat.beq k0.L.length 0⟩)],1⟩:St)) (fun k0=>(cs.length - k0.k)) (fun k0=>(k0.k<=cs.length/\k0.L.length=k0.k/\(∀ x∈k0.L,FitVal x)/\(k0.L=(cs.take k0.k).map (a8 r)/\∀ c∈cs.take k0.k,(a8 r c).kind_≠0))) (⟨0,[]⟩:KL GVal) (cO (.cons rfl rfl (.cons (by rfl) rfl (.cons rfl rfl (.cons rfl rfl (.cons rfl rfl .nil))))) (.cons (by rfl) rfl (ag fj _ _) .nil)) ⟨Nat.zero_le _,rfl,by simp,⟨rfl,by simp⟩⟩ ?_
 rintro k0 hinv
 have hgr_k0:cs.length<=140737488355328:=hcs.1
 obtain ⟨hle_k0,hL_k0,hf_k0,hi_k0⟩:=hinv
 refine cL (fun hlt14=>?_) (fun hge14=>?_)
 ·obtain ⟨j1,hje1,hjl1⟩:=hin.at h0 hlt14
  refine IdxG.of (by assumption) (OpG.lk (ah Tryz.underlying26 vt rfl rfl hje1 hjl1) ?_)
  refine cB (fun hc22=>?_) (fun hc22=>?_)
  ·have hq22:(r[j1].kind_:Int)=(0:Int):=by simpa using hc22
   exact rV Tryz.results78 rfl rfl
  have hq22:¬ ((r[j1].kind_:Int)=(0:Int)):=by simpa using hc22
  refine OpG.lk (ah Tryz.underlying26 vt rfl rfl hje1 hjl1) ?_
  refine OpG.mk _ _ _ 2 (aj fj (a:=r[j1]) Tryz.underlying26 vt V8 Wg rfl rfl rfl (az rfl rfl rfl rfl) rfl (by omega) (by omega) (by unfold TV; omega)) rfl rfl ?_
  refine ⟨by omega,?_⟩
  refine ⟨(⟨k0.k+1,k0.L++[r[j1]]⟩:KL GVal),(by show cs.length - (k0.k+1) < cs.length - k0.k; omega),(cO (.cons rfl rfl (.cons (by (rw [Zi]; rfl)) rfl (.cons rfl rfl (.cons rfl rfl (.cons rfl rfl .nil))))) (.cons (by (rw [Zi]; rfl)) rfl (ag fj _ _) .nil)),?_⟩
  refine ⟨by show k0.k+1<=_; omega,by show (_++[_]).length=k0.k+1; rw [Zi,hL_k0]; rfl,fun y_ hy_=>(Zk.1 hy_).elim (hf_k0 y_) (fun hy_=>by rw [Zj.1 hy_]; exact (hr.2 _ (Ze _))),?_⟩
  exact sq hi_k0 hlt14 hje1 hjl1 (by simpa using hc22)
 refine ⟨.inr rfl,_,Kh.tmp Tryz.results78 ⟨[0],FzP.rows fj (Zj.2 rfl) rfl⟩,?_⟩
 exact absurd (sp h0 hi_k0 hge14) (by rw [hk]; exact fun h=>nomatch h)
theorem Qu (r:List GVal) (hr:bw r (fun y=>FitVal y)) (cs:List Int) (hcs:bw cs (fun y=>True)) (hin:InR r cs) (hcs2:cs.length<=1000) (v:List GVal) (hk:de r cs=some v):PRet Tryz.prog 78 [.tree 3 (r.map gvA),.tree 1 (cs.map iA)] (fun q=>q=.tree 3 (v.map gvA)):=by
 refine PRet.of_vc ao [19,26] [] Tryz.func78 rfl Tryz.ntmps78 rfl (by kernel_rfl) ?_
 refine LenG.of (cB (fun hc10=>?_) (fun hc10=>?_))
 ·have hq10:((r.length:Nat):Int)=(0:Int):=by simpa using hc10
  refine ⟨.inr rfl,_,Kh.tmp (ret:=.tree 3 []) Tryz.results78 ⟨[],FzP.nil⟩,?_⟩
  exact absurd (Bi (by simpa using hc10)) (by rw [hk]; exact fun h=>nomatch h)
 have hq10:¬ (((r.length:Nat):Int)=(0:Int)):=by simpa using hc10
 have h0:¬ r.length=0:=by simpa using hc10
 refine LenG.of (LpG.via (fun _ h=>bq 5 3 rfl 1 rfl h) ?_)
 refine LpG.on (fun k0:KL GVal=>(⟨fL [(0,.tree 3 (r.map gvA)),(5,.sl 0 k0.L.length 0 k0.L.length),(11,.tree 1 (cs.map iA)),(12,.v (.int .i64 ((cs.length:Nat):Int))),(13,.v (.int .i64 ((k0.k:Nat):Int)))],bl [(0,⟨k0.L.length,rF gvA k0.L,3,Nat.beq k0.L.length 0⟩)],1⟩:St)) (fun k0=>(cs.length - k0.k)) (fun k0=>(k0.k<=cs.length/\k0.L.length=k0.k/\(∀ x∈k0.L,FitVal x)/\(k0.L=(cs.take k0.k).map (a8 r)/\∀ c∈cs.take k0.k,(a8 r c).kind_≠0))) (⟨0,[]⟩:KL GVal) (cO (.cons rfl rfl (.cons (by rfl) rfl (.cons rfl rfl (.cons rfl rfl (.cons rfl rfl .nil))))) (.cons (by rfl) rfl (ag fj _ _) .nil)) ⟨Nat.zero_le _,rfl,by simp,⟨rfl,by simp⟩⟩ ?_
 rintro k0 hinv
 have hgr_k0:cs.length<=140737488355328:=hcs.1
 obtain ⟨hle_k0,hL_k0,hf_k0,hi_k0⟩:=hinv
 refine cL (fun hlt14=>?_) (fun hge14=>?_)
 ·obtain ⟨j1,hje1,hjl1⟩:=hin.at h0 hlt14
  refine IdxG.of (by assumption) (OpG.lk (ah Tryz.underlying26 vt rfl rfl hje1 hjl1) ?_)
  refine cB (fun hc22=>?_) (fun hc22=>?_)
  ·have hq22:(r[j1].kind_:Int)=(0:Int):=by simpa using hc22
   refine ⟨.inr rfl,_,Kh.tmp (ret:=.tree 3 []) Tryz.results78 ⟨[],FzP.nil⟩,?_⟩
   exact absurd (xr hlt14 hje1 hjl1 (by simpa using hc22)) (by rw [hk]; exact fun h=>nomatch h)
  have hq22:¬ ((r[j1].kind_:Int)=(0:Int)):=by simpa using hc22
  refine OpG.lk (ah Tryz.underlying26 vt rfl rfl hje1 hjl1) ?_
  refine OpG.mk _ _ _ 2 (aj fj (a:=r[j1]) Tryz.underlying26 vt V8 Wg rfl rfl rfl (az rfl rfl rfl rfl) rfl (by omega) (by omega) (by unfold TV; omega)) rfl rfl ?_
  refine ⟨by omega,?_⟩
  refine ⟨(⟨k0.k+1,k0.L++[r[j1]]⟩:KL GVal),(by show cs.length - (k0.k+1) < cs.length - k0.k; omega),(cO (.cons rfl rfl (.cons (by (rw [Zi]; rfl)) rfl (.cons rfl rfl (.cons rfl rfl (.cons rfl rfl .nil))))) (.cons (by (rw [Zi]; rfl)) rfl (ag fj _ _) .nil)),?_⟩
  refine ⟨by show k0.k+1<=_; omega,by show (_++[_]).length=k0.k+1; rw [Zi,hL_k0]; rfl,fun y_ hy_=>(Zk.1 hy_).elim (hf_k0 y_) (fun hy_=>by rw [Zj.1 hy_]; exact (hr.2 _ (Ze _))),?_⟩
  exact sq hi_k0 hlt14 hje1 hjl1 (by simpa using hc22)
 refine ⟨.inr rfl,_,Kh.tmp Tryz.results78 ⟨[0],FzP.rows fj (Zj.2 rfl) rfl⟩,?_⟩
 rw [Option.some.inj (hk.symm.trans (sp h0 hi_k0 hge14))]
theorem L7 (r:List GVal) (hr:bw r (fun y=>FitVal y)) (cs:List Int) (hcs:bw cs (fun y=>True)) (hin:InR r cs) (hcs2:cs.length<=1000):PRet Tryz.prog 78 [.tree 3 (r.map gvA),.tree 1 (cs.map iA)] (fun q=>q=.tree 3 (((de r cs).getD []).map gvA)):=by
 refine PRet.of_vc ao [19,26] [] Tryz.func78 rfl Tryz.ntmps78 rfl (by kernel_rfl) ?_
 refine LenG.of (cB (fun hc10=>?_) (fun hc10=>?_))
 ·have hq10:((r.length:Nat):Int)=(0:Int):=by simpa using hc10
  refine ⟨.inr rfl,_,Kh.tmp (ret:=.tree 3 []) Tryz.results78 ⟨[],FzP.nil⟩,?_⟩
  rw [Bi (by simpa using hc10)]; rfl
 have hq10:¬ (((r.length:Nat):Int)=(0:Int)):=by simpa using hc10
 have h0:¬ r.length=0:=by simpa using hc10
 refine LenG.of (LpG.via (fun _ h=>bq 5 3 rfl 1 rfl h) ?_)
 refine LpG.on (fun k0:KL GVal=>(⟨fL [(0,.tree 3 (r.map gvA)),(5,.sl 0 k0.L.length 0 k0.L.length),(11,.tree 1 (cs.map iA)),(12,.v (.int .i64 ((cs.length:Nat):Int))),(13,.v (.int .i64 ((k0.k:Nat):Int)))],bl [(0,⟨k0.L.length,rF gvA k0.L,3,Nat.beq k0.L.length 0⟩)],1⟩:St)) (fun k0=>(cs.length - k0.k)) (fun k0=>(k0.k<=cs.length/\k0.L.length=k0.k/\(∀ x∈k0.L,FitVal x)/\(k0.L=(cs.take k0.k).map (a8 r)/\∀ c∈cs.take k0.k,(a8 r c).kind_≠0))) (⟨0,[]⟩:KL GVal) (cO (.cons rfl rfl (.cons (by rfl) rfl (.cons rfl rfl (.cons rfl rfl (.cons rfl rfl .nil))))) (.cons (by rfl) rfl (ag fj _ _) .nil)) ⟨Nat.zero_le _,rfl,by simp,⟨rfl,by simp⟩⟩ ?_
 rintro k0 hinv
 have hgr_k0:cs.length<=140737488355328:=hcs.1
 obtain ⟨hle_k0,hL_k0,hf_k0,hi_k0⟩:=hinv
 refine cL (fun hlt14=>?_) (fun hge14=>?_)
 ·obtain ⟨j1,hje1,hjl1⟩:=hin.at h0 hlt14
  refine IdxG.of (by assumption) (OpG.lk (ah Tryz.underlying26 vt rfl rfl hje1 hjl1) ?_)
  refine cB (fun hc22=>?_) (fun hc22=>?_)
  ·have hq22:(r[j1].kind_:Int)=(0:Int):=by simpa using hc22
   refine ⟨.inr rfl,_,Kh.tmp (ret:=.tree 3 []) Tryz.results78 ⟨[],FzP.nil⟩,?_⟩
   rw [xr hlt14 hje1 hjl1 (by simpa using hc22)]; rfl
  have hq22:¬ ((r[j1].kind_:Int)=(0:Int)):=by simpa using hc22
  refine OpG.lk (ah Tryz.underlying26 vt rfl rfl hje1 hjl1) ?_
  refine OpG.mk _ _ _ 2 (aj fj (a:=r[j1]) Tryz.underlying26 vt V8 Wg rfl rfl rfl (az rfl rfl rfl rfl) rfl (by omega) (by omega) (by unfold TV; omega)) rfl rfl ?_
  refine ⟨by omega,?_⟩
  refine ⟨(⟨k0.k+1,k0.L++[r[j1]]⟩:KL GVal),(by show cs.length - (k0.k+1) < cs.length - k0.k; omega),(cO (.cons rfl rfl (.cons (by (rw [Zi]; rfl)) rfl (.cons rfl rfl (.cons rfl rfl (.cons rfl rfl .nil))))) (.cons (by (rw [Zi]; rfl)) rfl (ag fj _ _) .nil)),?_⟩
  refine ⟨by show k0.k+1<=_; omega,by show (_++[_]).length=k0.k+1; rw [Zi,hL_k0]; rfl,fun y_ hy_=>(Zk.1 hy_).elim (hf_k0 y_) (fun hy_=>by rw [Zj.1 hy_]; exact (hr.2 _ (Ze _))),?_⟩
  exact sq hi_k0 hlt14 hje1 hjl1 (by simpa using hc22)
 refine ⟨.inr rfl,_,Kh.tmp Tryz.results78 ⟨[0],FzP.rows fj (Zj.2 rfl) rfl⟩,?_⟩
 rw [sp h0 hi_k0 hge14]; rfl
theorem Er (r:List GVal) (hr:bw r (fun y=>FitVal y)) (o:List GVal) (ho:bw o (fun y=>FitVal y)) (cs:List Int) (hcs:bw cs (fun y=>True)) (hin:InR r cs) (hin2:InR o cs) (hcs2:cs.length<=1000) (hk:de r cs=none):PRet Tryz.prog 37 [.tree 3 (r.map gvA),.tree 3 (o.map gvA),.tree 1 (cs.map iA)] (fun q=>∃ b:Bool,q=.tup [.tree 3 (((de r cs).getD []).map gvA),.v (.bool b)]/\cw r o cs=bif b then some ((de r cs).getD []) else none):=by
 refine PRet.of_vc ao [14] [] Tryz.func37 rfl Tryz.ntmps37 rfl (by kernel_rfl) (ArgG.mk (L9 r hr cs hcs hin hcs2 hk) rfl ?_)
 rintro _ rfl
 refine OpG.lk (Ft rfl rfl Tryz.underlying26) (cF ?_)
 exact ⟨.inr rfl,_,ab Tryz.results37 (O3.tmp (ret:=.tree 3 []) ⟨[],FzP.nil⟩) (O3.tmp ⟨[],FzP.pure rfl⟩),⟨false,by rw [hk]; rfl,wj hk⟩⟩
theorem Ep (r:List GVal) (hr:bw r (fun y=>FitVal y)) (o:List GVal) (ho:bw o (fun y=>FitVal y)) (cs:List Int) (hcs:bw cs (fun y=>True)) (hin:InR r cs) (hin2:InR o cs) (hcs2:cs.length<=1000) (hcs0:0 < cs.length) (hk:(de r cs).isSome=true):PRet Tryz.prog 37 [.tree 3 (r.map gvA),.tree 3 (o.map gvA),.tree 1 (cs.map iA)] (fun q=>∃ b:Bool,q=.tup [.tree 3 (((de r cs).getD []).map gvA),.v (.bool b)]/\cw r o cs=bif b then some ((de r cs).getD []) else none):=by
 obtain ⟨v,hv⟩:=Option.isSome_iff_exists.1 hk
 have hvl:=ml hv
 have hvf:bw v (fun y=>FitVal y):=by have:=la hr hcs2; rw [hv] at this; exact this
 refine PRet.of_vc ao [14] [] Tryz.func37 rfl Tryz.ntmps37 rfl (by kernel_rfl) (ArgG.mk (Qu r hr cs hcs hin hcs2 v hv) rfl ?_)
 rintro _ rfl
 refine OpG.lk (Fs rfl rfl Tryz.underlying26 (by rw [Zl]; omega)) (cT ?_)
 refine ArgG.mk (L7 o ho cs hcs hin2 hcs2) rfl ?_
 rintro _ rfl
 refine ArgG.mk (E8 v hvf ((de o cs).getD []) (la ho hcs2)) rfl ?_
 rintro _ ⟨b2,rfl,hb2⟩
 exact ⟨.inr rfl,_,ab Tryz.results37 (O3.tmp ⟨[],FzP.pure rfl⟩) (O3.tmp ⟨[],FzP.pure rfl⟩),⟨_,by rw [hv]; rfl,by rw [hv]; exact Mg hv hcs0 hb2⟩⟩
theorem Bc (r:List GVal) (hr:bw r (fun y=>FitVal y)) (o:List GVal) (ho:bw o (fun y=>FitVal y)) (cs:List Int) (hcs:bw cs (fun y=>True)) (hin:InR r cs) (hin2:InR o cs) (hcs2:cs.length<=1000) (hcs0:0 < cs.length):PRet Tryz.prog 37 [.tree 3 (r.map gvA),.tree 3 (o.map gvA),.tree 1 (cs.map iA)] (fun q=>∃ b:Bool,q=.tup [.tree 3 (((de r cs).getD []).map gvA),.v (.bool b)]/\cw r o cs=bif b then some ((de r cs).getD []) else none):=by
 cases hk:(de r cs).isSome with
 | true=>exact Ep r hr o ho cs hcs hin hin2 hcs2 hcs0 hk
 | false=>exact Er r hr o ho cs hcs hin hin2 hcs2 (by simpa using hk)
theorem Rp (s:List GTab) (hs:bw s (fun y=>FitTab y)) (l:List GChg) (hl:bw l (fun y=>FitChg y)) (hss:SchS s) (hcl:∀ c∈l,O6 s c) (hl6:l.length<=6):PRet Tryz.prog 16 [.tree 5 (s.map ef),.tree 4 (l.map o6)] (fun q=>q=.tree 3 ((ka s l).map rdA)):=by
 have hf10:∀ x∈s,x.foreign_.length<=10:=fun x hx=>(hss.tab x hx).sm.fors
 have hs4:=hss.len
 refine PRet.of_vc ao [36,100,105,150,158,177,192] [] Tryz.func16 rfl Tryz.ntmps16 rfl (by kernel_rfl) ?_
 refine LpG.via (fun _ h=>bq 5 3 rfl 1 rfl h) ?_
 refine LpG.on (fun k0:KW GRd=>(⟨fL [(0,.tree 5 (s.map ef)),(1,.tree 4 (l.map o6)),(5,.sl 0 k0.v 0 k0.L.length),(6,.v (.int .i64 ((k0.k:Nat):Int)))],bl [(0,⟨k0.v,rF rdA k0.L,3,Nat.beq k0.L.length 0⟩)],1⟩:St)) (fun k0=>(l.length - k0.k)) (fun k0=>(k0.k<=l.length/\(k0.L=ka s (l.take k0.k)/\k0.L.length<=500 * k0.k/\k0.v<=500 * k0.k))) (⟨0,[],0⟩:KW GRd) (cO (.cons rfl rfl (.cons rfl rfl (.cons (by rfl) rfl (.cons rfl rfl .nil)))) (.cons (by rfl) rfl (ag cq _ _) .nil)) ⟨Nat.zero_le _,⟨rfl,Nat.le_refl _,Nat.le_refl _⟩⟩ ?_
 rintro k0 hinv
 have hgr_k0:l.length<=140737488355328:=hl.1
 obtain ⟨hle_k0,hi_k0⟩:=hinv
 refine LenG.of (cB (fun hc26=>?_) (fun hc26=>?_))
 ·have hlt26:k0.k < l.length:=Int.ofNat_lt.1 (of_decide_eq_true hc26)
  obtain ⟨j1,hj1,hjs,hold,hnew⟩:=hcl _ (Ze hlt26)
  have hcf:=hl.2 _ (Ze hlt26)
  have htb:=hss.tab _ (Ze hjs)
  have hm2:=htb.sm.keys
  have hm3:=htb.sm.fors
  have hvk:=(hss.v j1 hjs).keys
  have hvf:=(hss.v j1 hjs).fors
  have hlt0:=hi_k0.2
  refine IdxG.of (by assumption) (OpG.lk (ah Tryz.underlying23 sy rfl rfl hj1 hjs) ?_)
  refine LpG.on (fun k2:KW GRd=>(⟨fL [(0,.tree 5 (s.map ef)),(1,.tree 4 (l.map o6)),(5,.sl 0 k2.v 0 k2.L.length),(6,.v (.int .i64 ((k0.k:Nat):Int))),(7,.ptr 1 0 0),(8,.ptr 2 0 0),(9,.v (.int .i64 ((k2.k:Nat):Int)))],bl [(0,⟨k2.v,rF rdA k2.L,3,Nat.beq k2.L.length 0⟩),(1,⟨0,o6 l[k0.k],0,false⟩),(2,⟨0,ef s[j1],0,false⟩)],3⟩:St)) (fun k2=>(s[j1].keys_.length - k2.k)) (fun k2=>(k2.k<=s[j1].keys_.length/\(k2.L=k0.L++kA l[k0.k] s[j1].keys_ k2.k/\k2.v<=k0.v+k2.k))) (⟨0,k0.L,k0.v⟩:KW GRd) (cO (.cons rfl rfl (.cons rfl rfl (.cons (by rfl) rfl (.cons rfl rfl (.cons rfl rfl (.cons rfl rfl (.cons rfl rfl .nil))))))) (.cons (by rfl) rfl (ag cq _ _) (.cons rfl rfl rfl (.cons rfl rfl rfl .nil)))) ⟨Nat.zero_le _,⟨(List.append_nil _).symm,Nat.le_refl _⟩⟩ ?_
  rintro k2 hinv
  have hgr_k2:s[j1].keys_.length<=140737488355328:=(hs.2 _ (Ze _)).keys_.1
  obtain ⟨hle_k2,hi_k2⟩:=hinv
  refine LenG.of (cB (fun hc42=>?_) (fun hc42=>?_))
  ·have hlt42:k2.k < s[j1].keys_.length:=Int.ofNat_lt.1 (of_decide_eq_true hc42)
   have hkf:=(hs.2 _ (Ze hjs)).keys_.2 _ (Ze hlt42)
   have hkc:=hvk _ (Ze hlt42)
   have hk20:=htb.sm.key _ (Ze hlt42)
   have hin1:=lq hnew hkc
   have hin2:=lq hold hkc
   have hLl:k2.L.length<=k0.L.length+k2.k:=by rw [hi_k2.1,Zi]; have:=wh (c:=l[k0.k]) (K:=s[j1].keys_) k2.k; omega
   have:=hi_k2.2
   refine IdxG.of (by assumption) (ArgG.mk (uj l[k0.k].new_ hcf.new_ l[k0.k].old_ hcf.old_ s[j1].keys_[k2.k] hkf hin1 hin2 (by omega)) rfl ?_)
   rintro _ ⟨b0,rfl,hf0⟩
   refine ⟨by kernel_rfl,?_⟩
   refine cB (fun hc58=>?_) (fun hc58=>?_)
   ·have hfr:=Tt hf0 hc58
    refine IdxG.of (by assumption) (OpG.mk _ _ _ 4 (aj cq (a:=(⟨l[k0.k].table_,s[j1].keys_[k2.k],((de l[k0.k].new_ s[j1].keys_[k2.k]).getD [])⟩:GRd)) Tryz.underlying72 Pk O7 Rv rfl rfl rfl (az rfl rfl rfl rfl) rfl (by omega) (by omega) (by unfold TV; omega)) rfl rfl ?_)
    refine ⟨by kernel_rfl,?_⟩
    refine ⟨by omega,?_⟩
    refine ⟨(⟨k2.k+1,k2.L++[(⟨l[k0.k].table_,s[j1].keys_[k2.k],((de l[k0.k].new_ s[j1].keys_[k2.k]).getD [])⟩:GRd)],k2.v+1⟩:KW GRd),(by show s[j1].keys_.length - (k2.k+1) < s[j1].keys_.length - k2.k; omega),(cO (.cons rfl rfl (.cons rfl rfl (.cons (by rfl) rfl (.cons rfl rfl (.cons rfl rfl (.cons rfl rfl (.cons rfl rfl .nil))))))) (.cons (by rfl) rfl (ag cq _ _) (.cons rfl rfl rfl (.cons rfl rfl rfl .nil)))),?_⟩
    refine ⟨by show k2.k+1<=_; omega,?_⟩
    exact ⟨kA_1 hlt42 hi_k2.1 hfr,by show k2.v+1<=k0.v+(k2.k+1); have:=hi_k2.2; omega⟩
   have hfr:=Tu hf0 hc58
   refine ⟨by omega,?_⟩
   refine ⟨(⟨k2.k+1,k2.L,k2.v⟩:KW GRd),(by show s[j1].keys_.length - (k2.k+1) < s[j1].keys_.length - k2.k; omega),(cO (.cons rfl rfl (.cons rfl rfl (.cons (by rfl) rfl (.cons rfl rfl (.cons rfl rfl (.cons rfl rfl (.cons rfl rfl .nil))))))) (.cons (by rfl) rfl (ag cq _ _) (.cons rfl rfl rfl (.cons rfl rfl rfl .nil)))),?_⟩
   refine ⟨by show k2.k+1<=_; omega,?_⟩
   exact ⟨kA_0 hlt42 hi_k2.1 hfr,by show k2.v<=k0.v+(k2.k+1); have:=hi_k2.2; omega⟩
  have hge42:¬ k2.k < s[j1].keys_.length:=fun h=>of_decide_eq_false hc42 (Int.ofNat_lt.2 h)
  have hL2:k2.L.length<=k0.L.length+k2.k:=by rw [hi_k2.1,Zi]; have:=wh (c:=l[k0.k]) (K:=s[j1].keys_) k2.k; omega
  refine LpG.on (fun k4:KW GRd=>(⟨fL [(0,.tree 5 (s.map ef)),(1,.tree 4 (l.map o6)),(5,.sl 0 k4.v 0 k4.L.length),(6,.v (.int .i64 ((k0.k:Nat):Int))),(7,.ptr 1 0 0),(8,.ptr 2 0 0),(12,.v (.int .i64 ((k4.k:Nat):Int)))],bl [(0,⟨k4.v,rF rdA k4.L,3,Nat.beq k4.L.length 0⟩),(1,⟨0,o6 l[k0.k],0,false⟩),(2,⟨0,ef s[j1],0,false⟩)],3⟩:St)) (fun k4=>(s[j1].foreign_.length - k4.k)) (fun k4=>(k4.k<=s[j1].foreign_.length/\(k4.L=k2.L++fA s l[k0.k] s[j1].foreign_ k4.k/\k4.v<=k2.v+k4.k))) (⟨0,k2.L,k2.v⟩:KW GRd) (cO (.cons rfl rfl (.cons rfl rfl (.cons (by rfl) rfl (.cons rfl rfl (.cons rfl rfl (.cons rfl rfl (.cons rfl rfl .nil))))))) (.cons (by rfl) rfl (ag cq _ _) (.cons rfl rfl rfl (.cons rfl rfl rfl .nil)))) ⟨Nat.zero_le _,⟨(List.append_nil _).symm,Nat.le_refl _⟩⟩ ?_
  rintro k4 hinv
  have hgr_k4:s[j1].foreign_.length<=140737488355328:=(hs.2 _ (Ze _)).foreign_.1
  obtain ⟨hle_k4,hi_k4⟩:=hinv
  refine LenG.of (cB (fun hc75=>?_) (fun hc75=>?_))
  ·have hlt75:k4.k < s[j1].foreign_.length:=Int.ofNat_lt.1 (of_decide_eq_true hc75)
   have hff:=((hs.2 _ (Ze hjs)).foreign_.2 _ (Ze hlt75)).columns_
   have hkc:=(hvf _ (Ze hlt75)).cols
   have hk20:=htb.sm.fcol _ (Ze hlt75)
   have hin1:=lq hnew hkc
   have hin2:=lq hold hkc
   obtain ⟨j2,q2,hj2,hq2,hjs2,hqs2,hlen2,htyp2⟩:=(hss.w.fork _ (Ze hjs) _ (Ze hlt75)).tab
   have hLl:k4.L.length<=k2.L.length+k4.k:=by rw [hi_k4.1,Zi]; have:=wn (s:=s) (c:=l[k0.k]) (F:=s[j1].foreign_) k4.k; omega
   have:=hi_k2.2
   have:=hi_k4.2
   refine IdxG.of (by assumption) (ArgG.mk (uj l[k0.k].new_ hcf.new_ l[k0.k].old_ hcf.old_ s[j1].foreign_[k4.k].columns_ hff hin1 hin2 (by omega)) rfl ?_)
   rintro _ ⟨b1,rfl,hf1⟩
   refine cB (fun hc93=>?_) (fun hc93=>?_)
   ·have hfr:=Tt hf1 hc93
    refine OpG.lk (ah Tryz.underlying23 sy rfl rfl hj2 hjs2) ?_
    refine OpG.lk (ah Tryz.underlying31 Wa rfl rfl hq2 hqs2) ?_
    refine OpG.mk _ _ _ 5 (aj cq (a:=(⟨s[j1].foreign_[k4.k].table_,s[j2].keys_[q2],((de l[k0.k].new_ s[j1].foreign_[k4.k].columns_).getD [])⟩:GRd)) Tryz.underlying72 Pk O7 Rv rfl rfl rfl (az rfl rfl rfl rfl) rfl (by omega) (by omega) (by unfold TV; omega)) rfl rfl ?_
    refine ⟨by kernel_rfl,?_⟩
    refine ⟨by omega,?_⟩
    refine ⟨(⟨k4.k+1,k4.L++[(⟨s[j1].foreign_[k4.k].table_,s[j2].keys_[q2],((de l[k0.k].new_ s[j1].foreign_[k4.k].columns_).getD [])⟩:GRd)],k4.v+1⟩:KW GRd),(by show s[j1].foreign_.length - (k4.k+1) < s[j1].foreign_.length - k4.k; omega),(cO (.cons rfl rfl (.cons rfl rfl (.cons (by rfl) rfl (.cons rfl rfl (.cons rfl rfl (.cons rfl rfl (.cons rfl rfl .nil))))))) (.cons (by rfl) rfl (ag cq _ _) (.cons rfl rfl rfl (.cons rfl rfl rfl .nil)))),?_⟩
    refine ⟨by show k4.k+1<=_; omega,?_⟩
    exact ⟨fA_1 hlt75 hi_k4.1 hfr hj2 hq2 hjs2 hqs2,by show k4.v+1<=k2.v+(k4.k+1); have:=hi_k4.2; omega⟩
   have hfr:=Tu hf1 hc93
   refine ⟨by omega,?_⟩
   refine ⟨(⟨k4.k+1,k4.L,k4.v⟩:KW GRd),(by show s[j1].foreign_.length - (k4.k+1) < s[j1].foreign_.length - k4.k; omega),(cO (.cons rfl rfl (.cons rfl rfl (.cons (by rfl) rfl (.cons rfl rfl (.cons rfl rfl (.cons rfl rfl (.cons rfl rfl .nil))))))) (.cons (by rfl) rfl (ag cq _ _) (.cons rfl rfl rfl (.cons rfl rfl rfl .nil)))),?_⟩
   refine ⟨by show k4.k+1<=_; omega,?_⟩
   exact ⟨fA_0 hlt75 hi_k4.1 hfr,by show k4.v<=k2.v+(k4.k+1); have:=hi_k4.2; omega⟩
  have hge75:¬ k4.k < s[j1].foreign_.length:=fun h=>of_decide_eq_false hc75 (Int.ofNat_lt.2 h)
  have hL4:k4.L.length<=k2.L.length+k4.k:=by rw [hi_k4.1,Zi]; have:=wn (s:=s) (c:=l[k0.k]) (F:=s[j1].foreign_) k4.k; omega
  have hrl:(gl s l[k0.k].table_).length<=40:=by have:=m8 (t:=l[k0.k].table_) hf10 s.length; have h4:=hss.len; unfold gl; omega
  refine ArgG.mk (xf s hs l[k0.k].table_ (by omega) hf10) rfl ?_
  rintro _ rfl
  refine LpG.on (fun k6:KW GRd=>(⟨fL [(0,.tree 5 (s.map ef)),(1,.tree 4 (l.map o6)),(5,.sl 0 k6.v 0 k6.L.length),(6,.v (.int .i64 ((k0.k:Nat):Int))),(7,.ptr 1 0 0),(8,.ptr 2 0 0),(16,.tree 2 (((gl s l[k0.k].table_)).map paA)),(17,.v (.int .i64 ((k6.k:Nat):Int)))],bl [(0,⟨k6.v,rF rdA k6.L,3,Nat.beq k6.L.length 0⟩),(1,⟨0,o6 l[k0.k],0,false⟩),(2,⟨0,ef s[j1],0,false⟩)],3⟩:St)) (fun k6=>(s[j1].keys_.length - k6.k)) (fun k6=>(k6.k<=s[j1].keys_.length/\(k6.L=k4.L++oA s l[k0.k] s[j1].keys_ (gl s l[k0.k].table_) k6.k/\k6.v<=k4.v+2 * k6.k))) (⟨0,k4.L,k4.v⟩:KW GRd) (cO (.cons rfl rfl (.cons rfl rfl (.cons (by rfl) rfl (.cons rfl rfl (.cons rfl rfl (.cons rfl rfl (.cons rfl rfl (.cons rfl rfl .nil)))))))) (.cons (by rfl) rfl (ag cq _ _) (.cons rfl rfl rfl (.cons rfl rfl rfl .nil)))) ⟨Nat.zero_le _,⟨(List.append_nil _).symm,Nat.le_refl _⟩⟩ ?_
  rintro k6 hinv
  have hgr_k6:s[j1].keys_.length<=140737488355328:=(hs.2 _ (Ze _)).keys_.1
  obtain ⟨hle_k6,hi_k6⟩:=hinv
  refine LenG.of (cB (fun hc119=>?_) (fun hc119=>?_))
  ·have hlt119:k6.k < s[j1].keys_.length:=Int.ofNat_lt.1 (of_decide_eq_true hc119)
   have hkf:=(hs.2 _ (Ze hjs)).keys_.2 _ (Ze hlt119)
   have hkc:=hvk _ (Ze hlt119)
   have hk20:=htb.sm.key _ (Ze hlt119)
   have hin1:=lq hnew hkc
   have hin2:=lq hold hkc
   have hLl:k6.L.length<=k4.L.length+41 * k6.k:=by rw [hi_k6.1,Zi]; have:=we (s:=s) (c:=l[k0.k]) (K:=s[j1].keys_) (R:=(gl s l[k0.k].table_)) k6.k; have h2:((gl s l[k0.k].table_).length+1) * k6.k<=41 * k6.k:=Nat.mul_le_mul_right _ (by omega); omega
   have:=hi_k2.2; have:=hi_k4.2; have:=hi_k6.2
   refine IdxG.of (by assumption) (ArgG.mk (uj l[k0.k].old_ hcf.old_ l[k0.k].new_ hcf.new_ s[j1].keys_[k6.k] hkf hin2 hin1 (by omega)) rfl ?_)
   rintro _ ⟨b3,rfl,hf3⟩
   refine ⟨by kernel_rfl,?_⟩
   refine LpG.via (fun _ h=>bq 20 3 rfl 4 rfl h) ?_
   refine LpG.on (fun k8:KL GRd=>(⟨fL [(0,.tree 5 (s.map ef)),(1,.tree 4 (l.map o6)),(5,.sl 0 k6.v 0 k6.L.length),(6,.v (.int .i64 ((k0.k:Nat):Int))),(7,.ptr 1 0 0),(8,.ptr 2 0 0),(16,.tree 2 (((gl s l[k0.k].table_)).map paA)),(17,.v (.int .i64 ((k6.k:Nat):Int))),(18,.tree 3 ((((de l[k0.k].old_ s[j1].keys_[k6.k]).getD [])).map gvA)),(19,.v (.bool b3)),(20,.sl 3 k8.L.length 0 k8.L.length),(21,.v (.int .i64 ((k8.k:Nat):Int)))],bl [(0,⟨k6.v,rF rdA k6.L,3,Nat.beq k6.L.length 0⟩),(1,⟨0,o6 l[k0.k],0,false⟩),(2,⟨0,ef s[j1],0,false⟩),(3,⟨k8.L.length,rF rdA k8.L,3,Nat.beq k8.L.length 0⟩)],4⟩:St)) (fun k8=>(((gl s l[k0.k].table_)).length - k8.k)) (fun k8=>(k8.k<=((gl s l[k0.k].table_)).length/\(k8.L=rA s ((de l[k0.k].old_ s[j1].keys_[k6.k]).getD []) k6.k (gl s l[k0.k].table_) k8.k/\(b3=true\/k8.k=0)))) (⟨0,[]⟩:KL GRd) (cO (.cons rfl rfl (.cons rfl rfl (.cons rfl rfl (.cons rfl rfl (.cons rfl rfl (.cons rfl rfl (.cons rfl rfl (.cons rfl rfl (.cons rfl rfl (.cons rfl rfl (.cons (by rfl) rfl (.cons rfl rfl .nil)))))))))))) (.cons rfl rfl (ag cq _ _) (.cons rfl rfl rfl (.cons rfl rfl rfl (.cons (by rfl) rfl (ag cq _ _) .nil))))) ⟨Nat.zero_le _,⟨rfl,.inr rfl⟩⟩ ?_
   rintro k8 hinv
   obtain ⟨hle_k8,hi_k8⟩:=hinv
   refine LenG.of (cB (fun hg139=>?_) (fun hg139=>?_))
   ·have hlt139:k8.k < ((gl s l[k0.k].table_)).length:=Int.ofNat_lt.1 (of_decide_eq_true hg139)
    refine cB (fun hc141=>?_) (fun hc141=>?_)
    ·have hbt:b3=true:=by simpa using hc141
     obtain ⟨j3,m3,hj3,hm3,hjs3,hms3,htab3⟩:=si (Nat.le_refl _) (Ze (l:=(gl s l[k0.k].table_)) hlt139)
     have hl8:k8.L.length<=k8.k:=by rw [hi_k8.1]; exact v7 _
     refine IdxG.of (by assumption) (OpG.lk (ee Tryz.underlying113 sz3 rfl rfl rfl) ?_)
     refine OpG.lk (ah Tryz.underlying23 sy rfl rfl hj3 hjs3) ?_
     refine IdxG.of (by assumption) (OpG.lk (ee Tryz.underlying113 sz3 rfl rfl rfl) ?_)
     refine OpG.lk (ah Tryz.underlying32 Kw rfl rfl hm3 hms3) ?_
     refine ⟨by kernel_rfl,?_⟩
     refine cB (fun hc163=>?_) (fun hc163=>?_)
     ·have hq163:(s[j3].foreign_[m3].key_:Int)=((k6.k:Nat):Int):=by simpa using hc163
      refine IdxG.of (by assumption) (OpG.lk (ee Tryz.underlying113 sz3 rfl rfl rfl) ?_)
      refine OpG.mk _ _ _ 6 (aj cq (a:=(⟨(gl s l[k0.k].table_)[k8.k].1,s[j3].foreign_[m3].columns_,((de l[k0.k].old_ s[j1].keys_[k6.k]).getD [])⟩:GRd)) Tryz.underlying72 Pk O7 Rv rfl rfl rfl (az rfl rfl rfl rfl) rfl (by omega) (by omega) (by unfold TV; omega)) rfl rfl ?_
      refine ⟨by kernel_rfl,?_⟩
      refine ⟨by omega,?_⟩
      refine ⟨(⟨k8.k+1,k8.L++[(⟨(gl s l[k0.k].table_)[k8.k].1,s[j3].foreign_[m3].columns_,((de l[k0.k].old_ s[j1].keys_[k6.k]).getD [])⟩:GRd)]⟩:KL GRd),(by show ((gl s l[k0.k].table_)).length - (k8.k+1) < ((gl s l[k0.k].table_)).length - k8.k; omega),(cO (.cons rfl rfl (.cons rfl rfl (.cons rfl rfl (.cons rfl rfl (.cons rfl rfl (.cons rfl rfl (.cons rfl rfl (.cons rfl rfl (.cons rfl rfl (.cons rfl rfl (.cons (by (rw [Zi]; rfl)) rfl (.cons rfl rfl .nil)))))))))))) (.cons rfl rfl (ag cq _ _) (.cons rfl rfl rfl (.cons rfl rfl rfl (.cons (by (rw [Zi]; rfl)) rfl (ag cq _ _) .nil))))),?_⟩
      refine ⟨by show k8.k+1<=_; omega,?_⟩
      exact ⟨(by rw [Xh hlt139 hj3 hm3 hjs3 hms3 (by simpa using hc163),<- hi_k8.1]),.inl hbt⟩
     have hq163:¬ ((s[j3].foreign_[m3].key_:Int)=((k6.k:Nat):Int)):=by simpa using hc163
     refine ⟨by omega,?_⟩
     refine ⟨(⟨k8.k+1,k8.L⟩:KL GRd),(by show ((gl s l[k0.k].table_)).length - (k8.k+1) < ((gl s l[k0.k].table_)).length - k8.k; omega),(cO (.cons rfl rfl (.cons rfl rfl (.cons rfl rfl (.cons rfl rfl (.cons rfl rfl (.cons rfl rfl (.cons rfl rfl (.cons rfl rfl (.cons rfl rfl (.cons rfl rfl (.cons (by rfl) rfl (.cons rfl rfl .nil)))))))))))) (.cons rfl rfl (ag cq _ _) (.cons rfl rfl rfl (.cons rfl rfl rfl (.cons (by rfl) rfl (ag cq _ _) .nil))))),?_⟩
     refine ⟨by show k8.k+1<=_; omega,?_⟩
     exact ⟨(by rw [rA_0 hlt139 hj3 hm3 hjs3 hms3 (by simpa using hc163)]; exact hi_k8.1),.inl hbt⟩
    have hx8:b3=false:=by simpa using hc141
    have hl8:k8.L.length<=k8.k:=by rw [hi_k8.1]; exact v7 _
    refine OpG.lk (nk rfl Tryz.underlying72 rfl rfl rfl) ?_
    refine cB (fun hc178=>?_) (fun hc178=>?_)
    ·have hq178:((k8.L.length:Nat):Int) > (0:Int):=of_decide_eq_true hc178
     refine IdxG.of (by assumption) (OpG.mk _ _ _ 5 (aj cq (a:=(⟨l[k0.k].table_,s[j1].keys_[k6.k],((de l[k0.k].old_ s[j1].keys_[k6.k]).getD [])⟩:GRd)) Tryz.underlying72 Pk O7 Rv rfl rfl rfl (az rfl rfl rfl rfl) rfl (by omega) (by omega) (by unfold TV; omega)) rfl rfl ?_)
     refine OpG.mk _ _ _ 5 (m0 cq (l:=k6.L++[(⟨l[k0.k].table_,s[j1].keys_[k6.k],((de l[k0.k].old_ s[j1].keys_[k6.k]).getD [])⟩:GRd)]) (l':=k8.L) Tryz.underlying72 Pk O7 Rv rfl rfl rfl (by simp) rfl rfl (by simp only [Zi,List.length_cons,List.length_nil]; omega) (by simp only [Zi,List.length_cons,List.length_nil]; omega) (by unfold TV; omega)) rfl rfl ?_
     refine ⟨by kernel_rfl,?_⟩
     refine ⟨by omega,?_⟩
     refine ⟨(⟨k6.k+1,k6.L++[(⟨l[k0.k].table_,s[j1].keys_[k6.k],((de l[k0.k].old_ s[j1].keys_[k6.k]).getD [])⟩:GRd)]++k8.L,k6.v+2⟩:KW GRd),(by show s[j1].keys_.length - (k6.k+1) < s[j1].keys_.length - k6.k; omega),(cO (.cons rfl rfl (.cons rfl rfl (.cons (by rfl) rfl (.cons rfl rfl (.cons rfl rfl (.cons rfl rfl (.cons rfl rfl (.cons rfl rfl .nil)))))))) (.cons (by rfl) rfl (ag cq _ _) (.cons rfl rfl rfl (.cons rfl rfl rfl .nil)))),?_⟩
     refine ⟨by show k6.k+1<=_; omega,?_⟩
     exact ⟨oA_1 hlt119 hi_k6.1 hf3 hi_k8 hle_k8 (by first | exact .inl hx8 | exact .inr hx8) (by omega),by show k6.v+2<=k4.v+2 * (k6.k+1); have:=hi_k6.2; omega⟩
    have hq178:¬ (((k8.L.length:Nat):Int) > (0:Int)):=of_decide_eq_false hc178
    refine ⟨by omega,?_⟩
    refine ⟨(⟨k6.k+1,k6.L,k6.v⟩:KW GRd),(by show s[j1].keys_.length - (k6.k+1) < s[j1].keys_.length - k6.k; omega),(cO (.cons rfl rfl (.cons rfl rfl (.cons (by rfl) rfl (.cons rfl rfl (.cons rfl rfl (.cons rfl rfl (.cons rfl rfl (.cons rfl rfl .nil)))))))) (.cons (by rfl) rfl (ag cq _ _) (.cons rfl rfl rfl (.cons rfl rfl rfl .nil)))),?_⟩
    refine ⟨by show k6.k+1<=_; omega,?_⟩
    exact ⟨oA_0 hlt119 hi_k6.1 hf3 hi_k8 hle_k8 (by first | exact .inl hx8 | exact .inr hx8) (by omega),by show k6.v<=k4.v+2 * (k6.k+1); have:=hi_k6.2; omega⟩
   have hge139:¬ k8.k < ((gl s l[k0.k].table_)).length:=fun h=>of_decide_eq_false hg139 (Int.ofNat_lt.2 h)
   have hx8:=hge139
   have hl8:k8.L.length<=k8.k:=by rw [hi_k8.1]; exact v7 _
   refine cF (OpG.lk (nk rfl Tryz.underlying72 rfl rfl rfl) ?_)
   refine cB (fun hc178=>?_) (fun hc178=>?_)
   ·have hq178:((k8.L.length:Nat):Int) > (0:Int):=of_decide_eq_true hc178
    refine IdxG.of (by assumption) (OpG.mk _ _ _ 5 (aj cq (a:=(⟨l[k0.k].table_,s[j1].keys_[k6.k],((de l[k0.k].old_ s[j1].keys_[k6.k]).getD [])⟩:GRd)) Tryz.underlying72 Pk O7 Rv rfl rfl rfl (az rfl rfl rfl rfl) rfl (by omega) (by omega) (by unfold TV; omega)) rfl rfl ?_)
    refine OpG.mk _ _ _ 5 (m0 cq (l:=k6.L++[(⟨l[k0.k].table_,s[j1].keys_[k6.k],((de l[k0.k].old_ s[j1].keys_[k6.k]).getD [])⟩:GRd)]) (l':=k8.L) Tryz.underlying72 Pk O7 Rv rfl rfl rfl (by simp) rfl rfl (by simp only [Zi,List.length_cons,List.length_nil]; omega) (by simp only [Zi,List.length_cons,List.length_nil]; omega) (by unfold TV; omega)) rfl rfl ?_
    refine ⟨by kernel_rfl,?_⟩
    refine ⟨by omega,?_⟩
    refine ⟨(⟨k6.k+1,k6.L++[(⟨l[k0.k].table_,s[j1].keys_[k6.k],((de l[k0.k].old_ s[j1].keys_[k6.k]).getD [])⟩:GRd)]++k8.L,k6.v+2⟩:KW GRd),(by show s[j1].keys_.length - (k6.k+1) < s[j1].keys_.length - k6.k; omega),(cO (.cons rfl rfl (.cons rfl rfl (.cons (by rfl) rfl (.cons rfl rfl (.cons rfl rfl (.cons rfl rfl (.cons rfl rfl (.cons rfl rfl .nil)))))))) (.cons (by rfl) rfl (ag cq _ _) (.cons rfl rfl rfl (.cons rfl rfl rfl .nil)))),?_⟩
    refine ⟨by show k6.k+1<=_; omega,?_⟩
    exact ⟨oA_1 hlt119 hi_k6.1 hf3 hi_k8 hle_k8 (by first | exact .inl hx8 | exact .inr hx8) (by omega),by show k6.v+2<=k4.v+2 * (k6.k+1); have:=hi_k6.2; omega⟩
   have hq178:¬ (((k8.L.length:Nat):Int) > (0:Int)):=of_decide_eq_false hc178
   refine ⟨by omega,?_⟩
   refine ⟨(⟨k6.k+1,k6.L,k6.v⟩:KW GRd),(by show s[j1].keys_.length - (k6.k+1) < s[j1].keys_.length - k6.k; omega),(cO (.cons rfl rfl (.cons rfl rfl (.cons (by rfl) rfl (.cons rfl rfl (.cons rfl rfl (.cons rfl rfl (.cons rfl rfl (.cons rfl rfl .nil)))))))) (.cons (by rfl) rfl (ag cq _ _) (.cons rfl rfl rfl (.cons rfl rfl rfl .nil)))),?_⟩
   refine ⟨by show k6.k+1<=_; omega,?_⟩
   exact ⟨oA_0 hlt119 hi_k6.1 hf3 hi_k8 hle_k8 (by first | exact .inl hx8 | exact .inr hx8) (by omega),by show k6.v<=k4.v+2 * (k6.k+1); have:=hi_k6.2; omega⟩
  have hge119:¬ k6.k < s[j1].keys_.length:=fun h=>of_decide_eq_false hc119 (Int.ofNat_lt.2 h)
  have hL6:k6.L.length<=k4.L.length+41 * k6.k:=by rw [hi_k6.1,Zi]; have:=we (s:=s) (c:=l[k0.k]) (K:=s[j1].keys_) (R:=(gl s l[k0.k].table_)) k6.k; have h2:((gl s l[k0.k].table_).length+1) * k6.k<=41 * k6.k:=Nat.mul_le_mul_right _ (by omega); omega
  refine ⟨by omega,?_⟩
  refine ⟨(⟨k0.k+1,k6.L,k6.v⟩:KW GRd),(by show l.length - (k0.k+1) < l.length - k0.k; omega),(cO (.cons rfl rfl (.cons rfl rfl (.cons (by rfl) rfl (.cons rfl rfl .nil)))) (.cons (by rfl) rfl (ag cq _ _) .nil)),?_⟩
  refine ⟨by show k0.k+1<=_; omega,?_⟩
  have e2:k2.k=s[j1].keys_.length:=by omega
  have e4:k4.k=s[j1].foreign_.length:=by omega
  have e6:k6.k=s[j1].keys_.length:=by omega
  have g2:=hi_k2.1; have g4:=hi_k4.1; have g6:=hi_k6.1
  rw [e2] at g2; rw [e4] at g4; rw [e6] at g6
  refine ⟨Dw hlt26 hj1 hjs hi_k0.1 g2 g4 g6,?_,?_⟩
  ·show k6.L.length<=500 * (k0.k+1); omega
  show k6.v<=500 * (k0.k+1); have:=hi_k6.2; have:=hi_k4.2; have:=hi_k2.2; omega
 have hge26:¬ k0.k < l.length:=fun h=>of_decide_eq_false hc26 (Int.ofNat_lt.2 h)
 refine ⟨.inr rfl,_,Kh.tmp Tryz.results16 ⟨[0],FzP.rows cq (Zj.2 rfl) rfl⟩,?_⟩
 rw [hi_k0.1,List.take_of_length_le (by omega)]
structure GP1 where
 coef_:Int
 kind_:Int
 var_:Int
 by_:Int
abbrev p1A (x:GP1):List AV:=[.v (.int .i64 x.coef_),.v (.int .i64 x.kind_),.v (.int .i64 x.var_),.v (.int .i64 x.by_),.v (.slice none 0 0)]
structure FitP1 (x:GP1):Prop where
instance:Inhabited GP1:=⟨⟨0,0,0,0⟩⟩
structure GT1 where
 const_:Int
 parts_:List GP1
abbrev t1A (x:GT1):List AV:=[.v (.int .i64 x.const_),.tree 5 (x.parts_.map p1A)]
structure FitT1 (x:GT1):Prop where
 parts_:bw x.parts_ (fun y=>FitP1 y)
instance:Inhabited GT1:=⟨⟨0,[]⟩⟩
structure GAt1 where
 kind_:Int
 var_:Int
 other_:Int
 term_:GT1
 test_:PTest
structure FitAt1 (x:GAt1):Prop where
 term_:FitT1 x.term_
instance:Inhabited GAt1:=⟨⟨0,0,0,default,default⟩⟩
structure GF1 where
 kind_:Int
 atom_:GAt1
abbrev f1A (x:GF1):List AV:=[.v (.int .i64 x.kind_),.v (.int .i64 x.atom_.kind_),.v (.int .i64 x.atom_.var_),.v (.int .i64 x.atom_.other_),.v (.int .i64 x.atom_.term_.const_),.tree 5 (x.atom_.term_.parts_.map p1A),.v (.int .i64 x.atom_.test_.v),.v (.int .i64 x.atom_.test_.kd),.v (.bool x.atom_.test_.ng),.v (.string x.atom_.test_.s),.v (.slice none 0 0)]
structure FitF1 (x:GF1):Prop where
 atom_:FitAt1 x.atom_
instance:Inhabited GF1:=⟨⟨0,default⟩⟩
structure GL1 where
 atom_:GAt1
 above_:Bool
abbrev l1A (x:GL1):List AV:=[.v (.int .i64 x.atom_.kind_),.v (.int .i64 x.atom_.var_),.v (.int .i64 x.atom_.other_),.v (.int .i64 x.atom_.term_.const_),.tree 5 (x.atom_.term_.parts_.map p1A),.v (.int .i64 x.atom_.test_.v),.v (.int .i64 x.atom_.test_.kd),.v (.bool x.atom_.test_.ng),.v (.string x.atom_.test_.s),.v (.bool x.above_)]
instance:Inhabited GL1:=⟨⟨default,false⟩⟩
theorem j6:RowF f1A 11:=⟨fun _=>rfl,fun _=>rfl,fun _ _=>rfl,fun _ _=>rfl,fun _ _=>rfl,fun _=>rfl⟩
theorem A2:RowF l1A 10:=⟨fun _=>rfl,fun _=>rfl,fun _ _=>rfl,fun _ _=>rfl,fun _ _=>rfl,fun _=>rfl⟩
theorem pj:RowF (fun l:List GL1=>[AV.tree 10 (l.map l1A)]) 1:=⟨fun _=>rfl,fun _=>rfl,fun _ _=>rfl,fun _ _=>rfl,fun _ _=>rfl,fun _=>rfl⟩
/-- A conjunction of atoms. -/
abbrev fmL (l:List GF1):List AV:=[.v (.int .i64 0),.v (.int .i64 0),.v (.int .i64 0),.v (.int .i64 0),.v (.int .i64 0),.v (.slice none 0 0),.v (.int .i64 0),.v (.int .i64 0),.v (.bool false),.v (.string ⟨#[]⟩),.tree 11 (l.map f1A)]
/-- An atom of an equality. -/
structure AtOk (x:GF1):Prop where
 k:x.kind_=2
 a:x.atom_.kind_=3\/x.atom_.kind_=5
theorem Cw:el Tryz.prog 138=some (some 11):=by kernel_rfl
theorem Uk (x:GRd) (hx:FitRd x) (s:List GTab) (hs:bw s (fun y=>FitTab y)) (r:List GVal) (hr:bw r (fun y=>FitVal y)) (j:Nat) (hj:x.table_=((j:Nat):Int)) (hjs:j < s.length) (hto:TabOk s[j]) (hc:∀ c∈x.columns_,0<=c/\c < s[j].columns_.length) (hvl:x.values_.length=x.columns_.length):PRet Tryz.prog 17 [.agg (rdA x),.tree 5 (s.map ef),.v (.int .i64 x.table_),.tree 3 (r.map gvA)] (fun q=>∃ b:Bool,q=.v (.bool b)/\(b=true↔n9 s[j] r/\∀ i (h1:i < x.columns_.length) (h2:i < x.values_.length),a8 r x.columns_[i]=x.values_[i])):=by
 have htf:=hs.2 _ (Ze hjs)
 refine PRet.of_vc ao [17,36] [] Tryz.func17 rfl Tryz.ntmps17 rfl (by kernel_rfl) ?_
 refine cB (fun hg14=>?_) (fun hg14=>?_)
 ·have hq14:¬ ((x.table_:Int)=(x.table_:Int)):=by simp at hg14
  simp at hg14
 have hq14:(x.table_:Int)=(x.table_:Int):=by simp
 refine OpG.lk (ah Tryz.underlying23 sy rfl rfl hj hjs) ?_
 refine ArgG.mk (Dq s[j] htf r hr hto.cl) rfl ?_
 rintro _ ⟨e0,rfl,he0⟩
 refine cB (fun hc22=>?_) (fun hc22=>?_)
 ·have hq22:¬ ((e0:Int)=(0:Int)):=by simpa using hc22
  have hrf:¬ n9 s[j] r:=fun h=>absurd (he0.2 h) (by simpa using hc22)
  exact rV Tryz.results17 rfl ⟨_,rfl,fun h=>absurd h Bool.false_ne_true,fun h=>absurd h.1 hrf⟩
 have hq22:(e0:Int)=(0:Int):=by simpa using hc22
 have hrf:n9 s[j] r:=he0.1 (by simpa using hc22)
 refine LpG.on (fun k0:Nat=>(⟨fL [(3,.tree 3 (r.map gvA)),(4,.ptr 0 0 0),(9,.v (.int .i64 ((k0:Nat):Int)))],bl [(0,⟨0,rdA x,0,false⟩)],1⟩:St)) (fun k0=>(x.columns_.length - k0)) (fun k0=>(k0<=x.columns_.length/\∀ j (hl:j < x.columns_.length),j < k0->∀ h2:j < x.values_.length,a8 r x.columns_[j]=x.values_[j])) 0 (cO (.cons rfl rfl (.cons rfl rfl (.cons rfl rfl .nil))) (.cons rfl rfl rfl .nil)) ⟨Nat.zero_le _,fun j _ h=>absurd h (Nat.not_lt_zero j)⟩ ?_
 rintro k0 hinv
 have hgr_k0:x.columns_.length<=140737488355328:=hx.columns_.1
 obtain ⟨hle_k0,hj_k0⟩:=hinv
 refine LenG.of (cL (fun hlt27=>?_) (fun hge27=>?_))
 ·obtain ⟨j1,hje1,hjl1⟩:∃ j1:Nat,x.columns_[k0]=((j1:Nat):Int)/\j1 < r.length:=⟨x.columns_[k0].toNat,by have:=hc _ (Ze hlt27); omega,by have:=hc _ (Ze hlt27); have:=hrf.1; omega⟩
  have hkv:k0 < x.values_.length:=by omega
  refine IdxG.of (by assumption) (OpG.lk (ah Tryz.underlying26 vt rfl rfl hje1 hjl1) ?_)
  refine IdxG.of (by assumption) (OpG.lk (qa rfl rfl) ?_)
  refine ⟨by kernel_rfl,?_⟩
  refine cB (fun hc43=>?_) (fun hc43=>?_)
  ·exact rV Tryz.results17 rfl ⟨_,rfl,fun h=>absurd h Bool.false_ne_true,fun h=>by have h2:=h.2 k0 hlt27 hkv; rw [hje1,ia hjl1] at h2; exact absurd h2 (Q2 hc43)⟩
  refine ⟨by omega,?_⟩
  refine ⟨(k0+1),by omega,(cO (.cons rfl rfl (.cons rfl rfl (.cons rfl rfl .nil))) (.cons rfl rfl rfl .nil)),?_⟩
  refine ⟨by omega,fun j hl h=>?_⟩
  rcases Nat.lt_succ_iff_lt_or_eq.1 h with h | rfl
  ·exact hj_k0 j hl h
  intro h2; rw [hje1,ia hjl1]; exact Q3 hc43
 exact rV Tryz.results17 rfl ⟨_,rfl,fun _=>⟨hrf,fun i h1 h2=>hj_k0 i h1 (by omega) h2⟩,fun _=>rfl⟩
theorem Zd (x:GF1):PRet Tryz.prog 80 [.tree 11 (([x]).map f1A)] (fun q=>q=.agg (f1A x)):=by
 refine PRet.of_vc ao [] [] Tryz.func80 rfl Tryz.ntmps80 rfl (by kernel_rfl) (LenG.of ?_)
 refine cT (IdxG.of (j:=0) (by simp) ?_)
 refine ⟨.inr rfl,_,Kh.cell Tryz.results80 Cw rfl rfl rfl rfl rfl ⟨[],FzP.pure rfl⟩,?_⟩
 rfl
theorem Zb (l:List GF1) (hl:bw l (fun y=>FitF1 y)) (h1:¬ l.length=1):PRet Tryz.prog 80 [.tree 11 (l.map f1A)] (fun q=>q=.agg (fmL l)):=by
 refine PRet.of_vc ao [] [] Tryz.func80 rfl Tryz.ntmps80 rfl (by kernel_rfl) (LenG.of ?_)
 refine cB (fun hc5=>?_) (fun hc5=>?_)
 ·exfalso; have h:=hc5; simp at h; omega
 have hq5:¬ (((l.length:Nat):Int)=(1:Int)):=by simpa using hc5
 refine ⟨.inr rfl,_,Kh.cell Tryz.results80 Cw rfl rfl rfl rfl rfl ⟨[],FzP.pure rfl⟩,?_⟩
 rfl
theorem Te (x:GF1) (hx:FitF1 x) (vs:List PVar) (hvs:bw vs (fun y=>True)) (hx1:AtOk x):PRet Tryz.prog 149 [.agg (f1A x),.tree 5 (vs.map vA)] (fun q=>q=.agg (f1A x)):=by
 have hk:=hx1.k
 have ha:=hx1.a
 refine PRet.of_vc ao [] [] Tryz.func149 rfl Tryz.ntmps149 rfl (by kernel_rfl) (cB (fun hc11=>?_) (fun hc11=>?_))
 ·have hq11:(x.kind_:Int)=(2:Int):=by simpa using hc11
  refine cB (fun hg17=>?_) (fun hg17=>?_)
  ·have hq17:(x.atom_.kind_:Int)=(0:Int):=by simpa using hg17
   exfalso; have h:=hg17; simp at h; omega
  have hq17:¬ ((x.atom_.kind_:Int)=(0:Int)):=by simpa using hg17
  refine cB (fun hg22=>?_) (fun hg22=>?_)
  ·have hq22:(x.atom_.kind_:Int)=(1:Int):=by simpa using hg22
   exfalso; have h:=hg22; simp at h; omega
  have hq22:¬ ((x.atom_.kind_:Int)=(1:Int)):=by simpa using hg22
  refine cF ⟨.inr rfl,_,Kh.cell Tryz.results149 Cw rfl rfl rfl rfl rfl ⟨[],FzP.pure rfl⟩,?_⟩
  rfl
 exact absurd hk (by simpa using hc11)
theorem Rr (x:GF1) (hx:FitF1 x) (hx1:AtOk x):PRet Tryz.prog 150 [.agg (f1A x)] (fun q=>q=.v (.int .i64 1)):=by
 have hk:=hx1.k
 have ha:=hx1.a
 refine PRet.of_vc ao [] [] Tryz.func150 rfl Tryz.ntmps150 rfl (by kernel_rfl) (cB (fun hc10=>?_) (fun hc10=>?_))
 ·have hq10:(x.kind_:Int)=(2:Int):=by simpa using hc10
  refine cB (fun hc14=>?_) (fun hc14=>?_)
  ·exfalso; have h:=hc14; simp at h; omega
  have hq14:¬ ((x.atom_.kind_:Int)=(4:Int)):=by simpa using hc14
  exact rV Tryz.results150 rfl rfl
 exact absurd hk (by simpa using hc10)
abbrev ue (x:GF1):GL1:=⟨x.atom_,false⟩
abbrev llA (l:List GL1):List AV:=[.tree 10 (l.map l1A)]
structure KLL where
 k:Nat
 L:List (List GL1)
theorem T8 {e:Int} (h:0<=e/\e<=257):0<=min (e+1) 257/\min (e+1) 257<=257:=by omega
theorem Ry:(Tryz.prog.info? 138).map (·.bytes)=some 128:=by kernel_rfl
theorem Pl:aa Tryz.prog 138=some 11:=by kernel_rfl
theorem Kv:aa Tryz.prog 261=some 1:=by kernel_rfl
theorem Ku:aa Tryz.prog 288=some 10:=by kernel_rfl
theorem O9:ax Tryz.prog 138=some (.agg #[.int .i64 0,.int .i64 0,.int .i64 0,.int .i64 0,.int .i64 0,.slice none 0 0,.int .i64 0,.int .i64 0,.bool false,.string ⟨#[]⟩,.slice none 0 0]):=by kernel_rfl
theorem Kj:ax Tryz.prog 261=some (.slice none 0 0):=by kernel_rfl
theorem Ki:ax Tryz.prog 288=some (.agg #[.int .i64 0,.int .i64 0,.int .i64 0,.int .i64 0,.slice none 0 0,.int .i64 0,.int .i64 0,.bool false,.string ⟨#[]⟩,.bool false]):=by kernel_rfl
theorem Vb (l:List GF1) (hl:bw l (fun y=>FitF1 y)) (hat:∀ x∈l,AtOk x):PRet Tryz.prog 150 [.agg (fmL l)] (fun q=>q=.v (.int .i64 1)):=by
 refine PRet.of_vc ao [27,30,34] [] Tryz.func150 rfl Tryz.ntmps150 rfl (by kernel_rfl) (cF ?_)
 refine LenG.of (LpG.on (fun k0:KE=>(⟨fL [(1,.ptr 0 0 0),(3,.v (.int .i64 k0.e)),(4,.v (.int .i64 1)),(16,.tree 11 (l.map f1A)),(17,.v (.int .i64 ((l.length:Nat):Int))),(18,.v (.int .i64 ((k0.k:Nat):Int)))],bl [(0,⟨0,fmL l,0,false⟩)],1⟩:St)) (fun k0=>(l.length - k0.k)) (fun k0=>(k0.k<=l.length/\(0<=k0.e/\k0.e<=257))) (⟨0,0⟩:KE) (cO (.cons rfl rfl (.cons rfl rfl (.cons rfl rfl (.cons rfl rfl (.cons rfl rfl (.cons rfl rfl .nil)))))) (.cons rfl rfl rfl .nil)) ⟨Nat.zero_le _,⟨by decide,by decide⟩⟩ ?_)
 rintro k0 hinv
 obtain ⟨hle_k0,hi_k0⟩:=hinv
 refine cL (fun hlt19=>?_) (fun hge19=>?_)
 ·have hi2:=hi_k0.2
  refine IdxG.of (by assumption) (ArgG.mk (Rr l[k0.k] (hl.2 _ (Ze _)) (hat _ (Ze _))) rfl ?_)
  rintro _ rfl
  refine ⟨by omega,OpG.lk (D7 rfl rfl) ?_⟩
  refine OpG.lk (D6 rfl rfl rfl (by decide) (by decide)) (cT ?_)
  refine OpG.lk (D7 rfl rfl) ⟨by omega,⟨(⟨k0.k+1,_⟩:KE),(by show l.length - (k0.k+1) < l.length - k0.k; omega),(cO (.cons rfl rfl (.cons rfl rfl (.cons rfl rfl (.cons rfl rfl (.cons rfl rfl (.cons rfl rfl .nil)))))) (.cons rfl rfl rfl .nil)),?_⟩⟩
  refine ⟨by show k0.k+1<=_; omega,?_⟩
  have h:=hi_k0
  exact T8 h
 exact cF (rV Tryz.results150 rfl rfl)
theorem W8 (vs:List PVar) (hvs:bw vs (fun y=>True)) (l:List GF1) (hl:bw l (fun y=>FitF1 y)) (hat:∀ x∈l,AtOk x) (hl2:l.length<=1000):PRet Tryz.prog 149 [.agg (fmL l),.tree 5 (vs.map vA)] (fun q=>q=.agg (fmL l)):=by
 refine PRet.of_vc ao [] [14] Tryz.func149 rfl Tryz.ntmps149 rfl (by kernel_rfl) (cF ?_)
 refine LenG.of (LpG.via (fun _ h=>g7 2 10 11 rfl rfl rfl rfl rfl 4 rfl h) ?_)
 refine LpG.on (fun k0:KL GF1=>(⟨fL [(1,.tree 5 (vs.map vA)),(4,.ptr 1 0 0),(6,.ptr 2 0 0),(41,.tree 11 (l.map f1A)),(42,.v (.int .i64 ((l.length:Nat):Int))),(43,.v (.int .i64 ((k0.k:Nat):Int)))],bl [(0,⟨0,fmL l,0,false⟩),(1,⟨0,[.v (.int .i64 0),.v (.int .i64 0),.v (.int .i64 0),.v (.int .i64 0),.v (.int .i64 0),.v (.slice none 0 0),.v (.int .i64 0),.v (.int .i64 0),.v (.bool false),.v (.string ⟨#[]⟩),.v (.slice none 0 0)],0,false⟩),(2,⟨0,[.v (.int .i64 0),.v (.int .i64 0),.v (.int .i64 0),.v (.int .i64 0),.v (.int .i64 0),.v (.slice none 0 0),.v (.int .i64 0),.v (.int .i64 0),.v (.bool false),.v (.string ⟨#[]⟩),.sl 3 k0.L.length 0 k0.L.length],0,false⟩),(3,⟨k0.L.length,rF f1A k0.L,11,Nat.beq k0.L.length 0⟩)],4⟩:St)) (fun k0=>(l.length - k0.k)) (fun k0=>(k0.k<=l.length/\(k0.L=l.take k0.k/\k0.L.length=k0.k))) (⟨0,[]⟩:KL GF1) (cO (.cons rfl rfl (.cons rfl rfl (.cons rfl rfl (.cons rfl rfl (.cons rfl rfl (.cons rfl rfl .nil)))))) (.cons rfl rfl rfl (.cons rfl rfl rfl (.cons (by rfl) rfl rfl (.cons (by rfl) rfl (ag j6 _ _) .nil))))) ⟨Nat.zero_le _,⟨rfl,rfl⟩⟩ ?_
 rintro k0 hinv
 obtain ⟨hle_k0,hi_k0⟩:=hinv
 refine cL (fun hlt44=>?_) (fun hge44=>?_)
 ·have hle2:=hi_k0.2
  refine IdxG.of (by assumption) (ArgG.mk (Te l[k0.k] (hl.2 _ (Ze _)) vs hvs (hat _ (Ze _))) rfl ?_)
  rintro _ rfl
  refine OpG.mk _ _ _ 6 (aj j6 (a:=l[k0.k]) Tryz.underlying127 Pl O9 Ry rfl rfl rfl (az rfl rfl rfl rfl) rfl (by omega) (by omega) (by unfold TV; omega)) rfl rfl ⟨by kernel_rfl,⟨by omega,?_⟩⟩
  refine ⟨(⟨k0.k+1,k0.L++[l[k0.k]]⟩:KL GF1),(by show l.length - (k0.k+1) < l.length - k0.k; omega),(cO (.cons rfl rfl (.cons rfl rfl (.cons rfl rfl (.cons rfl rfl (.cons rfl rfl (.cons rfl rfl .nil)))))) (.cons rfl rfl rfl (.cons rfl rfl rfl (.cons (by (rw [Zi]; rfl)) rfl rfl (.cons (by (rw [Zi]; rfl)) rfl (ag j6 _ _) .nil))))),⟨by show k0.k+1<=_; omega,?_⟩⟩
  exact ⟨by show _++[_]=_; rw [List.take_succ_eq_append_getElem hlt44,<- hi_k0.1],by show (_++[_]).length=_; rw [Zi,hi_k0.2]; rfl⟩
 refine RegG.via (fun _ h=>gg [3] 2 0 0 [.v (.int .i64 0),.v (.int .i64 0),.v (.int .i64 0),.v (.int .i64 0),.v (.int .i64 0),.v (.slice none 0 0),.v (.int .i64 0),.v (.int .i64 0),.v (.bool false),.v (.string ⟨#[]⟩),.sl 3 k0.L.length 0 k0.L.length] [.v (.int .i64 0),.v (.int .i64 0),.v (.int .i64 0),.v (.int .i64 0),.v (.int .i64 0),.v (.slice none 0 0),.v (.int .i64 0),.v (.int .i64 0),.v (.bool false),.v (.string ⟨#[]⟩),.tree 11 (k0.L.map f1A)] rfl rfl (.keep (.keep (.keep (.keep (.keep (.keep (.keep (.keep (.keep (.keep (.fz (FzP.rows j6 (Zj.2 rfl) rfl) (.same _)))))))))))) rfl h) (cr ?_)
 refine ⟨.inr rfl,_,Kh.cell Tryz.results149 Cw rfl rfl rfl rfl rfl ⟨[],FzP.pure rfl⟩,?_⟩
 have e:=hi_k0.1
 rw [List.take_of_length_le (by omega)] at e
 rw [e]
theorem Uz (x:GF1) (hx:FitF1 x) (hx1:AtOk x):PRet Tryz.prog 151 [.agg (f1A x)] (fun q=>q=.tree 1 ([[ue x]].map llA)):=by
 have hk:=hx1.k
 have ha:=hx1.a
 refine PRet.of_vc ao [38,39] [] Tryz.func151 rfl Tryz.ntmps151 rfl (by kernel_rfl) (ArgG.mk (Rr x hx hx1) rfl ?_)
 rintro _ rfl
 refine cF (cB (fun hc20=>?_) (fun hc20=>?_))
 ·have hq20:(x.kind_:Int)=(2:Int):=by simpa using hc20
  refine cB (fun hc25=>?_) (fun hc25=>?_)
  ·exfalso; have h:=hc25; simp at h; omega
  have hq25:¬ ((x.atom_.kind_:Int)=(4:Int)):=by simpa using hc25
  refine OpG.nw (u4 (qe Tryz.underlying261 Ku Ki rfl rfl rfl rfl) (fun η' h=>jq (f:=l1A) (l:=[(ue x)]) (Zj.2 rfl) h rfl rfl rfl rfl rfl (fun a _=>⟨rfl,rfl⟩))) rfl (OpG.nw (u4 (qe Tryz.underlying259 Kv Kj rfl rfl rfl rfl) (fun η' h=>jq (f:=llA) (l:=[[(ue x)]]) (Zj.2 rfl) h rfl rfl rfl rfl rfl (fun a _=>⟨rfl,rfl⟩))) rfl ?_)
  exact rV Tryz.results151 rfl rfl
 exact absurd hk (by simpa using hc20)
/-- A call that gives a slice of no elements in a new row. -/
def Sk (P:Program) (f:FuncId) (args:List AV) (z:Nat):Prop :=
 ∀ (T:Nat->Prop) (w:World) (vals:Array Value),TRs T w args vals->(∀ b,T b->b < w.heap.size)->Calls P f vals w (fun e w'=>∃ b o cap cells t,e=.returned (.slice (some ⟨b,o,none⟩) 0 cap)/\Below w.heap.size w w'/\w.heap.size<=b/\w'.heap[b]? = some (.cells cells t (0,0))/\cap<=maxLen/\o+cap * z<=cells.size)
section
variable {P:Program} {τ:Nat->AV} {η:au} {d:Option Tmp} {ty:TypeId} {pos:String} {af:Array Edge} {g:Option (Nat×Bool)}
theorem J7 (u:Nat) {f:FuncId} {xs:Array Operand} {ats:Array TypeId} {z:Nat} (hb:co P f=true) (hp:ay (xs.toList.map (aev τ))=true) (hc:Sk P f (xs.toList.map (aev τ)) z) :
  LOp P ⟨d,.call { callee:=.value (.func f),args:=xs,argTypes:=ats },ty,pos,af,g⟩ τ η [] [(u,some ⟨0,[],z,false⟩)] (.sl u 0 0 0):=by
 intro C a hg hxs _ hnew K Q hK
 have hu:¬ C.U u:=hnew (u,some ⟨0,[],z,false⟩) (by simp) (by simp)
 have hargs:=D4 (a:=a) (fun x hx=>hxs x (by simp [Op.operands,Call.operands]; exact .inr (by simpa using hx))) hp
 have hrun:(execOp a.eval ⟨d,.call { callee:=.value (.func f),args:=xs,argTypes:=ats },ty,pos,af,g⟩).run P C.w=.ok (.enter f (xs.map a.eval)) C.w:=by
  have:execOp a.eval ⟨d,.call { callee:=.value (.func f),args:=xs,argTypes:=ats },ty,pos,af,g⟩=callFunc f (#[]++xs.map a.eval++#[]):=rfl
  rw [this,eb hb]
  simp
 unfold Oper.wp
 rw [hrun]
 refine Calls.mono (hc C.T C.w _ hargs (fun b hb=>hg.tlt hb)) ?_
 rintro e w' ⟨b,o,cap,cells,t,rfl,hbel,hge,hcell,hcap,hsz⟩
 have hok:ReplOk C u (b,o) cells.size ⟨0,[],z,false⟩ w':=⟨hbel.os,hbel.tape,hbel.output,hbel.size,fun k hk _=>hbel.block k hk,.inr hge,fun h=>absurd h hu,rfl,fun e=>absurd e (by show ¬ ((0:Nat)=TV); decide),cells,t,hcell,rfl,by simp; omega,fun j h=>absurd h (by simp)⟩
 refine hK _ (C.repl u (b,o) cells.size ⟨0,[],z,false⟩ w') rfl (fun i=>by simp [Ctx.repl]) (lj hg hok) (ll hg hok) ?_
 have:=VR.sl (C:=C.repl u (b,o) cells.size ⟨0,[],z,false⟩ w') (id:=u) (ver:=0) (off:=0) (len:=0) (cap:=cap) (b:=⟨0,[],z,false⟩) (ae _ _ _) rfl rfl (Nat.zero_le _) hcap (Nat.zero_le _) (by simp [Ctx.repl]; omega)
 simpa [Ctx.repl] using this
end
theorem Kt {T:Nat->Prop} {w:World} {x y:Value} {vals:Array Value} (h:TRs T w [.v x,.v y] vals):vals=#[x,y]:=by
 obtain ⟨hlen,hv⟩:=h
 have k0:=(hv 0 (by simp) (by simp at hlen; omega)).v_inv
 have k1:=(hv 1 (by simp) (by simp at hlen; omega)).v_inv
 apply Array.ext
 ·simpa using hlen.symm
 intro i hi hi'
 have:i=0\/i=1:=by simp at hi'; omega
 rcases this with rfl | rfl
 ·exact k0
 exact k1
abbrev srt (l:List Int):List Int:=l.mergeSort fun x y=>decide (x<=y)
theorem j4 {l:List Int}:(srt l).length=l.length:=List.length_mergeSort _
/-- In ascending order, each once. -/
def Ee (l:List Int):List Int:=Lib.compact (srt l)
theorem Uj {i:Nat} {b:Blk}:mr [(i,some b)]=bl [(i,b)]:=rfl
open Go.Sort in
theorem Nt (l:List Int) (v:Nat) (hl:l.length<=100000):ra Tryz.prog 170 [.sl TOP v 0 l.length] [(TOP,⟨v,iF l,1,Nat.beq l.length 0⟩)] [(TOP,some ⟨v,iF (srt l),1,Nat.beq l.length 0⟩)] (.v (.tuple #[])):=by
 cases l with
 | nil=>
  intro C vals hg hη hU ⟨hvl,hv⟩
  have hb:C.η TOP=some ⟨v,[],1,true⟩:=by rw [hη]; simp [bl,iF]
  have h0:=hv 0 (by simp) (by simp at hvl; omega)
  obtain ⟨e1,_,_⟩:=h0.slnil_inv hb rfl rfl
  have hvals:vals=#[.slice none 0 0]:=by
   apply Array.ext
   ·simpa using hvl.symm
   ·intro i hi hi'
    have:i=0:=by simp at hi'; omega
    subst this
    exact e1
  rw [hvals]
  refine (AnyM.slices_Sort_int_none Tryz.laysSlM5_f170 none 0 C.w).mono ?_
  rintro e w' ⟨rfl,rfl⟩
  have e0:srt []=[]:=by simp [srt]
  rw [e0]
  exact ⟨_,C,rfl,rfl,hη.trans Uj.symm,hg,Fr.refl C,VR.v _ _⟩
 | cons a r=>
  refine u6 (l:=a :: r) (rv:=fun _ _ _=>.tuple #[]) (by simp) j4 (.inl ⟨rfl,fun _ _ _=>rfl⟩) fun blk off cap w hH hlt hcap=>((Tryz.slices_Sort_int blk off cap (a :: r) w hH hlt (by omega)).mono ?_)
  rintro e w' ⟨rfl,n,os,rfl⟩
  exact ⟨rfl,n,os,by rw [Lib.putRow_eq_setCells _ w blk off _ _ n hH (by rw [j4]; simp)]⟩
theorem ur (l:List Int):(Lib.compact l++List.replicate (l.length - (Lib.compact l).length) 0).length=l.length:=by
 have:=Lib.compact_length_le l
 simp; omega
open Go.Sort in
theorem Ad (l:List Int) (v:Nat) (hpos:0 < l.length) (hl:l.length<=100000):ra Tryz.prog 171 [.sl TOP v 0 l.length] [(TOP,⟨v,iF l,1,false⟩)] [(TOP,some ⟨v,iF (Lib.compact l++List.replicate (l.length - (Lib.compact l).length) 0),1,false⟩)] (.sl TOP v 0 (Lib.compact l).length):=by
 refine u6 (rv:=fun b o c=>.slice (some ⟨b,o,none⟩) (Lib.compact l).length c) hpos (ur l) (.inr ⟨_,Lib.compact_length_le l,rfl,fun _ _ _=>rfl⟩) fun blk off cap w hH hlt hcap=>((Tryz.slices_Compact_int blk off cap l w hH (by omega) hcap).mono ?_)
 rintro e w' ⟨rfl,q,rfl⟩
 exact ⟨rfl,q,#[],by rw [Lib.putRow_eq_setCells _ w blk off _ _ q hH (by rw [ur]; simp)]; simp⟩
theorem Ff:ep Tryz.prog 171 [.v (.slice none 0 0)] (.v (.slice none 0 0)):=by
 intro T w vals ⟨hvl,hv⟩ hT
 have h0:=(hv 0 (by simp) (by simp at hvl; omega)).v_inv
 have hvals:vals=#[.slice none 0 0]:=by
  apply Array.ext
  ·simpa using hvl.symm
  ·intro i hi hi'
   have:i=0:=by simp at hi'; omega
   subst this
   exact h0
 rw [hvals]
 refine (Tryz.slices_Compact_int_empty none 0 w).mono ?_
 rintro e w' ⟨rfl,rfl⟩
 exact ⟨_,T,rfl,.v _,fun _ h=>h,fun _ h=>.inl h,hT,Below.refl _ _⟩
theorem Tm {g:Nat->Nat}:∀ l:List Int,pm g (iF l)=iF l
 | []=>rfl
 | a :: r=>by have:=Tm (g:=g) r; simp only [iF,List.map_cons,pm,AV.ren] at this ⊢; rw [this]
theorem Uh {D:List Nat}:∀ l:List Int,inL D (iF l)=true
 | []=>rfl
 | a :: r=>by have:=Uh (D:=D) r; simp only [iF,List.map_cons,inL,AV.inB] at this ⊢; rw [this]; rfl
theorem Vo {g:Nat->Nat} {v z:Nat} {l:List Int} {n:Bool}:(Blk.mk v (iF l) z n).ren g=⟨v,iF l,z,n⟩:=by simp only [Blk.ren,Tm]
theorem vu {g:Nat->Nat} {v z:Nat} {l:List Int} {n:Bool}:some (⟨v,iF l,z,n⟩:Blk)=some ((Blk.mk v (iF l) z n).ren g):=by rw [Vo]
theorem I9 {m:List (Nat×Nat)} {i k v z:Nat} {l:List Int} {n:Bool} (h:gOf m i=k):jn m [(i,some ⟨v,iF l,z,n⟩)]=[(k,some ⟨v,iF l,z,n⟩)]:=by
 simp only [jn,List.map_cons,List.map_nil,h,Option.map_some,Vo]
theorem Ui {l:List Int} {k:Nat} (h:k < l.length):(iF l)[k]? = some (.v (.int .i64 l[k])):=by simp [iF,h]
/-- A slice of ints of the call's own, the first m of its row, frozen. -/
theorem FzP.iF {fp:List Nat} {η:au} {id v m:Nat} {l:List Int} (hid:id∈fp) (hb:η id=some ⟨v,iF l,1,false⟩) (hm:m<=l.length):FzP fp η (.sl id v 0 m) (isA (l.take m)):=by
 have:=FzP.sl (fp:=fp) (η:=η) (id:=id) (ver:=v) (off:=0) (len:=m) (b:=⟨v,Go.Proofs.YthpangmpihkniaaGreatDoor.iF l,1,false⟩) (rows:=(l.take m).map iA) hid hb rfl rfl (by simp; omega) (fun k h=>by simp [iA]) (fun k h j h'=>by
  have hk:k < l.length:=by simp at h; omega
  have hj:j=0:=by simp [iA] at h'; omega
  subst hj
  refine ⟨.v (.int .i64 l[k]),?_,?_⟩
  ·have e:(0+k * (Blk.mk v (Go.Proofs.YthpangmpihkniaaGreatDoor.iF l) 1 false).esz+0)=k:=by show 0+k * 1+0=k; omega
   rw [e]; exact Ui hk
  ·have e2:((l.take m).map iA)[k][0]=.v (.int .i64 l[k]):=by simp only [List.getElem_map,List.getElem_take]; rfl
   rw [e2]; exact FzP.pure rfl)
 exact this
theorem FzP.pre {fp:List Nat} {η:au} {id v:Nat} {c r:List Int} (hid:id∈fp) (hb:η id=some ⟨v,Go.Proofs.YthpangmpihkniaaGreatDoor.iF (c++r),1,false⟩):FzP fp η (.sl id v 0 c.length) (isA c):=by
 have:=FzP.iF hid hb (m:=c.length) (by simp)
 rw [List.take_left' rfl] at this
 exact this
theorem Ey:∀ l:List Int,iF l=rF iA l
 | []=>rfl
 | a :: r=>by
  have:=Ey r
  simp only [iF,List.map_cons] at this ⊢
  rw [qn,<- this]; rfl
theorem Ij {z:Value} {B:Nat} (m:Nat) (h0:0 < m) (h1:m<=100000) (hs:aa Tryz.prog 288=some 10) (hz:ax Tryz.prog 288=some z) (hzq:z.cells.size=10) (hb:(Tryz.prog.info? 288).map (·.bytes)=some B) (hB:B<=1000):Sk Tryz.prog 214 [.v (.slice none 0 0),.v (.int .i64 ((m:Nat):Int))] 10:=by
 intro T w vals hv hT
 rw [Kt hv]
 unfold aa at hs
 unfold ax at hz
 cases hi:Tryz.prog.info? 288 with
 | none=>rw [hi] at hs; cases hs
 | some inf=>
  rw [hi] at hz hs hb
  simp only [Option.bind_some] at hz
  simp only [Option.map_some,Zh] at hs hb
  have hmB:(0+m) * inf.bytes<=140737488355328:=by
   rw [hb]
   exact Nat.le_trans (Nat.mul_le_mul (Nat.le_of_eq (Nat.zero_add m)) hB) (by omega)
  refine (Any8.slices_Grow_grow Tryz.growL inf _ hi hz (by omega) none 0 0 m [] w (Nat.le_refl _) (by omega) (by omega) (by omega) (by simp) (fun _=>rfl) (fun a h=>by cases h)).mono ?_
  rintro e w' ⟨rfl,rfl⟩
  have hge:=grownCap_ge w (0+m) 0 288
  have hmx:grownCap w (0+m) 0 288<=maxLen:=grownCap_le_maxLen w (0+m) 0 288 (by unfold maxLen; omega)
  refine ⟨w.heap.size,0,_,_,288,rfl,?_,Nat.le_refl _,heap_alloc_new w.drew _,hmx,?_⟩
  ·exact ⟨rfl,rfl,rfl,by simp,fun k hk=>Below.heap_alloc w.drew _ k hk⟩
  ·have e26:(Tryz.growL_ren.t 25)=288:=rfl
   simp only [e26,Array.size_append,size_zeroCells,hzq]
   simp
   omega
theorem Q4 (x:Int) (m:Nat) (hx:x=((m:Nat):Int)) (h0:0 < m) (h1:m<=100000) (hs:aa Tryz.prog 288=some 10) {z:Value} (hz:ax Tryz.prog 288=some z) (hzq:z.cells.size=10) {B:Nat} (hb:(Tryz.prog.info? 288).map (·.bytes)=some B) (hB:B<=1000):Sk Tryz.prog 214 [.v (.slice none 0 0),.v (.int .i64 x)] 10:=by subst hx; exact Ij m h0 h1 hs hz hzq hb hB
theorem Ns (l:List Int) (v:Nat) (hl:l.length<=100000):ra Tryz.prog 170 [.sl TOP v 0 l.length] [(TOP,⟨v,rF iA l,1,Nat.beq l.length 0⟩)] [(TOP,some ⟨v,rF iA (srt l),1,Nat.beq l.length 0⟩)] (.v (.tuple #[])):=by
 have:=Nt l v hl
 rwa [Ey,Ey] at this
theorem Jg (l:List Int) (v:Nat) (hpos:0 < l.length) (hl:l.length<=100000):ra Tryz.prog 171 [.sl TOP v 0 l.length] [(TOP,⟨v,rF iA l,1,false⟩)] [(TOP,some ⟨v,rF iA (Lib.compact l++List.replicate (l.length - (Lib.compact l).length) 0),1,false⟩)] (.sl TOP v 0 (Lib.compact l).length):=by
 have:=Ad l v hpos hl
 rwa [Ey,Ey] at this
theorem Jq:co Tryz.prog 170=true:=by kernel_rfl
theorem Ot:co Tryz.prog 171=true:=by kernel_rfl
theorem Vj:co Tryz.prog 214=true:=by kernel_rfl
theorem Rw:(Tryz.prog.info? 288).map (·.bytes)=some 104:=by kernel_rfl
theorem Jc (a b:List GL1) (hp:0 < a.length+b.length) (hl:a.length+b.length<=100000):PRet Tryz.prog 176 [.tree 1 (([a,b]).map (fun l=>[.tree 10 (l.map l1A)]))] (fun q=>q=.tree 10 ((a++b).map l1A)):=by
 have e0:([a,b][0]).length=a.length:=rfl
 have e1:([a,b][1]).length=b.length:=rfl
 refine PRet.of_vc ao [24,33] [] Tryz.func176 rfl Tryz.ntmps176 rfl (by kernel_rfl) (LenG.of ?_)
 refine lf (ULp.step ?_)
 refine cT (IdxG.of (j:=0) (by simp) ?_)
 refine LenG.of ⟨by omega,cB (fun hc20=>?_) (fun hc20=>?_)⟩
 ·exfalso; have h:=of_decide_eq_true hc20; omega
 refine ⟨by omega,ULp.step ?_⟩
 refine cT (IdxG.of (j:=1) (by simp) ?_)
 refine LenG.of ⟨by omega,cB (fun hc20=>?_) (fun hc20=>?_)⟩
 ·exfalso; have h:=of_decide_eq_true hc20; omega
 refine ⟨by omega,ULp.step ?_⟩
 refine cF (OpG.nw (J7 0 Vj rfl (Q4 _ (a.length+b.length) (by simp) hp hl Ku Ki rfl Rw (by omega))) rfl ?_)
 refine LenG.of (lf (ULp.step ?_))
 refine cT (IdxG.of (j:=0) (by simp) ?_)
 refine OpG.mk _ _ _ 1 (qf A2 (l:=[]) (l':=a) Tryz.underlying261 Ku Ki Rw rfl rfl rfl rfl (by simp only [List.length_nil]; omega) (by simp only [List.length_nil]; omega) (by unfold TV; omega)) rfl rfl ⟨by omega,ULp.step ?_⟩
 refine cT (IdxG.of (j:=1) (by simp) ?_)
 refine OpG.mk _ _ _ 1 (qf A2 (l:=[]++a) (l':=b) Tryz.underlying261 Ku Ki Rw rfl rfl rfl rfl (by simp only [Zi,List.length_nil]; omega) (by simp only [Zi,List.length_nil]; omega) (by unfold TV; omega)) rfl rfl ⟨by omega,ULp.step ?_⟩
 refine cF ⟨.inr rfl,_,Kh.tmp Tryz.results176 ⟨[0],kq A2 (Zj.2 rfl) rfl⟩,?_⟩
 simp
theorem Gw (l:List Int) (v:Nat) (hpos:0 < l.length) (hl:l.length<=100000):Sw Tryz.prog 178 [.sl 1000000 v 0 l.length] [(1000000,⟨v,iF l,1,false⟩)] [(1000000,none)] (fun q=>q=isA (Ee l)):=by
 have hb:Nat.beq l.length 0=false:=jo (by omega)
 have hs1:=Nt l v hl
 rw [hb] at hs1
 have hc1:=Ad (srt l) v (by rw [j4]; exact hpos) (by rw [j4]; exact hl)
 rw [j4] at hc1
 refine Sw.of_vc ao [4,6] [] Tryz.func178 rfl Tryz.ntmps178 rfl (by kernel_rfl) (OpG.mk _ _ _ 0 (gy [(TOP,TOP)] Jq hs1 rfl rfl rfl rfl ⟨vu,trivial⟩ ⟨⟨Uh _,.inl rfl⟩,trivial⟩ ⟨Uh _,trivial⟩ rfl rfl rfl rfl (I9 rfl) rfl) rfl rfl ?_)
 refine OpG.mk _ _ _ 0 (gy [(TOP,TOP)] Ot hc1 rfl rfl rfl rfl ⟨vu,trivial⟩ ⟨⟨Uh _,.inl rfl⟩,trivial⟩ ⟨Uh _,trivial⟩ rfl rfl rfl rfl (I9 rfl) rfl) rfl rfl ⟨.inr rfl,_,M7.of [1000000] (fw Tryz.results178 (.cons (V5.tmp rfl) .nil)) rfl ⟨.gone,trivial⟩ (.fz (FzP.pre (Zj.2 rfl) rfl)),?_⟩
 rfl
end Go.Proofs.YthpangmpihkniaaGreatDoor
