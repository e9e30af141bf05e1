/- Texts of the claim. -/
import Derived.Test.YtgknefkobpnjaaaGreatDoorP2
namespace Go.Proofs.YtgknefkobpnjaaaGreatDoor
set_option linter.unusedVariables false
set_option linter.unusedSimpArgs false
open Go.RowKit
/-- Both clauses at once. -/
def joC (A B:PCl):PCl:=⟨srtU (A.nul++B.nul),srtU (A.nn++B.nn),A.aux++B.aux,A.ints++B.ints,A.tests++B.tests,A.same++B.same,A.diff++B.diff⟩
theorem srtU_le {l:List Int}:(srtU l).length≤l.length:=by
 have:=Lib.compact_length_le (srt l)
 rwa [srt_len] at this
theorem clN_ok {c:PCl} {σ:Int→Int} (h:c.Ok):(clN σ c).Ok:=by
 have h1:=h.nul
 have h2:=h.nn
 have e1:(srtU (c.nul.map σ)).length≤1000:=Nat.le_trans srtU_le (by rwa [List.length_map])
 have e2:(srtU (c.nn.map σ)).length≤1000:=Nat.le_trans srtU_le (by rwa [List.length_map])
 refine ⟨e1,e2,?_,?_,?_,?_,?_,fun a ha=>?_,fun a ha=>?_,fun a ha=>?_⟩
 ·show (c.aux.map _).length≤1000; rw [List.length_map]; exact h.aux
 ·show (c.ints.map _).length≤1000; rw [List.length_map]; exact h.ints
 ·show (c.tests.map _).length≤1000; rw [List.length_map]; exact h.tests
 ·show (c.same.map _).length≤1000; rw [List.length_map]; exact h.same
 ·show (c.diff.map _).length≤1000; rw [List.length_map]; exact h.diff
 ·obtain ⟨x,hx,rfl⟩:=List.mem_map.1 ha
  show (x.of_.cs.map _).length≤1000
  rw [List.length_map]; exact h.auxc x hx
 ·obtain ⟨x,hx,rfl⟩:=List.mem_map.1 ha
  show (x.l.cs.map _).length≤1000
  rw [List.length_map]; exact h.intc x hx
 ·obtain ⟨x,hx,rfl⟩:=List.mem_map.1 ha
  exact h.tes x hx
theorem mono_id {N:Int}:MonoN (fun v=>v) N:=fun a b _ h _=>h
theorem mono_sh {n N:Int} {m:Nat}:MonoN (shS n m) N:=fun a b _ h _=>by
 unfold shS
 split <;> split <;> omega
theorem fz2 {α:Type} {q v id:Nat} {f:α→List AV} {a b:List α} {η:Heap} (hb:η id=some ⟨v,[.tree q (a.map f),.tree q (b.map f)],1,false⟩):FzP [id] η (.sl id v 0 2) (.tree 1 ([a,b].map (lstA q f))):=fz_ls (ls:=[a,b]) (List.mem_singleton.2 rfl) hb
theorem use1 {η:Heap} {id:Nat} (h:(η id).isSome=true):∀ i∈[id],(η i).isSome=true:=fun i hi=>by rw [List.mem_singleton.1 hi]; exact h
theorem ls_ok {q v:Nat} {α:Type} {f:α→List AV} {K:List Nat} {a b:List α}:okBlk K ⟨v,[.tree q (a.map f),.tree q (b.map f)],1,false⟩:=⟨rfl,.inl rfl⟩
theorem delta2_rF {α:Type} {f:α→List AV} {q:Nat} (h:RowF f q) {m:List (Nat×Nat)} {i k j l v:Nat} {r:List α} {n:Bool} (e:gOf m i=k) (e2:gOf m j=l):deltaH m [(i,some ⟨v,rF f r,q,n⟩),(j,none)]=[(k,some ⟨v,rF f r,q,n⟩),(l,none)]:=by
 simp only [deltaH,List.map_cons,List.map_nil,e,e2,Option.map_some,Option.map_none,rF_blk h]
theorem bod53:bodied Tryz.prog 53=true:=by kernel_rfl
theorem bod54:bodied Tryz.prog 54=true:=by kernel_rfl
theorem bod55:bodied Tryz.prog 55=true:=by kernel_rfl
theorem bod56:bodied Tryz.prog 56=true:=by kernel_rfl
theorem zr29:zeroOf Tryz.prog 29=some (.slice none 0 0):=by kernel_rfl
theorem zr30:zeroOf Tryz.prog 30=some (.slice none 0 0):=by kernel_rfl
theorem zr31:zeroOf Tryz.prog 31=some (.slice none 0 0):=by kernel_rfl
theorem zr32:zeroOf Tryz.prog 32=some (.slice none 0 0):=by kernel_rfl
set_option maxRecDepth 100000 in
set_option maxHeartbeats 4000000 in
theorem joinC_p (a b:PCl) (n N:Int) (hN:N≤1000000) (ha:a.In N) (hb:b.In N):PCall Tryz.prog 24 [.agg (clA a),.agg (clA b),.v (.int .i64 n)] (.agg (clA (joC (clN (fun v=>v) a) (clN (shS n (clN (fun v=>v) a).aux.length) b)))):=by
 have hA:=clN_ok (σ:=fun v=>v) ha.ok
 have hB:=clN_ok (σ:=shS n (clN (fun v=>v) a).aux.length) hb.ok
 refine pB Tryz.func24 rfl Tryz.ntmps24 (Nat.le_of_ble_eq_true rfl) ?_
 refine wS (wR ?_)
 refine oW (LOp.bx rfl) rfl rfl 1 rfl ?_
 refine oW (LOp.bx rfl) rfl rfl 2 rfl ?_
 refine oW (LOp.bx rfl) rfl rfl 3 rfl ?_
 refine oW (LOp.al zr35 rfl) rfl rfl 4 rfl ?_
 refine oN (aN (wS (wR ?_)))
 refine oL (lA (a:=.clo _ _) rfl) rfl rfl ?_
 refine oN (aN (wS (wR ?_)))
 refine oL (LOp.ldN row35 rfl rfl rfl rfl rfl) rfl rfl ?_
 refine oL (lM (a:=.clo _ _) rfl) rfl rfl ?_
 refine oL (LOp.call bod50 rfl (renamed_n same_ok mono_id a ha)) rfl rfl ?_
 refine AOps.wr (LOp.st sz35 rfl rfl rfl rfl rfl rfl rfl rfl) rfl rfl rfl ?_
 refine oN (aN (wS ?_))
 refine AWP.freeze [2] 5 (.tp [.v (.int .i64 n)] 0) (FzP.ptrL (List.mem_singleton.2 rfl) rfl rfl (FzL.pure rfl)) rfl ?_
 refine AWP.freeze [0] 3 (.tp (clA (clN (fun v=>v) a)) 0) (FzP.ptrL (List.mem_singleton.2 rfl) rfl rfl (FzL.pure rfl)) rfl ?_
 refine wR ?_
 refine oL (LOp.ldN row35 rfl rfl rfl rfl rfl) rfl rfl ?_
 refine oL (LOp.mkFn (cs:=[.tp [.v (.int .i64 n)] 0,.tp (clA (clN (fun v=>v) a)) 0]) rfl) rfl rfl ?_
 refine oL (LOp.call bod50 rfl (renamed_n (sh_ok hA.aux hN) mono_sh b hb)) rfl rfl ?_
 refine AOps.wr (LOp.st sz35 rfl rfl rfl rfl rfl rfl rfl rfl) rfl rfl rfl ?_
 refine oN (aN (wS (AWP.regD mixed ?_)))
 refine qL (LOp.fieldAddrT fi35_0 rfl rfl) rfl rfl ?_
 refine qL (lE row29 rfl rfl) rfl rfl ?_
 refine qL (lF fi35_0 rfl rfl rfl rfl rfl) rfl rfl ?_
 refine qL (lD row29 rfl rfl rfl rfl rfl) rfl rfl ?_
 refine SeqC.nw (LOp.bs Tryz.underlying166 sz29 zr29 rfl rfl rfl rfl) rfl rfl 5 rfl ?_
 refine SeqC.gv (LOp.callH [(0,5),(TOP,4)] bod53 (concat_53 (clN (fun v=>v) a).nul (clN (shS n (clN (fun v=>v) a).aux.length) b).nul (by have:=hA.nul; have:=hB.nul; omega)) rfl rfl rfl rfl ⟨rfl,trivial⟩ ⟨ls_ok,trivial⟩ ⟨rF_in rowI _ _,trivial,trivial⟩ rfl rfl rfl rfl (delta2_rF rowI rfl rfl) rfl) rfl rfl 6 rfl rfl ?_
 refine SeqC.gv (LOp.callH [(TOP,5)] bod52 (sorted_r ((clN (fun v=>v) a).nul++(clN (shS n (clN (fun v=>v) a).aux.length) b).nul) 2 (by have:=hA.nul; have:=hB.nul; rw [List.length_append]; omega)) rfl rfl rfl rfl ⟨some_rF rowI,trivial⟩ ⟨rF_ok rowI,trivial⟩ ⟨trivial,trivial⟩ rfl rfl rfl rfl rfl rfl) rfl rfl 6 rfl rfl ?_
 refine qL (LOp.fieldAddrT fi35_1 rfl rfl) rfl rfl ?_
 refine qL (lE row29 rfl rfl) rfl rfl ?_
 refine qL (lF fi35_1 rfl rfl rfl rfl rfl) rfl rfl ?_
 refine qL (lD row29 rfl rfl rfl rfl rfl) rfl rfl ?_
 refine SeqC.nw (LOp.bs Tryz.underlying166 sz29 zr29 rfl rfl rfl rfl) rfl rfl 7 rfl ?_
 refine SeqC.gv (LOp.callH [(0,7),(TOP,6)] bod53 (concat_53 (clN (fun v=>v) a).nn (clN (shS n (clN (fun v=>v) a).aux.length) b).nn (by have:=hA.nn; have:=hB.nn; omega)) rfl rfl rfl rfl ⟨rfl,trivial⟩ ⟨ls_ok,trivial⟩ ⟨rF_in rowI _ _,trivial,trivial⟩ rfl rfl rfl rfl (delta2_rF rowI rfl rfl) rfl) rfl rfl 8 rfl rfl ?_
 refine SeqC.gv (LOp.callH [(TOP,7)] bod52 (sorted_r ((clN (fun v=>v) a).nn++(clN (shS n (clN (fun v=>v) a).aux.length) b).nn) 2 (by have:=hA.nn; have:=hB.nn; rw [List.length_append]; omega)) rfl rfl rfl rfl ⟨some_rF rowI,trivial⟩ ⟨rF_ok rowI,trivial⟩ ⟨trivial,trivial⟩ rfl rfl rfl rfl rfl rfl) rfl rfl 8 rfl rfl ?_
 refine qL (LOp.fieldAddrT fi35_2 rfl rfl) rfl rfl ?_
 refine qL (lE row30 rfl rfl) rfl rfl ?_
 refine qL (lF fi35_2 rfl rfl rfl rfl rfl) rfl rfl ?_
 refine qL (lD row30 rfl rfl rfl rfl rfl) rfl rfl ?_
 refine SeqC.nw (LOp.bs Tryz.underlying168 sz30 zr30 rfl rfl rfl rfl) rfl rfl 9 rfl ?_
 refine SeqC.gv (LOp.callF [8] bod54 rfl (fun j h h'=>match j,h with | 0,_=>fz2 rfl) (use1 rfl) (concat_54 (clN (fun v=>v) a).aux (clN (shS n (clN (fun v=>v) a).aux.length) b).aux (by have:=hA.aux; have:=hB.aux; omega))) rfl rfl 9 rfl rfl ?_
 refine qL (LOp.fieldAddrT fi35_3 rfl rfl) rfl rfl ?_
 refine qL (lE row31 rfl rfl) rfl rfl ?_
 refine qL (lF fi35_3 rfl rfl rfl rfl rfl) rfl rfl ?_
 refine qL (lD row31 rfl rfl rfl rfl rfl) rfl rfl ?_
 refine SeqC.nw (LOp.bs Tryz.underlying170 sz31 zr31 rfl rfl rfl rfl) rfl rfl 10 rfl ?_
 refine SeqC.gv (LOp.callF [9] bod55 rfl (fun j h h'=>match j,h with | 0,_=>fz2 rfl) (use1 rfl) (concat_55 (clN (fun v=>v) a).ints (clN (shS n (clN (fun v=>v) a).aux.length) b).ints (by have:=hA.ints; have:=hB.ints; omega))) rfl rfl 10 rfl rfl ?_
 refine qL (LOp.fieldAddrT fi35_4 rfl rfl) rfl rfl ?_
 refine qL (lE row32 rfl rfl) rfl rfl ?_
 refine qL (lF fi35_4 rfl rfl rfl rfl rfl) rfl rfl ?_
 refine qL (lD row32 rfl rfl rfl rfl rfl) rfl rfl ?_
 refine SeqC.nw (LOp.bs Tryz.underlying172 sz32 zr32 rfl rfl rfl rfl) rfl rfl 11 rfl ?_
 refine SeqC.gv (LOp.callF [10] bod56 rfl (fun j h h'=>match j,h with | 0,_=>fz2 rfl) (use1 rfl) (concat_56 (clN (fun v=>v) a).tests (clN (shS n (clN (fun v=>v) a).aux.length) b).tests (by have:=hA.tests; have:=hB.tests; omega))) rfl rfl 11 rfl rfl ?_
 refine qL (LOp.fieldAddrT fi35_5 rfl rfl) rfl rfl ?_
 refine qL (lE row33 rfl rfl) rfl rfl ?_
 refine qL (lF fi35_5 rfl rfl rfl rfl rfl) rfl rfl ?_
 refine qL (lD row33 rfl rfl rfl rfl rfl) rfl rfl ?_
 refine SeqC.nw (LOp.bs Tryz.underlying174 sz33 zr33 rfl rfl rfl rfl) rfl rfl 12 rfl ?_
 refine SeqC.gv (LOp.callF [11] bod57 rfl (fun j h h'=>match j,h with | 0,_=>fz2 rfl) (use1 rfl) (concat_57 (clN (fun v=>v) a).same (clN (shS n (clN (fun v=>v) a).aux.length) b).same (by have:=hA.same; have:=hB.same; omega))) rfl rfl 12 rfl rfl ?_
 refine qL (LOp.fieldAddrT fi35_6 rfl rfl) rfl rfl ?_
 refine qL (lE row33 rfl rfl) rfl rfl ?_
 refine qL (lF fi35_6 rfl rfl rfl rfl rfl) rfl rfl ?_
 refine qL (lD row33 rfl rfl rfl rfl rfl) rfl rfl ?_
 refine SeqC.nw (LOp.bs Tryz.underlying174 sz33 zr33 rfl rfl rfl rfl) rfl rfl 13 rfl ?_
 refine SeqC.gv (LOp.callF [12] bod57 rfl (fun j h h'=>match j,h with | 0,_=>fz2 rfl) (use1 rfl) (concat_57 (clN (fun v=>v) a).diff (clN (shS n (clN (fun v=>v) a).aux.length) b).diff (by have:=hA.diff; have:=hB.diff; omega))) rfl rfl 13 rfl rfl ?_
 refine qL (LOp.bd zr35 pl35 rfl rfl) rfl rfl ?_
 refine SeqC.wr (LOp.st sz35 rfl rfl rfl rfl rfl rfl rfl rfl) rfl rfl rfl ?_
 refine SeqC.nil ⟨by kernel_rfl,?_⟩
 refine aN ?_
 refine wT (?_)
 refine ⟨.inr rfl,Outs.cell Tryz.results24 row35 rfl rfl rfl rfl rfl ?_⟩
 exact ⟨[],FzP.pure rfl⟩
end Go.Proofs.YtgknefkobpnjaaaGreatDoor
namespace Go.Proofs.YtgknefkobpnjaaaGreatDoor
set_option linter.unusedVariables false
set_option linter.unusedSimpArgs false
open Go.RowKit
section
variable {P:Program} {τ:Nat→AV} {η:Heap} {d:Option Tmp} {ty:TypeId} {pos:String} {af:Array Edge} {g:Option (Nat×Bool)}
theorem LOp.dropT {α:Type} {t e m n:Nat} {k:IntKind} {v:Int} {x y:Operand} {f:α→List AV} {l:List α} (hu:P.underlying t=some (.slice e)) (hs:sizeInfo P e=some m) (hx:aev τ x=.tree m (l.map f)) (hi:aev τ y=.v (.int k v)) (hv:v=((n:Nat):Int)) (hn:n≤l.length) :
  LOp P ⟨d,.slice t x (some y) none none,ty,pos,af,g⟩ τ η [] [] (.tree m ((l.drop n).map f)):=by
 subst hv
 have h:sliceE P τ η 0 t x (some y) none=some ⟨[],[],.tree m ((l.drop n).map f),0⟩:=by
  have h1:Nat.ble n l.length=true:=Nat.ble_eq_true_of_le hn
  have h2:Nat.ble l.length l.length=true:=Nat.ble_eq_true_of_le (Nat.le_refl _)
  have h3:aev τ y=.v (.int k (Int.ofNat n)):=hi
  unfold sliceE
  rw [hu]
  simp only [hs,hx,natOf,h3,List.length_map,h1,h2,Nat.beq_refl,Bool.and_true,cond_true]
  congr 3
  rw [← List.map_drop,List.take_of_length_le (by simp)]
 exact sliceE_ok h
end
def idL (n:Nat):List Int:=(List.range n).map fun (i:Nat)=>(i:Int)
def seL (m n:Int) (k:Nat):List Int:=(List.range k).map fun (i:Nat)=>if (i:Int)≥m then (i:Int)+(n - m) else i
theorem idL_len {n:Nat}:(idL n).length=n:=by simp [idL]
theorem seL_len {m n:Int} {k:Nat}:(seL m n k).length=k:=by simp [seL]
theorem idL_next {n:Nat}:idL (n+1)=idL n++[(n:Int)]:=by simp [idL,List.range_succ]
theorem seL_t {m n:Int} {k:Nat} (h:(k:Int)≥m):seL m n (k+1)=seL m n k++[(k:Int)+(n - m)]:=by simp [seL,List.range_succ,h]
theorem seL_f {m n:Int} {k:Nat} (h:¬ (k:Int)≥m):seL m n (k+1)=seL m n k++[(k:Int)]:=by
 unfold seL
 rw [List.range_succ,List.map_append]
 simp only [List.map_cons,List.map_nil,if_neg h]
theorem idL_at {n i:Nat} (h:i < n):(idL n).getD i 0=i:=by simp [idL,List.getD,h]
theorem seL_at {m n:Int} {k i:Nat} (h:i < k):(seL m n k).getD i 0=if (i:Int)≥m then (i:Int)+(n - m) else i:=by simp [seL,List.getD,h]
/-- What the renamings do: of the first clause .. -/
theorem ren_id {np:Nat} {n v:Int} (hv:0≤v):renS (idL np) n v=if v≥(np:Int) then n+v - np else v:=by
 unfold renS
 rw [idL_len]
 split
 ·rfl
 ·rw [idL_at (by omega)]; omega
/-- .. and of the second. -/
theorem ren_se {m np nq:Nat} {v:Int} (hv:0≤v) (h2:m≤nq):renS (seL m np nq) ((np+(nq - m):Nat):Int) v=if v≥(m:Int) then v+np - m else v:=by
 unfold renS
 rw [seL_len]
 split
 ·rw [if_pos (by omega)]; omega
 ·rw [seL_at (by omega)]
  have:((v.toNat:Nat):Int)=v:=Int.toNat_of_nonneg hv
  rw [this]
  split <;> omega
theorem mono_ren1 {np:Nat} {n N:Int} (h:(np:Int)≤n):MonoN (renS (idL np) n) N:=fun a b ha hab _=>by
 rw [ren_id ha,ren_id (by omega)]
 split <;> split <;> omega
theorem mono_ren2 {m np nq:Nat} {N:Int} (h1:m≤np) (h2:m≤nq):MonoN (renS (seL m np nq) ((np+(nq - m):Nat):Int)) N:=fun a b ha hab _=>by
 rw [ren_se ha h2,ren_se (by omega) h2]
 split <;> split <;> omega
theorem compact_sub {l:List Int} {x:Int} (h:x∈Lib.compact l):x∈l:=by
 unfold Lib.compact Lib.compactUpTo at h
 obtain ⟨i,hi,rfl⟩:=List.mem_map.1 h
 have:=List.mem_range.1 (List.mem_filter.1 hi).1
 simp [this]
theorem srtU_sub {l:List Int} {x:Int} (h:x∈srtU l):x∈l:=(List.mergeSort_perm _ _).mem_iff.1 (compact_sub h)
theorem clN_in {c:PCl} {N M:Int} {σ:Int→Int} (h:c.In N) (hm:MonoN σ N) (hr:∀ v,0≤v→v≤N→0≤σ v∧σ v≤M):(clN σ c).In M:=by
 have hl:∀ f:PLin,f.Asc N→(liN σ f).Asc M:=fun f hf=>⟨by show (f.cs.map _).length≤1000; rw [List.length_map]; exact hf.len,
  fun a ha=>by obtain ⟨x,hx,rfl⟩:=List.mem_map.1 ha; exact hr _ (hf.rng x hx).1 (hf.rng x hx).2,
  fun a ha=>by obtain ⟨x,hx,rfl⟩:=List.mem_map.1 ha; exact hf.nz x hx,
  by
   show (f.cs.map _).Pairwise _
   rw [List.pairwise_map]
   exact hf.asc.imp_of_mem fun {a b} ha hb hab=>hm _ _ (hf.rng a ha).1 hab (hf.rng b hb).2⟩
 have hp:∀ l,InP N l→InP M (l.map (pairN σ)):=fun l hl p hp=>by
  obtain ⟨x,hx,rfl⟩:=List.mem_map.1 hp
  have h1:=hr _ (hl x hx).1.1 (hl x hx).1.2
  have h2:=hr _ (hl x hx).2.1 (hl x hx).2.2
  unfold pairN
  constructor <;> constructor <;> omega
 have hn:∀ l,InN N l→InN M (srtU (l.map σ)):=fun l hl v hv=>by
  obtain ⟨x,hx,rfl⟩:=List.mem_map.1 (srtU_sub hv)
  exact hr _ (hl x hx).1 (hl x hx).2
 refine ⟨clN_ok h.ok,hn _ h.nul,hn _ h.nn,fun a ha=>?_,fun a ha=>?_,fun a ha=>?_,fun a ha=>?_,hp _ h.same,hp _ h.diff⟩
 ·obtain ⟨x,hx,rfl⟩:=List.mem_map.1 ha
  exact hl _ (h.auxf x hx)
 ·obtain ⟨x,hx,rfl⟩:=List.mem_map.1 ha
  intro h0
  have h0:x.by_=0:=h0
  rw [ax_t h0]
  exact hr _ (h.auxt x hx h0).1 (h.auxt x hx h0).2
 ·obtain ⟨x,hx,rfl⟩:=List.mem_map.1 ha
  exact hl _ (h.ints x hx)
 ·obtain ⟨x,hx,rfl⟩:=List.mem_map.1 ha
  exact hr _ (h.tests x hx).1 (h.tests x hx).2
/-- Both clauses over the variables of both. -/
def pairS (A B:PCl) (n:Int):PCl:=joC (clN (fun v=>v) A) (clN (shS n (clN (fun v=>v) A).aux.length) B)
theorem bod23:bodied Tryz.prog 23=true:=by kernel_rfl
theorem bod24:bodied Tryz.prog 24=true:=by kernel_rfl
theorem bod25:bodied Tryz.prog 25=true:=by kernel_rfl
theorem zr22:zeroOf Tryz.prog 22=some (.slice none 0 0):=by kernel_rfl
set_option maxRecDepth 100000 in
set_option maxHeartbeats 4000000 in
theorem pair_h (p q:PPred) (a b m:Nat) (ht:p.tab=q.tab) (ha:a < p.cls.length) (hb:b < q.cls.length) (hcol:p.cols=q.cols) (hmc:q.cols=((m:Nat):Int)) (hmp:m≤p.vars.length) (hmq:m≤q.vars.length) (hp:p.vars.length≤1000) (hq:q.vars.length≤1000) (hpc:p.cls.length≤1000) (hqc:q.cls.length≤1000) (hA:p.cls[a].In 100000) (hB:q.cls[b].In 100000):HCall Tryz.prog 7 [.agg (prA p),.agg (prA q),.v (.int .i64 ((a:Nat):Int)),.v (.int .i64 ((b:Nat):Int))] [] [] (.tup [vsA (p.vars++q.vars.drop m),.agg (clA (pairS (clN (renS (idL p.vars.length) ((((p.vars++q.vars.drop m).length:Nat):Int))) p.cls[a]) (clN (renS (seL q.cols ((p.vars.length:Nat):Int) q.vars.length) ((((p.vars++q.vars.drop m).length:Nat):Int))) q.cls[b]) ((((p.vars++q.vars.drop m).length:Nat):Int))))]):=by
 have hn:(p.vars++q.vars.drop m).length=p.vars.length+(q.vars.length - m):=by rw [List.length_append,List.length_drop]
 have hm1:MonoN (renS (idL p.vars.length) ((((p.vars++q.vars.drop m).length:Nat):Int))) 100000:=mono_ren1 (by omega)
 have hm2:MonoN (renS (seL q.cols ((p.vars.length:Nat):Int) q.vars.length) ((((p.vars++q.vars.drop m).length:Nat):Int))) 100000:=by rw [hn,hmc]; exact mono_ren2 hmp hmq
 have hA2:(clN (renS (idL p.vars.length) ((((p.vars++q.vars.drop m).length:Nat):Int))) p.cls[a]).In 1000000:=clN_in hA hm1 fun v h1 h2=>by rw [ren_id h1]; split <;> omega
 have hB2:(clN (renS (seL q.cols ((p.vars.length:Nat):Int) q.vars.length) ((((p.vars++q.vars.drop m).length:Nat):Int))) q.cls[b]).In 1000000:=clN_in hB hm2 fun v h1 h2=>by rw [hn,hmc,ren_se h1 hmq]; split <;> omega
 refine HCall.of_body Tryz.func7 rfl Tryz.ntmps7 (Nat.le_of_ble_eq_true rfl) ?_
 refine wS (wR ?_)
 refine oW (LOp.bx rfl) rfl rfl 1 rfl ?_
 refine oW (LOp.bx rfl) rfl rfl 2 rfl ?_
 refine oL (lA (a:=.v _) rfl) rfl rfl ?_
 refine oW (LOp.al zr35 rfl) rfl rfl 3 rfl ?_
 refine oN (aN (wS (wS (wR ?_))))
 refine oL (lF fi25_0 rfl rfl rfl rfl rfl) rfl rfl ?_
 refine oL (lD row3 rfl rfl rfl rfl rfl) rfl rfl ?_
 refine oL (lF fi25_0 rfl rfl rfl rfl rfl) rfl rfl ?_
 refine oL (lD row3 rfl rfl rfl rfl rfl) rfl rfl ?_
 refine oL (lP rfl (fun _ _=>nofun) (fun _=>rfl)) rfl rfl ?_
 refine oL (lM (a:=.v _) rfl) rfl rfl ?_
 refine oB 21 rfl (fun hg21=>?_) (fun hg21=>?_)
 ·skip
  exact absurd hg21 (by simp [ht])
 ·skip
  refine oL (lM (a:=.v _) rfl) rfl rfl ?_
  refine oL (lP rfl (fun _ _=>nofun) (fun _=>rfl)) rfl rfl ?_
  refine oL (lK rfl rfl rfl) rfl rfl ?_
  refine oL (lM (a:=.v _) rfl) rfl rfl ?_
  refine oB 25 rfl (fun hg25=>?_) (fun hg25=>?_)
  ·skip
   exact absurd hg25 (by simp <;> omega)
  ·skip
   refine oL (lM (a:=.v _) rfl) rfl rfl ?_
   refine oL (lP rfl (fun _ _=>nofun) (fun _=>rfl)) rfl rfl ?_
   refine oL (lK rfl rfl rfl) rfl rfl ?_
   refine oL (lM (a:=.v _) rfl) rfl rfl ?_
   refine oB 29 rfl (fun hg29=>?_) (fun hg29=>?_)
   ·skip
    exact absurd hg29 (by simp <;> omega)
   ·skip
    refine oL (lM (a:=.v _) rfl) rfl rfl ?_
    refine oL (lF fi25_3 rfl rfl rfl rfl rfl) rfl rfl ?_
    refine oL (lD row23 rfl rfl rfl rfl rfl) rfl rfl ?_
    refine oL (lT rfl Tryz.underlying23 rfl) rfl rfl ?_
    refine oL (lP rfl (fun _ _=>nofun) (fun _=>rfl)) rfl rfl ?_
    refine oL (lK rfl rfl rfl) rfl rfl ?_
    refine oL (lM (a:=.v _) rfl) rfl rfl ?_
    refine oB 36 rfl (fun hg36=>?_) (fun hg36=>?_)
    ·skip
     exact absurd hg36 (by simp <;> omega)
    ·skip
     refine oL (lM (a:=.v _) rfl) rfl rfl ?_
     refine oL (lF fi25_3 rfl rfl rfl rfl rfl) rfl rfl ?_
     refine oL (lD row23 rfl rfl rfl rfl rfl) rfl rfl ?_
     refine oL (lT rfl Tryz.underlying23 rfl) rfl rfl ?_
     refine oL (lP rfl (fun _ _=>nofun) (fun _=>rfl)) rfl rfl ?_
     refine oL (lK rfl rfl rfl) rfl rfl ?_
     refine oN (aN ?_)
     refine wC rfl (fun hc42=>?_) (fun hc42=>?_)
     ·skip
      exact absurd hc42 (by simp <;> omega)
     ·skip
      refine wK (aN (wS (AWP.regD mixed ?_)))
      refine qL (lF fi25_2 rfl rfl rfl rfl rfl) rfl rfl ?_
      refine qL (lD row22 rfl rfl rfl rfl rfl) rfl rfl ?_
      refine qL (lF fi25_2 rfl rfl rfl rfl rfl) rfl rfl ?_
      refine qL (lD row22 rfl rfl rfl rfl rfl) rfl rfl ?_
      refine qL (lF fi25_1 rfl rfl rfl rfl rfl) rfl rfl ?_
      refine qL (lD row3 rfl rfl rfl rfl rfl) rfl rfl ?_
      refine qL (LOp.dropT Tryz.underlying22 sz44 rfl rfl hmc hmq) rfl rfl ?_
      refine SeqC.nw (LOp.bs Tryz.underlying115 sz22 zr22 rfl rfl rfl rfl) rfl rfl 4 rfl ?_
      refine SeqC.gv (LOp.callF [3] bod23 rfl (fun j h h'=>match j,h with | 0,_=>fz2 rfl) (use1 rfl) (concat_23 p.vars (q.vars.drop m) (by rw [List.length_drop]; omega))) rfl rfl 4 rfl rfl ?_
      refine qL (lA (a:=.tree _ _) rfl) rfl rfl ?_
      refine SeqC.nil ⟨by kernel_rfl,?_⟩
      refine aN (wS (wR ?_))
      refine oL (lA (a:=.v _) rfl) rfl rfl ?_
      refine oL (lA (a:=.v _) rfl) rfl rfl ?_
      refine oN (aN (wS (wS (wR ?_))))
      refine oL (lF fi25_2 rfl rfl rfl rfl rfl) rfl rfl ?_
      refine oL (lD row22 rfl rfl rfl rfl rfl) rfl rfl ?_
      refine oL (lT rfl Tryz.underlying22 rfl) rfl rfl ?_
      refine oL (lM (a:=.v _) rfl) rfl rfl ?_
      refine oN (aN (wB ?_))
      refine AWP.lazyT 11 1 rfl 5 rfl ?_
      refine wL (fun n s=>∃ k:Nat,n=(p.vars.length - k)∧s=⟨fL [(2,.v (.int .i64 ((a:Nat):Int))),(3,.v (.int .i64 ((b:Nat):Int))),(4,.ptr 0 0 0),(5,.ptr 1 0 0),(9,.ptr 2 0 0),(10,vsA (p.vars++q.vars.drop m)),(11,.sl 4 k 0 (idL k).length),(12,.v (.slice none 0 0)),(55,.v (.int .i64 ((p.vars.length:Nat):Int))),(56,.v (.int .i64 ((k:Nat):Int)))],hLz [(0,⟨0,prA p,0,false⟩),(1,⟨0,prA q,0,false⟩),(2,⟨0,[.v (.slice none 0 0),.v (.slice none 0 0),.v (.slice none 0 0),.v (.slice none 0 0),.v (.slice none 0 0),.v (.slice none 0 0),.v (.slice none 0 0)],0,false⟩),(4,⟨k,rF iA (idL k),1,Nat.beq (idL k).length 0⟩)],5⟩∧(k≤p.vars.length∧∀ j,j < k→(fun _=>true) j=true)) (n:=(p.vars.length - 0)) (s1:=⟨fL [(2,.v (.int .i64 ((a:Nat):Int))),(3,.v (.int .i64 ((b:Nat):Int))),(4,.ptr 0 0 0),(5,.ptr 1 0 0),(9,.ptr 2 0 0),(10,vsA (p.vars++q.vars.drop m)),(11,.sl 4 0 0 (idL 0).length),(12,.v (.slice none 0 0)),(55,.v (.int .i64 ((p.vars.length:Nat):Int))),(56,.v (.int .i64 ((0:Nat):Int)))],hLz [(0,⟨0,prA p,0,false⟩),(1,⟨0,prA q,0,false⟩),(2,⟨0,[.v (.slice none 0 0),.v (.slice none 0 0),.v (.slice none 0 0),.v (.slice none 0 0),.v (.slice none 0 0),.v (.slice none 0 0),.v (.slice none 0 0)],0,false⟩),(4,⟨0,rF iA (idL 0),1,Nat.beq (idL 0).length 0⟩)],5⟩) (cO (.cons rfl rfl (.cons rfl rfl (.cons rfl rfl (.cons rfl rfl (.cons rfl rfl (.cons rfl rfl (.cons (by first | rfl | (rw [hstep]; rfl) | (rw [hstep,List.length_append]; rfl)) rfl (.cons rfl rfl (.cons rfl rfl (.cons rfl rfl .nil)))))))))) (.cons rfl rfl rfl (.cons rfl rfl rfl (.cons rfl rfl rfl (.cons (by first | rfl | (rw [hstep]; rfl) | (rw [hstep,List.length_append]; rfl)) rfl (rF_low rowI _ _) .nil))))) ⟨0,rfl,rfl,⟨Nat.zero_le _,fun j h=>absurd h (Nat.not_lt_zero j)⟩⟩ ?_
      rintro n s ⟨k,rfl,rfl,hinv⟩
      obtain ⟨hk,hj⟩:=hinv
      have hil:=idL_len (n:=k)
      refine wS (wR ?_)
      refine oL (lP rfl (fun _ _=>nofun) (fun _=>rfl)) rfl rfl ?_
      refine oN (aN (wS ?_))
      refine wC rfl (fun hc57=>?_) (fun hc57=>?_)
      ·skip
       have hlt:k < p.vars.length:=Int.ofNat_lt.1 (of_decide_eq_true hc57)
       have hstep:=idL_next (n:=k)
       refine wK (aN (wS (wB (wS (wR ?_)))))
       refine oL (lM (a:=.v _) rfl) rfl rfl ?_
       refine oL (lA (a:=.v _) rfl) rfl rfl ?_
       refine oN (aN (wR ?_))
       refine oL (lM (a:=.sl _ _ _ _) rfl) rfl rfl ?_
       refine oL (lM (a:=.v _) rfl) rfl rfl ?_
       refine oW (LOp.bs Tryz.underlying29 sz3 zr3 rfl rfl rfl rfl) rfl rfl 6 rfl ?_
       refine AOps.gv (LOp.appRow rowI (a:=((k:Nat):Int)) Tryz.underlying29 sz3 zr3 by3 rfl rfl rfl (Src.slB rfl rfl rfl rfl) rfl (by omega) (by omega) (by unfold TV; omega)) rfl rfl 6 rfl rfl ?_
       refine oL (lA (a:=.sl _ _ _ _) rfl) rfl rfl ?_
       refine oN (bN (aN (wR ?_)))
       refine oL (lJ rfl rfl (by omega) (by omega)) rfl rfl ?_
       refine oL (lM (a:=.v _) rfl) rfl rfl ?_
       refine oN (aN ?_)
       refine ⟨(p.vars.length - (k+1)),⟨fL [(2,.v (.int .i64 ((a:Nat):Int))),(3,.v (.int .i64 ((b:Nat):Int))),(4,.ptr 0 0 0),(5,.ptr 1 0 0),(9,.ptr 2 0 0),(10,vsA (p.vars++q.vars.drop m)),(11,.sl 4 (k+1) 0 (idL (k+1)).length),(12,.v (.slice none 0 0)),(55,.v (.int .i64 ((p.vars.length:Nat):Int))),(56,.v (.int .i64 (((k+1):Nat):Int)))],hLz [(0,⟨0,prA p,0,false⟩),(1,⟨0,prA q,0,false⟩),(2,⟨0,[.v (.slice none 0 0),.v (.slice none 0 0),.v (.slice none 0 0),.v (.slice none 0 0),.v (.slice none 0 0),.v (.slice none 0 0),.v (.slice none 0 0)],0,false⟩),(4,⟨(k+1),rF iA (idL (k+1)),1,Nat.beq (idL (k+1)).length 0⟩)],5⟩,by omega,(cO (.cons rfl rfl (.cons rfl rfl (.cons rfl rfl (.cons rfl rfl (.cons rfl rfl (.cons rfl rfl (.cons (by first | rfl | (rw [hstep]; rfl) | (rw [hstep,List.length_append]; rfl)) rfl (.cons rfl rfl (.cons rfl rfl (.cons rfl rfl .nil)))))))))) (.cons rfl rfl rfl (.cons rfl rfl rfl (.cons rfl rfl rfl (.cons (by first | rfl | (rw [hstep]; rfl) | (rw [hstep,List.length_append]; rfl)) rfl (rF_low rowI _ _) .nil))))),(k+1),rfl,rfl,?_⟩
       refine ⟨by omega,fun j h=>?_⟩
       rcases Nat.lt_succ_iff_lt_or_eq.1 h with h | rfl
       ·exact hj j h
       ·rfl
      ·skip
       have hge:¬ k < p.vars.length:=fun h=>of_decide_eq_false hc57 (Int.ofNat_lt.2 h)
       have hkl:k=p.vars.length:=by omega
       subst hkl
       clear hj hk hge
       refine AWP.exit (aE (aE (bE ?_)))
       refine aN (wS (wS (wR ?_)))
       refine oL (lF fi25_2 rfl rfl rfl rfl rfl) rfl rfl ?_
       refine oL (lD row22 rfl rfl rfl rfl rfl) rfl rfl ?_
       refine oL (lT rfl Tryz.underlying22 rfl) rfl rfl ?_
       refine oL (lM (a:=.v _) rfl) rfl rfl ?_
       refine oN (aN (wB ?_))
       refine AWP.lazyT 12 1 rfl 6 rfl ?_
       refine wL (fun n s=>∃ k2:Nat,n=(q.vars.length - k2)∧s=⟨fL [(2,.v (.int .i64 ((a:Nat):Int))),(3,.v (.int .i64 ((b:Nat):Int))),(4,.ptr 0 0 0),(5,.ptr 1 0 0),(9,.ptr 2 0 0),(10,vsA (p.vars++q.vars.drop m)),(11,.sl 4 p.vars.length 0 (idL p.vars.length).length),(12,.sl 5 k2 0 (seL q.cols ((p.vars.length:Nat):Int) k2).length),(66,.v (.int .i64 ((q.vars.length:Nat):Int))),(67,.v (.int .i64 ((k2:Nat):Int)))],hLz [(0,⟨0,prA p,0,false⟩),(1,⟨0,prA q,0,false⟩),(2,⟨0,[.v (.slice none 0 0),.v (.slice none 0 0),.v (.slice none 0 0),.v (.slice none 0 0),.v (.slice none 0 0),.v (.slice none 0 0),.v (.slice none 0 0)],0,false⟩),(4,⟨p.vars.length,rF iA (idL p.vars.length),1,Nat.beq (idL p.vars.length).length 0⟩),(5,⟨k2,rF iA (seL q.cols ((p.vars.length:Nat):Int) k2),1,Nat.beq (seL q.cols ((p.vars.length:Nat):Int) k2).length 0⟩)],6⟩∧(k2≤q.vars.length∧∀ j,j < k2→(fun _=>true) j=true)) (n:=(q.vars.length - 0)) (s1:=⟨fL [(2,.v (.int .i64 ((a:Nat):Int))),(3,.v (.int .i64 ((b:Nat):Int))),(4,.ptr 0 0 0),(5,.ptr 1 0 0),(9,.ptr 2 0 0),(10,vsA (p.vars++q.vars.drop m)),(11,.sl 4 p.vars.length 0 (idL p.vars.length).length),(12,.sl 5 0 0 (seL q.cols ((p.vars.length:Nat):Int) 0).length),(66,.v (.int .i64 ((q.vars.length:Nat):Int))),(67,.v (.int .i64 ((0:Nat):Int)))],hLz [(0,⟨0,prA p,0,false⟩),(1,⟨0,prA q,0,false⟩),(2,⟨0,[.v (.slice none 0 0),.v (.slice none 0 0),.v (.slice none 0 0),.v (.slice none 0 0),.v (.slice none 0 0),.v (.slice none 0 0),.v (.slice none 0 0)],0,false⟩),(4,⟨p.vars.length,rF iA (idL p.vars.length),1,Nat.beq (idL p.vars.length).length 0⟩),(5,⟨0,rF iA (seL q.cols ((p.vars.length:Nat):Int) 0),1,Nat.beq (seL q.cols ((p.vars.length:Nat):Int) 0).length 0⟩)],6⟩) (cO (.cons rfl rfl (.cons rfl rfl (.cons rfl rfl (.cons rfl rfl (.cons rfl rfl (.cons rfl rfl (.cons rfl rfl (.cons (by first | rfl | (rw [hstep]; rfl) | (rw [hstep,List.length_append]; rfl)) rfl (.cons rfl rfl (.cons rfl rfl .nil)))))))))) (.cons rfl rfl rfl (.cons rfl rfl rfl (.cons rfl rfl rfl (.cons rfl rfl (rF_low rowI _ _) (.cons (by first | rfl | (rw [hstep]; rfl) | (rw [hstep,List.length_append]; rfl)) rfl (rF_low rowI _ _) .nil)))))) ⟨0,rfl,rfl,⟨Nat.zero_le _,fun j h=>absurd h (Nat.not_lt_zero j)⟩⟩ ?_
       rintro n s ⟨k2,rfl,rfl,hinv⟩
       obtain ⟨hk,hj⟩:=hinv
       have hil:=seL_len (m:=q.cols) (n:=((p.vars.length:Nat):Int)) (k:=k2)
       refine wS (wR ?_)
       refine oL (lP rfl (fun _ _=>nofun) (fun _=>rfl)) rfl rfl ?_
       refine oN (aN (wS ?_))
       refine wC rfl (fun hc68=>?_) (fun hc68=>?_)
       ·skip
        have hlt:k2 < q.vars.length:=Int.ofNat_lt.1 (of_decide_eq_true hc68)
        refine wK (aN (wS (wB (wS (wR ?_)))))
        refine oL (lM (a:=.v _) rfl) rfl rfl ?_
        refine oL (lA (a:=.v _) rfl) rfl rfl ?_
        refine oN (aN (wS (wS (wR ?_))))
        refine oL (lM (a:=.v _) rfl) rfl rfl ?_
        refine oL (lF fi25_1 rfl rfl rfl rfl rfl) rfl rfl ?_
        refine oL (lD row3 rfl rfl rfl rfl rfl) rfl rfl ?_
        refine oL (lP rfl (fun _ _=>nofun) (fun _=>rfl)) rfl rfl ?_
        refine oN (aN ?_)
        refine wC rfl (fun hc73=>?_) (fun hc73=>?_)
        ·skip
         have hstep:seL q.cols ((p.vars.length:Nat):Int) (k2+1)=seL q.cols ((p.vars.length:Nat):Int) k2++[((k2:Nat):Int)+(((p.vars.length:Nat):Int) - p.cols)]:=by rw [hcol]; exact seL_t (of_decide_eq_true hc73)
         refine wR ?_
         refine oL (lM (a:=.v _) rfl) rfl rfl ?_
         refine oL (lF fi25_2 rfl rfl rfl rfl rfl) rfl rfl ?_
         refine oL (lD row22 rfl rfl rfl rfl rfl) rfl rfl ?_
         refine oL (lT rfl Tryz.underlying22 rfl) rfl rfl ?_
         refine oL (lF fi25_1 rfl rfl rfl rfl rfl) rfl rfl ?_
         refine oL (lD row3 rfl rfl rfl rfl rfl) rfl rfl ?_
         refine oL (LOp.subI rfl rfl (by omega) (by omega)) rfl rfl ?_
         refine oL (lJ rfl rfl (by omega) (by omega)) rfl rfl ?_
         refine oL (lA (a:=.v _) rfl) rfl rfl ?_
         refine oN (aN (wR ?_))
         refine oL (lM (a:=.sl _ _ _ _) rfl) rfl rfl ?_
         refine oL (lM (a:=.v _) rfl) rfl rfl ?_
         refine oW (LOp.bs Tryz.underlying29 sz3 zr3 rfl rfl rfl rfl) rfl rfl 7 rfl ?_
         refine AOps.gv (LOp.appRow rowI (a:=((k2:Nat):Int)+(((p.vars.length:Nat):Int) - p.cols)) Tryz.underlying29 sz3 zr3 by3 rfl rfl rfl (Src.slB rfl rfl rfl rfl) rfl (by omega) (by omega) (by unfold TV; omega)) rfl rfl 7 rfl rfl ?_
         refine oL (lA (a:=.sl _ _ _ _) rfl) rfl rfl ?_
         refine oN (bN (aN (wR ?_)))
         refine oL (lJ rfl rfl (by omega) (by omega)) rfl rfl ?_
         refine oL (lM (a:=.v _) rfl) rfl rfl ?_
         refine oN (aN ?_)
         refine ⟨(q.vars.length - (k2+1)),⟨fL [(2,.v (.int .i64 ((a:Nat):Int))),(3,.v (.int .i64 ((b:Nat):Int))),(4,.ptr 0 0 0),(5,.ptr 1 0 0),(9,.ptr 2 0 0),(10,vsA (p.vars++q.vars.drop m)),(11,.sl 4 p.vars.length 0 (idL p.vars.length).length),(12,.sl 5 (k2+1) 0 (seL q.cols ((p.vars.length:Nat):Int) (k2+1)).length),(66,.v (.int .i64 ((q.vars.length:Nat):Int))),(67,.v (.int .i64 (((k2+1):Nat):Int)))],hLz [(0,⟨0,prA p,0,false⟩),(1,⟨0,prA q,0,false⟩),(2,⟨0,[.v (.slice none 0 0),.v (.slice none 0 0),.v (.slice none 0 0),.v (.slice none 0 0),.v (.slice none 0 0),.v (.slice none 0 0),.v (.slice none 0 0)],0,false⟩),(4,⟨p.vars.length,rF iA (idL p.vars.length),1,Nat.beq (idL p.vars.length).length 0⟩),(5,⟨(k2+1),rF iA (seL q.cols ((p.vars.length:Nat):Int) (k2+1)),1,Nat.beq (seL q.cols ((p.vars.length:Nat):Int) (k2+1)).length 0⟩)],6⟩,by omega,(cO (.cons rfl rfl (.cons rfl rfl (.cons rfl rfl (.cons rfl rfl (.cons rfl rfl (.cons rfl rfl (.cons rfl rfl (.cons (by first | rfl | (rw [hstep]; rfl) | (rw [hstep,List.length_append]; rfl)) rfl (.cons rfl rfl (.cons rfl rfl .nil)))))))))) (.cons rfl rfl rfl (.cons rfl rfl rfl (.cons rfl rfl rfl (.cons rfl rfl (rF_low rowI _ _) (.cons (by first | rfl | (rw [hstep]; rfl) | (rw [hstep,List.length_append]; rfl)) rfl (rF_low rowI _ _) .nil)))))),(k2+1),rfl,rfl,?_⟩
         refine ⟨by omega,fun j h=>?_⟩
         rcases Nat.lt_succ_iff_lt_or_eq.1 h with h | rfl
         ·exact hj j h
         ·rfl
        ·skip
         have hstep:=seL_f (n:=((p.vars.length:Nat):Int)) (of_decide_eq_false hc73)
         refine wK (aN (wR ?_))
         refine oL (lM (a:=.sl _ _ _ _) rfl) rfl rfl ?_
         refine oL (lM (a:=.v _) rfl) rfl rfl ?_
         refine oW (LOp.bs Tryz.underlying29 sz3 zr3 rfl rfl rfl rfl) rfl rfl 7 rfl ?_
         refine AOps.gv (LOp.appRow rowI (a:=((k2:Nat):Int)) Tryz.underlying29 sz3 zr3 by3 rfl rfl rfl (Src.slB rfl rfl rfl rfl) rfl (by omega) (by omega) (by unfold TV; omega)) rfl rfl 7 rfl rfl ?_
         refine oL (lA (a:=.sl _ _ _ _) rfl) rfl rfl ?_
         refine oN (bN (aN (wR ?_)))
         refine oL (lJ rfl rfl (by omega) (by omega)) rfl rfl ?_
         refine oL (lM (a:=.v _) rfl) rfl rfl ?_
         refine oN (aN ?_)
         refine ⟨(q.vars.length - (k2+1)),⟨fL [(2,.v (.int .i64 ((a:Nat):Int))),(3,.v (.int .i64 ((b:Nat):Int))),(4,.ptr 0 0 0),(5,.ptr 1 0 0),(9,.ptr 2 0 0),(10,vsA (p.vars++q.vars.drop m)),(11,.sl 4 p.vars.length 0 (idL p.vars.length).length),(12,.sl 5 (k2+1) 0 (seL q.cols ((p.vars.length:Nat):Int) (k2+1)).length),(66,.v (.int .i64 ((q.vars.length:Nat):Int))),(67,.v (.int .i64 (((k2+1):Nat):Int)))],hLz [(0,⟨0,prA p,0,false⟩),(1,⟨0,prA q,0,false⟩),(2,⟨0,[.v (.slice none 0 0),.v (.slice none 0 0),.v (.slice none 0 0),.v (.slice none 0 0),.v (.slice none 0 0),.v (.slice none 0 0),.v (.slice none 0 0)],0,false⟩),(4,⟨p.vars.length,rF iA (idL p.vars.length),1,Nat.beq (idL p.vars.length).length 0⟩),(5,⟨(k2+1),rF iA (seL q.cols ((p.vars.length:Nat):Int) (k2+1)),1,Nat.beq (seL q.cols ((p.vars.length:Nat):Int) (k2+1)).length 0⟩)],6⟩,by omega,(cO (.cons rfl rfl (.cons rfl rfl (.cons rfl rfl (.cons rfl rfl (.cons rfl rfl (.cons rfl rfl (.cons rfl rfl (.cons (by first | rfl | (rw [hstep]; rfl) | (rw [hstep,List.length_append]; rfl)) rfl (.cons rfl rfl (.cons rfl rfl .nil)))))))))) (.cons rfl rfl rfl (.cons rfl rfl rfl (.cons rfl rfl rfl (.cons rfl rfl (rF_low rowI _ _) (.cons (by first | rfl | (rw [hstep]; rfl) | (rw [hstep,List.length_append]; rfl)) rfl (rF_low rowI _ _) .nil)))))),(k2+1),rfl,rfl,?_⟩
         refine ⟨by omega,fun j h=>?_⟩
         rcases Nat.lt_succ_iff_lt_or_eq.1 h with h | rfl
         ·exact hj j h
         ·rfl
       ·skip
        have hge:¬ k2 < q.vars.length:=fun h=>of_decide_eq_false hc68 (Int.ofNat_lt.2 h)
        have hkl:k2=q.vars.length:=by omega
        subst hkl
        clear hj hk hge
        refine AWP.exit (aE (aE (bE ?_)))
        refine aN (wS (wR ?_))
        refine oL (lM (a:=.tree _ _) rfl) rfl rfl ?_
        refine oL (lT rfl Tryz.underlying22 rfl) rfl rfl ?_
        refine oL (lA (a:=.v _) rfl) rfl rfl ?_
        refine oN (aN (wS (AWP.regD mixed ?_)))
        refine qL (lM (a:=.tree _ _) rfl) rfl rfl ?_
        refine qL (lF fi25_3 rfl rfl rfl rfl rfl) rfl rfl ?_
        refine qL (lD row23 rfl rfl rfl rfl rfl) rfl rfl ?_
        refine qL (lM (a:=.v _) rfl) rfl rfl ?_
        refine qL (lI Tryz.underlying23 sz35 rfl rfl (by first | assumption | omega)) rfl rfl ?_
        refine qL (LOp.ldTN row35 rfl rfl) rfl rfl ?_
        refine qL (lM (a:=.sl _ _ _ _) rfl) rfl rfl ?_
        refine qL (lM (a:=.v _) rfl) rfl rfl ?_
        refine SeqC.gv (LOp.callF [4] bod25 rfl (fun j h h'=>match j,h with | 0,_=>FzP.pure rfl | 1,_=>FzP.rows rowI (List.mem_singleton.2 rfl) rfl | 2,_=>FzP.pure rfl) (use1 rfl) (rename_p p.cls[a] (idL p.vars.length) _ 100000 (by rw [idL_len]; exact hp) (by omega) (by omega) (by omega) hm1 hA)) rfl rfl 6 rfl rfl ?_
        refine qL (lF fi25_3 rfl rfl rfl rfl rfl) rfl rfl ?_
        refine qL (lD row23 rfl rfl rfl rfl rfl) rfl rfl ?_
        refine qL (lM (a:=.v _) rfl) rfl rfl ?_
        refine qL (lI Tryz.underlying23 sz35 rfl rfl (by first | assumption | omega)) rfl rfl ?_
        refine qL (LOp.ldTN row35 rfl rfl) rfl rfl ?_
        refine qL (lM (a:=.sl _ _ _ _) rfl) rfl rfl ?_
        refine qL (lM (a:=.v _) rfl) rfl rfl ?_
        refine SeqC.gv (LOp.callF [5] bod25 rfl (fun j h h'=>match j,h with | 0,_=>FzP.pure rfl | 1,_=>FzP.rows rowI (List.mem_singleton.2 rfl) rfl | 2,_=>FzP.pure rfl) (use1 rfl) (rename_p q.cls[b] (seL q.cols ((p.vars.length:Nat):Int) q.vars.length) _ 100000 (by rw [seL_len]; exact hq) (by omega) (by omega) (by omega) hm2 hB)) rfl rfl 6 rfl rfl ?_
        refine qL (lM (a:=.v _) rfl) rfl rfl ?_
        refine qL (LOp.call bod24 rfl (joinC_p (clN (renS (idL p.vars.length) ((((p.vars++q.vars.drop m).length:Nat):Int))) p.cls[a]) (clN (renS (seL q.cols ((p.vars.length:Nat):Int) q.vars.length) ((((p.vars++q.vars.drop m).length:Nat):Int))) q.cls[b]) ((((p.vars++q.vars.drop m).length:Nat):Int)) 1000000 (by omega) hA2 hB2)) rfl rfl ?_
        refine qL (lA (a:=.tree _ _) rfl) rfl rfl ?_
        refine SeqC.wr (LOp.st sz35 rfl rfl rfl rfl rfl rfl rfl rfl) rfl rfl rfl ?_
        refine SeqC.nil ⟨by kernel_rfl,?_⟩
        refine aN ?_
        refine wT (?_)
        refine ⟨.inr rfl,OutsH.of [] (ResIs.res Tryz.results7 (.cons (OutX.tmp rfl) (.cons (OutX.cellN row35 rfl rfl trivial rfl rfl rfl) .nil))) rfl trivial (.tup (.same (.fz (FzP.pure rfl) .nil)))⟩
end Go.Proofs.YtgknefkobpnjaaaGreatDoor
namespace Go.Proofs.YtgknefkobpnjaaaGreatDoor
set_option linter.unusedVariables false
set_option linter.unusedSimpArgs false
open Go.RowKit
/-- No pair: the tables differ, or there are no such clauses. -/
def noPair (p q:PPred) (i j:Int):Prop:=p.tab≠q.tab∨i < 0∨j < 0∨i≥p.cls.length∨j≥q.cls.length
theorem fz_nilC {fp:List Nat} {η:Heap}:FzP fp η (.agg [.v (.slice none 0 0),.v (.slice none 0 0),.v (.slice none 0 0),.v (.slice none 0 0),.v (.slice none 0 0),.v (.slice none 0 0),.v (.slice none 0 0)]) (.agg (clA default)) :=
 .aggL (.cons FzP.nil (.cons FzP.nil (.cons FzP.nil (.cons FzP.nil (.cons FzP.nil (.cons FzP.nil (.cons FzP.nil .nil)))))))
set_option maxRecDepth 100000 in
set_option maxHeartbeats 4000000 in
theorem pair0_h (p q:PPred) (i j:Int) (hno:noPair p q i j) (hpc:p.cls.length≤1000) (hqc:q.cls.length≤1000):HCall Tryz.prog 7 [.agg (prA p),.agg (prA q),.v (.int .i64 i),.v (.int .i64 j)] [] [] (.tup [vsA [],.agg (clA default)]):=by
 refine HCall.of_body Tryz.func7 rfl Tryz.ntmps7 (Nat.le_of_ble_eq_true rfl) ?_
 refine wS (wR ?_)
 refine oW (LOp.bx rfl) rfl rfl 1 rfl ?_
 refine oW (LOp.bx rfl) rfl rfl 2 rfl ?_
 refine oL (lA (a:=.v _) rfl) rfl rfl ?_
 refine oW (LOp.al zr35 rfl) rfl rfl 3 rfl ?_
 refine oN (aN (wS (wS (wR ?_))))
 refine oL (lF fi25_0 rfl rfl rfl rfl rfl) rfl rfl ?_
 refine oL (lD row3 rfl rfl rfl rfl rfl) rfl rfl ?_
 refine oL (lF fi25_0 rfl rfl rfl rfl rfl) rfl rfl ?_
 refine oL (lD row3 rfl rfl rfl rfl rfl) rfl rfl ?_
 refine oL (lP rfl (fun _ _=>nofun) (fun _=>rfl)) rfl rfl ?_
 refine oL (lM (a:=.v _) rfl) rfl rfl ?_
 refine oB 21 rfl (fun hg21=>?_) (fun hg21=>?_)
 ·skip
  refine oS rfl rfl ?_
  refine oS rfl rfl ?_
  refine oL (LOp.pkT (a:=.v _) rfl (by first | rfl | assumption) rfl) rfl rfl ?_
  refine oL (lM (a:=.v _) rfl) rfl rfl ?_
  refine oS rfl rfl ?_
  refine oS rfl rfl ?_
  refine oL (LOp.pkT (a:=.v _) rfl (by first | rfl | assumption) rfl) rfl rfl ?_
  refine oL (lM (a:=.v _) rfl) rfl rfl ?_
  refine oS rfl rfl ?_
  refine oS rfl rfl ?_
  refine oS rfl rfl ?_
  refine oS rfl rfl ?_
  refine oS rfl rfl ?_
  refine oL (LOp.pkT (a:=.v _) rfl (by first | rfl | assumption) rfl) rfl rfl ?_
  refine oL (lM (a:=.v _) rfl) rfl rfl ?_
  refine oS rfl rfl ?_
  refine oS rfl rfl ?_
  refine oS rfl rfl ?_
  refine oS rfl rfl ?_
  refine oS rfl rfl ?_
  refine oL (LOp.pkT (a:=.v _) rfl (by first | rfl | assumption) rfl) rfl rfl ?_
  refine oN (aN ?_)
  refine AWP.condT rfl ?_
  refine wS (wR ?_)
  refine oL (LOp.bd zr35 pl35 rfl rfl) rfl rfl ?_
  refine oL (lA (a:=.v _) rfl) rfl rfl ?_
  refine AOps.wr (LOp.st sz35 rfl rfl rfl rfl rfl rfl rfl rfl) rfl rfl rfl ?_
  refine oN (aN ?_)
  refine wT (aR (?_))
  refine ⟨.inr rfl,OutsH.of [] (ResIs.res Tryz.results7 (.cons (OutX.tmp rfl) (.cons (OutX.cellN row35 rfl rfl trivial rfl rfl rfl) .nil))) rfl trivial (.tup (.fz FzP.nil (.fz fz_nilC .nil)))⟩
 ·skip
  refine oL (lM (a:=.v _) rfl) rfl rfl ?_
  refine oL (lP rfl (fun _ _=>nofun) (fun _=>rfl)) rfl rfl ?_
  refine oL (lK rfl rfl rfl) rfl rfl ?_
  refine oL (lM (a:=.v _) rfl) rfl rfl ?_
  refine oB 25 rfl (fun hg25=>?_) (fun hg25=>?_)
  ·skip
   refine oS rfl rfl ?_
   refine oS rfl rfl ?_
   refine oL (LOp.pkT (a:=.v _) rfl (by first | rfl | assumption) rfl) rfl rfl ?_
   refine oL (lM (a:=.v _) rfl) rfl rfl ?_
   refine oS rfl rfl ?_
   refine oS rfl rfl ?_
   refine oS rfl rfl ?_
   refine oS rfl rfl ?_
   refine oS rfl rfl ?_
   refine oL (LOp.pkT (a:=.v _) rfl (by first | rfl | assumption) rfl) rfl rfl ?_
   refine oL (lM (a:=.v _) rfl) rfl rfl ?_
   refine oS rfl rfl ?_
   refine oS rfl rfl ?_
   refine oS rfl rfl ?_
   refine oS rfl rfl ?_
   refine oS rfl rfl ?_
   refine oL (LOp.pkT (a:=.v _) rfl (by first | rfl | assumption) rfl) rfl rfl ?_
   refine oN (aN ?_)
   refine AWP.condT rfl ?_
   refine wS (wR ?_)
   refine oL (LOp.bd zr35 pl35 rfl rfl) rfl rfl ?_
   refine oL (lA (a:=.v _) rfl) rfl rfl ?_
   refine AOps.wr (LOp.st sz35 rfl rfl rfl rfl rfl rfl rfl rfl) rfl rfl rfl ?_
   refine oN (aN ?_)
   refine wT (aR (?_))
   refine ⟨.inr rfl,OutsH.of [] (ResIs.res Tryz.results7 (.cons (OutX.tmp rfl) (.cons (OutX.cellN row35 rfl rfl trivial rfl rfl rfl) .nil))) rfl trivial (.tup (.fz FzP.nil (.fz fz_nilC .nil)))⟩
  ·skip
   refine oL (lM (a:=.v _) rfl) rfl rfl ?_
   refine oL (lP rfl (fun _ _=>nofun) (fun _=>rfl)) rfl rfl ?_
   refine oL (lK rfl rfl rfl) rfl rfl ?_
   refine oL (lM (a:=.v _) rfl) rfl rfl ?_
   refine oB 29 rfl (fun hg29=>?_) (fun hg29=>?_)
   ·skip
    refine oS rfl rfl ?_
    refine oS rfl rfl ?_
    refine oS rfl rfl ?_
    refine oS rfl rfl ?_
    refine oS rfl rfl ?_
    refine oL (LOp.pkT (a:=.v _) rfl (by first | rfl | assumption) rfl) rfl rfl ?_
    refine oL (lM (a:=.v _) rfl) rfl rfl ?_
    refine oS rfl rfl ?_
    refine oS rfl rfl ?_
    refine oS rfl rfl ?_
    refine oS rfl rfl ?_
    refine oS rfl rfl ?_
    refine oL (LOp.pkT (a:=.v _) rfl (by first | rfl | assumption) rfl) rfl rfl ?_
    refine oN (aN ?_)
    refine AWP.condT rfl ?_
    refine wS (wR ?_)
    refine oL (LOp.bd zr35 pl35 rfl rfl) rfl rfl ?_
    refine oL (lA (a:=.v _) rfl) rfl rfl ?_
    refine AOps.wr (LOp.st sz35 rfl rfl rfl rfl rfl rfl rfl rfl) rfl rfl rfl ?_
    refine oN (aN ?_)
    refine wT (aR (?_))
    refine ⟨.inr rfl,OutsH.of [] (ResIs.res Tryz.results7 (.cons (OutX.tmp rfl) (.cons (OutX.cellN row35 rfl rfl trivial rfl rfl rfl) .nil))) rfl trivial (.tup (.fz FzP.nil (.fz fz_nilC .nil)))⟩
   ·skip
    refine oL (lM (a:=.v _) rfl) rfl rfl ?_
    refine oL (lF fi25_3 rfl rfl rfl rfl rfl) rfl rfl ?_
    refine oL (lD row23 rfl rfl rfl rfl rfl) rfl rfl ?_
    refine oL (lT rfl Tryz.underlying23 rfl) rfl rfl ?_
    refine oL (lP rfl (fun _ _=>nofun) (fun _=>rfl)) rfl rfl ?_
    refine oL (lK rfl rfl rfl) rfl rfl ?_
    refine oL (lM (a:=.v _) rfl) rfl rfl ?_
    refine oB 36 rfl (fun hg36=>?_) (fun hg36=>?_)
    ·skip
     refine oS rfl rfl ?_
     refine oS rfl rfl ?_
     refine oS rfl rfl ?_
     refine oS rfl rfl ?_
     refine oS rfl rfl ?_
     refine oL (LOp.pkT (a:=.v _) rfl (by first | rfl | assumption) rfl) rfl rfl ?_
     refine oN (aN ?_)
     refine AWP.condT rfl ?_
     refine wS (wR ?_)
     refine oL (LOp.bd zr35 pl35 rfl rfl) rfl rfl ?_
     refine oL (lA (a:=.v _) rfl) rfl rfl ?_
     refine AOps.wr (LOp.st sz35 rfl rfl rfl rfl rfl rfl rfl rfl) rfl rfl rfl ?_
     refine oN (aN ?_)
     refine wT (aR (?_))
     refine ⟨.inr rfl,OutsH.of [] (ResIs.res Tryz.results7 (.cons (OutX.tmp rfl) (.cons (OutX.cellN row35 rfl rfl trivial rfl rfl rfl) .nil))) rfl trivial (.tup (.fz FzP.nil (.fz fz_nilC .nil)))⟩
    ·skip
     refine oL (lM (a:=.v _) rfl) rfl rfl ?_
     refine oL (lF fi25_3 rfl rfl rfl rfl rfl) rfl rfl ?_
     refine oL (lD row23 rfl rfl rfl rfl rfl) rfl rfl ?_
     refine oL (lT rfl Tryz.underlying23 rfl) rfl rfl ?_
     refine oL (lP rfl (fun _ _=>nofun) (fun _=>rfl)) rfl rfl ?_
     refine oL (lK rfl rfl rfl) rfl rfl ?_
     refine oN (aN ?_)
     refine wC rfl (fun hc42=>?_) (fun hc42=>?_)
     ·skip
      refine wS (wR ?_)
      refine oL (LOp.bd zr35 pl35 rfl rfl) rfl rfl ?_
      refine oL (lA (a:=.v _) rfl) rfl rfl ?_
      refine AOps.wr (LOp.st sz35 rfl rfl rfl rfl rfl rfl rfl rfl) rfl rfl rfl ?_
      refine oN (aN ?_)
      refine wT (aR (?_))
      refine ⟨.inr rfl,OutsH.of [] (ResIs.res Tryz.results7 (.cons (OutX.tmp rfl) (.cons (OutX.cellN row35 rfl rfl trivial rfl rfl rfl) .nil))) rfl trivial (.tup (.fz FzP.nil (.fz fz_nilC .nil)))⟩
     ·skip
      exact absurd hno (by unfold noPair; simp at *; omega)
end Go.Proofs.YtgknefkobpnjaaaGreatDoor
namespace Go.Proofs.YtgknefkobpnjaaaGreatDoor
set_option linter.unusedVariables false
set_option linter.unusedSimpArgs false
open Go.RowKit
/-- One element of the list passes while x waits to be put in. -/
def stepI (x:Int) (s:Bool×List Int) (o:Int):Bool×List Int :=
 if s.1=false∧o≥x then (true,(if o > x then s.2++[x] else s.2)++[o]) else (s.1,s.2++[o])
def insP (x:Int) (out:List Int) (k:Nat):Bool×List Int:=(out.take k).foldl (stepI x) (false,[])
def insL (out:List Int) (x:Int):List Int:=if (insP x out out.length).1=false then (insP x out out.length).2++[x] else (insP x out out.length).2
/-- The reference's sorting. -/
def sortL (l:List Int):List Int:=l.foldl insL []
section
variable {x:Int} {out:List Int} {k:Nat}
theorem insP_next (h:k < out.length):insP x out (k+1)=stepI x (insP x out k) out[k]:=by
 unfold insP
 rw [List.take_succ_eq_append_getElem h,List.foldl_append]; rfl
theorem insA (h:k < out.length) (h1:(insP x out k).1=false) (h2:out[k]≥x) (h3:out[k] > x):(insP x out (k+1)).1=true∧(insP x out (k+1)).2=(insP x out k).2++[x]++[out[k]]:=by
 rw [insP_next h,stepI,if_pos ⟨h1,h2⟩,if_pos h3]; exact ⟨rfl,rfl⟩
theorem insB (h:k < out.length) (h1:(insP x out k).1=false) (h2:out[k]≥x) (h3:¬ out[k] > x):(insP x out (k+1)).1=true∧(insP x out (k+1)).2=(insP x out k).2++[out[k]]:=by
 rw [insP_next h,stepI,if_pos ⟨h1,h2⟩,if_neg h3]; exact ⟨rfl,rfl⟩
theorem insC (h:k < out.length) (h1:(insP x out k).1=false) (h2:¬ out[k]≥x):(insP x out (k+1)).1=false∧(insP x out (k+1)).2=(insP x out k).2++[out[k]]:=by
 rw [insP_next h,stepI,if_neg fun e=>h2 e.2]; exact ⟨h1,rfl⟩
theorem insD (h:k < out.length) (h1:(insP x out k).1=true):(insP x out (k+1)).1=true∧(insP x out (k+1)).2=(insP x out k).2++[out[k]]:=by
 rw [insP_next h,stepI,if_neg fun e=>by rw [h1] at e; cases e.1]; exact ⟨h1,rfl⟩
theorem stepI_len {s:Bool×List Int} {o:Int} {n:Nat} (h:s.2.length≤n+(if s.1=true then 1 else 0)):(stepI x s o).2.length≤n+1+(if (stepI x s o).1=true then 1 else 0):=by
 unfold stepI
 split
 ·rename_i h1
  rw [h1.1] at h
  simp only [Bool.false_eq_true,if_false] at h
  split <;> simp <;> omega
 ·simp only [List.length_append,List.length_singleton]
  omega
theorem insP_len':∀ {k:Nat},k≤out.length→(insP x out k).2.length≤k+(if (insP x out k).1=true then 1 else 0)
 | 0,_=>by simp [insP]
 | k+1,h=>by rw [insP_next h]; exact stepI_len (insP_len' (Nat.le_of_lt h))
theorem insP_len (h:k≤out.length):(insP x out k).2.length≤k+1:=by
 have:=insP_len' (x:=x) h
 split at this <;> omega
theorem insL_len:(insL out x).length≤out.length+1:=by
 have:=insP_len' (x:=x) (Nat.le_refl out.length)
 unfold insL
 split
 ·rename_i h
  rw [h] at this
  simp only [Bool.false_eq_true,if_false] at this
  simp; omega
 ·split at this <;> omega
end
theorem sortL_next {l:List Int} {k:Nat} (h:k < l.length):sortL (l.take (k+1))=insL (sortL (l.take k)) l[k]:=by
 unfold sortL
 rw [List.take_succ_eq_append_getElem h,List.foldl_append]; rfl
theorem sortL_len {l:List Int}:∀ {k:Nat},k≤l.length→(sortL (l.take k)).length≤k
 | 0,_=>by simp [sortL]
 | k+1,h=>by
  rw [sortL_next h]
  have:=sortL_len (l:=l) (k:=k) (Nat.le_of_lt h)
  have:=insL_len (out:=sortL (l.take k)) (x:=l[k])
  omega
set_option maxRecDepth 100000 in
set_option maxHeartbeats 4000000 in
theorem move_p (to:List Int) (n v:Int) (ht:to.length≤1000) (hn0:0≤n) (hn:n≤1000000) (hv0:0≤v) (hv:v≤1000000):PCall Tryz.prog 61 [.v (.int .i64 v),isA to,.v (.int .i64 n)] (.v (.int .i64 (renS to n v))):=by
 refine pB Tryz.func61 rfl Tryz.ntmps61 (Nat.le_of_ble_eq_true rfl) ?_
 refine wS (wR ?_)
 refine oL (lA (a:=.v _) rfl) rfl rfl ?_
 refine oN (aN (wS (wS (wR ?_))))
 refine oL (lM (a:=.v _) rfl) rfl rfl ?_
 refine oL (lM (a:=.tree _ _) rfl) rfl rfl ?_
 refine oL (lT rfl Tryz.underlying29 rfl) rfl rfl ?_
 refine oL (lP rfl (fun _ _=>nofun) (fun _=>rfl)) rfl rfl ?_
 refine oN (aN ?_)
 refine wC rfl (fun hc10=>?_) (fun hc10=>?_)
 ·skip
  have hge:v < (to.length:Int):=of_decide_eq_true hc10
  obtain ⟨j,rfl⟩:∃ j:Nat,v=(j:Int):=⟨v.toNat,by omega⟩
  have hj:j < to.length:=by omega
  refine wS (wR ?_)
  refine oL (lM (a:=.tree _ _) rfl) rfl rfl ?_
  refine oL (lM (a:=.v _) rfl) rfl rfl ?_
  refine oL (LOp.indexI Tryz.underlying29 sz3 rfl rfl rfl hj) rfl rfl ?_
  refine oL (lE row3 rfl rfl) rfl rfl ?_
  refine oL (lA (a:=.v _) rfl) rfl rfl ?_
  refine oN (aN ?_)
  refine wT (aR (?_))
  refine ⟨.inr rfl,oV Tryz.results61 rfl rfl ?_⟩
  exact vi_eq (by unfold renS; rw [if_neg (by omega),Int.toNat_natCast,getD_at hj])
 ·skip
  have hge:¬ v < (to.length:Int):=of_decide_eq_false hc10
  refine wK (aN (wS (wR ?_)))
  refine oL (lM (a:=.v _) rfl) rfl rfl ?_
  refine oL (lM (a:=.tree _ _) rfl) rfl rfl ?_
  refine oL (lT rfl Tryz.underlying29 rfl) rfl rfl ?_
  refine oL (LOp.subI rfl rfl (by omega) (by omega)) rfl rfl ?_
  refine oL (lM (a:=.v _) rfl) rfl rfl ?_
  refine oL (lJ rfl rfl (by omega) (by omega)) rfl rfl ?_
  refine oL (lA (a:=.v _) rfl) rfl rfl ?_
  refine oN (aN ?_)
  refine wT (?_)
  refine ⟨.inr rfl,oV Tryz.results61 rfl rfl ?_⟩
  exact vi_eq (by unfold renS; rw [if_pos (by omega)]; omega)
set_option maxRecDepth 100000 in
set_option maxHeartbeats 4000000 in
theorem sortR_p (l:List Int) (hl:l.length≤10000):PCall Tryz.prog 59 [isA l] (isA (sortL l)):=by
 refine pB Tryz.func59 rfl Tryz.ntmps59 (Nat.le_of_ble_eq_true rfl) ?_
 refine wS (wR ?_)
 refine oL (lA (a:=.v _) rfl) rfl rfl ?_
 refine oN (aN (wS (wR ?_)))
 refine oL (lA (a:=.v _) rfl) rfl rfl ?_
 refine oN (aN (wS (wS (wR ?_))))
 refine oL (lA (a:=.v _) rfl) rfl rfl ?_
 refine oN (aN (wB ?_))
 refine AWP.freeze [] 3 (isA (sortL (l.take 0))) FzP.nil rfl ?_
 refine wL (fun n s=>∃ k:Nat,n=(l.length - k)∧s=⟨fL [(0,isA l),(3,isA (sortL (l.take k))),(4,.v (.int .i64 ((k:Nat):Int)))],hLz [],0⟩∧(k≤l.length∧∀ j,j < k→(fun _=>true) j=true)) (n:=(l.length - 0)) (s1:=⟨fL [(0,isA l),(3,isA (sortL (l.take 0))),(4,.v (.int .i64 ((0:Nat):Int)))],hLz [],0⟩) (cO (.cons rfl rfl (.cons rfl rfl (.cons rfl rfl .nil))) .nil) ⟨0,rfl,rfl,⟨Nat.zero_le _,fun j h=>absurd h (Nat.not_lt_zero j)⟩⟩ ?_
 rintro n s ⟨k,rfl,rfl,hinv⟩
 obtain ⟨hk,hj⟩:=hinv
 have hsl:=sortL_len hk
 refine wS (wS (wR ?_))
 refine oL (lM (a:=.v _) rfl) rfl rfl ?_
 refine oL (lM (a:=.tree _ _) rfl) rfl rfl ?_
 refine oL (lT rfl Tryz.underlying29 rfl) rfl rfl ?_
 refine oL (lP rfl (fun _ _=>nofun) (fun _=>rfl)) rfl rfl ?_
 refine oN (aN ?_)
 refine wC rfl (fun hc11=>?_) (fun hc11=>?_)
 ·skip
  have hlt:k < l.length:=Int.ofNat_lt.1 (of_decide_eq_true hc11)
  refine wK (aN (wS (wB (wS (wR ?_)))))
  refine oL (lA (a:=.v _) rfl) rfl rfl ?_
  refine oN (aN (wS (wR ?_)))
  refine oL (lA (a:=.v _) rfl) rfl rfl ?_
  refine oN (aN (wS (wS (wR ?_))))
  refine oL (lA (a:=.v _) rfl) rfl rfl ?_
  refine oN (aN (wB ?_))
  refine AWP.lazyT 5 1 rfl 1 rfl ?_
  refine wL (fun n s=>∃ k2:Nat,n=((sortL (l.take k)).length - k2)∧s=⟨fL [(0,isA l),(3,isA (sortL (l.take k))),(4,.v (.int .i64 ((k:Nat):Int))),(5,.sl 0 (insP l[k] (sortL (l.take k)) k2).2.length 0 (insP l[k] (sortL (l.take k)) k2).2.length),(6,.v (.bool (insP l[k] (sortL (l.take k)) k2).1)),(7,.v (.int .i64 ((k2:Nat):Int)))],hLz [(0,⟨(insP l[k] (sortL (l.take k)) k2).2.length,rF iA (insP l[k] (sortL (l.take k)) k2).2,1,Nat.beq (insP l[k] (sortL (l.take k)) k2).2.length 0⟩)],1⟩∧(k2≤(sortL (l.take k)).length∧∀ j,j < k2→(fun _=>true) j=true)) (n:=((sortL (l.take k)).length - 0)) (s1:=⟨fL [(0,isA l),(3,isA (sortL (l.take k))),(4,.v (.int .i64 ((k:Nat):Int))),(5,.sl 0 (insP l[k] (sortL (l.take k)) 0).2.length 0 (insP l[k] (sortL (l.take k)) 0).2.length),(6,.v (.bool (insP l[k] (sortL (l.take k)) 0).1)),(7,.v (.int .i64 ((0:Nat):Int)))],hLz [(0,⟨(insP l[k] (sortL (l.take k)) 0).2.length,rF iA (insP l[k] (sortL (l.take k)) 0).2,1,Nat.beq (insP l[k] (sortL (l.take k)) 0).2.length 0⟩)],1⟩) (cO (.cons rfl rfl (.cons rfl rfl (.cons rfl rfl (.cons (by first | rfl | (rw [hst1]; rfl) | (rw [hst1,List.length_append]; rfl) | (rw [hst1,List.length_append,List.length_append]; rfl) | (rw [hst1,List.length_append,List.length_append,List.length_append]; rfl)) rfl (.cons (by first | rfl | exact vb_eq hst0.symm) rfl (.cons rfl rfl .nil)))))) (.cons (by first | rfl | (rw [hst1]; rfl) | (rw [hst1,List.length_append]; rfl) | (rw [hst1,List.length_append,List.length_append]; rfl) | (rw [hst1,List.length_append,List.length_append,List.length_append]; rfl)) rfl (rF_low rowI _ _) .nil)) ⟨0,rfl,rfl,⟨Nat.zero_le _,fun j h=>absurd h (Nat.not_lt_zero j)⟩⟩ ?_
  rintro n s ⟨k2,rfl,rfl,hinv⟩
  obtain ⟨hk2,hj2⟩:=hinv
  have hil:=insP_len (x:=l[k]) hk2
  refine wS (wS (wR ?_))
  refine oL (lM (a:=.v _) rfl) rfl rfl ?_
  refine oL (lM (a:=.tree _ _) rfl) rfl rfl ?_
  refine oL (lT rfl Tryz.underlying29 rfl) rfl rfl ?_
  refine oL (lP rfl (fun _ _=>nofun) (fun _=>rfl)) rfl rfl ?_
  refine oN (aN ?_)
  refine wC rfl (fun hc17=>?_) (fun hc17=>?_)
  ·skip
   have hlt2:k2 < (sortL (l.take k)).length:=Int.ofNat_lt.1 (of_decide_eq_true hc17)
   refine wK (aN (wS (wB (wS (wS (AWP.regD mixed ?_))))))
   refine qL (lM (a:=.v _) rfl) rfl rfl ?_
   refine qL (lP rfl (fun _ _=>nofun) (fun _=>rfl)) rfl rfl ?_
   refine qL (lM (a:=.v _) rfl) rfl rfl ?_
   refine SeqC.splitB 22 rfl (fun hg22=>?_) (fun hg22=>?_)
   ·skip
    have hput:(insP l[k] (sortL (l.take k)) k2).1=false:=by simpa using hg22
    refine qL (lM (a:=.tree _ _) rfl) rfl rfl ?_
    refine qL (lM (a:=.v _) rfl) rfl rfl ?_
    refine qL (lI Tryz.underlying29 sz3 rfl rfl (by first | assumption | omega)) rfl rfl ?_
    refine qL (lE row3 rfl rfl) rfl rfl ?_
    refine qL (lM (a:=.tree _ _) rfl) rfl rfl ?_
    refine qL (lM (a:=.v _) rfl) rfl rfl ?_
    refine qL (lI Tryz.underlying29 sz3 rfl rfl (by first | assumption | omega)) rfl rfl ?_
    refine qL (lE row3 rfl rfl) rfl rfl ?_
    refine qL (lP rfl (fun _ _=>nofun) (fun _=>rfl)) rfl rfl ?_
    refine qL (lK rfl rfl rfl) rfl rfl ?_
    refine SeqC.nil ⟨by kernel_rfl,?_⟩
    refine aN ?_
    refine wC rfl (fun hc32=>?_) (fun hc32=>?_)
    ·skip
     refine wS (wR ?_)
     refine oL (lA (a:=.v _) rfl) rfl rfl ?_
     refine oN (aN (wS (AWP.regD mixed ?_)))
     refine qL (lM (a:=.tree _ _) rfl) rfl rfl ?_
     refine qL (lM (a:=.v _) rfl) rfl rfl ?_
     refine qL (lI Tryz.underlying29 sz3 rfl rfl (by first | assumption | omega)) rfl rfl ?_
     refine qL (lE row3 rfl rfl) rfl rfl ?_
     refine qL (lM (a:=.tree _ _) rfl) rfl rfl ?_
     refine qL (lM (a:=.v _) rfl) rfl rfl ?_
     refine qL (lI Tryz.underlying29 sz3 rfl rfl (by first | assumption | omega)) rfl rfl ?_
     refine qL (lE row3 rfl rfl) rfl rfl ?_
     refine qL (lP rfl (fun _ _=>nofun) (fun _=>rfl)) rfl rfl ?_
     refine SeqC.nil ⟨by kernel_rfl,?_⟩
     refine aN ?_
     refine wC rfl (fun hc41=>?_) (fun hc41=>?_)
     ·skip
      obtain ⟨hst0,hst1⟩:=insA hlt2 hput (of_decide_eq_true hc32) (of_decide_eq_true hc41)
      refine wR ?_
      refine oL (lM (a:=.sl _ _ _ _) rfl) rfl rfl ?_
      refine oL (lM (a:=.tree _ _) rfl) rfl rfl ?_
      refine oL (lM (a:=.v _) rfl) rfl rfl ?_
      refine oL (lI Tryz.underlying29 sz3 rfl rfl (by first | assumption | omega)) rfl rfl ?_
      refine oL (lE row3 rfl rfl) rfl rfl ?_
      refine oW (LOp.bs Tryz.underlying29 sz3 zr3 rfl rfl rfl rfl) rfl rfl 2 rfl ?_
      refine AOps.gv (LOp.appRow rowI (a:=l[k]) Tryz.underlying29 sz3 zr3 by3 rfl rfl rfl (Src.slB rfl rfl rfl rfl) rfl (by first | omega | (rw [List.length_append]; simp only [List.length_singleton]; omega)) (by first | omega | (rw [List.length_append]; simp only [List.length_singleton]; omega)) (by unfold TV; omega)) rfl rfl 2 rfl rfl ?_
      refine oL (lA (a:=.sl _ _ _ _) rfl) rfl rfl ?_
      refine oN (aN (wR ?_))
      refine oL (lM (a:=.sl _ _ _ _) rfl) rfl rfl ?_
      refine oL (lM (a:=.tree _ _) rfl) rfl rfl ?_
      refine oL (lM (a:=.v _) rfl) rfl rfl ?_
      refine oL (lI Tryz.underlying29 sz3 rfl rfl (by first | assumption | omega)) rfl rfl ?_
      refine oL (lE row3 rfl rfl) rfl rfl ?_
      refine oW (LOp.bs Tryz.underlying29 sz3 zr3 rfl rfl rfl rfl) rfl rfl 3 rfl ?_
      refine AOps.gv (LOp.appRow rowI (a:=(sortL (l.take k))[k2]) Tryz.underlying29 sz3 zr3 by3 rfl rfl rfl (Src.slB rfl rfl rfl rfl) rfl (by first | omega | (rw [List.length_append]; simp only [List.length_singleton]; omega)) (by first | omega | (rw [List.length_append]; simp only [List.length_singleton]; omega)) (by unfold TV; omega)) rfl rfl 3 rfl rfl ?_
      refine oL (lA (a:=.sl _ _ _ _) rfl) rfl rfl ?_
      refine oN (bN (aN (wR ?_)))
      refine oL (lM (a:=.v _) rfl) rfl rfl ?_
      refine oL (lJ rfl rfl (by omega) (by omega)) rfl rfl ?_
      refine oL (lA (a:=.v _) rfl) rfl rfl ?_
      refine oN (aN ?_)
      refine ⟨((sortL (l.take k)).length - (k2+1)),⟨fL [(0,isA l),(3,isA (sortL (l.take k))),(4,.v (.int .i64 ((k:Nat):Int))),(5,.sl 0 (insP l[k] (sortL (l.take k)) (k2+1)).2.length 0 (insP l[k] (sortL (l.take k)) (k2+1)).2.length),(6,.v (.bool (insP l[k] (sortL (l.take k)) (k2+1)).1)),(7,.v (.int .i64 (((k2+1):Nat):Int)))],hLz [(0,⟨(insP l[k] (sortL (l.take k)) (k2+1)).2.length,rF iA (insP l[k] (sortL (l.take k)) (k2+1)).2,1,Nat.beq (insP l[k] (sortL (l.take k)) (k2+1)).2.length 0⟩)],1⟩,by omega,(cO (.cons rfl rfl (.cons rfl rfl (.cons rfl rfl (.cons (by first | rfl | (rw [hst1]; rfl) | (rw [hst1,List.length_append]; rfl) | (rw [hst1,List.length_append,List.length_append]; rfl) | (rw [hst1,List.length_append,List.length_append,List.length_append]; rfl)) rfl (.cons (by first | rfl | exact vb_eq hst0.symm) rfl (.cons rfl rfl .nil)))))) (.cons (by first | rfl | (rw [hst1]; rfl) | (rw [hst1,List.length_append]; rfl) | (rw [hst1,List.length_append,List.length_append]; rfl) | (rw [hst1,List.length_append,List.length_append,List.length_append]; rfl)) rfl (rF_low rowI _ _) .nil)),(k2+1),rfl,rfl,?_⟩
      refine ⟨by omega,fun j h=>rfl⟩
     ·skip
      obtain ⟨hst0,hst1⟩:=insB hlt2 hput (of_decide_eq_true hc32) (of_decide_eq_false hc41)
      refine wK (aN (wR ?_))
      refine oL (lM (a:=.sl _ _ _ _) rfl) rfl rfl ?_
      refine oL (lM (a:=.tree _ _) rfl) rfl rfl ?_
      refine oL (lM (a:=.v _) rfl) rfl rfl ?_
      refine oL (lI Tryz.underlying29 sz3 rfl rfl (by first | assumption | omega)) rfl rfl ?_
      refine oL (lE row3 rfl rfl) rfl rfl ?_
      refine oW (LOp.bs Tryz.underlying29 sz3 zr3 rfl rfl rfl rfl) rfl rfl 2 rfl ?_
      refine AOps.gv (LOp.appRow rowI (a:=(sortL (l.take k))[k2]) Tryz.underlying29 sz3 zr3 by3 rfl rfl rfl (Src.slB rfl rfl rfl rfl) rfl (by first | omega | (rw [List.length_append]; simp only [List.length_singleton]; omega)) (by first | omega | (rw [List.length_append]; simp only [List.length_singleton]; omega)) (by unfold TV; omega)) rfl rfl 2 rfl rfl ?_
      refine oL (lA (a:=.sl _ _ _ _) rfl) rfl rfl ?_
      refine oN (bN (aN (wR ?_)))
      refine oL (lM (a:=.v _) rfl) rfl rfl ?_
      refine oL (lJ rfl rfl (by omega) (by omega)) rfl rfl ?_
      refine oL (lA (a:=.v _) rfl) rfl rfl ?_
      refine oN (aN ?_)
      refine ⟨((sortL (l.take k)).length - (k2+1)),⟨fL [(0,isA l),(3,isA (sortL (l.take k))),(4,.v (.int .i64 ((k:Nat):Int))),(5,.sl 0 (insP l[k] (sortL (l.take k)) (k2+1)).2.length 0 (insP l[k] (sortL (l.take k)) (k2+1)).2.length),(6,.v (.bool (insP l[k] (sortL (l.take k)) (k2+1)).1)),(7,.v (.int .i64 (((k2+1):Nat):Int)))],hLz [(0,⟨(insP l[k] (sortL (l.take k)) (k2+1)).2.length,rF iA (insP l[k] (sortL (l.take k)) (k2+1)).2,1,Nat.beq (insP l[k] (sortL (l.take k)) (k2+1)).2.length 0⟩)],1⟩,by omega,(cO (.cons rfl rfl (.cons rfl rfl (.cons rfl rfl (.cons (by first | rfl | (rw [hst1]; rfl) | (rw [hst1,List.length_append]; rfl) | (rw [hst1,List.length_append,List.length_append]; rfl) | (rw [hst1,List.length_append,List.length_append,List.length_append]; rfl)) rfl (.cons (by first | rfl | exact vb_eq hst0.symm) rfl (.cons rfl rfl .nil)))))) (.cons (by first | rfl | (rw [hst1]; rfl) | (rw [hst1,List.length_append]; rfl) | (rw [hst1,List.length_append,List.length_append]; rfl) | (rw [hst1,List.length_append,List.length_append,List.length_append]; rfl)) rfl (rF_low rowI _ _) .nil)),(k2+1),rfl,rfl,?_⟩
      refine ⟨by omega,fun j h=>rfl⟩
    ·skip
     obtain ⟨hst0,hst1⟩:=insC hlt2 hput (of_decide_eq_false hc32)
     rw [← hput] at hst0
     refine wK (aN (wR ?_))
     refine oL (lM (a:=.sl _ _ _ _) rfl) rfl rfl ?_
     refine oL (lM (a:=.tree _ _) rfl) rfl rfl ?_
     refine oL (lM (a:=.v _) rfl) rfl rfl ?_
     refine oL (lI Tryz.underlying29 sz3 rfl rfl (by first | assumption | omega)) rfl rfl ?_
     refine oL (lE row3 rfl rfl) rfl rfl ?_
     refine oW (LOp.bs Tryz.underlying29 sz3 zr3 rfl rfl rfl rfl) rfl rfl 2 rfl ?_
     refine AOps.gv (LOp.appRow rowI (a:=(sortL (l.take k))[k2]) Tryz.underlying29 sz3 zr3 by3 rfl rfl rfl (Src.slB rfl rfl rfl rfl) rfl (by first | omega | (rw [List.length_append]; simp only [List.length_singleton]; omega)) (by first | omega | (rw [List.length_append]; simp only [List.length_singleton]; omega)) (by unfold TV; omega)) rfl rfl 2 rfl rfl ?_
     refine oL (lA (a:=.sl _ _ _ _) rfl) rfl rfl ?_
     refine oN (bN (aN (wR ?_)))
     refine oL (lM (a:=.v _) rfl) rfl rfl ?_
     refine oL (lJ rfl rfl (by omega) (by omega)) rfl rfl ?_
     refine oL (lA (a:=.v _) rfl) rfl rfl ?_
     refine oN (aN ?_)
     refine ⟨((sortL (l.take k)).length - (k2+1)),⟨fL [(0,isA l),(3,isA (sortL (l.take k))),(4,.v (.int .i64 ((k:Nat):Int))),(5,.sl 0 (insP l[k] (sortL (l.take k)) (k2+1)).2.length 0 (insP l[k] (sortL (l.take k)) (k2+1)).2.length),(6,.v (.bool (insP l[k] (sortL (l.take k)) (k2+1)).1)),(7,.v (.int .i64 (((k2+1):Nat):Int)))],hLz [(0,⟨(insP l[k] (sortL (l.take k)) (k2+1)).2.length,rF iA (insP l[k] (sortL (l.take k)) (k2+1)).2,1,Nat.beq (insP l[k] (sortL (l.take k)) (k2+1)).2.length 0⟩)],1⟩,by omega,(cO (.cons rfl rfl (.cons rfl rfl (.cons rfl rfl (.cons (by first | rfl | (rw [hst1]; rfl) | (rw [hst1,List.length_append]; rfl) | (rw [hst1,List.length_append,List.length_append]; rfl) | (rw [hst1,List.length_append,List.length_append,List.length_append]; rfl)) rfl (.cons (by first | rfl | exact vb_eq hst0.symm) rfl (.cons rfl rfl .nil)))))) (.cons (by first | rfl | (rw [hst1]; rfl) | (rw [hst1,List.length_append]; rfl) | (rw [hst1,List.length_append,List.length_append]; rfl) | (rw [hst1,List.length_append,List.length_append,List.length_append]; rfl)) rfl (rF_low rowI _ _) .nil)),(k2+1),rfl,rfl,?_⟩
     refine ⟨by omega,fun j h=>rfl⟩
   ·skip
    have hput:(insP l[k] (sortL (l.take k)) k2).1=true:=by simpa using hg22
    obtain ⟨hst0,hst1⟩:=insD hlt2 hput
    rw [← hput] at hst0
    refine qS rfl rfl ?_
    refine qS rfl rfl ?_
    refine qS rfl rfl ?_
    refine qS rfl rfl ?_
    refine qS rfl rfl ?_
    refine qS rfl rfl ?_
    refine qS rfl rfl ?_
    refine qS rfl rfl ?_
    refine qS rfl rfl ?_
    refine qL (LOp.pkF (a:=.v _) rfl (by first | rfl | assumption) rfl) rfl rfl ?_
    refine SeqC.nil ⟨by kernel_rfl,?_⟩
    refine aN ?_
    refine AWP.condF rfl ?_
    refine wK (aN (wR ?_))
    refine oL (lM (a:=.sl _ _ _ _) rfl) rfl rfl ?_
    refine oL (lM (a:=.tree _ _) rfl) rfl rfl ?_
    refine oL (lM (a:=.v _) rfl) rfl rfl ?_
    refine oL (lI Tryz.underlying29 sz3 rfl rfl (by first | assumption | omega)) rfl rfl ?_
    refine oL (lE row3 rfl rfl) rfl rfl ?_
    refine oW (LOp.bs Tryz.underlying29 sz3 zr3 rfl rfl rfl rfl) rfl rfl 2 rfl ?_
    refine AOps.gv (LOp.appRow rowI (a:=(sortL (l.take k))[k2]) Tryz.underlying29 sz3 zr3 by3 rfl rfl rfl (Src.slB rfl rfl rfl rfl) rfl (by first | omega | (rw [List.length_append]; simp only [List.length_singleton]; omega)) (by first | omega | (rw [List.length_append]; simp only [List.length_singleton]; omega)) (by unfold TV; omega)) rfl rfl 2 rfl rfl ?_
    refine oL (lA (a:=.sl _ _ _ _) rfl) rfl rfl ?_
    refine oN (bN (aN (wR ?_)))
    refine oL (lM (a:=.v _) rfl) rfl rfl ?_
    refine oL (lJ rfl rfl (by omega) (by omega)) rfl rfl ?_
    refine oL (lA (a:=.v _) rfl) rfl rfl ?_
    refine oN (aN ?_)
    refine ⟨((sortL (l.take k)).length - (k2+1)),⟨fL [(0,isA l),(3,isA (sortL (l.take k))),(4,.v (.int .i64 ((k:Nat):Int))),(5,.sl 0 (insP l[k] (sortL (l.take k)) (k2+1)).2.length 0 (insP l[k] (sortL (l.take k)) (k2+1)).2.length),(6,.v (.bool (insP l[k] (sortL (l.take k)) (k2+1)).1)),(7,.v (.int .i64 (((k2+1):Nat):Int)))],hLz [(0,⟨(insP l[k] (sortL (l.take k)) (k2+1)).2.length,rF iA (insP l[k] (sortL (l.take k)) (k2+1)).2,1,Nat.beq (insP l[k] (sortL (l.take k)) (k2+1)).2.length 0⟩)],1⟩,by omega,(cO (.cons rfl rfl (.cons rfl rfl (.cons rfl rfl (.cons (by first | rfl | (rw [hst1]; rfl) | (rw [hst1,List.length_append]; rfl) | (rw [hst1,List.length_append,List.length_append]; rfl) | (rw [hst1,List.length_append,List.length_append,List.length_append]; rfl)) rfl (.cons (by first | rfl | exact vb_eq hst0.symm) rfl (.cons rfl rfl .nil)))))) (.cons (by first | rfl | (rw [hst1]; rfl) | (rw [hst1,List.length_append]; rfl) | (rw [hst1,List.length_append,List.length_append]; rfl) | (rw [hst1,List.length_append,List.length_append,List.length_append]; rfl)) rfl (rF_low rowI _ _) .nil)),(k2+1),rfl,rfl,?_⟩
    refine ⟨by omega,fun j h=>rfl⟩
  ·skip
   have hge2:¬ k2 < (sortL (l.take k)).length:=fun h=>of_decide_eq_false hc17 (Int.ofNat_lt.2 h)
   have hkl:k2=(sortL (l.take k)).length:=by omega
   subst hkl
   clear hj2 hk2 hge2
   refine AWP.exit (aE (aE (bE ?_)))
   refine aN (wS (wS (wR ?_)))
   refine oL (lM (a:=.v _) rfl) rfl rfl ?_
   refine oL (lP rfl (fun _ _=>nofun) (fun _=>rfl)) rfl rfl ?_
   refine oN (aN ?_)
   refine wC rfl (fun hc57=>?_) (fun hc57=>?_)
   ·skip
    have hst:sortL (l.take (k+1))=(insP l[k] (sortL (l.take k)) (sortL (l.take k)).length).2++[l[k]]:=by rw [sortL_next hlt,insL,if_pos (by simpa using hc57)]
    refine wR ?_
    refine oL (lM (a:=.sl _ _ _ _) rfl) rfl rfl ?_
    refine oL (lM (a:=.tree _ _) rfl) rfl rfl ?_
    refine oL (lM (a:=.v _) rfl) rfl rfl ?_
    refine oL (lI Tryz.underlying29 sz3 rfl rfl (by first | assumption | omega)) rfl rfl ?_
    refine oL (lE row3 rfl rfl) rfl rfl ?_
    refine oW (LOp.bs Tryz.underlying29 sz3 zr3 rfl rfl rfl rfl) rfl rfl 2 rfl ?_
    refine AOps.gv (LOp.appRow rowI (a:=l[k]) Tryz.underlying29 sz3 zr3 by3 rfl rfl rfl (Src.slB rfl rfl rfl rfl) rfl (by first | omega | (rw [List.length_append]; simp only [List.length_singleton]; omega)) (by first | omega | (rw [List.length_append]; simp only [List.length_singleton]; omega)) (by unfold TV; omega)) rfl rfl 2 rfl rfl ?_
    refine oL (lA (a:=.sl _ _ _ _) rfl) rfl rfl ?_
    refine oN (aN (wR ?_))
    refine oL (lM (a:=.sl _ _ _ _) rfl) rfl rfl ?_
    refine oL (lA (a:=.sl _ _ _ _) rfl) rfl rfl ?_
    refine oN (bN (aN ?_))
    refine AWP.freeze [0] 3 (isA (sortL (l.take (k+1)))) (by rw [hst]; exact FzP.rows rowI (List.mem_singleton.2 rfl) rfl) rfl ?_
    refine wR ?_
    refine oL (lM (a:=.v _) rfl) rfl rfl ?_
    refine oL (lJ rfl rfl (by omega) (by omega)) rfl rfl ?_
    refine oL (lA (a:=.v _) rfl) rfl rfl ?_
    refine oN (aN ?_)
    refine ⟨(l.length - (k+1)),⟨fL [(0,isA l),(3,isA (sortL (l.take (k+1)))),(4,.v (.int .i64 (((k+1):Nat):Int)))],hLz [],0⟩,by omega,(cO (.cons rfl rfl (.cons rfl rfl (.cons rfl rfl .nil))) .nil),(k+1),rfl,rfl,?_⟩
    refine ⟨by omega,fun j h=>?_⟩
    rcases Nat.lt_succ_iff_lt_or_eq.1 h with h | rfl
    ·exact hj j h
    ·rfl
   ·skip
    have hst:sortL (l.take (k+1))=(insP l[k] (sortL (l.take k)) (sortL (l.take k)).length).2:=by rw [sortL_next hlt,insL,if_neg (by simpa using hc57)]
    refine wK (aN (wR ?_))
    refine oL (lM (a:=.sl _ _ _ _) rfl) rfl rfl ?_
    refine oL (lA (a:=.sl _ _ _ _) rfl) rfl rfl ?_
    refine oN (bN (aN ?_))
    refine AWP.freeze [0] 3 (isA (sortL (l.take (k+1)))) (by rw [hst]; exact FzP.rows rowI (List.mem_singleton.2 rfl) rfl) rfl ?_
    refine wR ?_
    refine oL (lM (a:=.v _) rfl) rfl rfl ?_
    refine oL (lJ rfl rfl (by omega) (by omega)) rfl rfl ?_
    refine oL (lA (a:=.v _) rfl) rfl rfl ?_
    refine oN (aN ?_)
    refine ⟨(l.length - (k+1)),⟨fL [(0,isA l),(3,isA (sortL (l.take (k+1)))),(4,.v (.int .i64 (((k+1):Nat):Int)))],hLz [],0⟩,by omega,(cO (.cons rfl rfl (.cons rfl rfl (.cons rfl rfl .nil))) .nil),(k+1),rfl,rfl,?_⟩
    refine ⟨by omega,fun j h=>?_⟩
    rcases Nat.lt_succ_iff_lt_or_eq.1 h with h | rfl
    ·exact hj j h
    ·rfl
 ·skip
  have hge:¬ k < l.length:=fun h=>of_decide_eq_false hc11 (Int.ofNat_lt.2 h)
  refine AWP.exit (aE (aE (bE ?_)))
  refine aN (wS (wR ?_))
  refine oL (lM (a:=.tree _ _) rfl) rfl rfl ?_
  refine oL (lA (a:=.tree _ _) rfl) rfl rfl ?_
  refine oN (aN ?_)
  refine wT (?_)
  refine ⟨.inr rfl,Outs.tmp Tryz.results59 ?_⟩
  rw [List.take_of_length_le (by omega)]
  exact ⟨[],FzP.pure rfl⟩
end Go.Proofs.YtgknefkobpnjaaaGreatDoor
namespace Go.Proofs.YtgknefkobpnjaaaGreatDoor
set_option linter.unusedVariables false
set_option linter.unusedSimpArgs false
open Go.RowKit
/-- How many are done in the inner loop. -/
def rr (a b:Nat):Nat:=bif Nat.ble b a then a else a+1
theorem rr_le {a b:Nat} (h:b≤a):rr a b=a:=by unfold rr; rw [Nat.ble_eq_true_of_le h]; rfl
theorem rr_gt {a b:Nat} (h:a < b):rr a b=a+1:=by
 unfold rr
 have:Nat.ble b a=false:=by
  cases e:Nat.ble b a with
  | false=>rfl
  | true=>have:=Nat.le_of_ble_eq_true e; omega
 rw [this]; rfl
theorem rr_same {a b:Nat} (h:¬ b=a):rr a (b+1)=rr a b:=by
 by_cases h1:b < a
 ·rw [rr_le (by omega),rr_le (by omega)]
 ·rw [rr_gt (by omega),rr_gt (by omega)]
theorem rr_next {a b:Nat} (h:b=a):rr a (b+1)=rr a b+1:=by rw [rr_gt (by omega),rr_le (by omega)]
theorem rr_bd {a b:Nat}:rr a b≤a+1:=by unfold rr; cases Nat.ble b a <;> simp
/-- Putting a greater element in appends it. -/
theorem insP_low {x:Int} {out:List Int} (h:∀ o∈out,o < x):∀ {k:Nat},k≤out.length→insP x out k=(false,out.take k)
 | 0,_=>rfl
 | k+1,hk=>by
  have:=h _ (List.getElem_mem (show k < out.length by omega))
  rw [insP_next (by omega),insP_low h (by omega),stepI,if_neg (fun e=>by have:=e.2; omega),List.take_succ_eq_append_getElem (by omega)]
theorem insL_low {x:Int} {out:List Int} (h:∀ o∈out,o < x):insL out x=out++[x]:=by
 unfold insL
 rw [insP_low h (Nat.le_refl _),if_pos rfl,List.take_length]
theorem sortL_asc_k {l:List Int} (h:l.Pairwise (· < ·)):∀ {k:Nat},k≤l.length→sortL (l.take k)=l.take k
 | 0,_=>by simp [sortL]
 | k+1,hk=>by
  rw [sortL_next (by omega),sortL_asc_k h (by omega),insL_low,List.take_succ_eq_append_getElem (by omega)]
  intro o ho
  obtain ⟨i,hi,rfl⟩:=List.getElem_of_mem ho
  rw [List.length_take] at hi
  rw [List.getElem_take]
  exact List.pairwise_iff_getElem.1 h i k (by omega) (by omega) (by omega)
theorem sortL_asc {l:List Int} (h:l.Pairwise (· < ·)):sortL l=l:=by
 have:=sortL_asc_k h (Nat.le_refl l.length)
 rwa [List.take_length] at this
/-- The names of the variables of a form. -/
def vsN (σ:Int→Int) (f:PLin):List Int:=f.cs.map fun a=>σ a.v
theorem vsN_len {σ:Int→Int} {f:PLin}:(vsN σ f).length=f.cs.length:=by unfold vsN; rw [List.length_map]
theorem vsN_asc {σ:Int→Int} {N:Int} {f:PLin} (hf:f.Asc N) (hm:MonoN σ N):(vsN σ f).Pairwise (· < ·):=by
 unfold vsN
 rw [List.pairwise_map]
 exact hf.asc.imp_of_mem fun {a b} ha hb h=>hm _ _ (hf.rng a ha).1 h (hf.rng b hb).2
theorem vsN_inj {σ:Int→Int} {N:Int} {f:PLin} (hf:f.Asc N) (hm:MonoN σ N) {i j:Nat} (hi:i < (vsN σ f).length) (hj:j < (vsN σ f).length) (h:(vsN σ f)[i]=(vsN σ f)[j]):i=j:=by
 have:=List.pairwise_iff_getElem.1 (vsN_asc hf hm)
 rcases Nat.lt_trichotomy i j with e | e | e
 ·have:=this i j hi hj e; omega
 ·exact e
 ·have:=this j i hj hi e; omega
theorem liN_next {σ:Int→Int} {f:PLin} {i:Nat} (hi:i < f.cs.length) (hi':i < (vsN σ f).length):(liN σ f).cs.take (i+1)=(liN σ f).cs.take i++[⟨(vsN σ f)[i],f.cs[i].n⟩]:=by
 have h:i < (liN σ f).cs.length:=by unfold liN; simpa using hi
 rw [List.take_succ_eq_append_getElem h]
 congr 2
 simp only [liN,vsN,List.getElem_map]
theorem liN_len {σ:Int→Int} {f:PLin}:(liN σ f).cs.length=f.cs.length:=by unfold liN; exact List.length_map _
theorem fz_li {fp:List Nat} {η:Heap} {id v:Nat} {k:Int} {cs:List PCoef} (hid:id∈fp) (hb:η id=some ⟨v,rF cfA cs,2,Nat.beq cs.length 0⟩):FzP fp η (.agg [.v (.int .i64 k),.sl id v 0 cs.length]) (.agg (liA ⟨k,cs⟩)):=.aggL (.cons (FzP.pure rfl) (.cons (FzP.rows rowCf hid hb) .nil))
theorem bod59:bodied Tryz.prog 59=true:=by kernel_rfl
theorem bod61:bodied Tryz.prog 61=true:=by kernel_rfl
theorem sz77:sizeInfo Tryz.prog 77=some 1:=by kernel_rfl
set_option maxRecDepth 100000 in
set_option maxHeartbeats 4000000 in
theorem moved_p (to:List Int) (w N:Int) (ht:to.length≤1000) (hn0:0≤w) (hn:w≤1000000) (hN:N≤1000000) (hm:MonoN (renS to w) N) (f:PLin) (hf:f.Asc N):PCall Tryz.prog 62 [.agg (liA f),isA to,.v (.int .i64 w)] (.agg (liA (liN (renS to w) f))):=by
 have hfl:=hf.len
 have hvl2:(vsN (renS to w) f).length=f.cs.length:=vsN_len
 have hso:=sortR_p (vsN (renS to w) f) (by omega)
 rw [sortL_asc (vsN_asc hf hm)] at hso
 refine pB Tryz.func62 rfl Tryz.ntmps62 (Nat.le_of_ble_eq_true rfl) ?_
 refine wS (wR ?_)
 refine oW (LOp.bx rfl) rfl rfl 1 rfl ?_
 refine oW (LOp.al zr79 rfl) rfl rfl 2 rfl ?_
 refine oN (aN (wS (wR ?_)))
 refine oL (lF fi79_0 rfl rfl rfl rfl rfl) rfl rfl ?_
 refine oL (lD row2 rfl rfl rfl rfl rfl) rfl rfl ?_
 refine oL (LOp.bd zr79 pl79 rfl rfl) rfl rfl ?_
 refine oW (LOp.al zr79 rfl) rfl rfl 3 rfl ?_
 refine AOps.wr (LOp.st sz79 rfl rfl rfl rfl rfl rfl rfl rfl) rfl rfl rfl ?_
 refine oN (aN (wS (wR ?_)))
 refine oL (lA (a:=.v _) rfl) rfl rfl ?_
 refine oN (aN (wS (wS (wR ?_))))
 refine oL (lA (a:=.v _) rfl) rfl rfl ?_
 refine oN (aN (wB ?_))
 refine AWP.lazyT 8 1 rfl 4 rfl ?_
 refine wL (fun n s=>∃ k:Nat,n=(f.cs.length - k)∧s=⟨fL [(1,isA to),(2,.v (.int .i64 w)),(3,.ptr 0 0 0),(6,.ptr 1 0 0),(7,.ptr 2 0 0),(8,.sl 3 k 0 ((f.cs.take k).map fun a=>(renS to w) a.v).length),(9,.v (.int .i64 ((k:Nat):Int)))],hLz [(0,⟨0,liA f,0,false⟩),(1,⟨0,[.v (.int .i64 0),.v (.slice none 0 0)],0,false⟩),(2,⟨0,[.v (.int .i64 f.k),.v (.slice none 0 0)],0,false⟩),(3,⟨k,rF iA ((f.cs.take k).map fun a=>(renS to w) a.v),1,Nat.beq ((f.cs.take k).map fun a=>(renS to w) a.v).length 0⟩)],4⟩∧(k≤f.cs.length∧∀ j,j < k→(fun _=>true) j=true)) (n:=(f.cs.length - 0)) (s1:=⟨fL [(1,isA to),(2,.v (.int .i64 w)),(3,.ptr 0 0 0),(6,.ptr 1 0 0),(7,.ptr 2 0 0),(8,.sl 3 0 0 ((f.cs.take 0).map fun a=>(renS to w) a.v).length),(9,.v (.int .i64 ((0:Nat):Int)))],hLz [(0,⟨0,liA f,0,false⟩),(1,⟨0,[.v (.int .i64 0),.v (.slice none 0 0)],0,false⟩),(2,⟨0,[.v (.int .i64 f.k),.v (.slice none 0 0)],0,false⟩),(3,⟨0,rF iA ((f.cs.take 0).map fun a=>(renS to w) a.v),1,Nat.beq ((f.cs.take 0).map fun a=>(renS to w) a.v).length 0⟩)],4⟩) (cO (.cons rfl rfl (.cons rfl rfl (.cons rfl rfl (.cons rfl rfl (.cons rfl rfl (.cons (by first | rfl | (rw [hstep]; rfl) | (rw [hstep,List.length_append]; rfl)) rfl (.cons rfl rfl .nil))))))) (.cons rfl rfl rfl (.cons rfl rfl rfl (.cons rfl rfl rfl (.cons (by first | rfl | (rw [hstep]; rfl) | (rw [hstep,List.length_append]; rfl)) rfl (rF_low rowI _ _) .nil))))) ⟨0,rfl,rfl,⟨Nat.zero_le _,fun j h=>absurd h (Nat.not_lt_zero j)⟩⟩ ?_
 rintro n s ⟨k,rfl,rfl,hinv⟩
 obtain ⟨hk,hj⟩:=hinv
 have hvl:((f.cs.take k).map fun a=>(renS to w) a.v).length≤1000:=by rw [List.length_map,List.length_take]; omega
 refine wS (wS (wR ?_))
 refine oL (lM (a:=.v _) rfl) rfl rfl ?_
 refine oL (lF fi79_1 rfl rfl rfl rfl rfl) rfl rfl ?_
 refine oL (lD row77 rfl rfl rfl rfl rfl) rfl rfl ?_
 refine oL (lT rfl Tryz.underlying77 rfl) rfl rfl ?_
 refine oL (lP rfl (fun _ _=>nofun) (fun _=>rfl)) rfl rfl ?_
 refine oN (aN ?_)
 refine wC rfl (fun hc20=>?_) (fun hc20=>?_)
 ·skip
  have hlt:k < f.cs.length:=Int.ofNat_lt.1 (of_decide_eq_true hc20)
  have hstep:((f.cs.take (k+1)).map (fun a=>(renS to w) a.v))=((f.cs.take k).map (fun a=>(renS to w) a.v))++[(renS to w) f.cs[k].v]:=by rw [List.take_succ_eq_append_getElem hlt,List.map_append]; rfl
  refine wK (aN (wS (wB (wR ?_))))
  refine oL (lM (a:=.sl _ _ _ _) rfl) rfl rfl ?_
  refine oL (lF fi79_1 rfl rfl rfl rfl rfl) rfl rfl ?_
  refine oL (lD row77 rfl rfl rfl rfl rfl) rfl rfl ?_
  refine oL (lM (a:=.v _) rfl) rfl rfl ?_
  refine oL (lI Tryz.underlying77 sz111 rfl rfl (by first | assumption | omega)) rfl rfl ?_
  refine oL (LOp.fieldAddrT fi111_0 rfl rfl) rfl rfl ?_
  refine oL (lE row3 rfl rfl) rfl rfl ?_
  refine oL (lM (a:=.tree _ _) rfl) rfl rfl ?_
  refine oL (lM (a:=.v _) rfl) rfl rfl ?_
  refine oL (LOp.call bod61 rfl (move_p to w f.cs[k].v ht hn0 hn (hf.rng _ (List.getElem_mem _)).1 (by have:=(hf.rng f.cs[k] (List.getElem_mem _)).2; omega))) rfl rfl ?_
  refine oW (LOp.bs Tryz.underlying29 sz3 zr3 rfl rfl rfl rfl) rfl rfl 5 rfl ?_
  refine AOps.gv (LOp.appRow rowI (a:=(renS to w) f.cs[k].v) Tryz.underlying29 sz3 zr3 by3 rfl rfl rfl (Src.slB rfl rfl rfl rfl) rfl (by omega) (by omega) (by unfold TV; omega)) rfl rfl 5 rfl rfl ?_
  refine oL (lA (a:=.sl _ _ _ _) rfl) rfl rfl ?_
  refine oN (bN (aN (wR ?_)))
  refine oL (lM (a:=.v _) rfl) rfl rfl ?_
  refine oL (lJ rfl rfl (by omega) (by omega)) rfl rfl ?_
  refine oL (lA (a:=.v _) rfl) rfl rfl ?_
  refine oN (aN ?_)
  refine ⟨(f.cs.length - (k+1)),⟨fL [(1,isA to),(2,.v (.int .i64 w)),(3,.ptr 0 0 0),(6,.ptr 1 0 0),(7,.ptr 2 0 0),(8,.sl 3 (k+1) 0 ((f.cs.take (k+1)).map fun a=>(renS to w) a.v).length),(9,.v (.int .i64 (((k+1):Nat):Int)))],hLz [(0,⟨0,liA f,0,false⟩),(1,⟨0,[.v (.int .i64 0),.v (.slice none 0 0)],0,false⟩),(2,⟨0,[.v (.int .i64 f.k),.v (.slice none 0 0)],0,false⟩),(3,⟨(k+1),rF iA ((f.cs.take (k+1)).map fun a=>(renS to w) a.v),1,Nat.beq ((f.cs.take (k+1)).map fun a=>(renS to w) a.v).length 0⟩)],4⟩,by omega,(cO (.cons rfl rfl (.cons rfl rfl (.cons rfl rfl (.cons rfl rfl (.cons rfl rfl (.cons (by first | rfl | (rw [hstep]; rfl) | (rw [hstep,List.length_append]; rfl)) rfl (.cons rfl rfl .nil))))))) (.cons rfl rfl rfl (.cons rfl rfl rfl (.cons rfl rfl rfl (.cons (by first | rfl | (rw [hstep]; rfl) | (rw [hstep,List.length_append]; rfl)) rfl (rF_low rowI _ _) .nil))))),(k+1),rfl,rfl,?_⟩
  refine ⟨by omega,fun j h=>?_⟩
  rcases Nat.lt_succ_iff_lt_or_eq.1 h with h | rfl
  ·exact hj j h
  ·rfl
 ·skip
  have hge:¬ k < f.cs.length:=fun h=>of_decide_eq_false hc20 (Int.ofNat_lt.2 h)
  have hkl:k=f.cs.length:=by omega
  subst hkl
  rw [List.take_length]
  clear hj hk hge
  refine AWP.exit (aE (aE (bE ?_)))
  refine aN (wS ?_)
  refine AWP.freeze [3] 8 (isA (vsN (renS to w) f)) (FzP.rows rowI (List.mem_singleton.2 rfl) rfl) rfl ?_
  refine wR ?_
  refine oL (lM (a:=.tree _ _) rfl) rfl rfl ?_
  refine oL (LOp.call bod59 rfl hso) rfl rfl ?_
  refine oL (lA (a:=.tree _ _) rfl) rfl rfl ?_
  refine oN (aN (wS (wS (wR ?_))))
  refine oL (lA (a:=.v _) rfl) rfl rfl ?_
  refine oN (aN (wB ?_))
  refine AWP.lazyC 2 1 2 rfl rfl rfl rfl rfl 5 rfl ?_
  refine wL (fun n s=>∃ k2:Nat,n=((vsN (renS to w) f).length - k2)∧s=⟨fL [(3,.ptr 0 0 0),(6,.ptr 1 0 0),(7,.ptr 2 0 0),(8,isA (vsN (renS to w) f)),(10,isA (vsN (renS to w) f)),(11,.v (.int .i64 ((k2:Nat):Int)))],hLz [(0,⟨0,liA f,0,false⟩),(1,⟨0,[.v (.int .i64 0),.v (.slice none 0 0)],0,false⟩),(2,⟨0,[.v (.int .i64 f.k),.sl 4 k2 0 ((liN (renS to w) f).cs.take k2).length],0,false⟩),(4,⟨k2,rF cfA ((liN (renS to w) f).cs.take k2),2,Nat.beq ((liN (renS to w) f).cs.take k2).length 0⟩)],5⟩∧(k2≤(vsN (renS to w) f).length∧∀ j,j < k2→(fun _=>true) j=true)) (n:=((vsN (renS to w) f).length - 0)) (s1:=⟨fL [(3,.ptr 0 0 0),(6,.ptr 1 0 0),(7,.ptr 2 0 0),(8,isA (vsN (renS to w) f)),(10,isA (vsN (renS to w) f)),(11,.v (.int .i64 ((0:Nat):Int)))],hLz [(0,⟨0,liA f,0,false⟩),(1,⟨0,[.v (.int .i64 0),.v (.slice none 0 0)],0,false⟩),(2,⟨0,[.v (.int .i64 f.k),.sl 4 0 0 ((liN (renS to w) f).cs.take 0).length],0,false⟩),(4,⟨0,rF cfA ((liN (renS to w) f).cs.take 0),2,Nat.beq ((liN (renS to w) f).cs.take 0).length 0⟩)],5⟩) (cO (.cons rfl rfl (.cons rfl rfl (.cons rfl rfl (.cons rfl rfl (.cons rfl rfl (.cons rfl rfl .nil)))))) (.cons rfl rfl rfl (.cons rfl rfl rfl (.cons (by first | rfl | (rw [hlast]; rfl)) rfl rfl (.cons (by first | rfl | (rw [hlast]; rfl)) rfl (rF_low rowCf _ _) .nil))))) ⟨0,rfl,rfl,⟨Nat.zero_le _,fun j h=>absurd h (Nat.not_lt_zero j)⟩⟩ ?_
  rintro n s ⟨k2,rfl,rfl,hinv⟩
  obtain ⟨hk2,hj2⟩:=hinv
  refine wS (wS (wR ?_))
  refine oL (lM (a:=.v _) rfl) rfl rfl ?_
  refine oL (lM (a:=.tree _ _) rfl) rfl rfl ?_
  refine oL (lT rfl Tryz.underlying29 rfl) rfl rfl ?_
  refine oL (lP rfl (fun _ _=>nofun) (fun _=>rfl)) rfl rfl ?_
  refine oN (aN ?_)
  refine wC rfl (fun hc40=>?_) (fun hc40=>?_)
  ·skip
   have hlt2:k2 < (vsN (renS to w) f).length:=Int.ofNat_lt.1 (of_decide_eq_true hc40)
   refine wK (aN (wS (wB (wS (wR ?_)))))
   refine oL (lA (a:=.v _) rfl) rfl rfl ?_
   refine oN (aN (wB ?_))
   refine wL (fun n s=>∃ k3:Nat,n=((vsN (renS to w) f).length - k3)∧s=⟨fL [(3,.ptr 0 0 0),(6,.ptr 1 0 0),(7,.ptr 2 0 0),(8,isA (vsN (renS to w) f)),(10,isA (vsN (renS to w) f)),(11,.v (.int .i64 ((k2:Nat):Int))),(12,.v (.int .i64 ((k3:Nat):Int)))],hLz [(0,⟨0,liA f,0,false⟩),(1,⟨0,[.v (.int .i64 0),.v (.slice none 0 0)],0,false⟩),(2,⟨0,[.v (.int .i64 f.k),.sl 4 (rr k2 k3) 0 ((liN (renS to w) f).cs.take (rr k2 k3)).length],0,false⟩),(4,⟨(rr k2 k3),rF cfA ((liN (renS to w) f).cs.take (rr k2 k3)),2,Nat.beq ((liN (renS to w) f).cs.take (rr k2 k3)).length 0⟩)],5⟩∧(k3≤(vsN (renS to w) f).length∧∀ j,j < k3→(fun _=>true) j=true)) (n:=((vsN (renS to w) f).length - 0)) (s1:=⟨fL [(3,.ptr 0 0 0),(6,.ptr 1 0 0),(7,.ptr 2 0 0),(8,isA (vsN (renS to w) f)),(10,isA (vsN (renS to w) f)),(11,.v (.int .i64 ((k2:Nat):Int))),(12,.v (.int .i64 ((0:Nat):Int)))],hLz [(0,⟨0,liA f,0,false⟩),(1,⟨0,[.v (.int .i64 0),.v (.slice none 0 0)],0,false⟩),(2,⟨0,[.v (.int .i64 f.k),.sl 4 (rr k2 0) 0 ((liN (renS to w) f).cs.take (rr k2 0)).length],0,false⟩),(4,⟨(rr k2 0),rF cfA ((liN (renS to w) f).cs.take (rr k2 0)),2,Nat.beq ((liN (renS to w) f).cs.take (rr k2 0)).length 0⟩)],5⟩) (cO (.cons rfl rfl (.cons rfl rfl (.cons rfl rfl (.cons rfl rfl (.cons rfl rfl (.cons rfl rfl (.cons rfl rfl .nil))))))) (.cons rfl rfl rfl (.cons rfl rfl rfl (.cons (by first | rfl | (rw [hr1]; rfl) | (rw [hr1,hstep]; rfl)) rfl rfl (.cons (by first | rfl | (rw [hr1]; rfl) | (rw [hr1,hstep]; rfl)) rfl (rF_low rowCf _ _) .nil))))) ⟨0,rfl,rfl,⟨Nat.zero_le _,fun j h=>absurd h (Nat.not_lt_zero j)⟩⟩ ?_
   rintro n s ⟨k3,rfl,rfl,hinv⟩
   obtain ⟨hk3,hj3⟩:=hinv
   have hrb:=rr_bd (a:=k2) (b:=k3)
   have hRl:((liN (renS to w) f).cs.take (rr k2 k3)).length≤1001:=by rw [List.length_take]; omega
   refine wS (wS (wR ?_))
   refine oL (lM (a:=.v _) rfl) rfl rfl ?_
   refine oL (lM (a:=.tree _ _) rfl) rfl rfl ?_
   refine oL (lT rfl Tryz.underlying29 rfl) rfl rfl ?_
   refine oL (lP rfl (fun _ _=>nofun) (fun _=>rfl)) rfl rfl ?_
   refine oN (aN ?_)
   refine wC rfl (fun hc46=>?_) (fun hc46=>?_)
   ·skip
    have hlt3:k3 < (vsN (renS to w) f).length:=Int.ofNat_lt.1 (of_decide_eq_true hc46)
    have hlt3':k3 < f.cs.length:=by omega
    refine wK (aN (wS (wB (wS (AWP.regD mixed ?_)))))
    refine qL (lM (a:=.tree _ _) rfl) rfl rfl ?_
    refine qL (lM (a:=.v _) rfl) rfl rfl ?_
    refine qL (lI Tryz.underlying29 sz3 rfl rfl (by first | assumption | omega)) rfl rfl ?_
    refine qL (lE row3 rfl rfl) rfl rfl ?_
    refine qL (lM (a:=.tree _ _) rfl) rfl rfl ?_
    refine qL (lM (a:=.v _) rfl) rfl rfl ?_
    refine qL (lI Tryz.underlying29 sz3 rfl rfl (by first | assumption | omega)) rfl rfl ?_
    refine qL (lE row3 rfl rfl) rfl rfl ?_
    refine qL (lP rfl (fun _ _=>nofun) (fun _=>rfl)) rfl rfl ?_
    refine SeqC.nil ⟨by kernel_rfl,?_⟩
    refine aN ?_
    refine wC rfl (fun hc57=>?_) (fun hc57=>?_)
    ·skip
     have he:k3=k2:=vsN_inj hf hm hlt3 hlt2 (by simpa using hc57)
     have hr1:=rr_next he
     have hstep:((liN (renS to w) f).cs.take (rr k2 k3+1))=((liN (renS to w) f).cs.take (rr k2 k3))++[⟨(vsN (renS to w) f)[k2],f.cs[k3].n⟩]:=by subst he; rw [rr_le (Nat.le_refl _)]; exact liN_next hlt3' hlt3
     refine AWP.regD mixed ?_
     refine qL (lF fi79_1 rfl rfl rfl rfl rfl) rfl rfl ?_
     refine qL (lD row77 rfl rfl rfl rfl rfl) rfl rfl ?_
     refine qL (lM (a:=.tree _ _) rfl) rfl rfl ?_
     refine qL (lM (a:=.v _) rfl) rfl rfl ?_
     refine qL (lI Tryz.underlying29 sz3 rfl rfl (by first | assumption | omega)) rfl rfl ?_
     refine qL (lE row3 rfl rfl) rfl rfl ?_
     refine qL (lF fi79_1 rfl rfl rfl rfl rfl) rfl rfl ?_
     refine qL (lD row77 rfl rfl rfl rfl rfl) rfl rfl ?_
     refine qL (lM (a:=.v _) rfl) rfl rfl ?_
     refine qL (lI Tryz.underlying77 sz111 rfl rfl (by first | assumption | omega)) rfl rfl ?_
     refine qL (LOp.fieldAddrT fi111_1 rfl rfl) rfl rfl ?_
     refine qL (lE row2 rfl rfl) rfl rfl ?_
     refine qL (LOp.bd zr111 pl111 rfl rfl) rfl rfl ?_
     refine SeqC.nw (LOp.bs Tryz.underlying77 sz111 zr111 rfl rfl rfl rfl) rfl rfl 6 rfl ?_
     refine SeqC.gv (LOp.appRow rowCf (a:=⟨(vsN (renS to w) f)[k2],f.cs[k3].n⟩) Tryz.underlying77 sz111 zr111 by111 rfl rfl rfl (Src.slB rfl rfl rfl rfl) rfl (by omega) (by omega) (by unfold TV; omega)) rfl rfl 6 rfl rfl ?_
     refine qL (lF fi79_1 rfl rfl rfl rfl rfl) rfl rfl ?_
     refine SeqC.wr (LOp.st sz77 rfl rfl rfl rfl rfl rfl rfl rfl) rfl rfl rfl ?_
     refine SeqC.nil ⟨by kernel_rfl,?_⟩
     refine bN (aN (wR ?_))
     refine oL (lM (a:=.v _) rfl) rfl rfl ?_
     refine oL (lJ rfl rfl (by omega) (by omega)) rfl rfl ?_
     refine oL (lA (a:=.v _) rfl) rfl rfl ?_
     refine oN (aN ?_)
     refine ⟨((vsN (renS to w) f).length - (k3+1)),⟨fL [(3,.ptr 0 0 0),(6,.ptr 1 0 0),(7,.ptr 2 0 0),(8,isA (vsN (renS to w) f)),(10,isA (vsN (renS to w) f)),(11,.v (.int .i64 ((k2:Nat):Int))),(12,.v (.int .i64 (((k3+1):Nat):Int)))],hLz [(0,⟨0,liA f,0,false⟩),(1,⟨0,[.v (.int .i64 0),.v (.slice none 0 0)],0,false⟩),(2,⟨0,[.v (.int .i64 f.k),.sl 4 (rr k2 (k3+1)) 0 ((liN (renS to w) f).cs.take (rr k2 (k3+1))).length],0,false⟩),(4,⟨(rr k2 (k3+1)),rF cfA ((liN (renS to w) f).cs.take (rr k2 (k3+1))),2,Nat.beq ((liN (renS to w) f).cs.take (rr k2 (k3+1))).length 0⟩)],5⟩,by omega,(cO (.cons rfl rfl (.cons rfl rfl (.cons rfl rfl (.cons rfl rfl (.cons rfl rfl (.cons rfl rfl (.cons rfl rfl .nil))))))) (.cons rfl rfl rfl (.cons rfl rfl rfl (.cons (by first | rfl | (rw [hr1]; rfl) | (rw [hr1,hstep]; rfl)) rfl rfl (.cons (by first | rfl | (rw [hr1]; rfl) | (rw [hr1,hstep]; rfl)) rfl (rF_low rowCf _ _) .nil))))),(k3+1),rfl,rfl,?_⟩
     refine ⟨by omega,fun j h=>rfl⟩
    ·skip
     have he:¬ k3=k2:=fun e=>by subst e; simp at hc57
     have hr1:=rr_same he
     refine wK (bN (aN (wR ?_)))
     refine oL (lM (a:=.v _) rfl) rfl rfl ?_
     refine oL (lJ rfl rfl (by omega) (by omega)) rfl rfl ?_
     refine oL (lA (a:=.v _) rfl) rfl rfl ?_
     refine oN (aN ?_)
     refine ⟨((vsN (renS to w) f).length - (k3+1)),⟨fL [(3,.ptr 0 0 0),(6,.ptr 1 0 0),(7,.ptr 2 0 0),(8,isA (vsN (renS to w) f)),(10,isA (vsN (renS to w) f)),(11,.v (.int .i64 ((k2:Nat):Int))),(12,.v (.int .i64 (((k3+1):Nat):Int)))],hLz [(0,⟨0,liA f,0,false⟩),(1,⟨0,[.v (.int .i64 0),.v (.slice none 0 0)],0,false⟩),(2,⟨0,[.v (.int .i64 f.k),.sl 4 (rr k2 (k3+1)) 0 ((liN (renS to w) f).cs.take (rr k2 (k3+1))).length],0,false⟩),(4,⟨(rr k2 (k3+1)),rF cfA ((liN (renS to w) f).cs.take (rr k2 (k3+1))),2,Nat.beq ((liN (renS to w) f).cs.take (rr k2 (k3+1))).length 0⟩)],5⟩,by omega,(cO (.cons rfl rfl (.cons rfl rfl (.cons rfl rfl (.cons rfl rfl (.cons rfl rfl (.cons rfl rfl (.cons rfl rfl .nil))))))) (.cons rfl rfl rfl (.cons rfl rfl rfl (.cons (by first | rfl | (rw [hr1]; rfl) | (rw [hr1,hstep]; rfl)) rfl rfl (.cons (by first | rfl | (rw [hr1]; rfl) | (rw [hr1,hstep]; rfl)) rfl (rF_low rowCf _ _) .nil))))),(k3+1),rfl,rfl,?_⟩
     refine ⟨by omega,fun j h=>rfl⟩
   ·skip
    have hge3:¬ k3 < (vsN (renS to w) f).length:=fun h=>of_decide_eq_false hc46 (Int.ofNat_lt.2 h)
    have hlast:rr k2 k3=k2+1:=rr_gt (by omega)
    refine AWP.exit (aE (aE (bE ?_)))
    refine bN (aN (wR ?_))
    refine oL (lM (a:=.v _) rfl) rfl rfl ?_
    refine oL (lJ rfl rfl (by omega) (by omega)) rfl rfl ?_
    refine oL (lA (a:=.v _) rfl) rfl rfl ?_
    refine oN (aN ?_)
    refine ⟨((vsN (renS to w) f).length - (k2+1)),⟨fL [(3,.ptr 0 0 0),(6,.ptr 1 0 0),(7,.ptr 2 0 0),(8,isA (vsN (renS to w) f)),(10,isA (vsN (renS to w) f)),(11,.v (.int .i64 (((k2+1):Nat):Int)))],hLz [(0,⟨0,liA f,0,false⟩),(1,⟨0,[.v (.int .i64 0),.v (.slice none 0 0)],0,false⟩),(2,⟨0,[.v (.int .i64 f.k),.sl 4 (k2+1) 0 ((liN (renS to w) f).cs.take (k2+1)).length],0,false⟩),(4,⟨(k2+1),rF cfA ((liN (renS to w) f).cs.take (k2+1)),2,Nat.beq ((liN (renS to w) f).cs.take (k2+1)).length 0⟩)],5⟩,by omega,(cO (.cons rfl rfl (.cons rfl rfl (.cons rfl rfl (.cons rfl rfl (.cons rfl rfl (.cons rfl rfl .nil)))))) (.cons rfl rfl rfl (.cons rfl rfl rfl (.cons (by first | rfl | (rw [hlast]; rfl)) rfl rfl (.cons (by first | rfl | (rw [hlast]; rfl)) rfl (rF_low rowCf _ _) .nil))))),(k2+1),rfl,rfl,?_⟩
    refine ⟨by omega,fun j h=>rfl⟩
  ·skip
   have hge2:¬ k2 < (vsN (renS to w) f).length:=fun h=>of_decide_eq_false hc40 (Int.ofNat_lt.2 h)
   have hkl:k2=(vsN (renS to w) f).length:=by omega
   have hall:((liN (renS to w) f).cs.take k2)=(liN (renS to w) f).cs:=List.take_of_length_le (by rw [liN_len]; omega)
   refine AWP.exit (aE (aE (bE ?_)))
   refine aN (wS (wR ?_))
   refine oL (LOp.ldN row79 rfl rfl rfl rfl rfl) rfl rfl ?_
   refine AOps.wr (LOp.st sz79 rfl rfl rfl rfl rfl rfl rfl rfl) rfl rfl rfl ?_
   refine oN (aN ?_)
   refine wT (?_)
   refine ⟨.inr rfl,Outs.cell Tryz.results62 row79 rfl rfl rfl rfl rfl ?_⟩
   rw [hall]
   exact ⟨[4],fz_li (List.mem_singleton.2 rfl) (by rw [← hall]; rfl)⟩
end Go.Proofs.YtgknefkobpnjaaaGreatDoor
