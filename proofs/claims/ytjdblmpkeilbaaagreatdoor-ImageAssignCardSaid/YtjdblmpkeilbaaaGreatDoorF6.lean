/- Texts of the claim. -/
import Derived.Deep.Slices
import Derived.Deep.Fields
import Derived.ChangeSame
import Derived.ChangeArms
import Derived.SizedLaws
import Derived.OpenShut
import Derived.Test.YtjdblmpkeilbaaaGreatDoorF5
namespace Go.Proofs.YtjdblmpkeilbaaaGreatDoor
open Go.RowKit Go.ChangeShapes Go.WideShapes Go.Deep
set_option linter.unusedVariables false
set_option linter.unusedSimpArgs false
set_option maxRecDepth 100000
def LtB (n:Nat):Nat→Prop:=fun k=>k < n
/-- Cells read as plain values. -/
def TRL (T:Nat→Prop) (w:World) (xs:List AV) (cs:List Value):Prop:=xs.length=cs.length∧∀ i (h:i < xs.length) (h':i < cs.length),TR T w xs[i] cs[i]
theorem TRL.one {T:Nat→Prop} {w:World} {a:AV} {x:Value} (h:TR T w a x):TRL T w [a] [x]:=⟨rfl,fun i h1 h2=>by
 have:i=0:=by simp at h1; omega
 subst this; exact h⟩
theorem TRL.append {T:Nat→Prop} {w:World} {xs ys:List AV} {cs ds:List Value} (h1:TRL T w xs cs) (h2:TRL T w ys ds):TRL T w (xs++ys) (cs++ds):=by
 refine ⟨by simp [h1.1,h2.1],fun i h h'=>?_⟩
 have e:=h1.1
 by_cases hi:i < xs.length
 ·rw [List.getElem_append_left hi,List.getElem_append_left (by omega)]
  exact h1.2 i hi (by omega)
 ·rw [List.getElem_append_right (by omega),List.getElem_append_right (by omega)]
  simp only [← e]
  exact h2.2 _ _ _
theorem TRL.done {T:Nat→Prop} {w:World} {cs:List Value} {n:Nat} (h:cs.length=n):TRL T w [] (cs.drop n):=by
 rw [← h,List.drop_length]; exact ⟨rfl,fun i h=>absurd h (by simp)⟩
theorem TRL.piece {T:Nat→Prop} {w:World} {xs ys:List AV} {cs:List Value} {o m:Nat} (h1:TRL T w xs ((cs.drop o).take m)) (h2:TRL T w ys (cs.drop (o+m))):TRL T w (xs++ys) (cs.drop o):=by
 have:=h1.append h2
 rwa [← List.drop_drop,List.take_append_drop] at this
theorem TRL.val {T:Nat→Prop} {w:World} {cs:List Value} {x:Value} (h:cs=[x]):TRL T w [.v x] cs:=by rw [h]; exact .one (.v x)
/-- Whatever type t's cells read as, within the reach, they read as some 'a'. -/
def OpenF {α:Type} (P:Program) (R:α→List AV) (Wf:α→Prop) (t:TypeId) (N:Nat):Prop :=
 ∀ {H:Type} (enc:TypeId×Value→H) (W:World) (fuel:Nat) (cs:List Value) (d:DataW H) (ps:List MemPlace),fuel≤N →
  DataW.trod enc P W 0 (fun _=>true) true fuel t cs=some (d,ps)→(∀ m∈d.weights P t,m≤140737488351232)→∃ a,Wf a∧TRL (LtB W.heap.size) W (R a) cs
def OpenR {α:Type} (P:Program) (R:α→List AV) (Wf:α→Prop) (t:TypeId):Prop :=
 ∀ {H:Type} (enc:TypeId×Value→H) (W:World) (fuel:Nat) (cs:List Value) (d:DataW H) (ps:List MemPlace),
  DataW.trod enc P W 0 (fun _=>true) true fuel t cs=some (d,ps)→(∀ m∈d.weights P t,m≤140737488351232)→∃ a,Wf a∧TRL (LtB W.heap.size) W (R a) cs
theorem OpenR.f {α:Type} {P:Program} {R:α→List AV} {Wf:α→Prop} {t:TypeId} (h:OpenR P R Wf t) (N:Nat):OpenF P R Wf t N:=fun enc W fuel cs d ps _ h1 h2=>h enc W fuel cs d ps h1 h2
theorem OpenR.of {α:Type} {P:Program} {R:α→List AV} {Wf:α→Prop} {t:TypeId} (h:∀ N,OpenF P R Wf t N):OpenR P R Wf t:=fun enc W fuel cs d ps h1 h2=>h fuel enc W fuel cs d ps (Nat.le_refl _) h1 h2
theorem weightsAll_mem {H:Type} {P:Program} {e:TypeId}:∀ {ds:List (DataW H)} {d:DataW H},d∈ds→∀ m∈d.weights P e,m∈DataW.weightsAll P e ds
 | x :: r,d,h,m,hm=>by
  simp only [DataW.weightsAll,List.mem_append]
  rcases List.mem_cons.1 h with rfl | h
  ·exact .inl hm
  ·exact .inr (weightsAll_mem h m hm)
theorem choose_lt' {α:Type} [Inhabited α] {m:Nat} {p:Nat→α→Prop} (h:∀ i,i < m→∃ y,p i y):∃ f:Nat→α,∀ i,i < m→p i (f i):=by
 refine ⟨fun i=>if h':i < m then Classical.choose (h i h') else default,fun i hi=>?_⟩
 simp only [hi,dif_pos]
 exact Classical.choose_spec (h i hi)
theorem OpenF.sliceB {α:Type} {P:Program} {R:α→List AV} {Wf:α→Prop} {t e q N:Nat} (hR:OpenF P R Wf e N) (ht:P.underlying t=some (.slice e)) (hn:P.cellsOf e=q) (hq:∀ a,Wf a→(R a).length=q) (hpos:1≤q) (hb:1≤P.bytesOf e) :
  OpenF P (fun l:List α=>[.tree q (l.map R)]) (fun l=>l.length * P.bytesOf e≤140737488355328∧∀ a∈l,Wf a) t (N+1):=by
 intro H enc W fuel cs d ps hN h hw
 rcases DataW.trod_slice ht h with ⟨rfl,_⟩ | ⟨a,len,m,elems,rest,n,hfu,rfl,hx,_,hl,hm,hel,hi,_,_⟩
 ·exact ⟨[],⟨by simp,fun a h=>by cases h⟩,.one (.tree0 (Nat.zero_le _))⟩
 ·simp only [Prod.mk.injEq] at hx
  obtain ⟨rfl,_⟩:=hx
  simp only [DataW.weights,ht,List.length_map,List.mem_cons,List.mem_append] at hw
  have hcap:=hw _ (.inl rfl)
  rw [hel] at hcap
  have hlenB:len * P.bytesOf e≤140737488355328:=by
   have:len * P.bytesOf e≤(len+rest.length) * P.bytesOf e:=Nat.mul_le_mul_right _ (by omega)
   omega
  have hlen:len≤140737488355328:=by
   have:len * 1≤(len+rest.length) * P.bytesOf e:=Nat.mul_le_mul (by omega) hb
   omega
  have hex:∀ i,i < len→∃ (y:α×List Value),(Wf y.1∧TRL (LtB W.heap.size) W (R y.1) y.2)∧W.cells? 0 (a.add (i * P.cellsOf e)) (P.cellsOf e)=some y.2:=by
   intro i hil
   have h1:=hi i hil
   have hil':i < elems.length:=by omega
   rw [List.getElem?_eq_getElem hil'] at h1
   obtain ⟨cs',hc,ht'⟩:=Option.bind_eq_some_iff.1 h1
   obtain ⟨y,hy⟩:=hR enc W n cs' elems[i].1 elems[i].2 (by omega) ht' (fun j hj=>hw j (.inr (.inl (weightsAll_mem (List.mem_map.2 ⟨elems[i],List.getElem_mem _,rfl⟩) j hj))))
   exact ⟨(y,cs'),hy,hc⟩
  by_cases h0:len=0
  ·subst h0
   exact ⟨[],⟨by simp,fun a h=>by cases h⟩,.one (.tree0 hm)⟩
  ·obtain ⟨y0,hy0⟩:=hex 0 (by omega)
   have:Inhabited (α×List Value):=⟨y0⟩
   obtain ⟨f,hf⟩:=choose_lt' hex
   obtain ⟨b,off,spot⟩:=a
   have hc0:=World.cells?_some hy0.2
   have hcell0:=hc0.2.2 0 (by rw [hn]; exact hpos)
   have hsome:∃ v0,W.cell? ((⟨b,off,spot⟩:Addr).add (0 * P.cellsOf e))=some v0:=by
    have hlen0:0 < y0.2.length:=by rw [hc0.2.1,hn]; exact hpos
    refine ⟨y0.2[0],?_⟩
    have:=hcell0
    rw [List.getElem?_eq_getElem hlen0] at this
    simpa [Addr.add] using this
   obtain ⟨v0,hv0⟩:=hsome
   have hspot:spot=none:=by simpa [Addr.add] using World.cell?_spot hv0
   subst hspot
   have hblk:b < W.heap.size:=by
    have:=World.block_lt_of_cell? W _ hv0
    simpa [Addr.add] using this
   refine ⟨(List.range len).map fun i=>(f i).1,⟨by simpa using hlenB,fun a ha=>?_⟩,.one ?_⟩
   ·obtain ⟨i,hi',rfl⟩:=List.mem_map.1 ha
    exact (hf i (by simpa using hi')).1.1
   ·have hlr:(((List.range len).map fun i=>(f i).1).map R).length=len:=by simp
    have hrow:∀ k (h:k < (((List.range len).map fun i=>(f i).1).map R).length),(((List.range len).map fun i=>(f i).1).map R)[k]=R (f k).1:=fun k h=>by simp
    have hT:=TR.tree (T:=LtB W.heap.size) (w:=W) (n:=q) (xs:=((List.range len).map fun i=>(f i).1).map R) (b:=b) (off:=off) (cap:=m) (fun k j=>(f k).2.getD j undef) hblk (by rw [hlr]; exact hl) hm (by rw [hlr]; exact hlen)
     (fun k h=>by rw [hrow k h]; exact hq _ (hf k (by rw [hlr] at h; exact h)).1.1)
     (fun k j hk hj=>by
      rw [hlr] at hk
      have hck:=World.cells?_some (hf k hk).2
      have hjl:j < P.cellsOf e:=by rw [hn]; exact hj
      have hg:=hck.2.2 j hjl
      rw [add_add,hn] at hg
      have hl2:j < (f k).2.length:=by rw [hck.2.1]; exact hjl
      have e1:(⟨b,off,none⟩:Addr).add (k * q+j)=⟨b,off+k * q+j,none⟩:=by
       by_cases hz:k * q+j=0
       ·have h1:k * q=0:=by omega
        have h2:j=0:=by omega
        rw [h1,h2]; simp [Addr.add]
       ·unfold Addr.add
        rw [if_neg hz]
        simp [Nat.add_assoc]
      rw [← e1,hg]
      simp [List.getD,hl2])
     (fun k h j h'=>by
      have hk:k < len:=by rw [hlr] at h; exact h
      have hr:=(hf k hk).1.2
      have hjr:j < (R (f k).1).length:=by rw [hrow k h] at h'; exact h'
      have hl2:j < (f k).2.length:=by rw [← hr.1]; exact hjr
      have:=hr.2 j hjr hl2
      simp only [hrow k h]
      rw [getD_at hl2]
      exact this)
    rw [hlr] at hT
    exact hT
theorem OpenF.slice {α:Type} {P:Program} {R:α→List AV} {Wf:α→Prop} {t e q N:Nat} (hR:OpenF P R Wf e N) (ht:P.underlying t=some (.slice e)) (hn:P.cellsOf e=q) (hq:∀ a,Wf a→(R a).length=q) (hpos:1≤q) (hb:1≤P.bytesOf e) :
  OpenF P (fun l:List α=>[.tree q (l.map R)]) (fun l=>l.length≤140737488355328∧∀ a∈l,Wf a) t (N+1):=fun enc W fuel cs d ps hN h hw=>by
 obtain ⟨l,⟨h1,h2⟩,h3⟩:=OpenF.sliceB hR ht hn hq hpos hb enc W fuel cs d ps hN h hw
 refine ⟨l,⟨?_,h2⟩,h3⟩
 have:l.length * 1≤l.length * P.bytesOf e:=Nat.mul_le_mul_left _ hb
 omega
theorem OpenR.slice {α:Type} {P:Program} {R:α→List AV} {Wf:α→Prop} {t e q:Nat} (hR:OpenR P R Wf e) (ht:P.underlying t=some (.slice e)) (hn:P.cellsOf e=q) (hq:∀ a,(R a).length=q) (hpos:1≤q) (hb:1≤P.bytesOf e) :
  OpenR P (fun l:List α=>[.tree q (l.map R)]) (fun l=>l.length≤140737488355328∧∀ a∈l,Wf a) t:=OpenR.of fun N=>fun enc W fuel cs d ps hN h1 h2=>OpenF.slice (hR.f N) ht hn (fun a _=>hq a) hpos hb enc W fuel cs d ps (by omega) h1 h2
theorem OpenR.sliceB {α:Type} {P:Program} {R:α→List AV} {Wf:α→Prop} {t e q:Nat} (hR:OpenR P R Wf e) (ht:P.underlying t=some (.slice e)) (hn:P.cellsOf e=q) (hq:∀ a,(R a).length=q) (hpos:1≤q) (hb:1≤P.bytesOf e) :
  OpenR P (fun l:List α=>[.tree q (l.map R)]) (fun l=>l.length * P.bytesOf e≤140737488355328∧∀ a∈l,Wf a) t:=OpenR.of fun N=>fun enc W fuel cs d ps hN h1 h2=>OpenF.sliceB (hR.f N) ht hn (fun a _=>hq a) hpos hb enc W fuel cs d ps (by omega) h1 h2
/-- A struct, field by field. -/
theorem open_structF {P:Program} {t:TypeId} {fs:Array Field} (ht:P.underlying t=some (.struct fs)) {H:Type} {enc:TypeId×Value→H} {W:World} {fuel:Nat} {cs:List Value} {d:DataW H} {ps:List MemPlace}
  (h:DataW.trod enc P W 0 (fun _=>true) true fuel t cs=some (d,ps)) (hw:∀ m∈d.weights P t,m≤140737488351232) :
  ∃ n,fuel=n+1∧cs.length=P.cellsOf t∧∀ (i:Nat) (f:Field),fs[i]? = some f →
   ∃ (d':DataW H) (ps':List MemPlace),DataW.trod enc P W 0 (fun _=>true) true n f.type ((cs.drop f.offset).take (P.cellsOf f.type))=some (d',ps')∧∀ q∈d'.weights P f.type,q≤140737488351232:=by
 obtain ⟨xs,n,hfu,hx,hlen,hxl,hf⟩:=DataW.trod_struct ht h
 simp only [Prod.mk.injEq] at hx
 obtain ⟨rfl,_⟩:=hx
 refine ⟨n,hfu,hlen,fun i f hi=>?_⟩
 have hil:i < fs.size:=(Array.getElem?_eq_some_iff.1 hi).1
 have hx':xs[i]? = some (xs[i]'(by omega)):=List.getElem?_eq_getElem (by omega)
 have h1:=hf i f hi
 rw [hx'] at h1
 refine ⟨_,_,h1,fun q hq=>hw q ?_⟩
 simp only [DataW.weights,ht]
 refine DataW.weights_mem_each (j:=i) (t:=f.type) (d:=(xs[i]'(by omega)).1) ?_ ?_ q hq
 ·simp only [List.getElem?_map,Array.getElem?_toList,hi,Option.map_some]
 ·simp only [List.getElem?_map,hx',Option.map_some]
theorem openR_int {P:Program} {t:TypeId} (ht:P.underlying t=some (.int .i64)):OpenR P iA (fun x=>-9223372036854775808≤x∧x≤9223372036854775807) t:=by
 intro H enc W fuel cs d ps h hw
 obtain ⟨x,h1,_,h2⟩:=DataW.trod_int ht h
 exact ⟨x,bounds_i64 h2,.val h1⟩
theorem openR_bool {P:Program} {t:TypeId} (ht:P.underlying t=some .bool):OpenR P (fun b:Bool=>[.v (.bool b)]) (fun _=>True) t:=by
 intro H enc W fuel cs d ps h hw
 obtain ⟨x,h1,_⟩:=DataW.trod_bool ht h
 exact ⟨x,trivial,.val h1⟩
theorem openR_str {P:Program} {t:TypeId} (ht:P.underlying t=some .string):OpenR P (fun s:ByteArray=>[.v (.string s)]) (fun s=>s.size≤140737488351232) t:=by
 intro H enc W fuel cs d ps h hw
 obtain ⟨x,h1,h2,_⟩:=DataW.trod_string ht h
 simp only [Prod.mk.injEq] at h2
 obtain ⟨rfl,_⟩:=h2
 refine ⟨x,?_,.val h1⟩
 have:=hw x.data.toList.length (by simp [DataW.weights])
 have e:x.data.toList.length=x.size:=by simp
 omega
end Go.Proofs.YtjdblmpkeilbaaaGreatDoor
namespace Go.Proofs.YtjdblmpkeilbaaaGreatDoor
open Go.RowKit Go.ChangeShapes Go.WideShapes Go.Deep
set_option linter.unusedVariables false
set_option linter.unusedSimpArgs false
set_option maxRecDepth 100000
theorem oVal:OpenR Tryz.prog gvA FitVal 30:=by
 intro H enc W fuel cs d ps h hw
 obtain ⟨n,hn,hlen,hf⟩:=open_structF Tryz.underlying30 h hw
 rw [show Tryz.prog.cellsOf 30=3 by kernel_rfl] at hlen
 obtain ⟨_,_,h0,w0⟩:=hf 0 _ rfl
 obtain ⟨x0,r0,e0⟩:=(openR_int Tryz.underlying3) enc W _ _ _ _ h0 w0
 change TRL _ _ _ (List.take (Tryz.prog.cellsOf 3) (List.drop 0 cs)) at e0
 rw [show Tryz.prog.cellsOf 3=1 by kernel_rfl] at e0
 obtain ⟨_,_,h1,w1⟩:=hf 1 _ rfl
 obtain ⟨x1,r1,e1⟩:=(openR_int Tryz.underlying2) enc W _ _ _ _ h1 w1
 change TRL _ _ _ (List.take (Tryz.prog.cellsOf 2) (List.drop 1 cs)) at e1
 rw [show Tryz.prog.cellsOf 2=1 by kernel_rfl] at e1
 obtain ⟨_,_,h2,w2⟩:=hf 2 _ rfl
 obtain ⟨x2,r2,e2⟩:=(openR_str Tryz.underlying9) enc W _ _ _ _ h2 w2
 change TRL _ _ _ (List.take (Tryz.prog.cellsOf 9) (List.drop 2 cs)) at e2
 rw [show Tryz.prog.cellsOf 9=1 by kernel_rfl] at e2
 have hh:=(TRL.piece (o:=0) (m:=1) e0 (TRL.piece (o:=1) (m:=1) e1 (TRL.piece (o:=2) (m:=1) e2 (TRL.done hlen))))
 exact ⟨⟨x0,x1,x2⟩,⟨r2⟩,hh⟩
theorem oExF:∀ N,OpenF Tryz.prog rwA IsEx 32 N:=by
 intro N
 induction N with
 | zero=>
  intro H enc W fuel cs d ps hN h hw
  obtain ⟨n,e,_⟩:=open_structF Tryz.underlying32 h hw
  omega
 | succ N ih=>
 intro H enc W fuel cs d ps hN h hw
 obtain ⟨n,hn,hlen,hf⟩:=open_structF Tryz.underlying32 h hw
 rw [show Tryz.prog.cellsOf 32=8 by kernel_rfl] at hlen
 obtain ⟨_,_,h0,w0⟩:=hf 0 _ rfl
 obtain ⟨x0,r0,e0⟩:=(openR_int Tryz.underlying3) enc W _ _ _ _ h0 w0
 change TRL _ _ _ (List.take (Tryz.prog.cellsOf 3) (List.drop 0 cs)) at e0
 rw [show Tryz.prog.cellsOf 3=1 by kernel_rfl] at e0
 obtain ⟨_,_,h1,w1⟩:=hf 1 _ rfl
 obtain ⟨x1,r1,e1⟩:=(openR_str Tryz.underlying9) enc W _ _ _ _ h1 w1
 change TRL _ _ _ (List.take (Tryz.prog.cellsOf 9) (List.drop 1 cs)) at e1
 rw [show Tryz.prog.cellsOf 9=1 by kernel_rfl] at e1
 obtain ⟨_,_,h2,w2⟩:=hf 2 _ rfl
 obtain ⟨x2,r2,e2⟩:=(openR_str Tryz.underlying9) enc W _ _ _ _ h2 w2
 change TRL _ _ _ (List.take (Tryz.prog.cellsOf 9) (List.drop 2 cs)) at e2
 rw [show Tryz.prog.cellsOf 9=1 by kernel_rfl] at e2
 obtain ⟨_,_,h3,w3⟩:=hf 3 _ rfl
 obtain ⟨x3,r3,e3⟩:=(openR_int Tryz.underlying3) enc W _ _ _ _ h3 w3
 change TRL _ _ _ (List.take (Tryz.prog.cellsOf 3) (List.drop 3 cs)) at e3
 rw [show Tryz.prog.cellsOf 3=1 by kernel_rfl] at e3
 obtain ⟨_,_,h4,w4⟩:=hf 4 _ rfl
 obtain ⟨x4,r4,e4⟩:=(oVal) enc W _ _ _ _ h4 w4
 change TRL _ _ _ (List.take (Tryz.prog.cellsOf 30) (List.drop 4 cs)) at e4
 rw [show Tryz.prog.cellsOf 30=3 by kernel_rfl] at e4
 obtain ⟨_,_,h5,w5⟩:=hf 5 _ rfl
 obtain ⟨x5,r5,e5⟩:=(OpenF.slice ih Tryz.underlying25 (show Tryz.prog.cellsOf 32=8 by kernel_rfl) (fun a h=>by cases h; rfl) (by decide) (Nat.le_of_ble_eq_true (by kernel_rfl))) enc W _ _ _ _ (by omega) h5 w5
 change TRL _ _ _ (List.take (Tryz.prog.cellsOf 25) (List.drop 7 cs)) at e5
 rw [show Tryz.prog.cellsOf 25=1 by kernel_rfl] at e5
 have hh:=(TRL.piece (o:=0) (m:=1) e0 (TRL.piece (o:=1) (m:=1) e1 (TRL.piece (o:=2) (m:=1) e2 (TRL.piece (o:=3) (m:=1) e3 (TRL.piece (o:=4) (m:=3) e4 (TRL.piece (o:=7) (m:=1) e5 (TRL.done hlen)))))))
 exact ⟨exA ⟨x0,x1,x2,x3,x4,x5⟩,isEx ⟨r5,r1,r2,r4⟩,hh⟩
theorem oEx:OpenR Tryz.prog rwA IsEx 32:=OpenR.of oExF
theorem oExs:OpenR Tryz.prog (fun l:List (List AV)=>[.tree 8 (l.map rwA)]) (fun l=>l.length≤140737488355328∧∀ a∈l,IsEx a) 25:=OpenR.of fun N=>fun enc W fuel cs d ps hN h1 h2=>OpenF.slice (oExF N) Tryz.underlying25 (show Tryz.prog.cellsOf 32=8 by kernel_rfl) (fun a h=>by cases h; rfl) (by decide) (Nat.le_of_ble_eq_true (by kernel_rfl)) enc W fuel cs d ps (by omega) h1 h2
theorem oCol:OpenR Tryz.prog colA FitCol 101:=by
 intro H enc W fuel cs d ps h hw
 obtain ⟨n,hn,hlen,hf⟩:=open_structF Tryz.underlying101 h hw
 rw [show Tryz.prog.cellsOf 101=6 by kernel_rfl] at hlen
 obtain ⟨_,_,h0,w0⟩:=hf 0 _ rfl
 obtain ⟨x0,r0,e0⟩:=(openR_str Tryz.underlying9) enc W _ _ _ _ h0 w0
 change TRL _ _ _ (List.take (Tryz.prog.cellsOf 9) (List.drop 0 cs)) at e0
 rw [show Tryz.prog.cellsOf 9=1 by kernel_rfl] at e0
 obtain ⟨_,_,h1,w1⟩:=hf 1 _ rfl
 obtain ⟨x1,r1,e1⟩:=(openR_int Tryz.underlying3) enc W _ _ _ _ h1 w1
 change TRL _ _ _ (List.take (Tryz.prog.cellsOf 3) (List.drop 1 cs)) at e1
 rw [show Tryz.prog.cellsOf 3=1 by kernel_rfl] at e1
 obtain ⟨_,_,h2,w2⟩:=hf 2 _ rfl
 obtain ⟨x2,r2,e2⟩:=(openR_int Tryz.underlying2) enc W _ _ _ _ h2 w2
 change TRL _ _ _ (List.take (Tryz.prog.cellsOf 2) (List.drop 2 cs)) at e2
 rw [show Tryz.prog.cellsOf 2=1 by kernel_rfl] at e2
 obtain ⟨_,_,h3,w3⟩:=hf 3 _ rfl
 obtain ⟨x3,r3,e3⟩:=(openR_int Tryz.underlying2) enc W _ _ _ _ h3 w3
 change TRL _ _ _ (List.take (Tryz.prog.cellsOf 2) (List.drop 3 cs)) at e3
 rw [show Tryz.prog.cellsOf 2=1 by kernel_rfl] at e3
 obtain ⟨_,_,h4,w4⟩:=hf 4 _ rfl
 obtain ⟨x4,r4,e4⟩:=(openR_int Tryz.underlying3) enc W _ _ _ _ h4 w4
 change TRL _ _ _ (List.take (Tryz.prog.cellsOf 3) (List.drop 4 cs)) at e4
 rw [show Tryz.prog.cellsOf 3=1 by kernel_rfl] at e4
 obtain ⟨_,_,h5,w5⟩:=hf 5 _ rfl
 obtain ⟨x5,r5,e5⟩:=(openR_bool Tryz.underlying4) enc W _ _ _ _ h5 w5
 change TRL _ _ _ (List.take (Tryz.prog.cellsOf 4) (List.drop 5 cs)) at e5
 rw [show Tryz.prog.cellsOf 4=1 by kernel_rfl] at e5
 have hh:=(TRL.piece (o:=0) (m:=1) e0 (TRL.piece (o:=1) (m:=1) e1 (TRL.piece (o:=2) (m:=1) e2 (TRL.piece (o:=3) (m:=1) e3 (TRL.piece (o:=4) (m:=1) e4 (TRL.piece (o:=5) (m:=1) e5 (TRL.done hlen)))))))
 exact ⟨⟨x0,x1,x2,x3,x4,x5⟩,⟨r0⟩,hh⟩
theorem oCols:OpenR Tryz.prog (fun l:List GCol=>[.tree 6 (l.map colA)]) (fun l=>l.length * Tryz.prog.bytesOf 101≤140737488355328∧∀ a∈l,FitCol a) 22:=OpenR.sliceB oCol Tryz.underlying22 (show Tryz.prog.cellsOf 101=6 by kernel_rfl) (fun _=>rfl) (by decide) (Nat.le_of_ble_eq_true (by kernel_rfl))
theorem colB {n:Nat} (h:n * Tryz.prog.bytesOf 101≤140737488355328):n≤140737488355328∧n≤3518437208883:=by
 have e:40≤Tryz.prog.bytesOf 101:=Nat.le_of_ble_eq_true (by kernel_rfl)
 have:n * 40≤n * Tryz.prog.bytesOf 101:=Nat.mul_le_mul_left _ e
 omega
theorem oInts:OpenR Tryz.prog (fun l:List Int=>[.tree 1 (l.map iA)]) (fun l=>l.length≤140737488355328∧∀ a∈l,-9223372036854775808≤a∧a≤9223372036854775807) 59:=OpenR.slice (openR_int Tryz.underlying3) Tryz.underlying59 (show Tryz.prog.cellsOf 3=1 by kernel_rfl) (fun _=>rfl) (by decide) (Nat.le_of_ble_eq_true (by kernel_rfl))
theorem oKeys:OpenR Tryz.prog (fun l:List (List Int)=>[.tree 1 (l.map (fun l=>[.tree 1 (l.map iA)]))]) (fun l=>l.length≤140737488355328∧∀ a∈l,a.length≤140737488355328∧∀ b∈a,-9223372036854775808≤b∧b≤9223372036854775807) 23:=OpenR.slice oInts Tryz.underlying23 (show Tryz.prog.cellsOf 59=1 by kernel_rfl) (fun _=>rfl) (by decide) (Nat.le_of_ble_eq_true (by kernel_rfl))
theorem oFor:OpenR Tryz.prog forA FitFor 138:=by
 intro H enc W fuel cs d ps h hw
 obtain ⟨n,hn,hlen,hf⟩:=open_structF Tryz.underlying138 h hw
 rw [show Tryz.prog.cellsOf 138=3 by kernel_rfl] at hlen
 obtain ⟨_,_,h0,w0⟩:=hf 0 _ rfl
 obtain ⟨x0,r0,e0⟩:=(oInts) enc W _ _ _ _ h0 w0
 change TRL _ _ _ (List.take (Tryz.prog.cellsOf 59) (List.drop 0 cs)) at e0
 rw [show Tryz.prog.cellsOf 59=1 by kernel_rfl] at e0
 obtain ⟨_,_,h1,w1⟩:=hf 1 _ rfl
 obtain ⟨x1,r1,e1⟩:=(openR_int Tryz.underlying3) enc W _ _ _ _ h1 w1
 change TRL _ _ _ (List.take (Tryz.prog.cellsOf 3) (List.drop 1 cs)) at e1
 rw [show Tryz.prog.cellsOf 3=1 by kernel_rfl] at e1
 obtain ⟨_,_,h2,w2⟩:=hf 2 _ rfl
 obtain ⟨x2,r2,e2⟩:=(openR_int Tryz.underlying3) enc W _ _ _ _ h2 w2
 change TRL _ _ _ (List.take (Tryz.prog.cellsOf 3) (List.drop 2 cs)) at e2
 rw [show Tryz.prog.cellsOf 3=1 by kernel_rfl] at e2
 have hh:=(TRL.piece (o:=0) (m:=1) e0 (TRL.piece (o:=1) (m:=1) e1 (TRL.piece (o:=2) (m:=1) e2 (TRL.done hlen))))
 exact ⟨⟨x0,x1,x2⟩,⟨r0.1,fun _ _=>trivial⟩,hh⟩
theorem oFors:OpenR Tryz.prog (fun l:List GFor=>[.tree 3 (l.map forA)]) (fun l=>l.length≤140737488355328∧∀ a∈l,FitFor a) 24:=OpenR.slice oFor Tryz.underlying24 (show Tryz.prog.cellsOf 138=3 by kernel_rfl) (fun _=>rfl) (by decide) (Nat.le_of_ble_eq_true (by kernel_rfl))
theorem oTab:OpenR Tryz.prog tabA (fun y=>FitTab y∧y.columns_.length≤3518437208883) 27:=by
 intro H enc W fuel cs d ps h hw
 obtain ⟨n,hn,hlen,hf⟩:=open_structF Tryz.underlying27 h hw
 rw [show Tryz.prog.cellsOf 27=5 by kernel_rfl] at hlen
 obtain ⟨_,_,h0,w0⟩:=hf 0 _ rfl
 obtain ⟨x0,r0,e0⟩:=(openR_str Tryz.underlying9) enc W _ _ _ _ h0 w0
 change TRL _ _ _ (List.take (Tryz.prog.cellsOf 9) (List.drop 0 cs)) at e0
 rw [show Tryz.prog.cellsOf 9=1 by kernel_rfl] at e0
 obtain ⟨_,_,h1,w1⟩:=hf 1 _ rfl
 obtain ⟨x1,r1,e1⟩:=(oCols) enc W _ _ _ _ h1 w1
 change TRL _ _ _ (List.take (Tryz.prog.cellsOf 22) (List.drop 1 cs)) at e1
 rw [show Tryz.prog.cellsOf 22=1 by kernel_rfl] at e1
 obtain ⟨_,_,h2,w2⟩:=hf 2 _ rfl
 obtain ⟨x2,r2,e2⟩:=(oKeys) enc W _ _ _ _ h2 w2
 change TRL _ _ _ (List.take (Tryz.prog.cellsOf 23) (List.drop 2 cs)) at e2
 rw [show Tryz.prog.cellsOf 23=1 by kernel_rfl] at e2
 obtain ⟨_,_,h3,w3⟩:=hf 3 _ rfl
 obtain ⟨x3,r3,e3⟩:=(oFors) enc W _ _ _ _ h3 w3
 change TRL _ _ _ (List.take (Tryz.prog.cellsOf 24) (List.drop 3 cs)) at e3
 rw [show Tryz.prog.cellsOf 24=1 by kernel_rfl] at e3
 obtain ⟨_,_,h4,w4⟩:=hf 4 _ rfl
 obtain ⟨x4,r4,e4⟩:=(oExs) enc W _ _ _ _ h4 w4
 change TRL _ _ _ (List.take (Tryz.prog.cellsOf 25) (List.drop 4 cs)) at e4
 rw [show Tryz.prog.cellsOf 25=1 by kernel_rfl] at e4
 have hh:=(TRL.piece (o:=0) (m:=1) e0 (TRL.piece (o:=1) (m:=1) e1 (TRL.piece (o:=2) (m:=1) e2 (TRL.piece (o:=3) (m:=1) e3 (TRL.piece (o:=4) (m:=1) e4 (TRL.done hlen))))))
 exact ⟨⟨x0,x1,x2,x3,x4⟩,⟨⟨r0,⟨(colB r1.1).1,r1.2⟩,⟨r2.1,fun y h=>⟨(r2.2 y h).1,fun _ _=>trivial⟩⟩,r3,r4⟩,(colB r1.1).2⟩,hh⟩
theorem oValW:OpenR Tryz.prog gvA (fun v=>FitVal v∧I64 v.int_) 30:=by
 intro H enc W fuel cs d ps h hw
 obtain ⟨n,hn,hlen,hf⟩:=open_structF Tryz.underlying30 h hw
 rw [show Tryz.prog.cellsOf 30=3 by kernel_rfl] at hlen
 obtain ⟨_,_,h0,w0⟩:=hf 0 _ rfl
 obtain ⟨x0,r0,e0⟩:=(openR_int Tryz.underlying3) enc W _ _ _ _ h0 w0
 change TRL _ _ _ (List.take (Tryz.prog.cellsOf 3) (List.drop 0 cs)) at e0
 rw [show Tryz.prog.cellsOf 3=1 by kernel_rfl] at e0
 obtain ⟨_,_,h1,w1⟩:=hf 1 _ rfl
 obtain ⟨x1,r1,e1⟩:=(openR_int Tryz.underlying2) enc W _ _ _ _ h1 w1
 change TRL _ _ _ (List.take (Tryz.prog.cellsOf 2) (List.drop 1 cs)) at e1
 rw [show Tryz.prog.cellsOf 2=1 by kernel_rfl] at e1
 obtain ⟨_,_,h2,w2⟩:=hf 2 _ rfl
 obtain ⟨x2,r2,e2⟩:=(openR_str Tryz.underlying9) enc W _ _ _ _ h2 w2
 change TRL _ _ _ (List.take (Tryz.prog.cellsOf 9) (List.drop 2 cs)) at e2
 rw [show Tryz.prog.cellsOf 9=1 by kernel_rfl] at e2
 have hh:=(TRL.piece (o:=0) (m:=1) e0 (TRL.piece (o:=1) (m:=1) e1 (TRL.piece (o:=2) (m:=1) e2 (TRL.done hlen))))
 exact ⟨⟨x0,x1,x2⟩,⟨⟨r2⟩,r1⟩,hh⟩
theorem oRowW:OpenR Tryz.prog (fun l:List GVal=>[.tree 3 (l.map gvA)]) (fun l=>l.length≤140737488355328∧∀ a∈l,(FitVal a∧I64 a.int_)) 36:=OpenR.slice oValW Tryz.underlying36 (show Tryz.prog.cellsOf 30=3 by kernel_rfl) (fun _=>rfl) (by decide) (Nat.le_of_ble_eq_true (by kernel_rfl))
theorem oExG:OpenR Tryz.prog exA FitEx 32:=fun enc W fuel cs d ps h hw=>by
 obtain ⟨r,hr,h2⟩:=oEx enc W fuel cs d ps h hw
 obtain ⟨x,rfl,hx⟩:=hr.open_
 exact ⟨x,hx,h2⟩
theorem oAsn:OpenR Tryz.prog asnA FitAsn 93:=by
 intro H enc W fuel cs d ps h hw
 obtain ⟨n,hn,hlen,hf⟩:=open_structF Tryz.underlying93 h hw
 rw [show Tryz.prog.cellsOf 93=10 by kernel_rfl] at hlen
 obtain ⟨_,_,h0,w0⟩:=hf 0 _ rfl
 obtain ⟨x0,r0,e0⟩:=(openR_str Tryz.underlying9) enc W _ _ _ _ h0 w0
 change TRL _ _ _ (List.take (Tryz.prog.cellsOf 9) (List.drop 0 cs)) at e0
 rw [show Tryz.prog.cellsOf 9=1 by kernel_rfl] at e0
 obtain ⟨_,_,h1,w1⟩:=hf 1 _ rfl
 obtain ⟨x1,r1,e1⟩:=(openR_int Tryz.underlying3) enc W _ _ _ _ h1 w1
 change TRL _ _ _ (List.take (Tryz.prog.cellsOf 3) (List.drop 1 cs)) at e1
 rw [show Tryz.prog.cellsOf 3=1 by kernel_rfl] at e1
 obtain ⟨_,_,h2,w2⟩:=hf 2 _ rfl
 obtain ⟨x2,r2,e2⟩:=(oExG) enc W _ _ _ _ h2 w2
 change TRL _ _ _ (List.take (Tryz.prog.cellsOf 32) (List.drop 2 cs)) at e2
 rw [show Tryz.prog.cellsOf 32=8 by kernel_rfl] at e2
 have hh:=(TRL.piece (o:=0) (m:=1) e0 (TRL.piece (o:=1) (m:=1) e1 (TRL.piece (o:=2) (m:=8) e2 (TRL.done hlen))))
 exact ⟨⟨x0,x1,x2⟩,⟨r0,r2⟩,hh⟩
theorem oAsns:OpenR Tryz.prog (fun l:List GAsn=>[.tree 10 (l.map asnA)]) (fun l=>l.length≤140737488355328∧∀ a∈l,FitAsn a) 28:=OpenR.slice oAsn Tryz.underlying28 (show Tryz.prog.cellsOf 93=10 by kernel_rfl) (fun _=>rfl) (by decide) (Nat.le_of_ble_eq_true (by kernel_rfl))
theorem oCase:OpenR Tryz.prog casA (fun c=>FitCase c∧c.t_.columns_.length≤3518437208883) 34:=by
 intro H enc W fuel cs d ps h hw
 obtain ⟨n,hn,hlen,hf⟩:=open_structF Tryz.underlying34 h hw
 rw [show Tryz.prog.cellsOf 34=14 by kernel_rfl] at hlen
 obtain ⟨_,_,h0,w0⟩:=hf 0 _ rfl
 obtain ⟨x0,r0,e0⟩:=(oTab) enc W _ _ _ _ h0 w0
 change TRL _ _ _ (List.take (Tryz.prog.cellsOf 27) (List.drop 0 cs)) at e0
 rw [show Tryz.prog.cellsOf 27=5 by kernel_rfl] at e0
 obtain ⟨_,_,h1,w1⟩:=hf 1 _ rfl
 obtain ⟨x1,r1,e1⟩:=(oAsns) enc W _ _ _ _ h1 w1
 change TRL _ _ _ (List.take (Tryz.prog.cellsOf 28) (List.drop 5 cs)) at e1
 rw [show Tryz.prog.cellsOf 28=1 by kernel_rfl] at e1
 obtain ⟨_,_,h2,w2⟩:=hf 2 _ rfl
 obtain ⟨x2,r2,e2⟩:=(oExG) enc W _ _ _ _ h2 w2
 change TRL _ _ _ (List.take (Tryz.prog.cellsOf 32) (List.drop 6 cs)) at e2
 rw [show Tryz.prog.cellsOf 32=8 by kernel_rfl] at e2
 have hh:=(TRL.piece (o:=0) (m:=5) e0 (TRL.piece (o:=5) (m:=1) e1 (TRL.piece (o:=6) (m:=8) e2 (TRL.done hlen))))
 exact ⟨⟨x0,x1,x2⟩,⟨⟨r0.1,r1,r2⟩,r0.2⟩,hh⟩
theorem open_rowW {r:Reach} {b0:Nat} {H:Type} {enc:TypeId×Value→H} {W:World} {v:Value} {d:DataW H} {ps:List MemPlace} (hv:Value.okWide Tryz.prog W r b0 36 v)
  (h:DataW.Trod enc Tryz.prog W 0 (fun _=>true) true 36 v d ps) (hw:∀ m∈d.weights Tryz.prog 36,m≤140737488351232) :
  ∃ l:List GVal,FitL l (fun y=>FitVal y∧I64 y.int_)∧TR (LtB W.heap.size) W (.tree 3 (l.map gvA)) v:=by
 obtain ⟨a,len,cap,rfl⟩:=okWide_slice Tryz.underlying36 hv
 obtain ⟨fuel,hf⟩:=h
 obtain ⟨l,h1,h3⟩:=oRowW enc W fuel _ d ps hf hw
 exact ⟨l,h1,h3.2 0 (by simp) (by simp [Value.cells])⟩
theorem open_case {r:Reach} {b0:Nat} {H:Type} {enc:TypeId×Value→H} {W:World} {v:Value} {d:DataW H} {ps:List MemPlace} (hv:Value.okWide Tryz.prog W r b0 34 v)
  (h:DataW.Trod enc Tryz.prog W 0 (fun _=>true) true 34 v d ps) (hw:∀ m∈d.weights Tryz.prog 34,m≤140737488351232) :
  ∃ c:GCase,(FitCase c∧c.t_.columns_.length≤3518437208883)∧TR (LtB W.heap.size) W (.agg (casA c)) v:=by
 obtain ⟨cs,rfl,hsz⟩:=okWide_struct Tryz.underlying34 hv
 obtain ⟨fuel,hf⟩:=h
 obtain ⟨c,h1,h3⟩:=oCase enc W fuel _ d ps hf hw
 refine ⟨c,h1,.agg ?_ (fun i hi hi'=>?_)⟩
 ·have:=h3.1
  simpa [Value.cells] using this
 ·have:=h3.2 i hi (by simpa [Value.cells] using hi')
  simpa [Value.cells] using this
end Go.Proofs.YtjdblmpkeilbaaaGreatDoor
