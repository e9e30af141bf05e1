/- Texts of the claim. -/
import Derived.Deep.Slices
import Derived.Deep.Fields
import Derived.ChangeSame
import Derived.ChangeArms
import Derived.SizedLaws
import Derived.OpenShut
import Derived.Test.YtmbmbhkemgmhfaaGreatDoorB3
import Derived.Test.YtmbmbhkemgmhfaaGreatDoorF1
import Derived.Test.YtmbmbhkemgmhfaaGreatDoorQ2
namespace Go.Proofs.YtmbmbhkemgmhfaaGreatDoor
set_option maxRecDepth 1000000
set_option maxHeartbeats 0
set_option linter.unusedVariables false
set_option linter.unusedSimpArgs false
open Go.RowKit
set_option maxRecDepth 1000000
theorem qg:PRet Tryz.prog 4 [] (fun q=>q=.v (.bool true)):=ll (by kernel_rfl)
theorem M5{tb:Int}{l:List PVar}{w:List GVal}(hl:fy l (fun _=>True))(hw:fy w (fun y=>FitVal y))(h0:LOk l)(hl1:l.length<=8)(hb:Bel l w):PRet Tryz.prog 10 [.v (.int .i64 tb),.tree 5 (l.map vA),.tree 3 (w.map gvA)] (fun q=>q=.agg [.v (.int .i64 tb),.v (.int .i64 ((l.length:Nat):Int)),vsA l,.tree 7 ([exC w].map clA)]):=
 (M6 tb l hl w hw h0 (by omega)).mono fun _ h=>by rw[h,Ck hb]
theorem lawBox_p(l:List PVar)(hl:fy l (fun y=>True))(w:List GVal)(hw:fy w (fun y=>FitVal y))(tb:Int):PRet Tryz.prog 3 [.v (.int .i64 tb),.tree 5 (l.map vA),.tree 3 (w.map gvA)] (fun q=>q=.v (.bool true)):=by
 refine ovT [] [] Tryz.func3 rfl rfl ?_
 refine ArgG.mk (qg) rfl ?_
 rintro _ rfl
 refine cB (fun hc=>?_) (fun hc=>?_)
 ·refine cT (cT ?_)
  refine cT (cT ?_)
  refine cT (ArgG.mk (qg) rfl ?_)
  rintro _ rfl
  exact rV rfl rfl rfl
 refine cB (fun h3=>?_) (fun h3=>?_)
 ·have hd:(tb:Int)<(0:Int):=ag4 h3
  refine cT (cT ?_)
  refine cT (cT ?_)
  refine ArgG.mk (qg) rfl ?_
  rintro _ rfl
  exact rV rfl rfl rfl
 have hd:¬((tb:Int)<(0:Int)):=ag3 h3
 refine LenG.of (cB (fun h4=>?_) (fun h4=>?_))
 ·have hlt20:l.length<1:=Int.ofNat_lt.1 (ag4 h4)
  refine cT (cT ?_)
  refine cT (ArgG.mk (qg) rfl ?_)
  rintro _ rfl
  exact rV rfl rfl rfl
 have hge20:¬l.length<1:=fun h=>ag3 h4 (Int.ofNat_lt.2 h)
 refine LenG.of (cB (fun h5=>?_) (fun h5=>?_))
 ·have he:((l.length:Nat):Int)>(8:Int):=ag4 h5
  refine cT (cT ?_)
  refine ArgG.mk (qg) rfl ?_
  rintro _ rfl
  exact rV rfl rfl rfl
 have he:¬(((l.length:Nat):Int)>(8:Int)):=ag3 h5
 refine ArgG.mk (PRet.of_call (afr l (by omega))) rfl ?_
 rintro _ rfl
 refine cB (fun h9=>?_) (fun h9=>?_)
 ·refine cT (ArgG.mk (qg) rfl ?_)
  rintro _ rfl
  exact rV rfl rfl rfl
 refine LenG.of (LenG.of ?_)
 refine cB (fun h6=>?_) (fun h6=>?_)
 ·have hf:¬(((w.length:Nat):Int)=((l.length:Nat):Int)):=by simpa using h6
  refine ArgG.mk (qg) rfl ?_
  rintro _ rfl
  exact rV rfl rfl rfl
 have hf:((w.length:Nat):Int)=((l.length:Nat):Int):=by simpa using h6
 have hh:=aah (nb h9)
 have hi:w.length=l.length:=by omega
 have h8:l.length<=8:=by omega
 have h1:1<=l.length:=by omega
 refine LenG.of (LpG.on (fun k0:Nat=>(⟨fL [(0,.v (.int .i64 tb)),(1,.tree 5 (l.map vA)),(2,.tree 3 (w.map gvA)),(38,.tree 3 (w.map gvA)),(39,.v (.int .i64 ((w.length:Nat):Int))),(40,.v (.int .i64 ((k0:Nat):Int)))],hLz [],0⟩:St)) (fun k0=>(w.length-k0)) (fun k0=>(k0<=w.length/\∀j (hl:j<w.length),j<k0->∀h2:j<l.length,ua w[j] l[j]=true)) 0 (cO (.cons rfl rfl (.cons rfl rfl (.cons rfl rfl (.cons rfl rfl (.cons rfl rfl (.cons rfl rfl .nil)))))) .nil) ⟨ag6 _,fun j _ h=>absurd h (ag7 j)⟩ ?_)
 rintro k0 hg
 have hgr_k0:w.length<=140737488355328:=hw.1
 obtain⟨hle_k0,h0⟩:=hg
 refine cB (fun h7=>?_) (fun h7=>?_)
 ·have hlt41:k0<w.length:=Int.ofNat_lt.1 (ag4 h7)
  refine IdxG.of ‹_› (IdxG.of (by omega) ?_)
  refine ArgG.mk (Qq w[k0] (hw.2 _ (agt _)) (l[k0]'(by omega))) rfl ?_
  rintro _ rfl
  refine⟨by kernel_rfl,?_⟩
  refine cB (fun ha=>?_) (fun ha=>?_)
  ·exact rV rfl rfl rfl
  refine⟨by omega,?_⟩
  refine⟨(k0+1),by omega,(cO (.cons rfl rfl (.cons rfl rfl (.cons rfl rfl (.cons rfl rfl (.cons rfl rfl (.cons rfl rfl .nil)))))) .nil),?_⟩
  refine⟨by omega,fun j hl h=>?_⟩
  rcases ag9.1 h with h|rfl
  ·exact h0 j hl h
  exact fun h2=>nb ha
 have hge41:¬k0<w.length:=fun h=>ag3 h7 (Int.ofNat_lt.2 h)
 have hb:Bel l w:=⟨hi,fun j g1 g2=>h0 j g1 (by omega) g2⟩
 refine ArgG.mk (M5 (tb:=tb) hl hw hh h8 hb) rfl ?_
 rintro _ rfl
 refine ArgG.mk (Xa tb l w hb hh h1 h8) rfl ?_
 rintro _ rfl
 refine ArgG.mk (ach tb (w.map se) (by simp;omega)) rfl ?_
 rintro _ rfl
 refine ArgG.mk (Yz w ⟨hw.1,fun _ _=>trivial⟩ tb (by omega)) rfl ?_
 rintro _ rfl
 refine ArgG.mk (Yw tb (w.map se) (by simp;omega)) rfl ?_
 rintro _ rfl
 exact rV rfl rfl rfl
open Go.RowKit Go.ChangeShapes Go.WideShapes Go.Deep
set_option maxRecDepth 100000
def LtB(n:Nat):Nat->Prop:=fun k=>k<n
def TRL(T:Nat->Prop)(w:World)(xs:List AV)(cs:List Value):Prop:=xs.length=cs.length/\∀i (h:i<xs.length) (h':i<cs.length),TR T w xs[i] cs[i]
theorem TRL.one{T:Nat->Prop}{w:World}{a:AV}{x:Value}(h:TR T w a x):TRL T w [a] [x]:=⟨rfl,fun i h1 h2=>by
 have:i=0:=by simp at h1;omega
 subst this;exact h⟩
theorem TRL.append{T:Nat->Prop}{w:World}{xs ys:List AV}{cs ds:List Value}(h1:TRL T w xs cs)(h2:TRL T w ys ds):TRL T w (xs++ys) (cs++ds):=by
 refine⟨by simp[h1.1,h2.1],fun i h h'=>?_⟩
 have e:=h1.1
 by_cases hi:i<xs.length
 ·rw[List.getElem_append_left hi,List.getElem_append_left (by omega)]
  exact h1.2 i hi (by omega)
 rw[List.getElem_append_right (by omega),List.getElem_append_right (by omega)]
 simp only[<-e]
 exact h2.2 _ _ _
theorem TRL.done{T:Nat->Prop}{w:World}{cs:List Value}{n:Nat}(h:cs.length=n):TRL T w [] (cs.drop n):=by
 rw[<-h,List.drop_length];exact⟨rfl,fun i h=>absurd h (by simp)⟩
theorem jw{T:Nat->Prop}{w:World}{xs ys:List AV}{cs:List Value}{o m:Nat}(h1:TRL T w xs ((cs.drop o).take m))(h2:TRL T w ys (cs.drop (o+m))):TRL T w (xs++ys) (cs.drop o):=by
 have:=h1.append h2
 rwa [<-List.drop_drop,List.take_append_drop]at this
theorem TRL.val{T:Nat->Prop}{w:World}{cs:List Value}{x:Value}(h:cs=[x]):TRL T w [.v x] cs:=by rw[h];exact .one (.v x)
def I8{α:Type}(P:Program)(R:α->List AV)(Wf:α->Prop)(t:TypeId)(N:Nat):Prop:=
 ∀{H:Type} (enc:TypeId×Value->H) (W:World) (fuel:Nat) (cs:List Value) (d:DataW H) (ps:List MemPlace),fuel<=N->
  DataW.trod enc P W 0 (fun _=>true) true fuel t cs=some (d,ps)->(∀m∈d.weights P t,m<=140737488351232)->∃a,Wf a/\TRL (LtB W.heap.size) W (R a) cs
def w5{α:Type}(P:Program)(R:α->List AV)(Wf:α->Prop)(t:TypeId):Prop:=
 ∀{H:Type} (enc:TypeId×Value->H) (W:World) (fuel:Nat) (cs:List Value) (d:DataW H) (ps:List MemPlace),
  DataW.trod enc P W 0 (fun _=>true) true fuel t cs=some (d,ps)->(∀m∈d.weights P t,m<=140737488351232)->∃a,Wf a/\TRL (LtB W.heap.size) W (R a) cs
theorem w5.f{α:Type}{P:Program}{R:α->List AV}{Wf:α->Prop}{t:TypeId}(h:w5 P R Wf t)(N:Nat):I8 P R Wf t N:=fun enc W fuel cs d ps _ h1 h2=>h enc W fuel cs d ps h1 h2
theorem w5.of{α:Type}{P:Program}{R:α->List AV}{Wf:α->Prop}{t:TypeId}(h:∀N,I8 P R Wf t N):w5 P R Wf t:=fun enc W fuel cs d ps h1 h2=>h fuel enc W fuel cs d ps (ag8 _) h1 h2
theorem pj{H:Type}{P:Program}{e:TypeId}:∀{ds:List (DataW H)} {d:DataW H},d∈ds->∀m∈d.weights P e,m∈DataW.weightsAll P e ds
 |x::r,d,h,m,hm=>by
  simp only[DataW.weightsAll,agz]
  rcases ahk.1 h with rfl|h
  ·exact .inl hm
  ·exact .inr (pj h m hm)
theorem Iz{α:Type}[Inhabited α]{m:Nat}{p:Nat->α->Prop}(h:∀i,i<m->∃y,p i y):∃f:Nat->α,∀i,i<m->p i (f i):=by
 refine⟨fun i=>if h':i<m then Classical.choose (h i h')else default,fun i hi=>?_⟩
 simp only[hi,dif_pos]
 exact Classical.choose_spec (h i hi)
theorem Cx{α:Type}{P:Program}{R:α->List AV}{Wf:α->Prop}{t e q N:Nat}(hR:I8 P R Wf e N)(ht:P.underlying t=some (.slice e))(hn:P.cellsOf e=q)(hq:∀a,Wf a->(R a).length=q)(h6:1<=q)(hb:1<=P.bytesOf e):
 I8 P (fun l:List α=>[.tree q (l.map R)]) (fun l=>l.length*P.bytesOf e<=140737488355328/\∀a∈l,Wf a) t (N+1):=by
 intro H enc W fuel cs d ps hN h hw
 rcases DataW.trod_slice ht h with⟨rfl,_⟩|⟨a,len,m,elems,rest,n,hfu,rfl,hx,_,hl,hm,g4,hi,_,_⟩
 ·exact⟨[],⟨by simp,fun a h=>by cases h⟩,.one (.tree0 (ag6 _))⟩
 simp only[Prod.mk.injEq]at hx
 obtain⟨rfl,_⟩:=hx
 simp only[DataW.weights,ht,ag0,ahk,agz]at hw
 have hh:=hw _ (.inl rfl)
 rw[g4]at hh
 have h7:len*P.bytesOf e<=140737488355328:=by
  have:len*P.bytesOf e<=(len+rest.length)*P.bytesOf e:=Nat.mul_le_mul_right _ (by omega)
  omega
 have ho:len<=140737488355328:=by
  have:len*1<=(len+rest.length)*P.bytesOf e:=Nat.mul_le_mul (by omega) hb
  omega
 have hu:∀i,i<len->∃(y:α×List Value),(Wf y.1/\TRL (LtB W.heap.size) W (R y.1) y.2)/\W.cells? 0 (a.add (i*P.cellsOf e)) (P.cellsOf e)=some y.2:=by
  intro i g5
  have h1:=hi i g5
  have hp:i<elems.length:=by omega
  rw[agu hp]at h1
  obtain⟨cs',hc,g6⟩:=Option.bind_eq_some_iff.1 h1
  obtain⟨y,hy⟩:=hR enc W n cs' elems[i].1 elems[i].2 (by omega) g6 (fun j hj=>hw j (.inr (.inl (pj (ahj.2 ⟨elems[i],agt _,rfl⟩) j hj))))
  exact⟨(y,cs'),hy,hc⟩
 by_cases h0:len=0
 ·subst h0
  exact⟨[],⟨by simp,fun a h=>by cases h⟩,.one (.tree0 hm)⟩
 obtain⟨y0,g7⟩:=hu 0 (by omega)
 have:Inhabited (α×List Value):=⟨y0⟩
 obtain⟨f,hf⟩:=Iz hu
 obtain⟨b,off,spot⟩:=a
 have hv:=World.cells?_some g7.2
 have h3:=hv.2.2 0 (by rw[hn];exact h6)
 have h8:∃v0,W.cell? ((⟨b,off,spot⟩:Addr).add (0*P.cellsOf e))=some v0:=by
  have h9:0<y0.2.length:=by rw[hv.2.1,hn];exact h6
  refine⟨y0.2[0],?_⟩
  have:=h3
  rw[agu h9]at this
  simpa[Addr.add]using this
 obtain⟨v0,g0⟩:=h8
 have hd:spot=none:=by simpa[Addr.add]using World.cell?_spot g0
 subst hd
 have hs:b<W.heap.size:=by
  have:=World.block_lt_of_cell? W _ g0
  simpa[Addr.add]using this
 refine⟨(List.range len).map fun i=>(f i).1,⟨by simpa using h7,fun a ha=>?_⟩,.one ?_⟩
 ·obtain⟨i,g8,rfl⟩:=ahj.1 ha
  exact(hf i (by simpa using g8)).1.1
 have h5:(((List.range len).map fun i=>(f i).1).map R).length=len:=by simp
 have h4:∀k (h:k<(((List.range len).map fun i=>(f i).1).map R).length),(((List.range len).map fun i=>(f i).1).map R)[k]=R (f k).1:=fun k h=>by simp
 have hT:=TR.tree (T:=LtB W.heap.size) (w:=W) (n:=q) (xs:=((List.range len).map fun i=>(f i).1).map R) (b:=b) (off:=off) (cap:=m) (fun k j=>(f k).2.getD j undef) hs (by rw[h5];exact hl) hm (by rw[h5];exact ho)
  (fun k h=>by rw[h4 k h];exact hq _ (hf k (by rw[h5]at h;exact h)).1.1)
  (fun k j hk hj=>by
   rw[h5]at hk
   have g1:=World.cells?_some (hf k hk).2
   have g2:j<P.cellsOf e:=by rw[hn];exact hj
   have hg:=g1.2.2 j g2
   rw[add_add,hn]at hg
   have he:j<(f k).2.length:=by rw[g1.2.1];exact g2
   have e1:(⟨b,off,none⟩:Addr).add (k*q+j)=⟨b,off+k*q+j,none⟩:=by
    by_cases hz:k*q+j=0
    ·have h1:k*q=0:=by omega
     have h2:j=0:=by omega
     rw[h1,h2];simp[Addr.add]
    ·unfold Addr.add
     rw[ag1 hz]
     simp[Nat.add_assoc]
   rw[<-e1,hg]
   simp[List.getD,he])
  (fun k h j h'=>by
   have hk:k<len:=by rw[h5]at h;exact h
   have hr:=(hf k hk).1.2
   have g3:j<(R (f k).1).length:=by rw[h4 k h]at h';exact h'
   have he:j<(f k).2.length:=by rw[<-hr.1];exact g3
   have:=hr.2 j g3 he
   simp only[h4 k h]
   rw[En he]
   exact this)
 rw[h5]at hT
 exact hT
theorem I8.slice{α:Type}{P:Program}{R:α->List AV}{Wf:α->Prop}{t e q N:Nat}(hR:I8 P R Wf e N)(ht:P.underlying t=some (.slice e))(hn:P.cellsOf e=q)(hq:∀a,Wf a->(R a).length=q)(h0:1<=q)(hb:1<=P.bytesOf e):
 I8 P (fun l:List α=>[.tree q (l.map R)]) (fun l=>l.length<=140737488355328/\∀a∈l,Wf a) t (N+1):=fun enc W fuel cs d ps hN h hw=>by
 obtain⟨l,⟨h1,h2⟩,h3⟩:=Cx hR ht hn hq h0 hb enc W fuel cs d ps hN h hw
 refine⟨l,⟨?_,h2⟩,h3⟩
 have:l.length*1<=l.length*P.bytesOf e:=Nat.mul_le_mul_left _ hb
 omega
theorem w5.slice{α:Type}{P:Program}{R:α->List AV}{Wf:α->Prop}{t e q:Nat}(hR:w5 P R Wf e)(ht:P.underlying t=some (.slice e))(hn:P.cellsOf e=q)(hq:∀a,(R a).length=q)(h0:1<=q)(hb:1<=P.bytesOf e):
 w5 P (fun l:List α=>[.tree q (l.map R)]) (fun l=>l.length<=140737488355328/\∀a∈l,Wf a) t:=w5.of fun N=>fun enc W fuel cs d ps hN h1 h2=>I8.slice (hR.f N) ht hn (fun a _=>hq a) h0 hb enc W fuel cs d ps (by omega) h1 h2
theorem te{P:Program}{t:TypeId}{fs:Array Field}(ht:P.underlying t=some (.struct fs)){H:Type}{enc:TypeId×Value->H}{W:World}{fuel:Nat}{cs:List Value}{d:DataW H}{ps:List MemPlace}
 (h:DataW.trod enc P W 0 (fun _=>true) true fuel t cs=some (d,ps))(hw:∀m∈d.weights P t,m<=140737488351232):
 ∃n,fuel=n+1/\cs.length=P.cellsOf t/\∀(i:Nat) (f:Field),fs[i]? =some f->
  ∃(d':DataW H) (ps':List MemPlace),DataW.trod enc P W 0 (fun _=>true) true n f.type ((cs.drop f.offset).take (P.cellsOf f.type))=some (d',ps')/\∀q∈d'.weights P f.type,q<=140737488351232:=by
 obtain⟨xs,n,h3,hx,h0,hxl,hf⟩:=DataW.trod_struct ht h
 simp only[Prod.mk.injEq]at hx
 obtain⟨rfl,_⟩:=hx
 refine⟨n,h3,h0,fun i f hi=>?_⟩
 have hil:i<fs.size:=(Array.getElem?_eq_some_iff.1 hi).1
 have h2:xs[i]? =some (xs[i]'(by omega)):=agu (by omega)
 have h1:=hf i f hi
 rw[h2]at h1
 refine⟨_,_,h1,fun q hq=>hw q ?_⟩
 simp only[DataW.weights,ht]
 refine DataW.weights_mem_each (j:=i) (t:=f.type) (d:=(xs[i]'(by omega)).1) ?_ ?_ q hq
 ·simp only[List.getElem?_map,Array.getElem?_toList,hi,ahp]
 simp only[List.getElem?_map,h2,ahp]
theorem lz{P:Program}{t:TypeId}(ht:P.underlying t=some (.int .i64)):w5 P iA (fun x=>-9223372036854775808<=x/\x<=9223372036854775807) t:=by
 intro H enc W fuel cs d ps h hw
 obtain⟨x,h1,_,h2⟩:=DataW.trod_int ht h
 exact⟨x,bounds_i64 h2,.val h1⟩
theorem Ic{P:Program}{t:TypeId}(ht:P.underlying t=some .bool):w5 P (fun b:Bool=>[.v (.bool b)]) (fun _=>True) t:=by
 intro H enc W fuel cs d ps h hw
 obtain⟨x,h1,_⟩:=DataW.trod_bool ht h
 exact⟨x,trivial,.val h1⟩
theorem K8{P:Program}{t:TypeId}(ht:P.underlying t=some .string):w5 P (fun s:ByteArray=>[.v (.string s)]) (fun s=>s.size<=140737488351232) t:=by
 intro H enc W fuel cs d ps h hw
 obtain⟨x,h1,h2,_⟩:=DataW.trod_string ht h
 simp only[Prod.mk.injEq]at h2
 obtain⟨rfl,_⟩:=h2
 refine⟨x,?_,.val h1⟩
 have:=hw x.data.toList.length (by simp[DataW.weights])
 have e:x.data.toList.length=x.size:=by simp
 omega
theorem oVal:w5 Tryz.prog gvA FitVal 28:=by
 intro H enc W fuel cs d ps h hw
 obtain⟨n,hn,h3,hf⟩:=te Tryz.underlying28 h hw
 rw[show Tryz.prog.cellsOf 28=3 by kernel_rfl]at h3
 obtain⟨_,_,h0,w0⟩:=hf 0 _ rfl
 obtain⟨x0,r0,e0⟩:=(lz Tryz.underlying3) enc W _ _ _ _ h0 w0
 change TRL _ _ _ (List.take (Tryz.prog.cellsOf 3) (List.drop 0 cs))at e0
 rw[show Tryz.prog.cellsOf 3=1 by kernel_rfl]at e0
 obtain⟨_,_,h1,w1⟩:=hf 1 _ rfl
 obtain⟨x1,r1,e1⟩:=(lz Tryz.underlying2) enc W _ _ _ _ h1 w1
 change TRL _ _ _ (List.take (Tryz.prog.cellsOf 2) (List.drop 1 cs))at e1
 rw[show Tryz.prog.cellsOf 2=1 by kernel_rfl]at e1
 obtain⟨_,_,h2,w2⟩:=hf 2 _ rfl
 obtain⟨x2,r2,e2⟩:=(K8 Tryz.underlying9) enc W _ _ _ _ h2 w2
 change TRL _ _ _ (List.take (Tryz.prog.cellsOf 9) (List.drop 2 cs))at e2
 rw[show Tryz.prog.cellsOf 9=1 by kernel_rfl]at e2
 have hh:=(jw (o:=0) (m:=1) e0 (jw (o:=1) (m:=1) e1 (jw (o:=2) (m:=1) e2 (TRL.done h3))))
 exact⟨⟨x0,x1,x2⟩,⟨r2⟩,hh⟩
theorem oRow:w5 Tryz.prog (fun l:List GVal=>[.tree 3 (l.map gvA)]) (fun l=>l.length<=140737488355328/\∀a∈l,FitVal a) 24:=w5.slice oVal Tryz.underlying24 (show Tryz.prog.cellsOf 28=3 by kernel_rfl) (fun _=>rfl) (by decide) (aha (by kernel_rfl))
theorem oVar:w5 Tryz.prog vA (fun _=>True) 31:=by
 intro H enc W fuel cs d ps h hw
 obtain⟨n,hn,h5,hf⟩:=te Tryz.underlying31 h hw
 rw[show Tryz.prog.cellsOf 31=5 by kernel_rfl]at h5
 obtain⟨_,_,h0,w0⟩:=hf 0 _ rfl
 obtain⟨x0,r0,e0⟩:=(lz Tryz.underlying3) enc W _ _ _ _ h0 w0
 change TRL _ _ _ (List.take (Tryz.prog.cellsOf 3) (List.drop 0 cs))at e0
 rw[show Tryz.prog.cellsOf 3=1 by kernel_rfl]at e0
 obtain⟨_,_,h1,w1⟩:=hf 1 _ rfl
 obtain⟨x1,r1,e1⟩:=(lz Tryz.underlying2) enc W _ _ _ _ h1 w1
 change TRL _ _ _ (List.take (Tryz.prog.cellsOf 2) (List.drop 1 cs))at e1
 rw[show Tryz.prog.cellsOf 2=1 by kernel_rfl]at e1
 obtain⟨_,_,h2,w2⟩:=hf 2 _ rfl
 obtain⟨x2,r2,e2⟩:=(lz Tryz.underlying2) enc W _ _ _ _ h2 w2
 change TRL _ _ _ (List.take (Tryz.prog.cellsOf 2) (List.drop 2 cs))at e2
 rw[show Tryz.prog.cellsOf 2=1 by kernel_rfl]at e2
 obtain⟨_,_,h3,w3⟩:=hf 3 _ rfl
 obtain⟨x3,r3,e3⟩:=(lz Tryz.underlying3) enc W _ _ _ _ h3 w3
 change TRL _ _ _ (List.take (Tryz.prog.cellsOf 3) (List.drop 3 cs))at e3
 rw[show Tryz.prog.cellsOf 3=1 by kernel_rfl]at e3
 obtain⟨_,_,h4,w4⟩:=hf 4 _ rfl
 obtain⟨x4,r4,e4⟩:=(Ic Tryz.underlying4) enc W _ _ _ _ h4 w4
 change TRL _ _ _ (List.take (Tryz.prog.cellsOf 4) (List.drop 4 cs))at e4
 rw[show Tryz.prog.cellsOf 4=1 by kernel_rfl]at e4
 have hh:=(jw (o:=0) (m:=1) e0 (jw (o:=1) (m:=1) e1 (jw (o:=2) (m:=1) e2 (jw (o:=3) (m:=1) e3 (jw (o:=4) (m:=1) e4 (TRL.done h5))))))
 exact⟨⟨x0,x1,x2,x3,x4⟩,trivial,hh⟩
theorem aek:w5 Tryz.prog (fun l:List PVar=>[.tree 5 (l.map vA)]) (fun l=>l.length<=140737488355328/\∀a∈l,True) 22:=w5.slice oVar Tryz.underlying22 (show Tryz.prog.cellsOf 31=5 by kernel_rfl) (fun _=>rfl) (by decide) (aha (by kernel_rfl))
theorem open_row{r:Reach}{b0:Nat}{H:Type}{enc:TypeId×Value->H}{W:World}{v:Value}{d:DataW H}{ps:List MemPlace}(hv:Value.okWide Tryz.prog W r b0 24 v)
 (h:DataW.Trod enc Tryz.prog W 0 (fun _=>true) true 24 v d ps)(hw:∀m∈d.weights Tryz.prog 24,m<=140737488351232):
 ∃l:List GVal,fy l (fun y=>FitVal y)/\TR (LtB W.heap.size) W (.tree 3 (l.map gvA)) v:=by
 obtain⟨a,len,cap,rfl⟩:=okWide_slice Tryz.underlying24 hv
 obtain⟨fuel,hf⟩:=h
 obtain⟨l,h1,h3⟩:=oRow enc W fuel _ d ps hf hw
 exact⟨l,h1,h3.2 0 (by simp) (by simp[Value.cells])⟩
theorem open_vars{r:Reach}{b0:Nat}{H:Type}{enc:TypeId×Value->H}{W:World}{v:Value}{d:DataW H}{ps:List MemPlace}(hv:Value.okWide Tryz.prog W r b0 22 v)
 (h:DataW.Trod enc Tryz.prog W 0 (fun _=>true) true 22 v d ps)(hw:∀m∈d.weights Tryz.prog 22,m<=140737488351232):
 ∃l:List PVar,fy l (fun _=>True)/\TR (LtB W.heap.size) W (.tree 5 (l.map vA)) v:=by
 obtain⟨a,len,cap,rfl⟩:=okWide_slice Tryz.underlying22 hv
 obtain⟨fuel,hf⟩:=h
 obtain⟨l,h1,h3⟩:=aek enc W fuel _ d ps hf hw
 exact⟨l,h1,h3.2 0 (by simp) (by simp[Value.cells])⟩
end Go.Proofs.YtmbmbhkemgmhfaaGreatDoor
