/- Texts of the claim. -/
import Derived.Test.YtmbmbhkemgmhfaaGreatDoorT7
import Derived.Test.YtmbmbhkemgmhfaaGreatDoorT6
import Derived.Test.YtmbmbhkemgmhfaaGreatDoorT2
import Derived.Test.YtmbmbhkemgmhfaaGreatDoorT1
import Derived.Test.YtmbmbhkemgmhfaaGreatDoorE3
import Derived.Test.YtmbmbhkemgmhfaaGreatDoorQ2
namespace Go.Proofs.YtmbmbhkemgmhfaaGreatDoor
set_option linter.unusedVariables false
set_option linter.unusedSimpArgs false
open Go.RowKit
section
variable{n v:Nat}{b:Int}
def eV(n v:Nat)(b:Int):List Int:=(List.replicate n 0).set v b
theorem Cq:(eV n v b).length=n:=by simp[eV]
theorem Iu{j:Nat}(hj:j<n):(eV n v b)[j]? =some (if v=j then b else 0):=by
 unfold eV
 by_cases e:v=j
 ·subst e;rw[ag2 rfl,List.getElem?_set_self (by simpa using hj)]
 ·rw[ag1 e,List.getElem?_set_ne e,List.getElem?_replicate,ag2 hj]
theorem ac6(hv:v<n){j:Nat}:(eV n v b).getD j 0=if v=j then b else 0:=by
 unfold List.getD
 by_cases hj:j<n
 ·rw[Iu hj];rfl
 ·rw[List.getElem?_eq_none (by rw[Cq];omega),ag1 (by omega)];rfl
theorem m7:rq (eV n v b)=eV n v (-b):=by
 unfold rq eV;rw[List.map_set];simp
theorem G8{w:Nat}{c:Int}(hv:v<n)(hw:w<n)(hb:b≠0)(h:eV n v b=eV n w c):v=w/\b=c:=by
 have e:=congrArg (fun l=>l.getD v 0) h
 simp only[ac6 hv,ac6 hw,if_true]at e
 by_cases g:w=v
 ·rw[ag2 g]at e;exact⟨g.symm,e⟩
 ·rw[ag1 g]at e;exact absurd e hb
theorem G0:∀(l m:List Int) (d:Int),Eo (l++m) d=Eo m (Eo l d)
 |[],_,_=>rfl
 |x::l,m,d=>G0 l m _
theorem Af:∀(m:Nat) {d:Int},0<=d->Eo (List.replicate m 0) d=d
 |0,_,_=>rfl
 |m+1,d,h=>by
  show Eo (List.replicate m 0) ((Int.gcd d 0:Nat):Int)=d
  rw[Int.gcd_zero_right,show((d.natAbs:Nat):Int)=d by omega]
  exact Af m h
theorem G7(hv:v<n):eV n v b=List.replicate v 0++b::List.replicate (n-v-1) 0:=by
 refine List.ext_getElem? fun j=>?_
 by_cases hj:j<n
 ·rw[Iu hj]
  rcases Nat.lt_trichotomy j v with g|g|g
  ·rw[List.getElem?_append_left (by simpa using g),List.getElem?_replicate,ag2 g,ag1 (by omega)]
  ·subst g;rw[List.getElem?_append_right (by simp)];simp
  ·rw[List.getElem?_append_right (by simp;omega),ag1 (by omega)]
   obtain⟨q,rfl⟩:∃q,j=v+1+q:=⟨j-v-1,by omega⟩
   simp only[List.length_replicate]
   rw[show v+1+q-v=q+1 by omega,List.getElem?_cons_succ,List.getElem?_replicate,ag2 (by omega)]
 ·rw[List.getElem?_eq_none (by rw[Cq];omega),List.getElem?_eq_none (by simp;omega)]
theorem Tb(hv:v<n)(hb:b=1\/b=-1):ku (eV n v b)=1:=by
 rw[G7 hv]
 show Eo _ 0=1
 rw[G0,Af v (Int.le_refl 0)]
 show Eo (List.replicate _ 0) ((Int.gcd 0 b:Nat):Int)=1
 rw[show((Int.gcd 0 b:Nat):Int)=1 by rcases hb with rfl|rfl<;>decide]
 exact Af _ (by decide)
theorem Vx(l:List Int):l.map (flD · 1)=l:=by
 have:(fun x=>flD x 1)=(id:Int->Int):=funext fun x=>afn x
 show l.map (fun x=>flD x 1)=l
 rw[this,List.map_id]
theorem abl(hv:v<n)(hb:b=1\/b=-1){s:OSt}{i:Nat}{k:IqS}(hk:s.K[i]? =some k):Iw s (eV n v b) [⟨(i:Int),1⟩]=some (s,⟨(i:Int),eV n v b⟩,true,true):=by
 have hd:dOf (eV n v b)=1:=by unfold dOf;rw[Tb hv hb];rfl
 unfold Iw
 rw[ag1 (by rw[hd];simp)]
 dsimp only
 rw[ag2 (Int.natCast_nonneg i)]
 simp only[Int.toNat_natCast,hk,hd,Vx,Tb hv hb]
 rfl
theorem Zj(hv:v<n)(hb:b=1\/b=-1){s:OSt}{i:Nat}{k:IqS}(hk:s.K[i]? =some k){t:OSt}(ha:Cv s ⟨(i:Int),eV n v b⟩=some t):Dk s (eV n v b) [⟨(i:Int),1⟩]=some (t,true):=by
 unfold Dk
 rw[abl hv hb hk]
 simp only[ha,if_true]
theorem vr(g:List Int):∀(m:Nat) (r:List Int) (j:Nat) (p:Int),pc g (List.replicate m 0++r) j p=pc g r (j+m) p
 |0,r,j,p=>rfl
 |m+1,r,j,p=>by
  show pc g (List.replicate m 0++r) (j+1) (if(0:Int)≠0/\_ then _ else p)=_
  rw[ag1 (by simp),vr g m r (j+1) p]
  congr 1;omega
theorem Ve(hv:v<n)(hb:b≠0):mj (eV n v b)=(v:Int):=by
 show pc (eV n v b) (eV n v b) 0 (-1)=v
 have e:pc (eV n v b) (List.replicate v 0++b::List.replicate (n-v-1) 0) 0 (-1)=v:=by
  rw[vr]
  show pc _ (List.replicate _ 0) _ (if b≠0/\((-1:Int)<0\/_)then((0+v:Nat):Int)else -1)=v
  rw[ag2 ⟨hb,.inl (by decide)⟩,Nat.zero_add,<-List.append_nil (List.replicate _ 0),vr];rfl
 rwa [<-G7 hv]at e
theorem Um{p:Nat}(hp:p<n):tu p (eV n v b)=some (eV n v (if v=p then -b else b)):=by
 unfold tu
 rw[Iu hp]
 by_cases e:v=p
 ·subst e;simp only[if_true];unfold eV;rw[List.set_set]
 ·simp only[ag1 e]
  congr 1
  refine List.ext_getElem? fun j=>?_
  by_cases hj:p=j
  ·subst hj;rw[List.getElem?_set_self (by rw[Cq];exact hp),Iu hp,ag1 e];rfl
  ·rw[List.getElem?_set_ne hj]
end
theorem Hu{s:OSt}{x:ItS}(hz:SzS s)(h2:(s.I.map (·.g)).Nodup):∃I w,Cv s x=some {s with I:=I,vI:=w}/\(I.map (·.g)).Nodup/\(∀g,g∈I.map (·.g)↔g∈s.I.map (·.g)\/g=x.g)/\(∀y∈I,y∈s.I\/y=x)/\(∀y∈I,y.g=x.g->bnd s y<=bnd s x)/\(∀y∈I,∀z∈s.I,y.g=z.g->bnd s y<=bnd s z)/\w<=s.vI+1/\I.length<=s.I.length+1:=by
 have h4:∀i j (hi:i<s.I.length) (hj:j<s.I.length),s.I[i].g=s.I[j].g->i=j:=fun i j hi hj e=>by
  have hp:=List.pairwise_iff_getElem.1 h2
  rcases Nat.lt_trichotomy i j with g|g|g
  ·exact absurd (by rw[List.getElem_map,List.getElem_map];exact e) (hp i j (by simpa using hi) (by simpa using hj) g)
  ·exact g
  ·exact absurd (by rw[List.getElem_map,List.getElem_map];exact e.symm) (hp j i (by simpa using hj) (by simpa using hi) g)
 have h0:∀y∈s.I,∀z∈s.I,y.g=z.g->y=z:=fun y hy z hz e=>by
  obtain⟨i,hi,rfl⟩:=ahe hy
  obtain⟨j,hj,rfl⟩:=ahe hz
  have:=h4 i j hi hj e
  subst this;rfl
 unfold Cv
 rw[ag2 hz]
 cases hf:s.I.findIdx? (fun y=>decide (x.g=y.g))with
 |none=>
  have h3:∀y∈s.I,x.g≠y.g:=fun y hy=>by
   have:=List.findIdx?_eq_none_iff.1 hf y hy
   simpa using this
  refine⟨s.I++[x],s.vI+1,rfl,?_,fun g=>by simp[or_comm,eq_comm],fun y hy=>by simpa using hy,fun y hy e=>?_,fun y hy z hz e=>?_,ag8 _,by simp⟩
  ·rw[ahi,List.nodup_append]
   refine⟨h2,by simp,fun a ha c hc=>?_⟩
   obtain⟨y,hy,rfl⟩:=ahj.1 ha
   simp at hc;subst hc;exact fun e=>h3 y hy e.symm
  ·rcases agz.1 hy with h|h
   ·exact absurd e.symm (h3 y h)
   ·rw[agy.1 h];exact Int.le_refl _
  ·rcases agz.1 hy with h|h
   ·rw[h0 y h z hz e];exact Int.le_refl _
   ·rw[agy.1 h]at e;exact absurd e (h3 z hz)
 |some i=>
  obtain⟨hi,hx,_⟩:=List.findIdx?_eq_some_iff_getElem.1 hf
  have hx:x.g=s.I[i].g:=by simpa using hx
  have h6:s.I.getD i ⟨0,[]⟩=s.I[i]:=by simp[List.getD,hi]
  simp only[h6]
  split
  ·next hlt=>
   have h1:(s.I.set i x).map (·.g)=s.I.map (·.g):=by
    rw[List.map_set,hx]
    have:s.I[i].g=(s.I.map (·.g))[i]'(by simpa using hi):=by simp
    rw[this];exact List.set_getElem_self _
   refine⟨s.I.set i x,s.vI,rfl,by rw[h1];exact h2,fun g=>?_,fun y hy=>?_,fun y hy e=>?_,fun y hy z hz e=>?_,by omega,by simp⟩
   ·rw[h1];exact⟨.inl,fun h=>h.elim id fun h=>by rw[h,hx];exact List.mem_map_of_mem (agt hi)⟩
   ·rcases List.mem_or_eq_of_mem_set hy with h|h
    ·exact .inl h
    ·exact .inr h
   ·obtain⟨j,hj,rfl⟩:=ahe hy
    rw[List.getElem_set]at e ⊢
    split
    ·exact Int.le_refl _
    ·next h5=>
     rw[ag1 h5]at e
     exact absurd (h4 i j hi (by simpa using hj) (by rw[e,hx])) h5
   ·rcases List.mem_or_eq_of_mem_set hy with h|h
    ·rw[h0 y h z hz e];exact Int.le_refl _
    ·rw[h]at e ⊢
     rw[h0 z hz s.I[i] (agt hi) (by rw[<-e,hx])];omega
  ·next hge=>
   refine⟨s.I,s.vI,rfl,h2,fun g=>⟨.inl,fun h=>h.elim id fun h=>by rw[h,hx];exact List.mem_map_of_mem (agt hi)⟩,fun y hy=>.inl hy,fun y hy e=>?_,fun y hy z hz e=>?_,by omega,by omega⟩
   ·rw[h0 y hy s.I[i] (agt hi) (by rw[e,hx])];omega
   ·rw[h0 y hy z hz e];exact Int.le_refl _
structure BgI(K:List IqS)(m:Nat)(s:OSt):Prop where
 nd:(s.I.map (·.g)).Nodup
 mem:∀g,g∈s.I.map (·.g)↔∃i,∃h:i<K.length,i<m/\K[i].cs=g
 row:∀y∈s.I,∃i,∃h:i<K.length,i<m/\y=⟨(i:Int),K[i].cs⟩
 le:∀y∈s.I,∀i (h:i<K.length),i<m->K[i].cs=y.g->bnd s y<=K[i].b
theorem Hq{n:Nat}{K:List IqS}(hr:∀q∈K,∃v b,v<n/\(b=1\/b=-1)/\q.cs=eV n v b):∀(f m:Nat) (s:OSt),s.K=K->m+f=K.length->(∀I w,I.length<=K.length->w<=K.length->SzS {s with I:=I,vI:=w})->s.I.length<=m->s.vI<=m->BgI K m s->
 ∃I w,I4 f m s=some ({s with I:=I,vI:=w},true)/\BgI K K.length {s with I:=I,vI:=w}/\I.length<=K.length/\w<=K.length
 |0,m,s,hK,hm,hz,h1,h2,hi=>⟨s.I,s.vI,rfl,by rw[show K.length=m by omega];exact hi,by omega,by omega⟩
 |f+1,m,s,hK,hm,hz,h1,h2,hi=>by
  have h0:m<K.length:=by omega
  have hk:s.K[m]? =some K[m]:=by rw[hK];exact agu h0
  obtain⟨v,b,hv,hb,h6⟩:=hr _ (agt h0)
  obtain⟨I,w,ha,g1,g2,g3,g4,g5,g6,g7⟩:=Hu (s:=s) (x:=⟨(m:Int),eV n v b⟩) (hz s.I s.vI (by omega) (by omega)) hi.nd
  have h9:bnd s ⟨(m:Int),eV n v b⟩=K[m].b:=by subst hK;exact Ho rfl h0
  have hc:BgI K (m+1) {s with I:=I,vI:=w}:=⟨g1,fun g=>by
   rw[g2 g,hi.mem g]
   constructor
   ·rintro(⟨i,h,h3,h4⟩|h)
    ·exact⟨i,h,by omega,h4⟩
    ·exact⟨m,h0,by omega,by rw[h6,h]⟩
   ·rintro⟨i,h,h3,h4⟩
    by_cases e:i=m
    ·subst e;exact .inr (by rw[<-h4,h6])
    ·exact .inl ⟨i,h,by omega,h4⟩,fun y hy=>by
   rcases g3 y hy with h|h
   ·obtain⟨i,h3,h4,h5⟩:=hi.row y h;exact⟨i,h3,by omega,h5⟩
   ·exact⟨m,h0,by omega,by rw[h,h6]⟩,fun y hy i h h3 h4=>by
   show bnd s y<=_
   by_cases e:i=m
   ·subst e;rw[<-h9];exact g4 y hy (by rw[<-h4,h6])
   ·obtain⟨z,h7,h8⟩:=ahj.1 ((hi.mem K[i].cs).2 ⟨i,h,by omega,rfl⟩)
    have e1:=g5 y hy z h7 (by rw[h8,h4])
    have e2:=hi.le z h7 i h (by omega) h8.symm
    omega⟩
  obtain⟨I2,w2,h3,h4⟩:=Hq hr f (m+1) {s with I:=I,vI:=w} hK (by omega) hz (by show I.length<=_;omega) (by show w<=_;omega) hc
  refine⟨I2,w2,?_,h4⟩
  unfold I4
  rw[hk]
  simp only[h6,Zj hv hb hk ha,if_true]
  exact h3
structure JI(s:OSt):Prop where
 ok:OOk s
 nd:(s.I.map (·.g)).Nodup
 it:∀y∈s.I,∃v b,v<s.n/\(b=1\/b=-1)/\y.g=eV s.n v b
 pr:∀y∈s.I,∃z∈s.I,z.g=rq y.g/\bnd s y+bnd s z=0
 U:∀i (h:i<s.U.length),∃b,(b=1\/b=-1)/\s.U[i]=eV s.n i b
 E:s.E.length=0
 sz:∀I w,I.length<=1000->w<=1000000->SzS {s with I:=I,vI:=w}
 vl:s.vI+s.I.length*(s.I.length+1)<=1000000
 il:s.I.length<=900
theorem JI.szs{s:OSt}(h:JI s):SzS s:=h.sz s.I s.vI (by have:=h.il;omega) (by have:=h.vl;have:=ag6 (s.I.length*(s.I.length+1));omega)
theorem aZ_1{b:Int}(h:b=1\/b=-1):aZ b=1:=by rcases h with rfl|rfl<;>rfl
theorem JI.fm{s:OSt}(h:JI s):∀x∈s.I,∀c∈x.g,aZ c<=FM:=fun x hx c hc=>by
 obtain⟨v,b,hv,hb,hg⟩:=h.it x hx
 rw[hg]at hc
 unfold eV at hc
 rcases List.mem_or_eq_of_mem_set hc with g|g
 ·rw[List.eq_of_mem_replicate g];decide
 ·rw[g,aZ_1 hb];decide
theorem Zt{s:OSt}(h:JI s)(hI:s.I=[]):vu s=some (s,0,0,false,true):=by
 unfold vu
 rw[ag2 ⟨h.szs,h.nd,h.fm⟩,hI];rfl
theorem Zr{s:OSt}(h:JI s)(hI:0<s.I.length):∃o,∃ho:o<s.I.length,vu s=some (s,((0:Nat):Int),(o:Int),true,true)/\s.I[o].g=rq s.I[0].g/\bnd s s.I[0]+bnd s s.I[o]=0:=by
 obtain⟨z,hz,h3,h5⟩:=h.pr _ (agt hI)
 have h0:(wj s s.I[0].g).isSome=true:=by
  unfold wj
  rw[List.findIdx?_isSome,List.any_eq_true]
  exact⟨z,hz,by simpa using h3⟩
 obtain⟨o,ho⟩:=Option.isSome_iff_exists.1 h0
 obtain⟨h1,h2,_⟩:=List.findIdx?_eq_some_iff_getElem.1 ho
 have h2:s.I[o].g=rq s.I[0].g:=by simpa using h2
 have h6:z=s.I[o]:=by
  obtain⟨j,hj,rfl⟩:=ahe hz
  have hp:=List.pairwise_iff_getElem.1 h.nd
  rcases Nat.lt_trichotomy j o with g|g|g
  ·exact absurd (by rw[List.getElem_map,List.getElem_map,h3,h2]) (hp j o (by simpa using hj) (by simpa using h1) g)
  ·subst g;rfl
  ·exact absurd (by rw[List.getElem_map,List.getElem_map,h3,h2]) (hp o j (by simpa using h1) (by simpa using hj) g)
 have h4:bnd s s.I[0]+bnd s s.I[o]=0:=by rw[<-h6];exact h5
 refine⟨o,h1,?_,h2,h4⟩
 unfold vu
 rw[ag2 ⟨h.szs,h.nd,h.fm⟩]
 obtain⟨m,hm⟩:∃m,s.I.length=m+1:=⟨s.I.length-1,by omega⟩
 rw[hm]
 exact Zq (agu hI) ho (ag7 _) (agu h1) h4
theorem Gu{n p i:Nat}{b:Int}{s:OSt}{x:ItS}{g:List Int}(hx:s.I[i]? =some x)(hg:x.g=eV n p b):∀(f j:Nat),j+f<=n->B7 g p i f j s true=some (s,true)
 |0,_,_=>rfl
 |f+1,j,h=>by
  unfold B7
  rw[hx]
  simp only[hg,Iu (show j<n by omega)]
  rw[ag1]
  ·exact Gu hx hg f (j+1) (by omega)
  ·rintro⟨h1,h2⟩;rw[ag1 (fun e=>h1 e.symm)]at h2;exact h2 rfl
theorem zw{α β:Type}{f:α->Option β}{g:α->β}:∀{l:List α},(∀x∈l,f x=some (g x))->Lp f l=some (l.map g)
 |[],_=>rfl
 |x::l,h=>by
  unfold Lp
  rw[h x (List.mem_cons_self ..),zw (fun y hy=>h y (List.mem_cons_of_mem _ hy))];rfl
def tnV(p:Nat)(l:List Int):List Int:=l.set p (-(l.getD p 0))
theorem Dw{p:Nat}{l:List Int}(h:p<l.length):tu p l=some (tnV p l):=by
 unfold tu tnV
 rw[agu h]
 simp[List.getD,h]
theorem Bf{n v p:Nat}{b:Int}(hp:p<n):tnV p (eV n v b)=eV n v (if v=p then -b else b):=by
 have h1:=Um (n:=n) (v:=v) (b:=b) hp
 rw[Dw (by rw[Cq];exact hp)]at h1
 exact Option.some.inj h1
abbrev tnI(p:Nat)(y:ItS):ItS:=⟨y.a,tnV p y.g⟩
theorem aa3{s:OSt}(h:JI s){p:Nat}(hp:p<s.n):Ik s p=some {s with U:=s.U.map (tnV p),I:=s.I.map (tnI p)}:=by
 unfold Ik Q9
 rw[ag2 h.szs,zw (f:=tu p) (g:=tnV p) (fun r hr=>Dw (by rw[(h.ok.U r hr).2];exact hp)),zw (f:=V9 (tu p)) (g:=tnI p) (fun y hy=>by
  unfold V9;rw[Dw (by rw[(h.ok.I y hy).2.1];exact hp)];rfl)]
theorem aff{s:OSt}(h:JI s)(hI:0<s.I.length):∃v b,v<s.n/\(b=1\/b=-1)/\s.I[0].g=eV s.n v b/\((b=1/\Gv 0 1000 s=some (s,v))\/(b=-1/\Gv 0 1000 s=some ({s with U:=s.U.map (tnV v),I:=s.I.map (tnI v)},v))):=by
 obtain⟨v,b,hv,hb,hg⟩:=h.it _ (agt hI)
 have h0:b≠0:=by rcases hb with rfl|rfl<;>decide
 refine⟨v,b,hv,hb,hg,?_⟩
 have hx:=agu hI
 have hp:mj s.I[0].g=(v:Int):=by rw[hg];exact Ve hv h0
 have hd:s.I[0].g.getD v 0=b:=by rw[hg,ac6 hv,ag2 rfl]
 have hr:B7 s.I[0].g v 0 s.I[0].g.length 0 s true=some (s,true):=Gu hx hg _ _ (by rw[hg,Cq];omega)
 have key:Gv 0 1000 s=if b<0 then(Ik s v).map (·,v)else some (s,v):=by
  unfold Gv
  rw[hx]
  simp only[hp,Int.toNat_natCast,hd,hr]
  rw[ag1 (fun h=>h.elim (fun h=>by omega) (fun h=>h0 h))]
 rcases hb with rfl|rfl
 ·exact .inl ⟨rfl,by rw[key,ag1 (by decide)]⟩
 ·exact .inr ⟨rfl,by rw[key,ag2 (by decide),aa3 h hv];rfl⟩
theorem An{o v:Nat}{up down:ItS}:∀(L:List ItS) (k:Nat) (t:OSt),(t.I.map (·.g)).Nodup->(∀I w,I.length<=1000->w<=1000000->SzS {t with I:=I,vI:=w})->t.I.length+L.length<=1000->t.vI+L.length<=1000000->
 (∀j (h:j<L.length),¬(k+j=0\/k+j=o)->L[j].g[v]? =some 0)->∃I w,eqF 0 o v up down L k t=some ({t with I:=I,vI:=w},true)/\(I.map (·.g)).Nodup/\(∀y∈I,y∈t.I\/∃j,∃h:j<L.length,¬(k+j=0\/k+j=o)/\y=L[j])/\
  (∀j (h:j<L.length),¬(k+j=0\/k+j=o)->L[j].g∈I.map (·.g))/\(∀g∈t.I.map (·.g),g∈I.map (·.g))/\w<=t.vI+L.length/\I.length<=t.I.length+L.length
 |[],k,t,hn,hz,h1,h2,hc=>⟨t.I,t.vI,rfl,hn,fun y hy=>.inl hy,fun j h=>absurd h (by simp),fun g hg=>hg,by omega,by omega⟩
 |x::L,k,t,hn,hz,h1,h2,hc=>by
  by_cases hk:k=0\/k=o
  ·obtain⟨I,w,e,g1,g2,g3,g4,g5,g6⟩:=An (o:=o) (v:=v) (up:=up) (down:=down) L (k+1) t hn hz (by simp at h1;omega) (by simp at h2;omega) (fun j h hj=>by
    have:=hc (j+1) (by simpa using h) (by rw[show k+(j+1)=k+1+j by omega];exact hj);simpa using this)
   refine⟨I,w,?_,g1,fun y hy=>?_,fun j h hj=>?_,g4,by simp;omega,by simp;omega⟩
   ·unfold eqF;rw[ag2 hk];exact e
   ·rcases g2 y hy with g|⟨j,h,hj,rfl⟩
    ·exact .inl g
    ·exact .inr ⟨j+1,by simpa using h,by rw[show k+(j+1)=k+1+j by omega];exact hj,by simp⟩
   ·cases j with
    |zero=>exact absurd hk hj
    |succ j=>have:=g3 j (by simpa using h) (by rw[show k+1+j=k+(j+1)by omega];exact hj);simpa using this
  ·have h0:x.g[v]? =some 0:=by have:=hc 0 (by simp) hk;simpa using this
   obtain⟨I1,w1,ha,a1,a2,a3,a4,a5,a6,a7⟩:=Hu (s:=t) (x:=x) (hz t.I t.vI (by simp at h1;omega) (by simp at h2;omega)) hn
   obtain⟨I,w,e,g1,g2,g3,g4,g5,g6⟩:=An (o:=o) (v:=v) (up:=up) (down:=down) L (k+1) {t with I:=I1,vI:=w1} a1 hz (by show I1.length+_<=_;simp at h1;omega) (by show w1+_<=_;simp at h2;omega) (fun j h hj=>by
    have:=hc (j+1) (by simpa using h) (by rw[show k+(j+1)=k+1+j by omega];exact hj);simpa using this)
   refine⟨I,w,?_,g1,fun y hy=>?_,fun j h hj=>?_,fun g hg=>g4 g ((a2 g).2 (.inl hg)),?_,?_⟩
   ·unfold eqF;rw[ag1 hk,h0];simp only[if_true,ha];exact e
   ·rcases g2 y hy with g|⟨j,h,hj,rfl⟩
    ·rcases a3 y g with g|g
     ·exact .inl g
     ·exact .inr ⟨0,by simp,hk,by simpa using g⟩
    ·exact .inr ⟨j+1,by simpa using h,by rw[show k+(j+1)=k+1+j by omega];exact hj,by simp⟩
   ·cases j with
    |zero=>exact g4 _ ((a2 _).2 (.inr rfl))
    |succ j=>have:=g3 j (by simpa using h) (by rw[show k+1+j=k+(j+1)by omega];exact hj);simpa using this
   ·have:w<=w1+L.length:=g5
    simp;omega
   ·have:I.length<=I1.length+L.length:=g6
    simp;omega
theorem Gd{b:Int}(h:b=1\/b=-1):b≠0:=by rcases h with rfl|rfl<;>decide
theorem K2{b:Int}{c:Prop}[Decidable c](h:b=1\/b=-1):(if c then -b else b)=1\/(if c then -b else b)=-1:=by
 split
 ·rcases h with rfl|rfl
  ·exact .inr rfl
  ·exact .inl rfl
 ·exact h
theorem JI.flip{s:OSt}(h:JI s){p:Nat}(hp:p<s.n)(h1:OOk {s with U:=s.U.map (tnV p),I:=s.I.map (tnI p)}):JI {s with U:=s.U.map (tnV p),I:=s.I.map (tnI p)} where
 ok:=h1
 nd:=by
  show((s.I.map (tnI p)).map (·.g)).Nodup
  have e:(s.I.map (tnI p)).map (·.g)=(s.I.map (·.g)).map (tnV p):=by rw[List.map_map,List.map_map];rfl
  rw[e]
  unfold List.Nodup
  rw[List.pairwise_map]
  refine List.Pairwise.imp_of_mem ?_ h.nd
  intro a c ha hc h2 he
  obtain⟨y,hy,rfl⟩:=ahj.1 ha
  obtain⟨z,hz,rfl⟩:=ahj.1 hc
  obtain⟨v,b,hv,hb,hg⟩:=h.it y hy
  obtain⟨w,c,hw,hcc,h0⟩:=h.it z hz
  apply h2
  show y.g=z.g
  rw[hg,h0,Bf hp,Bf hp]at he
  obtain⟨rfl,e2⟩:=G8 hv hw (Gd (K2 hb)) he
  rw[hg,h0]
  congr 1
  by_cases g:v=p
  ·rw[ag2 g,ag2 g]at e2;omega
  ·rw[ag1 g,ag1 g]at e2;exact e2
 it:=fun y hy=>by
  obtain⟨z,hz,rfl⟩:=ahj.1 hy
  obtain⟨v,b,hv,hb,hg⟩:=h.it z hz
  exact⟨v,_,hv,K2 (c:=v=p) hb,by show tnV p z.g=_;rw[hg,Bf hp]⟩
 pr:=fun y hy=>by
  obtain⟨z,hz,rfl⟩:=ahj.1 hy
  obtain⟨x,hx,e1,e2⟩:=h.pr z hz
  obtain⟨v,b,hv,hb,hg⟩:=h.it z hz
  refine⟨tnI p x,List.mem_map_of_mem hx,?_,e2⟩
  show tnV p x.g=rq (tnV p z.g)
  rw[e1,hg,m7,Bf hp,Bf hp,m7]
  congr 1
  split<;>rfl
 U:=fun i hi=>by
  have h3:i<s.U.length:=by simpa using hi
  obtain⟨b,hb,hu⟩:=h.U i h3
  refine⟨_,K2 (c:=i=p) hb,?_⟩
  show(s.U.map (tnV p))[i]=_
  rw[List.getElem_map,hu,Bf hp]
 E:=h.E
 sz:=h.sz
 vl:=by show s.vI+(s.I.map (tnI p)).length*_<=_;rw[ag0];exact h.vl
 il:=by show(s.I.map (tnI p)).length<=_;rw[ag0];exact h.il
theorem Ll{I:List ItS}(h0:(I.map (·.g)).Nodup){i j:Nat}(hi:i<I.length)(hj:j<I.length)(e:I[i].g=I[j].g):i=j:=by
 have hp:=List.pairwise_iff_getElem.1 h0
 rcases Nat.lt_trichotomy i j with g|g|g
 ·exact absurd (by rw[List.getElem_map,List.getElem_map];exact e) (hp i j (by simpa using hi) (by simpa using hj) g)
 ·exact g
 ·exact absurd (by rw[List.getElem_map,List.getElem_map];exact e.symm) (hp j i (by simpa using hj) (by simpa using hi) g)
theorem Q1{t:OSt}(h:JI t){v o:Nat}(hv:v<t.n)(h0:0<t.I.length)(ho:o<t.I.length)(g0:t.I[0].g=eV t.n v 1)(g1:t.I[o].g=eV t.n v (-1)):∃I w,eqF 0 o v t.I[0] t.I[o] t.I 0 (Il t v t.I[0])=some ({Il t v t.I[0]with I:=I,vI:=w},true)/\(OOk {Il t v t.I[0]with I:=I,vI:=w}->JI {Il t v t.I[0]with I:=I,vI:=w})/\I.length<t.I.length:=by
 obtain⟨x,L,hL⟩:∃x L,t.I=x::L:=by
  cases hq:t.I with
  |nil=>rw[hq]at h0;exact absurd h0 (by simp)
  |cons x L=>exact⟨x,L,rfl⟩
 have h2:t.I.length=L.length+1:=by rw[hL];rfl
 have hil:=h.il
 have hvl:=h.vl
 have hsq:t.I.length*(t.I.length+1)=L.length*(L.length+1)+2*(L.length+1):=by rw[h2,Nat.mul_add,Nat.add_mul,Nat.mul_add];omega
 have h3:∀j (hj:j<L.length),L[j]=t.I[1+j]'(by omega):=fun j hj=>by simp only[hL,Nat.add_comm 1 j,List.getElem_cons_succ]
 obtain⟨I,w,e,q1,q2,q3,q4,q5,q6⟩:=An (o:=o) (v:=v) (up:=t.I[0]) (down:=t.I[o]) L 1 (Il t v t.I[0]) (by simp) (fun I w hI hw=>h.sz I w hI hw) (by show 0+L.length<=1000;omega) (by show t.vI+1+L.length<=1000000;omega) (fun j hj h1=>by
  rw[h3 j hj]
  obtain⟨u,b,hu,hb,hg⟩:=h.it _ (agt (show 1+j<t.I.length by omega))
  rw[hg,Iu hv,ag1]
  rintro rfl
  rcases hb with rfl|rfl
  ·exact h1 (.inl (Ll h.nd (by omega) h0 (by rw[hg,g0])))
  ·exact h1 (.inr (Ll h.nd (by omega) ho (by rw[hg,g1]))))
 have hI:∀y∈I,∃j,∃hj:j<t.I.length,¬(j=0\/j=o)/\y=t.I[j]:=fun y hy=>by
  rcases q2 y hy with g|⟨j,hj,h1,rfl⟩
  ·exact absurd g (by simp)
  ·exact⟨1+j,by omega,h1,h3 j hj⟩
 refine⟨I,w,?_,fun h6=>⟨h6,q1,fun y hy=>?_,fun y hy=>?_,h.U,h.E,h.sz,?_,?_⟩,?_⟩
 ·have:eqF 0 o v t.I[0] t.I[o] t.I 0 (Il t v t.I[0])=eqF 0 o v t.I[0] t.I[o] L 1 (Il t v t.I[0]):=by
   conv=>lhs;arg 6;rw[hL]
   rw[eqF,ag2 (.inl rfl)]
  rw[this,e]
 ·obtain⟨j,hj,_,rfl⟩:=hI y hy
  exact h.it _ (agt hj)
 ·obtain⟨j,hj,h1,rfl⟩:=hI y hy
  obtain⟨z,hz,e1,e2⟩:=h.pr _ (agt hj)
  obtain⟨m,hm,rfl⟩:=ahe hz
  have h7:¬(m=0\/m=o):=by
   rintro(rfl|rfl)
   ·rw[g0]at e1
    refine h1 (.inr (Ll h.nd hj ho ?_))
    have:rq (eV t.n v 1)=rq (rq t.I[j].g):=by rw[e1]
    obtain⟨u,b,hu,hb,hg⟩:=h.it _ (agt hj)
    rw[hg,m7,m7,m7,Int.neg_neg]at this
    rw[hg,g1,this]
   ·rw[g1]at e1
    refine h1 (.inl (Ll h.nd hj h0 ?_))
    have:rq (eV t.n v (-1))=rq (rq t.I[j].g):=by rw[e1]
    obtain⟨u,b,hu,hb,hg⟩:=h.it _ (agt hj)
    rw[hg,m7,m7,m7,Int.neg_neg,Int.neg_neg]at this
    rw[hg,g0,this]
  obtain⟨q,hq⟩:∃q,m=1+q:=⟨m-1,by omega⟩
  have h4:(t.I[m]).g∈I.map (·.g):=by
   have:=q3 q (by omega) (by rw[<-hq];exact h7)
   rw[h3 q (by omega)]at this
   subst hq;exact this
  obtain⟨z,h5,h8⟩:=ahj.1 h4
  obtain⟨m2,h9,_,rfl⟩:=hI z h5
  have:=Ll h.nd h9 hm h8
  subst this
  exact⟨_,h5,e1,e2⟩
 ·have e1:w<=t.vI+1+L.length:=q5
  have e2:I.length<=0+L.length:=q6
  have e3:I.length*(I.length+1)<=L.length*(L.length+1):=Nat.mul_le_mul (by omega) (by omega)
  show w+I.length*(I.length+1)<=_
  omega
 ·have e2:I.length<=0+L.length:=q6
  show I.length<=900
  omega
 ·have e2:I.length<=0+L.length:=q6
  omega
theorem Q0{s:OSt}(h:JI s)(h0:0<s.I.length):∃o s2,vu s=some (s,((0:Nat):Int),((o:Nat):Int),true,true)/\eqO s 0 o=some (s2,true)/\JI s2/\s2.I.length<s.I.length/\s2.n=s.n:=by
 obtain⟨o,ho,hp,hg,hb⟩:=Zr h h0
 obtain⟨v,b,hv,hb1,h1,hc⟩:=aff h h0
 have h2:s.I[o].g=eV s.n v (-b):=by rw[hg,h1,m7]
 have key:∀t:OSt,JI t->Gv 0 1000 s=some (t,v)->t.n=s.n->∀(h0:0<t.I.length) (ho:o<t.I.length),t.I[0].g=eV t.n v 1->t.I[o].g=eV t.n v (-1)->∃s2,eqO s 0 o=some (s2,true)/\JI s2/\s2.I.length<t.I.length/\s2.n=s.n:=by
  intro t ht hi hn k0 ko e0 e1
  obtain⟨I,w,e,hj,hl⟩:=Q1 ht (by rw[hn];exact hv) k0 ko e0 e1
  have he:eqO s 0 o=some ({Il t v t.I[0]with I:=I,vI:=w},true):=by
   unfold eqO
   rw[hi]
   simp only[agu k0,agu ko]
   rw[ag2 ⟨by rw[hn];exact hv,ht.szs⟩]
   exact e
  exact⟨_,he,hj (Tj h.ok he).1,hl,hn⟩
 rcases hc with⟨rfl,hi⟩|⟨rfl,hi⟩
 ·obtain⟨s2,e1,e2,e3,e4⟩:=key s h hi rfl h0 ho h1 h2
  exact⟨o,s2,hp,e1,e2,e3,e4⟩
 ·have ht:=h.flip hv (uj _ _ hi (uq h.ok)).1.ok
  obtain⟨s2,e1,e2,e3,e4⟩:=key _ ht hi rfl (by simpa using h0) (by simpa using ho)
   (by show((s.I.map (tnI v))[0]'_).g=_;rw[List.getElem_map];show tnV v s.I[0].g=_;rw[h1,Bf hv,ag2 rfl];rfl)
   (by show((s.I.map (tnI v))[o]'_).g=_;rw[List.getElem_map];show tnV v s.I[o].g=_;rw[h2,Bf hv,ag2 rfl];rfl)
  exact⟨o,s2,hp,e1,e2,by have:s2.I.length<(s.I.map (tnI v)).length:=e3;rwa [ag0]at this,e4⟩
theorem W5{s:OSt}(hI:s.I=[]):∀(m k:Nat) (c:Int),I0 s m k 0 c false=some (0,false)
 |0,_,_=>rfl
 |m+1,k,c=>by
  have hp:Vb s k=some (0,false):=by unfold Vb;rw[hI];rfl
  unfold I0
  split
  ·exact W5 hI m (k+1) c
  ·rw[hp]
   simp only
   rw[ag2 Do,ag1 (by simp)]
   exact W5 hI m (k+1) c
theorem Nf:∀(m:Nat) (ys:List Int) (a:Int),B1 a->ys.length<=m->xp (List.replicate m 0) ys a=some a
 |m,[],a,_,_=>by unfold xp;rfl
 |0,y::ys,a,_,h=>absurd h (by simp)
 |m+1,y::ys,a,ha,h=>by
  show xp (0::List.replicate m 0) (y::ys) a=_
  rw[xp,Int.zero_mul,Int.add_zero,ag2 ⟨Do,ha⟩]
  exact Nf m ys a ha (by simpa using h)
theorem Tm:∀(n v:Nat) (b:Int) (ys:List Int),ys.length=n->v<n->(b=1\/b=-1)->BL ys->xp (eV n v b) ys 0=some (b*ys.getD v 0)
 |0,v,b,ys,_,hv,_,_=>absurd hv (by omega)
 |n+1,v,b,[],h,_,_,_=>absurd h (by simp)
 |n+1,0,b,y::ys,h,_,hb,hy=>by
  have hB:B1 (b*y):=by
   have:=hy y (List.mem_cons_self ..)
   rcases hb with rfl|rfl
   ·rw[Int.one_mul];exact this
   ·rw[show(-1:Int)*y=-y by omega];exact Gi this
  show xp (b::List.replicate n 0) (y::ys) 0=_
  rw[xp,Int.zero_add,ag2 ⟨hB,hB⟩]
  rw[Nf n ys _ hB (by simp at h;omega)];rfl
 |n+1,v+1,b,y::ys,h,hv,hb,hy=>by
  show xp (0::eV n v b) (y::ys) 0=_
  rw[xp,Int.zero_mul,Int.add_zero,ag2 ⟨Do,Do⟩]
  exact Tm n v b ys (by simpa using h) (by omega) hb (fun z hz=>hy z (List.mem_cons_of_mem _ hz))
theorem JI.endz{s:OSt}(h:JI s):∃R,EndZ s R:=by
 refine⟨(List.range s.n).map (fun i=>(s.U.getD i []).getD i 0*(yF s).getD i 0),h.E,by have:=h.il;omega,by simp,fun i hi=>?_⟩
 have h0:i<s.n:=by rw[<-h.ok.Ul];exact hi
 obtain⟨b,hb,hu⟩:=h.U i hi
 have e:((List.range s.n).map (fun i=>(s.U.getD i []).getD i 0*(yF s).getD i 0)).getD i 0=(s.U.getD i []).getD i 0*(yF s).getD i 0:=by simp[List.getD,h0]
 have e2:s.U.getD i []=s.U[i]:=by simp[List.getD,hi]
 rw[e,e2,hu,ac6 h0,ag2 rfl]
 exact Tm s.n i b (yF s) (A8 s) h0 hb (Yd h.ok)
theorem Kn:∀(f:Nat) {s:OSt},JI s->s.I.length<f->∃T R,Ko f s=some T/\EndZ T R/\T.n=s.n
 |0,s,_,h=>absurd h (by omega)
 |f+1,s,hj,h=>by
  by_cases h0:0<s.I.length
  ·obtain⟨o,s2,e1,e2,e3,e4,e5⟩:=Q0 hj h0
   obtain⟨T,R,q1,q2,q3⟩:=Kn f e3 (by omega)
   refine⟨T,R,?_,q2,q3.trans e5⟩
   unfold Ko
   rw[e1]
   simp only[Int.toNat_natCast,e2]
   exact q1
  ·have hI:s.I=[]:=ahm (by omega)
   obtain⟨R,hR⟩:=hj.endz
   refine⟨s,R,?_,hR,rfl⟩
   unfold Ko
   rw[Zt hj hI]
   have:ac9 s=some (0,false):=W5 hI _ _ _
   simp only[this]
structure PKs(n:Nat)(cV:Nat->Int)(K:List IqS):Prop where
 row:∀q∈K,∃v b,v<n/\(b=1\/b=-1)/\q.cs=eV n v b/\b*cV v<=q.b
 eq:∀q∈K,∀v b,v<n->(b=1\/b=-1)->q.cs=eV n v b->∀c,(c=1\/c=-1)->∃z∈K,z.cs=eV n v c/\z.b=c*cV v
theorem Ut{n:Nat}{cV:Nat->Int}{K:List IqS}(h1:1<=n)(h2:n<=1000)(hl:K.length<=900)(hK:∀q∈K,BQ q/\q.cs.length=n)(h:PKs n cV K):∃T R,X4 n K=some T/\EndZ T R/\R.length=n:=by
 have hh:=S3 h1 h2 hK
 have hz:∀I w,I.length<=100000->w<=1000000->SzS {nuS n K with I:=I,vI:=w}:=fun I w hI hw=>⟨by show K.length<=_;omega,ag6 _,ag6 _,ag6 _,by show I.length<=_;omega,hw,ag6 _,ag6 _⟩
 obtain⟨I,w,hb,hg,hI,hw⟩:=Hq (n:=n) (K:=K) (fun q hq=>by
  obtain⟨v,b,e1,e2,e3,_⟩:=h.row q hq
  exact⟨v,b,e1,e2,e3⟩) K.length 0 (nuS n K) rfl (by omega) (fun I w hI hw=>hz I w (by omega) (by omega)) (ag6 _) (ag6 _) ⟨by simp,fun g=>by
   constructor
   ·intro hg;exact absurd hg (by simp)
   ·rintro⟨i,_,hi,_⟩;exact absurd hi (ag7 _),fun y hy=>absurd hy (by simp),fun y hy=>absurd hy (by simp)⟩
 have h5:∀y∈I,∀v b,v<n->(b=1\/b=-1)->y.g=eV n v b->bnd {nuS n K with I:=I,vI:=w} y=b*cV v:=by
  intro y hy v b hv h4 he
  obtain⟨i,hi,_,rfl⟩:=hg.row y hy
  have h6:bnd {nuS n K with I:=I,vI:=w} ⟨(i:Int),K[i].cs⟩=K[i].b:=Ho (s:={nuS n K with I:=I,vI:=w}) rfl hi
  obtain⟨u,c,hu,hc,h7,hle⟩:=h.row _ (agt hi)
  obtain⟨rfl,rfl⟩:=G8 hv hu (Gd h4) (he.symm.trans h7)
  obtain⟨z,hz,h0,h8⟩:=h.eq _ (agt hi) v b hu h4 h7 b h4
  obtain⟨j,hj,rfl⟩:=ahe hz
  have h3:bnd {nuS n K with I:=I,vI:=w} ⟨(i:Int),K[i].cs⟩<=K[j].b:=hg.le _ hy j hj hj (by rw[h0];exact he.symm)
  rw[h8,h6]at h3
  rw[h6];omega
 have hj:JI {nuS n K with I:=I,vI:=w}:=by
  refine⟨E9 _ _ _ hh hb,hg.nd,fun y hy=>?_,fun y hy=>?_,fun i hi=>?_,rfl,fun I w hI hw=>hz I w (by omega) hw,?_,by show I.length<=_;omega⟩
  ·obtain⟨i,hi,_,rfl⟩:=hg.row y hy
   obtain⟨v,b,e1,e2,e3,_⟩:=h.row _ (agt hi)
   exact⟨v,b,e1,e2,e3⟩
  ·obtain⟨i,hi,_,e0⟩:=hg.row y hy
   obtain⟨v,b,e1,e2,e3,_⟩:=h.row _ (agt hi)
   have h9:y.g=eV n v b:=by rw[e0];exact e3
   have ha:-b=1\/-b=-1:=by rcases e2 with rfl|rfl;exact .inr rfl;exact .inl rfl
   obtain⟨z,hz,h0,h8⟩:=h.eq _ (agt hi) v b e1 e2 e3 (-b) ha
   obtain⟨j,hj,rfl⟩:=ahe hz
   obtain⟨x,hd,hf⟩:=ahj.1 ((hg.mem K[j].cs).2 ⟨j,hj,hj,rfl⟩)
   refine⟨x,hd,by rw[hf,h0,h9,m7],?_⟩
   rw[h5 y hy v b e1 e2 h9,h5 x hd v (-b) e1 ha (by rw[hf,h0]),Int.neg_mul];omega
  ·refine⟨1,.inl rfl,?_⟩
   show((List.range n).map (Jy n))[i]=_
   simp[eV]
  ·have:I.length*(I.length+1)<=900*901:=Nat.mul_le_mul (by omega) (by omega)
   show w+I.length*(I.length+1)<=_
   omega
 obtain⟨T,R,e1,e2,e3⟩:=Kn 1000 hj (by show I.length<_;omega)
 refine⟨T,R,?_,e2,e2.l.trans e3⟩
 unfold X4
 have hb':adb (nuS n K)=some ({nuS n K with I:=I,vI:=w},true):=hb
 rw[hb']
 exact e1
theorem Pg{n:Nat}{q:IqS}:∀{l:List PCon},q∈xx n l↔∃c∈l,q∈ofC n c
 |[]=>by simp[xx]
 |c::l=>by rw[xx,agz,Pg (l:=l)];simp
theorem cf_1{n v:Nat}{b:Int}:cfR n [⟨(v:Int),b⟩]=eV n v b:=rfl
structure PkC(n:Nat)(cV:Nat->Int)(l:List PCon):Prop where
 one:∀c∈l,∃v b,v<n/\(b=1\/b=-1)/\c.l.cs=[⟨((v:Nat):Int),b⟩]/\b*cV v<=-c.l.k/\(c.eq=true->b*cV v=-c.l.k)
 has:∀c∈l,∀(v:Nat) b,c.l.cs=[⟨(v:Int),b⟩]->∃e∈l,e.eq=true/\∃a,(a=1\/a=-1)/\e.l.cs=[⟨(v:Int),a⟩]
theorem PkC.sys{n:Nat}{cV:Nat->Int}{l:List PCon}(h:PkC n cV l):PKs n cV (xx n l):=by
 have key:∀q∈xx n l,∃c∈l,∃v b,v<n/\(b=1\/b=-1)/\c.l.cs=[⟨((v:Nat):Int),b⟩]/\(b*cV v<=-c.l.k/\(c.eq=true->b*cV v=-c.l.k))/\(q=⟨eV n v b,-c.l.k⟩\/(c.eq=true/\q=⟨eV n v (-b),c.l.k⟩)):=by
  intro q hq
  obtain⟨c,hc,h0⟩:=Pg.1 hq
  obtain⟨v,b,e1,e2,e3,e4⟩:=h.one c hc
  refine⟨c,hc,v,b,e1,e2,e3,e4,?_⟩
  unfold ofC at h0
  rw[e3,cf_1,m7]at h0
  split at h0
  ·next he=>
   rcases ahk.1 h0 with g|g
   ·exact .inl g
   ·exact .inr ⟨he,agy.1 g⟩
  ·exact .inl (agy.1 h0)
 refine⟨fun q hq=>?_,fun q hq v b hv hb h2 a ha=>?_⟩
 ·obtain⟨c,hc,v,b,e1,e2,e3,⟨e4,e5⟩,rfl|⟨he,rfl⟩⟩:=key q hq
  ·exact⟨v,b,e1,e2,rfl,e4⟩
  ·refine⟨v,-b,e1,?_,rfl,?_⟩
   ·rcases e2 with rfl|rfl
    ·exact .inr rfl
    ·exact .inl rfl
   ·have:=e5 he
    show -b*cV v<=c.l.k
    rw[Int.neg_mul];omega
 ·obtain⟨c,hc,u,d,e1,e2,e3,_,h5⟩:=key q hq
  have h6:u=v:=by
   rcases h5 with rfl|⟨_,rfl⟩
   ·exact(G8 hv e1 (Gd hb) h2.symm).1.symm
   ·exact(G8 hv e1 (Gd hb) h2.symm).1.symm
  subst h6
  obtain⟨e,he,h3,x,hx,h4⟩:=h.has c hc u d e3
  obtain⟨u2,x2,f1,f2,f3,_,f5⟩:=h.one e he
  rw[h4]at f3
  have f4:x2=x/\u2=u:=by
   injection f3 with f3 _
   injection f3 with f3 f6
   exact⟨f6.symm,by omega⟩
  obtain⟨rfl,rfl⟩:=f4
  have f5:=f5 h3
  have h1:∀q,q∈ofC n e->q∈xx n l:=fun q hq=>Pg.2 ⟨e,he,hq⟩
  have ho:ofC n e=[⟨eV n u2 x2,-e.l.k⟩,⟨eV n u2 (-x2),e.l.k⟩]:=by
   unfold ofC;rw[ag2 h3,h4,cf_1,m7]
  by_cases g:a=x2
  ·subst g
   exact⟨_,h1 _ (by rw[ho];exact List.mem_cons_self ..),rfl,f5.symm⟩
  ·refine⟨_,h1 _ (by rw[ho];exact List.mem_cons_of_mem _ (agy.2 rfl)),?_,?_⟩
   ·show eV n u2 (-x2)=eV n u2 a
    congr 1;rcases ha with rfl|rfl<;>rcases f2 with rfl|rfl<;>simp at g ⊢
   ·show e.l.k=a*cV u2
    have:a=-x2:=by rcases ha with rfl|rfl<;>rcases f2 with rfl|rfl<;>simp at g ⊢
    rw[this,Int.neg_mul];omega
def WkT(a b:AV):Prop:=∀(T:Nat->Prop) (w:World) (x:Value),TR T w a x->TR T w b x
def WkR:List AV->List AV->Prop
 |[],[]=>True
 |a::r,b::s=>WkT a b/\WkR r s
 |_,_=>False
theorem WkR.len:∀{cs ds:List AV},WkR cs ds->cs.length=ds.length
 |[],[],_=>rfl
 |[],_::_,h=>h.elim
 |_::_,[],h=>h.elim
 |_::r,_::s,h=>by simp[WkR.len h.2]
theorem WkR.get:∀{cs ds:List AV},WkR cs ds->∀i (h:i<cs.length) (h':i<ds.length),WkT cs[i] ds[i]
 |[],[],_,i,h,_=>absurd h (by simp)
 |[],_::_,h,_,_,_=>h.elim
 |_::_,[],h,_,_,_=>h.elim
 |_::r,_::s,h,0,_,_=>h.1
 |_::r,_::s,h,i+1,g,g'=>h.2.get i (by simpa using g) (by simpa using g')
theorem WkT.refl(a:AV):WkT a a:=fun _ _ _ h=>h
theorem Of{P:Program}{f:FuncId}{args args':List AV}{ret:AV}(hw:WkR args args')(h:eu P f args' ret):eu P f args ret:=fun T w vals ht hT=>
 h T w vals ⟨by have:=ht.1;have:=hw.len;omega,fun i g g'=>hw.get i (by have:=hw.len;omega) g T w _ (ht.2 i (by have:=hw.len;omega) g')⟩ hT
theorem WkT.agg{cs ds:List AV}(h:WkR cs ds):WkT (.agg cs) (.agg ds):=fun T w x hx=>by
 cases hx with
 |agg h1 h2=>exact .agg (by rw[<-h.len];exact h1) fun i g g'=>h.get i (by rw[h.len];exact g) g T w _ (h2 i (by rw[h.len];exact g) g')
theorem WkT.nil{n:Nat}:WkT (.v (.slice none 0 0)) (.tree n []):=fun T w x hx=>by
 rw[hx.v_inv];exact .tree0 (by unfold maxLen;omega)
def X8:AV->Option Int
 |.agg [.v (.bool ng),.tree 1 rows]=>match rows with
  |[]=>match ng with
   |false=>some 0
   |true=>none
  |[[.v (.int .u32 (.ofNat (m+1)))]]=>bif Nat.ble (m+1) 4294967295 then some (match ng with
   |false=>.ofNat (m+1)
   |true=>.negSucc m)else none
  |_=>none
 |.agg [.v (.bool false),.v (.slice none 0 0)]=>some 0
 |_=>none
theorem bI_p{m:Nat}:bI (.ofNat (m+1))=[.v (.bool false),.tree 1 [[.v (.int .u32 (.ofNat (m+1)))]]]:=by
 have h1:aZ (.ofNat (m+1))=.ofNat (m+1):=by unfold aZ;rw[ag1 (by have:=Int.natCast_nonneg (m+1);show¬((m+1:Nat):Int)<0;omega)]
 have h2:decide ((Int.ofNat (m+1))<0)=false:=decide_eq_false (by show¬((m+1:Nat):Int)<0;omega)
 show bgA (bgI _)=_
 unfold bgI bgS
 rw[h1,h2,ag1 (by show¬((m+1:Nat):Int)=0;omega)];rfl
theorem bI_n{m:Nat}:bI (.negSucc m)=[.v (.bool true),.tree 1 [[.v (.int .u32 (.ofNat (m+1)))]]]:=by
 have h1:aZ (.negSucc m)=.ofNat (m+1):=by unfold aZ;rw[ag2 (by omega)];rfl
 have h2:decide ((Int.negSucc m)<0)=true:=decide_eq_true (by omega)
 show bgA (bgI _)=_
 unfold bgI bgS
 rw[h1,h2,ag1 (by show¬((m+1:Nat):Int)=0;omega)];rfl
theorem Aq{a:AV}{x:Int}(h:X8 a=some x):B1 x/\WkT a (.agg (bI x)):=by
 unfold X8 at h
 split at h
 ·split at h
  ·split at h
   ·cases h;exact⟨by decide,WkT.refl _⟩
   cases h
  ·next m=>
   cases hb:Nat.ble (m+1) 4294967295 with
   |false=>rw[hb]at h;cases h
   |true=>
    have hb:=aha hb
    rw[show(Nat.ble (m+1) 4294967295)=true from Nat.ble_eq_true_of_le hb,cond_true]at h
    split at h
    ·cases h;rw[bI_p];exact⟨by show -4294967295<=((m+1:Nat):Int)/\((m+1:Nat):Int)<=_;omega,WkT.refl _⟩
    ·cases h;rw[bI_n];exact⟨⟨by omega,by omega⟩,WkT.refl _⟩
  cases h
 ·cases h;exact⟨by decide,WkT.agg ⟨WkT.refl _,WkT.nil,trivial⟩⟩
 cases h
noncomputable def ac5(x:Int)(k:List AV->Option AV):Option AV:=match x with
 |.ofNat n=>yk n fun n=>match n with
  |0=>k [.v (.bool false),.tree 1 []]
  |m+1=>k [.v (.bool false),.tree 1 [[.v (.int .u32 (.ofNat (m+1)))]]]
 |.negSucc m=>yk (m+1) fun d=>k [.v (.bool true),.tree 1 [[.v (.int .u32 (.ofNat d))]]]
theorem Wy(x:Int)(k:List AV->Option AV):ac5 x k=k (bI x):=by
 cases x with
 |ofNat n=>
  unfold ac5;simp only[n6]
  cases n with
  |zero=>rfl
  |succ m=>rw[bI_p]
 |negSucc m=>unfold ac5;simp only[n6];rw[bI_n]
def okZ(x:Int):Bool:=Nat.ble x.natAbs 4294967295
theorem Zy{x:Int}(h:okZ x=true):B1 x:=by have:=aha h;omega
theorem WkR.two{a b c d:AV}(h:WkT a b)(g:WkT c d):WkR [a,c] [b,d]:=⟨h,g,trivial⟩
noncomputable def bin(g:Int->Int->Int):List AV->Option AV
 |[a,b]=>match X8 a with
  |none=>none
  |some x=>match X8 b with
   |none=>none
   |some y=>bif okZ (g x y)then ac5 (g x y) fun r=>some (.agg r)else none
 |_=>none
noncomputable def agn:fj:=fun f ys=>bif Nat.beq f 122 then bin (fun x y=>x+y) ys else bif Nat.beq f 143 then bin (fun x y=>x*y) ys else none
def ariO(f:Nat):Bool:=inN [122,143] f
theorem T0{f:Nat}{g:Int->Int->Int}(h:∀{x y:Int},B1 x->B1 y->B1 (g x y)->PRet Tryz.prog f [.agg (bI x),.agg (bI y)] (fun q=>q=.agg (bI (g x y)))){ys:List AV}{ret:AV}(hr:bin g ys=some ret):eu Tryz.prog f ys ret:=by
 unfold bin at hr
 split at hr
 ·next a b=>
  cases ea:X8 a with
  |none=>rw[ea]at hr;cases hr
  |some x=>
   rw[ea]at hr;simp only at hr
   cases eb:X8 b with
   |none=>rw[eb]at hr;cases hr
   |some y=>
    rw[eb]at hr;simp only at hr
    cases ho:okZ (g x y)with
    |false=>rw[ho]at hr;cases hr
    |true=>
     rw[ho,cond_true,Wy]at hr;cases hr
     exact Of (.two (Aq ea).2 (Aq eb).2) (PRet.eq (h (Aq ea).1 (Aq eb).1 (Zy ho)))
 cases hr
theorem beqN{f n:Nat}{α:Type}{a b:α}{P:α->Prop}(h1:f=n->P a)(h2:P b):P (bif Nat.beq f n then a else b):=by
 cases h:Nat.beq f n with
 |true=>exact h1 (agv h)
 |false=>exact h2
theorem Xk(f:Nat)(ys:List AV)(ret:AV):agn f ys=some ret->eu Tryz.prog f ys ret:=by
 unfold agn
 refine beqN (P:=fun z=>z=some ret->eu Tryz.prog f ys ret) (fun e h=>by subst e;exact T0 ww h) (beqN (P:=fun z=>z=some ret->eu Tryz.prog f ys ret) (fun e h=>by subst e;exact T0 wa h) ?_)
 intro h;cases h
end Go.Proofs.YtmbmbhkemgmhfaaGreatDoor
