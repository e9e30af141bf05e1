/- Texts of the claim. -/
import Derived.Lib.SlicesCompact
import Derived.Shelf.SlicesE.Clone
import Derived.Deep.Slices
import Derived.Deep.Fields
import Derived.ChangeSame
import Derived.ChangeArms
import Derived.SizedLaws
import Derived.OpenShut
import Derived.Test.YtfpfdfhlljjckaaGreatDoorF1
import Derived.Test.YtfpfdfhlljjckaaGreatDoorF2
import Derived.Test.YtfpfdfhlljjckaaGreatDoorQ2
set_option linter.defProp false
namespace Go.Proofs.YtfpfdfhlljjckaaGreatDoor
open Tryz
set_option maxRecDepth 1000000
set_option maxHeartbeats 0
set_option linter.unusedVariables false
set_option linter.unusedSimpArgs false
open Go.RowKit
variable{af:Array Edge}{b:Bool}{x:GSta}{a n tb v:Int}{R:Int->GVal}{e:List AV}{S s:List GTab}{r w:List GVal}{L l:List Int}{cs:List Value}{i j k m q:Nat}{τ:Nat->AV}{T:Nat->Prop}{y:Operand}{g:Option (Nat×Bool)}{d:Option Tmp}{P:Program}{pos:String}{α:Type}{t ty:TypeId}
def orI:List Int->Int
 |[]=>0
 |a::l=>if a=0 then orI l else a
theorem adl:∀{l:List Int} {k:Nat} (h:k<l.length),(∀j (hl:j<l.length),j<k->l[j]=0)->¬l[k]=0->l[k]=orI l
 |a::l,0,h,_,hn=>by simp only[List.getElem_cons_zero]at hn ⊢;rw[orI,a0c hn]
 |a::l,k+1,h,hz,hn=>by have h0:=hz 0 (by simp) (Nat.succ_pos k);simp only[List.getElem_cons_zero]at h0;simp only[List.getElem_cons_succ]at hn ⊢;rw[orI,a0d h0];exact adl (by simpa using h) (fun j hl hj=>by have:=hz (j+1) (by simpa using hl) (by omega);simpa using this) hn
theorem Mn:∀{l:List Int},(∀j (hl:j<l.length),l[j]=0)->0=orI l
 |[],_=>rfl
 |a::l,h=>by have h0:=h 0 (by simp);simp only[List.getElem_cons_zero]at h0;rw[orI,a0d h0];exact Mn fun j hl=>by have:=h (j+1) (by simpa using hl);simpa using this
def na{b:Int}(h:jo a b=0):a=b:=by unfold jo at h;split at h;omega;split at h<;>omega
section
variable{p q:GPart}
abbrev or3(p q:GPart):Int:=orI [jo p.c_ q.c_,jo p.o_ q.o_,jo p.by_ q.by_]
def aod(h:¬or3 p q=0):or3 p q=jy p q:=by simp only[or3,orI]at h ⊢;by_cases h1:jo p.c_ q.c_=0;have e1:=na h1;rw[a0d h1]at h ⊢;by_cases h2:jo p.o_ q.o_=0;have e2:=na h2;rw[a0d h2]at h ⊢;by_cases h3:jo p.by_ q.by_=0;rw[a0d h3]at h;exact absurd rfl h;rw[a0c h3];exact ae0 e1 e2 (fun e=>h3 (by rw[e];simp[jo])) rfl;rw[a0c h2];exact Wa e1 (fun e=>h2 (by rw[e];simp[jo])) rfl;rw[a0c h1];exact Ns (fun e=>h1 (by rw[e];simp[jo])) rfl
def adm(h:or3 p q=0):p.c_=q.c_/\p.o_=q.o_/\p.by_=q.by_:=by simp only[or3,orI]at h;by_cases h1:jo p.c_ q.c_=0;rw[a0d h1]at h;by_cases h2:jo p.o_ q.o_=0;rw[a0d h2]at h;by_cases h3:jo p.by_ q.by_=0;exact⟨na h1,na h2,na h3⟩;rw[a0c h3]at h;exact absurd h h3;rw[a0c h2]at h;exact absurd h h2;rw[a0c h1]at h;exact absurd h h1
def Ju(hp:PK p)(hq:PK q)(h:(¬or3 p q=0)\/p.of_.length=0\/q.of_.length=0):or3 p q=jy p q:=by by_cases h0:or3 p q=0;obtain⟨e1,e2,e3⟩:=adm h0;obtain⟨f1,f2⟩:=Wb hp hq e1 e2 e3 (h.resolve_left (fun h=>h h0));rw[h0,Kr e1 e2 e3,f1,f2];simp[Pz,lx];exact aod h0
def aoc(h:or3 p q=0)(hl:0<p.of_.length)(hm:0<q.of_.length):lx (cdT p.of_[0]) (cdT q.of_[0])=jy p q:=by obtain⟨e1,e2,e3⟩:=adm h;exact aez e1 e2 e3 hl hm rfl
end
section
variable{x y:GTm}{k:Nat}
def aoe{b:Int}(h:¬orI [a,b]=0):(a≠0/\orI [a,b]=a)\/(a=0/\b≠0/\orI [a,b]=b):=by grind[orI]
def aof{b:Int}(h:orI [a,b]=0):a=0/\b=0:=by grind[orI]
def Zl(hx:FitTm x)(hy:FitTm y)(h:CmI x y k)(h1:k<x.a_.length)(h2:k<y.a_.length)(hn:¬orI [jy x.a_[k] y.a_[k],jo x.a_[k].k_ y.a_[k].k_]=0):orI [jy x.a_[k] y.a_[k],jo x.a_[k].k_ y.a_[k].k_]=lx (cdT (tmA x)) (cdT (tmA y)):=by rcases aoe hn with⟨g,e⟩|⟨g,g2,e⟩;rw[e];exact Wh hx hy h h1 h2 g;rw[e];exact Wl hx hy h h1 h2 g (fun e=>g2 (by rw[e];simp[jo])) rfl
def Zm(hx:FitTm x)(hy:FitTm y)(h:CmI x y k)(h1:k<x.a_.length)(h2:k<y.a_.length)(hn:orI [jy x.a_[k] y.a_[k],jo x.a_[k].k_ y.a_[k].k_]=0):CmI x y (k+1):=by obtain⟨g1,g2⟩:=aof hn;exact Wi hx hy h h1 h2 g1 (na g2)
def ahx(hx:FitTm x)(hy:FitTm y)(h:CmI x y k)(h1:k<=x.a_.length)(h2:k<=y.a_.length)(h3:k=x.a_.length\/k=y.a_.length):orI [jo (x.a_.length:Nat) (y.a_.length:Nat),jo x.g_ y.g_]=lx (cdT (tmA x)) (cdT (tmA y)):=by simp only[orI];by_cases e:jo (x.a_.length:Nat) (y.a_.length:Nat)=0;have e2:=na e;rw[a0d e];have:=Fc hx hy h h1 h2 h3 (by omega) rfl;rw[<-this];split;rename_i e3;exact e3.symm;rfl;rw[a0c e];exact Wj hx hy h h1 h2 h3 (fun e2=>e (by rw[e2];simp[jo])) rfl
end
structure KM where
 k:Nat
 i:Nat
 j:Nat
 L:List GPart
structure MrgI(x y:GTm)(s:KM):Prop where
 eq:s.L++Cg (x.a_.drop s.i) (y.a_.drop s.j)=Cg x.a_ y.a_
 li:s.i<=x.a_.length
 lj:s.j<=y.a_.length
 kk:s.k<=s.i+s.j
 len:s.L.length<=s.i+s.j
def mrg0(x y:GTm):MrgI x y ⟨0,0,0,[]⟩:=⟨rfl,a0h _,a0h _,a0j _,a0j _⟩
def Eo(l:List GPart):Cg l []=l:=by cases l<;>rw[Cg]
section
variable{x y:GTm}{s:KM}
def mrgA(h:MrgI x y s)(hi:s.i<x.a_.length)(hc:s.j=y.a_.length\/∃hj:s.j<y.a_.length,jy x.a_[s.i] y.a_[s.j]<0):MrgI x y ⟨s.k+1,s.i+1,s.j,s.L++[x.a_[s.i]]⟩:=by
 refine⟨?_,hi,h.lj,by have:=h.kk;show s.k+1<=s.i+1+s.j;omega,by have:=h.len;simp only[az8,List.length_singleton];omega⟩
 show(s.L++[x.a_[s.i]])++Cg (x.a_.drop (s.i+1)) (y.a_.drop s.j)=_
 rw[<-h.eq,a00 hi]
 rcases hc with e|⟨hj,hc⟩
 ·rw[show y.a_.drop s.j=[]from List.drop_of_length_le (by omega),Eo,Eo];simp
 ·rw[a00 hj]
  conv=>rhs;rw[Cg,a0c (by omega),a0d hc]
  simp
def mrgB(h:MrgI x y s)(hj:s.j<y.a_.length)(hc:s.i=x.a_.length\/∃hi:s.i<x.a_.length,jy x.a_[s.i] y.a_[s.j]>0):MrgI x y ⟨s.k+1,s.i,s.j+1,s.L++[y.a_[s.j]]⟩:=by
 refine⟨?_,h.li,hj,by have:=h.kk;show s.k+1<=s.i+(s.j+1);omega,by have:=h.len;simp only[az8,List.length_singleton];omega⟩
 show(s.L++[y.a_[s.j]])++Cg (x.a_.drop s.i) (y.a_.drop (s.j+1))=_
 rw[<-h.eq,a00 hj]
 rcases hc with e|⟨hi,hc⟩
 ·rw[show x.a_.drop s.i=[]from List.drop_of_length_le (by omega)];simp[Cg]
 ·rw[a00 hi]
  conv=>rhs;rw[Cg,a0c (by omega),a0c (by omega)]
  simp
def mrgC(h:MrgI x y s)(hi:s.i<x.a_.length)(hj:s.j<y.a_.length)(hc:jy x.a_[s.i] y.a_[s.j]=0)(hz:¬y.a_[s.j].k_+x.a_[s.i].k_=0):MrgI x y ⟨s.k+1,s.i+1,s.j+1,s.L++[{y.a_[s.j]with k_:=y.a_[s.j].k_+x.a_[s.i].k_}]⟩:=by
 refine⟨?_,hi,hj,by have:=h.kk;show s.k+1<=s.i+1+(s.j+1);omega,by have:=h.len;simp only[az8,List.length_singleton];omega⟩
 show(s.L++[_])++Cg (x.a_.drop (s.i+1)) (y.a_.drop (s.j+1))=_
 rw[<-h.eq,a00 hi,a00 hj]
 conv=>rhs;rw[Cg,a0d hc,a0c hz]
 simp
def mrgD(h:MrgI x y s)(hi:s.i<x.a_.length)(hj:s.j<y.a_.length)(hc:jy x.a_[s.i] y.a_[s.j]=0)(hz:y.a_[s.j].k_+x.a_[s.i].k_=0):MrgI x y ⟨s.k+1,s.i+1,s.j+1,s.L⟩:=by refine⟨?_,hi,hj,by have:=h.kk;show s.k+1<=s.i+1+(s.j+1);omega,by have:=h.len;show s.L.length<=s.i+1+(s.j+1);omega⟩;show s.L++Cg (x.a_.drop (s.i+1)) (y.a_.drop (s.j+1))=_;rw[<-h.eq,a00 hi,a00 hj];conv=>rhs;rw[Cg,a0d hc,a0d hz]
def mrgE(hx:FitTm x)(hy:FitTm y)(h:MrgI x y s)(hi:¬s.i<x.a_.length)(hj:¬s.j<y.a_.length):(⟨x.g_+y.g_,s.L⟩:GTm)=tg x y:=by have e:=h.eq;rw[show x.a_.drop s.i=[]from List.drop_of_length_le (by omega),show y.a_.drop s.j=[]from List.drop_of_length_le (by omega),Eo,List.append_nil]at e;unfold tg;rw[e,Av _ _ _ (a0j _) hx.srt hy.srt hx.a_.2 hy.a_.2]
end
abbrev srt(l:List Int):List Int:=l.mergeSort fun x y=>decide (x<=y)
theorem ic :(srt l).length=l.length:=List.length_mergeSort _
def srtU(l:List Int):List Int:=Lib.compact (srt l)
def Ko{x:Int}(h:x∈Lib.compact l):x∈l:=by unfold Lib.compact Lib.compactUpTo at h;obtain⟨i,hi,rfl⟩:=a0v.1 h;have:=List.mem_range.1 (List.mem_filter.1 hi).1;simp[this]
def Pq(h:l.Pairwise (·<=·)):(Lib.compact l).Pairwise (·<·):=by
 unfold Lib.compact Lib.compactUpTo;rw[List.pairwise_map];refine(List.Pairwise.filter _ List.pairwise_lt_range).imp_of_mem ?_;intro i j hi hj hij;have h0:=List.mem_range.1 (List.mem_filter.1 hj).1
 have h3:=(List.mem_filter.1 hj).2;have h4:i<l.length:=by omega
 unfold Lib.keeps at h3
 have h5:l.toArray[j]! ≠l.toArray[j-1]!:=by
  rcases a0f h3 with h|h;omega;exact h
 have hp:=List.pairwise_iff_getElem.1 h;have e1:l.toArray[i]! =l[i]:=by simp[h4]
 have e2:l.toArray[j]! =l[j]:=by simp[h0]
 have e3:l.toArray[j-1]! =l[j-1]'(by omega):=by simp[show j-1<l.length by omega]
 rw[e2,e3]at h5;rw[e1,e2];have h1:=hp (j-1) j (by omega) h0 (by omega)
 have h2:l[i]<=l[j-1]'(by omega):=by
  by_cases e:i=j-1;subst e;exact Int.le_refl _;exact hp i (j-1) h4 (by omega) (by omega)
 omega
theorem aim{y:Int}:y∈Lib.compact l↔y∈l:=by
 refine⟨Ko,fun hy=>?_⟩
 obtain⟨j,hj,e,h3⟩:∃j,∃hj:j<l.length,l[j]=y/\∀i (hi:i<l.length),i<j->l[i]≠y:=by
  have:∃j,∃hj:j<l.length,l[j]=y:=a0p hy;have hdec:∀n,(∃hj:n<l.length,l[n]=y)\/¬∃hj:n<l.length,l[n]=y:=fun n=>Classical.em _
  obtain⟨j,hj⟩:=this;induction j using Nat.strongRecOn with
  |_ j ih=>
   by_cases h:∃i,i<j/\∃hi:i<l.length,l[i]=y
   ·obtain⟨i,h1,h2⟩:=h
    exact ih i h1 h2
   ·exact⟨j,hj.1,hj.2,fun i hi h4 e=>h ⟨i,h4,hi,e⟩⟩
 unfold Lib.compact Lib.compactUpTo;refine a0v.2 ⟨j,List.mem_filter.2 ⟨List.mem_range.2 hj,?_⟩,by simp[hj,e]⟩;unfold Lib.keeps;refine decide_eq_true ?_;by_cases h0:j=0;exact .inl h0;right;have:=h3 (j-1) (by omega) (by omega)
 simp[hj,e,show j-1<l.length by omega];exact fun e=>this e.symm
def am4 :(srt l).Pairwise (·<=·):=by grind[List.pairwise_mergeSort]
def Xr{m:List Int}(hl:l.Pairwise (·<·))(hm:m.Pairwise (·<·))(h:∀y,y∈l↔y∈m):l=m:=by have hp:l.Perm m:=(List.perm_ext_iff_of_nodup (hl.imp fun h=>by omega) (hm.imp fun h=>by omega)).2 h;exact List.Perm.eq_of_pairwise (le:=fun a b=>a<b) (fun a b _ _ h1 h2=>by omega) hl hm hp
theorem rc :(srtU l).Pairwise (·<·):=Pq am4
theorem lh{y:Int}:y∈srtU l↔y∈l:=aim.trans (List.mergeSort_perm _ _).mem_iff
theorem Ry(h:l.Pairwise (·<·)):srtU l=l:=Xr rc h fun y=>lh
structure GAt where
 c_:Int
 o_:Int
 v_:Int
 q_:GTm
 w_:PTest
abbrev atA(x:GAt):List AV:=[.v (.int .i64 x.c_),.v (.int .i64 x.o_),.v (.int .i64 x.v_),.v (.int .i64 x.q_.g_),.tree 5 (x.q_.a_.map ptA),.v (.int .i64 x.w_.v),.v (.int .i64 x.w_.kd),.v (.bool x.w_.ng),.v (.string x.w_.s)]
structure GFm where
 c_:Int
 e_:GAt
 b_:List (List AV)
abbrev fmA(x:GFm):List AV:=[.v (.int .i64 x.c_),.v (.int .i64 x.e_.c_),.v (.int .i64 x.e_.o_),.v (.int .i64 x.e_.v_),.v (.int .i64 x.e_.q_.g_),.tree 5 (x.e_.q_.a_.map ptA),.v (.int .i64 x.e_.w_.v),.v (.int .i64 x.e_.w_.kd),.v (.bool x.e_.w_.ng),.v (.string x.e_.w_.s),.tree 11 (x.b_.map rwA)]
structure FitAt(x:GAt):Prop where
 q_:FitTm x.q_
 w_:j3 x.w_.s
inductive IsFm:List AV->Prop
 |mk (x:GFm) (h0:x.b_.length<=140737488355328) (ha:FitAt x.e_) (h:∀r∈x.b_,IsFm r):IsFm (fmA x)
structure FitFm(x:GFm):Prop where
 e_:FitAt x.e_
 b_:bn x.b_ (fun y=>IsFm y)
def B9{x:GFm}(h:FitFm x):IsFm (fmA x):=.mk x h.b_.1 h.e_ h.b_.2
theorem IsFm.ind{M:List AV->Prop}(H:∀x,FitFm x->(∀r∈x.b_,M r)->M (fmA x)){r:List AV}(h:IsFm r):M r:=by
 induction h with
 |mk x h0 ha h ih=>exact H x ⟨ha,h0,h⟩ ih
theorem IsFm.open_{r:List AV}(h:IsFm r):∃x,r=fmA x/\FitFm x:=by
 cases h with
 |mk x h0 ha h=>exact⟨x,rfl,ha,h0,h⟩
theorem aef{r:List AV}(h:IsFm r):i6 0 11 (rwA r)=some r:=by
 cases h with
 |mk x h0 ha h=>rfl
theorem aeg{r:List AV}(h:IsFm r):cj r=true:=by
 cases h with
 |mk x h0 ha h=>rfl
def zTe:PTest:=⟨0,0,false,⟨#[]⟩⟩
def zAt:GAt:=⟨0,0,0,zT,zTe⟩
def ub:FitAt zAt:=⟨dc,by decide⟩
def cnF(b:Bool):GFm:=⟨if b=true then 0 else 1,zAt,[]⟩
def atF(a:GAt):GFm:=⟨2,a,[]⟩
def vAt(k v:Int):GAt:=⟨k,v,0,zT,zTe⟩
def fo :FitFm (cnF b):=⟨ub,a0h _,by simp[cnF]⟩
theorem mi{a:GAt}(h:FitAt a):FitFm (atF a):=⟨h,a0h _,by simp[atF]⟩
theorem q9{k:Int}:FitAt (vAt k v):=⟨dc,ub.w_⟩
def lsF(k:Int):List (List AV)->List AV
 |[r]=>r
 |l=>fmA ⟨k,zAt,l⟩
theorem yb{k:Int}{l:List (List AV)}(h:¬l.length=1):lsF k l=fmA ⟨k,zAt,l⟩:=by
 match l,h with
 |[],_=>rfl
 |[_],h=>exact absurd rfl h
 |_::_::_,_=>rfl
def J6{k:Int}{l:List (List AV)}(h:bn l (fun y=>IsFm y)):IsFm (lsF k l):=by by_cases h1:l.length=1;obtain⟨r,rfl⟩:=a01.1 h1;exact h.2 r (by simp);rw[yb h1];exact B9 ⟨ub,h.1,h.2⟩
def w6(k:Int)(vs:List Int):List (List AV):=vs.map fun v=>fmA (atF (vAt k v))
def pe(m:Int):Bool:=m==0||m==2
def i8(m:Int):Bool:=m==2||m==3
def Iz(m:Int):Int:=if m=0 then 1 else if m=1 then 0 else if m=2 then 3 else 2
def s7(op:Int):Int:=if op=10 then 11 else if op=11 then 10 else if op=12 then 15 else if op=15 then 12 else if op=13 then 14 else 13
def yo(op:Int):Int:=if op=12 then 14 else if op=14 then 12 else if op=13 then 15 else if op=15 then 13 else op
def og(op c:Int):Bool:=if op=10 then c==0 else if op=11 then c !=0 else if op=12 then decide (c<0)else if op=13 then decide (c<=0)else if op=14 then decide (c>0)else decide (c≥0)
def Fy(n:Int):Int:=if n<0 then -1 else if n>0 then 1 else 0
def qt(op:Int)(s:ByteArray):PTest:=if op=10 then⟨0,0,false,s⟩else if op=11 then⟨0,0,true,s⟩else if op=12 then⟨0,2,false,s⟩else if op=13 then⟨0,3,false,s⟩else if op=14 then⟨0,3,true,s⟩else⟨0,2,true,s⟩
def wz(a b:ByteArray):Int:=if fv a b=true then -1 else if fv b a=true then 1 else 0
inductive Pt where
 |kn (b:Bool)
 |pat (a:GAt)
def one1:GTm:=⟨1,[]⟩
def Db(op:Int)(x y:List AV):Option Pt:=
 (ofT x).bind fun a=>(ofT y).bind fun b=>(d6 (scT (-1) b)).bind fun c=>(d6 (tg a c)).bind fun t=>
  if t.a_=[]then some (.kn (og op (Fy t.g_)))else if op=10 then some (.pat ⟨3,0,0,t,zTe⟩)else if op=11 then some (.pat ⟨4,0,0,t,zTe⟩)else
  (if op=14\/op=15 then d6 (scT (-1) t)else some t).bind fun u=>(if op=12\/op=14 then d6 (tg u one1)else some u).bind fun w=>some (.pat ⟨2,0,0,w,zTe⟩)
def o7(op:Int)(x y:GEx):Pt:=
 if x.op_=1/\y.op_=1 then .kn (og op (wz x.j_.l_ y.j_.l_))else if x.op_=1 then .pat ⟨5,y.i_,0,zT,qt (yo op) x.j_.l_⟩else
 if y.op_=1 then .pat ⟨5,x.i_,0,zT,qt op y.j_.l_⟩else if x.i_=y.i_ then .kn (op==10)else .pat ⟨if op=11 then 7 else 6,min x.i_ y.i_,max x.i_ y.i_,zT,zTe⟩
def Hg(x y:GEx)(pos:Bool):Pt:=if x.op_=1 then .kn (rx x.j_.l_ y.j_.l_==pos)else .pat ⟨5,x.i_,0,zT,⟨0,1,!pos,y.j_.l_⟩⟩
def dcE:List AV->GEx
 |[.v (.int _ op),.v (.string a),.v (.string b),.v (.int _ ix),.v (.int _ k),.v (.int _ i),.v (.string s),.tree _ es]=>⟨op,a,b,ix,⟨k,i,s⟩,es⟩
 |_=>⟨0,⟨#[]⟩,⟨#[]⟩,0,⟨0,0,⟨#[]⟩⟩,[]⟩
theorem rz(x:GEx):dcE (exA x)=x:=by simp only[exA,dcE,ip]
mutual
def d5:List AV->List Int
 | [.v (.int _ op),.v _,.v _,.v (.int _ ix),.v _,.v _,.v _,.tree _ es]=>(if op=2 then[ix]else[])++bl es
 |_=>[]
def bl:List (List AV)->List Int
 | []=>[]
 |r :: rs=>d5 r++bl rs
end
theorem dk(x:GEx):d5 (exA x)=(if x.op_=2 then[x.i_]else[])++bl x.b_:=by simp only[exA,d5,ip]
mutual
def ek:List AV->List Int
 | [.v _,.tree _ ps]=>S6 ps
 |_=>[]
def S6:List (List AV)->List Int
 | []=>[]
 |r :: rs=>occR r++S6 rs
def occR:List AV->List Int
 | [.v _,.v (.int _ kd),.v (.int _ vr),.v _,.tree _ os]=>if kd=2 then vn os else[vr]
 |_=>[]
def vn:List (List AV)->List Int
 | []=>[]
 |r :: _=>ek r
end
def mo(p:GPart):List Int:=if p.c_=2 then vn p.of_ else[p.o_]
theorem G2:∀l:List GPart,S6 (l.map ptA)=l.flatMap mo
 |[]=>by simp only[List.map_nil,S6,List.flatMap_nil]
 |p::l=>by simp only[a0t,S6,List.flatMap_cons,G2 l,ptA,occR,mo,ip]
theorem dx(x:GTm):ek (tmA x)=x.a_.flatMap mo:=by simp only[tmA,ek,G2]
def jm(a:GAt):List Int:=if a.c_=2\/a.c_=3\/a.c_=4 then srtU (ek (tmA a.q_))else if a.c_=6\/a.c_=7 then srtU [a.o_,a.v_]else[a.o_]
noncomputable section
open Classical
def ptS(l:List PVar)(op:Int)(x y:List AV)(pos:Bool):Option Pt:=
 if op=16 then some (Hg (dcE x) (dcE y) pos)else
 if TextE l x\/TextE l y then some (o7 (if pos=true then op else s7 op) (dcE x) (dcE y))else Db (if pos=true then op else s7 op) x y
def cmF(m:Int)(cs:List Int):Pt->List AV
 |.kn b=>if i8 m=true then(if b=true then fmA (cnF true)else lsF 1 (w6 0 cs))else(if b=true then lsF 0 (w6 1 cs)else fmA (cnF false))
 |.pat a=>if i8 m=true then lsF 1 (w6 0 cs++[fmA (atF a)])else lsF 0 (w6 1 (cs.filter fun v=>!(jm a).contains v)++[fmA (atF a)])
def cmS(l:List PVar)(op m:Int):List (List AV)->Option (List AV)
 |[x,y]=>(ptS l op x y (pe m)).map (cmF m (srtU (d5 x++d5 y)))
 |_=>none
mutual
def trS(l:List PVar):List AV->Int->Option (List AV)
 | [.v (.int k0 op),.v t,.v n,.v ix,.v k,.v i,.v s,.tree q es],m=>
  if op=18\/op=19 then(ju l es m).map fun fs=>fmA ⟨if(op==18)=pe m then 0 else 1,zAt,fs⟩
  else if op=20 then(ju l es (Iz m)).bind fun fs=>fs.head?
  else if op=17 then some (if∃r∈es,HasN r then fmA (cnF (pe m))else if pe m=true then lsF 1 (w6 0 (srtU (bl es)))else lsF 0 (w6 1 (srtU (bl es))))
  else if∃r∈es,HasN r then some (fmA (cnF (i8 m)))
  else cmS l op m es
 |_,_=>none
def ju(l:List PVar):List (List AV)->Int->Option (List (List AV))
 | [],_=>some []
 |r :: rs,m=>(trS l r m).bind fun f=>(ju l rs m).map (f :: ·)
end
theorem tj(l:List PVar)(x:GEx)(m:Int):trS l (exA x) m=if x.op_=18\/x.op_=19 then(ju l x.b_ m).map fun fs=>fmA ⟨if(x.op_==18)=pe m then 0 else 1,zAt,fs⟩
 else if x.op_=20 then(ju l x.b_ (Iz m)).bind fun fs=>fs.head?
 else if x.op_=17 then some (if∃r∈x.b_,HasN r then fmA (cnF (pe m))else if pe m=true then lsF 1 (w6 0 (srtU (bl x.b_)))else lsF 0 (w6 1 (srtU (bl x.b_))))
 else if∃r∈x.b_,HasN r then some (fmA (cnF (i8 m)))
 else cmS l x.op_ m x.b_:=by
 simp only[exA,trS,ip]
end
def Oy(a:GVal)(ha:FitVal a)(b:GVal)(hb:FitVal b):PRet prog 102 [.agg (gvA a),.agg (gvA b)] (fun r=>r=vI (F2 a b)):=ovT [] [] func102 rfl rfl (cD (fun h0=>cT (rV rfl rfl (congrArg vI (by unfold F2 fv;(rw[a0d (by simp_all)];done))))) (fun h0=>cB (fun h1=>rV rfl rfl (congrArg vI (by unfold F2 fv;(rw[a0d (by simp_all)];done)))) (fun h1=>cD (fun h2=>cT (rV rfl rfl (congrArg vI (by unfold F2 fv;(rw[a0c (by simp_all),a0d (by simp_all)];done))))) (fun h2=>cB (fun h3=>rV rfl rfl (congrArg vI (by unfold F2 fv;(rw[a0c (by simp_all),a0d (by simp_all)];done)))) (fun h3=>rV rfl rfl (congrArg vI (by unfold F2 fv;(rw[a0c (by simp_all),a0c (by simp_all)];done))))))))
theorem F5:FitVal zV:=⟨a0h _⟩
def Un(n:Int):FitVal (iV n):=⟨a0h _⟩
theorem ahz(op:Int)(l:List GVal):FitVal (opS op l):=by
 cases l with
 |nil=>exact F5
 |cons a t=>
  simp only[opS]
  split
  ·exact F5
  ·split
   ·exact Un _
   ·split
    ·exact Un _
    ·cases t with
     |nil=>exact F5
     |cons b t=>simp only;split;exact F5;exact Un _
def amb(hR:∀i,FitVal (R i))(he:IsEx e):FitVal (vS R e):=by obtain⟨x,rfl,hx⟩:=he.open_;rw[jk];split;exact hx.j_;split;exact hR _;exact ahz _ _
def Zc(hr:bn r (fun y=>FitVal y))(i:Int):FitVal (bj r i):=by grind[bj,zV,List.getD,az4,List.getElem?_eq_none,Nat.le_of_not_lt,F5]
inductive CdR(r:List GVal):List AV->Prop
 |bin (x:GEx) (h:x.op_=18\/x.op_=19) (hl:x.b_.length=2) (ha:∀e∈x.b_,CdR r e):CdR r (exA x)
 |not (x:GEx) (h:x.op_=20) (hl:x.b_.length=1) (ha:∀e∈x.b_,CdR r e):CdR r (exA x)
 |isn (x:GEx) (h:x.op_=17) (hl:x.b_.length=1) (ha:∀e∈x.b_,EvR r e):CdR r (exA x)
 |cmp (x:GEx) (h:10<=x.op_/\x.op_<=16) (hl:x.b_.length=2) (ha:∀e∈x.b_,EvR r e):CdR r (exA x)
theorem akc{x:GEx}(h:CdR r (exA x)):((x.op_=18\/x.op_=19)/\x.b_.length=2/\∀e∈x.b_,CdR r e)\/(x.op_=20/\x.b_.length=1/\∀e∈x.b_,CdR r e)\/(x.op_=17/\x.b_.length=1/\∀e∈x.b_,EvR r e)\/((10<=x.op_/\x.op_<=16)/\x.b_.length=2/\∀e∈x.b_,EvR r e):=by
 generalize e:exA x=q at h
 cases h with
 |bin y h hl ha=>rw[au e];exact .inl ⟨h,hl,ha⟩
 |not y h hl ha=>rw[au e];exact .inr (.inl ⟨h,hl,ha⟩)
 |isn y h hl ha=>rw[au e];exact .inr (.inr (.inl ⟨h,hl,ha⟩))
 |cmp y h hl ha=>rw[au e];exact .inr (.inr (.inr ⟨h,hl,ha⟩))
theorem arw{l:List PVar}(hr:Ym l r)(hl:LOk l)(h:CondE l e):IsEx e->CdR r e:=by
 induction h with
 |bin x h hl' ha _ ih=>intro he;obtain⟨y,e,hy⟩:=he.open_;have:=au e;subst this;exact .bin x h hl' (fun q hq=>ih q hq (hy.b_.2 q hq))
 |not x h hl' ha _ ih=>intro he;obtain⟨y,e,hy⟩:=he.open_;have:=au e;subst this;exact .not x h hl' (fun q hq=>ih q hq (hy.b_.2 q hq))
 |isn x h hl' ha=>intro he;obtain⟨y,e,hy⟩:=he.open_;have:=au e;subst this;exact .isn x h hl' (fun q hq=>aa0 hr hl (ha q hq) (hy.b_.2 q hq))
 |like x a b h ha hb ho _=>
  intro he;obtain⟨y,e,hy⟩:=he.open_;have:=au e;subst this
  refine .cmp x (by omega) (by rw[ha];rfl) (fun q hq=>?_)
  have h2:=hq
  rw[ha]at h2
  rcases a0w.1 h2 with rfl|h2
  ·exact aa0 hr hl ho (hy.b_.2 _ hq)
  ·rw[az9]at h2;subst h2;exact .val b hb.1
 |cmp x a b h ha h0 h1=>
  intro he;obtain⟨y,e,hy⟩:=he.open_;have:=au e;subst this
  refine .cmp x (by omega) (by rw[ha];rfl) (fun q hq=>?_)
  have h2:=hq
  rw[ha]at h2
  rcases a0w.1 h2 with rfl|h2
  ·exact aa0 hr hl h0 (hy.b_.2 _ hq)
  ·rw[az9]at h2;subst h2;exact aa0 hr hl h1 (hy.b_.2 _ hq)
theorem Kk{R:Int->GVal}:∀{l:List (List AV)},(∀e∈l,0<=cS R e/\cS R e<=2)->∀i,0<=(csS R l).getD i 0/\(csS R l).getD i 0<=2
 |[],_,i=>by simp[csS]
 |a::t,h,0=>by simp only[csS];exact h a (by simp)
 |a::t,h,i+1=>by simp only[csS];exact Kk (fun e he=>h e (by simp[he])) i
def S4(b:Bool):0<=ofS b/\ofS b<=2:=by cases b<;>decide
def Nx(he:IsEx e):0<=cS R e/\cS R e<=2:=IsEx.ind (M:=fun e=>0<=cS R e/\cS R e<=2) (fun x hx ih=>by
 have g0:=Kk ih 0
 have g1:=Kk ih 1
 rw[P0]
 split
 ·decide
 split
 ·exact S4 _
 split
 ·unfold two;repeat' split
  all_goals omega
 split
 ·split<;>omega
 unfold I1
 split
 ·decide
 repeat' split
 all_goals exact S4 _) he
section
variable{R:Int->GVal}{x:GEx}
def ayo(h:x.op_=1):2=cS R (exA x):=by rw[P0,a0d h]
def ar0(h:x.op_=17)(hl:x.b_.length=1)(hv:v=if((vS R (x.b_[0]'(by omega))).c_==0)=true then 1 else 0):v=cS R (exA x):=by rw[P0,a0c (by omega),a0d h,acr R (by omega:0<x.b_.length),hv];rfl
theorem ary(h:x.op_=18\/x.op_=19)(hl:x.b_.length=2):cS R (exA x)=two (x.op_-18) (cS R (x.b_[0]'(by omega))) (cS R (x.b_[1]'(by omega))):=by grind[P0,aer]
theorem arz(h:x.op_=20)(hl:x.b_.length=1):cS R (exA x)=if cS R (x.b_[0]'(by omega))=2 then(2:Int)else(1:Int)-cS R (x.b_[0]'(by omega)):=by grind[P0,aer]
theorem akf(h:10<=x.op_/\x.op_<=16)(hl:x.b_.length=2):cS R (exA x)=I1 x.op_ (vS R (x.b_[0]'(by omega))) (vS R (x.b_[1]'(by omega))):=by grind[P0,acr]
end
def ajl{η:bo}{k i:Int}{t:ByteArray}(hx:aev τ y=.agg [vI k,vI i,.v (.string t)]):LOp prog ⟨d,.field 30 y 0,ty,pos,af,g⟩ τ η [] [] (vI k):=
 U9 (u:=0) (r:=⟨[],[],vI k,0⟩) (by unfold Va;rw[show Kf prog 30 0=some (0,3)by kernel_rfl];simp only[hx,Sy,show ff prog 3=some none by kernel_rfl];rfl)
theorem aa9(x:GEx)(hx:FitEx x)(r:List GVal)(hr:bn r (fun y=>FitVal y))(h3:CdR r (exA x))(ih:∀e∈x.b_,CdR r e->PRet prog 49 [.agg (rwA e),.tree 3 (r.map gvA)] (fun q=>q=vI (cS (bj r) e)))(h1:∀s p:ByteArray,j3 s->j3 p->PRet prog 103 [.v (.string s),.v (.string p)] (fun q=>q=vB (rx s p))):PRet prog 49 [.agg (exA x),.tree 3 (r.map gvA)] (fun q=>q=vI (cS (bj r) (exA x))):=by
 have h2:=akc h3;have h0:∀e∈x.b_,FitVal (vS (bj r) e):=fun e he=>amb (Zc hr) (hx.b_.2 e he)
 have M:∀{j} (hj:j<x.b_.length),x.b_[j]∈x.b_:=fun _=>az4 _;have P:∀{j} (hj:j<x.b_.length),cj [.agg (rwA x.b_[j]),.tree 3 (r.map gvA)]=true:=fun h=>by simp[cj,AV.pureB,kj (hx.b_.2 _ (M h))]
 have A:∀{j} (hj:j<x.b_.length),(x.op_=18\/x.op_=19)\/x.op_=20->CdR r x.b_[j]:=fun h g=>by rcases h2 with k|k|k|k<;>first|exact k.2.2 _ (M h)|omega
 have B:∀{j} (hj:j<x.b_.length),¬((x.op_=18\/x.op_=19)\/x.op_=20)->EvR r x.b_[j]:=fun h g=>by rcases h2 with k|k|k|k<;>first|exact k.2.2 _ (M h)|omega
 have C:∀e∈x.b_,_:=fun e he=>Nx (R:=bj r) (hx.b_.2 e he);refine ovT [21,24,33,39,44,67,73,77,83] [] func49 rfl rfl ?_
 repeat' first
  |refine cT ?_|refine cF ?_|refine cE (fun _=>?_) (fun _=>?_)<;>try omega
  |refine⟨rfl,?_⟩|refine⟨by omega,?_⟩
  |refine IdxG.of (j:=0) (by omega) (OpG.lk (co oe rfl (jj (hx.b_.2 _ (M _)))) ?_)
  |refine IdxG.of (j:=1) (by omega) (OpG.lk (co oe rfl (jj (hx.b_.2 _ (M _)))) ?_)
  |refine ArgG.mk (Q0 r hr _ (hx.b_.2 _ (M _)) (B _ (by omega))) (P _) ?_;rintro _ rfl
  |refine ArgG.mk (ih _ (M _) (A _ (by omega))) (P _) ?_;rintro _ rfl
  |refine OpG.lk (ajl rfl) ?_
  |refine OpG.lk (ql rfl rfl (by omega) (by omega)) ?_|refine OpG.lk (ql rfl rfl (by have:=C _ (M (show 0<x.b_.length by omega));omega) (by have:=C _ (M (show 0<x.b_.length by omega));omega)) ?_
  |refine ArgG.mk (aoy _) rfl ?_;rintro _ ⟨_,rfl,ho⟩
  |refine ArgG.mk (Oy _ (h0 _ (M _)) _ (h0 _ (M _))) rfl ?_;rintro _ rfl
  |refine ArgG.mk (h1 _ _ (h0 _ (M _)).l_ (h0 _ (M _)).l_) rfl ?_;rintro _ rfl
 all_goals
  refine rV rfl rfl (congrArg vI (Eq.symm ?_))
  first
   |exact(ayo ‹_›).symm
   |exact(ar0 ‹_› (by omega) ho).symm
   |refine(ary (by omega) (by omega)).trans ?_;unfold two;(repeat' split)<;>omega
   |refine(arz (by omega) (by omega)).trans ?_;(repeat' split)<;>omega
   |refine(akf (by omega) (by omega)).trans ?_;clear A B C P M ih h1 h0;simp_all [I1,ofS]
def Fo{η:bo}{t:Nat}{x i:Operand}{s:ByteArray}(hu:P.underlying t=some .string)(hx:aev τ x=.v (.string s))(hi:aev τ i=vI v)(hv:v=((k:Nat):Int))(hk:k<s.size):
 LOp P ⟨d,.index t x i,ty,pos,af,g⟩ τ η [] [] (.v (.int .u8 (((bAt s k).toNat:Nat):Int))):=by subst hv;exact ym hu hx hi hk
def bB{n:Nat}{F G:Nat->Bool}(h:∀i,i<n->F i=G i):some (Blk.mk 0 (lw n F) 1 false)=some (Blk.mk 0 (lw n G) 1 false):=by rw[Zf h]
section
variable{s p:ByteArray}{c k i:Nat}{prev:Nat->Bool}{v:Bool}
theorem mq(h:c=37):jb s c prev k=(prev k||(decide (0<k)&&jb s c prev (k-1))):=by
 subst h
 cases k with
 |zero=>simp[jb]
 |succ k=>simp[jb]
theorem nj(h:¬c=37):jb s c prev k=(decide (0<k)&&(prev (k-1)&&(c==95||c==(bAt s (k-1)).toNat))):=by
 cases k with
 |zero=>simp[jb,h]
 |succ k=>simp[jb,h]
def xh(hv:v=jb s c prev k):(if i=k then v else(decide (i<k)&&jb s c prev i))=(decide (i<k+1)&&jb s c prev i):=by grind
theorem ib{a b:Nat}:(((a:Nat):Int)==((b:Nat):Int))=(a==b):=by rw[Bool.eq_iff_iff];simp only[beq_iff_eq];omega
def aia{X:Nat->Bool}:false=(decide (i<0)&&X i):=by simp
def ah9(hv:false=jb s c prev k):(decide (i<k)&&jb s c prev i)=(decide (i<k+1)&&jb s c prev i):=by grind
def ao2{n:Nat}(hi:i<n)(hm:n<=m):(decide (i<m)&&jb s (bAt p k).toNat (lk s p k) i)=lk s p (k+1) i:=by rw[decide_eq_true (by omega:i<m),Bool.true_and];rfl
end
def by4:(prog.info? 4).map (·.bytes)=some 1:=by kernel_rfl
def ahd:ff prog 4=some none:=by kernel_rfl
def sz4:am prog 4=some 1:=by kernel_rfl
def zr4:bv prog 4=some (.bool false):=by kernel_rfl
def aab(s:ByteArray)(hs:j3 s)(p:ByteArray)(hp:j3 p):PRet prog 103 [.v (.string s),.v (.string p)] (fun q=>q=vB (rx s p)):=by
 have hs1:s.size<=140737488351232:=hs;have hp1:p.size<=140737488351232:=hp
 refine ovT [12,14,24,39,40,48,49,52,60,61,74,78,83,84,100014,100052,100078] [5] func103 rfl rfl ⟨by omega,OpG.nw (wt (len:=s.size+1) 0 underlying265 sz4 zr4 by4 rfl rfl (by omega) (by omega) (by omega)) rfl ?_⟩;refine OpG.lk (db (i:=0) underlying265 sz4 rfl rfl (by omega) (by omega) rfl) (OpG.wr (fa sz4 rfl rfl rfl (by omega)) rfl ?_);refine LpG.on (fun k0:Nat=>(⟨fL [(0,.v (.string s)),(1,.v (.string p)),(5,.sl 0 0 0 (s.size+1)),(6,vI k0)],hLz [(0,⟨0,lw (s.size+1) (lk s p k0),1,false⟩)],1⟩:St)) (fun k0=>(p.size-k0)) (fun k0=>(k0<=p.size)) 0 (cnS rfl (hpS (bq _) (by rfl) trivial)) (a0h _) ?_;rintro k0 h6;have hgr_k0:p.size<=140737488355328:=a0m hp (by decide)
 have hle_k0:=h6;apply cL<;>intro hlt18
 ·refine⟨by omega,OpG.nw (wt (len:=s.size+1) 1 underlying265 sz4 zr4 by4 rfl rfl (by omega) (by omega) (by omega)) rfl ?_⟩;refine LpG.on (fun k2:Nat=>(⟨fL [(0,.v (.string s)),(1,.v (.string p)),(5,.sl 0 0 0 (s.size+1)),(6,vI k0),(7,.sl 1 0 0 (s.size+1)),(8,vI k2)],hLz [(0,⟨0,lw (s.size+1) (lk s p k0),1,false⟩),(1,⟨0,lw (s.size+1) (fun m=>decide (m<k2)&&jb s (bAt p k0).toNat (lk s p k0) m),1,false⟩)],2⟩:St)) (fun k2=>((s.size+1)-k2)) (fun k2=>(k2<=(s.size+1))) 0 (cnS rfl (hpS (bq _) rfl (.cons (by exact bB (fun i _=>aia)) rfl (bq _) .nil))) (a0h _) ?_;rintro k2 h6;have hle_k2:=h6
  apply cD<;>intro hq28
  ·refine⟨‹_›,cB (fun h7=>?_) (fun h7=>?_)⟩
   ·have h0:(bAt p k0).toNat=37:=by have h:=h7;simp at h;omega
    refine OpG.lk (db (i:=k2) underlying265 sz4 rfl rfl (by omega) (by omega) rfl) (OpG.lk (n9 ahd rfl rfl (by omega)) ?_);apply cB<;>intro h3
    ·refine OpG.lk (db (i:=k2) underlying265 sz4 rfl rfl (by omega) (by omega) rfl) (OpG.wr (fa sz4 rfl rfl rfl (by omega)) rfl ?_);refine⟨by omega,⟨(k2+1),by omega,(cnS rfl (hpS (bq _) rfl (.cons (by(refine bB (fun i _=>xh ?_);first|(rw[mq h0];simp_all;done)|(rw[nj h0];simp_all;done)|(rw[mq (k:=k2) h0,h3,h8,h2];rfl)|(rw[nj h0,h2,h1,h4,ib];rfl)|(rw[nj h0,h2,h1,h4];rfl))) rfl (bq _) .nil))),?_⟩⟩;omega
    apply cB<;>intro h5
    ·have hb:=a0f h5;have ha:0<k2:=by have h:=h5;simp at h;omega
     have h8:decide (k2-1<k2)=true:=decide_eq_true (by omega);have h2:decide (0<k2)=true:=decide_eq_true ha
     refine⟨by omega,OpG.lk (db (i:=k2-1) underlying265 sz4 rfl rfl (by omega) (by omega) rfl) ?_⟩;refine OpG.lk (n9 ahd rfl rfl (by omega)) (OpG.lk (db (i:=k2) underlying265 sz4 rfl rfl (by omega) (by omega) rfl) ?_);refine OpG.wr (fa sz4 rfl rfl rfl (by omega)) rfl ⟨by omega,⟨(k2+1),by omega,(cnS rfl (hpS (bq _) rfl (.cons (by(refine bB (fun i _=>xh ?_);first|(rw[mq h0];simp_all;done)|(rw[nj h0];simp_all;done)|(rw[mq (k:=k2) h0,h3,h8,h2];rfl)|(rw[nj h0,h2,h1,h4,ib];rfl)|(rw[nj h0,h2,h1,h4];rfl))) rfl (bq _) .nil))),?_⟩⟩;omega
    have hb:=a0e h5;have ha:k2=0:=by have h:=h5;simp at h;omega
    refine OpG.lk (db (i:=k2) underlying265 sz4 rfl rfl (by omega) (by omega) rfl) (OpG.wr (fa sz4 rfl rfl rfl (by omega)) rfl ?_);refine⟨by omega,⟨(k2+1),by omega,(cnS rfl (hpS (bq _) rfl (.cons (by(refine bB (fun i _=>xh ?_);first|(rw[mq h0];simp_all;done)|(rw[nj h0];simp_all;done)|(rw[mq (k:=k2) h0,h3,h8,h2];rfl)|(rw[nj h0,h2,h1,h4,ib];rfl)|(rw[nj h0,h2,h1,h4];rfl))) rfl (bq _) .nil))),?_⟩⟩;omega
   have h0:¬(bAt p k0).toNat=37:=by have h:=h7;simp at h;omega
   apply cD<;>intro hq54
   ·have ha:0<k2:=by omega
    have h2:decide (0<k2)=true:=decide_eq_true ha;refine⟨by omega,OpG.lk (db (i:=k2-1) underlying265 sz4 rfl rfl (by omega) (by omega) rfl) ?_⟩;refine OpG.lk (n9 ahd rfl rfl (by omega)) (cB (fun h1=>?_) (fun h1=>?_))
    ·refine⟨‹_›,cB (fun h9=>?_) (fun h9=>?_)⟩
     ·have h4:((bAt p k0).toNat==95)=true:=by have h:=h9;rw[beq_iff_eq]at h ⊢;omega
      refine OpG.lk (db (i:=k2) underlying265 sz4 rfl rfl (by omega) (by omega) rfl) (OpG.wr (fa sz4 rfl rfl rfl (by omega)) rfl ?_);refine⟨by kernel_rfl,⟨by omega,?_⟩⟩;refine⟨(k2+1),by omega,(cnS rfl (hpS (bq _) rfl (.cons (by(refine bB (fun i _=>xh ?_);first|(rw[mq h0];simp_all;done)|(rw[nj h0];simp_all;done)|(rw[mq (k:=k2) h0,h3,h8,h2];rfl)|(rw[nj h0,h2,h1,h4,ib];rfl)|(rw[nj h0,h2,h1,h4];rfl))) rfl (bq _) .nil))),?_⟩;omega
     have h4:((bAt p k0).toNat==95)=false:=by have h:=h9;rw[beq_eq_false_iff_ne]at h ⊢;omega
     refine⟨‹_›,⟨by omega,?_⟩⟩;refine OpG.lk (Fo (k:=k2-1) underlying9 rfl rfl (by omega) (by omega)) (OpG.lk (db (i:=k2) underlying265 sz4 rfl rfl (by omega) (by omega) rfl) ?_);refine OpG.wr (fa sz4 rfl rfl rfl (by omega)) rfl ⟨by kernel_rfl,⟨by omega,?_⟩⟩;refine⟨(k2+1),by omega,(cnS rfl (hpS (bq _) rfl (.cons (by(refine bB (fun i _=>xh ?_);first|(rw[mq h0];simp_all;done)|(rw[nj h0];simp_all;done)|(rw[mq (k:=k2) h0,h3,h8,h2];rfl)|(rw[nj h0,h2,h1,h4,ib];rfl)|(rw[nj h0,h2,h1,h4];rfl))) rfl (bq _) .nil))),?_⟩;omega
    refine OpG.lk (db (i:=k2) underlying265 sz4 rfl rfl (by omega) (by omega) rfl) (OpG.wr (fa sz4 rfl rfl rfl (by omega)) rfl ?_);refine⟨by kernel_rfl,⟨by omega,?_⟩⟩;refine⟨(k2+1),by omega,(cnS rfl (hpS (bq _) rfl (.cons (by(refine bB (fun i _=>xh ?_);first|(rw[mq h0];simp_all;done)|(rw[nj h0];simp_all;done)|(rw[mq (k:=k2) h0,h3,h8,h2];rfl)|(rw[nj h0,h2,h1,h4,ib];rfl)|(rw[nj h0,h2,h1,h4];rfl))) rfl (bq _) .nil))),?_⟩;omega
   have ha:k2=0:=by omega
   refine⟨by omega,⟨(k2+1),by omega,(cnS rfl (hpS (bq _) rfl (.cons (by(refine bB (fun i _=>ah9 ?_);first|(rw[mq h0];simp_all;done)|(rw[nj h0];simp_all;done)|(rw[mq (k:=k2) h0,h3,h8,h2];rfl)|(rw[nj h0,h2,h1,h4,ib];rfl)|(rw[nj h0,h2,h1,h4];rfl))) rfl (bq _) .nil))),?_⟩⟩;omega
  refine RegG.via (fun _ h=>Of 0 1 (fl:=[(0,.v (.string s)),(1,.v (.string p)),(5,.sl 1 0 0 (s.size+1)),(6,vI k0)]) (hl:=[(1,⟨0,lw (s.size+1) (lk s p (k0+1)),1,false⟩)]) (u:=2) (cnS rfl (.cons (bB (fun i hi=>ao2 hi (by omega))) rfl (bq _) .nil)) ⟨rfl,rfl,rfl,rfl,trivial⟩ ⟨An _,trivial⟩ (by decide) (by decide) (by decide) (fl':=[(0,.v (.string s)),(1,.v (.string p)),(5,.sl 0 0 0 (s.size+1)),(6,vI k0)]) (hl':=[(0,⟨0,lw (s.size+1) (lk s p (k0+1)),1,false⟩)]) rfl (by simp only[List.map,Blk.ren,y8];rfl) h) (bh ?_);refine⟨by omega,⟨(k0+1),by omega,(cnS rfl (hpS (bq _) (by rfl) trivial)),?_⟩⟩;omega
 refine OpG.lk (db (i:=s.size) underlying265 sz4 rfl rfl (by omega) (by omega) rfl) (OpG.lk (n9 ahd rfl rfl (by omega)) ?_);refine rV rfl rfl ?_;have e:k0=p.size:=by omega
 subst e;rfl
def Nq(r:List GVal)(hr:bn r (fun y=>FitVal y))(e:List AV)(he:IsEx e):CdR r e->PRet prog 49 [.agg (rwA e),.tree 3 (r.map gvA)] (fun q=>q=vI (cS (bj r) e)):=
 IsEx.ind (M:=fun e=>CdR r e->PRet prog 49 [.agg (rwA e),.tree 3 (r.map gvA)] (fun q=>q=vI (cS (bj r) e))) (fun x hx ih hc=>aa9 x hx r hr hc ih (fun s p hs hp=>aab s hs p hp)) he
def Sa{t:GTab}(h:Dt t r):Ym (ab t) r:=⟨by rw[h.1];simp[ab],fun j hl h2=>by have h3:j<t.d_.length:=(by have:=h.1;omega);have e:(ab t)[j]=zx t.d_[j]:=(by simp[ab]);rw[e];exact U7 (h.2 j hl h3)⟩
def X0(t:GTab)(w:List GVal):Prop:=Dt t w/\∀e∈t.h_,cS (bj w) e≠0
structure TabOk(t:GTab):Prop where
 cl:t.d_.length<=1000
 lk:LOk (ab t)
 ck:∀e∈t.h_,CondE (ab t) e
def Gy(t:GTab)(ht:FitTab t)(w:List GVal)(hw:bn w (fun y=>FitVal y))(h5:TabOk t):PRet prog 20 [.agg (jf t),.tree 3 (w.map gvA)] (fun r=>∃b:Bool,r=vB b/\(b=true↔X0 t w)):=by refine ovT [21] [] func20 rfl rfl (ArgG.mk (wa t ht w hw h5.cl) rfl ?_);rintro _ ⟨e0,rfl,h8⟩;refine cB (fun h2=>by have h9:¬((e0:Int)=(0:Int)):=(by simpa using h2);have h4:¬Dt t w:=fun h=>absurd (h8.2 h) (by simpa using h2);exact rV rfl rfl ⟨_,rfl,fun h=>absurd h a04,fun h=>absurd h.1 h4⟩) (fun h2=>have h9:(e0:Int)=(0:Int):=(by simpa using h2);have h4:=h8.1 (by simpa using h2);LpG.on (fun k0:Nat=>(⟨fL [(1,.tree 3 (w.map gvA)),(2,.ptr 0 0 0),(5,vI k0)],hLz [(0,⟨0,jf t,0,false⟩)],1⟩:St)) (fun k0=>(t.h_.length-k0)) (fun k0=>(k0<=t.h_.length/\∀j (hl:j<t.h_.length),j<k0->cS (bj w) t.h_[j]≠0)) 0 (cnR rfl) ⟨a0h _,fun j _ h=>absurd h (a0i j)⟩ ?_);rintro k0 h6;have hgr_k0:t.h_.length<=140737488355328:=ht.h_.1;obtain⟨hle_k0,h1⟩:=h6;refine LenG.of (cL (fun h3=>?_) (fun hge14=>?_));refine IdxG.of ‹_› (OpG.lk (co oe rfl (jj (ht.h_.2 _ (az4 _)))) (ArgG.mk (Nq w hw t.h_[k0] (ht.h_.2 _ (az4 _)) (arw (Sa h4) h5.lk (h5.ck _ (az4 _)) (ht.h_.2 _ (az4 _)))) (show cj [.agg (rwA t.h_[k0]),.tree 3 (w.map gvA)]=true by simp[cj,AV.pureB,kj (ht.h_.2 _ (az4 _))]) ?_));rintro _ rfl;refine cB (fun h0=>by have h7:((cS (bj w) t.h_[k0]):Int)=(0:Int):=(by simpa using h0);exact rV rfl rfl ⟨_,rfl,fun h=>absurd h a04,fun h=>absurd (by simpa using h0) (h.2 _ (az4 h3))⟩) (fun h0=>have h7:¬(((cS (bj w) t.h_[k0]):Int)=(0:Int)):=(by simpa using h0);⟨by omega,⟨(k0+1),by omega,(cnR rfl),⟨by omega,fun j hl h=>?_⟩⟩⟩);rcases a0k.1 h with h|rfl;exact h1 j hl h;simpa using h0;exact rV rfl rfl ⟨_,rfl,fun _=>⟨h4,fun e he=>by obtain⟨j,hj,rfl⟩:=a0p he;exact h1 j hj (by omega)⟩,fun _=>rfl⟩
def Md:RowF (fun l:List ByteArray=>[AV.tree 1 (l.map sA)]) 1:=⟨fun _=>rfl,fun _=>rfl,fun _ _=>rfl,fun _ _=>rfl,fun _ _=>rfl,fun _=>rfl⟩
def y6:RowF anv 3:=⟨fun _=>rfl,fun _=>rfl,fun _ _=>rfl,fun _ _=>rfl,fun _ _=>rfl,fun _=>rfl⟩
structure ForOk(s:List GTab)(n:Nat)(t:GTab)(f:GFor):Prop where
 cols:∀x∈f.d_,0<=x/\x<t.d_.length
 tab:∃j q:Nat,f.n_=((j:Nat):Int)/\f.K_=((q:Nat):Int)/\j<=n/\∃h:j<s.length,q<s[j].u_.length
structure TabV(s:List GTab)(n:Nat)(t:GTab):Prop where
 keys:∀k∈t.u_,∀x∈k,0<=x/\x<t.d_.length
 fors:∀f∈t.m_,ForOk s n t f
def aly(s:List GTab):Prop:=∀n (h:n<s.length),TabV s n s[n]
structure DefOk(x:GSta):Prop where
 cl:x.f_.d_.length<=20
 kl:x.f_.u_.length<=10
 fl:x.f_.m_.length<=10
 key:∀k∈x.f_.u_,k.length<=20
 fcl:∀f∈x.f_.m_,f.d_.length<=20/\f.x_.length<=20
def qk{P:α->Prop}{l:List α}{a:α}(h:∀q∈l,P q)(ha:P a):∀q∈l++[a],P q:=by grind
structure ForD(s:List GTab)(t:GTab)(f:GFor)(r:GRef):Prop where
 len:r.d_.length=f.d_.length
 nam:Qr t.d_ f.d_ r.d_
 tab:∃j q:Nat,f.n_=((j:Nat):Int)/\f.K_=((q:Nat):Int)/\∃hj:j<s.length,∃hq:q<s[j].u_.length,r.n_=s[j].p_/\r.x_.length=s[j].u_[q].length/\Qr s[j].d_ s[j].u_[q] r.x_
def X9(s:List GTab)(t:GTab)(L:List GRef):Prop:=∀j (h:j<L.length) (h2:j<t.m_.length),ForD s t t.m_[j] L[j]
def X9.snoc{t:GTab}{L:List GRef}{r:GRef}(h:X9 s t L)(e:L.length=k)(hk:k<t.m_.length)(hr:ForD s t t.m_[k] r):X9 s t (L++[r]):=by grind[X9]
structure DefS(s:List GTab)(t:GTab)(x:GSta):Prop where
 name:x.n_=t.p_
 cols:x.f_.d_=t.d_
 keys:x.f_.u_.map List.length=t.u_.map List.length
 fl:x.f_.m_.length=t.m_.length
 fors:X9 s t x.f_.m_
def ays:(prog.info? 207).map (·.bytes)=some 24:=by kernel_rfl
def ayr:(prog.info? 209).map (·.bytes)=some 64:=by kernel_rfl
def awe:ff prog 52=some (some 22):=by kernel_rfl
def avv:am prog 207=some 1:=by kernel_rfl
def avu:am prog 209=some 3:=by kernel_rfl
def Cu:am prog 27=some 5:=by kernel_rfl
def amt:am prog 53=some 1:=by kernel_rfl
def auy:bv prog 207=some (.slice none 0 0):=by kernel_rfl
def auw:bv prog 209=some (.agg #[.slice none 0 0,.string ⟨#[]⟩,.slice none 0 0]):=by kernel_rfl
def H3(s:List GTab)(hs:bn s (fun y=>FitTab y))(n:Nat)(hn:n<s.length)(hv:aly s)(hg:∀t∈s,SmTab t):PRet prog 56 [.tree 5 (s.map jf),vI n] (fun r=>∃x:GSta,r=.agg (Ql x)/\FitSta x/\DefOk x/\DefS s s[n] x):=by have h8:=hs.2 _ (az4 hn);have h5:=hg _ (az4 hn);have hj:=h5.cols;have hm2:=h5.keys;have hm3:=h5.fors;refine ovT [62,78] [8,14] func56 rfl rfl ?_;refine IdxG.of ‹_› ⟨by kernel_rfl,LpG.via (fun _ h=>dg 2 3 1 rfl rfl rfl rfl rfl 4 rfl h) ?_⟩;refine LpG.on (fun k0:KL (List ByteArray)=>(⟨fL [(0,.tree 5 (s.map jf)),(4,.ptr 0 0 0),(5,.ptr 1 0 0),(6,.ptr 2 0 0),(7,vI k0.k)],hLz [(0,⟨0,[vI 0,.v (.string ⟨#[]⟩),.v (.slice none 0 0),.v (.slice none 0 0),.v (.slice none 0 0),.v (.slice none 0 0),.v (.slice none 0 0),.v (.slice none 0 0),.v (.slice none 0 0),.v (.slice none 0 0),vI 0,.v (.string ⟨#[]⟩),.v (.string ⟨#[]⟩),vI 0,vI 0,vI 0,.v (.string ⟨#[]⟩),.v (.slice none 0 0),.v (.slice none 0 0),.v (.slice none 0 0),vI 0,.v (.string ⟨#[]⟩)],0,false⟩),(1,⟨0,jf s[n],0,false⟩),(2,⟨0,[vI 1,.v (.string s[n].p_),.tree 6 (s[n].d_.map yu),.sl 3 k0.L.length 0 k0.L.length,.v (.slice none 0 0),.tree 8 (s[n].h_.map rwA),.v (.slice none 0 0),.v (.slice none 0 0),.v (.slice none 0 0),.v (.slice none 0 0),vI 0,.v (.string ⟨#[]⟩),.v (.string ⟨#[]⟩),vI 0,vI 0,vI 0,.v (.string ⟨#[]⟩),.v (.slice none 0 0),.v (.slice none 0 0),.v (.slice none 0 0),vI 0,.v (.string ⟨#[]⟩)],0,false⟩),(3,⟨k0.L.length,rF (fun l=>[.tree 1 (l.map sA)]) k0.L,1,Nat.beq k0.L.length 0⟩)],4⟩:St)) (fun k0=>(s[n].u_.length-k0.k)) (fun k0=>(k0.k<=s[n].u_.length/\(k0.L.length=k0.k/\(∀y∈k0.L,bn y (fun z=>j3 z)/\y.length<=20)/\k0.L.map List.length=(s[n].u_.take k0.k).map List.length))) (⟨0,[]⟩:KL (List ByteArray)) (cnS rfl (hpR rfl (hpR rfl (hpR (by rfl) (hpS (aa Md _ _) (by rfl) trivial))))) ⟨a0h _,⟨rfl,fun y hy=>absurd hy (by simp),rfl⟩⟩ ?_;rintro k0 h4;have hgr_k0:s[n].u_.length<=140737488355328:=(hs.2 _ (az4 _)).u_.1;obtain⟨hle_k0,h1⟩:=h4;refine LenG.of (cL (fun h3=>?_) (fun hge30=>?_));have hin:=(hv n hn).keys _ (az4 h3);have hkl:=h1.1;have h9:=h5.key _ (az4 h3);refine IdxG.of ‹_› (ArgG.mk (J0 (s[n]) (hs.2 _ (az4 _)) (s[n].u_[k0.k]) ((hs.2 _ (az4 _)).u_.2 _ (az4 _)) ‹_› (by omega)) rfl ?_);rintro _ ⟨L0,rfl,hl,ha,hLn0⟩;refine OpG.mk _ _ _ 5 (ae Md (a:=L0) underlying43 avv auy ays rfl rfl rfl (ap rfl rfl rfl rfl) rfl (by omega) (by omega) (by unfold TV;omega)) rfl rfl ?_;refine⟨by kernel_rfl,?_⟩;refine⟨by omega,?_⟩;refine⟨(⟨k0.k+1,k0.L++[L0]⟩:KL (List ByteArray)),(nsA ‹_›),(cnS rfl (hpR rfl (hpR rfl (.cons (by(rw[az8];rfl)) rfl rfl (.cons (by(rw[az8];rfl)) rfl (aa Md _ _) .nil))))),?_⟩;refine⟨‹_›,?_⟩;exact⟨by show(_++[_]).length=k0.k+1;rw[az8,h1.1];rfl,qk h1.2.1 ⟨ha,by omega⟩,by show(_++[_]).map _=_;rw[a0g h3,a0u,a0u,h1.2.2];simp[hl]⟩;refine RegG.via (fun _ h=>dt [3] 2 0 0 [vI 1,.v (.string s[n].p_),.tree 6 (s[n].d_.map yu),.sl 3 k0.L.length 0 k0.L.length,.v (.slice none 0 0),.tree 8 (s[n].h_.map rwA),.v (.slice none 0 0),.v (.slice none 0 0),.v (.slice none 0 0),.v (.slice none 0 0),vI 0,.v (.string ⟨#[]⟩),.v (.string ⟨#[]⟩),vI 0,vI 0,vI 0,.v (.string ⟨#[]⟩),.v (.slice none 0 0),.v (.slice none 0 0),.v (.slice none 0 0),vI 0,.v (.string ⟨#[]⟩)] [vI 1,.v (.string s[n].p_),.tree 6 (s[n].d_.map yu),.tree 1 (k0.L.map (fun l=>[.tree 1 (l.map sA)])),.v (.slice none 0 0),.tree 8 (s[n].h_.map rwA),.v (.slice none 0 0),.v (.slice none 0 0),.v (.slice none 0 0),.v (.slice none 0 0),vI 0,.v (.string ⟨#[]⟩),.v (.string ⟨#[]⟩),vI 0,vI 0,vI 0,.v (.string ⟨#[]⟩),.v (.slice none 0 0),.v (.slice none 0 0),.v (.slice none 0 0),vI 0,.v (.string ⟨#[]⟩)] rfl rfl (.keep (.keep (.keep (.fz (FzP.rows Md (az9.2 rfl) rfl) (.same _))))) rfl h) ?_;refine bh ?_;refine LpG.via (fun _ h=>dg 2 4 3 rfl rfl rfl rfl rfl 5 rfl h) ?_;refine LpG.on (fun k2:KL GRef=>(⟨fL [(0,.tree 5 (s.map jf)),(4,.ptr 0 0 0),(5,.ptr 1 0 0),(6,.ptr 2 0 0),(8,vI k2.k)],hLz [(0,⟨0,[vI 0,.v (.string ⟨#[]⟩),.v (.slice none 0 0),.v (.slice none 0 0),.v (.slice none 0 0),.v (.slice none 0 0),.v (.slice none 0 0),.v (.slice none 0 0),.v (.slice none 0 0),.v (.slice none 0 0),vI 0,.v (.string ⟨#[]⟩),.v (.string ⟨#[]⟩),vI 0,vI 0,vI 0,.v (.string ⟨#[]⟩),.v (.slice none 0 0),.v (.slice none 0 0),.v (.slice none 0 0),vI 0,.v (.string ⟨#[]⟩)],0,false⟩),(1,⟨0,jf s[n],0,false⟩),(2,⟨0,[vI 1,.v (.string s[n].p_),.tree 6 (s[n].d_.map yu),.tree 1 (k0.L.map (fun l=>[.tree 1 (l.map sA)])),.sl 4 k2.L.length 0 k2.L.length,.tree 8 (s[n].h_.map rwA),.v (.slice none 0 0),.v (.slice none 0 0),.v (.slice none 0 0),.v (.slice none 0 0),vI 0,.v (.string ⟨#[]⟩),.v (.string ⟨#[]⟩),vI 0,vI 0,vI 0,.v (.string ⟨#[]⟩),.v (.slice none 0 0),.v (.slice none 0 0),.v (.slice none 0 0),vI 0,.v (.string ⟨#[]⟩)],0,false⟩),(4,⟨k2.L.length,rF anv k2.L,3,Nat.beq k2.L.length 0⟩)],5⟩:St)) (fun k2=>(s[n].m_.length-k2.k)) (fun k2=>(k2.k<=s[n].m_.length/\(k2.L.length=k2.k/\(∀y∈k2.L,FitRef y/\y.d_.length<=20/\y.x_.length<=20)/\X9 s s[n] k2.L))) (⟨0,[]⟩:KL GRef) (cnS rfl (hpR rfl (hpR rfl (hpR (by rfl) (hpS (aa y6 _ _) (by rfl) trivial))))) ⟨a0h _,⟨rfl,fun y hy=>absurd hy (by simp),fun j h=>absurd h (a0i j)⟩⟩ ?_;rintro k2 h4;have hgr_k2:s[n].m_.length<=140737488355328:=(hs.2 _ (az4 _)).m_.1;obtain⟨hle_k2,h0⟩:=h4;refine LenG.of (cL (fun h2=>?_) (fun hge51=>?_));obtain⟨j1,q1,hh,hi,hjn,h6,h7⟩:=((hv n hn).fors _ (az4 h2)).tab;have hfl:=h0.1;have hin1:=((hv n hn).fors _ (az4 h2)).cols;have hin2:=(hv j1 h6).keys _ (az4 h7);have hf20:=h5.fcol _ (az4 h2);have h9:=(hg _ (az4 h6)).key _ (az4 h7);refine IdxG.of ‹_› (OpG.lk (ah underlying42 Cu rfl rfl hh h6) ?_);refine ArgG.mk (J0 (s[n]) (hs.2 _ (az4 _)) (s[n].m_[k2.k].d_) ((hs.2 _ (az4 _)).m_.2 _ (az4 _)).d_ ‹_› (by omega)) rfl ?_;rintro _ ⟨L1,rfl,hm,hb,hc⟩;refine OpG.lk (ah underlying23 amt rfl rfl hi h7) ?_;refine ArgG.mk (J0 (s[j1]) (hs.2 _ (az4 _)) (s[j1].u_[q1]) ((hs.2 _ (az4 _)).u_.2 _ (az4 _)) ‹_› (by omega)) rfl ?_;rintro _ ⟨L2,rfl,ho,hd,he⟩;refine OpG.mk _ _ _ 8 (ae y6 (a:=(⟨L1,s[j1].p_,L2⟩:GRef)) underlying44 avu auw ayr rfl rfl rfl (ap rfl rfl rfl rfl) rfl (by omega) (by omega) (by unfold TV;omega)) rfl rfl ?_;refine⟨by kernel_rfl,?_⟩;refine⟨by omega,?_⟩;refine⟨(⟨k2.k+1,k2.L++[(⟨L1,s[j1].p_,L2⟩:GRef)]⟩:KL GRef),(nsA ‹_›),(cnS rfl (hpR rfl (hpR rfl (.cons (by(rw[az8];rfl)) rfl rfl (.cons (by(rw[az8];rfl)) rfl (aa y6 _ _) .nil))))),?_⟩;refine⟨‹_›,?_⟩;exact⟨by show(_++[_]).length=k2.k+1;rw[az8,h0.1];rfl,qk h0.2.1 ⟨⟨hb,(hs.2 _ (az4 h6)).p_,hd⟩,by show L1.length<=20;omega,by show L2.length<=20;omega⟩,h0.2.2.snoc h0.1 h2 ⟨hm,hc,j1,q1,hh,hi,h6,h7,rfl,ho,he⟩⟩;refine RegG.via (fun _ h=>dt [4] 2 0 0 [vI 1,.v (.string s[n].p_),.tree 6 (s[n].d_.map yu),.tree 1 (k0.L.map (fun l=>[.tree 1 (l.map sA)])),.sl 4 k2.L.length 0 k2.L.length,.tree 8 (s[n].h_.map rwA),.v (.slice none 0 0),.v (.slice none 0 0),.v (.slice none 0 0),.v (.slice none 0 0),vI 0,.v (.string ⟨#[]⟩),.v (.string ⟨#[]⟩),vI 0,vI 0,vI 0,.v (.string ⟨#[]⟩),.v (.slice none 0 0),.v (.slice none 0 0),.v (.slice none 0 0),vI 0,.v (.string ⟨#[]⟩)] [vI 1,.v (.string s[n].p_),.tree 6 (s[n].d_.map yu),.tree 1 (k0.L.map (fun l=>[.tree 1 (l.map sA)])),.tree 3 (k2.L.map anv),.tree 8 (s[n].h_.map rwA),.v (.slice none 0 0),.v (.slice none 0 0),.v (.slice none 0 0),.v (.slice none 0 0),vI 0,.v (.string ⟨#[]⟩),.v (.string ⟨#[]⟩),vI 0,vI 0,vI 0,.v (.string ⟨#[]⟩),.v (.slice none 0 0),.v (.slice none 0 0),.v (.slice none 0 0),vI 0,.v (.string ⟨#[]⟩)] rfl rfl (.keep (.keep (.keep (.keep (.fz (FzP.rows y6 (az9.2 rfl) rfl) (.same _)))))) rfl h) ?_;refine bh ?_;refine rtK rfl awe rfl ⟨[],FzP.pure rfl⟩ ?_;have g1:=h1.1;have g2:=h0.1;exact⟨⟨1,s[n].p_,⟨s[n].d_,k0.L,k2.L,s[n].h_⟩⟩,rfl,⟨h8.p_,⟨h8.d_,⟨by show k0.L.length<=_;omega,fun y hy=>(h1.2.1 y hy).1⟩,⟨by show k2.L.length<=_;omega,fun y hy=>(h0.2.1 y hy).1⟩,h8.h_⟩⟩,⟨hj,by show k0.L.length<=10;omega,by show k2.L.length<=10;omega,fun k hk=>(h1.2.1 k hk).2,fun f hf=>(h0.2.1 f hf).2⟩,⟨rfl,rfl,by have e:=h1.2.2;rwa [a0x (by omega)]at e,by show k2.L.length=_;omega,h0.2.2⟩⟩
def dy:RowF jf 5:=⟨fun _=>rfl,fun _=>rfl,fun _ _=>rfl,fun _ _=>rfl,fun _ _=>rfl,fun _=>rfl⟩
def ld:RowF aea 3:=⟨fun _=>rfl,fun _=>rfl,fun _ _=>rfl,fun _ _=>rfl,fun _ _=>rfl,fun _=>rfl⟩
def Me:RowF (fun l:List Int=>[AV.tree 1 (l.map iA)]) 1:=⟨fun _=>rfl,fun _=>rfl,fun _ _=>rfl,fun _ _=>rfl,fun _ _=>rfl,fun _=>rfl⟩
structure KFE where
 k:Nat
 L:List GFor
 e:Int
abbrev ane(S:List GTab):Blk:=⟨S.length,rF jf S,5,Nat.beq S.length 0⟩
def FkT(S:List GTab)(x:GSta)(f:GRef):Prop:=∃(uc:List GCol),((f.n_=x.n_/\uc=x.f_.d_)\/∃u∈S,u.p_=f.n_/\u.d_=uc)/\∃L1 L3:List Int,L1.length=f.d_.length/\Qr x.f_.d_ L1 f.d_/\Qr uc L3 f.x_/\L3.length=f.x_.length/\aus x.f_.d_ uc L1 L3
def U4{e e':Int}(hi:e=0->∀j (hl:j<x.f_.m_.length),j<k->FkT S x x.f_.m_[j])(h:e'=0->e=0/\∀hk:k<x.f_.m_.length,FkT S x x.f_.m_[k]):e'=0->∀j (hl:j<x.f_.m_.length),j<k+1->FkT S x x.f_.m_[j]:=by grind
def axv{f:GRef}{all:List GTab}{T0:GTab}{L1 L3:List Int}(hae:all=[]++S++[T0])(h0:T0.p_=x.n_)(h1:T0.d_=x.f_.d_)(hj:j<all.length)(hn:all[j].p_=f.n_)(l1:L1.length=f.d_.length)(n1:Qr x.f_.d_ L1 f.d_)(n3:Qr all[j].d_ L3 f.x_)(l3:L3.length=f.x_.length)(ht:aus x.f_.d_ all[j].d_ L1 L3):FkT S x f:=by grind[FkT]
def aff:ca prog 164=true:=by kernel_rfl
def asp:ca prog 166=true:=by kernel_rfl
def ar5:(prog.info? 143).map (·.bytes)=some 40:=by kernel_rfl
def ayp:(prog.info? 27).map (·.bytes)=some 112:=by kernel_rfl
def by53:(prog.info? 53).map (·.bytes)=some 24:=by kernel_rfl
def Jl:ff prog 27=some (some 5):=by kernel_rfl
def amx:am prog 143=some 3:=by kernel_rfl
def al3:bv prog 143=some (.agg #[.slice none 0 0,.int .i64 0,.int .i64 0]):=by kernel_rfl
def acm:bv prog 27=some (.agg #[.string ⟨#[]⟩,.slice none 0 0,.slice none 0 0,.slice none 0 0,.slice none 0 0]):=by kernel_rfl
def zr53:bv prog 53=some (.slice none 0 0):=by kernel_rfl
def agy(x:GSta)(hx:FitSta x)(S:List GTab)(hS:bn S (fun y=>FitTab y))(hS2:S.length<=8)(hd:DefOk x)(hu:∀f∈x.f_.m_,f.d_.length=f.x_.length):ach prog 110 [.sl TOP S.length 0 S.length,.agg (Ql x)] [(TOP,ane S)] [(TOP,some (ane S))] (fun r=>∃(t:GTab) (e:Int),r=.tup [.agg (jf t),vI e]/\FitTab t/\(e=0->t.p_=x.n_/\t.d_=x.f_.d_/\∀f∈x.f_.m_,FkT S x f)):=by have hd1:=hd.kl;have hd2:=hd.fl;refine ach.of_vc s9 [47,61,62,64,83,144] [9,10,33] func110 rfl ntmps110 rfl (by kernel_rfl) (LpG.via (fun _ h=>dg 2 2 1 rfl rfl rfl rfl rfl 4 rfl h) ?_);refine LpG.on (fun k0:KL (List Int)=>(⟨fL [(0,.sl TOP S.length 0 S.length),(3,.ptr 0 0 0),(4,.ptr 1 0 0),(6,.ptr 2 0 0),(7,vI k0.k)],hLz [(0,⟨0,Ql x,0,false⟩),(1,⟨0,[.v (.string ⟨#[]⟩),.v (.slice none 0 0),.v (.slice none 0 0),.v (.slice none 0 0),.v (.slice none 0 0)],0,false⟩),(2,⟨0,[.v (.string x.n_),.tree 6 (x.f_.d_.map yu),.sl 3 k0.L.length 0 k0.L.length,.v (.slice none 0 0),.tree 8 (x.f_.h_.map rwA)],0,false⟩),(3,⟨k0.L.length,rF (fun l=>[.tree 1 (l.map iA)]) k0.L,1,Nat.beq k0.L.length 0⟩),(1000000,ane S)],4⟩:St)) (fun k0=>(x.f_.u_.length-k0.k)) (fun k0=>(k0.k<=x.f_.u_.length/\(k0.L.length=k0.k/\∀y∈k0.L,bn y (fun _=>True)))) (⟨0,[]⟩:KL (List Int)) (cnS rfl (hpR rfl (hpR rfl (hpR (by rfl) (hpS (aa Me _ _) (by rfl) (hpS (aa dy _ _) rfl trivial)))))) ⟨a0h _,⟨rfl,fun y hy=>absurd hy (by simp)⟩⟩ ?_;rintro k0 h3;have hgr_k0:x.f_.u_.length<=140737488355328:=hx.f_.u_.1;obtain⟨hle_k0,h1⟩:=h3;refine LenG.of (cL (fun h6=>?_) (fun hge36=>?_));have hv:=h1.1;have hk20:=hd.key _ (az4 h6);refine IdxG.of ‹_› ?_;obtain⟨_,⟨L0,b0,rfl,hg,hL0,hLn0⟩,hh⟩:=xi ⟨x.n_,x.f_.d_⟩ ⟨hx.n_,hx.f_.d_⟩ x.f_.u_[k0.k] (hx.f_.u_.2 _ (az4 h6)) (by omega);refine OpG.lk (di aff (.cons (FzP.aggL (.cons (.pure rfl) (.cons (.pure rfl) (.cons .unk (.cons .unk (.cons .unk .nil)))))) (.cons (.pure rfl) .nil)) hh) ⟨by kernel_rfl,cB (fun hi=>?_) (fun hi=>?_)⟩;exact⟨.inr rfl,_,P5.of [] (cq rfl (.cons (az0.cellN Jl rfl rfl trivial rfl rfl rfl) (.cons (az0.tmp rfl) .nil))) rfl ⟨.same rfl (by decide),trivial⟩ (.tup (.fz (FzP.aggL (.cons (.pure rfl) (.cons (FzP.nil (n:=6)) (.cons (FzP.nil (n:=1)) (.cons (FzP.nil (n:=3)) (.cons (FzP.nil (n:=8)) .nil)))))) (.same .nil))),⟨⟨⟨#[]⟩,[],[],[],[]⟩,_,rfl,⟨a0h _,⟨a0h _,by simp⟩,⟨a0h _,by simp⟩,⟨a0h _,by simp⟩,⟨a0h _,by simp⟩⟩,by exact fun h=>absurd h (by decide)⟩⟩;refine OpG.mk _ _ _ 5 (ae Me (a:=L0) underlying23 amt zr53 by53 rfl rfl rfl (ap rfl rfl rfl rfl) rfl (by omega) (by omega) (by unfold TV;omega)) rfl rfl ⟨by omega,⟨(⟨k0.k+1,k0.L++[L0]⟩:KL (List Int)),(nsA ‹_›),(cnS rfl (hpR rfl (hpR rfl (.cons (by(rw[az8];rfl)) rfl rfl (.cons (by(rw[az8];rfl)) rfl (aa Me _ _) (hpS (aa dy _ _) rfl trivial)))))),?_⟩⟩;exact⟨‹_›,⟨by show(_++[_]).length=k0.k+1;rw[az8,h1.1];rfl,qk h1.2 hg⟩⟩;refine RegG.via (fun _ h=>dt [3] 2 0 0 [.v (.string x.n_),.tree 6 (x.f_.d_.map yu),.sl 3 k0.L.length 0 k0.L.length,.v (.slice none 0 0),.tree 8 (x.f_.h_.map rwA)] [.v (.string x.n_),.tree 6 (x.f_.d_.map yu),.tree 1 (k0.L.map (fun l=>[.tree 1 (l.map iA)])),.v (.slice none 0 0),.tree 8 (x.f_.h_.map rwA)] rfl rfl (.keep (.keep (.fz (FzP.rows Me (az9.2 rfl) rfl) (.same _)))) rfl h) (bh ?_);refine OpG.nw (B2 4 underlying42 Cu) rfl (OpG.mk _ _ _ 5 (It dy (l:=[]) (l':=S) underlying42 Cu acm ayp rfl rfl rfl rfl rfl (by simp only[a0s];omega) (by simp only[a0s];omega) (by unfold TV;omega)) rfl rfl ?_);refine OpG.lk (oz (X3 Jl rfl rfl rfl rfl rfl) (fun _=>FzP.aggL (.cons (.pure rfl) (.cons (.pure rfl) (.cons (.pure rfl) (.cons (FzP.nil (n:=3)) (.cons (.pure rfl) .nil))))))) (OpG.mk _ _ _ 6 (Lb dy (l:=[]++S) (a:=(⟨x.n_,x.f_.d_,k0.L,[],x.f_.h_⟩:GTab)) underlying42 Cu acm ayp rfl rfl rfl (ap rfl rfl rfl rfl) rfl (by simp only[List.nil_append];omega) (by simp only[List.nil_append];omega) (by unfold TV;omega)) rfl rfl ?_);refine⟨by kernel_rfl,?_⟩;obtain⟨all,hk⟩:∃all:List GTab,all=[]++S++[(⟨x.n_,x.f_.d_,k0.L,[],x.f_.h_⟩:GTab)]:=⟨_,rfl⟩;have hv:=h1.1;have h2:bn all (fun y=>FitTab y):=(by subst hk;exact⟨by simp;omega,qk hS.2 ⟨hx.n_,hx.f_.d_,⟨by show k0.L.length<=_;omega,fun y hy=>h1.2 y hy⟩,⟨a0h _,by simp⟩,hx.f_.h_⟩⟩);refine RegG.via (fun _ h=>bm [4] 10 (.tree 5 (all.map jf)) (by rw[hk];exact jd dy (az9.2 rfl) rfl) rfl h) (bh ?_);refine LpG.via (fun _ h=>dg 2 3 3 rfl rfl rfl rfl rfl 7 rfl h) (LpG.on (fun k2:KFE=>(⟨fL [(3,.ptr 0 0 0),(4,.ptr 1 0 0),(6,.ptr 2 0 0),(10,.tree 5 (all.map jf)),(11,vI k2.e),(12,vI k2.k)],hLz [(0,⟨0,Ql x,0,false⟩),(1,⟨0,[.v (.string ⟨#[]⟩),.v (.slice none 0 0),.v (.slice none 0 0),.v (.slice none 0 0),.v (.slice none 0 0)],0,false⟩),(2,⟨0,[.v (.string x.n_),.tree 6 (x.f_.d_.map yu),.tree 1 (k0.L.map (fun l=>[.tree 1 (l.map iA)])),.sl 6 k2.L.length 0 k2.L.length,.tree 8 (x.f_.h_.map rwA)],0,false⟩),(6,⟨k2.L.length,rF aea k2.L,3,Nat.beq k2.L.length 0⟩),(1000000,ane S)],7⟩:St)) (fun k2=>(x.f_.m_.length-k2.k)) (fun k2=>(k2.k<=x.f_.m_.length/\(k2.L.length=k2.k/\(∀y∈k2.L,FitFor y)/\(k2.e=0->∀j (hl:j<x.f_.m_.length),j<k2.k->FkT S x x.f_.m_[j])))) (⟨0,[],0⟩:KFE) (cnS rfl (hpR rfl (hpR rfl (hpR (by rfl) (hpS (aa ld _ _) (by rfl) (hpS (aa dy _ _) rfl trivial)))))) ⟨a0h _,⟨rfl,fun y hy=>absurd hy (by simp),fun _ j _ h=>absurd h (a0i j)⟩⟩ ?_);rintro k2 h3;have hgr_k2:x.f_.m_.length<=140737488355328:=hx.f_.m_.1;obtain⟨hle_k2,h0⟩:=h3;refine LenG.of (cL (fun h4=>?_) (fun hge70=>?_));have hfl2:=h0.1;have hf20:=hd.fcl _ (az4 h4);have hfe:=hu _ (az4 h4);refine IdxG.of ‹_› ?_;obtain⟨_,⟨L1,b1,rfl,h9,hw,hm⟩,hn⟩:=xi ⟨x.n_,x.f_.d_⟩ ⟨hx.n_,hx.f_.d_⟩ x.f_.m_[k2.k].d_ ((hx.f_.m_.2 _ (az4 h4)).d_) (by omega);refine OpG.lk (di aff (.cons (FzP.aggL (.cons (.pure rfl) (.cons (.pure rfl) (.cons .unk (.cons .unk (.cons .unk .nil)))))) (.cons (.pure rfl) .nil)) hn) (ArgG.mk (Nh all h2 (x.f_.m_[k2.k].n_) (hx.f_.m_.2 _ (az4 _)).n_) rfl ?_);rintro _ ⟨j2,b2,rfl,hz,g0⟩;apply cB<;>intro ho;exact cT ⟨.inr rfl,_,P5.of [] (cq rfl (.cons (az0.cellN Jl rfl rfl trivial rfl rfl rfl) (.cons (az0.tmp rfl) .nil))) rfl ⟨.same rfl (by decide),trivial⟩ (.tup (.fz (FzP.aggL (.cons (.pure rfl) (.cons (FzP.nil (n:=6)) (.cons (FzP.nil (n:=1)) (.cons (FzP.nil (n:=3)) (.cons (FzP.nil (n:=8)) .nil)))))) (.same .nil))),⟨⟨⟨#[]⟩,[],[],[],[]⟩,_,rfl,⟨a0h _,⟨a0h _,by simp⟩,⟨a0h _,by simp⟩,⟨a0h _,by simp⟩,⟨a0h _,by simp⟩⟩,by exact fun h=>absurd h (by decide)⟩⟩;apply cB<;>intro hp;exact⟨.inr rfl,_,P5.of [] (cq rfl (.cons (az0.cellN Jl rfl rfl trivial rfl rfl rfl) (.cons (az0.tmp rfl) .nil))) rfl ⟨.same rfl (by decide),trivial⟩ (.tup (.fz (FzP.aggL (.cons (.pure rfl) (.cons (FzP.nil (n:=6)) (.cons (FzP.nil (n:=1)) (.cons (FzP.nil (n:=3)) (.cons (FzP.nil (n:=8)) .nil)))))) (.same .nil))),⟨⟨⟨#[]⟩,[],[],[],[]⟩,_,rfl,⟨a0h _,⟨a0h _,by simp⟩,⟨a0h _,by simp⟩,⟨a0h _,by simp⟩,⟨a0h _,by simp⟩⟩,by exact fun h=>absurd h (by decide)⟩⟩;have hb1t:b1=true:=(by simpa using ho);have hb2t:b2=true:=(by simpa using hp);have he:=hz hb2t;refine IdxG.of ‹_› (ArgG.mk (Tb (all[j2]) (h2.2 _ (az4 _)) (x.f_.m_[k2.k].x_) (hx.f_.m_.2 _ (az4 _)).x_ (by omega)) rfl ?_);rintro _ ⟨L3,b3,rfl,ha,g3,hq⟩;refine⟨by kernel_rfl,LpG.on (fun k4:KE=>(⟨fL [(3,.ptr 0 0 0),(4,.ptr 1 0 0),(6,.ptr 2 0 0),(10,.tree 5 (all.map jf)),(11,vI k2.e),(12,vI k2.k),(14,.tree 1 (L1.map iA)),(16,vI j2),(18,.tree 1 (L3.map iA)),(19,vB b3),(20,vI k4.e),(21,vI k4.k)],hLz [(0,⟨0,Ql x,0,false⟩),(1,⟨0,[.v (.string ⟨#[]⟩),.v (.slice none 0 0),.v (.slice none 0 0),.v (.slice none 0 0),.v (.slice none 0 0)],0,false⟩),(2,⟨0,[.v (.string x.n_),.tree 6 (x.f_.d_.map yu),.tree 1 (k0.L.map (fun l=>[.tree 1 (l.map iA)])),.sl 6 k2.L.length 0 k2.L.length,.tree 8 (x.f_.h_.map rwA)],0,false⟩),(6,⟨k2.L.length,rF aea k2.L,3,Nat.beq k2.L.length 0⟩),(1000000,ane S)],8⟩:St)) (fun k4=>(all[j2].u_.length-k4.k)) (fun k4=>(k4.k<=all[j2].u_.length/\(0<=k4.e->b3=true))) (⟨0,-1⟩:KE) (cnS rfl (hpR rfl (hpR rfl (hpR rfl (hpS (aa ld _ _) rfl (hpS (aa dy _ _) rfl trivial)))))) ⟨a0h _,fun h=>absurd h (by decide)⟩ ?_⟩;rintro k4 h3;have hgr_k4:all[j2].u_.length<=140737488355328:=(h2.2 _ (az4 _)).u_.1;obtain⟨hle_k4,h5⟩:=h3;refine IdxG.of ‹_› (LenG.of ?_);apply cL<;>intro hlt117;apply cB<;>intro hb;refine IdxG.of ‹_› (IdxG.of ‹_› ?_);refine ArgG.mk (ap3 (all[j2].u_[k4.k]) ((h2.2 _ (az4 _)).u_.2 _ (az4 _)) L3 ha) rfl ?_;rintro _ ⟨b4,rfl⟩;apply cB<;>intro hc132;refine⟨by omega,⟨(⟨k4.k+1,_⟩:KE),(nsA ‹_›),(cnS rfl (hpR rfl (hpR rfl (hpR rfl (hpS (aa ld _ _) rfl (hpS (aa dy _ _) rfl trivial)))))),?_⟩⟩;refine⟨‹_›,?_⟩;exact fun _=>hb;refine⟨by omega,⟨(⟨k4.k+1,_⟩:KE),(nsA ‹_›),(cnS rfl (hpR rfl (hpR rfl (hpR rfl (hpS (aa ld _ _) rfl (hpS (aa dy _ _) rfl trivial)))))),?_⟩⟩;exact⟨‹_›,h5⟩;refine cF ⟨by omega,⟨(⟨k4.k+1,_⟩:KE),(nsA ‹_›),(cnS rfl (hpR rfl (hpR rfl (hpR rfl (hpS (aa ld _ _) rfl (hpS (aa dy _ _) rfl trivial)))))),?_⟩⟩;exact⟨‹_›,h5⟩;apply cB<;>intro hc;exact⟨.inr rfl,_,P5.of [] (cq rfl (.cons (az0.cellN Jl rfl rfl trivial rfl rfl rfl) (.cons (az0.tmp rfl) .nil))) rfl ⟨.same rfl (by decide),trivial⟩ (.tup (.fz (FzP.aggL (.cons (.pure rfl) (.cons (FzP.nil (n:=6)) (.cons (FzP.nil (n:=1)) (.cons (FzP.nil (n:=3)) (.cons (FzP.nil (n:=8)) .nil)))))) (.same .nil))),⟨⟨⟨#[]⟩,[],[],[],[]⟩,_,rfl,⟨a0h _,⟨a0h _,by simp⟩,⟨a0h _,by simp⟩,⟨a0h _,by simp⟩,⟨a0h _,by simp⟩⟩,by exact fun h=>absurd h (by decide)⟩⟩;have hb3t:b3=true:=h5 (by have h:=a0e hc;omega);have hs:=hw hb1t;have ht:=g3 hb3t;have hn1l:=hs.1;have hn3l:=ht.1;refine IdxG.of ‹_› ?_;obtain⟨_,⟨b5,rfl,g4⟩,hr⟩:=Yv ⟨x.n_,x.f_.d_⟩ ⟨hx.n_,hx.f_.d_⟩ ⟨all[j2].p_,all[j2].d_⟩ ⟨(h2.2 _ (az4 he)).p_,(h2.2 _ (az4 he)).d_⟩ L1 h9 L3 ha hs.2 ht.2 (by omega);refine OpG.lk (di asp (.cons (FzP.aggL (.cons (.pure rfl) (.cons (.pure rfl) (.cons .unk (.cons .unk (.cons .unk .nil)))))) (.cons (FzP.aggL (.cons (.pure rfl) (.cons (.pure rfl) (.cons .unk (.cons .unk (.cons .unk .nil)))))) (.cons (.pure rfl) (.cons (.pure rfl) .nil)))) hr) ⟨by kernel_rfl,cB (fun h7=>?_) (fun h7=>?_)⟩;refine OpG.mk _ _ _ 9 (ae ld (a:=(⟨L1,((j2:Nat):Int),k4.e⟩:GFor)) underlying24 amx al3 ar5 rfl rfl rfl (ap rfl rfl rfl rfl) rfl (by omega) (by omega) (by unfold TV;omega)) rfl rfl ⟨by omega,⟨(⟨k2.k+1,k2.L++[(⟨L1,((j2:Nat):Int),k4.e⟩:GFor)],_⟩:KFE),(nsA ‹_›),(cnS rfl (hpR rfl (hpR rfl (.cons (by(rw[az8];rfl)) rfl rfl (.cons (by(rw[az8];rfl)) rfl (aa ld _ _) (hpS (aa dy _ _) rfl trivial)))))),?_⟩⟩;exact⟨‹_›,⟨by show(_++[_]).length=k2.k+1;rw[az8,h0.1];rfl,qk h0.2.1 ⟨h9⟩,U4 h0.2.2 (by exact fun h=>absurd (show(6:Int)=0 from h) (by decide))⟩⟩;refine OpG.mk _ _ _ 9 (ae ld (a:=(⟨L1,((j2:Nat):Int),k4.e⟩:GFor)) underlying24 amx al3 ar5 rfl rfl rfl (ap rfl rfl rfl rfl) rfl (by omega) (by omega) (by unfold TV;omega)) rfl rfl ⟨by omega,⟨(⟨k2.k+1,k2.L++[(⟨L1,((j2:Nat):Int),k4.e⟩:GFor)],_⟩:KFE),(nsA ‹_›),(cnS rfl (hpR rfl (hpR rfl (.cons (by(rw[az8];rfl)) rfl rfl (.cons (by(rw[az8];rfl)) rfl (aa ld _ _) (hpS (aa dy _ _) rfl trivial)))))),?_⟩⟩;exact⟨‹_›,⟨by show(_++[_]).length=k2.k+1;rw[az8,h0.1];rfl,qk h0.2.1 ⟨h9⟩,U4 h0.2.2 (by exact fun h=>⟨h,fun _=>axv hk rfl rfl he (g0.1 he hb2t) hn1l (hm hb1t) (hq hb3t) hn3l (g4 (by simpa using h7))⟩)⟩⟩;apply cB<;>intro h8;exact⟨.inr rfl,_,P5.of [] (cq rfl (.cons (az0.cellN Jl rfl rfl trivial rfl rfl rfl) (.cons (az0.tmp rfl) .nil))) rfl ⟨.same rfl (by decide),trivial⟩ (.tup (.fz (FzP.aggL (.cons (.pure rfl) (.cons (FzP.nil (n:=6)) (.cons (FzP.nil (n:=1)) (.cons (FzP.nil (n:=3)) (.cons (FzP.nil (n:=8)) .nil)))))) (.same .nil))),⟨⟨⟨#[]⟩,[],[],[],[]⟩,_,rfl,⟨a0h _,⟨a0h _,by simp⟩,⟨a0h _,by simp⟩,⟨a0h _,by simp⟩,⟨a0h _,by simp⟩⟩,by exact fun h=>absurd h (by simpa using h8)⟩⟩;refine RegG.via (fun _ h=>dt [6] 2 0 0 [.v (.string x.n_),.tree 6 (x.f_.d_.map yu),.tree 1 (k0.L.map (fun l=>[.tree 1 (l.map iA)])),.sl 6 k2.L.length 0 k2.L.length,.tree 8 (x.f_.h_.map rwA)] [.v (.string x.n_),.tree 6 (x.f_.d_.map yu),.tree 1 (k0.L.map (fun l=>[.tree 1 (l.map iA)])),.tree 3 (k2.L.map aea),.tree 8 (x.f_.h_.map rwA)] rfl rfl (.keep (.keep (.keep (.fz (FzP.rows ld (az9.2 rfl) rfl) (.same _))))) rfl h) (bh ?_);refine⟨.inr rfl,_,P5.of [] (cq rfl (.cons (az0.cellN Jl rfl rfl trivial rfl rfl rfl) (.cons (az0.tmp rfl) .nil))) rfl ⟨.same rfl (by decide),trivial⟩ .same,?_⟩;have g1:=h1.1;have g2:=h0.1;exact⟨⟨x.n_,x.f_.d_,k0.L,k2.L,x.f_.h_⟩,_,rfl,⟨hx.n_,hx.f_.d_,⟨by show k0.L.length<=_;omega,fun y hy=>h1.2 y hy⟩,⟨by show k2.L.length<=_;omega,fun y hy=>h0.2.1 y hy⟩,hx.f_.h_⟩,fun _=>⟨rfl,rfl,fun f hf=>by obtain⟨j,hj,rfl⟩:=a0p hf;exact h0.2.2 (by simpa using h8) j hj (by omega)⟩⟩
def sX{f:α->List AV}(h:RowF f q){g:Nat->Nat}{v:Nat}{l:List α}{n:Bool}:some (⟨v,rF f l,q,n⟩:Blk)=some ((Blk.mk v (rF f l) q n).ren g):=by rw[oh h]
def y5:RowF Ql 22:=⟨fun _=>rfl,fun _=>rfl,fun _ _=>rfl,fun _ _=>rfl,fun _ _=>rfl,fun _=>rfl⟩
abbrev nc(t:GTab):ByteArray×List GCol:=(t.p_,t.d_)
abbrev ncS(x:GSta):ByteArray×List GCol:=(x.n_,x.f_.d_)
def Z0{l:List GSta}{L:List GTab}{t:GTab}(h:k<l.length)(hi:L.map nc=(l.take k).map ncS)(h1:t.p_=l[k].n_)(h2:t.d_=l[k].f_.d_):(L++[t]).map nc=(l.take (k+1)).map ncS:=by rw[a0g h,a0u,a0u,hi];simp[nc,ncS,h1,h2]
structure BldS(l:List GSta)(j:Nat)(x:GSta):Prop where
 cols:∀c∈x.f_.d_,B5 c
 kl:∀k∈x.f_.u_,k.length≠0
 fl:∀f∈x.f_.m_,f.d_.length=f.x_.length/\f.d_.length≠0
 ds:Yn (·.p_) x.f_.d_
 n0:x.f_.d_.length≠0
 pre:∃S:List GTab,S.map nc=(l.take j).map ncS/\(∀t∈S,t.p_≠x.n_)/\∀f∈x.f_.m_,FkT S x f
structure ForT(s:List GTab)(t:GTab)(f:GFor):Prop where
 ne:f.d_.length≠0
 tab:∃j q:Nat,f.n_=((j:Nat):Int)/\f.K_=((q:Nat):Int)/\∃hj:j<s.length,∃hq:q<s[j].u_.length,s[j].u_[q].length=f.d_.length/\aus t.d_ s[j].d_ f.d_ s[j].u_[q]
structure SchW(s:List GTab):Prop where
 key:∀t∈s,∀k∈t.u_,k.length≠0
 fork:∀t∈s,∀f∈t.m_,ForT s t f
 col:∀t∈s,t.d_.length≠0
def My{T:List GCol}{a b:List Int}{N:List ByteArray}(hd:Yn (·.p_) T)(ha:Qr T a N)(hb:Qr T b N)(hl:a.length=b.length):a=b:=by refine List.ext_getElem hl fun i h1 h2=>?_;obtain⟨p,hp,e1,e2⟩:=ha i h1;obtain⟨q,hq,e3,e4⟩:=hb i h2;have:p=q:=hd p q hp hq (Option.some.inj (e2.symm.trans e4));subst this;rw[az5 h1]at e1;rw[az5 h2]at e3;exact(Option.some.inj e1).trans (Option.some.inj e3).symm
def Qi(s:List GTab)(l:List GSta):Prop:=∀i (h:i<s.length) (h2:i<l.length),DefS s s[i] l[i]
def Qi.snoc{L:List GSta}(h:Qi s L)(e:L.length=k)(hk:k<s.length)(hr:DefS s s[k] x):Qi s (L++[x]):=by grind[Qi]
def schW{l:List GSta}(hl:l.length=s.length)(hd:Qi s l)(hb:∀i (h:i<l.length),BldS l i l[i]):SchW s:=by
 have h3:∀i (h:i<s.length) (h2:i<l.length),l[i].n_=s[i].p_:=fun i h h2=>(hd i h h2).name;have h0:∀i (h:i<s.length) (h2:i<l.length),l[i].f_.d_=s[i].d_:=fun i h h2=>(hd i h h2).cols
 have hc:∀i j (hi:i<l.length) (hj:j<l.length),i<j->l[i].n_≠l[j].n_:=fun i j hi hj hij e=>by obtain⟨S,e1,e2,_⟩:=(hb j hj).pre;have hm:ncS l[i]∈(l.take j).map ncS:=a0v.2 ⟨l[i],by rw[List.mem_take_iff_getElem];exact⟨i,by omega,rfl⟩,rfl⟩;rw[<-e1]at hm;obtain⟨t,ht,e3⟩:=a0v.1 hm;have e4:t.p_=l[i].n_:=congrArg Prod.fst e3;exact e2 t ht (e4.trans e)
 have h5:∀i j (hi:i<l.length) (hj:j<l.length),l[i].n_=l[j].n_->i=j:=fun i j hi hj e=>by
  rcases Nat.lt_trichotomy i j with g|g|g;exact absurd e (hc i j hi hj g);exact g;exact absurd e.symm (hc j i hj hi g)
 have he:∀i (h:i<s.length),Yn (·.p_) s[i].d_:=fun i h=>by rw[<-h0 i h (by omega)];exact(hb i (by omega)).ds
 constructor;intro t ht k hk;obtain⟨i,hi,rfl⟩:=a0p ht;have h1:=(hd i hi (by omega)).keys
 have h2:k.length∈s[i].u_.map List.length:=a0v.2 ⟨k,hk,rfl⟩;rw[<-h1]at h2;obtain⟨k',hh,e⟩:=a0v.1 h2;rw[<-e];exact(hb i (by omega)).kl k' hh;intro t ht f hf;obtain⟨i,hi,rfl⟩:=a0p ht;obtain⟨m,hm,rfl⟩:=a0p hf;have h8:i<l.length:=by omega
 have D:=hd i hi h8;have ha:m<l[i].f_.m_.length:=by rw[D.fl];exact hm
 have F:=D.fors m ha hm;have B:=hb i h8
 obtain⟨g1,g2⟩:=B.fl _ (az4 ha);obtain⟨j,q,f1,f2,hj,hq,f3,f4,f5⟩:=F.tab;have h9:j<l.length:=by omega
 obtain⟨S,e1,_,e3⟩:=B.pre;obtain⟨uc,hu,L1,L3,l1,n1,n3,l3,hg⟩:=e3 _ (az4 ha)
 have hn:uc=s[j].d_:=by
  rcases hu with⟨h1,h2⟩|⟨u,hu,h1,h2⟩;have:i=j:=h5 i j h8 h9 (by rw[h3 j hj h9,<-f3,h1])
  subst this;rw[h2,h0 i hi h8];have h4:nc u∈S.map nc:=a0v.2 ⟨u,hu,rfl⟩
  rw[e1]at h4;obtain⟨y,hy,e5⟩:=a0v.1 h4;rw[List.mem_take_iff_getElem]at hy;obtain⟨p,hp,rfl⟩:=hy;have h6:l[p].n_=u.p_:=congrArg Prod.fst e5
  have h7:l[p].f_.d_=u.d_:=congrArg Prod.snd e5;have:p=j:=h5 p j (by omega) h9 (by rw[h6,h1,f3,h3 j hj h9])
  subst this;rw[<-h2,<-h7,h0 p hj h9]
 subst hn;rw[h0 i hi h8]at n1 hg;obtain rfl:L1=s[i].m_[m].d_:=My (he i hi) n1 F.nam (by rw[l1,F.len]);obtain rfl:L3=s[j].u_[q]:=My (he j hj) n3 f5 (by rw[l3,f4]);exact⟨by rw[<-F.len];exact g2,j,q,f1,f2,hj,hq,by rw[<-f4,<-g1,F.len],hg⟩;intro t ht;obtain⟨i,hi,rfl⟩:=a0p ht;rw[<-h0 i hi (by omega)];exact(hb i (by omega)).n0
def akn{l:List GSta}(hv:aly s)(hl:l.length=s.length)(hd:Qi s l)(hb:∀i (h:i<l.length),BldS l i l[i]):aly s/\(∀t∈s,∀c∈t.d_,B5 c)/\SchW s:=by refine⟨hv,fun t ht c hc=>?_,schW hl hd hb⟩;obtain⟨i,hi,rfl⟩:=a0p ht;have e:=(hd i hi (by omega)).cols;exact(hb i (by omega)).cols c (by rw[e];exact hc)
def ass:ca prog 109=true:=by kernel_rfl
def asr:ca prog 110=true:=by kernel_rfl
def by52:(prog.info? 52).map (·.bytes)=some 392:=by kernel_rfl
def sz52:am prog 52=some 22:=by kernel_rfl
def zr52:bv prog 52=some (.agg #[.int .i64 0,.string ⟨#[]⟩,.slice none 0 0,.slice none 0 0,.slice none 0 0,.slice none 0 0,.slice none 0 0,.slice none 0 0,.slice none 0 0,.slice none 0 0,.int .i64 0,.string ⟨#[]⟩,.string ⟨#[]⟩,.int .i64 0,.int .i64 0,.int .i64 0,.string ⟨#[]⟩,.slice none 0 0,.slice none 0 0,.slice none 0 0,.int .i64 0,.string ⟨#[]⟩]):=by kernel_rfl
def akh(l:List GSta)(hl:bn l (fun y=>FitSta y))(hq:∀x∈l,DefOk x)(hl2:l.length<=1000):PRet prog 57 [.tree 22 (l.map Ql)] (fun r=>∃(i e:Int),r=.tup [.unk,vI i,vI e]/\(e=0->∀i (h:i<l.length),BldS l i l[i])):=by refine ovT [68,79] [] func57 rfl rfl (LpG.via (fun _ h=>bu 5 5 rfl 1 rfl h) (LpG.on (fun k0:KL GTab=>(⟨fL [(0,.tree 22 (l.map Ql)),(5,.sl 0 k0.L.length 0 k0.L.length),(6,vI k0.k)],hLz [(0,⟨k0.L.length,rF jf k0.L,5,Nat.beq k0.L.length 0⟩)],1⟩:St)) (fun k0=>(l.length-k0.k)) (fun k0=>(k0.k<=l.length/\k0.L.length=k0.k/\(∀x∈k0.L,FitTab x)/\((∀j (hl:j<l.length),j<k0.k->BldS l j l[j])/\k0.L.map nc=(l.take k0.k).map ncS))) (⟨0,[]⟩:KL GTab) (cnS (by rfl) (hpS (aa dy _ _) (by rfl) trivial)) ⟨a0h _,rfl,by simp,⟨fun j _ h=>absurd h (a0i j),rfl⟩⟩ ?_));rintro k0 ha;have hgr_k0:l.length<=140737488355328:=hl.1;obtain⟨hle_k0,h6,h3,h1⟩:=ha;refine LenG.of (cL (fun h2=>?_) (fun hge14=>?_));have hp:=hq _ (az4 h2);refine IdxG.of ‹_› (IdxG.of ‹_› (cN (fun hb=>cT ⟨.inr rfl,_,iv rfl (af6.tmp ⟨[],FzP.unk⟩) (af6.tmp ⟨[],FzP.pure rfl⟩) (af6.tmp ⟨[],FzP.pure rfl⟩),⟨_,_,rfl,fun h=>absurd h (by decide)⟩⟩) (fun hb=>cD (fun hc=>cT (cT (cT (cT (cT ⟨.inr rfl,_,iv rfl (af6.tmp ⟨[],FzP.unk⟩) (af6.tmp ⟨[],FzP.pure rfl⟩) (af6.tmp ⟨[],FzP.pure rfl⟩),⟨_,_,rfl,fun h=>absurd h (by decide)⟩⟩))))) (fun hc=>LenG.of (cD (fun hd=>cT (cT (cT (cT ⟨.inr rfl,_,iv rfl (af6.tmp ⟨[],FzP.unk⟩) (af6.tmp ⟨[],FzP.pure rfl⟩) (af6.tmp ⟨[],FzP.pure rfl⟩),⟨_,_,rfl,fun h=>absurd h (by decide)⟩⟩)))) (fun hd=>LenG.of (cD (fun he=>cT (cT (cT ⟨.inr rfl,_,iv rfl (af6.tmp ⟨[],FzP.unk⟩) (af6.tmp ⟨[],FzP.pure rfl⟩) (af6.tmp ⟨[],FzP.pure rfl⟩),⟨_,_,rfl,fun h=>absurd h (by decide)⟩⟩))) (fun he=>LenG.of (cD (fun hg=>cT (cT ⟨.inr rfl,_,iv rfl (af6.tmp ⟨[],FzP.unk⟩) (af6.tmp ⟨[],FzP.pure rfl⟩) (af6.tmp ⟨[],FzP.pure rfl⟩),⟨_,_,rfl,fun h=>absurd h (by decide)⟩⟩)) (fun hg=>LenG.of (cD (fun hh=>cT ⟨.inr rfl,_,iv rfl (af6.tmp ⟨[],FzP.unk⟩) (af6.tmp ⟨[],FzP.pure rfl⟩) (af6.tmp ⟨[],FzP.pure rfl⟩),⟨_,_,rfl,fun h=>absurd h (by decide)⟩⟩) (fun hh=>IdxG.of ‹_› (ArgG.mk (Uc (l[k0.k]) (hl.2 _ (az4 _))) rfl ?_)))))))))))));rintro _ ⟨b0,rfl,hr⟩;refine cB (fun h7=>cT ⟨.inr rfl,_,iv rfl (af6.tmp ⟨[],FzP.unk⟩) (af6.tmp ⟨[],FzP.pure rfl⟩) (af6.tmp ⟨[],FzP.pure rfl⟩),⟨_,_,rfl,fun h=>absurd h (by decide)⟩⟩) (fun h7=>have h0:=hr (by simpa using h7);IdxG.of ‹_› ?_);obtain⟨_,⟨b1,rfl,hs⟩,hi⟩:=aay k0.L ⟨by omega,h3⟩ l[k0.k] (hl.2 _ (az4 h2)) (by have:=hp.cl;omega);refine OpG.lk (oa [0] ass rfl (fun i h h'=>match i,h with|0,_=>FzP.rows dy (az9.2 rfl) rfl|1,_=>FzP.pure rfl) hi) (cB (fun h8=>cT ⟨.inr rfl,_,iv rfl (af6.tmp ⟨[],FzP.unk⟩) (af6.tmp ⟨[],FzP.pure rfl⟩) (af6.tmp ⟨[],FzP.pure rfl⟩),⟨_,_,rfl,fun h=>absurd h (by decide)⟩⟩) (fun h8=>have h9:=hs (by simpa using h8);cF (IdxG.of ‹_› ?_)));obtain⟨_,⟨t2,e2,rfl,ht,hk⟩,hm⟩:=agy l[k0.k] (hl.2 _ (az4 h2)) k0.L ⟨by omega,h3⟩ (by omega) hp (fun f hf=>(h0.2.1 f hf).1);refine OpG.lk (Ip (ba [(TOP,0)] asr hm rfl rfl rfl rfl ⟨sX dy,trivial⟩ ⟨d9 dy,trivial⟩ ⟨da dy _ _,trivial⟩ rfl rfl rfl rfl rfl rfl) ⟨⟨by simp[gOf],sX dy,rfl⟩,trivial⟩) (cB (fun h4=>by have hn:¬((e2:Int)=(0:Int)):=(by simpa using h4);exact⟨.inr rfl,_,iv rfl (af6.tmp ⟨[],FzP.unk⟩) (af6.tmp ⟨[],FzP.pure rfl⟩) (af6.tmp ⟨[],FzP.pure rfl⟩),⟨_,_,rfl,fun h=>absurd h (by simpa using h4)⟩⟩) (fun h4=>have hn:(e2:Int)=(0:Int):=(by simpa using h4);have h5:=hk (by simpa using h4);OpG.mk _ _ _ 4 (ae dy (a:=t2) underlying42 Cu acm ayp rfl rfl rfl (ap rfl rfl rfl rfl) rfl (by omega) (by omega) (by unfold TV;omega)) rfl rfl ⟨by omega,⟨(⟨k0.k+1,k0.L++[t2]⟩:KL GTab),(nsA ‹_›),(cO (.cons rfl rfl (.cons (by(rw[az8];rfl)) rfl (.cons rfl rfl .nil))) (.cons (by(rw[az8];rfl)) rfl (aa dy _ _) .nil)),⟨‹_›,by show(_++[_]).length=k0.k+1;rw[az8,h6];rfl,fun y_ ho=>(a0a.1 ho).elim (h3 y_) (fun ho=>by rw[az9.1 ho];exact ht),⟨fun j hl hj=>?_,Z0 h2 h1.2 h5.1 h5.2.1⟩⟩⟩⟩));rcases a0k.1 hj with hj|rfl;exact h1.1 j hl hj;exact⟨h0.1,h0.2.2.1,h0.2.1,h9.2,h0.2.2.2,k0.L,h1.2,h9.1,h5.2.2⟩;exact⟨.inr rfl,_,iv rfl (af6.tmp ⟨[],FzP.unk⟩) (af6.tmp ⟨[],FzP.pure rfl⟩) (af6.tmp ⟨[],FzP.pure rfl⟩),⟨_,_,rfl,fun _ j hj=>h1.1 j hj (by omega)⟩⟩
def Q1(s:List GTab)(hs:bn s (fun y=>FitTab y))(he:∀t∈s,SmTab t)(hs12:s.length<=12):PRet prog 25 [.tree 5 (s.map jf)] (fun r=>∃b:Bool,r=vB b/\(b=true->aly s/\(∀t∈s,∀c∈t.d_,B5 c)/\SchW s)):=by refine ovT [90] [20] func25 rfl rfl ?_;refine LpG.on (fun k0:Nat=>(⟨fL [(0,.tree 5 (s.map jf)),(3,vI k0)],hLz [],0⟩:St)) (fun k0=>(s.length-k0)) (fun k0=>(k0<=s.length/\∀j (hl:j<s.length),j<k0->TabV s j s[j])) 0 (cnR rfl) ⟨a0h _,fun j _ h=>absurd h (a0i j)⟩ ?_;rintro k0 h1;have hgr_k0:s.length<=140737488355328:=hs.1;obtain⟨hle_k0,h2⟩:=h1;refine LenG.of (cL (fun hlt15=>?_) (fun hge15=>?_));refine LpG.on (fun k2:Nat=>(⟨fL [(0,.tree 5 (s.map jf)),(3,vI k0),(4,vI k2)],hLz [],0⟩:St)) (fun k2=>(s[k0].u_.length-k2)) (fun k2=>(k2<=s[k0].u_.length/\∀j (hl:j<s[k0].u_.length),j<k2->∀x∈s[k0].u_[j],0<=x/\x<s[k0].d_.length)) 0 (cnR rfl) ⟨a0h _,fun j _ h=>absurd h (a0i j)⟩ ?_;rintro k2 h1;have hgr_k2:s[k0].u_.length<=140737488355328:=(hs.2 _ (az4 _)).u_.1;obtain⟨hle_k2,h3⟩:=h1;refine IdxG.of ‹_› (LenG.of ?_);apply cL<;>intro hlt25;refine IdxG.of ‹_› (IdxG.of ‹_› ?_);refine IdxG.of ‹_› (ArgG.mk (Na (s[k0]) (hs.2 _ (az4 _)) (s[k0].u_[k2]) ((hs.2 _ (az4 _)).u_.2 _ (az4 _))) rfl ?_);rintro _ ⟨b0,rfl,hf⟩;refine⟨by kernel_rfl,?_⟩;apply cB<;>intro h8;exact rV rfl rfl bF;refine⟨by omega,?_⟩;refine⟨(k2+1),by omega,(cnR rfl),?_⟩;refine⟨by omega,fun j hl h=>?_⟩;rcases a0k.1 h with h|rfl;exact h3 j hl h;exact hf (by simpa using h8);refine LpG.on (fun k4:Nat=>(⟨fL [(0,.tree 5 (s.map jf)),(3,vI k0),(5,vI k4)],hLz [],0⟩:St)) (fun k4=>(s[k0].m_.length-k4)) (fun k4=>(k4<=s[k0].m_.length/\∀j (hl:j<s[k0].m_.length),j<k4->ForOk s k0 s[k0] s[k0].m_[j])) 0 (cnR rfl) ⟨a0h _,fun j _ h=>absurd h (a0i j)⟩ ?_;rintro k4 h1;have hgr_k4:s[k0].m_.length<=140737488355328:=(hs.2 _ (az4 _)).m_.1;obtain⟨hle_k4,h4⟩:=h1;refine IdxG.of ‹_› (LenG.of ?_);apply cL<;>intro hlt49;refine IdxG.of ‹_› (IdxG.of ‹_› ?_);refine IdxG.of ‹_› (ArgG.mk (Na (s[k0]) (hs.2 _ (az4 _)) (s[k0].m_[k4].d_) ((hs.2 _ (az4 _)).m_.2 _ (az4 _)).d_) rfl ?_);rintro _ ⟨b1,rfl,hg⟩;apply cB<;>intro h9;refine cT (cT ?_);refine cT ⟨by kernel_rfl,cT ?_⟩;exact rV rfl rfl bF;apply cD<;>intro hq73;refine cT (cT ?_);refine⟨by kernel_rfl,?_⟩;exact cT (rV rfl rfl bF);apply cD<;>intro hq79;refine cT ⟨by kernel_rfl,cT ?_⟩;exact rV rfl rfl bF;apply cD<;>intro hq84;refine⟨by kernel_rfl,?_⟩;exact cT (rV rfl rfl bF);obtain⟨j1,hd⟩:∃j:Nat,s[k0].m_[k4].n_=((j:Nat):Int):=⟨s[k0].m_[k4].n_.toNat,by omega⟩;refine OpG.lk (ah underlying42 Cu rfl rfl hd (by omega)) ?_;refine LenG.of ⟨by kernel_rfl,cD (fun ha=>?_) (fun ha=>?_)⟩;exact rV rfl rfl bF;refine⟨by omega,?_⟩;refine⟨(k4+1),by omega,(cnR rfl),?_⟩;refine⟨by omega,fun j hl h=>?_⟩;rcases a0k.1 h with h|rfl;exact h4 j hl h;exact⟨hg (by simpa using h9),j1,s[k0].m_[j].K_.toNat,hd,by omega,by omega,by omega,by omega⟩;refine⟨by omega,?_⟩;refine⟨(k0+1),by omega,(cnR rfl),?_⟩;refine⟨by omega,fun j hl h=>?_⟩;rcases a0k.1 h with h|rfl;exact h2 j hl h;exact⟨fun y hy=>by obtain⟨j,hj,rfl⟩:=a0p hy;exact h3 j hj (by omega),fun y hy=>by obtain⟨j,hj,rfl⟩:=a0p hy;exact h4 j hj (by omega)⟩;have hv:aly s:=fun j hl=>h2 j hl (by omega);refine LpG.via (fun _ h=>bu 7 22 rfl 1 rfl h) ?_;refine LpG.on (fun k6:KL GSta=>(⟨fL [(0,.tree 5 (s.map jf)),(7,.sl 0 k6.L.length 0 k6.L.length),(8,vI k6.k)],hLz [(0,⟨k6.L.length,rF Ql k6.L,22,Nat.beq k6.L.length 0⟩)],1⟩:St)) (fun k6=>(s.length-k6.k)) (fun k6=>(k6.k<=s.length/\k6.L.length=k6.k/\(∀x∈k6.L,FitSta x)/\((∀x∈k6.L,DefOk x)/\k6.L.length=k6.k/\Qi s k6.L))) (⟨0,[]⟩:KL GSta) (cnS (by rfl) (hpS (aa y5 _ _) (by rfl) trivial)) ⟨a0h _,rfl,by simp,⟨by simp,rfl,fun i _ h=>absurd h (a0i i)⟩⟩ ?_;rintro k6 h1;have hgr_k6:s.length<=140737488355328:=hs.1;obtain⟨hle_k6,h6,h5,h0⟩:=h1;refine LenG.of (cL (fun h7=>?_) (fun hge99=>?_));refine ArgG.mk (H3 s hs k6.k (by omega) hv he) rfl ?_;rintro _ ⟨x2,rfl,hh,hi,hb⟩;refine OpG.mk _ _ _ 2 (ae y5 (a:=x2) underlying147 sz52 zr52 by52 rfl rfl rfl (ap rfl rfl rfl rfl) rfl (by omega) (by omega) (by unfold TV;omega)) rfl rfl ?_;refine⟨by omega,?_⟩;refine⟨(⟨k6.k+1,k6.L++[x2]⟩:KL GSta),(nsA ‹_›),(cO (.cons rfl rfl (.cons (by(rw[az8];rfl)) rfl (.cons rfl rfl .nil))) (.cons (by(rw[az8];rfl)) rfl (aa y5 _ _) .nil)),?_⟩;refine⟨‹_›,by show(_++[_]).length=k6.k+1;rw[az8,h6];rfl,fun y_ hc=>(a0a.1 hc).elim (h5 y_) (fun hc=>by rw[az9.1 hc];exact hh),?_⟩;exact⟨qk h0.1 hi,by show(_++[_]).length=_;rw[az8,h0.2.1];rfl,h0.2.2.snoc h0.2.1 h7 hb⟩;refine RegG.via (fun _ h=>bm [0] 7 (.tree 22 (k6.L.map Ql)) (FzP.rows y5 (az9.2 rfl) rfl) rfl h) ?_;refine bh ?_;refine ArgG.mk (akh k6.L ⟨by omega,h5⟩ h0.1 (by omega)) rfl ?_;rintro _ ⟨i3,e3,rfl,hk⟩;exact rV rfl rfl ⟨_,rfl,fun hr=>akn hv (by omega) h0.2.2 (hk (by simpa using hr))⟩
structure GChg where
 n_:Int
 iD_:Int
 D_:List GVal
 B_:List GVal
variable{c:GChg}
abbrev Wr(x:GChg):List AV:=[.v (.int .i64 x.n_),.v (.int .i64 x.iD_),.tree 3 (x.D_.map gvA),.tree 3 (x.B_.map gvA)]
structure FitChg(x:GChg):Prop where
 D_:bn x.D_ (fun y=>FitVal y)
 B_:bn x.B_ (fun y=>FitVal y)
instance:Inhabited GChg:=⟨⟨0,0,[],[]⟩⟩
def jq{t:GTab}(h:t.d_.length<=1000):bn (ab t) (fun _=>True):=⟨by unfold ab;rw[a0b];omega,fun _ _=>trivial⟩
structure TabS(t:GTab):Prop where
 sm:SmTab t
 c1:1<=t.d_.length
 c5:t.d_.length<=5
 col:∀c∈t.d_,B5 c
 ck:∀e∈t.h_,CondE (ab t) e
structure SchS(s:List GTab):Prop where
 len:s.length<=4
 tab:∀t∈s,TabS t
 v:aly s
 w:SchW s
def TabS.to{t:GTab}(h:TabS t):TabOk t:=⟨by have:=h.c5;omega,fun x hx h1=>by obtain⟨c,hc,rfl⟩:=a0v.1 hx;have hk:=h.col c hc;unfold B5 at hk;have h1:c.E_=1:=h1;show -2147483648<=c.H_/\c.G_<=2147483647;omega,h.ck⟩
theorem nb(h:(!b)=false):b=true:=by cases b<;>simp_all
def auu(s:List GTab)(c:GChg):Prop:=∃j:Nat,c.n_=((j:Nat):Int)/\∃h:j<s.length,(0<c.D_.length->X0 s[j] c.D_)/\(0<c.B_.length->X0 s[j] c.B_)
noncomputable def Yk(c:GChg):List (Int×List GVal):=open Classical in if c.D_=c.B_ then[]else(if 0<c.D_.length then[(c.n_,c.D_)]else[])++(if 0<c.B_.length then[(c.n_,c.B_)]else[])
noncomputable def chS(l:List GChg):List (Int×List GVal):=(l.map Yk).flatten
theorem akb{l:List GChg}(h:k<l.length):chS (l.take (k+1))=chS (l.take k)++Yk l[k]:=by grind[chS,a0g,List.flatten_append,List.map_singleton,List.flatten_singleton]
theorem aru(h:c.D_=c.B_):Yk c=[]:=by unfold Yk;rw[a0d h]
theorem Ia(h:¬c.D_=c.B_):Yk c=(if 0<c.D_.length then[(c.n_,c.D_)]else[])++(if 0<c.B_.length then[(c.n_,c.B_)]else[]):=by unfold Yk;rw[a0c h]
end Go.Proofs.YtfpfdfhlljjckaaGreatDoor
namespace Go.Proofs
open Go.Shelf
def Tryz.cloV_ren:Go.Shelf.Ren:=⟨fun|41=>96|n=>n,fun|22=>54|23=>109|4=>4|n=>n,fun|n=>n⟩
def Tryz.cloV:Go.Proofs.SlLaysE0.n41 Tryz.prog Tryz.cloV_ren:={
 mixed:=by kernel_rfl
 f41:=⟨Tryz.f96.name,by decide,Tryz.func96.trans (congrArg some (by kernel_rfl))⟩
 t4:=Tryz.underlying4
 a4:=Tryz.isAgg4
 z4:=Tryz.sizeOf4
 v4:=Tryz.zeroValue4
 t22:=Tryz.underlying54
 a22:=Tryz.isAgg54
 z22:=Tryz.sizeOf54
 v22:=Tryz.zeroValue54}
end Go.Proofs
namespace Go.Proofs.YtfpfdfhlljjckaaGreatDoor
open Tryz
variable{af:Array Edge}{b:Bool}{x:GSta}{a n tb v:Int}{R:Int->GVal}{e:List AV}{S s:List GTab}{r w:List GVal}{L l:List Int}{cs:List Value}{i j k m q:Nat}{τ:Nat->AV}{T:Nat->Prop}{y:Operand}{g:Option (Nat×Bool)}{d:Option Tmp}{P:Program}{pos:String}{α:Type}{t ty:TypeId}{c:GChg}
set_option maxRecDepth 1000000
set_option maxHeartbeats 0
open Go.Shelf in
def cl_V:CloneL prog 96 5:=⟨⟨Tryz.cloV_ren,Tryz.t109,_,_,rfl,Tryz.cloV,by kernel_rfl,rfl,rfl,rfl,rfl,sizeOf109,by decide⟩,by decide⟩
set_option linter.unusedVariables false
set_option linter.unusedSimpArgs false
open Go.RowKit
theorem cm:RowF cnA 3:=⟨fun _=>rfl,fun _=>rfl,fun _ _=>rfl,fun _ _=>rfl,fun _ _=>rfl,fun _=>rfl⟩
theorem cx:RowF teA 4:=⟨fun _=>rfl,fun _=>rfl,fun _ _=>rfl,fun _ _=>rfl,fun _ _=>rfl,fun _=>rfl⟩
def Bel(l:List PVar)(w:List GVal):Prop:=w.length=l.length/\∀j (h1:j<w.length) (h2:j<l.length),py w[j] l[j]=true
def aza{t:GTab} :Bel (ab t) w↔Dt t w:=by constructor;rintro⟨h1,h2⟩;refine⟨by rw[h1];simp[ab],fun j hl h3=>?_⟩;have e:(ab t)[j]'(by simpa[ab]using h3)=zx t.d_[j]:=(by simp[ab]);rw[<-e];exact h2 j hl _;rintro⟨h1,h2⟩;refine⟨by rw[h1];simp[ab],fun j hl h3=>?_⟩;have e:(ab t)[j]=zx (t.d_[j]'(by simpa[ab]using h3)):=(by simp[ab]);rw[e];exact h2 j hl _
def Bx{l:List PVar}(h:Bel l w)(hl:LOk l)(hk:k<w.length)(h1:w[k].c_=1):-2147483648<=w[k].r_/\w[k].r_<=2147483647:=by have h2:k<l.length:=(by have:=h.1;omega);rcases U7 (h.2 k hk h2)with g|g|g;omega;have:=hl _ (az4 h2) g.2.1;omega;omega
def nOf(v:GVal)(k:Int):List Int:=if v.c_=0 then[k]else[]
def mOf(v:GVal)(k:Int):List Int:=if v.c_=0 then[]else[k]
def iOf(v:GVal)(k:Int):List PCon:=if v.c_=0 then[]else if v.c_=1 then[⟨⟨-v.r_,[⟨k,1⟩]⟩,true⟩]else[]
def tOf(v:GVal)(k:Int):List PTest:=if v.c_=0 then[]else if v.c_=1 then[]else[⟨k,0,false,v.l_⟩]
def exL{β:Type}(f:GVal->Int->List β)(w:List GVal):Nat->List β
 |0=>[]
 |k+1=>exL f w k++f (w.getD k zV) ((k:Nat):Int)
def exC(w:List GVal):PCl:=⟨exL nOf w w.length,exL mOf w w.length,[],exL iOf w w.length,exL tOf w w.length,[],[]⟩
noncomputable def mr(tb:Int)(l:List PVar)(w:List GVal):PPred:=⟨tb,((l.length:Nat):Int),l,open Classical in if Bel l w then[exC w]else[]⟩
theorem aaz{l:List PVar}(h:¬Bel l w):mr tb l w=⟨tb,((l.length:Nat):Int),l,[]⟩:=by unfold mr;rw[a0c h]
theorem wd{l:List PVar}(h:Bel l w):mr tb l w=⟨tb,((l.length:Nat):Int),l,[exC w]⟩:=by unfold mr;rw[a0d h]
structure KX where
 k:Nat
 N:List Int
 M:List Int
 I:List PCon
 T:List PTest
structure XI(w:List GVal)(s:KX):Prop where
 n:s.N=exL nOf w s.k
 m:s.M=exL mOf w s.k
 i:s.I=exL iOf w s.k
 t:s.T=exL tOf w s.k
 b:s.N.length<=s.k/\s.M.length<=s.k/\s.I.length<=s.k/\s.T.length<=s.k
def I3{s:KX}(h:XI w s)(hk:s.k<w.length){N M:List Int}{I:List PCon}{T:List PTest}(hN:N=s.N++nOf w[s.k] s.k)(hM:M=s.M++mOf w[s.k] s.k)(hI:I=s.I++iOf w[s.k] s.k)(hT:T=s.T++tOf w[s.k] s.k):XI w ⟨s.k+1,N,M,I,T⟩:=by have e:w.getD s.k zV=w[s.k]:=(by simp[List.getD,hk]);obtain⟨b1,b2,b3,b4⟩:=h.b;refine⟨by show N=exL nOf w (s.k+1);rw[exL,e,<-h.n,hN],by show M=exL mOf w (s.k+1);rw[exL,e,<-h.m,hM],by show I=exL iOf w (s.k+1);rw[exL,e,<-h.i,hI],by show T=exL tOf w (s.k+1);rw[exL,e,<-h.t,hT],?_⟩;have c1:(nOf w[s.k] s.k).length<=1:=(by unfold nOf;split<;>simp);have c2:(mOf w[s.k] s.k).length<=1:=(by unfold mOf;split<;>simp);have c3:(iOf w[s.k] s.k).length<=1:=(by unfold iOf;split;simp;split<;>simp);have c4:(tOf w[s.k] s.k).length<=1:=(by unfold tOf;split;simp;split<;>simp);show N.length<=s.k+1/\M.length<=s.k+1/\I.length<=s.k+1/\T.length<=s.k+1;rw[hN,hM,hI,hT];simp only[az8];omega
def Wy:(prog.info? 187).map (·.bytes)=some 40:=by kernel_rfl
def by64:(prog.info? 64).map (·.bytes)=some 40:=by kernel_rfl
def Gs:ff prog 81=some (some 4):=by kernel_rfl
def Rl:am prog 187=some 3:=by kernel_rfl
def Y0:am prog 196=some 2:=by kernel_rfl
def sz64:am prog 64=some 4:=by kernel_rfl
def Qt:bv prog 187=some (.agg #[.int .i64 0,.slice none 0 0,.bool false]):=by kernel_rfl
def Qs:bv prog 196=some (.agg #[.int .i64 0,.int .i64 0]):=by kernel_rfl
def zr64:bv prog 64=some (.agg #[.int .i64 0,.int .i64 0,.bool false,.string ⟨#[]⟩]):=by kernel_rfl
def Gv(s:ByteArray)(hs:j3 s):PRet prog 195 [.v (.string s)] (fun r=>r=vB (Mj s&&decide ((s.size:Int)<=16))):=by refine ovT [] [] func195 rfl rfl (LpG.on (fun k0:Nat=>(⟨fL [(0,.v (.string s)),(5,vI s.size),(6,vI k0)],hLz [],0⟩:St)) (fun k0=>(s.size-k0)) (fun k0=>(k0<=s.size/\∀j (hl:j<s.size),j<k0->F0 s j=true)) 0 (cnR rfl) ⟨a0h _,fun j _ h=>absurd h (a0i j)⟩ ?_);rintro k0 h3;have hgr_k0:s.size<=140737488355328:=a0m hs (by decide);obtain⟨h1,h0⟩:=h3;apply cL<;>intro h2;refine⟨‹_›,cB (fun h4=>?_) (fun h4=>?_)⟩;refine cT (rV rfl rfl ?_);(refine br (Eq.symm ?_);rw[show Mj s=false from dm h2 (by simp only[F0];simp_all)];rfl);refine⟨‹_›,cB (fun h5=>?_) (fun h5=>?_)⟩;refine rV rfl rfl ?_;(refine br (Eq.symm ?_);rw[show Mj s=false from dm h2 (by simp only[F0];simp_all)];rfl);refine⟨by omega,⟨(k0+1),by omega,(cnR rfl),?_⟩⟩;refine⟨by omega,fun j hl h=>?_⟩;rcases a0k.1 h with h|rfl;exact h0 j hl h;simp only[F0];simp_all;refine rV rfl rfl ?_;(refine br ?_;rw[show Mj s=true from dj h1 h2 (fun j h=>h0 j (by omega) h)];simp;done)
def Yr(v:GVal)(hv:FitVal v):PRet prog 151 [.agg (gvA v)] (fun r=>r=vB (B6 v)):=by
 refine ovT [] [] func151 rfl rfl ?_;apply cB<;>intro h6
 ·have h7:(v.c_:Int)=(0:Int):=by simpa using h6
  refine OpG.lk (pv rfl rfl) ?_;refine rV rfl rfl ?_;refine br ?_;unfold B6 jc;(simp_all;done)
 have h7:¬((v.c_:Int)=(0:Int)):=by simpa using h6
 apply cB<;>intro h0
 ·have h3:(v.c_:Int)=(1:Int):=by simpa using h0
  refine rV rfl rfl ?_;refine br ?_;unfold B6 jc;(simp_all;done)
 have h3:¬((v.c_:Int)=(1:Int)):=by simpa using h0
 apply cB<;>intro h1
 ·have h4:(v.c_:Int)=(2:Int):=by simpa using h1
  apply cB<;>intro h2
  ·have h5:(v.r_:Int)=(0:Int):=by simpa using h2
   refine ArgG.mk (Gv v.l_ hv.l_) rfl ?_;rintro _ rfl;refine rV rfl rfl ?_;refine br ?_;unfold B6 jc;(simp_all;done)
  have h5:¬((v.r_:Int)=(0:Int)):=by simpa using h2
  refine rV rfl rfl ?_;refine br ?_;unfold B6 jc;(simp_all;done)
 have h4:¬((v.c_:Int)=(2:Int)):=by simpa using h1
 refine rV rfl rfl ?_;refine br ?_;unfold B6 jc;(simp_all;done)
def ajg(v:GVal)(hv:FitVal v)(x:PVar):PRet prog 90 [.agg (gvA v),.agg (vA x)] (fun r=>r=vB (py v x)):=by
 refine ovT [] [] func90 rfl rfl ?_;refine ArgG.mk (Yr v hv) rfl ?_;rintro _ rfl;apply cB<;>intro hc7
 ·refine rV rfl rfl ?_;refine br ?_;unfold py;(simp_all;done)
 apply cB<;>intro h0
 ·have h5:(v.c_:Int)=(0:Int):=by simpa using h0
  refine rV rfl rfl ?_;refine br ?_;unfold py;(simp_all;done)
 have h5:¬((v.c_:Int)=(0:Int)):=by simpa using h0
 apply cB<;>intro h1
 ·have h6:(v.c_:Int)=(1:Int):=by simpa using h1
  apply cB<;>intro h2
  ·have h7:(x.t:Int)=(1:Int):=by simpa using h2
   apply cB<;>intro h3
   ·have h8:=a0f h3;refine rV rfl rfl ?_;refine br ?_;unfold py;(simp_all;done)
   have h8:=a0e h3;refine rV rfl rfl ?_;refine br ?_;unfold py;(simp_all;omega)
  have h7:¬((x.t:Int)=(1:Int)):=by simpa using h2
  refine cF (rV rfl rfl ?_);refine br ?_;unfold py;(simp_all;done)
 have h6:¬((v.c_:Int)=(1:Int)):=by simpa using h1
 apply cB<;>intro h4
 ·have h9:(x.t:Int)=(2:Int):=by simpa using h4
  refine rV rfl rfl ?_;refine br ?_;unfold py;(simp_all;done)
 have h9:¬((x.t:Int)=(2:Int)):=by simpa using h4
 refine rV rfl rfl ?_;refine br ?_;unfold py;(simp_all;done)
def Bw(w:List GVal)(hw:bn w (fun y=>FitVal y))(l:List PVar)(hl:bn l (fun y=>True)):PRet prog 39 [.tree 3 (w.map gvA),.tree 5 (l.map vA)] (fun r=>∃b:Bool,r=vB b/\(b=true↔Bel l w)):=by refine ovT [] [] func39 rfl rfl (LenG.of (LenG.of (cB (fun h0=>by have h6:¬(((w.length:Nat):Int)=((l.length:Nat):Int)):=(by simpa using h0);have h4:¬w.length=l.length:=(by have h:=h0;simp at h;omega);exact rV rfl rfl ⟨_,rfl,fun h=>absurd h a04,fun h=>absurd h.1 h4⟩) (fun h0=>have h6:((w.length:Nat):Int)=((l.length:Nat):Int):=(by simpa using h0);have h4:w.length=l.length:=(by have h:=h0;simp at h;omega);LenG.of (LpG.on (fun k0:Nat=>(⟨fL [(1,.tree 5 (l.map vA)),(12,.tree 3 (w.map gvA)),(13,vI w.length),(14,vI k0)],hLz [],0⟩:St)) (fun k0=>(w.length-k0)) (fun k0=>(k0<=w.length/\∀j (hl:j<w.length),j<k0->∀h2:j<l.length,py w[j] l[j]=true)) 0 (cnR rfl) ⟨a0h _,fun j _ h=>absurd h (a0i j)⟩ ?_)))));rintro k0 h7;have hgr_k0:w.length<=140737488355328:=hw.1;obtain⟨hle_k0,h3⟩:=h7;apply cL<;>intro hlt15;refine IdxG.of ‹_› (IdxG.of (by omega) (ArgG.mk (ajg (w[k0]) (hw.2 _ (az4 _)) (l[k0])) rfl ?_));rintro _ rfl;refine⟨by kernel_rfl,cB (fun h5=>rV rfl rfl ⟨_,rfl,fun h=>absurd h a04,fun h=>by have h1:=h.2 k0 (by omega) (by omega);simp[h1]at h5⟩) (fun h5=>⟨by omega,⟨(k0+1),by omega,(cnR rfl),⟨by omega,fun j hl h=>?_⟩⟩⟩)⟩;rcases a0k.1 h with h|rfl;exact h3 j hl h;intro h2;exact nb h5;exact rV rfl rfl ⟨_,rfl,fun _=>⟨h4,fun j h1 h2=>h3 j h1 (by omega) h2⟩,fun _=>rfl⟩
def Bj(tb:Int)(l:List PVar)(hl:bn l (fun y=>True))(w:List GVal)(hw:bn w (fun y=>FitVal y))(h8:LOk l)(hl1:l.length<=1000):PRet prog 44 [vI tb,.tree 5 (l.map vA),.tree 3 (w.map gvA)] (fun r=>r=.agg (prA (mr tb l w))):=by
 refine ovT [51,54] [15] func44 rfl rfl (LenG.of (ArgG.mk (PRet.of_call (CloneL.tree cl_V (fun _=>rfl) l (by omega))) rfl ?_));rintro _ rfl;refine ArgG.mk (Bw w hw l hl) rfl ?_;rintro _ ⟨b1,rfl,h7⟩;apply cB<;>intro h2;have h9:¬Bel l w:=fun h=>by rw[h7.2 h]at h2;simp at h2
 refine rtK rfl Gs rfl ⟨[],FzP.aggL (.cons (.pure rfl) (.cons (.pure rfl) (.cons (.pure rfl) (.cons (FzP.nil (n:=7)) .nil))))⟩ ?_;rw[aaz h9];rfl;have h3:=h7.1 (nb h2)
 have hwl:=h3.1;refine LenG.of (LpG.via (fun _ h=>dg 2 0 1 rfl rfl rfl rfl rfl 4 rfl h) (LpG.via (fun _ h=>dg 2 1 1 rfl rfl rfl rfl rfl 5 rfl h) (LpG.via (fun _ h=>dg 2 3 3 rfl rfl rfl rfl rfl 6 rfl h) (LpG.via (fun _ h=>dg 2 4 4 rfl rfl rfl rfl rfl 7 rfl h) (LpG.on (fun k0:KX=>(⟨fL [(6,.ptr 0 0 0),(7,.ptr 1 0 0),(8,.ptr 2 0 0),(22,.tree 3 (w.map gvA)),(23,vI w.length),(24,vI k0.k)],hLz [(0,⟨0,[vI 0,vI 0,.v (.slice none 0 0),.v (.slice none 0 0)],0,false⟩),(1,⟨0,[vI tb,vI l.length,.tree 5 (l.map vA),.v (.slice none 0 0)],0,false⟩),(2,⟨0,[.sl 3 k0.N.length 0 k0.N.length,.sl 4 k0.M.length 0 k0.M.length,.v (.slice none 0 0),.sl 5 k0.I.length 0 k0.I.length,.sl 6 k0.T.length 0 k0.T.length,.v (.slice none 0 0),.v (.slice none 0 0)],0,false⟩),(3,⟨k0.N.length,rF iA k0.N,1,Nat.beq k0.N.length 0⟩),(4,⟨k0.M.length,rF iA k0.M,1,Nat.beq k0.M.length 0⟩),(5,⟨k0.I.length,rF cnA k0.I,3,Nat.beq k0.I.length 0⟩),(6,⟨k0.T.length,rF teA k0.T,4,Nat.beq k0.T.length 0⟩)],7⟩:St)) (fun k0=>(w.length-k0.k)) (fun k0=>(k0.k<=w.length/\XI w k0)) (⟨0,[],[],[],[]⟩:KX) (cnS rfl (hpR rfl (hpR rfl (hpR (by rfl) (hpS (aa aj _ _) (by rfl) (hpS (aa aj _ _) (by rfl) (hpS (aa cm _ _) (by rfl) (hpS (aa cx _ _) (by rfl) trivial)))))))) ⟨a0h _,⟨rfl,rfl,rfl,rfl,by simp⟩⟩ ?_)))));rintro k0 h4;have hgr_k0:w.length<=140737488355328:=hw.1
 obtain⟨hle_k0,h0⟩:=h4;refine cL (fun h1=>by have hx:=h0.b;obtain⟨hx1,hx2,hx3,hx4⟩:=hx;exact IdxG.of ‹_› (cE (fun h5=>OpG.mk _ _ _ 9 (ae aj (a:=((k0.k:Nat):Int)) underlying53 sz3 zr3 by3 rfl rfl rfl (ap rfl rfl rfl rfl) rfl (by omega) (by omega) (by unfold TV;omega)) rfl rfl ⟨by omega,⟨(⟨k0.k+1,k0.N++[((k0.k:Nat):Int)],k0.M,k0.I,k0.T⟩:KX),(nsA ‹_›),(cnS rfl (hpR rfl (hpR rfl (.cons (by(rw[az8];rfl)) rfl rfl (.cons (by(rw[az8];rfl)) rfl (aa aj _ _) (hpS (aa aj _ _) (by rfl) (hpS (aa cm _ _) (by rfl) (hpS (aa cx _ _) (by rfl) trivial)))))))),⟨‹_›,I3 h0 h1 (by simp[nOf,mOf,iOf,tOf, *]) (by simp[nOf,mOf,iOf,tOf, *]) (by simp[nOf,mOf,iOf,tOf, *]) (by simp[nOf,mOf,iOf,tOf, *])⟩⟩⟩) (fun h5=>OpG.mk _ _ _ 9 (ae aj (a:=((k0.k:Nat):Int)) underlying53 sz3 zr3 by3 rfl rfl rfl (ap rfl rfl rfl rfl) rfl (by omega) (by omega) (by unfold TV;omega)) rfl rfl (cE (fun h6=>by have hir:=Bx h3 h8 h1 ‹_›;exact OpG.lk (ot rfl (by omega) (by omega)) (OpG.nw (cy (dn underlying183 Y0 Qs rfl rfl rfl rfl) (fun η' h=>be (f:=cfA) (l:=[(⟨((k0.k:Nat):Int),1⟩:PCoef)]) (az9.2 rfl) h rfl rfl rfl rfl rfl (fun a _=>⟨rfl,rfl⟩))) rfl (OpG.mk _ _ _ 11 (ae cm (a:=(⟨⟨-w[k0.k].r_,[(⟨((k0.k:Nat):Int),1⟩:PCoef)]⟩,true⟩:PCon)) underlying124 Rl Qt Wy rfl rfl rfl (ap rfl rfl rfl rfl) rfl (by omega) (by omega) (by unfold TV;omega)) rfl rfl ⟨by omega,⟨(⟨k0.k+1,k0.N,k0.M++[((k0.k:Nat):Int)],k0.I++[(⟨⟨-w[k0.k].r_,[(⟨((k0.k:Nat):Int),1⟩:PCoef)]⟩,true⟩:PCon)],k0.T⟩:KX),(nsA ‹_›),(cnS rfl (hpR rfl (hpR rfl (.cons (by(rw[az8,az8];rfl)) rfl rfl (hpS (aa aj _ _) (by rfl) (.cons (by(rw[az8];rfl)) rfl (aa aj _ _) (.cons (by(rw[az8,az8];rfl)) rfl (aa cm _ _) (hpS (aa cx _ _) (by rfl) trivial)))))))),⟨‹_›,I3 h0 h1 (by simp[nOf,mOf,iOf,tOf, *]) (by simp[nOf,mOf,iOf,tOf, *]) (by simp[nOf,mOf,iOf,tOf, *]) (by simp[nOf,mOf,iOf,tOf, *])⟩⟩⟩))) (fun h6=>OpG.mk _ _ _ 10 (ae cx (a:=(⟨((k0.k:Nat):Int),0,false,w[k0.k].l_⟩:PTest)) underlying125 sz64 zr64 by64 rfl rfl rfl (ap rfl rfl rfl rfl) rfl (by omega) (by omega) (by unfold TV;omega)) rfl rfl ⟨by omega,⟨(⟨k0.k+1,k0.N,k0.M++[((k0.k:Nat):Int)],k0.I,k0.T++[(⟨((k0.k:Nat):Int),0,false,w[k0.k].l_⟩:PTest)]⟩:KX),(nsA ‹_›),(cnS rfl (hpR rfl (hpR rfl (.cons (by(rw[az8,az8];rfl)) rfl rfl (hpS (aa aj _ _) (by rfl) (.cons (by(rw[az8];rfl)) rfl (aa aj _ _) (hpS (aa cm _ _) (by rfl) (.cons (by(rw[az8,az8];rfl)) rfl (aa cx _ _) .nil)))))))),⟨‹_›,I3 h0 h1 (by simp[nOf,mOf,iOf,tOf, *]) (by simp[nOf,mOf,iOf,tOf, *]) (by simp[nOf,mOf,iOf,tOf, *]) (by simp[nOf,mOf,iOf,tOf, *])⟩⟩⟩))))) (fun hge25=>RegG.via (fun _ h=>dt [3,4,5,6] 2 0 0 [.sl 3 k0.N.length 0 k0.N.length,.sl 4 k0.M.length 0 k0.M.length,.v (.slice none 0 0),.sl 5 k0.I.length 0 k0.I.length,.sl 6 k0.T.length 0 k0.T.length,.v (.slice none 0 0),.v (.slice none 0 0)] [.tree 1 (k0.N.map iA),.tree 1 (k0.M.map iA),.tree 4 [],.tree 3 (k0.I.map cnA),.tree 4 (k0.T.map teA),.tree 2 [],.tree 2 []] rfl rfl (.fz (FzP.rows aj (by simp) rfl) (.fz (FzP.rows aj (by simp) rfl) (.fz FzP.nil (.fz (FzP.rows cm (by simp) rfl) (.fz (FzP.rows cx (by simp) rfl) (.fz FzP.nil (.fz FzP.nil (.same _)))))))) rfl h) (bh (rtK rfl Gs rfl ⟨[7],FzP.aggL (.cons (.pure rfl) (.cons (.pure rfl) (.cons (.pure rfl) (.cons (be (f:=clA) (l:=[(⟨k0.N,k0.M,[],k0.I,k0.T,[],[]⟩:PCl)]) (az9.2 rfl) rfl rfl rfl rfl rfl rfl (fun a _=>⟨rfl,rfl⟩)) .nil))))⟩ (have e0:k0.k=w.length:=(by omega);have e1:=h0.n;have e2:=h0.m;have e3:=h0.i;have e4:=h0.t;?_))));rw[e0]at e1 e2 e3 e4;rw[wd h3,e1,e2,e3,e4];rfl
structure PAcc where
 w:Bool
 p:PPred
abbrev acA(a:PAcc):List AV:=.v (.bool a.w)::prA a.p
def k9:RowF acA 5:=⟨fun _=>rfl,fun _=>rfl,fun _ _=>rfl,fun _ _=>rfl,fun _ _=>rfl,fun _=>rfl⟩
noncomputable def Xz(s:List GTab)(p:Int×List GVal):PAcc:=⟨true,mr p.1 (ab (s.getD p.1.toNat default)) p.2⟩
noncomputable def P4(s:List GTab)(l:List GChg):List PAcc:=(chS l).map (Xz s)
def wo{l:List GChg}{L L':List PAcc}(h:k<l.length)(hL:L=P4 s (l.take k))(h':L'=L++(Yk l[k]).map (Xz s)):L'=P4 s (l.take (k+1)):=by unfold P4 at hL ⊢;rw[akb h,a0u,<-hL,h']
theorem N9{t:Int}(hj:j<s.length)(ht:t=((j:Nat):Int)):(⟨true,mr t (ab s[j]) r⟩:PAcc)=Xz s (t,r):=by grind[Xz]
def ar1:(prog.info? 83).map (·.bytes)=some 72:=by kernel_rfl
def Fx:am prog 83=some 5:=by kernel_rfl
def alr:bv prog 83=some (.agg #[.bool false,.int .i64 0,.int .i64 0,.slice none 0 0,.slice none 0 0]):=by kernel_rfl
def Wu(s:List GTab)(hs:bn s (fun y=>FitTab y))(l:List GChg)(hl:bn l (fun y=>FitChg y))(ha:SchS s)(hb:∀c∈l,auu s c)(hl6:l.length<=6):PRet prog 37 [.tree 5 (s.map jf),.tree 4 (l.map Wr)] (fun r=>r=.tree 5 ((P4 s l).map acA)):=by
 refine ovT [40] [] func37 rfl rfl ?_;refine LenG.of (LpG.via (fun _ h=>bu 5 5 rfl 1 rfl h) ?_);refine LpG.on (fun k0:KL PAcc=>(⟨fL [(0,.tree 5 (s.map jf)),(5,.sl 0 k0.L.length 0 k0.L.length),(10,.tree 4 (l.map Wr)),(11,vI l.length),(12,vI k0.k)],hLz [(0,⟨k0.L.length,rF acA k0.L,5,Nat.beq k0.L.length 0⟩)],1⟩:St)) (fun k0=>(l.length-k0.k)) (fun k0=>(k0.k<=l.length/\(k0.L=P4 s (l.take k0.k)/\k0.L.length<=2*k0.k))) (⟨0,[]⟩:KL PAcc) (cnS (by rfl) (hpS (aa k9 _ _) (by rfl) trivial)) ⟨a0h _,⟨rfl,a0j _⟩⟩ ?_;rintro k0 h7;have hgr_k0:l.length<=140737488355328:=hl.1
 obtain⟨hle_k0,h0⟩:=h7;apply cL<;>intro h1
 ·have hl2:=h0.2;obtain⟨j1,h4,h2,_⟩:=hb _ (az4 h1);have h8:=(ha.tab _ (az4 h2)).to
  have hlk:=h8.lk;have hc:=h8.cl
  have hvf:=jq hc;have hvl:(ab s[j1]).length<=1000:=by simp only[ab,a0b];omega
  refine IdxG.of ‹_› (ArgG.mk (Dh (l[k0.k].D_) (hl.2 _ (az4 _)).D_ (l[k0.k].B_) (hl.2 _ (az4 _)).B_) rfl ?_);rintro _ ⟨b0,rfl,h9⟩;apply cB<;>intro h5
  ·have hd:=h9.1 h5;refine⟨by omega,?_⟩;refine⟨(⟨k0.k+1,k0.L⟩:KL PAcc),(nsA ‹_›),(cnS (by rfl) (hpS (aa k9 _ _) (by rfl) trivial)),?_⟩;refine⟨‹_›,?_⟩;exact⟨wo h1 h0.1 (by(rw[aru ‹_›];simp;done)),by have:=h0.2;simp only[az8,a0r,a0s];omega⟩
  have hd:¬l[k0.k].D_=l[k0.k].B_:=fun h=>absurd (h9.2 h) (by rw[h5];decide);refine ks (ULp.step ?_);refine cT ⟨(by first|assumption|omega|decide),LenG.of ?_⟩;apply cB<;>intro h6
  ·have h3:=a0f h6;refine OpG.lk (ah underlying42 Cu rfl rfl h4 h2) ?_;refine ArgG.mk (c9 (s[j1]) (hs.2 _ (az4 _)) (by omega)) rfl ?_;rintro _ rfl;refine ArgG.mk (Bj (l[k0.k].n_) ((ab (s[j1]))) ‹_› (l[k0.k].D_) (hl.2 _ (az4 _)).D_ ‹_› (by omega)) rfl ?_;rintro _ rfl;refine OpG.mk _ _ _ 4 (ae k9 (a:=(⟨true,mr l[k0.k].n_ (ab s[j1]) (l[k0.k].D_)⟩:PAcc)) underlying74 Fx alr ar1 rfl rfl rfl (ap rfl rfl rfl rfl) rfl (by omega) (by omega) (by unfold TV;omega)) rfl rfl ?_;refine⟨by kernel_rfl,?_⟩;refine⟨by omega,?_⟩;refine ULp.step ?_;refine cT ⟨(by first|assumption|omega|decide),LenG.of ?_⟩;apply cD<;>intro h3
   ·refine OpG.lk (ah underlying42 Cu rfl rfl h4 h2) ?_;refine ArgG.mk (c9 (s[j1]) (hs.2 _ (az4 _)) (by omega)) rfl ?_;rintro _ rfl;refine ArgG.mk (Bj (l[k0.k].n_) ((ab (s[j1]))) ‹_› (l[k0.k].B_) (hl.2 _ (az4 _)).B_ ‹_› (by omega)) rfl ?_;rintro _ rfl;refine OpG.mk _ _ _ 5 (ae k9 (a:=(⟨true,mr l[k0.k].n_ (ab s[j1]) (l[k0.k].B_)⟩:PAcc)) underlying74 Fx alr ar1 rfl rfl rfl (ap rfl rfl rfl rfl) rfl (by(simp only[az8,a0r,a0s];omega)) (by(simp only[az8,a0r,a0s];omega)) (by unfold TV;omega)) rfl rfl ?_;refine⟨by kernel_rfl,?_⟩;refine⟨by omega,?_⟩;refine ULp.step ?_;refine cF ⟨by omega,⟨(⟨k0.k+1,k0.L++[(⟨true,mr l[k0.k].n_ (ab s[j1]) (l[k0.k].D_)⟩:PAcc)]++[(⟨true,mr l[k0.k].n_ (ab s[j1]) (l[k0.k].B_)⟩:PAcc)]⟩:KL PAcc),(nsA ‹_›),(cO (.cons rfl rfl (.cons (by(rw[az8,az8,az8];rfl)) rfl (.cons rfl rfl (.cons rfl rfl (.cons rfl rfl .nil))))) (.cons (by(rw[az8,az8,az8];rfl)) rfl (aa k9 _ _) .nil)),?_⟩⟩;refine⟨‹_›,?_⟩;exact⟨wo h1 h0.1 (by(rw[Ia ‹_›,a0d (by omega),a0d (by omega)];simp[N9 h2 h4];done)),by have:=h0.2;simp only[az8,a0r,a0s];omega⟩
   refine⟨by omega,?_⟩;refine ULp.step ?_;refine cF ⟨by omega,⟨(⟨k0.k+1,k0.L++[(⟨true,mr l[k0.k].n_ (ab s[j1]) (l[k0.k].D_)⟩:PAcc)]⟩:KL PAcc),(nsA ‹_›),(cO (.cons rfl rfl (.cons (by(rw[az8];rfl)) rfl (.cons rfl rfl (.cons rfl rfl (.cons rfl rfl .nil))))) (.cons (by(rw[az8];rfl)) rfl (aa k9 _ _) .nil)),?_⟩⟩;refine⟨‹_›,?_⟩;exact⟨wo h1 h0.1 (by(rw[Ia ‹_›,a0d (by omega),a0c (by omega)];simp[N9 h2 h4];done)),by have:=h0.2;simp only[az8,a0r,a0s];omega⟩
  have h3:=a0e h6;refine⟨by omega,?_⟩;refine ULp.step ?_;refine cT ⟨(by first|assumption|omega|decide),LenG.of ?_⟩;apply cD<;>intro h3
  ·refine OpG.lk (ah underlying42 Cu rfl rfl h4 h2) ?_;refine ArgG.mk (c9 (s[j1]) (hs.2 _ (az4 _)) (by omega)) rfl ?_;rintro _ rfl;refine ArgG.mk (Bj (l[k0.k].n_) ((ab (s[j1]))) ‹_› (l[k0.k].B_) (hl.2 _ (az4 _)).B_ ‹_› (by omega)) rfl ?_;rintro _ rfl;refine OpG.mk _ _ _ 4 (ae k9 (a:=(⟨true,mr l[k0.k].n_ (ab s[j1]) (l[k0.k].B_)⟩:PAcc)) underlying74 Fx alr ar1 rfl rfl rfl (ap rfl rfl rfl rfl) rfl (by omega) (by omega) (by unfold TV;omega)) rfl rfl ?_;refine⟨by kernel_rfl,?_⟩;refine⟨by omega,?_⟩;refine ULp.step ?_;refine cF ⟨by omega,⟨(⟨k0.k+1,k0.L++[(⟨true,mr l[k0.k].n_ (ab s[j1]) (l[k0.k].B_)⟩:PAcc)]⟩:KL PAcc),(nsA ‹_›),(cO (.cons rfl rfl (.cons (by(rw[az8];rfl)) rfl (.cons rfl rfl (.cons rfl rfl (.cons rfl rfl .nil))))) (.cons (by(rw[az8];rfl)) rfl (aa k9 _ _) .nil)),?_⟩⟩;refine⟨‹_›,?_⟩;exact⟨wo h1 h0.1 (by(rw[Ia ‹_›,a0c (by omega),a0d (by omega)];simp[N9 h2 h4];done)),by have:=h0.2;simp only[az8,a0r,a0s];omega⟩
  refine⟨by omega,?_⟩;refine ULp.step ?_;refine cF ⟨by omega,⟨(⟨k0.k+1,k0.L⟩:KL PAcc),(nsA ‹_›),(cnS (by rfl) (hpS (aa k9 _ _) (by rfl) trivial)),?_⟩⟩;refine⟨‹_›,?_⟩;exact⟨wo h1 h0.1 (by(rw[Ia ‹_›,a0c (by omega),a0c (by omega)];simp;done)),by have:=h0.2;simp only[az8,a0r,a0s];omega⟩
 refine rtA rfl ⟨[0],FzP.rows k9 (az9.2 rfl) rfl⟩ ?_;have e1:=h0.1
 rw[a0x (by omega)]at e1;rw[e1]
def acd{η:bo}{t t':Nat}{x:Operand}(hx:aev τ x=vI a)(hy:aev τ y=vI n)(ha:a=1)(h1:-9223372036854775808<=n)(h2:n<=9223372036854775807):
 LOp P ⟨d,.binOp .mul t x y t',ty,pos,af,g⟩ τ η [] [] (vI n):=by
 subst ha
 have:=ji (P:=P) (τ:=τ) (η:=η) (d:=d) (ty:=ty) (pos:=pos) (af:=af) (g:=g) (t:=t) (t':=t') hx hy (by omega) (by omega)
 rwa [Int.one_mul]at this
structure HC(n:Nat)(c:PCl):Prop where
 nul:∀v∈c.nul,0<=v/\v<n
 nn:∀v∈c.nn,0<=v/\v<n
 aux:c.aux=[]
 same:c.same=[]
 diff:c.diff=[]
 ints:∀k∈c.ints,∃v m:Int,k=⟨⟨-m,[⟨v,1⟩]⟩,true⟩/\(0<=v/\v<n)/\-2147483648<=m/\m<=2147483647
 tests:∀t∈c.tests,t.kd=0/\t.ng=false/\0<=t.v/\t.v<n
 l1:c.nul.length<=1000
 l2:c.nn.length<=1000
 l3:c.ints.length<=1000
 l4:c.tests.length<=1000
def alz(w:List GVal):Prop:=∀j (h:j<w.length),w[j].c_=1->-2147483648<=w[j].r_/\w[j].r_<=2147483647
def abw{l:List PVar}(h:Bel l w)(hl:LOk l):alz w:=fun j hj h1=>Bx h hl hj h1
def q7(w:List GVal)(v:Int):Prop:=(bj w v).c_=0
def nnH(w:List GVal)(v:Int):Prop:=¬(bj w v).c_=0
def auq(w:List GVal)(k:PCon):Prop:=∃v m:Int,k=⟨⟨-m,[⟨v,1⟩]⟩,true⟩/\(bj w v).c_=1/\(bj w v).r_=m
def tesH(w:List GVal)(t:PTest):Prop:=(bj w t.v).c_=2/\(bj w t.v).l_=t.s
structure HoldsS(c:PCl)(w:List GVal):Prop where
 nul:∀v∈c.nul,q7 w v
 nn:∀v∈c.nn,nnH w v
 ints:∀k∈c.ints,auq w k
 tests:∀t∈c.tests,tesH w t
theorem dw(hv:v=((j:Nat):Int))(hj:j<w.length):bj w v=w[j]:=by subst hv;exact jv hj
def ai2{k:PCon}{m:Int}(hk:k=⟨⟨-m,[⟨v,1⟩]⟩,true⟩)(hv:v=((j:Nat):Int))(hj:j<w.length)(hn:¬(w[j].c_=1/\w[j].r_=m)):¬auq w k:=by grind[auq,List.cons.injEq,dw]
def asf:ca prog 41=true:=by kernel_rfl
def Pd(w:List GVal)(hw:bn w (fun y=>FitVal y))(v:Int)(j:Nat)(hv:v=((j:Nat):Int))(hj:j<w.length):PRet prog 152 [vI v,.tree 3 (w.map gvA),.v (.slice none 0 0)] (fun r=>∃(x:Int) (b:Bool),r=.tup [vI x,vB b]/\x=w[j].r_/\(b=true↔w[j].c_=1)):=by
 refine ovT [21,26] [] func152 rfl rfl ?_;refine LenG.of (cB (fun h0=>?_) (fun h0=>?_));exfalso;have:=a0f h0;omega
 have hq11:=a0e h0;refine OpG.lk (ah underlying36 uu rfl rfl hv hj) ?_;refine OpG.lk (ah underlying36 uu rfl rfl hv hj) ?_;refine⟨by kernel_rfl,?_⟩;refine rtB rfl rfl ?_;exact⟨_,_,rfl,rfl,by simp⟩
def Pn(w:List GVal)(hw:bn w (fun y=>FitVal y))(v m:Int)(j:Nat)(hv:v=((j:Nat):Int))(hj:j<w.length)(hm:-2147483648<=m/\m<=2147483647)(h3:alz w):PRet prog 93 [.agg (liA (⟨-m,[(⟨v,1⟩:PCoef)]⟩:PLin)),.tree 3 (w.map gvA),.v (.slice none 0 0)] (fun r=>∃(x:Int) (b:Bool),r=.tup [vI x,vB b]/\(b=true->w[j].c_=1/\x=w[j].r_-m)/\(b=false->¬w[j].c_=1)):=by have e1:(⟨-m,[⟨v,1⟩]⟩:PLin).k=-m:=rfl;refine ovT [36] [] func93 rfl rfl (LenG.of (ks (ULp.step (cT (IdxG.of (j:=0) (by exact Nat.zero_lt_one) (ArgG.mk (Pd w hw v j hv hj) rfl ?_))))));rintro _ ⟨x0,b0,rfl,hx0,h1⟩;exact cB (fun h0=>rtB rfl rfl ⟨_,_,rfl,fun h=>absurd h a04,fun _ h=>by rw[h1.2 h]at h0;simp at h0⟩) (fun h0=>have h4:=nb h0;have h2:=h1.1 h4;have hrw:=h3 j hj h2;OpG.lk (acd rfl rfl rfl (by omega) (by omega)) ⟨by omega,⟨by omega,ULp.step (cF (rtB rfl rfl ⟨_,_,rfl,fun _=>⟨h2,by omega⟩,fun h=>absurd h.symm a04⟩))⟩⟩)
def Ih(c:PCl)(w:List GVal)(hw:bn w (fun y=>FitVal y))(ha:c.aux=[]):PRet prog 92 [.agg (clA c),.tree 3 (w.map gvA)] (fun r=>r=.tup [.v (.slice none 0 0),vB true]):=ovT [] [] func92 rfl rfl (LenG.of (LpG.exit (cB (fun h0=>by exfalso;have:=a0f h0;rw[ha]at this;exact absurd this (by decide)) (fun h0=>have hq16:=a0e h0;rtB rfl rfl rfl))))
def Sv(t:PTest)(s:ByteArray)(hs:j3 s)(hk:t.kd=0):PRet prog 94 [.agg (teA t),.v (.string s)] (fun r=>r=vB (s.toList==t.s.toList)):=by refine ovT [] [] func94 rfl rfl (cB (fun h0=>by have h1:=h0;simp at h1;exact rV rfl rfl rfl) (fun h0=>?_));exfalso;rw[hk]at h0;exact absurd h0 (by decide)
def aaj(c:PCl)(w:List GVal)(hw:bn w (fun y=>FitVal y))(hc:HC w.length c)(g0:alz w):PRet prog 42 [.agg (clA c),.tree 3 (w.map gvA)] (fun r=>∃b:Bool,r=vB b/\(b=true↔HoldsS c w)):=by
 have hc1:=hc.l1;have hc2:=hc.l2
 have hc3:=hc.l3;have hc4:=hc.l4
 refine ovT [30,44,97,106] [] func42 rfl rfl ?_;refine LenG.of (LpG.on (fun k0:Nat=>(⟨fL [(1,.tree 3 (w.map gvA)),(2,.ptr 0 0 0),(22,.tree 1 (c.nul.map iA)),(23,vI c.nul.length),(24,vI k0)],hLz [(0,⟨0,clA c,0,false⟩)],1⟩:St)) (fun k0=>(c.nul.length-k0)) (fun k0=>(k0<=c.nul.length/\∀j (hl:j<c.nul.length),j<k0->q7 w c.nul[j])) 0 (cnR rfl) ⟨a0h _,fun j _ h=>absurd h (a0i j)⟩ ?_);rintro k0 h3;obtain⟨hle_k0,hb⟩:=h3;apply cL<;>intro h5;obtain⟨j1,h0,hj1l⟩:∃j:Nat,c.nul[k0]=((j:Nat):Int)/\j<w.length:=⟨(c.nul[k0]).toNat,by have:=hc.nul _ (az4 h5);omega,by have:=hc.nul _ (az4 h5);omega⟩;refine IdxG.of ‹_› (OpG.lk (ah underlying36 uu rfl rfl h0 hj1l) ?_);apply cB<;>intro hn;have hq:¬((w[j1].c_:Int)=(0:Int)):=by simpa using hn
 exact rV rfl rfl ⟨_,rfl,fun h=>absurd h a04,fun h=>by have h1:=h.nul _ (az4 h5);unfold q7 at h1;rw[dw h0 hj1l]at h1;exact absurd h1 hq⟩;have hq:(w[j1].c_:Int)=(0:Int):=by simpa using hn
 refine⟨by omega,?_⟩;refine⟨(k0+1),by omega,(cnR rfl),?_⟩;refine⟨by omega,fun j hl h=>?_⟩;rcases a0k.1 h with h|rfl;exact hb j hl h;show(bj w _).c_=0
 rw[dw h0 hj1l];simpa using hn;refine LenG.of (LpG.on (fun k2:Nat=>(⟨fL [(1,.tree 3 (w.map gvA)),(2,.ptr 0 0 0),(36,.tree 1 (c.nn.map iA)),(37,vI c.nn.length),(38,vI k2)],hLz [(0,⟨0,clA c,0,false⟩)],1⟩:St)) (fun k2=>(c.nn.length-k2)) (fun k2=>(k2<=c.nn.length/\∀j (hl:j<c.nn.length),j<k2->nnH w c.nn[j])) 0 (cnR rfl) ⟨a0h _,fun j _ h=>absurd h (a0i j)⟩ ?_);rintro k2 h3;obtain⟨hle_k2,hd⟩:=h3;apply cL<;>intro h6;obtain⟨j1,h0,hj1l⟩:∃j:Nat,c.nn[k2]=((j:Nat):Int)/\j<w.length:=⟨(c.nn[k2]).toNat,by have:=hc.nn _ (az4 h6);omega,by have:=hc.nn _ (az4 h6);omega⟩;refine IdxG.of ‹_› (OpG.lk (ah underlying36 uu rfl rfl h0 hj1l) ?_);apply cB<;>intro ho;have hr:(w[j1].c_:Int)=(0:Int):=by simpa using ho
 exact rV rfl rfl ⟨_,rfl,fun h=>absurd h a04,fun h=>by have h1:=h.nn _ (az4 h6);unfold nnH at h1;rw[dw h0 hj1l]at h1;exact absurd hr h1⟩;have hr:¬((w[j1].c_:Int)=(0:Int)):=by simpa using ho
 refine⟨by omega,?_⟩;refine⟨(k2+1),by omega,(cnR rfl),?_⟩;refine⟨by omega,fun j hl h=>?_⟩;rcases a0k.1 h with h|rfl;exact hd j hl h;show¬(bj w _).c_=0
 rw[dw h0 hj1l];simpa using ho;refine ArgG.mk (Ih c w hw hc.aux) rfl ?_;rintro _ rfl;apply cB<;>intro ht;exact absurd ht (by decide);refine LenG.of (LpG.on (fun k4:Nat=>(⟨fL [(1,.tree 3 (w.map gvA)),(2,.ptr 0 0 0),(9,.v (.slice none 0 0)),(58,.tree 3 (c.ints.map cnA)),(59,vI c.ints.length),(60,vI k4)],hLz [(0,⟨0,clA c,0,false⟩)],1⟩:St)) (fun k4=>(c.ints.length-k4)) (fun k4=>(k4<=c.ints.length/\∀j (hl:j<c.ints.length),j<k4->auq w c.ints[j])) 0 (cnR rfl) ⟨a0h _,fun j _ h=>absurd h (a0i j)⟩ ?_);rintro k4 h3;obtain⟨hle_k4,he⟩:=h3;apply cL<;>intro h4;obtain⟨v1,m1,hp,hx,g1⟩:=hc.ints _ (az4 h4);obtain⟨j1,h0,hj1l⟩:∃j:Nat,v1=((j:Nat):Int)/\j<w.length:=⟨(v1).toNat,by have:=hx;omega,by have:=hx;omega⟩;refine IdxG.of ‹_› (ArgG.mk ((show PRet prog 93 [.agg (liA c.ints[k4].l),.tree 3 (w.map gvA),.v (.slice none 0 0)] _ by rw[hp];exact Pn w hw v1 m1 j1 h0 hj1l g1 g0)) rfl ?_);rintro _ ⟨x1,b1,rfl,ha,hu⟩;apply cB<;>intro h7;refine cT (cT ?_);exact rV rfl rfl ⟨_,rfl,fun h=>absurd h a04,fun h=>absurd (h.ints _ (az4 h4)) (ai2 hp h0 hj1l (fun hh=>hu (by simpa using h7) hh.1))⟩;apply cD<;>intro hq78;exact cT (rV rfl rfl ⟨_,rfl,fun h=>absurd h a04,fun h=>absurd (h.ints _ (az4 h4)) (ai2 hp h0 hj1l (fun hh=>by have:=(ha (nb h7)).2;omega))⟩);apply cB<;>intro hs;apply cN<;>intro hq85;exact rV rfl rfl ⟨_,rfl,fun h=>absurd h a04,fun h=>absurd (h.ints _ (az4 h4)) (ai2 hp h0 hj1l (fun hh=>by have:=(ha (nb h7)).2;omega))⟩;refine⟨by omega,?_⟩;refine⟨(k4+1),by omega,(cnR rfl),?_⟩;refine⟨by omega,fun j hl h=>?_⟩;rcases a0k.1 h with h|rfl;exact he j hl h;exact⟨v1,m1,hp,by rw[dw h0 hj1l];exact(ha (nb h7)).1,by rw[dw h0 hj1l];have:=(ha (nb h7)).2;omega⟩;exfalso;rw[hp]at hs;exact Bool.noConfusion hs;refine LenG.of (LpG.on (fun k6:Nat=>(⟨fL [(1,.tree 3 (w.map gvA)),(2,.ptr 0 0 0),(88,.tree 4 (c.tests.map teA)),(89,vI c.tests.length),(90,vI k6)],hLz [(0,⟨0,clA c,0,false⟩)],1⟩:St)) (fun k6=>(c.tests.length-k6)) (fun k6=>(k6<=c.tests.length/\∀j (hl:j<c.tests.length),j<k6->tesH w c.tests[j])) 0 (cnR rfl) ⟨a0h _,fun j _ h=>absurd h (a0i j)⟩ ?_);rintro k6 h3;obtain⟨hle_k6,hf⟩:=h3;apply cL<;>intro h8;obtain⟨g2,hy,hz⟩:=hc.tests _ (az4 h8);obtain⟨j1,h0,hj1l⟩:∃j:Nat,c.tests[k6].v=((j:Nat):Int)/\j<w.length:=⟨(c.tests[k6].v).toNat,by have:=hz;omega,by have:=hz;omega⟩;refine IdxG.of ‹_› (OpG.lk (ah underlying36 uu rfl rfl h0 hj1l) ?_);apply cB<;>intro h9;have hg:¬((w[j1].c_:Int)=(2:Int)):=by simpa using h9
 refine⟨by kernel_rfl,?_⟩;exact cT (rV rfl rfl ⟨_,rfl,fun h=>absurd h a04,fun h=>by have h1:=(h.tests _ (az4 h8)).1;rw[dw h0 hj1l]at h1;exact absurd h1 hg⟩);have hg:(w[j1].c_:Int)=(2:Int):=by simpa using h9
 refine OpG.lk (ah underlying36 uu rfl rfl h0 hj1l) ?_;refine ArgG.mk (Sv c.tests[k6] w[j1].l_ (hw.2 _ (az4 hj1l)).l_ g2) rfl ?_;rintro _ rfl;refine⟨by kernel_rfl,?_⟩;apply cB<;>intro hi;exact rV rfl rfl ⟨_,rfl,fun h=>absurd h a04,fun h=>by have h1:=(h.tests _ (az4 h8)).2;rw[dw h0 hj1l]at h1;have h2:=hi;rw[hy,h1]at h2;simp at h2⟩;refine⟨by omega,?_⟩;refine⟨(k6+1),by omega,(cnR rfl),?_⟩;refine⟨by omega,fun j hl h=>?_⟩;rcases a0k.1 h with h|rfl;exact hf j hl h;refine⟨by rw[dw h0 hj1l];simpa using h9,?_⟩;rw[dw h0 hj1l];have h:=hi
 rw[hy]at h;simp at h;exact toList_inj h;refine LenG.of (LpG.exit ?_);apply cB<;>intro hk;exfalso;have:=a0f hk;rw[hc.same]at this;exact absurd this (by decide)
 have hq119:=a0e hk;refine LenG.of (LpG.exit ?_);apply cB<;>intro hm;exfalso;have:=a0f hm;rw[hc.diff]at this;exact absurd this (by decide)
 have hq158:=a0e hm;exact rV rfl rfl ⟨_,rfl,fun _=>⟨fun v hv=>by obtain⟨j,hj,rfl⟩:=a0p hv;exact hb j hj (by omega),fun v hv=>by obtain⟨j,hj,rfl⟩:=a0p hv;exact hd j hj (by omega),fun v hv=>by obtain⟨j,hj,rfl⟩:=a0p hv;exact he j hj (by omega),fun v hv=>by obtain⟨j,hj,rfl⟩:=a0p hv;exact hf j hj (by omega)⟩,fun _=>rfl⟩
def O8(c:PCl)(w:List GVal)(hw:bn w (fun y=>FitVal y))(hc:HC w.length c)(h0:alz w):PRet prog 41 [.agg (clA c),.tp [.tree 3 (w.map gvA)] 0] (fun r=>∃b:Bool,r=vB b/\(b=true↔HoldsS c w)):=by refine ovT [] [] func41 rfl rfl (ArgG.mk (aaj c w hw hc h0) rfl ?_);rintro _ ⟨b0,rfl,h1⟩;exact rV rfl rfl ⟨_,rfl,h1⟩
def aah(l:List PCl)(hl:bn l (fun y=>True))(w:List GVal)(hw:bn w (fun y=>FitVal y))(h6:∀c∈l,HC w.length c)(h7:alz w)(hl1:l.length<=1000):PRet prog 91 [.tree 7 (l.map clA),.clo 41 [.tp [.tree 3 (w.map gvA)] 0]] (fun r=>∃i:Int,r=vI i/\(0<=i↔∃c∈l,HoldsS c w)):=by
 refine ovT [16] [] func91 rfl rfl (LenG.of (LpG.on (fun k0:Nat=>(⟨fL [(0,.tree 7 (l.map clA)),(1,.clo 41 [.tp [.tree 3 (w.map gvA)] 0]),(7,vI l.length),(8,vI k0)],hLz [],0⟩:St)) (fun k0=>(l.length-k0)) (fun k0=>(k0<=l.length/\∀j (hl:j<l.length),j<k0->¬HoldsS l[j] w)) 0 (cnR rfl) ⟨a0h _,fun j _ h=>absurd h (a0i j)⟩ ?_));rintro k0 h5;have hgr_k0:l.length<=140737488355328:=hl.1
 obtain⟨hle_k0,h1⟩:=h5;apply cL<;>intro h2;obtain⟨_,⟨b16,rfl,h3⟩,h4⟩:=O8 l[k0] w hw (h6 _ (az4 h2)) h7;refine IdxG.of ‹_› (OpG.lk (pw asf rfl rfl rfl h4) (cB (fun h0=>rV rfl rfl ⟨_,rfl,fun _=>⟨_,az4 h2,h3.1 h0⟩,fun _=>by omega⟩) (fun h0=>⟨by omega,⟨(k0+1),by omega,(cnR rfl),⟨by omega,fun j hl h=>?_⟩⟩⟩)));rcases a0k.1 h with h|rfl;exact h1 j hl h;exact fun h=>by rw[h3.2 h]at h0;cases h0
 exact rV rfl rfl ⟨_,rfl,fun h=>absurd h (by decide),fun⟨c,hc,h⟩=>by obtain⟨j,hj,rfl⟩:=a0p hc;exact absurd h (h1 j hj (by omega))⟩
def Kn(l:List PCl)(hl:bn l (fun y=>True))(w:List GVal)(hw:bn w (fun y=>FitVal y))(h0:∀c∈l,HC w.length c)(h1:alz w)(h2:l.length<=1000):PRet prog 40 [.tree 7 (l.map clA),.clo 41 [.tp [.tree 3 (w.map gvA)] 0]] (fun r=>∃b:Bool,r=vB b/\(b=true↔∃c∈l,HoldsS c w)):=by refine ovT [] [] func40 rfl rfl (ArgG.mk (aah l hl w hw h0 h1 h2) rfl ?_);rintro _ ⟨i0,rfl,h3⟩;exact rV rfl rfl ⟨_,rfl,by rw[<-h3];simp⟩
def Ha(p:PPred)(w:List GVal)(hw:bn w (fun y=>FitVal y))(h4:p.cols=((p.vars.length:Nat):Int))(ha:bn p.vars (fun _=>True))(hb:LOk p.vars)(hc:∀c∈p.cls,HC p.vars.length c)(h8:p.cls.length<=1000):PRet prog 15 [.agg (prA p),.tree 3 (w.map gvA)] (fun r=>∃b:Bool,r=vB b/\(b=true↔Bel p.vars w/\∃c∈p.cls,HoldsS c w)):=by refine ovT [12,25] [5] func15 rfl rfl (OpG.lk (Du (n:=p.vars.length) underlying54 xa rfl rfl h4 (a0j _)) (ArgG.mk (Bw w hw (p.vars.take p.vars.length) (by rw[List.take_length];exact ha)) rfl ?_));rintro _ ⟨b0,rfl,h6⟩;refine cB (fun h0=>rV rfl rfl ⟨_,rfl,fun h=>absurd h a04,fun h=>by have h1:=h6.2 (by rw[List.take_length];exact h.1);rw[h1]at h0;simp at h0⟩) (fun h0=>LenG.of (cB (fun h3=>by have h7:=h3;simp at h7;refine RegG.via (fun _ h=>bm [1] 3 (.tp [.tree 3 (w.map gvA)] 0) (FzP.ptr (b:=⟨0,[.tree 3 (w.map gvA)],0,false⟩) (az9.2 rfl) rfl rfl rfl rfl (fun i h1 h2=>match i,h1 with|0,_=>FzP.pure rfl)) rfl h) (bh (OpG.lk (LOp.makeFunc) (ArgG.mk (Kn p.cls ⟨by have:=h8;omega,fun _ _=>trivial⟩ w hw (fun c h=>by rw[h6.1 (nb h0)|>.1];rw[List.take_length];exact hc c h) (abw (h6.1 (nb h0)) (by rw[List.take_length];exact hb)) h8) rfl ?_)));rintro _ ⟨b1,rfl,h9⟩;refine rV rfl rfl (have h5:=h6.1 (nb h0);?_);rw[List.take_length]at h5;exact⟨_,rfl,fun h=>⟨h5,h9.1 h⟩,fun h=>h9.2 h.2⟩) (fun h3=>?_)));exfalso;rw[h4]at h3;simp at h3
section
variable{β:Type}{f:GVal->Int->List β}{w w':List GVal}{l:List PVar}
theorem Ts{x:β}:∀{k:Nat},x∈exL f w k↔∃i:Nat,i<k/\x∈f (w.getD i zV) ((i:Nat):Int)
 |0=>by simp[exL]
 |k+1=>by rw[exL,a0a,Ts];constructor;rintro(⟨i,h1,h2⟩|h);exact⟨i,by omega,h2⟩;exact⟨k,by omega,h⟩;rintro⟨i,h1,h2⟩;by_cases e:i=k;subst e;exact .inr h2;exact .inl ⟨i,by omega,h2⟩
theorem at_w(h:i<w.length):w.getD i zV=w[i]:=by simp[List.getD,h]
def auo{x:β}:x∈exL f w w.length↔∃i:Nat,∃h:i<w.length,x∈f w[i] ((i:Nat):Int):=by grind[Ts,at_w]
theorem qi(hf:∀v i,(f v i).length<=1):∀k,(exL f w k).length<=k
 |0=>a0j _
 |k+1=>by rw[exL,az8];have:=qi hf k;have:=hf (w.getD k zV) k;omega
end
theorem n1(v:GVal)(i:Int):(nOf v i).length<=1:=by unfold nOf;split<;>simp
theorem m1(v:GVal)(i:Int):(mOf v i).length<=1:=by unfold mOf;split<;>simp
theorem i1(v:GVal)(i:Int):(iOf v i).length<=1:=by unfold iOf;split;simp;split<;>simp
theorem t1(v:GVal)(i:Int):(tOf v i).length<=1:=by unfold tOf;split;simp;split<;>simp
structure AscL(L:List Int)(n:Int):Prop where
 rng:∀x∈L,0<=x/\x<n
 inc:∀i (h:i+1<L.length),L[i]<L[i+1]
def AscL.snoc(h:AscL L n)(hn:0<=n):AscL (L++[n]) (n+1):=by refine⟨fun x hx=>?_,fun i hi=>?_⟩;rcases a0a.1 hx with hx|hx;have:=h.rng x hx;omega;rw[az9.1 hx];omega;have hi':i+1<L.length+1:=(by simpa using hi);rw[List.getElem_append_left (by omega)];by_cases e:i+1<L.length;rw[List.getElem_append_left e];exact h.inc i e;rw[List.getElem_append_right (by omega)];have:=h.rng L[i] (az4 _);have e2:i+1-L.length=0:=(by omega);simp[e2];omega
def AscL.up{m:Int}(h:AscL L n)(hm:n<=m):AscL L m:=⟨fun x hx=>by have:=h.rng x hx;omega,h.inc⟩
theorem K3{f:GVal->Int->List Int}(hf:∀v i,f v i=[]\/f v i=[i]){w:List GVal}:∀k:Nat,AscL (exL f w k) k
 |0=>⟨by simp[exL],fun i h=>by simp[exL]at h⟩
 |k+1=>by have ih:=K3 hf (w:=w) k;rw[exL];rcases hf (w.getD k zV) k with e|e;rw[e,List.append_nil];exact ih.up (by omega);rw[e];have:=ih.snoc (by omega);simpa using this
def Xs(h:AscL L n):P2 L n=true:=by unfold P2;rw[ii];intro j hj;unfold Qo;rw[cg hj];have h1:=h.rng L[j] (az4 _);simp only[Bool.not_eq_true',Bool.or_eq_false_iff,Bool.and_eq_false_iff,decide_eq_false_iff_not];refine⟨⟨by omega,by omega⟩,?_⟩;by_cases e:0<j;right;obtain⟨i,rfl⟩:∃i,j=i+1:=⟨j-1,by omega⟩;rw[Nat.add_sub_cancel,cg (by omega)];have:=h.inc i hj;omega;left;omega
theorem Kb(h:v∈L):aal L v=true:=by grind[aal,tf,aqd,ii,a0p,cg]
def nf(v:GVal)(i:Int):nOf v i=[]\/nOf v i=[i]:=by unfold nOf;split<;>simp
def mf(v:GVal)(i:Int):mOf v i=[]\/mOf v i=[i]:=by unfold mOf;split<;>simp
def fk{v:GVal}{x:PVar}(h:py v x=true):(v.c_=0/\v.r_=0/\jc v.l_=true/\x.nl=true)\/(v.c_=1/\jc v.l_=true/\x.t=1/\x.lo<=v.r_/\v.r_<=x.hi)\/(v.c_=2/\v.r_=0/\Mj v.l_=true/\v.l_.size<=16/\x.t=2):=by unfold py at h;split at h;rename_i hv;unfold B6 at hv;split at hv;rename_i h0;rw[a0d h0]at h;simp at hv;exact .inl ⟨h0,hv.1,hv.2,h⟩;rename_i h0;rw[a0c h0]at h;split at hv;rename_i h1;rw[a0d h1]at h;simp at h;exact .inr (.inl ⟨h1,hv,h.1.1,by omega,by omega⟩);rename_i h1;rw[a0c h1]at h;split at hv;rename_i h2;simp at h hv;exact .inr (.inr ⟨h2,hv.1.1,hv.1.2,by omega,h.1⟩);cases hv;cases h
theorem acv{a b:ByteArray}(h1:jc a=true)(h2:jc b=true):a=b:=by grind[jc,toList_inj]
section
variable{l:List PVar}{w w':List GVal}
def qw(h:Bel l w)(hi:i<w.length):py w[i] (l[i]'(by have:=h.1;omega))=true:=h.2 i hi _
def axg(hi:i<w.length)(h:¬w[i].c_=0):((i:Nat):Int)∈exL mOf w w.length:=auo.2 ⟨i,hi,by unfold mOf;rw[a0c h];simp⟩
def aek(h:Bel l w)(hl:LOk l)(hn:w.length<=1000):HC w.length (exC w) where
 nul:=fun v hv=>by obtain⟨i,hi,hx⟩:=auo.1 hv;unfold nOf at hx;split at hx;rw[az9.1 hx];omega;simp at hx
 nn:=fun v hv=>by obtain⟨i,hi,hx⟩:=auo.1 hv;unfold mOf at hx;split at hx;simp at hx;rw[az9.1 hx];omega
 aux:=rfl
 same:=rfl
 diff:=rfl
 ints:=fun k hk=>by obtain⟨i,hi,hx⟩:=auo.1 hk;unfold iOf at hx;split at hx;simp at hx;split at hx;rename_i h1;exact⟨_,_,az9.1 hx,by omega,Bx h hl hi h1⟩;simp at hx
 tests:=fun t ht=>by obtain⟨i,hi,hx⟩:=auo.1 ht;unfold tOf at hx;split at hx;simp at hx;split at hx;simp at hx;rw[az9.1 hx];exact⟨rfl,rfl,by show(0:Int)<=((i:Nat):Int);omega,by show((i:Nat):Int)<_;omega⟩
 l1:=a0m (qi n1 _) hn
 l2:=a0m (qi m1 _) hn
 l3:=a0m (qi i1 _) hn
 l4:=a0m (qi t1 _) hn
theorem Bm(h:Bel l w)(h':Bel l w'):HoldsS (exC w) w'↔w=w':=by have h3:w.length=w'.length:=(by rw[h.1,h'.1]);constructor;intro hh;refine List.ext_getElem h3 fun i hi h2=>?_;have hr:bj w' ((i:Nat):Int)=w'[i]:=jv h2;rcases fk (qw h hi)with⟨k0,g1,g2,_⟩|⟨k1,g1,_⟩|⟨k2,g1,_⟩;have hz:=hh.nul ((i:Nat):Int) (auo.2 ⟨i,hi,by unfold nOf;rw[a0d k0];simp⟩);unfold q7 at hz;rw[hr]at hz;rcases fk (qw h' h2)with⟨k0',g1',g2',_⟩|⟨k1',_⟩|⟨k2',_⟩;generalize w[i]=a at *;generalize w'[i]=b at *;obtain⟨ak,ai,at_⟩:=a;obtain⟨bk,bi,bt⟩:=b;simp only at *;subst k0;subst g1;subst k0';subst g1';rw[acv g2 g2'];omega;omega;obtain⟨v,m,e,z1,z2⟩:=hh.ints ⟨⟨-w[i].r_,[⟨((i:Nat):Int),1⟩]⟩,true⟩ (auo.2 ⟨i,hi,by unfold iOf;rw[a0c (by omega),a0d k1];simp⟩);simp only[PCon.mk.injEq,PLin.mk.injEq,List.cons.injEq,PCoef.mk.injEq,and_true]at e;obtain⟨e1,e2⟩:=e;subst e2;rw[hr]at z1 z2;rcases fk (qw h' h2)with⟨k0',_⟩|⟨k1',g1',_⟩|⟨k2',_⟩;omega;have e3:w[i].r_=w'[i].r_:=(by omega);generalize w[i]=a at *;generalize w'[i]=b at *;obtain⟨ak,ai,at_⟩:=a;obtain⟨bk,bi,bt⟩:=b;simp only at *;subst k1;subst k1';subst e3;rw[acv g1 g1'];omega;obtain⟨z1,z2⟩:=hh.tests ⟨((i:Nat):Int),0,false,w[i].l_⟩ (auo.2 ⟨i,hi,by unfold tOf;rw[a0c (by omega),a0c (by omega)];simp⟩);have z1:(bj w' ((i:Nat):Int)).c_=2:=z1;have z2:(bj w' ((i:Nat):Int)).l_=w[i].l_:=z2;rw[hr]at z1 z2;rcases fk (qw h' h2)with⟨k0',_⟩|⟨k1',_⟩|⟨k2',g1',_⟩;omega;omega;generalize w[i]=a at *;generalize w'[i]=b at *;obtain⟨ak,ai,at_⟩:=a;obtain⟨bk,bi,bt⟩:=b;simp only at *;subst k2;subst k2';subst g1;subst g1';subst z2;rfl;intro e;subst e;refine⟨fun v hv=>?_,fun v hv=>?_,fun k hk=>?_,fun t ht=>?_⟩;obtain⟨i,hi,hx⟩:=auo.1 hv;unfold nOf at hx;split at hx;rename_i h0;rw[az9.1 hx];unfold q7;rw[jv hi];exact h0;simp at hx;obtain⟨i,hi,hx⟩:=auo.1 hv;unfold mOf at hx;split at hx;simp at hx;rename_i h0;rw[az9.1 hx];unfold nnH;rw[jv hi];exact h0;obtain⟨i,hi,hx⟩:=auo.1 hk;unfold iOf at hx;split at hx;simp at hx;split at hx;rename_i h1;exact⟨_,_,az9.1 hx,by rw[jv hi];exact h1,by rw[jv hi]⟩;simp at hx;obtain⟨i,hi,hx⟩:=auo.1 ht;unfold tOf at hx;split at hx;simp at hx;split at hx;simp at hx;rename_i h0 h1;rw[az9.1 hx];refine⟨?_,?_⟩;show(bj w ((i:Nat):Int)).c_=2;rw[jv hi];rcases fk (qw h hi)with⟨k,_⟩|⟨k,_⟩|⟨k,_⟩;exact absurd k h0;exact absurd k h1;exact k;show(bj w ((i:Nat):Int)).l_=w[i].l_;rw[jv hi]
theorem af5:ci 1=1:=rfl
def aqs(h:Bel l w)(hl:LOk l):clB (exC w) l=true:=by
 have h2:=h.1;have a1:P2 (exC w).nul l.length=true:=Xs (by rw[<-h2];exact K3 nf _)
 have a2:P2 (exC w).nn l.length=true:=Xs (by rw[<-h2];exact K3 mf _);have h4:∀i (hi:i<w.length),¬w[i].c_=0->aal (exC w).nn ((i:Nat):Int)=true:=fun i hi hk=>Kb (axg hi hk)
 have a3:tf (exC w).ints.length (Yi (exC w) l)=true:=by
  rw[ii];intro j hj;unfold Yi;rw[cg hj];obtain⟨i,hi,hx⟩:=auo.1 (show(exC w).ints[j]∈exL iOf w w.length from az4 hj);unfold iOf at hx;split at hx;simp at hx;split at hx;rename_i h0 h1;rw[az9.1 hx];have hb:=Bx h hl hi h1
  have h3:i<l.length:=by omega
  have ht:(l.getD i default).t=1:=by
   rw[cg h3];rcases fk (qw h hi)with⟨k,_⟩|⟨k,_,k2,_⟩|⟨k,_⟩;omega;exact k2;omega
  have ha:ci (-w[i].r_)<=2147483648/\0<=ci (-w[i].r_):=by unfold ci;split<;>omega
  have e0:lr (exC w) l (exC w).aux.length=[]:=rfl;rw[e0];have eB:fB ⟨-w[i].r_,[⟨((i:Nat):Int),1⟩]⟩ l [] 0=2147483648:=by unfold fB;rw[a0c];show¬((i:Nat):Int)≥_;omega
  have eS:fS ⟨-w[i].r_,[⟨((i:Nat):Int),1⟩]⟩ l [] 1=ci (-w[i].r_)+2147483648:=by show ci (-w[i].r_)+ci 1*fB _ l [] 0=_;rw[eB,af5];omega
  have e1:fOk ⟨-w[i].r_,[⟨((i:Nat):Int),1⟩]⟩ (exC w).nn l [] 0=true:=by unfold fOk;rw[eB,eS];have c1:H1 ⟨-w[i].r_,[⟨((i:Nat):Int),1⟩]⟩ l [] 0=false:=(by show(decide (((i:Nat):Int)<0)||decide (((i:Nat):Int)≥(l.length:Int)+(([]:List Int).length:Int))||(decide (0<0)&&_)||(1:Int)==0||!wiB 1 (-1048576) 1048576)=false;have q1:decide (((i:Nat):Int)<0)=false:=decide_eq_false (by omega);have q2:decide (((i:Nat):Int)≥(l.length:Int)+(([]:List Int).length:Int))=false:=decide_eq_false (by simp;omega);rw[q1,q2];rfl);have c2:fTy ⟨-w[i].r_,[⟨((i:Nat):Int),1⟩]⟩ (exC w).nn l 0=false:=(by show(decide (((i:Nat):Int)<(l.length:Int))&&(!((l.getD ((i:Nat):Int).toNat default).t==1)||!aal (exC w).nn ((i:Nat):Int)))=false;rw[h4 i hi (by omega),Int.toNat_natCast,ht];simp);rw[c1,c2];show(!false&&!false&&decide ((2147483648:Int)<=1152921504606846977/ci 1)&&decide (ci (-w[i].r_)+2147483648<=1152921504606846977))=true;rw[af5];simp;omega
  have e2:fV ⟨-w[i].r_,[⟨((i:Nat):Int),1⟩]⟩ (exC w).nn l []=ci (-w[i].r_)+2147483648:=by unfold fV;have q:wiB (-w[i].r_) (-1099511627777) 1099511627777=true:=(by unfold wiB;simp;omega);have q2:tf 1 (fOk ⟨-w[i].r_,[⟨((i:Nat):Int),1⟩]⟩ (exC w).nn l [])=true:=(by rw[ii];intro j hj;obtain rfl:j=0:=(by omega);exact e1);show(if(wiB (-w[i].r_) (-1099511627777) 1099511627777&&tf 1 _)=true then fS _ l [] 1 else -1)=_;rw[q,q2,eS];rfl
  show(!decide (fV _ _ l []<0))=true;rw[e2];simp;omega;simp at hx
 have a4:tf (exC w).tests.length (Yf (exC w) l)=true:=by
  rw[ii];intro j hj;unfold Yf;rw[cg hj];obtain⟨i,hi,hx⟩:=auo.1 (show(exC w).tests[j]∈exL tOf w w.length from az4 hj);unfold tOf at hx;split at hx;simp at hx;split at hx;simp at hx;rename_i h0 h1;rw[az9.1 hx];have h3:i<l.length:=by omega
  rcases fk (qw h hi)with⟨k,_⟩|⟨k,_⟩|⟨k,g1,g2,g3,g4⟩;exact absurd k h0;exact absurd k h1;have b1:yn ⟨((i:Nat):Int),0,false,w[i].l_⟩=true:=by unfold yn;unfold Mj at g2;simp only[g2];simp;omega
  have b2:B7 ((i:Nat):Int) (exC w).nn l=true:=by unfold B7;rw[h4 i hi h0,Int.toNat_natCast,cg h3,g4];simp;omega
  simp only[b1,b2,Bool.and_self]
 unfold clB;rw[a1,a2,a3,a4];rfl
def Vd(h:Bel l w)(hl:LOk l)(hv:∀x∈l,I6 x=true)(h0:0<=tb)(hn:n=((l.length:Nat):Int))(h1:1<=l.length)(h64:l.length<=64):Jp (mr tb l w) n=true:=by rw[wd h];subst hn;have d:aeo l=true:=(by unfold aeo;have:tf l.length (aen l)=true:=(by rw[ii];intro j hj;unfold aen;rw[cg hj];exact hv _ (az4 _));rw[this];simp;omega);have b:Fh ⟨tb,((l.length:Nat):Int),l,[exC w]⟩ ((l.length:Nat):Int)=false:=(by unfold Fh;simp only[d];simp;omega);unfold Jp;rw[b];have c:tf [exC w].length (aj8 ⟨tb,((l.length:Nat):Int),l,[exC w]⟩)=true:=(by rw[ii];intro j hj;obtain rfl:j=0:=(by simp at hj;omega);exact aqs h hl);simp only[c];rfl
end
def abg(c:GChg):(Yk c).length<=2:=by unfold Yk;split;simp;rw[az8];split<;>split<;>simp
theorem Wv:∀l:List GChg,(chS l).length<=2*l.length
 |[]=>a0j _
 |c::l=>by have:=Wv l;have h2:=abg c;have e:chS (c::l)=Yk c++chS l:=(by simp[chS]);rw[e,az8,a0r];omega
def agj{c:GCol}(h:B5 c):I6 (zx c)=true:=by grind[B5,I6,zx]
theorem TabS.vars{t:GTab}(h:TabS t):∀x∈ab t,I6 x=true:=fun x hx=>by obtain⟨c,hc,rfl⟩:=a0v.1 hx;exact agj (h.col c hc)
def Qx(t:GTab):(ab t).length=t.d_.length:=by simp[ab]
def ajr(hn:w.length<=1000000000)(hs:∀v∈w,¬v.c_=0->¬v.c_=1->v.l_.size<=1000000000):(exC w).Ok where
 nul:=a0m (qi n1 _) hn
 nn:=a0m (qi m1 _) hn
 aux:=a0h _
 ints:=a0m (qi i1 _) hn
 tests:=a0m (qi t1 _) hn
 same:=a0h _
 diff:=a0h _
 auxc:=fun a h=>absurd h (by simp[exC])
 intc:=fun a h=>by obtain⟨i,hi,hx⟩:=auo.1 h;unfold iOf at hx;split at hx;simp at hx;split at hx;rw[az9.1 hx];simp;simp at hx
 tes:=fun a h=>by obtain⟨i,hi,hx⟩:=auo.1 h;unfold tOf at hx;split at hx;simp at hx;split at hx;simp at hx;rename_i g0 g1;rw[az9.1 hx];exact hs _ (az4 hi) g0 g1
def akt{l:List PVar}(h:Bel l w):∀v∈w,¬v.c_=0->¬v.c_=1->v.l_.size<=1000000000:=fun v hv h0 h1=>by obtain⟨i,hi,rfl⟩:=a0p hv;rcases fk (qw h hi)with⟨k,_⟩|⟨k,_⟩|⟨k,_,_,g,_⟩;exact absurd k h0;exact absurd k h1;omega
def E3(a:PAcc)(s:List GTab)(hs:bn s (fun y=>FitTab y))(t:Int)(wr:Bool)(j:Nat)(ht:t=((j:Nat):Int))(hj:j<s.length)(h0:a.p.Ok):PRet prog 14 [.agg (acA a),.tree 5 (s.map jf),vI t,vB wr] (fun r=>∃b:Bool,r=vB b/\(b=true↔a.w=wr/\a.p.tab=t/\Jp a.p ((s[j].d_.length:Nat):Int)=true)):=by refine ovT [25] [] func14 rfl rfl ?_;apply cB<;>intro hg13;apply cE<;>intro hq20;refine OpG.lk (ah underlying42 Cu rfl rfl ht hj) ?_;refine LenG.of (ArgG.mk (PRet.of_call (awg a.p _ h0)) rfl ?_);rintro _ rfl;refine⟨by kernel_rfl,?_⟩;exact rV rfl rfl ⟨_,rfl,by simp_all⟩;refine⟨by kernel_rfl,?_⟩;exact rV rfl rfl ⟨_,rfl,by simp_all⟩;exact cF ⟨by kernel_rfl,rV rfl rfl ⟨_,rfl,by simp_all⟩⟩
def aok(s:List GTab)(hs:bn s (fun y=>FitTab y))(t:Int)(w:List GVal)(hw:bn w (fun y=>FitVal y))(o:List GVal)(ho:bn o (fun y=>FitVal y))(h8:SchS s)(j:Nat)(ht:t=((j:Nat):Int))(hj:j<s.length)(h0:Bel (ab s[j]) w):PRet prog 17 [.agg (acA (⟨true,(⟨t,(((ab s[j]).length:Nat):Int),ab s[j],[exC w]⟩:PPred)⟩:PAcc)),.tree 5 (s.map jf),vI t,.tree 3 (w.map gvA),.tree 3 (o.map gvA)] (fun r=>r=vB true):=by have h1:=h8.tab _ (az4 hj);have h2:=h1.to.lk;have hc5:=h1.c5;have hc1:=h1.c1;have h9:=Qx s[j];have h7:=jq h1.to.cl;have hwl:=h0.1;have h5:Jp (⟨t,(((ab s[j]).length:Nat):Int),ab s[j],[exC w]⟩:PPred) ((s[j].d_.length:Nat):Int)=true:=(by have:=Vd (tb:=t) h0 h2 h1.vars (by omega) (by rw[h9]) (by omega) (by omega);rw[wd h0]at this;exact this);refine ovT [] [] func17 rfl rfl (ArgG.mk (E3 ⟨true,(⟨t,(((ab s[j]).length:Nat):Int),ab s[j],[exC w]⟩:PPred)⟩ s hs t true j ht hj (⟨by show(ab s[j]).length<=_;omega,by simp,fun c h=>by rw[az9.1 h];exact ajr (by omega) (akt h0)⟩:PPred.Ok (⟨t,(((ab s[j]).length:Nat):Int),ab s[j],[exC w]⟩:PPred))) rfl ?_);rintro _ ⟨b0,rfl,ha⟩;apply cB<;>intro h3;refine ArgG.mk (Ha (⟨t,(((ab s[j]).length:Nat):Int),ab s[j],[exC w]⟩:PPred) w hw rfl h7 h2 (fun c h=>by rw[az9.1 h];show HC (ab s[j]).length _;rw[<-h0.1];exact aek h0 h2 (by omega)) (by simp)) rfl ?_;rintro _ ⟨b1,rfl,hb⟩;apply cB<;>intro h4;refine LenG.of (LenG.of (cN (fun h6=>rV rfl rfl rfl) (fun h6=>ArgG.mk (Ha (⟨t,(((ab s[j]).length:Nat):Int),ab s[j],[exC w]⟩:PPred) o ho rfl h7 h2 (fun c h=>by rw[az9.1 h];show HC (ab s[j]).length _;rw[<-h0.1];exact aek h0 h2 (by omega)) (by simp)) rfl ?_)));rintro _ ⟨b2,rfl,hd⟩;refine ArgG.mk (Za w hw o ho) rfl ?_;rintro _ ⟨b3,rfl,he⟩;refine rV rfl rfl (br ?_);rw[beq_iff_eq,Bool.eq_iff_iff,hd,he];constructor;rintro⟨g1,c,hc,g2⟩;rw[az9.1 hc]at g2;exact(Bm h0 g1).1 g2;intro e;subst e;exact⟨h0,_,az9.2 rfl,(Bm h0 h0).2 rfl⟩;rw[hb.2 ⟨h0,_,az9.2 rfl,(Bm h0 h0).2 rfl⟩]at h4;exact Bool.noConfusion h4;rw[ha.2 ⟨rfl,rfl,h5⟩]at h3;exact Bool.noConfusion h3
open Go.RowKit Go.ChangeShapes Go.WideShapes Go.Deep
set_option maxRecDepth 100000
def LtB(n:Nat):Nat->Prop:=fun k=>k<n
def TRL(T:Nat->Prop)(w:World)(xs:List AV)(cs:List Value):Prop:=xs.length=cs.length/\∀i (h:i<xs.length) (h':i<cs.length),TR T w xs[i] cs[i]
theorem TRL.one{w:World}{a:AV}{x:Value}(h:TR T w a x):TRL T w [a] [x]:=⟨rfl,fun i h1 h2=>by have:i=0:=(by simp at h1;omega);subst this;exact h⟩
def TRL.append{w:World}{xs ys:List AV}{ds:List Value}(h1:TRL T w xs cs)(h2:TRL T w ys ds):TRL T w (xs++ys) (cs++ds):=by grind[TRL]
def TRL.done{w:World}{n:Nat}(h:cs.length=n):TRL T w [] (cs.drop n):=by rw[<-h,List.drop_length];exact⟨rfl,fun i h=>absurd h (by simp)⟩
def cb{w:World}{xs ys:List AV}{o:Nat}(h1:TRL T w xs ((cs.drop o).take m))(h2:TRL T w ys (cs.drop (o+m))):TRL T w (xs++ys) (cs.drop o):=by have:=h1.append h2;rwa [<-List.drop_drop,List.take_append_drop]at this
def TRL.val{w:World}{x:Value}(h:cs=[x]):TRL T w [.v x] cs:=by rw[h];exact .one (.v x)
def K7(P:Program)(R:α->List AV)(Wf:α->Prop)(t:TypeId)(N:Nat):Prop:=
 ∀{H:Type} (enc:TypeId×Value->H) (W:World) (fuel:Nat) (cs:List Value) (d:DataW H) (ps:List MemPlace),fuel<=N->
  DataW.trod enc P W 0 (fun _=>true) true fuel t cs=some (d,ps)->(∀m∈d.weights P t,m<=140737488351232)->∃a,Wf a/\TRL (LtB W.heap.size) W (R a) cs
def mz(P:Program)(R:α->List AV)(Wf:α->Prop)(t:TypeId):Prop:=
 ∀{H:Type} (enc:TypeId×Value->H) (W:World) (fuel:Nat) (cs:List Value) (d:DataW H) (ps:List MemPlace),
  DataW.trod enc P W 0 (fun _=>true) true fuel t cs=some (d,ps)->(∀m∈d.weights P t,m<=140737488351232)->∃a,Wf a/\TRL (LtB W.heap.size) W (R a) cs
theorem mz.f{R:α->List AV}{Wf:α->Prop}(h:mz P R Wf t)(N:Nat):K7 P R Wf t N:=fun enc W fuel cs d ps _ h1 h2=>h enc W fuel cs d ps h1 h2
def mz.of{R:α->List AV}{Wf:α->Prop}(h:∀N,K7 P R Wf t N):mz P R Wf t:=fun enc W fuel cs d ps h1 h2=>h fuel enc W fuel cs d ps (a0j _) h1 h2
theorem ti{H:Type}{P:Program}{e:TypeId}:∀{ds:List (DataW H)} {d:DataW H},d∈ds->∀m∈d.weights P e,m∈DataW.weightsAll P e ds
 |x::r,d,h,m,hm=>by simp only[DataW.weightsAll,a0a];rcases a0w.1 h with rfl|h;exact .inl hm;exact .inr (ti h m hm)
def Py[Inhabited α]{p:Nat->α->Prop}(h:∀i,i<m->∃y,p i y):∃f:Nat->α,∀i,i<m->p i (f i):=by refine⟨fun i=>if h':i<m then Classical.choose (h i h')else default,fun i hi=>?_⟩;simp only[hi,dif_pos];exact Classical.choose_spec (h i hi)
def K7.sliceB{R:α->List AV}{Wf:α->Prop}{t e N:Nat}(hR:K7 P R Wf e N)(ht:P.underlying t=some (.slice e))(hn:P.cellsOf e=q)(hq:∀a,Wf a->(R a).length=q)(h6:1<=q)(hb:1<=P.bytesOf e):
 K7 P (fun l:List α=>[.tree q (l.map R)]) (fun l=>l.length*P.bytesOf e<=140737488355328/\∀a∈l,Wf a) t (N+1):=by
 intro H enc W fuel cs d ps hN h hw
 rcases DataW.trod_slice ht h with⟨rfl,_⟩|⟨a,len,m,elems,rest,n,hfu,rfl,hx,_,hl,hm,g4,hi,_,_⟩
 ·exact⟨[],⟨by simp,fun a h=>by cases h⟩,.one (.tree0 (a0h _))⟩
 ·simp only[Prod.mk.injEq]at hx
  obtain⟨rfl,_⟩:=hx
  simp only[DataW.weights,ht,a0b,a0w,a0a]at hw
  have hh:=hw _ (.inl rfl)
  rw[g4]at hh
  have h7:len*P.bytesOf e<=140737488355328:=by have:len*P.bytesOf e<=(len+rest.length)*P.bytesOf e:=Nat.mul_le_mul_right _ (by omega);omega
  have ho:len<=140737488355328:=by have:len*1<=(len+rest.length)*P.bytesOf e:=Nat.mul_le_mul (by omega) hb;omega
  have hu:∀i,i<len->∃(y:α×List Value),(Wf y.1/\TRL (LtB W.heap.size) W (R y.1) y.2)/\W.cells? 0 (a.add (i*P.cellsOf e)) (P.cellsOf e)=some y.2:=by intro i g5;have h1:=hi i g5;have hp:i<elems.length:=(by omega);rw[az5 hp]at h1;obtain⟨cs',hc,g6⟩:=a0q.1 h1;obtain⟨y,hy⟩:=hR enc W n cs' elems[i].1 elems[i].2 (by omega) g6 (fun j hj=>hw j (.inr (.inl (ti (a0v.2 ⟨elems[i],az4 _,rfl⟩) j hj))));exact⟨(y,cs'),hy,hc⟩
  by_cases h0:len=0
  ·subst h0
   exact⟨[],⟨by simp,fun a h=>by cases h⟩,.one (.tree0 hm)⟩
  ·obtain⟨y0,g7⟩:=hu 0 (by omega)
   have:Inhabited (α×List Value):=⟨y0⟩
   obtain⟨f,hf⟩:=Py hu
   obtain⟨b,off,spot⟩:=a
   have hv:=World.cells?_some g7.2
   have h3:=hv.2.2 0 (by rw[hn];exact h6)
   have h8:∃v0,W.cell? ((⟨b,off,spot⟩:Addr).add (0*P.cellsOf e))=some v0:=by have h9:0<y0.2.length:=(by rw[hv.2.1,hn];exact h6);refine⟨y0.2[0],?_⟩;have:=h3;rw[az5 h9]at this;simpa[Addr.add]using this
   obtain⟨v0,g0⟩:=h8
   have hd:spot=none:=by simpa[Addr.add]using World.cell?_spot g0
   subst hd
   have hs:b<W.heap.size:=by have:=World.block_lt_of_cell? W _ g0;simpa[Addr.add]using this
   refine⟨(List.range len).map fun i=>(f i).1,⟨by simpa using h7,fun a ha=>?_⟩,.one ?_⟩
   ·obtain⟨i,g8,rfl⟩:=a0v.1 ha
    exact(hf i (by simpa using g8)).1.1
   ·have h5:(((List.range len).map fun i=>(f i).1).map R).length=len:=by simp
    have h4:∀k (h:k<(((List.range len).map fun i=>(f i).1).map R).length),(((List.range len).map fun i=>(f i).1).map R)[k]=R (f k).1:=fun k h=>by simp
    have hT:=TR.tree (T:=LtB W.heap.size) (w:=W) (n:=q) (xs:=((List.range len).map fun i=>(f i).1).map R) (b:=b) (off:=off) (cap:=m) (fun k j=>(f k).2.getD j undef) hs (by rw[h5];exact hl) hm (by rw[h5];exact ho)
     (fun k h=>by rw[h4 k h];exact hq _ (hf k (by rw[h5]at h;exact h)).1.1)
     (fun k j hk hj=>by
      rw[h5]at hk;have g1:=World.cells?_some (hf k hk).2
      have g2:j<P.cellsOf e:=by rw[hn];exact hj
      have hg:=g1.2.2 j g2;rw[add_add,hn]at hg;have he:j<(f k).2.length:=by rw[g1.2.1];exact g2
      have e1:(⟨b,off,none⟩:Addr).add (k*q+j)=⟨b,off+k*q+j,none⟩:=by
       by_cases hz:k*q+j=0;have h1:k*q=0:=by omega
       have h2:j=0:=by omega
       rw[h1,h2];simp[Addr.add];unfold Addr.add;rw[a0c hz];simp[Nat.add_assoc]
      rw[<-e1,hg];simp[List.getD,he])
     (fun k h j h'=>by have hk:k<len:=(by rw[h5]at h;exact h);have hr:=(hf k hk).1.2;have g3:j<(R (f k).1).length:=(by rw[h4 k h]at h';exact h');have he:j<(f k).2.length:=(by rw[<-hr.1];exact g3);have:=hr.2 j g3 he;simp only[h4 k h];rw[cg he];exact this)
    rw[h5]at hT
    exact hT
theorem K7.slice{R:α->List AV}{Wf:α->Prop}{t e N:Nat}(hR:K7 P R Wf e N)(ht:P.underlying t=some (.slice e))(hn:P.cellsOf e=q)(hq:∀a,Wf a->(R a).length=q)(h0:1<=q)(hb:1<=P.bytesOf e):
 K7 P (fun l:List α=>[.tree q (l.map R)]) (fun l=>l.length<=140737488355328/\∀a∈l,Wf a) t (N+1):=fun enc W fuel cs d ps hN h hw=>by
 obtain⟨l,⟨h1,h2⟩,h3⟩:=K7.sliceB hR ht hn hq h0 hb enc W fuel cs d ps hN h hw
 refine⟨l,⟨?_,h2⟩,h3⟩
 have:l.length*1<=l.length*P.bytesOf e:=Nat.mul_le_mul_left _ hb
 omega
theorem mz.slice{R:α->List AV}{Wf:α->Prop}{t e:Nat}(hR:mz P R Wf e)(ht:P.underlying t=some (.slice e))(hn:P.cellsOf e=q)(hq:∀a,(R a).length=q)(h0:1<=q)(hb:1<=P.bytesOf e):
 mz P (fun l:List α=>[.tree q (l.map R)]) (fun l=>l.length<=140737488355328/\∀a∈l,Wf a) t:=mz.of fun N=>fun enc W fuel cs d ps hN h1 h2=>K7.slice (hR.f N) ht hn (fun a _=>hq a) h0 hb enc W fuel cs d ps (by omega) h1 h2
def mz.sliceB{R:α->List AV}{Wf:α->Prop}{t e:Nat}(hR:mz P R Wf e)(ht:P.underlying t=some (.slice e))(hn:P.cellsOf e=q)(hq:∀a,(R a).length=q)(h0:1<=q)(hb:1<=P.bytesOf e):
 mz P (fun l:List α=>[.tree q (l.map R)]) (fun l=>l.length*P.bytesOf e<=140737488355328/\∀a∈l,Wf a) t:=mz.of fun N=>fun enc W fuel cs d ps hN h1 h2=>K7.sliceB (hR.f N) ht hn (fun a _=>hq a) h0 hb enc W fuel cs d ps (by omega) h1 h2
def fw{fs:Array Field}(ht:P.underlying t=some (.struct fs)){H:Type}{enc:TypeId×Value->H}{W:World}{fuel:Nat}{d:DataW H}{ps:List MemPlace}
 (h:DataW.trod enc P W 0 (fun _=>true) true fuel t cs=some (d,ps))(hw:∀m∈d.weights P t,m<=140737488351232):
 ∃n,fuel=n+1/\cs.length=P.cellsOf t/\∀(i:Nat) (f:Field),fs[i]? =some f->
  ∃(d':DataW H) (ps':List MemPlace),DataW.trod enc P W 0 (fun _=>true) true n f.type ((cs.drop f.offset).take (P.cellsOf f.type))=some (d',ps')/\∀q∈d'.weights P f.type,q<=140737488351232:=by
 obtain⟨xs,n,h3,hx,h0,hxl,hf⟩:=DataW.trod_struct ht h
 simp only[Prod.mk.injEq]at hx
 obtain⟨rfl,_⟩:=hx
 refine⟨n,h3,h0,fun i f hi=>?_⟩
 have hil:i<fs.size:=(Array.getElem?_eq_some_iff.1 hi).1
 have h2:xs[i]? =some (xs[i]'(by omega)):=az5 (by omega)
 have h1:=hf i f hi
 rw[h2]at h1
 refine⟨_,_,h1,fun q hq=>hw q ?_⟩
 simp only[DataW.weights,ht]
 refine DataW.weights_mem_each (j:=i) (t:=f.type) (d:=(xs[i]'(by omega)).1) ?_ ?_ q hq
 ·simp only[List.getElem?_map,Array.getElem?_toList,hi,a02]
 ·simp only[List.getElem?_map,h2,a02]
def im(ht:P.underlying t=some (.int .i64)):mz P iA (fun x=>-9223372036854775808<=x/\x<=9223372036854775807) t:=by intro H enc W fuel cs d ps h hw;obtain⟨x,h1,_,h2⟩:=DataW.trod_int ht h;exact⟨x,bounds_i64 h2,.val h1⟩
def O0(ht:P.underlying t=some .bool):mz P (fun b:Bool=>[vB b]) (fun _=>True) t:=by intro H enc W fuel cs d ps h hw;obtain⟨x,h1,_⟩:=DataW.trod_bool ht h;exact⟨x,trivial,.val h1⟩
def pf(ht:P.underlying t=some .string):mz P (fun s:ByteArray=>[.v (.string s)]) (fun s=>s.size<=140737488351232) t:=by intro H enc W fuel cs d ps h hw;obtain⟨x,h1,h2,_⟩:=DataW.trod_string ht h;simp only[Prod.mk.injEq]at h2;obtain⟨rfl,_⟩:=h2;refine⟨x,?_,.val h1⟩;have:=hw x.data.toList.length (by simp[DataW.weights]);have e:x.data.toList.length=x.size:=(by simp);omega
end Go.Proofs.YtfpfdfhlljjckaaGreatDoor
