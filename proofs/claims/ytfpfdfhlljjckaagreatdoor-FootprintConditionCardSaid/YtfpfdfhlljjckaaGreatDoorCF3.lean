/- Texts of the claim. -/
import Derived.Lib.SlicesCompact
import Derived.Shelf.SlicesE.Clone
import Derived.Deep.Slices
import Derived.Deep.Fields
import Derived.ChangeSame
import Derived.ChangeArms
import Derived.SizedLaws
import Derived.OpenShut
import Derived.Test.YtfpfdfhlljjckaaGreatDoorCF1
import Derived.Test.YtfpfdfhlljjckaaGreatDoorCF2
import Derived.Test.YtfpfdfhlljjckaaGreatDoorCQ2
set_option linter.all false
namespace Go.Proofs.YtfpfdfhlljjckaaGreatDoor
open Tryz
set_option maxRecDepth 1000000
set_option maxHeartbeats 0
set_option linter.unusedVariables false
set_option linter.unusedSimpArgs false
open Go.RowKit
variable{af:Array Edge}{b:Bool}{x:GSta}{a tb v y:Int}{R:Int->GVal}{e:List AV}{S s:List GTab}{r w:List GVal}{l:List Int}{cs:List Value}{j k m n q:Nat}{τ:Nat->AV}{T:Nat->Prop}{g:Option (Nat×Bool)}{d:Option Tmp}{P:Program}{pos:String}{α:Type}{t ty:TypeId}
def orI:List Int->Int
 |[]=>0
 |a::l=>if a=0 then orI l else a
theorem ac3:∀{l:List Int} {k:Nat} (h:k<l.length),(∀j (hl:j<l.length),j<k->l[j]=0)->¬l[k]=0->l[k]=orI l
 |a::l,0,h,_,hn=>by simp only[List.getElem_cons_zero]at hn ⊢;rw[orI,azf hn]
 |a::l,k+1,h,hz,hn=>by have h0:=hz 0 (by simp) (Nat.succ_pos k);simp only[List.getElem_cons_zero]at h0;simp only[List.getElem_cons_succ]at hn ⊢;rw[orI,azg h0];exact ac3 (by simpa using h) (fun j hl hj=>by have:=hz (j+1) (by simpa using hl) (by omega);simpa using this) hn
theorem L4:∀{l:List Int},(∀j (hl:j<l.length),l[j]=0)->0=orI l
 |[],_=>rfl
 |a::l,h=>by have h0:=h 0 (by simp);simp only[List.getElem_cons_zero]at h0;rw[orI,azg h0];exact L4 fun j hl=>by have:=h (j+1) (by simpa using hl);simpa using this
def mu{b:Int}(h:jj a b=0):a=b:=by unfold jj at h;split at h;omega;split at h<;>omega
section
variable{p q:GPart}
abbrev or3(p q:GPart):Int:=orI [jj p.c_ q.c_,jj p.p_ q.p_,jj p.by_ q.by_]
def anu(h:¬or3 p q=0):or3 p q=jo p q:=by simp only[or3,orI]at h ⊢;by_cases h1:jj p.c_ q.c_=0;have e1:=mu h1;rw[azg h1]at h ⊢;by_cases h2:jj p.p_ q.p_=0;have e2:=mu h2;rw[azg h2]at h ⊢;by_cases h3:jj p.by_ q.by_=0;rw[azg h3]at h;exact absurd rfl h;rw[azf h3];exact aeb e1 e2 (fun e=>h3 (by rw[e];simp[jj])) rfl;rw[azf h2];exact Vr e1 (fun e=>h2 (by rw[e];simp[jj])) rfl;rw[azf h1];exact M8 (fun e=>h1 (by rw[e];simp[jj])) rfl
def ac4(h:or3 p q=0):p.c_=q.c_/\p.p_=q.p_/\p.by_=q.by_:=by simp only[or3,orI]at h;by_cases h1:jj p.c_ q.c_=0;rw[azg h1]at h;by_cases h2:jj p.p_ q.p_=0;rw[azg h2]at h;by_cases h3:jj p.by_ q.by_=0;exact⟨mu h1,mu h2,mu h3⟩;rw[azf h3]at h;exact absurd h h3;rw[azf h2]at h;exact absurd h h2;rw[azf h1]at h;exact absurd h h1
def Jc(hp:PK p)(hq:PK q)(h:(¬or3 p q=0)\/p.of_.length=0\/q.of_.length=0):or3 p q=jo p q:=by by_cases h0:or3 p q=0;obtain⟨e1,e2,e3⟩:=ac4 h0;obtain⟨f1,f2⟩:=Vs hp hq e1 e2 e3 (h.resolve_left (fun h=>h h0));rw[h0,J7 e1 e2 e3,f1,f2];simp[Ph,lx];exact anu h0
def ant(h:or3 p q=0)(hl:0<p.of_.length)(hm:0<q.of_.length):lx (cdT p.of_[0]) (cdT q.of_[0])=jo p q:=by obtain⟨e1,e2,e3⟩:=ac4 h;exact aea e1 e2 e3 hl hm rfl
end
section
variable{x y:GTm}{k:Nat}
def anv{b:Int}(h:¬orI [a,b]=0):(a≠0/\orI [a,b]=a)\/(a=0/\b≠0/\orI [a,b]=b):=by grind[orI]
def anw{b:Int}(h:orI [a,b]=0):a=0/\b=0:=by grind[orI]
def Y7(hx:FitTm x)(hy:FitTm y)(h:CmI x y k)(h1:k<x.a_.length)(h2:k<y.a_.length)(hn:¬orI [jo x.a_[k] y.a_[k],jj x.a_[k].i_ y.a_[k].i_]=0):orI [jo x.a_[k] y.a_[k],jj x.a_[k].i_ y.a_[k].i_]=lx (cdT (tmA x)) (cdT (tmA y)):=by rcases anv hn with⟨g,e⟩|⟨g,g2,e⟩;rw[e];exact Vx hx hy h h1 h2 g;rw[e];exact V0 hx hy h h1 h2 g (fun e=>g2 (by rw[e];simp[jj])) rfl
def Y8(hx:FitTm x)(hy:FitTm y)(h:CmI x y k)(h1:k<x.a_.length)(h2:k<y.a_.length)(hn:orI [jo x.a_[k] y.a_[k],jj x.a_[k].i_ y.a_[k].i_]=0):CmI x y (k+1):=by obtain⟨g1,g2⟩:=anw hn;exact Vy hx hy h h1 h2 g1 (mu g2)
def ahh(hx:FitTm x)(hy:FitTm y)(h:CmI x y k)(h1:k<=x.a_.length)(h2:k<=y.a_.length)(h3:k=x.a_.length\/k=y.a_.length):orI [jj (x.a_.length:Nat) (y.a_.length:Nat),jj x.f_ y.f_]=lx (cdT (tmA x)) (cdT (tmA y)):=by simp only[orI];by_cases e:jj (x.a_.length:Nat) (y.a_.length:Nat)=0;have e2:=mu e;rw[azg e];have:=Ew hx hy h h1 h2 h3 (by omega) rfl;rw[<-this];split;rename_i e3;exact e3.symm;rfl;rw[azf e];exact Vz hx hy h h1 h2 h3 (fun e2=>e (by rw[e2];simp[jj])) rfl
end
structure KM where
 k:Nat
 i:Nat
 j:Nat
 L:List GPart
structure MrgI(x y:GTm)(s:KM):Prop where
 eq:s.L++B0 (x.a_.drop s.i) (y.a_.drop s.j)=B0 x.a_ y.a_
 li:s.i<=x.a_.length
 lj:s.j<=y.a_.length
 kk:s.k<=s.i+s.j
 len:s.L.length<=s.i+s.j
def mrg0(x y:GTm):MrgI x y ⟨0,0,0,[]⟩:=⟨rfl,azk _,azk _,azm _,azm _⟩
def D5(l:List GPart):B0 l []=l:=by cases l<;>rw[B0]
section
variable{x y:GTm}{s:KM}
def mrgA(h:MrgI x y s)(hi:s.i<x.a_.length)(hc:s.j=y.a_.length\/∃hj:s.j<y.a_.length,jo x.a_[s.i] y.a_[s.j]<0):MrgI x y ⟨s.k+1,s.i+1,s.j,s.L++[x.a_[s.i]]⟩:=by
 refine⟨?_,hi,h.lj,by have:=h.kk;show s.k+1<=s.i+1+s.j;omega,by have:=h.len;simp only[azb,List.length_singleton];omega⟩
 show(s.L++[x.a_[s.i]])++B0 (x.a_.drop (s.i+1)) (y.a_.drop s.j)=_
 rw[<-h.eq,az3 hi]
 rcases hc with e|⟨hj,hc⟩
 ·rw[show y.a_.drop s.j=[]from List.drop_of_length_le (by omega),D5,D5];simp
 ·rw[az3 hj]
  conv=>rhs;rw[B0,azf (by omega),azg hc]
  simp
def mrgB(h:MrgI x y s)(hj:s.j<y.a_.length)(hc:s.i=x.a_.length\/∃hi:s.i<x.a_.length,jo x.a_[s.i] y.a_[s.j]>0):MrgI x y ⟨s.k+1,s.i,s.j+1,s.L++[y.a_[s.j]]⟩:=by
 refine⟨?_,h.li,hj,by have:=h.kk;show s.k+1<=s.i+(s.j+1);omega,by have:=h.len;simp only[azb,List.length_singleton];omega⟩
 show(s.L++[y.a_[s.j]])++B0 (x.a_.drop s.i) (y.a_.drop (s.j+1))=_
 rw[<-h.eq,az3 hj]
 rcases hc with e|⟨hi,hc⟩
 ·rw[show x.a_.drop s.i=[]from List.drop_of_length_le (by omega)];simp[B0]
 ·rw[az3 hi]
  conv=>rhs;rw[B0,azf (by omega),azf (by omega)]
  simp
def mrgC(h:MrgI x y s)(hi:s.i<x.a_.length)(hj:s.j<y.a_.length)(hc:jo x.a_[s.i] y.a_[s.j]=0)(hz:¬y.a_[s.j].i_+x.a_[s.i].i_=0):MrgI x y ⟨s.k+1,s.i+1,s.j+1,s.L++[{y.a_[s.j]with i_:=y.a_[s.j].i_+x.a_[s.i].i_}]⟩:=by
 refine⟨?_,hi,hj,by have:=h.kk;show s.k+1<=s.i+1+(s.j+1);omega,by have:=h.len;simp only[azb,List.length_singleton];omega⟩
 show(s.L++[_])++B0 (x.a_.drop (s.i+1)) (y.a_.drop (s.j+1))=_
 rw[<-h.eq,az3 hi,az3 hj]
 conv=>rhs;rw[B0,azg hc,azf hz]
 simp
def mrgD(h:MrgI x y s)(hi:s.i<x.a_.length)(hj:s.j<y.a_.length)(hc:jo x.a_[s.i] y.a_[s.j]=0)(hz:y.a_[s.j].i_+x.a_[s.i].i_=0):MrgI x y ⟨s.k+1,s.i+1,s.j+1,s.L⟩:=by refine⟨?_,hi,hj,by have:=h.kk;show s.k+1<=s.i+1+(s.j+1);omega,by have:=h.len;show s.L.length<=s.i+1+(s.j+1);omega⟩;show s.L++B0 (x.a_.drop (s.i+1)) (y.a_.drop (s.j+1))=_;rw[<-h.eq,az3 hi,az3 hj];conv=>rhs;rw[B0,azg hc,azg hz]
def mrgE(hx:FitTm x)(hy:FitTm y)(h:MrgI x y s)(hi:¬s.i<x.a_.length)(hj:¬s.j<y.a_.length):(⟨x.f_+y.f_,s.L⟩:GTm)=qq x y:=by have e:=h.eq;rw[show x.a_.drop s.i=[]from List.drop_of_length_le (by omega),show y.a_.drop s.j=[]from List.drop_of_length_le (by omega),D5,List.append_nil]at e;unfold qq;rw[e,An _ _ _ (azm _) hx.srt hy.srt hx.a_.2 hy.a_.2]
end
abbrev srt(l:List Int):List Int:=l.mergeSort fun x y=>decide (x<=y)
theorem fq :(srt l).length=l.length:=List.length_mergeSort _
def srtU(l:List Int):List Int:=Lib.compact (srt l)
def J4{x:Int}(h:x∈Lib.compact l):x∈l:=by unfold Lib.compact Lib.compactUpTo at h;obtain⟨i,hi,rfl⟩:=azy.1 h;have:=List.mem_range.1 (List.mem_filter.1 hi).1;simp[this]
def O9(h:l.Pairwise (·<=·)):(Lib.compact l).Pairwise (·<·):=by
 unfold Lib.compact Lib.compactUpTo;rw[List.pairwise_map];refine(List.Pairwise.filter _ List.pairwise_lt_range).imp_of_mem ?_;intro i j hi hj hij;have h0:=List.mem_range.1 (List.mem_filter.1 hj).1
 have h3:=(List.mem_filter.1 hj).2;have h4:i<l.length:=by omega
 unfold Lib.keeps at h3
 have h5:l.toArray[j]! ≠l.toArray[j-1]!:=by
  rcases azi h3 with h|h;omega;exact h
 have hp:=List.pairwise_iff_getElem.1 h;have e1:l.toArray[i]! =l[i]:=by simp[h4]
 have e2:l.toArray[j]! =l[j]:=by simp[h0]
 have e3:l.toArray[j-1]! =l[j-1]'(by omega):=by simp[show j-1<l.length by omega]
 rw[e2,e3]at h5;rw[e1,e2];have h1:=hp (j-1) j (by omega) h0 (by omega)
 have h2:l[i]<=l[j-1]'(by omega):=by
  by_cases e:i=j-1;subst e;exact Int.le_refl _;exact hp i (j-1) h4 (by omega) (by omega)
 omega
theorem ah5 :y∈Lib.compact l↔y∈l:=by
 refine⟨J4,fun hy=>?_⟩
 obtain⟨j,hj,e,h3⟩:∃j,∃hj:j<l.length,l[j]=y/\∀i (hi:i<l.length),i<j->l[i]≠y:=by
  have:∃j,∃hj:j<l.length,l[j]=y:=azs hy;have hdec:∀n,(∃hj:n<l.length,l[n]=y)\/¬∃hj:n<l.length,l[n]=y:=fun n=>Classical.em _
  obtain⟨j,hj⟩:=this;induction j using Nat.strongRecOn with
  |_ j ih=>
   by_cases h:∃i,i<j/\∃hi:i<l.length,l[i]=y
   ·obtain⟨i,h1,h2⟩:=h
    exact ih i h1 h2
   ·exact⟨j,hj.1,hj.2,fun i hi h4 e=>h ⟨i,h4,hi,e⟩⟩
 unfold Lib.compact Lib.compactUpTo;refine azy.2 ⟨j,List.mem_filter.2 ⟨List.mem_range.2 hj,?_⟩,by simp[hj,e]⟩;unfold Lib.keeps;refine decide_eq_true ?_;by_cases h0:j=0;exact .inl h0;right;have:=h3 (j-1) (by omega) (by omega)
 simp[hj,e,show j-1<l.length by omega];exact fun e=>this e.symm
def amn :(srt l).Pairwise (·<=·):=by grind[List.pairwise_mergeSort]
def W8{m:List Int}(hl:l.Pairwise (·<·))(hm:m.Pairwise (·<·))(h:∀y,y∈l↔y∈m):l=m:=by have hp:l.Perm m:=(List.perm_ext_iff_of_nodup (hl.imp fun h=>by omega) (hm.imp fun h=>by omega)).2 h;exact List.Perm.eq_of_pairwise (le:=fun a b=>a<b) (fun a b _ _ h1 h2=>by omega) hl hm hp
theorem qv :(srtU l).Pairwise (·<·):=O9 amn
theorem la :y∈srtU l↔y∈l:=ah5.trans (List.mergeSort_perm _ _).mem_iff
theorem Rd(h:l.Pairwise (·<·)):srtU l=l:=W8 qv h fun y=>la
structure GAt where
 c_:Int
 p_:Int
 w_:Int
 o_:GTm
 x_:PTest
abbrev atA(x:GAt):List AV:=[.v (.int .i64 x.c_),.v (.int .i64 x.p_),.v (.int .i64 x.w_),.v (.int .i64 x.o_.f_),.tree 5 (x.o_.a_.map ptA),.v (.int .i64 x.x_.v),.v (.int .i64 x.x_.kd),.v (.bool x.x_.ng),.v (.string x.x_.s)]
structure GFm where
 c_:Int
 e_:GAt
 b_:List (List AV)
abbrev fmA(x:GFm):List AV:=[.v (.int .i64 x.c_),.v (.int .i64 x.e_.c_),.v (.int .i64 x.e_.p_),.v (.int .i64 x.e_.w_),.v (.int .i64 x.e_.o_.f_),.tree 5 (x.e_.o_.a_.map ptA),.v (.int .i64 x.e_.x_.v),.v (.int .i64 x.e_.x_.kd),.v (.bool x.e_.x_.ng),.v (.string x.e_.x_.s),.tree 11 (x.b_.map rwA)]
structure FitAt(x:GAt):Prop where
 o_:FitTm x.o_
 x_:jw x.x_.s
inductive IsFm:List AV->Prop
 |mk (x:GFm) (h0:x.b_.length<=140737488355328) (ha:FitAt x.e_) (h:∀r∈x.b_,IsFm r):IsFm (fmA x)
structure FitFm(x:GFm):Prop where
 e_:FitAt x.e_
 b_:bq x.b_ (fun y=>IsFm y)
def yk{x:GFm}(h:FitFm x):IsFm (fmA x):=.mk x h.b_.1 h.e_ h.b_.2
theorem IsFm.ind{M:List AV->Prop}(H:∀x,FitFm x->(∀r∈x.b_,M r)->M (fmA x)){r:List AV}(h:IsFm r):M r:=by
 induction h with
 |mk x h0 ha h ih=>exact H x ⟨ha,h0,h⟩ ih
theorem IsFm.open_{r:List AV}(h:IsFm r):∃x,r=fmA x/\FitFm x:=by
 cases h with
 |mk x h0 ha h=>exact⟨x,rfl,ha,h0,h⟩
theorem adt{r:List AV}(h:IsFm r):ij 0 11 (rwA r)=some r:=by
 cases h with
 |mk x h0 ha h=>rfl
theorem adu{r:List AV}(h:IsFm r):bz r=true:=by
 cases h with
 |mk x h0 ha h=>rfl
def zTe:PTest:=⟨0,0,false,⟨#[]⟩⟩
def zAt:GAt:=⟨0,0,0,zT,zTe⟩
def th:FitAt zAt:=⟨c8,by decide⟩
def cnF(b:Bool):GFm:=⟨if b=true then 0 else 1,zAt,[]⟩
def atF(a:GAt):GFm:=⟨2,a,[]⟩
def vAt(k v:Int):GAt:=⟨k,v,0,zT,zTe⟩
def fe :FitFm (cnF b):=⟨th,azk _,by simp[cnF]⟩
theorem ma{a:GAt}(h:FitAt a):FitFm (atF a):=⟨h,azk _,by simp[atF]⟩
theorem qt{k:Int}:FitAt (vAt k v):=⟨c8,th.x_⟩
def lsF(k:Int):List (List AV)->List AV
 |[r]=>r
 |l=>fmA ⟨k,zAt,l⟩
theorem xx{k:Int}{l:List (List AV)}(h:¬l.length=1):lsF k l=fmA ⟨k,zAt,l⟩:=by
 match l,h with
 |[],_=>rfl
 |[_],h=>exact absurd rfl h
 |_::_::_,_=>rfl
def D7{k:Int}{l:List (List AV)}(h:bq l (fun y=>IsFm y)):IsFm (lsF k l):=by by_cases h1:l.length=1;obtain⟨r,rfl⟩:=az4.1 h1;exact h.2 r (by simp);rw[xx h1];exact yk ⟨th,h.1,h.2⟩
def wn(k:Int)(vs:List Int):List (List AV):=vs.map fun v=>fmA (atF (vAt k v))
def o9(m:Int):Bool:=m==0||m==2
def ip(m:Int):Bool:=m==2||m==3
def Ii(m:Int):Int:=if m=0 then 1 else if m=1 then 0 else if m=2 then 3 else 2
def sr(op:Int):Int:=if op=10 then 11 else if op=11 then 10 else if op=12 then 15 else if op=15 then 12 else if op=13 then 14 else 13
def ye(op:Int):Int:=if op=12 then 14 else if op=14 then 12 else if op=13 then 15 else if op=15 then 13 else op
def n7(op c:Int):Bool:=if op=10 then c==0 else if op=11 then c !=0 else if op=12 then decide (c<0)else if op=13 then decide (c<=0)else if op=14 then decide (c>0)else decide (c≥0)
def Fg(n:Int):Int:=if n<0 then -1 else if n>0 then 1 else 0
def qk(op:Int)(s:ByteArray):PTest:=if op=10 then⟨0,0,false,s⟩else if op=11 then⟨0,0,true,s⟩else if op=12 then⟨0,2,false,s⟩else if op=13 then⟨0,3,false,s⟩else if op=14 then⟨0,3,true,s⟩else⟨0,2,true,s⟩
def wm(a b:ByteArray):Int:=if fj a b=true then -1 else if fj b a=true then 1 else 0
inductive Pt where
 |kn (b:Bool)
 |pat (a:GAt)
def one1:GTm:=⟨1,[]⟩
def Ct(op:Int)(x y:List AV):Option Pt:=
 (ofT x).bind fun a=>(ofT y).bind fun b=>(dt (scT (-1) b)).bind fun c=>(dt (qq a c)).bind fun t=>
  if t.a_=[]then some (.kn (n7 op (Fg t.f_)))else if op=10 then some (.pat ⟨3,0,0,t,zTe⟩)else if op=11 then some (.pat ⟨4,0,0,t,zTe⟩)else
  (if op=14\/op=15 then dt (scT (-1) t)else some t).bind fun u=>(if op=12\/op=14 then dt (qq u one1)else some u).bind fun w=>some (.pat ⟨2,0,0,w,zTe⟩)
def ot(op:Int)(x y:GEx):Pt:=
 if x.op_=1/\y.op_=1 then .kn (n7 op (wm x.k_.l_ y.k_.l_))else if x.op_=1 then .pat ⟨5,y.j_,0,zT,qk (ye op) x.k_.l_⟩else
 if y.op_=1 then .pat ⟨5,x.j_,0,zT,qk op y.k_.l_⟩else if x.j_=y.j_ then .kn (op==10)else .pat ⟨if op=11 then 7 else 6,min x.j_ y.j_,max x.j_ y.j_,zT,zTe⟩
def G1(x y:GEx)(pos:Bool):Pt:=if x.op_=1 then .kn (re x.k_.l_ y.k_.l_==pos)else .pat ⟨5,x.j_,0,zT,⟨0,1,!pos,y.k_.l_⟩⟩
def dcE:List AV->GEx
 |[.v (.int _ op),.v (.string a),.v (.string b),.v (.int _ ix),.v (.int _ k),.v (.int _ i),.v (.string s),.tree _ es]=>⟨op,a,b,ix,⟨k,i,s⟩,es⟩
 |_=>⟨0,⟨#[]⟩,⟨#[]⟩,0,⟨0,0,⟨#[]⟩⟩,[]⟩
theorem rh(x:GEx):dcE (exA x)=x:=by simp only[exA,dcE,fk]
mutual
def dw:List AV->List Int
 | [.v (.int _ op),.v _,.v _,.v (.int _ ix),.v _,.v _,.v _,.tree _ es]=>(if op=2 then[ix]else[])++bi es
 |_=>[]
def bi:List (List AV)->List Int
 | []=>[]
 |r :: rs=>dw r++bi rs
end
theorem dg(x:GEx):dw (exA x)=(if x.op_=2 then[x.j_]else[])++bi x.b_:=by simp only[exA,dw,fk]
mutual
def d7:List AV->List Int
 | [.v _,.tree _ ps]=>Sq ps
 |_=>[]
def Sq:List (List AV)->List Int
 | []=>[]
 |r :: rs=>occR r++Sq rs
def occR:List AV->List Int
 | [.v _,.v (.int _ kd),.v (.int _ vr),.v _,.tree _ os]=>if kd=2 then ve os else[vr]
 |_=>[]
def ve:List (List AV)->List Int
 | []=>[]
 |r :: _=>d7 r
end
def lm(p:GPart):List Int:=if p.c_=2 then ve p.of_ else[p.p_]
theorem Gn:∀l:List GPart,Sq (l.map ptA)=l.flatMap lm
 |[]=>by simp only[List.map_nil,Sq,List.flatMap_nil]
 |p::l=>by simp only[azw,Sq,List.flatMap_cons,Gn l,ptA,occR,lm,fk]
theorem dj(x:GTm):d7 (tmA x)=x.a_.flatMap lm:=by simp only[tmA,d7,Gn]
def jh(a:GAt):List Int:=if a.c_=2\/a.c_=3\/a.c_=4 then srtU (d7 (tmA a.o_))else if a.c_=6\/a.c_=7 then srtU [a.p_,a.w_]else[a.p_]
noncomputable section
open Classical
def ptS(l:List PVar)(op:Int)(x y:List AV)(pos:Bool):Option Pt:=
 if op=16 then some (G1 (dcE x) (dcE y) pos)else
 if TextE l x\/TextE l y then some (ot (if pos=true then op else sr op) (dcE x) (dcE y))else Ct (if pos=true then op else sr op) x y
def cmF(m:Int)(cs:List Int):Pt->List AV
 |.kn b=>if ip m=true then(if b=true then fmA (cnF true)else lsF 1 (wn 0 cs))else(if b=true then lsF 0 (wn 1 cs)else fmA (cnF false))
 |.pat a=>if ip m=true then lsF 1 (wn 0 cs++[fmA (atF a)])else lsF 0 (wn 1 (cs.filter fun v=>!(jh a).contains v)++[fmA (atF a)])
def cmS(l:List PVar)(op m:Int):List (List AV)->Option (List AV)
 |[x,y]=>(ptS l op x y (o9 m)).map (cmF m (srtU (dw x++dw y)))
 |_=>none
mutual
def trS(l:List PVar):List AV->Int->Option (List AV)
 | [.v (.int k0 op),.v t,.v n,.v ix,.v k,.v i,.v s,.tree q es],m=>
  if op=18\/op=19 then(km l es m).map fun fs=>fmA ⟨if(op==18)=o9 m then 0 else 1,zAt,fs⟩
  else if op=20 then(km l es (Ii m)).bind fun fs=>fs.head?
  else if op=17 then some (if∃r∈es,HasN r then fmA (cnF (o9 m))else if o9 m=true then lsF 1 (wn 0 (srtU (bi es)))else lsF 0 (wn 1 (srtU (bi es))))
  else if∃r∈es,HasN r then some (fmA (cnF (ip m)))
  else cmS l op m es
 |_,_=>none
def km(l:List PVar):List (List AV)->Int->Option (List (List AV))
 | [],_=>some []
 |r :: rs,m=>(trS l r m).bind fun f=>(km l rs m).map (f :: ·)
end
theorem sw(l:List PVar)(x:GEx)(m:Int):trS l (exA x) m=if x.op_=18\/x.op_=19 then(km l x.b_ m).map fun fs=>fmA ⟨if(x.op_==18)=o9 m then 0 else 1,zAt,fs⟩
 else if x.op_=20 then(km l x.b_ (Ii m)).bind fun fs=>fs.head?
 else if x.op_=17 then some (if∃r∈x.b_,HasN r then fmA (cnF (o9 m))else if o9 m=true then lsF 1 (wn 0 (srtU (bi x.b_)))else lsF 0 (wn 1 (srtU (bi x.b_))))
 else if∃r∈x.b_,HasN r then some (fmA (cnF (ip m)))
 else cmS l x.op_ m x.b_:=by
 simp only[exA,trS,fk]
end
def Oh(a:GVal)(ha:FitVal a)(b:GVal)(hb:FitVal b):PRet prog 102 [.agg (gvA a),.agg (gvA b)] (fun r=>r=vI (Fj a b)):=ovT [] [] func102 rfl rfl (cD (fun h0=>cT (rV rfl rfl (congrArg vI (by unfold Fj fj;(rw[azg (by simp_all)];done))))) (fun h0=>cB (fun h1=>rV rfl rfl (congrArg vI (by unfold Fj fj;(rw[azg (by simp_all)];done)))) (fun h1=>cD (fun h2=>cT (rV rfl rfl (congrArg vI (by unfold Fj fj;(rw[azf (by simp_all),azg (by simp_all)];done))))) (fun h2=>cB (fun h3=>rV rfl rfl (congrArg vI (by unfold Fj fj;(rw[azf (by simp_all),azg (by simp_all)];done)))) (fun h3=>rV rfl rfl (congrArg vI (by unfold Fj fj;(rw[azf (by simp_all),azf (by simp_all)];done))))))))
theorem Fo:FitVal zV:=⟨azk _⟩
def T7(n:Int):FitVal (iV n):=⟨azk _⟩
theorem ahj(op:Int)(l:List GVal):FitVal (opS op l):=by
 cases l with
 |nil=>exact Fo
 |cons a t=>
  simp only[opS]
  split
  ·exact Fo
  ·split
   ·exact T7 _
   ·split
    ·exact T7 _
    ·cases t with
     |nil=>exact Fo
     |cons b t=>simp only;split;exact Fo;exact T7 _
def alt(hR:∀i,FitVal (R i))(he:IsEx e):FitVal (vS R e):=by obtain⟨x,rfl,hx⟩:=he.open_;rw[jf];split;exact hx.k_;split;exact hR _;exact ahj _ _
def Yy(hr:bq r (fun y=>FitVal y))(i:Int):FitVal (bj r i):=by grind[bj,zV,List.getD,ay7,List.getElem?_eq_none,Nat.le_of_not_lt,Fo]
inductive CdR(r:List GVal):List AV->Prop
 |bin (x:GEx) (h:x.op_=18\/x.op_=19) (hl:x.b_.length=2) (ha:∀e∈x.b_,CdR r e):CdR r (exA x)
 |not (x:GEx) (h:x.op_=20) (hl:x.b_.length=1) (ha:∀e∈x.b_,CdR r e):CdR r (exA x)
 |isn (x:GEx) (h:x.op_=17) (hl:x.b_.length=1) (ha:∀e∈x.b_,EvR r e):CdR r (exA x)
 |cmp (x:GEx) (h:10<=x.op_/\x.op_<=16) (hl:x.b_.length=2) (ha:∀e∈x.b_,EvR r e):CdR r (exA x)
theorem ajv{x:GEx}(h:CdR r (exA x)):((x.op_=18\/x.op_=19)/\x.b_.length=2/\∀e∈x.b_,CdR r e)\/(x.op_=20/\x.b_.length=1/\∀e∈x.b_,CdR r e)\/(x.op_=17/\x.b_.length=1/\∀e∈x.b_,EvR r e)\/((10<=x.op_/\x.op_<=16)/\x.b_.length=2/\∀e∈x.b_,EvR r e):=by
 generalize e:exA x=q at h
 cases h with
 |bin y h hl ha=>rw[au e];exact .inl ⟨h,hl,ha⟩
 |not y h hl ha=>rw[au e];exact .inr (.inl ⟨h,hl,ha⟩)
 |isn y h hl ha=>rw[au e];exact .inr (.inr (.inl ⟨h,hl,ha⟩))
 |cmp y h hl ha=>rw[au e];exact .inr (.inr (.inr ⟨h,hl,ha⟩))
theorem aq7{l:List PVar}(hr:X3 l r)(hl:LOk l)(h:CondE l e):IsEx e->CdR r e:=by
 induction h with
 |bin x h hl' ha _ ih=>intro he;obtain⟨y,e,hy⟩:=he.open_;have:=au e;subst this;exact .bin x h hl' (fun q hq=>ih q hq (hy.b_.2 q hq))
 |not x h hl' ha _ ih=>intro he;obtain⟨y,e,hy⟩:=he.open_;have:=au e;subst this;exact .not x h hl' (fun q hq=>ih q hq (hy.b_.2 q hq))
 |isn x h hl' ha=>intro he;obtain⟨y,e,hy⟩:=he.open_;have:=au e;subst this;exact .isn x h hl' (fun q hq=>aai hr hl (ha q hq) (hy.b_.2 q hq))
 |like x a b h ha hb ho _=>
  intro he;obtain⟨y,e,hy⟩:=he.open_;have:=au e;subst this
  refine .cmp x (by omega) (by rw[ha];rfl) (fun q hq=>?_)
  have h2:=hq
  rw[ha]at h2
  rcases azz.1 h2 with rfl|h2
  ·exact aai hr hl ho (hy.b_.2 _ hq)
  ·rw[azc]at h2;subst h2;exact .val b hb.1
 |cmp x a b h ha h0 h1=>
  intro he;obtain⟨y,e,hy⟩:=he.open_;have:=au e;subst this
  refine .cmp x (by omega) (by rw[ha];rfl) (fun q hq=>?_)
  have h2:=hq
  rw[ha]at h2
  rcases azz.1 h2 with rfl|h2
  ·exact aai hr hl h0 (hy.b_.2 _ hq)
  ·rw[azc]at h2;subst h2;exact aai hr hl h1 (hy.b_.2 _ hq)
theorem J1{R:Int->GVal}:∀{l:List (List AV)},(∀e∈l,0<=cS R e/\cS R e<=2)->∀i,0<=(csS R l).getD i 0/\(csS R l).getD i 0<=2
 |[],_,i=>by simp[csS]
 |a::t,h,0=>by simp only[csS];exact h a (by simp)
 |a::t,h,i+1=>by simp only[csS];exact J1 (fun e he=>h e (by simp[he])) i
def Sn(b:Bool):0<=ofS b/\ofS b<=2:=by cases b<;>decide
def Nd(he:IsEx e):0<=cS R e/\cS R e<=2:=IsEx.ind (M:=fun e=>0<=cS R e/\cS R e<=2) (fun x hx ih=>by
 have g0:=J1 ih 0
 have g1:=J1 ih 1
 rw[Pj]
 split
 ·decide
 split
 ·exact Sn _
 split
 ·unfold two;repeat' split
  all_goals omega
 split
 ·split<;>omega
 unfold Ij
 split
 ·decide
 repeat' split
 all_goals exact Sn _) he
section
variable{R:Int->GVal}{x:GEx}
def axr(h:x.op_=1):2=cS R (exA x):=by rw[Pj,azg h]
def arb(h:x.op_=17)(hl:x.b_.length=1)(hv:v=if((vS R (x.b_[0]'(by omega))).c_==0)=true then 1 else 0):v=cS R (exA x):=by rw[Pj,azf (by omega),azg h,ab7 R (by omega:0<x.b_.length),hv];rfl
theorem aq9(h:x.op_=18\/x.op_=19)(hl:x.b_.length=2):cS R (exA x)=two (x.op_-18) (cS R (x.b_[0]'(by omega))) (cS R (x.b_[1]'(by omega))):=by grind[Pj,ad3]
theorem ara(h:x.op_=20)(hl:x.b_.length=1):cS R (exA x)=if cS R (x.b_[0]'(by omega))=2 then(2:Int)else(1:Int)-cS R (x.b_[0]'(by omega)):=by grind[Pj,ad3]
theorem ajy(h:10<=x.op_/\x.op_<=16)(hl:x.b_.length=2):cS R (exA x)=Ij x.op_ (vS R (x.b_[0]'(by omega))) (vS R (x.b_[1]'(by omega))):=by grind[Pj,ab7]
end
def ai8{η:bm}{y:Operand}{k i:Int}{t:ByteArray}(hx:aev τ y=.agg [vI k,vI i,.v (.string t)]):LOp prog ⟨d,.field 30 y 0,ty,pos,af,g⟩ τ η [] [] (vI k):=
 Ur (u:=0) (r:=⟨[],[],vI k,0⟩) (by unfold Us;rw[show Jw prog 30 0=some (0,3)by kernel_rfl];simp only[hx,Sg,show ey prog 3=some none by kernel_rfl];rfl)
theorem aar(x:GEx)(hx:FitEx x)(r:List GVal)(hr:bq r (fun y=>FitVal y))(h3:CdR r (exA x))(ih:∀e∈x.b_,CdR r e->PRet prog 49 [.agg (rwA e),.tree 3 (r.map gvA)] (fun q=>q=vI (cS (bj r) e)))(h1:∀s p:ByteArray,jw s->jw p->PRet prog 103 [.v (.string s),.v (.string p)] (fun q=>q=vB (re s p))):PRet prog 49 [.agg (exA x),.tree 3 (r.map gvA)] (fun q=>q=vI (cS (bj r) (exA x))):=by
 have h2:=ajv h3;have h0:∀e∈x.b_,FitVal (vS (bj r) e):=fun e he=>alt (Yy hr) (hx.b_.2 e he)
 have M:∀{j} (hj:j<x.b_.length),x.b_[j]∈x.b_:=fun _=>ay7 _;have P:∀{j} (hj:j<x.b_.length),bz [.agg (rwA x.b_[j]),.tree 3 (r.map gvA)]=true:=fun h=>by simp[bz,AV.pureB,kc (hx.b_.2 _ (M h))]
 have A:∀{j} (hj:j<x.b_.length),(x.op_=18\/x.op_=19)\/x.op_=20->CdR r x.b_[j]:=fun h g=>by rcases h2 with k|k|k|k<;>first|exact k.2.2 _ (M h)|omega
 have B:∀{j} (hj:j<x.b_.length),¬((x.op_=18\/x.op_=19)\/x.op_=20)->EvR r x.b_[j]:=fun h g=>by rcases h2 with k|k|k|k<;>first|exact k.2.2 _ (M h)|omega
 have C:∀e∈x.b_,_:=fun e he=>Nd (R:=bj r) (hx.b_.2 e he);refine ovT [21,24,33,39,44,67,73,77,83] [] func49 rfl rfl ?_
 repeat' first
  |refine cT ?_|refine cF ?_|refine cE (fun _=>?_) (fun _=>?_)<;>try omega
  |refine⟨rfl,?_⟩|refine⟨by omega,?_⟩
  |refine IdxG.of (j:=0) (by omega) (OpG.lk (ci n6 rfl (jd (hx.b_.2 _ (M _)))) ?_)
  |refine IdxG.of (j:=1) (by omega) (OpG.lk (ci n6 rfl (jd (hx.b_.2 _ (M _)))) ?_)
  |refine ArgG.mk (Qi r hr _ (hx.b_.2 _ (M _)) (B _ (by omega))) (P _) ?_;rintro _ rfl
  |refine ArgG.mk (ih _ (M _) (A _ (by omega))) (P _) ?_;rintro _ rfl
  |refine OpG.lk (ai8 rfl) ?_
  |refine OpG.lk (qf rfl rfl (by omega) (by omega)) ?_|refine OpG.lk (qf rfl rfl (by have:=C _ (M (show 0<x.b_.length by omega));omega) (by have:=C _ (M (show 0<x.b_.length by omega));omega)) ?_
  |refine ArgG.mk (aog _) rfl ?_;rintro _ ⟨_,rfl,ho⟩
  |refine ArgG.mk (Oh _ (h0 _ (M _)) _ (h0 _ (M _))) rfl ?_;rintro _ rfl
  |refine ArgG.mk (h1 _ _ (h0 _ (M _)).l_ (h0 _ (M _)).l_) rfl ?_;rintro _ rfl
 all_goals
  refine rV rfl rfl (congrArg vI (Eq.symm ?_))
  first
   |exact(axr ‹_›).symm
   |exact(arb ‹_› (by omega) ho).symm
   |refine(aq9 (by omega) (by omega)).trans ?_;unfold two;(repeat' split)<;>omega
   |refine(ara (by omega) (by omega)).trans ?_;(repeat' split)<;>omega
   |refine(ajy (by omega) (by omega)).trans ?_;clear A B C P M ih h1 h0;simp_all [Ij,ofS]
def E6{η:bm}{t:Nat}{x i:Operand}{s:ByteArray}(hu:P.underlying t=some .string)(hx:aev τ x=.v (.string s))(hi:aev τ i=vI v)(hv:v=((k:Nat):Int))(hk:k<s.size):
 LOp P ⟨d,.index t x i,ty,pos,af,g⟩ τ η [] [] (.v (.int .u8 (((bAt s k).toNat:Nat):Int))):=by subst hv;exact yd hu hx hi hk
def bB{F G:Nat->Bool}(h:∀i,i<n->F i=G i):some (Blk.mk 0 (lh n F) 1 false)=some (Blk.mk 0 (lh n G) 1 false):=by rw[Y1 h]
section
variable{s p:ByteArray}{c k i:Nat}{prev:Nat->Bool}{v:Bool}
theorem mg(h:c=37):iv s c prev k=(prev k||(decide (0<k)&&iv s c prev (k-1))):=by
 subst h
 cases k with
 |zero=>simp[iv]
 |succ k=>simp[iv]
theorem my(h:¬c=37):iv s c prev k=(decide (0<k)&&(prev (k-1)&&(c==95||c==(bAt s (k-1)).toNat))):=by
 cases k with
 |zero=>simp[iv,h]
 |succ k=>simp[iv,h]
def w8(hv:v=iv s c prev k):(if i=k then v else(decide (i<k)&&iv s c prev i))=(decide (i<k+1)&&iv s c prev i):=by grind
theorem ib{a b:Nat}:(((a:Nat):Int)==((b:Nat):Int))=(a==b):=by rw[Bool.eq_iff_iff];simp only[beq_iff_eq];omega
def ahu{X:Nat->Bool}:false=(decide (i<0)&&X i):=by simp
def aht(hv:false=iv s c prev k):(decide (i<k)&&iv s c prev i)=(decide (i<k+1)&&iv s c prev i):=by grind
def aok(hi:i<n)(hm:n<=m):(decide (i<m)&&iv s (bAt p k).toNat (lk s p k) i)=lk s p (k+1) i:=by rw[decide_eq_true (by omega:i<m),Bool.true_and];rfl
end
def by4:(prog.info? 4).map (·.bytes)=some 1:=by kernel_rfl
def agv:ey prog 4=some none:=by kernel_rfl
def sz4:aj prog 4=some 1:=by kernel_rfl
def zr4:bp prog 4=some (.bool false):=by kernel_rfl
def Zy(s:ByteArray)(hs:jw s)(p:ByteArray)(hp:jw p):PRet prog 103 [.v (.string s),.v (.string p)] (fun q=>q=vB (re s p)):=by
 have hs1:s.size<=140737488351232:=hs;have hp1:p.size<=140737488351232:=hp
 refine ovT [12,14,24,39,40,48,49,52,60,61,74,78,83,84,100014,100052,100078] [5] func103 rfl rfl ⟨by omega,OpG.nw (wd (len:=s.size+1) 0 underlying265 sz4 zr4 by4 rfl rfl (by omega) (by omega) (by omega)) rfl ?_⟩;refine OpG.lk (c7 (i:=0) underlying265 sz4 rfl rfl (by omega) (by omega) rfl) (OpG.wr (eh sz4 rfl rfl rfl (by omega)) rfl ?_);refine LpG.on (fun k0:Nat=>(⟨fL [(0,.v (.string s)),(1,.v (.string p)),(5,.sl 0 0 0 (s.size+1)),(6,vI k0)],hLz [(0,⟨0,lh (s.size+1) (lk s p k0),1,false⟩)],1⟩:St)) (fun k0=>(p.size-k0)) (fun k0=>(k0<=p.size)) 0 (cnS rfl (hpS (bo _) (by rfl) trivial)) (azk _) ?_;rintro k0 h6;have hgr_k0:p.size<=140737488355328:=azp hp (by decide)
 have hle_k0:=h6;apply cL<;>intro hlt18
 ·refine⟨by omega,OpG.nw (wd (len:=s.size+1) 1 underlying265 sz4 zr4 by4 rfl rfl (by omega) (by omega) (by omega)) rfl ?_⟩;refine LpG.on (fun k2:Nat=>(⟨fL [(0,.v (.string s)),(1,.v (.string p)),(5,.sl 0 0 0 (s.size+1)),(6,vI k0),(7,.sl 1 0 0 (s.size+1)),(8,vI k2)],hLz [(0,⟨0,lh (s.size+1) (lk s p k0),1,false⟩),(1,⟨0,lh (s.size+1) (fun m=>decide (m<k2)&&iv s (bAt p k0).toNat (lk s p k0) m),1,false⟩)],2⟩:St)) (fun k2=>((s.size+1)-k2)) (fun k2=>(k2<=(s.size+1))) 0 (cnS rfl (hpS (bo _) rfl (.cons (by exact bB (fun i _=>ahu)) rfl (bo _) .nil))) (azk _) ?_;rintro k2 h6;have hle_k2:=h6
  apply cD<;>intro hq28
  ·refine⟨‹_›,cB (fun h7=>?_) (fun h7=>?_)⟩
   ·have h0:(bAt p k0).toNat=37:=by have h:=h7;simp at h;omega
    refine OpG.lk (c7 (i:=k2) underlying265 sz4 rfl rfl (by omega) (by omega) rfl) (OpG.lk (nt agv rfl rfl (by omega)) ?_);apply cB<;>intro h3
    ·refine OpG.lk (c7 (i:=k2) underlying265 sz4 rfl rfl (by omega) (by omega) rfl) (OpG.wr (eh sz4 rfl rfl rfl (by omega)) rfl ?_);refine⟨by omega,⟨(k2+1),by omega,(cnS rfl (hpS (bo _) rfl (.cons (by(refine bB (fun i _=>w8 ?_);first|(rw[mg h0];simp_all;done)|(rw[my h0];simp_all;done)|(rw[mg (k:=k2) h0,h3,h8,h2];rfl)|(rw[my h0,h2,h1,h4,ib];rfl)|(rw[my h0,h2,h1,h4];rfl))) rfl (bo _) .nil))),?_⟩⟩;omega
    apply cB<;>intro h5
    ·have hb:=azi h5;have ha:0<k2:=by have h:=h5;simp at h;omega
     have h8:decide (k2-1<k2)=true:=decide_eq_true (by omega);have h2:decide (0<k2)=true:=decide_eq_true ha
     refine⟨by omega,OpG.lk (c7 (i:=k2-1) underlying265 sz4 rfl rfl (by omega) (by omega) rfl) ?_⟩;refine OpG.lk (nt agv rfl rfl (by omega)) (OpG.lk (c7 (i:=k2) underlying265 sz4 rfl rfl (by omega) (by omega) rfl) ?_);refine OpG.wr (eh sz4 rfl rfl rfl (by omega)) rfl ⟨by omega,⟨(k2+1),by omega,(cnS rfl (hpS (bo _) rfl (.cons (by(refine bB (fun i _=>w8 ?_);first|(rw[mg h0];simp_all;done)|(rw[my h0];simp_all;done)|(rw[mg (k:=k2) h0,h3,h8,h2];rfl)|(rw[my h0,h2,h1,h4,ib];rfl)|(rw[my h0,h2,h1,h4];rfl))) rfl (bo _) .nil))),?_⟩⟩;omega
    have hb:=azh h5;have ha:k2=0:=by have h:=h5;simp at h;omega
    refine OpG.lk (c7 (i:=k2) underlying265 sz4 rfl rfl (by omega) (by omega) rfl) (OpG.wr (eh sz4 rfl rfl rfl (by omega)) rfl ?_);refine⟨by omega,⟨(k2+1),by omega,(cnS rfl (hpS (bo _) rfl (.cons (by(refine bB (fun i _=>w8 ?_);first|(rw[mg h0];simp_all;done)|(rw[my h0];simp_all;done)|(rw[mg (k:=k2) h0,h3,h8,h2];rfl)|(rw[my h0,h2,h1,h4,ib];rfl)|(rw[my h0,h2,h1,h4];rfl))) rfl (bo _) .nil))),?_⟩⟩;omega
   have h0:¬(bAt p k0).toNat=37:=by have h:=h7;simp at h;omega
   apply cD<;>intro hq54
   ·have ha:0<k2:=by omega
    have h2:decide (0<k2)=true:=decide_eq_true ha;refine⟨by omega,OpG.lk (c7 (i:=k2-1) underlying265 sz4 rfl rfl (by omega) (by omega) rfl) ?_⟩;refine OpG.lk (nt agv rfl rfl (by omega)) (cB (fun h1=>?_) (fun h1=>?_))
    ·refine⟨‹_›,cB (fun h9=>?_) (fun h9=>?_)⟩
     ·have h4:((bAt p k0).toNat==95)=true:=by have h:=h9;rw[beq_iff_eq]at h ⊢;omega
      refine OpG.lk (c7 (i:=k2) underlying265 sz4 rfl rfl (by omega) (by omega) rfl) (OpG.wr (eh sz4 rfl rfl rfl (by omega)) rfl ?_);refine⟨by kernel_rfl,⟨by omega,?_⟩⟩;refine⟨(k2+1),by omega,(cnS rfl (hpS (bo _) rfl (.cons (by(refine bB (fun i _=>w8 ?_);first|(rw[mg h0];simp_all;done)|(rw[my h0];simp_all;done)|(rw[mg (k:=k2) h0,h3,h8,h2];rfl)|(rw[my h0,h2,h1,h4,ib];rfl)|(rw[my h0,h2,h1,h4];rfl))) rfl (bo _) .nil))),?_⟩;omega
     have h4:((bAt p k0).toNat==95)=false:=by have h:=h9;rw[beq_eq_false_iff_ne]at h ⊢;omega
     refine⟨‹_›,⟨by omega,?_⟩⟩;refine OpG.lk (E6 (k:=k2-1) underlying9 rfl rfl (by omega) (by omega)) (OpG.lk (c7 (i:=k2) underlying265 sz4 rfl rfl (by omega) (by omega) rfl) ?_);refine OpG.wr (eh sz4 rfl rfl rfl (by omega)) rfl ⟨by kernel_rfl,⟨by omega,?_⟩⟩;refine⟨(k2+1),by omega,(cnS rfl (hpS (bo _) rfl (.cons (by(refine bB (fun i _=>w8 ?_);first|(rw[mg h0];simp_all;done)|(rw[my h0];simp_all;done)|(rw[mg (k:=k2) h0,h3,h8,h2];rfl)|(rw[my h0,h2,h1,h4,ib];rfl)|(rw[my h0,h2,h1,h4];rfl))) rfl (bo _) .nil))),?_⟩;omega
    refine OpG.lk (c7 (i:=k2) underlying265 sz4 rfl rfl (by omega) (by omega) rfl) (OpG.wr (eh sz4 rfl rfl rfl (by omega)) rfl ?_);refine⟨by kernel_rfl,⟨by omega,?_⟩⟩;refine⟨(k2+1),by omega,(cnS rfl (hpS (bo _) rfl (.cons (by(refine bB (fun i _=>w8 ?_);first|(rw[mg h0];simp_all;done)|(rw[my h0];simp_all;done)|(rw[mg (k:=k2) h0,h3,h8,h2];rfl)|(rw[my h0,h2,h1,h4,ib];rfl)|(rw[my h0,h2,h1,h4];rfl))) rfl (bo _) .nil))),?_⟩;omega
   have ha:k2=0:=by omega
   refine⟨by omega,⟨(k2+1),by omega,(cnS rfl (hpS (bo _) rfl (.cons (by(refine bB (fun i _=>aht ?_);first|(rw[mg h0];simp_all;done)|(rw[my h0];simp_all;done)|(rw[mg (k:=k2) h0,h3,h8,h2];rfl)|(rw[my h0,h2,h1,h4,ib];rfl)|(rw[my h0,h2,h1,h4];rfl))) rfl (bo _) .nil))),?_⟩⟩;omega
  refine RegG.via (fun _ h=>Nx 0 1 (fl:=[(0,.v (.string s)),(1,.v (.string p)),(5,.sl 1 0 0 (s.size+1)),(6,vI k0)]) (hl:=[(1,⟨0,lh (s.size+1) (lk s p (k0+1)),1,false⟩)]) (u:=2) (cnS rfl (.cons (bB (fun i hi=>aok hi (by omega))) rfl (bo _) .nil)) ⟨rfl,rfl,rfl,rfl,trivial⟩ ⟨Ai _,trivial⟩ (by decide) (by decide) (by decide) (fl':=[(0,.v (.string s)),(1,.v (.string p)),(5,.sl 0 0 0 (s.size+1)),(6,vI k0)]) (hl':=[(0,⟨0,lh (s.size+1) (lk s p (k0+1)),1,false⟩)]) rfl (by simp only[List.map,Blk.ren,y3];rfl) h) (ay ?_);refine⟨by omega,⟨(k0+1),by omega,(cnS rfl (hpS (bo _) (by rfl) trivial)),?_⟩⟩;omega
 refine OpG.lk (c7 (i:=s.size) underlying265 sz4 rfl rfl (by omega) (by omega) rfl) (OpG.lk (nt agv rfl rfl (by omega)) ?_);refine rV rfl rfl ?_;have e:k0=p.size:=by omega
 subst e;rfl
def M6(r:List GVal)(hr:bq r (fun y=>FitVal y))(e:List AV)(he:IsEx e):CdR r e->PRet prog 49 [.agg (rwA e),.tree 3 (r.map gvA)] (fun q=>q=vI (cS (bj r) e)):=
 IsEx.ind (M:=fun e=>CdR r e->PRet prog 49 [.agg (rwA e),.tree 3 (r.map gvA)] (fun q=>q=vI (cS (bj r) e))) (fun x hx ih hc=>aar x hx r hr hc ih (fun s p hs hp=>Zy s hs p hp)) he
def Rn{t:GTab}(h:Dc t r):X3 (aa t) r:=⟨by rw[h.1];simp[aa],fun j hl h2=>by have h3:j<t.d_.length:=(by have:=h.1;omega);have e:(aa t)[j]=zq t.d_[j]:=(by simp[aa]);rw[e];exact Up (h.2 j hl h3)⟩
def Xh(t:GTab)(w:List GVal):Prop:=Dc t w/\∀e∈t.h_,cS (bj w) e≠0
structure TabOk(t:GTab):Prop where
 cl:t.d_.length<=1000
 lk:LOk (aa t)
 ck:∀e∈t.h_,CondE (aa t) e
def Gi(t:GTab)(ht:FitTab t)(w:List GVal)(hw:bq w (fun y=>FitVal y))(h5:TabOk t):PRet prog 20 [.agg (ic t),.tree 3 (w.map gvA)] (fun r=>∃b:Bool,r=vB b/\(b=true↔Xh t w)):=by refine ovT [21] [] func20 rfl rfl (ArgG.mk (El t ht w hw h5.cl) rfl ?_);rintro _ ⟨e0,rfl,h8⟩;refine cB (fun h2=>by have h9:¬((e0:Int)=(0:Int)):=(by simpa using h2);have h4:¬Dc t w:=fun h=>absurd (h8.2 h) (by simpa using h2);exact rV rfl rfl ⟨_,rfl,fun h=>absurd h az7,fun h=>absurd h.1 h4⟩) (fun h2=>have h9:(e0:Int)=(0:Int):=(by simpa using h2);have h4:=h8.1 (by simpa using h2);LpG.on (fun k0:Nat=>(⟨fL [(1,.tree 3 (w.map gvA)),(2,.ptr 0 0 0),(5,vI k0)],hLz [(0,⟨0,ic t,0,false⟩)],1⟩:St)) (fun k0=>(t.h_.length-k0)) (fun k0=>(k0<=t.h_.length/\∀j (hl:j<t.h_.length),j<k0->cS (bj w) t.h_[j]≠0)) 0 (cnR rfl) ⟨azk _,fun j _ h=>absurd h (azl j)⟩ ?_);rintro k0 h6;have hgr_k0:t.h_.length<=140737488355328:=ht.h_.1;obtain⟨hle_k0,h1⟩:=h6;refine LenG.of (cL (fun h3=>?_) (fun hge14=>?_));refine IdxG.of ‹_› (OpG.lk (ci n6 rfl (jd (ht.h_.2 _ (ay7 _)))) (ArgG.mk (M6 w hw t.h_[k0] (ht.h_.2 _ (ay7 _)) (aq7 (Rn h4) h5.lk (h5.ck _ (ay7 _)) (ht.h_.2 _ (ay7 _)))) (show bz [.agg (rwA t.h_[k0]),.tree 3 (w.map gvA)]=true by simp[bz,AV.pureB,kc (ht.h_.2 _ (ay7 _))]) ?_));rintro _ rfl;refine cB (fun h0=>by have h7:((cS (bj w) t.h_[k0]):Int)=(0:Int):=(by simpa using h0);exact rV rfl rfl ⟨_,rfl,fun h=>absurd h az7,fun h=>absurd (by simpa using h0) (h.2 _ (ay7 h3))⟩) (fun h0=>have h7:¬(((cS (bj w) t.h_[k0]):Int)=(0:Int)):=(by simpa using h0);⟨by omega,⟨(k0+1),by omega,(cnR rfl),⟨by omega,fun j hl h=>?_⟩⟩⟩);rcases azn.1 h with h|rfl;exact h1 j hl h;simpa using h0;exact rV rfl rfl ⟨_,rfl,fun _=>⟨h4,fun e he=>by obtain⟨j,hj,rfl⟩:=azs he;exact h1 j hj (by omega)⟩,fun _=>rfl⟩
def Lo:RowF (fun l:List ByteArray=>[AV.tree 1 (l.map sA)]) 1:=⟨fun _=>rfl,fun _=>rfl,fun _ _=>rfl,fun _ _=>rfl,fun _ _=>rfl,fun _=>rfl⟩
def y2:RowF ane 3:=⟨fun _=>rfl,fun _=>rfl,fun _ _=>rfl,fun _ _=>rfl,fun _ _=>rfl,fun _=>rfl⟩
structure ForOk(s:List GTab)(n:Nat)(t:GTab)(f:GFor):Prop where
 cols:∀x∈f.d_,0<=x/\x<t.d_.length
 tab:∃j q:Nat,f.n_=((j:Nat):Int)/\f.M_=((q:Nat):Int)/\j<=n/\∃h:j<s.length,q<s[j].u_.length
structure TabV(s:List GTab)(n:Nat)(t:GTab):Prop where
 keys:∀k∈t.u_,∀x∈k,0<=x/\x<t.d_.length
 fors:∀f∈t.m_,ForOk s n t f
def alg(s:List GTab):Prop:=∀n (h:n<s.length),TabV s n s[n]
structure DefOk(x:GSta):Prop where
 cl:x.g_.d_.length<=20
 kl:x.g_.u_.length<=10
 fl:x.g_.m_.length<=10
 key:∀k∈x.g_.u_,k.length<=20
 fcl:∀f∈x.g_.m_,f.d_.length<=20/\f.z_.length<=20
def qd{P:α->Prop}{l:List α}{a:α}(h:∀q∈l,P q)(ha:P a):∀q∈l++[a],P q:=by grind
structure ForD(s:List GTab)(t:GTab)(f:GFor)(r:GRef):Prop where
 len:r.d_.length=f.d_.length
 nam:P9 t.d_ f.d_ r.d_
 tab:∃j q:Nat,f.n_=((j:Nat):Int)/\f.M_=((q:Nat):Int)/\∃hj:j<s.length,∃hq:q<s[j].u_.length,r.n_=s[j].q_/\r.z_.length=s[j].u_[q].length/\P9 s[j].d_ s[j].u_[q] r.z_
def Xs(s:List GTab)(t:GTab)(L:List GRef):Prop:=∀j (h:j<L.length) (h2:j<t.m_.length),ForD s t t.m_[j] L[j]
def Xs.snoc{t:GTab}{L:List GRef}{r:GRef}(h:Xs s t L)(e:L.length=k)(hk:k<t.m_.length)(hr:ForD s t t.m_[k] r):Xs s t (L++[r]):=by grind[Xs]
structure DefS(s:List GTab)(t:GTab)(x:GSta):Prop where
 name:x.n_=t.q_
 cols:x.g_.d_=t.d_
 keys:x.g_.u_.map List.length=t.u_.map List.length
 fl:x.g_.m_.length=t.m_.length
 fors:Xs s t x.g_.m_
def axv:(prog.info? 207).map (·.bytes)=some 24:=by kernel_rfl
def axu:(prog.info? 209).map (·.bytes)=some 64:=by kernel_rfl
def ave:ey prog 52=some (some 22):=by kernel_rfl
def auu:aj prog 207=some 1:=by kernel_rfl
def aut:aj prog 209=some 3:=by kernel_rfl
def uv:aj prog 27=some 5:=by kernel_rfl
def amc:aj prog 53=some 1:=by kernel_rfl
def atw:bp prog 207=some (.slice none 0 0):=by kernel_rfl
def atv:bp prog 209=some (.agg #[.slice none 0 0,.string ⟨#[]⟩,.slice none 0 0]):=by kernel_rfl
def Hp(s:List GTab)(hs:bq s (fun y=>FitTab y))(n:Nat)(hn:n<s.length)(hv:alg s)(hg:∀t∈s,SmTab t):PRet prog 56 [.tree 5 (s.map ic),vI n] (fun r=>∃x:GSta,r=.agg (P4 x)/\FitSta x/\DefOk x/\DefS s s[n] x):=by have h8:=hs.2 _ (ay7 hn);have h5:=hg _ (ay7 hn);have hj:=h5.cols;have hm2:=h5.keys;have hm3:=h5.fors;refine ovT [62,78] [8,14] func56 rfl rfl ?_;refine IdxG.of ‹_› ⟨by kernel_rfl,LpG.via (fun _ h=>cn 2 3 1 rfl rfl rfl rfl rfl 4 rfl h) ?_⟩;refine LpG.on (fun k0:KL (List ByteArray)=>(⟨fL [(0,.tree 5 (s.map ic)),(4,.ptr 0 0 0),(5,.ptr 1 0 0),(6,.ptr 2 0 0),(7,vI k0.k)],hLz [(0,⟨0,[vI 0,.v (.string ⟨#[]⟩),.v (.slice none 0 0),.v (.slice none 0 0),.v (.slice none 0 0),.v (.slice none 0 0),.v (.slice none 0 0),.v (.slice none 0 0),.v (.slice none 0 0),.v (.slice none 0 0),vI 0,.v (.string ⟨#[]⟩),.v (.string ⟨#[]⟩),vI 0,vI 0,vI 0,.v (.string ⟨#[]⟩),.v (.slice none 0 0),.v (.slice none 0 0),.v (.slice none 0 0),vI 0,.v (.string ⟨#[]⟩)],0,false⟩),(1,⟨0,ic s[n],0,false⟩),(2,⟨0,[vI 1,.v (.string s[n].q_),.tree 6 (s[n].d_.map zh),.sl 3 k0.L.length 0 k0.L.length,.v (.slice none 0 0),.tree 8 (s[n].h_.map rwA),.v (.slice none 0 0),.v (.slice none 0 0),.v (.slice none 0 0),.v (.slice none 0 0),vI 0,.v (.string ⟨#[]⟩),.v (.string ⟨#[]⟩),vI 0,vI 0,vI 0,.v (.string ⟨#[]⟩),.v (.slice none 0 0),.v (.slice none 0 0),.v (.slice none 0 0),vI 0,.v (.string ⟨#[]⟩)],0,false⟩),(3,⟨k0.L.length,rF (fun l=>[.tree 1 (l.map sA)]) k0.L,1,Nat.beq k0.L.length 0⟩)],4⟩:St)) (fun k0=>(s[n].u_.length-k0.k)) (fun k0=>(k0.k<=s[n].u_.length/\(k0.L.length=k0.k/\(∀y∈k0.L,bq y (fun z=>jw z)/\y.length<=20)/\k0.L.map List.length=(s[n].u_.take k0.k).map List.length))) (⟨0,[]⟩:KL (List ByteArray)) (cnS rfl (hpR rfl (hpR rfl (hpR (by rfl) (hpS (ab Lo _ _) (by rfl) trivial))))) ⟨azk _,⟨rfl,fun y hy=>absurd hy (by simp),rfl⟩⟩ ?_;rintro k0 h4;have hgr_k0:s[n].u_.length<=140737488355328:=(hs.2 _ (ay7 _)).u_.1;obtain⟨hle_k0,h1⟩:=h4;refine LenG.of (cL (fun h3=>?_) (fun hge30=>?_));have hin:=(hv n hn).keys _ (ay7 h3);have hkl:=h1.1;have h9:=h5.key _ (ay7 h3);refine IdxG.of ‹_› (ArgG.mk (Ji (s[n]) (hs.2 _ (ay7 _)) (s[n].u_[k0.k]) ((hs.2 _ (ay7 _)).u_.2 _ (ay7 _)) ‹_› (by omega)) rfl ?_);rintro _ ⟨L0,rfl,hl,ha,hLn0⟩;refine OpG.mk _ _ _ 5 (ah Lo (a:=L0) underlying43 auu atw axv rfl rfl rfl (am rfl rfl rfl rfl) rfl (by omega) (by omega) (by unfold TV;omega)) rfl rfl ?_;refine⟨by kernel_rfl,?_⟩;refine⟨by omega,?_⟩;refine⟨(⟨k0.k+1,k0.L++[L0]⟩:KL (List ByteArray)),(nsA ‹_›),(cnS rfl (hpR rfl (hpR rfl (.cons (by(rw[azb];rfl)) rfl rfl (.cons (by(rw[azb];rfl)) rfl (ab Lo _ _) .nil))))),?_⟩;refine⟨‹_›,?_⟩;exact⟨by show(_++[_]).length=k0.k+1;rw[azb,h1.1];rfl,qd h1.2.1 ⟨ha,by omega⟩,by show(_++[_]).map _=_;rw[azj h3,azx,azx,h1.2.2];simp[hl]⟩;refine RegG.via (fun _ h=>cz [3] 2 0 0 [vI 1,.v (.string s[n].q_),.tree 6 (s[n].d_.map zh),.sl 3 k0.L.length 0 k0.L.length,.v (.slice none 0 0),.tree 8 (s[n].h_.map rwA),.v (.slice none 0 0),.v (.slice none 0 0),.v (.slice none 0 0),.v (.slice none 0 0),vI 0,.v (.string ⟨#[]⟩),.v (.string ⟨#[]⟩),vI 0,vI 0,vI 0,.v (.string ⟨#[]⟩),.v (.slice none 0 0),.v (.slice none 0 0),.v (.slice none 0 0),vI 0,.v (.string ⟨#[]⟩)] [vI 1,.v (.string s[n].q_),.tree 6 (s[n].d_.map zh),.tree 1 (k0.L.map (fun l=>[.tree 1 (l.map sA)])),.v (.slice none 0 0),.tree 8 (s[n].h_.map rwA),.v (.slice none 0 0),.v (.slice none 0 0),.v (.slice none 0 0),.v (.slice none 0 0),vI 0,.v (.string ⟨#[]⟩),.v (.string ⟨#[]⟩),vI 0,vI 0,vI 0,.v (.string ⟨#[]⟩),.v (.slice none 0 0),.v (.slice none 0 0),.v (.slice none 0 0),vI 0,.v (.string ⟨#[]⟩)] rfl rfl (.keep (.keep (.keep (.fz (FzP.rows Lo (azc.2 rfl) rfl) (.same _))))) rfl h) ?_;refine ay ?_;refine LpG.via (fun _ h=>cn 2 4 3 rfl rfl rfl rfl rfl 5 rfl h) ?_;refine LpG.on (fun k2:KL GRef=>(⟨fL [(0,.tree 5 (s.map ic)),(4,.ptr 0 0 0),(5,.ptr 1 0 0),(6,.ptr 2 0 0),(8,vI k2.k)],hLz [(0,⟨0,[vI 0,.v (.string ⟨#[]⟩),.v (.slice none 0 0),.v (.slice none 0 0),.v (.slice none 0 0),.v (.slice none 0 0),.v (.slice none 0 0),.v (.slice none 0 0),.v (.slice none 0 0),.v (.slice none 0 0),vI 0,.v (.string ⟨#[]⟩),.v (.string ⟨#[]⟩),vI 0,vI 0,vI 0,.v (.string ⟨#[]⟩),.v (.slice none 0 0),.v (.slice none 0 0),.v (.slice none 0 0),vI 0,.v (.string ⟨#[]⟩)],0,false⟩),(1,⟨0,ic s[n],0,false⟩),(2,⟨0,[vI 1,.v (.string s[n].q_),.tree 6 (s[n].d_.map zh),.tree 1 (k0.L.map (fun l=>[.tree 1 (l.map sA)])),.sl 4 k2.L.length 0 k2.L.length,.tree 8 (s[n].h_.map rwA),.v (.slice none 0 0),.v (.slice none 0 0),.v (.slice none 0 0),.v (.slice none 0 0),vI 0,.v (.string ⟨#[]⟩),.v (.string ⟨#[]⟩),vI 0,vI 0,vI 0,.v (.string ⟨#[]⟩),.v (.slice none 0 0),.v (.slice none 0 0),.v (.slice none 0 0),vI 0,.v (.string ⟨#[]⟩)],0,false⟩),(4,⟨k2.L.length,rF ane k2.L,3,Nat.beq k2.L.length 0⟩)],5⟩:St)) (fun k2=>(s[n].m_.length-k2.k)) (fun k2=>(k2.k<=s[n].m_.length/\(k2.L.length=k2.k/\(∀y∈k2.L,FitRef y/\y.d_.length<=20/\y.z_.length<=20)/\Xs s s[n] k2.L))) (⟨0,[]⟩:KL GRef) (cnS rfl (hpR rfl (hpR rfl (hpR (by rfl) (hpS (ab y2 _ _) (by rfl) trivial))))) ⟨azk _,⟨rfl,fun y hy=>absurd hy (by simp),fun j h=>absurd h (azl j)⟩⟩ ?_;rintro k2 h4;have hgr_k2:s[n].m_.length<=140737488355328:=(hs.2 _ (ay7 _)).m_.1;obtain⟨hle_k2,h0⟩:=h4;refine LenG.of (cL (fun h2=>?_) (fun hge51=>?_));obtain⟨j1,q1,hh,hi,hjn,h6,h7⟩:=((hv n hn).fors _ (ay7 h2)).tab;have hfl:=h0.1;have hin1:=((hv n hn).fors _ (ay7 h2)).cols;have hin2:=(hv j1 h6).keys _ (ay7 h7);have hf20:=h5.fcol _ (ay7 h2);have h9:=(hg _ (ay7 h6)).key _ (ay7 h7);refine IdxG.of ‹_› (OpG.lk (ae underlying42 uv rfl rfl hh h6) ?_);refine ArgG.mk (Ji (s[n]) (hs.2 _ (ay7 _)) (s[n].m_[k2.k].d_) ((hs.2 _ (ay7 _)).m_.2 _ (ay7 _)).d_ ‹_› (by omega)) rfl ?_;rintro _ ⟨L1,rfl,hm,hb,hc⟩;refine OpG.lk (ae underlying23 amc rfl rfl hi h7) ?_;refine ArgG.mk (Ji (s[j1]) (hs.2 _ (ay7 _)) (s[j1].u_[q1]) ((hs.2 _ (ay7 _)).u_.2 _ (ay7 _)) ‹_› (by omega)) rfl ?_;rintro _ ⟨L2,rfl,ho,hd,he⟩;refine OpG.mk _ _ _ 8 (ah y2 (a:=(⟨L1,s[j1].q_,L2⟩:GRef)) underlying44 aut atv axu rfl rfl rfl (am rfl rfl rfl rfl) rfl (by omega) (by omega) (by unfold TV;omega)) rfl rfl ?_;refine⟨by kernel_rfl,?_⟩;refine⟨by omega,?_⟩;refine⟨(⟨k2.k+1,k2.L++[(⟨L1,s[j1].q_,L2⟩:GRef)]⟩:KL GRef),(nsA ‹_›),(cnS rfl (hpR rfl (hpR rfl (.cons (by(rw[azb];rfl)) rfl rfl (.cons (by(rw[azb];rfl)) rfl (ab y2 _ _) .nil))))),?_⟩;refine⟨‹_›,?_⟩;exact⟨by show(_++[_]).length=k2.k+1;rw[azb,h0.1];rfl,qd h0.2.1 ⟨⟨hb,(hs.2 _ (ay7 h6)).q_,hd⟩,by show L1.length<=20;omega,by show L2.length<=20;omega⟩,h0.2.2.snoc h0.1 h2 ⟨hm,hc,j1,q1,hh,hi,h6,h7,rfl,ho,he⟩⟩;refine RegG.via (fun _ h=>cz [4] 2 0 0 [vI 1,.v (.string s[n].q_),.tree 6 (s[n].d_.map zh),.tree 1 (k0.L.map (fun l=>[.tree 1 (l.map sA)])),.sl 4 k2.L.length 0 k2.L.length,.tree 8 (s[n].h_.map rwA),.v (.slice none 0 0),.v (.slice none 0 0),.v (.slice none 0 0),.v (.slice none 0 0),vI 0,.v (.string ⟨#[]⟩),.v (.string ⟨#[]⟩),vI 0,vI 0,vI 0,.v (.string ⟨#[]⟩),.v (.slice none 0 0),.v (.slice none 0 0),.v (.slice none 0 0),vI 0,.v (.string ⟨#[]⟩)] [vI 1,.v (.string s[n].q_),.tree 6 (s[n].d_.map zh),.tree 1 (k0.L.map (fun l=>[.tree 1 (l.map sA)])),.tree 3 (k2.L.map ane),.tree 8 (s[n].h_.map rwA),.v (.slice none 0 0),.v (.slice none 0 0),.v (.slice none 0 0),.v (.slice none 0 0),vI 0,.v (.string ⟨#[]⟩),.v (.string ⟨#[]⟩),vI 0,vI 0,vI 0,.v (.string ⟨#[]⟩),.v (.slice none 0 0),.v (.slice none 0 0),.v (.slice none 0 0),vI 0,.v (.string ⟨#[]⟩)] rfl rfl (.keep (.keep (.keep (.keep (.fz (FzP.rows y2 (azc.2 rfl) rfl) (.same _)))))) rfl h) ?_;refine ay ?_;refine rtK rfl ave rfl ⟨[],FzP.pure rfl⟩ ?_;have g1:=h1.1;have g2:=h0.1;exact⟨⟨1,s[n].q_,⟨s[n].d_,k0.L,k2.L,s[n].h_⟩⟩,rfl,⟨h8.q_,⟨h8.d_,⟨by show k0.L.length<=_;omega,fun y hy=>(h1.2.1 y hy).1⟩,⟨by show k2.L.length<=_;omega,fun y hy=>(h0.2.1 y hy).1⟩,h8.h_⟩⟩,⟨hj,by show k0.L.length<=10;omega,by show k2.L.length<=10;omega,fun k hk=>(h1.2.1 k hk).2,fun f hf=>(h0.2.1 f hf).2⟩,⟨rfl,rfl,by have e:=h1.2.2;rwa [az0 (by omega)]at e,by show k2.L.length=_;omega,h0.2.2⟩⟩
def dn:RowF ic 5:=⟨fun _=>rfl,fun _=>rfl,fun _ _=>rfl,fun _ _=>rfl,fun _ _=>rfl,fun _=>rfl⟩
def kz:RowF aix 3:=⟨fun _=>rfl,fun _=>rfl,fun _ _=>rfl,fun _ _=>rfl,fun _ _=>rfl,fun _=>rfl⟩
def Lp:RowF (fun l:List Int=>[AV.tree 1 (l.map iA)]) 1:=⟨fun _=>rfl,fun _=>rfl,fun _ _=>rfl,fun _ _=>rfl,fun _ _=>rfl,fun _=>rfl⟩
structure KFE where
 k:Nat
 L:List GFor
 e:Int
abbrev amv(S:List GTab):Blk:=⟨S.length,rF ic S,5,Nat.beq S.length 0⟩
def FkT(S:List GTab)(x:GSta)(f:GRef):Prop:=∃(uc:List GCol),((f.n_=x.n_/\uc=x.g_.d_)\/∃u∈S,u.q_=f.n_/\u.d_=uc)/\∃L1 L3:List Int,L1.length=f.d_.length/\P9 x.g_.d_ L1 f.d_/\P9 uc L3 f.z_/\L3.length=f.z_.length/\att x.g_.d_ uc L1 L3
def Um{e e':Int}(hi:e=0->∀j (hl:j<x.g_.m_.length),j<k->FkT S x x.g_.m_[j])(h:e'=0->e=0/\∀hk:k<x.g_.m_.length,FkT S x x.g_.m_[k]):e'=0->∀j (hl:j<x.g_.m_.length),j<k+1->FkT S x x.g_.m_[j]:=by grind
def awv{f:GRef}{all:List GTab}{T0:GTab}{L1 L3:List Int}(hae:all=[]++S++[T0])(h0:T0.q_=x.n_)(h1:T0.d_=x.g_.d_)(hj:j<all.length)(hn:all[j].q_=f.n_)(l1:L1.length=f.d_.length)(n1:P9 x.g_.d_ L1 f.d_)(n3:P9 all[j].d_ L3 f.z_)(l3:L3.length=f.z_.length)(ht:att x.g_.d_ all[j].d_ L1 L3):FkT S x f:=by grind[FkT]
def aer:cw prog 164=true:=by kernel_rfl
def arv:cw prog 166=true:=by kernel_rfl
def arh:(prog.info? 143).map (·.bytes)=some 40:=by kernel_rfl
def axs:(prog.info? 27).map (·.bytes)=some 112:=by kernel_rfl
def by53:(prog.info? 53).map (·.bytes)=some 24:=by kernel_rfl
def I5:ey prog 27=some (some 5):=by kernel_rfl
def amg:aj prog 143=some 3:=by kernel_rfl
def alm:bp prog 143=some (.agg #[.slice none 0 0,.int .i64 0,.int .i64 0]):=by kernel_rfl
def ali:bp prog 27=some (.agg #[.string ⟨#[]⟩,.slice none 0 0,.slice none 0 0,.slice none 0 0,.slice none 0 0]):=by kernel_rfl
def zr53:bp prog 53=some (.slice none 0 0):=by kernel_rfl
def agb(x:GSta)(hx:FitSta x)(S:List GTab)(hS:bq S (fun y=>FitTab y))(hS2:S.length<=8)(hd:DefOk x)(hu:∀f∈x.g_.m_,f.d_.length=f.z_.length):aby prog 110 [.sl TOP S.length 0 S.length,.agg (P4 x)] [(TOP,amv S)] [(TOP,some (amv S))] (fun r=>∃(t:GTab) (e:Int),r=.tup [.agg (ic t),vI e]/\FitTab t/\(e=0->t.q_=x.n_/\t.d_=x.g_.d_/\∀f∈x.g_.m_,FkT S x f)):=by have hd1:=hd.kl;have hd2:=hd.fl;refine aby.of_vc ua [47,61,62,64,83,144] [9,10,33] func110 rfl ntmps110 rfl (by kernel_rfl) (LpG.via (fun _ h=>cn 2 2 1 rfl rfl rfl rfl rfl 4 rfl h) ?_);refine LpG.on (fun k0:KL (List Int)=>(⟨fL [(0,.sl TOP S.length 0 S.length),(3,.ptr 0 0 0),(4,.ptr 1 0 0),(6,.ptr 2 0 0),(7,vI k0.k)],hLz [(0,⟨0,P4 x,0,false⟩),(1,⟨0,[.v (.string ⟨#[]⟩),.v (.slice none 0 0),.v (.slice none 0 0),.v (.slice none 0 0),.v (.slice none 0 0)],0,false⟩),(2,⟨0,[.v (.string x.n_),.tree 6 (x.g_.d_.map zh),.sl 3 k0.L.length 0 k0.L.length,.v (.slice none 0 0),.tree 8 (x.g_.h_.map rwA)],0,false⟩),(3,⟨k0.L.length,rF (fun l=>[.tree 1 (l.map iA)]) k0.L,1,Nat.beq k0.L.length 0⟩),(1000000,amv S)],4⟩:St)) (fun k0=>(x.g_.u_.length-k0.k)) (fun k0=>(k0.k<=x.g_.u_.length/\(k0.L.length=k0.k/\∀y∈k0.L,bq y (fun _=>True)))) (⟨0,[]⟩:KL (List Int)) (cnS rfl (hpR rfl (hpR rfl (hpR (by rfl) (hpS (ab Lp _ _) (by rfl) (hpS (ab dn _ _) rfl trivial)))))) ⟨azk _,⟨rfl,fun y hy=>absurd hy (by simp)⟩⟩ ?_;rintro k0 h3;have hgr_k0:x.g_.u_.length<=140737488355328:=hx.g_.u_.1;obtain⟨hle_k0,h1⟩:=h3;refine LenG.of (cL (fun h6=>?_) (fun hge36=>?_));have hv:=h1.1;have hk20:=hd.key _ (ay7 h6);refine IdxG.of ‹_› ?_;obtain⟨_,⟨L0,b0,rfl,hg,hL0,hLn0⟩,hh⟩:=w9 ⟨x.n_,x.g_.d_⟩ ⟨hx.n_,hx.g_.d_⟩ x.g_.u_[k0.k] (hx.g_.u_.2 _ (ay7 h6)) (by omega);refine OpG.lk (dc aer (.cons (FzP.aggL (.cons (.pure rfl) (.cons (.pure rfl) (.cons .unk (.cons .unk (.cons .unk .nil)))))) (.cons (.pure rfl) .nil)) hh) ⟨by kernel_rfl,cB (fun hi=>?_) (fun hi=>?_)⟩;exact⟨.inr rfl,_,Pn.of [] (cy rfl (.cons (ay3.cellN I5 rfl rfl trivial rfl rfl rfl) (.cons (ay3.tmp rfl) .nil))) rfl ⟨.same rfl (by decide),trivial⟩ (.tup (.fz (FzP.aggL (.cons (.pure rfl) (.cons (FzP.nil (n:=6)) (.cons (FzP.nil (n:=1)) (.cons (FzP.nil (n:=3)) (.cons (FzP.nil (n:=8)) .nil)))))) (.same .nil))),⟨⟨⟨#[]⟩,[],[],[],[]⟩,_,rfl,⟨azk _,⟨azk _,by simp⟩,⟨azk _,by simp⟩,⟨azk _,by simp⟩,⟨azk _,by simp⟩⟩,by exact fun h=>absurd h (by decide)⟩⟩;refine OpG.mk _ _ _ 5 (ah Lp (a:=L0) underlying23 amc zr53 by53 rfl rfl rfl (am rfl rfl rfl rfl) rfl (by omega) (by omega) (by unfold TV;omega)) rfl rfl ⟨by omega,⟨(⟨k0.k+1,k0.L++[L0]⟩:KL (List Int)),(nsA ‹_›),(cnS rfl (hpR rfl (hpR rfl (.cons (by(rw[azb];rfl)) rfl rfl (.cons (by(rw[azb];rfl)) rfl (ab Lp _ _) (hpS (ab dn _ _) rfl trivial)))))),?_⟩⟩;exact⟨‹_›,⟨by show(_++[_]).length=k0.k+1;rw[azb,h1.1];rfl,qd h1.2 hg⟩⟩;refine RegG.via (fun _ h=>cz [3] 2 0 0 [.v (.string x.n_),.tree 6 (x.g_.d_.map zh),.sl 3 k0.L.length 0 k0.L.length,.v (.slice none 0 0),.tree 8 (x.g_.h_.map rwA)] [.v (.string x.n_),.tree 6 (x.g_.d_.map zh),.tree 1 (k0.L.map (fun l=>[.tree 1 (l.map iA)])),.v (.slice none 0 0),.tree 8 (x.g_.h_.map rwA)] rfl rfl (.keep (.keep (.fz (FzP.rows Lp (azc.2 rfl) rfl) (.same _)))) rfl h) (ay ?_);refine OpG.nw (rr 4 underlying42 uv) rfl (OpG.mk _ _ _ 5 (Id dn (l:=[]) (l':=S) underlying42 uv ali axs rfl rfl rfl rfl rfl (by simp only[azv];omega) (by simp only[azv];omega) (by unfold TV;omega)) rfl rfl ?_);refine OpG.lk (nr (Xm I5 rfl rfl rfl rfl rfl) (fun _=>FzP.aggL (.cons (.pure rfl) (.cons (.pure rfl) (.cons (.pure rfl) (.cons (FzP.nil (n:=3)) (.cons (.pure rfl) .nil))))))) (OpG.mk _ _ _ 6 (Ko dn (l:=[]++S) (a:=(⟨x.n_,x.g_.d_,k0.L,[],x.g_.h_⟩:GTab)) underlying42 uv ali axs rfl rfl rfl (am rfl rfl rfl rfl) rfl (by simp only[List.nil_append];omega) (by simp only[List.nil_append];omega) (by unfold TV;omega)) rfl rfl ?_);refine⟨by kernel_rfl,?_⟩;obtain⟨all,hk⟩:∃all:List GTab,all=[]++S++[(⟨x.n_,x.g_.d_,k0.L,[],x.g_.h_⟩:GTab)]:=⟨_,rfl⟩;have hv:=h1.1;have h2:bq all (fun y=>FitTab y):=(by subst hk;exact⟨by simp;omega,qd hS.2 ⟨hx.n_,hx.g_.d_,⟨by show k0.L.length<=_;omega,fun y hy=>h1.2 y hy⟩,⟨azk _,by simp⟩,hx.g_.h_⟩⟩);refine RegG.via (fun _ h=>bc [4] 10 (.tree 5 (all.map ic)) (by rw[hk];exact fg dn (azc.2 rfl) rfl) rfl h) (ay ?_);refine LpG.via (fun _ h=>cn 2 3 3 rfl rfl rfl rfl rfl 7 rfl h) (LpG.on (fun k2:KFE=>(⟨fL [(3,.ptr 0 0 0),(4,.ptr 1 0 0),(6,.ptr 2 0 0),(10,.tree 5 (all.map ic)),(11,vI k2.e),(12,vI k2.k)],hLz [(0,⟨0,P4 x,0,false⟩),(1,⟨0,[.v (.string ⟨#[]⟩),.v (.slice none 0 0),.v (.slice none 0 0),.v (.slice none 0 0),.v (.slice none 0 0)],0,false⟩),(2,⟨0,[.v (.string x.n_),.tree 6 (x.g_.d_.map zh),.tree 1 (k0.L.map (fun l=>[.tree 1 (l.map iA)])),.sl 6 k2.L.length 0 k2.L.length,.tree 8 (x.g_.h_.map rwA)],0,false⟩),(6,⟨k2.L.length,rF aix k2.L,3,Nat.beq k2.L.length 0⟩),(1000000,amv S)],7⟩:St)) (fun k2=>(x.g_.m_.length-k2.k)) (fun k2=>(k2.k<=x.g_.m_.length/\(k2.L.length=k2.k/\(∀y∈k2.L,FitFor y)/\(k2.e=0->∀j (hl:j<x.g_.m_.length),j<k2.k->FkT S x x.g_.m_[j])))) (⟨0,[],0⟩:KFE) (cnS rfl (hpR rfl (hpR rfl (hpR (by rfl) (hpS (ab kz _ _) (by rfl) (hpS (ab dn _ _) rfl trivial)))))) ⟨azk _,⟨rfl,fun y hy=>absurd hy (by simp),fun _ j _ h=>absurd h (azl j)⟩⟩ ?_);rintro k2 h3;have hgr_k2:x.g_.m_.length<=140737488355328:=hx.g_.m_.1;obtain⟨hle_k2,h0⟩:=h3;refine LenG.of (cL (fun h4=>?_) (fun hge70=>?_));have hfl2:=h0.1;have hf20:=hd.fcl _ (ay7 h4);have hfe:=hu _ (ay7 h4);refine IdxG.of ‹_› ?_;obtain⟨_,⟨L1,b1,rfl,h9,hw,hm⟩,hn⟩:=w9 ⟨x.n_,x.g_.d_⟩ ⟨hx.n_,hx.g_.d_⟩ x.g_.m_[k2.k].d_ ((hx.g_.m_.2 _ (ay7 h4)).d_) (by omega);refine OpG.lk (dc aer (.cons (FzP.aggL (.cons (.pure rfl) (.cons (.pure rfl) (.cons .unk (.cons .unk (.cons .unk .nil)))))) (.cons (.pure rfl) .nil)) hn) (ArgG.mk (Mz all h2 (x.g_.m_[k2.k].n_) (hx.g_.m_.2 _ (ay7 _)).n_) rfl ?_);rintro _ ⟨j2,b2,rfl,hz,g0⟩;apply cB<;>intro ho;exact cT ⟨.inr rfl,_,Pn.of [] (cy rfl (.cons (ay3.cellN I5 rfl rfl trivial rfl rfl rfl) (.cons (ay3.tmp rfl) .nil))) rfl ⟨.same rfl (by decide),trivial⟩ (.tup (.fz (FzP.aggL (.cons (.pure rfl) (.cons (FzP.nil (n:=6)) (.cons (FzP.nil (n:=1)) (.cons (FzP.nil (n:=3)) (.cons (FzP.nil (n:=8)) .nil)))))) (.same .nil))),⟨⟨⟨#[]⟩,[],[],[],[]⟩,_,rfl,⟨azk _,⟨azk _,by simp⟩,⟨azk _,by simp⟩,⟨azk _,by simp⟩,⟨azk _,by simp⟩⟩,by exact fun h=>absurd h (by decide)⟩⟩;apply cB<;>intro hp;exact⟨.inr rfl,_,Pn.of [] (cy rfl (.cons (ay3.cellN I5 rfl rfl trivial rfl rfl rfl) (.cons (ay3.tmp rfl) .nil))) rfl ⟨.same rfl (by decide),trivial⟩ (.tup (.fz (FzP.aggL (.cons (.pure rfl) (.cons (FzP.nil (n:=6)) (.cons (FzP.nil (n:=1)) (.cons (FzP.nil (n:=3)) (.cons (FzP.nil (n:=8)) .nil)))))) (.same .nil))),⟨⟨⟨#[]⟩,[],[],[],[]⟩,_,rfl,⟨azk _,⟨azk _,by simp⟩,⟨azk _,by simp⟩,⟨azk _,by simp⟩,⟨azk _,by simp⟩⟩,by exact fun h=>absurd h (by decide)⟩⟩;have hb1t:b1=true:=(by simpa using ho);have hb2t:b2=true:=(by simpa using hp);have he:=hz hb2t;refine IdxG.of ‹_› (ArgG.mk (Sx (all[j2]) (h2.2 _ (ay7 _)) (x.g_.m_[k2.k].z_) (hx.g_.m_.2 _ (ay7 _)).z_ (by omega)) rfl ?_);rintro _ ⟨L3,b3,rfl,ha,g3,hq⟩;refine⟨by kernel_rfl,LpG.on (fun k4:KE=>(⟨fL [(3,.ptr 0 0 0),(4,.ptr 1 0 0),(6,.ptr 2 0 0),(10,.tree 5 (all.map ic)),(11,vI k2.e),(12,vI k2.k),(14,.tree 1 (L1.map iA)),(16,vI j2),(18,.tree 1 (L3.map iA)),(19,vB b3),(20,vI k4.e),(21,vI k4.k)],hLz [(0,⟨0,P4 x,0,false⟩),(1,⟨0,[.v (.string ⟨#[]⟩),.v (.slice none 0 0),.v (.slice none 0 0),.v (.slice none 0 0),.v (.slice none 0 0)],0,false⟩),(2,⟨0,[.v (.string x.n_),.tree 6 (x.g_.d_.map zh),.tree 1 (k0.L.map (fun l=>[.tree 1 (l.map iA)])),.sl 6 k2.L.length 0 k2.L.length,.tree 8 (x.g_.h_.map rwA)],0,false⟩),(6,⟨k2.L.length,rF aix k2.L,3,Nat.beq k2.L.length 0⟩),(1000000,amv S)],8⟩:St)) (fun k4=>(all[j2].u_.length-k4.k)) (fun k4=>(k4.k<=all[j2].u_.length/\(0<=k4.e->b3=true))) (⟨0,-1⟩:KE) (cnS rfl (hpR rfl (hpR rfl (hpR rfl (hpS (ab kz _ _) rfl (hpS (ab dn _ _) rfl trivial)))))) ⟨azk _,fun h=>absurd h (by decide)⟩ ?_⟩;rintro k4 h3;have hgr_k4:all[j2].u_.length<=140737488355328:=(h2.2 _ (ay7 _)).u_.1;obtain⟨hle_k4,h5⟩:=h3;refine IdxG.of ‹_› (LenG.of ?_);apply cL<;>intro hlt117;apply cB<;>intro hb;refine IdxG.of ‹_› (IdxG.of ‹_› ?_);refine ArgG.mk (apl (all[j2].u_[k4.k]) ((h2.2 _ (ay7 _)).u_.2 _ (ay7 _)) L3 ha) rfl ?_;rintro _ ⟨b4,rfl⟩;apply cB<;>intro hc132;refine⟨by omega,⟨(⟨k4.k+1,_⟩:KE),(nsA ‹_›),(cnS rfl (hpR rfl (hpR rfl (hpR rfl (hpS (ab kz _ _) rfl (hpS (ab dn _ _) rfl trivial)))))),?_⟩⟩;refine⟨‹_›,?_⟩;exact fun _=>hb;refine⟨by omega,⟨(⟨k4.k+1,_⟩:KE),(nsA ‹_›),(cnS rfl (hpR rfl (hpR rfl (hpR rfl (hpS (ab kz _ _) rfl (hpS (ab dn _ _) rfl trivial)))))),?_⟩⟩;exact⟨‹_›,h5⟩;refine cF ⟨by omega,⟨(⟨k4.k+1,_⟩:KE),(nsA ‹_›),(cnS rfl (hpR rfl (hpR rfl (hpR rfl (hpS (ab kz _ _) rfl (hpS (ab dn _ _) rfl trivial)))))),?_⟩⟩;exact⟨‹_›,h5⟩;apply cB<;>intro hc;exact⟨.inr rfl,_,Pn.of [] (cy rfl (.cons (ay3.cellN I5 rfl rfl trivial rfl rfl rfl) (.cons (ay3.tmp rfl) .nil))) rfl ⟨.same rfl (by decide),trivial⟩ (.tup (.fz (FzP.aggL (.cons (.pure rfl) (.cons (FzP.nil (n:=6)) (.cons (FzP.nil (n:=1)) (.cons (FzP.nil (n:=3)) (.cons (FzP.nil (n:=8)) .nil)))))) (.same .nil))),⟨⟨⟨#[]⟩,[],[],[],[]⟩,_,rfl,⟨azk _,⟨azk _,by simp⟩,⟨azk _,by simp⟩,⟨azk _,by simp⟩,⟨azk _,by simp⟩⟩,by exact fun h=>absurd h (by decide)⟩⟩;have hb3t:b3=true:=h5 (by have h:=azh hc;omega);have hs:=hw hb1t;have ht:=g3 hb3t;have hn1l:=hs.1;have hn3l:=ht.1;refine IdxG.of ‹_› ?_;obtain⟨_,⟨b5,rfl,g4⟩,hr⟩:=Yd ⟨x.n_,x.g_.d_⟩ ⟨hx.n_,hx.g_.d_⟩ ⟨all[j2].q_,all[j2].d_⟩ ⟨(h2.2 _ (ay7 he)).q_,(h2.2 _ (ay7 he)).d_⟩ L1 h9 L3 ha hs.2 ht.2 (by omega);refine OpG.lk (dc arv (.cons (FzP.aggL (.cons (.pure rfl) (.cons (.pure rfl) (.cons .unk (.cons .unk (.cons .unk .nil)))))) (.cons (FzP.aggL (.cons (.pure rfl) (.cons (.pure rfl) (.cons .unk (.cons .unk (.cons .unk .nil)))))) (.cons (.pure rfl) (.cons (.pure rfl) .nil)))) hr) ⟨by kernel_rfl,cB (fun h7=>?_) (fun h7=>?_)⟩;refine OpG.mk _ _ _ 9 (ah kz (a:=(⟨L1,((j2:Nat):Int),k4.e⟩:GFor)) underlying24 amg alm arh rfl rfl rfl (am rfl rfl rfl rfl) rfl (by omega) (by omega) (by unfold TV;omega)) rfl rfl ⟨by omega,⟨(⟨k2.k+1,k2.L++[(⟨L1,((j2:Nat):Int),k4.e⟩:GFor)],_⟩:KFE),(nsA ‹_›),(cnS rfl (hpR rfl (hpR rfl (.cons (by(rw[azb];rfl)) rfl rfl (.cons (by(rw[azb];rfl)) rfl (ab kz _ _) (hpS (ab dn _ _) rfl trivial)))))),?_⟩⟩;exact⟨‹_›,⟨by show(_++[_]).length=k2.k+1;rw[azb,h0.1];rfl,qd h0.2.1 ⟨h9⟩,Um h0.2.2 (by exact fun h=>absurd (show(6:Int)=0 from h) (by decide))⟩⟩;refine OpG.mk _ _ _ 9 (ah kz (a:=(⟨L1,((j2:Nat):Int),k4.e⟩:GFor)) underlying24 amg alm arh rfl rfl rfl (am rfl rfl rfl rfl) rfl (by omega) (by omega) (by unfold TV;omega)) rfl rfl ⟨by omega,⟨(⟨k2.k+1,k2.L++[(⟨L1,((j2:Nat):Int),k4.e⟩:GFor)],_⟩:KFE),(nsA ‹_›),(cnS rfl (hpR rfl (hpR rfl (.cons (by(rw[azb];rfl)) rfl rfl (.cons (by(rw[azb];rfl)) rfl (ab kz _ _) (hpS (ab dn _ _) rfl trivial)))))),?_⟩⟩;exact⟨‹_›,⟨by show(_++[_]).length=k2.k+1;rw[azb,h0.1];rfl,qd h0.2.1 ⟨h9⟩,Um h0.2.2 (by exact fun h=>⟨h,fun _=>awv hk rfl rfl he (g0.1 he hb2t) hn1l (hm hb1t) (hq hb3t) hn3l (g4 (by simpa using h7))⟩)⟩⟩;apply cB<;>intro h8;exact⟨.inr rfl,_,Pn.of [] (cy rfl (.cons (ay3.cellN I5 rfl rfl trivial rfl rfl rfl) (.cons (ay3.tmp rfl) .nil))) rfl ⟨.same rfl (by decide),trivial⟩ (.tup (.fz (FzP.aggL (.cons (.pure rfl) (.cons (FzP.nil (n:=6)) (.cons (FzP.nil (n:=1)) (.cons (FzP.nil (n:=3)) (.cons (FzP.nil (n:=8)) .nil)))))) (.same .nil))),⟨⟨⟨#[]⟩,[],[],[],[]⟩,_,rfl,⟨azk _,⟨azk _,by simp⟩,⟨azk _,by simp⟩,⟨azk _,by simp⟩,⟨azk _,by simp⟩⟩,by exact fun h=>absurd h (by simpa using h8)⟩⟩;refine RegG.via (fun _ h=>cz [6] 2 0 0 [.v (.string x.n_),.tree 6 (x.g_.d_.map zh),.tree 1 (k0.L.map (fun l=>[.tree 1 (l.map iA)])),.sl 6 k2.L.length 0 k2.L.length,.tree 8 (x.g_.h_.map rwA)] [.v (.string x.n_),.tree 6 (x.g_.d_.map zh),.tree 1 (k0.L.map (fun l=>[.tree 1 (l.map iA)])),.tree 3 (k2.L.map aix),.tree 8 (x.g_.h_.map rwA)] rfl rfl (.keep (.keep (.keep (.fz (FzP.rows kz (azc.2 rfl) rfl) (.same _))))) rfl h) (ay ?_);refine⟨.inr rfl,_,Pn.of [] (cy rfl (.cons (ay3.cellN I5 rfl rfl trivial rfl rfl rfl) (.cons (ay3.tmp rfl) .nil))) rfl ⟨.same rfl (by decide),trivial⟩ .same,?_⟩;have g1:=h1.1;have g2:=h0.1;exact⟨⟨x.n_,x.g_.d_,k0.L,k2.L,x.g_.h_⟩,_,rfl,⟨hx.n_,hx.g_.d_,⟨by show k0.L.length<=_;omega,fun y hy=>h1.2 y hy⟩,⟨by show k2.L.length<=_;omega,fun y hy=>h0.2.1 y hy⟩,hx.g_.h_⟩,fun _=>⟨rfl,rfl,fun f hf=>by obtain⟨j,hj,rfl⟩:=azs hf;exact h0.2.2 (by simpa using h8) j hj (by omega)⟩⟩
def sX{f:α->List AV}(h:RowF f q){g:Nat->Nat}{v:Nat}{l:List α}{n:Bool}:some (⟨v,rF f l,q,n⟩:Blk)=some ((Blk.mk v (rF f l) q n).ren g):=by rw[n8 h]
def y1:RowF P4 22:=⟨fun _=>rfl,fun _=>rfl,fun _ _=>rfl,fun _ _=>rfl,fun _ _=>rfl,fun _=>rfl⟩
abbrev nc(t:GTab):ByteArray×List GCol:=(t.q_,t.d_)
abbrev ncS(x:GSta):ByteArray×List GCol:=(x.n_,x.g_.d_)
def Zn{l:List GSta}{L:List GTab}{t:GTab}(h:k<l.length)(hi:L.map nc=(l.take k).map ncS)(h1:t.q_=l[k].n_)(h2:t.d_=l[k].g_.d_):(L++[t]).map nc=(l.take (k+1)).map ncS:=by rw[azj h,azx,azx,hi];simp[nc,ncS,h1,h2]
structure BldS(l:List GSta)(j:Nat)(x:GSta):Prop where
 cols:∀c∈x.g_.d_,Bu c
 kl:∀k∈x.g_.u_,k.length≠0
 fl:∀f∈x.g_.m_,f.d_.length=f.z_.length/\f.d_.length≠0
 ds:X4 (·.q_) x.g_.d_
 n0:x.g_.d_.length≠0
 pre:∃S:List GTab,S.map nc=(l.take j).map ncS/\(∀t∈S,t.q_≠x.n_)/\∀f∈x.g_.m_,FkT S x f
structure ForT(s:List GTab)(t:GTab)(f:GFor):Prop where
 ne:f.d_.length≠0
 tab:∃j q:Nat,f.n_=((j:Nat):Int)/\f.M_=((q:Nat):Int)/\∃hj:j<s.length,∃hq:q<s[j].u_.length,s[j].u_[q].length=f.d_.length/\att t.d_ s[j].d_ f.d_ s[j].u_[q]
structure SchW(s:List GTab):Prop where
 key:∀t∈s,∀k∈t.u_,k.length≠0
 fork:∀t∈s,∀f∈t.m_,ForT s t f
 col:∀t∈s,t.d_.length≠0
def Md{T:List GCol}{a b:List Int}{N:List ByteArray}(hd:X4 (·.q_) T)(ha:P9 T a N)(hb:P9 T b N)(hl:a.length=b.length):a=b:=by refine List.ext_getElem hl fun i h1 h2=>?_;obtain⟨p,hp,e1,e2⟩:=ha i h1;obtain⟨q,hq,e3,e4⟩:=hb i h2;have:p=q:=hd p q hp hq (Option.some.inj (e2.symm.trans e4));subst this;rw[ay8 h1]at e1;rw[ay8 h2]at e3;exact(Option.some.inj e1).trans (Option.some.inj e3).symm
def P2(s:List GTab)(l:List GSta):Prop:=∀i (h:i<s.length) (h2:i<l.length),DefS s s[i] l[i]
def P2.snoc{L:List GSta}(h:P2 s L)(e:L.length=k)(hk:k<s.length)(hr:DefS s s[k] x):P2 s (L++[x]):=by grind[P2]
def schW{l:List GSta}(hl:l.length=s.length)(hd:P2 s l)(hb:∀i (h:i<l.length),BldS l i l[i]):SchW s:=by
 have h3:∀i (h:i<s.length) (h2:i<l.length),l[i].n_=s[i].q_:=fun i h h2=>(hd i h h2).name;have h0:∀i (h:i<s.length) (h2:i<l.length),l[i].g_.d_=s[i].d_:=fun i h h2=>(hd i h h2).cols
 have hc:∀i j (hi:i<l.length) (hj:j<l.length),i<j->l[i].n_≠l[j].n_:=fun i j hi hj hij e=>by obtain⟨S,e1,e2,_⟩:=(hb j hj).pre;have hm:ncS l[i]∈(l.take j).map ncS:=azy.2 ⟨l[i],by rw[List.mem_take_iff_getElem];exact⟨i,by omega,rfl⟩,rfl⟩;rw[<-e1]at hm;obtain⟨t,ht,e3⟩:=azy.1 hm;have e4:t.q_=l[i].n_:=congrArg Prod.fst e3;exact e2 t ht (e4.trans e)
 have h5:∀i j (hi:i<l.length) (hj:j<l.length),l[i].n_=l[j].n_->i=j:=fun i j hi hj e=>by
  rcases Nat.lt_trichotomy i j with g|g|g;exact absurd e (hc i j hi hj g);exact g;exact absurd e.symm (hc j i hj hi g)
 have he:∀i (h:i<s.length),X4 (·.q_) s[i].d_:=fun i h=>by rw[<-h0 i h (by omega)];exact(hb i (by omega)).ds
 constructor;intro t ht k hk;obtain⟨i,hi,rfl⟩:=azs ht;have h1:=(hd i hi (by omega)).keys
 have h2:k.length∈s[i].u_.map List.length:=azy.2 ⟨k,hk,rfl⟩;rw[<-h1]at h2;obtain⟨k',hh,e⟩:=azy.1 h2;rw[<-e];exact(hb i (by omega)).kl k' hh;intro t ht f hf;obtain⟨i,hi,rfl⟩:=azs ht;obtain⟨m,hm,rfl⟩:=azs hf;have h8:i<l.length:=by omega
 have D:=hd i hi h8;have ha:m<l[i].g_.m_.length:=by rw[D.fl];exact hm
 have F:=D.fors m ha hm;have B:=hb i h8
 obtain⟨g1,g2⟩:=B.fl _ (ay7 ha);obtain⟨j,q,f1,f2,hj,hq,f3,f4,f5⟩:=F.tab;have h9:j<l.length:=by omega
 obtain⟨S,e1,_,e3⟩:=B.pre;obtain⟨uc,hu,L1,L3,l1,n1,n3,l3,hg⟩:=e3 _ (ay7 ha)
 have hn:uc=s[j].d_:=by
  rcases hu with⟨h1,h2⟩|⟨u,hu,h1,h2⟩;have:i=j:=h5 i j h8 h9 (by rw[h3 j hj h9,<-f3,h1])
  subst this;rw[h2,h0 i hi h8];have h4:nc u∈S.map nc:=azy.2 ⟨u,hu,rfl⟩
  rw[e1]at h4;obtain⟨y,hy,e5⟩:=azy.1 h4;rw[List.mem_take_iff_getElem]at hy;obtain⟨p,hp,rfl⟩:=hy;have h6:l[p].n_=u.q_:=congrArg Prod.fst e5
  have h7:l[p].g_.d_=u.d_:=congrArg Prod.snd e5;have:p=j:=h5 p j (by omega) h9 (by rw[h6,h1,f3,h3 j hj h9])
  subst this;rw[<-h2,<-h7,h0 p hj h9]
 subst hn;rw[h0 i hi h8]at n1 hg;obtain rfl:L1=s[i].m_[m].d_:=Md (he i hi) n1 F.nam (by rw[l1,F.len]);obtain rfl:L3=s[j].u_[q]:=Md (he j hj) n3 f5 (by rw[l3,f4]);exact⟨by rw[<-F.len];exact g2,j,q,f1,f2,hj,hq,by rw[<-f4,<-g1,F.len],hg⟩;intro t ht;obtain⟨i,hi,rfl⟩:=azs ht;rw[<-h0 i hi (by omega)];exact(hb i (by omega)).n0
def aj7{l:List GSta}(hv:alg s)(hl:l.length=s.length)(hd:P2 s l)(hb:∀i (h:i<l.length),BldS l i l[i]):alg s/\(∀t∈s,∀c∈t.d_,Bu c)/\SchW s:=by refine⟨hv,fun t ht c hc=>?_,schW hl hd hb⟩;obtain⟨i,hi,rfl⟩:=azs ht;have e:=(hd i hi (by omega)).cols;exact(hb i (by omega)).cols c (by rw[e];exact hc)
def arx:cw prog 109=true:=by kernel_rfl
def arw:cw prog 110=true:=by kernel_rfl
def by52:(prog.info? 52).map (·.bytes)=some 392:=by kernel_rfl
def sz52:aj prog 52=some 22:=by kernel_rfl
def zr52:bp prog 52=some (.agg #[.int .i64 0,.string ⟨#[]⟩,.slice none 0 0,.slice none 0 0,.slice none 0 0,.slice none 0 0,.slice none 0 0,.slice none 0 0,.slice none 0 0,.slice none 0 0,.int .i64 0,.string ⟨#[]⟩,.string ⟨#[]⟩,.int .i64 0,.int .i64 0,.int .i64 0,.string ⟨#[]⟩,.slice none 0 0,.slice none 0 0,.slice none 0 0,.int .i64 0,.string ⟨#[]⟩]):=by kernel_rfl
def aj0(l:List GSta)(hl:bq l (fun y=>FitSta y))(hq:∀x∈l,DefOk x)(hl2:l.length<=1000):PRet prog 57 [.tree 22 (l.map P4)] (fun r=>∃(i e:Int),r=.tup [.unk,vI i,vI e]/\(e=0->∀i (h:i<l.length),BldS l i l[i])):=by refine ovT [68,79] [] func57 rfl rfl (LpG.via (fun _ h=>bl 5 5 rfl 1 rfl h) (LpG.on (fun k0:KL GTab=>(⟨fL [(0,.tree 22 (l.map P4)),(5,.sl 0 k0.L.length 0 k0.L.length),(6,vI k0.k)],hLz [(0,⟨k0.L.length,rF ic k0.L,5,Nat.beq k0.L.length 0⟩)],1⟩:St)) (fun k0=>(l.length-k0.k)) (fun k0=>(k0.k<=l.length/\k0.L.length=k0.k/\(∀x∈k0.L,FitTab x)/\((∀j (hl:j<l.length),j<k0.k->BldS l j l[j])/\k0.L.map nc=(l.take k0.k).map ncS))) (⟨0,[]⟩:KL GTab) (cnS (by rfl) (hpS (ab dn _ _) (by rfl) trivial)) ⟨azk _,rfl,by simp,⟨fun j _ h=>absurd h (azl j),rfl⟩⟩ ?_));rintro k0 ha;have hgr_k0:l.length<=140737488355328:=hl.1;obtain⟨hle_k0,h6,h3,h1⟩:=ha;refine LenG.of (cL (fun h2=>?_) (fun hge14=>?_));have hp:=hq _ (ay7 h2);refine IdxG.of ‹_› (IdxG.of ‹_› (cN (fun hb=>cT ⟨.inr rfl,_,du rfl (afe.tmp ⟨[],FzP.unk⟩) (afe.tmp ⟨[],FzP.pure rfl⟩) (afe.tmp ⟨[],FzP.pure rfl⟩),⟨_,_,rfl,fun h=>absurd h (by decide)⟩⟩) (fun hb=>cD (fun hc=>cT (cT (cT (cT (cT ⟨.inr rfl,_,du rfl (afe.tmp ⟨[],FzP.unk⟩) (afe.tmp ⟨[],FzP.pure rfl⟩) (afe.tmp ⟨[],FzP.pure rfl⟩),⟨_,_,rfl,fun h=>absurd h (by decide)⟩⟩))))) (fun hc=>LenG.of (cD (fun hd=>cT (cT (cT (cT ⟨.inr rfl,_,du rfl (afe.tmp ⟨[],FzP.unk⟩) (afe.tmp ⟨[],FzP.pure rfl⟩) (afe.tmp ⟨[],FzP.pure rfl⟩),⟨_,_,rfl,fun h=>absurd h (by decide)⟩⟩)))) (fun hd=>LenG.of (cD (fun he=>cT (cT (cT ⟨.inr rfl,_,du rfl (afe.tmp ⟨[],FzP.unk⟩) (afe.tmp ⟨[],FzP.pure rfl⟩) (afe.tmp ⟨[],FzP.pure rfl⟩),⟨_,_,rfl,fun h=>absurd h (by decide)⟩⟩))) (fun he=>LenG.of (cD (fun hg=>cT (cT ⟨.inr rfl,_,du rfl (afe.tmp ⟨[],FzP.unk⟩) (afe.tmp ⟨[],FzP.pure rfl⟩) (afe.tmp ⟨[],FzP.pure rfl⟩),⟨_,_,rfl,fun h=>absurd h (by decide)⟩⟩)) (fun hg=>LenG.of (cD (fun hh=>cT ⟨.inr rfl,_,du rfl (afe.tmp ⟨[],FzP.unk⟩) (afe.tmp ⟨[],FzP.pure rfl⟩) (afe.tmp ⟨[],FzP.pure rfl⟩),⟨_,_,rfl,fun h=>absurd h (by decide)⟩⟩) (fun hh=>IdxG.of ‹_› (ArgG.mk (Tu (l[k0.k]) (hl.2 _ (ay7 _))) rfl ?_)))))))))))));rintro _ ⟨b0,rfl,hr⟩;refine cB (fun h7=>cT ⟨.inr rfl,_,du rfl (afe.tmp ⟨[],FzP.unk⟩) (afe.tmp ⟨[],FzP.pure rfl⟩) (afe.tmp ⟨[],FzP.pure rfl⟩),⟨_,_,rfl,fun h=>absurd h (by decide)⟩⟩) (fun h7=>have h0:=hr (by simpa using h7);IdxG.of ‹_› ?_);obtain⟨_,⟨b1,rfl,hs⟩,hi⟩:=aag k0.L ⟨by omega,h3⟩ l[k0.k] (hl.2 _ (ay7 h2)) (by have:=hp.cl;omega);refine OpG.lk (rn [0] arx rfl (fun i h h'=>match i,h with|0,_=>FzP.rows dn (azc.2 rfl) rfl|1,_=>FzP.pure rfl) hi) (cB (fun h8=>cT ⟨.inr rfl,_,du rfl (afe.tmp ⟨[],FzP.unk⟩) (afe.tmp ⟨[],FzP.pure rfl⟩) (afe.tmp ⟨[],FzP.pure rfl⟩),⟨_,_,rfl,fun h=>absurd h (by decide)⟩⟩) (fun h8=>have h9:=hs (by simpa using h8);cF (IdxG.of ‹_› ?_)));obtain⟨_,⟨t2,e2,rfl,ht,hk⟩,hm⟩:=agb l[k0.k] (hl.2 _ (ay7 h2)) k0.L ⟨by omega,h3⟩ (by omega) hp (fun f hf=>(h0.2.1 f hf).1);refine OpG.lk (H7 (bg [(TOP,0)] arw hm rfl rfl rfl rfl ⟨sX dn,trivial⟩ ⟨d5 dn,trivial⟩ ⟨c9 dn _ _,trivial⟩ rfl rfl rfl rfl rfl rfl) ⟨⟨by simp[gOf],sX dn,rfl⟩,trivial⟩) (cB (fun h4=>by have hn:¬((e2:Int)=(0:Int)):=(by simpa using h4);exact⟨.inr rfl,_,du rfl (afe.tmp ⟨[],FzP.unk⟩) (afe.tmp ⟨[],FzP.pure rfl⟩) (afe.tmp ⟨[],FzP.pure rfl⟩),⟨_,_,rfl,fun h=>absurd h (by simpa using h4)⟩⟩) (fun h4=>have hn:(e2:Int)=(0:Int):=(by simpa using h4);have h5:=hk (by simpa using h4);OpG.mk _ _ _ 4 (ah dn (a:=t2) underlying42 uv ali axs rfl rfl rfl (am rfl rfl rfl rfl) rfl (by omega) (by omega) (by unfold TV;omega)) rfl rfl ⟨by omega,⟨(⟨k0.k+1,k0.L++[t2]⟩:KL GTab),(nsA ‹_›),(cO (.cons rfl rfl (.cons (by(rw[azb];rfl)) rfl (.cons rfl rfl .nil))) (.cons (by(rw[azb];rfl)) rfl (ab dn _ _) .nil)),⟨‹_›,by show(_++[_]).length=k0.k+1;rw[azb,h6];rfl,fun y_ ho=>(azd.1 ho).elim (h3 y_) (fun ho=>by rw[azc.1 ho];exact ht),⟨fun j hl hj=>?_,Zn h2 h1.2 h5.1 h5.2.1⟩⟩⟩⟩));rcases azn.1 hj with hj|rfl;exact h1.1 j hl hj;exact⟨h0.1,h0.2.2.1,h0.2.1,h9.2,h0.2.2.2,k0.L,h1.2,h9.1,h5.2.2⟩;exact⟨.inr rfl,_,du rfl (afe.tmp ⟨[],FzP.unk⟩) (afe.tmp ⟨[],FzP.pure rfl⟩) (afe.tmp ⟨[],FzP.pure rfl⟩),⟨_,_,rfl,fun _ j hj=>h1.1 j hj (by omega)⟩⟩
def Qj(s:List GTab)(hs:bq s (fun y=>FitTab y))(he:∀t∈s,SmTab t)(hs12:s.length<=12):PRet prog 25 [.tree 5 (s.map ic)] (fun r=>∃b:Bool,r=vB b/\(b=true->alg s/\(∀t∈s,∀c∈t.d_,Bu c)/\SchW s)):=by refine ovT [90] [20] func25 rfl rfl ?_;refine LpG.on (fun k0:Nat=>(⟨fL [(0,.tree 5 (s.map ic)),(3,vI k0)],hLz [],0⟩:St)) (fun k0=>(s.length-k0)) (fun k0=>(k0<=s.length/\∀j (hl:j<s.length),j<k0->TabV s j s[j])) 0 (cnR rfl) ⟨azk _,fun j _ h=>absurd h (azl j)⟩ ?_;rintro k0 h1;have hgr_k0:s.length<=140737488355328:=hs.1;obtain⟨hle_k0,h2⟩:=h1;refine LenG.of (cL (fun hlt15=>?_) (fun hge15=>?_));refine LpG.on (fun k2:Nat=>(⟨fL [(0,.tree 5 (s.map ic)),(3,vI k0),(4,vI k2)],hLz [],0⟩:St)) (fun k2=>(s[k0].u_.length-k2)) (fun k2=>(k2<=s[k0].u_.length/\∀j (hl:j<s[k0].u_.length),j<k2->∀x∈s[k0].u_[j],0<=x/\x<s[k0].d_.length)) 0 (cnR rfl) ⟨azk _,fun j _ h=>absurd h (azl j)⟩ ?_;rintro k2 h1;have hgr_k2:s[k0].u_.length<=140737488355328:=(hs.2 _ (ay7 _)).u_.1;obtain⟨hle_k2,h3⟩:=h1;refine IdxG.of ‹_› (LenG.of ?_);apply cL<;>intro hlt25;refine IdxG.of ‹_› (IdxG.of ‹_› ?_);refine IdxG.of ‹_› (ArgG.mk (Mq (s[k0]) (hs.2 _ (ay7 _)) (s[k0].u_[k2]) ((hs.2 _ (ay7 _)).u_.2 _ (ay7 _))) rfl ?_);rintro _ ⟨b0,rfl,hf⟩;refine⟨by kernel_rfl,?_⟩;apply cB<;>intro h8;exact rV rfl rfl bF;refine⟨by omega,?_⟩;refine⟨(k2+1),by omega,(cnR rfl),?_⟩;refine⟨by omega,fun j hl h=>?_⟩;rcases azn.1 h with h|rfl;exact h3 j hl h;exact hf (by simpa using h8);refine LpG.on (fun k4:Nat=>(⟨fL [(0,.tree 5 (s.map ic)),(3,vI k0),(5,vI k4)],hLz [],0⟩:St)) (fun k4=>(s[k0].m_.length-k4)) (fun k4=>(k4<=s[k0].m_.length/\∀j (hl:j<s[k0].m_.length),j<k4->ForOk s k0 s[k0] s[k0].m_[j])) 0 (cnR rfl) ⟨azk _,fun j _ h=>absurd h (azl j)⟩ ?_;rintro k4 h1;have hgr_k4:s[k0].m_.length<=140737488355328:=(hs.2 _ (ay7 _)).m_.1;obtain⟨hle_k4,h4⟩:=h1;refine IdxG.of ‹_› (LenG.of ?_);apply cL<;>intro hlt49;refine IdxG.of ‹_› (IdxG.of ‹_› ?_);refine IdxG.of ‹_› (ArgG.mk (Mq (s[k0]) (hs.2 _ (ay7 _)) (s[k0].m_[k4].d_) ((hs.2 _ (ay7 _)).m_.2 _ (ay7 _)).d_) rfl ?_);rintro _ ⟨b1,rfl,hg⟩;apply cB<;>intro h9;refine cT (cT ?_);refine cT ⟨by kernel_rfl,cT ?_⟩;exact rV rfl rfl bF;apply cD<;>intro hq73;refine cT (cT ?_);refine⟨by kernel_rfl,?_⟩;exact cT (rV rfl rfl bF);apply cD<;>intro hq79;refine cT ⟨by kernel_rfl,cT ?_⟩;exact rV rfl rfl bF;apply cD<;>intro hq84;refine⟨by kernel_rfl,?_⟩;exact cT (rV rfl rfl bF);obtain⟨j1,hd⟩:∃j:Nat,s[k0].m_[k4].n_=((j:Nat):Int):=⟨s[k0].m_[k4].n_.toNat,by omega⟩;refine OpG.lk (ae underlying42 uv rfl rfl hd (by omega)) ?_;refine LenG.of ⟨by kernel_rfl,cD (fun ha=>?_) (fun ha=>?_)⟩;exact rV rfl rfl bF;refine⟨by omega,?_⟩;refine⟨(k4+1),by omega,(cnR rfl),?_⟩;refine⟨by omega,fun j hl h=>?_⟩;rcases azn.1 h with h|rfl;exact h4 j hl h;exact⟨hg (by simpa using h9),j1,s[k0].m_[j].M_.toNat,hd,by omega,by omega,by omega,by omega⟩;refine⟨by omega,?_⟩;refine⟨(k0+1),by omega,(cnR rfl),?_⟩;refine⟨by omega,fun j hl h=>?_⟩;rcases azn.1 h with h|rfl;exact h2 j hl h;exact⟨fun y hy=>by obtain⟨j,hj,rfl⟩:=azs hy;exact h3 j hj (by omega),fun y hy=>by obtain⟨j,hj,rfl⟩:=azs hy;exact h4 j hj (by omega)⟩;have hv:alg s:=fun j hl=>h2 j hl (by omega);refine LpG.via (fun _ h=>bl 7 22 rfl 1 rfl h) ?_;refine LpG.on (fun k6:KL GSta=>(⟨fL [(0,.tree 5 (s.map ic)),(7,.sl 0 k6.L.length 0 k6.L.length),(8,vI k6.k)],hLz [(0,⟨k6.L.length,rF P4 k6.L,22,Nat.beq k6.L.length 0⟩)],1⟩:St)) (fun k6=>(s.length-k6.k)) (fun k6=>(k6.k<=s.length/\k6.L.length=k6.k/\(∀x∈k6.L,FitSta x)/\((∀x∈k6.L,DefOk x)/\k6.L.length=k6.k/\P2 s k6.L))) (⟨0,[]⟩:KL GSta) (cnS (by rfl) (hpS (ab y1 _ _) (by rfl) trivial)) ⟨azk _,rfl,by simp,⟨by simp,rfl,fun i _ h=>absurd h (azl i)⟩⟩ ?_;rintro k6 h1;have hgr_k6:s.length<=140737488355328:=hs.1;obtain⟨hle_k6,h6,h5,h0⟩:=h1;refine LenG.of (cL (fun h7=>?_) (fun hge99=>?_));refine ArgG.mk (Hp s hs k6.k (by omega) hv he) rfl ?_;rintro _ ⟨x2,rfl,hh,hi,hb⟩;refine OpG.mk _ _ _ 2 (ah y1 (a:=x2) underlying147 sz52 zr52 by52 rfl rfl rfl (am rfl rfl rfl rfl) rfl (by omega) (by omega) (by unfold TV;omega)) rfl rfl ?_;refine⟨by omega,?_⟩;refine⟨(⟨k6.k+1,k6.L++[x2]⟩:KL GSta),(nsA ‹_›),(cO (.cons rfl rfl (.cons (by(rw[azb];rfl)) rfl (.cons rfl rfl .nil))) (.cons (by(rw[azb];rfl)) rfl (ab y1 _ _) .nil)),?_⟩;refine⟨‹_›,by show(_++[_]).length=k6.k+1;rw[azb,h6];rfl,fun y_ hc=>(azd.1 hc).elim (h5 y_) (fun hc=>by rw[azc.1 hc];exact hh),?_⟩;exact⟨qd h0.1 hi,by show(_++[_]).length=_;rw[azb,h0.2.1];rfl,h0.2.2.snoc h0.2.1 h7 hb⟩;refine RegG.via (fun _ h=>bc [0] 7 (.tree 22 (k6.L.map P4)) (FzP.rows y1 (azc.2 rfl) rfl) rfl h) ?_;refine ay ?_;refine ArgG.mk (aj0 k6.L ⟨by omega,h5⟩ h0.1 (by omega)) rfl ?_;rintro _ ⟨i3,e3,rfl,hk⟩;exact rV rfl rfl ⟨_,rfl,fun hr=>aj7 hv (by omega) h0.2.2 (hk (by simpa using hr))⟩
structure GChg where
 n_:Int
 iD_:Int
 C_:List GVal
 B_:List GVal
variable{c:GChg}
abbrev aax(x:GChg):List AV:=[.v (.int .i64 x.n_),.v (.int .i64 x.iD_),.tree 3 (x.C_.map gvA),.tree 3 (x.B_.map gvA)]
structure FitChg(x:GChg):Prop where
 C_:bq x.C_ (fun y=>FitVal y)
 B_:bq x.B_ (fun y=>FitVal y)
instance:Inhabited GChg:=⟨⟨0,0,[],[]⟩⟩
def pp{t:GTab}(h:t.d_.length<=1000):bq (aa t) (fun _=>True):=⟨by unfold aa;rw[aze];omega,fun _ _=>trivial⟩
structure TabS(t:GTab):Prop where
 sm:SmTab t
 c1:1<=t.d_.length
 c5:t.d_.length<=5
 col:∀c∈t.d_,Bu c
 ck:∀e∈t.h_,CondE (aa t) e
structure SchS(s:List GTab):Prop where
 len:s.length<=4
 tab:∀t∈s,TabS t
 v:alg s
 w:SchW s
def TabS.to{t:GTab}(h:TabS t):TabOk t:=⟨by have:=h.c5;omega,fun x hx h1=>by obtain⟨c,hc,rfl⟩:=azy.1 hx;have hk:=h.col c hc;unfold Bu at hk;have h1:c.D_=1:=h1;show -2147483648<=c.H_/\c.G_<=2147483647;omega,h.ck⟩
def nb(h:(!b)=false):b=true:=by cases b<;>simp_all
def ay5(s:List GTab)(c:GChg):Prop:=∃j:Nat,c.n_=((j:Nat):Int)/\∃h:j<s.length,(0<c.C_.length->Xh s[j] c.C_)/\(0<c.B_.length->Xh s[j] c.B_)
noncomputable def X2(c:GChg):List (Int×List GVal):=open Classical in if c.C_=c.B_ then[]else(if 0<c.C_.length then[(c.n_,c.C_)]else[])++(if 0<c.B_.length then[(c.n_,c.B_)]else[])
noncomputable def chS(l:List GChg):List (Int×List GVal):=(l.map X2).flatten
theorem aju{l:List GChg}(h:k<l.length):chS (l.take (k+1))=chS (l.take k)++X2 l[k]:=by grind[chS,azj,List.flatten_append,List.map_singleton,List.flatten_singleton]
theorem aq5(h:c.C_=c.B_):X2 c=[]:=by unfold X2;rw[azg h]
theorem Hv(h:¬c.C_=c.B_):X2 c=(if 0<c.C_.length then[(c.n_,c.C_)]else[])++(if 0<c.B_.length then[(c.n_,c.B_)]else[]):=by unfold X2;rw[azf h]
def N6(s:List GTab)(hs:bq s (fun y=>FitTab y)):PRet prog 46 [.tree 5 (s.map ic)] (fun r=>∃b:Bool,r=vB b/\(b=true->SchS s)):=by refine ovT [] [] func46 rfl rfl (ArgG.mk (Dq s hs) rfl ?_);rintro _ ⟨b0,rfl,hf⟩;refine cB (fun he=>cT (cT (rV rfl rfl bF))) (fun he=>have h5:=hf (by simpa using he);have hs12:=h5.1;have hg:=h5.2;ArgG.mk (Qj s hs ‹_› (by omega)) rfl ?_);rintro _ ⟨b1,rfl,hh⟩;refine cB (fun h6=>cT (rV rfl rfl bF)) (fun h6=>have h9:=hh (by simpa using h6);LenG.of (cD (fun ha=>rV rfl rfl bF) (fun ha=>LpG.on (fun k0:Nat=>(⟨fL [(0,.tree 5 (s.map ic)),(3,vI k0)],hLz [],0⟩:St)) (fun k0=>(s.length-k0)) (fun k0=>(k0<=s.length/\∀j (hl:j<s.length),j<k0->TabS s[j])) 0 (cnR rfl) ⟨azk _,fun j _ h=>absurd h (azl j)⟩ ?_)));rintro k0 h4;have hgr_k0:s.length<=140737488355328:=hs.1;obtain⟨hle_k0,h2⟩:=h4;refine LenG.of (cL (fun h0=>?_) (fun hge21=>?_));have hi:=hs.2 _ (ay7 h0);refine IdxG.of ‹_› (LenG.of (cD (fun hb=>cT (rV rfl rfl bF)) (fun hb=>IdxG.of ‹_› (LenG.of (cE (fun hc=>rV rfl rfl bF) (fun hc=>LpG.on (fun k2:Nat=>(⟨fL [(0,.tree 5 (s.map ic)),(3,vI k0),(4,vI k2)],hLz [],0⟩:St)) (fun k2=>(s[k0].h_.length-k2)) (fun k2=>(k2<=s[k0].h_.length/\∀j (hl:j<s[k0].h_.length),j<k2->CondE (aa s[k0]) s[k0].h_[j])) 0 (cnR rfl) ⟨azk _,fun j _ h=>absurd h (azl j)⟩ ?_))))));rintro k2 h4;have hgr_k2:s[k0].h_.length<=140737488355328:=(hs.2 _ (ay7 _)).h_.1;obtain⟨hle_k2,h3⟩:=h4;refine IdxG.of ‹_› (LenG.of (cL (fun h7=>?_) (fun hge47=>?_)));obtain⟨a2,h1,hk⟩:=(hi.h_.2 _ (ay7 h7)).open_;refine IdxG.of ‹_› (cb (j:=k2) ‹_› h1 (cE (fun hd=>⟨by kernel_rfl,cT (rV rfl rfl bF)⟩) (fun hd=>IdxG.of ‹_› (cb (j:=k2) ‹_› h1 (IdxG.of ‹_› (ArgG.mk (jz (s[k0]) (hs.2 _ (ay7 _)) (by omega)) rfl ?_))))));rintro _ rfl;refine ArgG.mk (vy a2 hk (aa s[k0]) (pp (by omega))) rfl ?_;rintro _ ⟨b3,rfl,hm⟩;refine⟨by kernel_rfl,cB (fun h8=>rV rfl rfl bF) (fun h8=>⟨by omega,⟨(k2+1),by omega,(cnR rfl),⟨by omega,fun j hl h=>?_⟩⟩⟩)⟩;rcases azn.1 h with h|rfl;exact h3 j hl h;rw[h1];exact(hm (by simpa using h8)).resolve_left ‹_›;refine⟨by omega,⟨(k0+1),by omega,(cnR rfl),⟨by omega,fun j hl h=>?_⟩⟩⟩;rcases azn.1 h with h|rfl;exact h2 j hl h;exact⟨hg _ (ay7 h0),by omega,by omega,h9.2.1 _ (ay7 h0),fun y hy=>by obtain⟨j,hj,rfl⟩:=azs hy;exact h3 j hj (by omega)⟩;exact rV rfl rfl ⟨_,rfl,fun _=>⟨by omega,fun t ht=>by obtain⟨j,hj,rfl⟩:=azs ht;exact h2 j hj (by omega),h9.1,h9.2.2⟩⟩
end Go.Proofs.YtfpfdfhlljjckaaGreatDoor
namespace Go.Proofs
open Go.Shelf
def Tryz.cloV_ren:Go.Shelf.Ren:=⟨fun|41=>96|n=>n,fun|22=>54|23=>109|4=>4|n=>n,fun|n=>n⟩
def Tryz.cloV:Go.Proofs.SlLaysE0.n41 Tryz.prog Tryz.cloV_ren:={
 mixed:=by kernel_rfl
 f41:=⟨Tryz.f96.name,by decide,Tryz.func96.trans (congrArg some (by kernel_rfl))⟩
 t4:=Tryz.underlying4
 a4:=Tryz.isAgg4
 z4:=Tryz.sizeOf4
 v4:=Tryz.zeroValue4
 t22:=Tryz.underlying54
 a22:=Tryz.isAgg54
 z22:=Tryz.sizeOf54
 v22:=Tryz.zeroValue54}
end Go.Proofs
namespace Go.Proofs.YtfpfdfhlljjckaaGreatDoor
open Tryz
variable{af:Array Edge}{b:Bool}{x:GSta}{a tb v y:Int}{R:Int->GVal}{e:List AV}{S s:List GTab}{r w:List GVal}{l:List Int}{cs:List Value}{j k m n q:Nat}{τ:Nat->AV}{T:Nat->Prop}{g:Option (Nat×Bool)}{d:Option Tmp}{P:Program}{pos:String}{α:Type}{t ty:TypeId}{c:GChg}
set_option maxRecDepth 1000000
set_option maxHeartbeats 0
open Go.Shelf in
def cl_V:CloneL prog 96 5:=⟨⟨Tryz.cloV_ren,Tryz.t109,_,_,rfl,Tryz.cloV,by kernel_rfl,rfl,rfl,rfl,rfl,sizeOf109,by decide⟩,by decide⟩
set_option linter.unusedVariables false
set_option linter.unusedSimpArgs false
open Go.RowKit
theorem cg:RowF cnA 3:=⟨fun _=>rfl,fun _=>rfl,fun _ _=>rfl,fun _ _=>rfl,fun _ _=>rfl,fun _=>rfl⟩
theorem cr:RowF teA 4:=⟨fun _=>rfl,fun _=>rfl,fun _ _=>rfl,fun _ _=>rfl,fun _ _=>rfl,fun _=>rfl⟩
def Bel(l:List PVar)(w:List GVal):Prop:=w.length=l.length/\∀j (h1:j<w.length) (h2:j<l.length),po w[j] l[j]=true
def aya{t:GTab} :Bel (aa t) w↔Dc t w:=by constructor;rintro⟨h1,h2⟩;refine⟨by rw[h1];simp[aa],fun j hl h3=>?_⟩;have e:(aa t)[j]'(by simpa[aa]using h3)=zq t.d_[j]:=(by simp[aa]);rw[<-e];exact h2 j hl _;rintro⟨h1,h2⟩;refine⟨by rw[h1];simp[aa],fun j hl h3=>?_⟩;have e:(aa t)[j]=zq (t.d_[j]'(by simpa[aa]using h3)):=(by simp[aa]);rw[e];exact h2 j hl _
def Wq{l:List PVar}(h:Bel l w)(hl:LOk l)(hk:k<w.length)(h1:w[k].c_=1):-2147483648<=w[k].v_/\w[k].v_<=2147483647:=by have h2:k<l.length:=(by have:=h.1;omega);rcases Up (h.2 k hk h2)with g|g|g;omega;have:=hl _ (ay7 h2) g.2.1;omega;omega
def nOf(v:GVal)(k:Int):List Int:=if v.c_=0 then[k]else[]
def mOf(v:GVal)(k:Int):List Int:=if v.c_=0 then[]else[k]
def iOf(v:GVal)(k:Int):List PCon:=if v.c_=0 then[]else if v.c_=1 then[⟨⟨-v.v_,[⟨k,1⟩]⟩,true⟩]else[]
def tOf(v:GVal)(k:Int):List PTest:=if v.c_=0 then[]else if v.c_=1 then[]else[⟨k,0,false,v.l_⟩]
def exL{β:Type}(f:GVal->Int->List β)(w:List GVal):Nat->List β
 |0=>[]
 |k+1=>exL f w k++f (w.getD k zV) ((k:Nat):Int)
def exC(w:List GVal):PCl:=⟨exL nOf w w.length,exL mOf w w.length,[],exL iOf w w.length,exL tOf w w.length,[],[]⟩
noncomputable def m6(tb:Int)(l:List PVar)(w:List GVal):PPred:=⟨tb,((l.length:Nat):Int),l,open Classical in if Bel l w then[exC w]else[]⟩
theorem aah{l:List PVar}(h:¬Bel l w):m6 tb l w=⟨tb,((l.length:Nat):Int),l,[]⟩:=by unfold m6;rw[azf h]
theorem Ho{l:List PVar}(h:Bel l w):m6 tb l w=⟨tb,((l.length:Nat):Int),l,[exC w]⟩:=by unfold m6;rw[azg h]
structure KX where
 k:Nat
 N:List Int
 M:List Int
 I:List PCon
 T:List PTest
structure XI(w:List GVal)(s:KX):Prop where
 n:s.N=exL nOf w s.k
 m:s.M=exL mOf w s.k
 i:s.I=exL iOf w s.k
 t:s.T=exL tOf w s.k
 b:s.N.length<=s.k/\s.M.length<=s.k/\s.I.length<=s.k/\s.T.length<=s.k
def Ik{s:KX}(h:XI w s)(hk:s.k<w.length){N M:List Int}{I:List PCon}{T:List PTest}(hN:N=s.N++nOf w[s.k] s.k)(hM:M=s.M++mOf w[s.k] s.k)(hI:I=s.I++iOf w[s.k] s.k)(hT:T=s.T++tOf w[s.k] s.k):XI w ⟨s.k+1,N,M,I,T⟩:=by have e:w.getD s.k zV=w[s.k]:=(by simp[List.getD,hk]);obtain⟨b1,b2,b3,b4⟩:=h.b;refine⟨by show N=exL nOf w (s.k+1);rw[exL,e,<-h.n,hN],by show M=exL mOf w (s.k+1);rw[exL,e,<-h.m,hM],by show I=exL iOf w (s.k+1);rw[exL,e,<-h.i,hI],by show T=exL tOf w (s.k+1);rw[exL,e,<-h.t,hT],?_⟩;have c1:(nOf w[s.k] s.k).length<=1:=(by unfold nOf;split<;>simp);have c2:(mOf w[s.k] s.k).length<=1:=(by unfold mOf;split<;>simp);have c3:(iOf w[s.k] s.k).length<=1:=(by unfold iOf;split;simp;split<;>simp);have c4:(tOf w[s.k] s.k).length<=1:=(by unfold tOf;split;simp;split<;>simp);show N.length<=s.k+1/\M.length<=s.k+1/\I.length<=s.k+1/\T.length<=s.k+1;rw[hN,hM,hI,hT];simp only[azb];omega
def Wc:(prog.info? 187).map (·.bytes)=some 40:=by kernel_rfl
def by64:(prog.info? 64).map (·.bytes)=some 40:=by kernel_rfl
def yg:ey prog 81=some (some 4):=by kernel_rfl
def Q1:aj prog 187=some 3:=by kernel_rfl
def Yh:aj prog 196=some 2:=by kernel_rfl
def sz64:aj prog 64=some 4:=by kernel_rfl
def Qb:bp prog 187=some (.agg #[.int .i64 0,.slice none 0 0,.bool false]):=by kernel_rfl
def Qa:bp prog 196=some (.agg #[.int .i64 0,.int .i64 0]):=by kernel_rfl
def zr64:bp prog 64=some (.agg #[.int .i64 0,.int .i64 0,.bool false,.string ⟨#[]⟩]):=by kernel_rfl
def Gf(s:ByteArray)(hs:jw s):PRet prog 195 [.v (.string s)] (fun r=>r=vB (Og s&&decide ((s.size:Int)<=16))):=by refine ovT [] [] func195 rfl rfl (LpG.on (fun k0:Nat=>(⟨fL [(0,.v (.string s)),(5,vI s.size),(6,vI k0)],hLz [],0⟩:St)) (fun k0=>(s.size-k0)) (fun k0=>(k0<=s.size/\∀j (hl:j<s.size),j<k0->R8 s j=true)) 0 (cnR rfl) ⟨azk _,fun j _ h=>absurd h (azl j)⟩ ?_);rintro k0 h3;have hgr_k0:s.size<=140737488355328:=azp hs (by decide);obtain⟨h1,h0⟩:=h3;apply cL<;>intro h2;refine⟨‹_›,cB (fun h4=>?_) (fun h4=>?_)⟩;refine cT (rV rfl rfl ?_);(refine je (Eq.symm ?_);rw[show Og s=false from zk h2 (by simp only[R8];simp_all)];rfl);refine⟨‹_›,cB (fun h5=>?_) (fun h5=>?_)⟩;refine rV rfl rfl ?_;(refine je (Eq.symm ?_);rw[show Og s=false from zk h2 (by simp only[R8];simp_all)];rfl);refine⟨by omega,⟨(k0+1),by omega,(cnR rfl),?_⟩⟩;refine⟨by omega,fun j hl h=>?_⟩;rcases azn.1 h with h|rfl;exact h0 j hl h;simp only[R8];simp_all;refine rV rfl rfl ?_;(refine je ?_;rw[show Og s=true from Nq h1 h2 (fun j h=>h0 j (by omega) h)];simp;done)
def X9(v:GVal)(hv:FitVal v):PRet prog 151 [.agg (gvA v)] (fun r=>r=vB (Bv v)):=by
 refine ovT [] [] func151 rfl rfl ?_;apply cB<;>intro h6
 ·have h7:(v.c_:Int)=(0:Int):=by simpa using h6
  refine OpG.lk (pm rfl rfl) ?_;refine rV rfl rfl ?_;refine je ?_;unfold Bv jt;(simp_all;done)
 have h7:¬((v.c_:Int)=(0:Int)):=by simpa using h6
 apply cB<;>intro h0
 ·have h3:(v.c_:Int)=(1:Int):=by simpa using h0
  refine rV rfl rfl ?_;refine je ?_;unfold Bv jt;(simp_all;done)
 have h3:¬((v.c_:Int)=(1:Int)):=by simpa using h0
 apply cB<;>intro h1
 ·have h4:(v.c_:Int)=(2:Int):=by simpa using h1
  apply cB<;>intro h2
  ·have h5:(v.v_:Int)=(0:Int):=by simpa using h2
   refine ArgG.mk (Gf v.l_ hv.l_) rfl ?_;rintro _ rfl;refine rV rfl rfl ?_;refine je ?_;unfold Bv jt;(simp_all;done)
  have h5:¬((v.v_:Int)=(0:Int)):=by simpa using h2
  refine rV rfl rfl ?_;refine je ?_;unfold Bv jt;(simp_all;done)
 have h4:¬((v.c_:Int)=(2:Int)):=by simpa using h1
 refine rV rfl rfl ?_;refine je ?_;unfold Bv jt;(simp_all;done)
def ai3(v:GVal)(hv:FitVal v)(x:PVar):PRet prog 90 [.agg (gvA v),.agg (vA x)] (fun r=>r=vB (po v x)):=by
 refine ovT [] [] func90 rfl rfl ?_;refine ArgG.mk (X9 v hv) rfl ?_;rintro _ rfl;apply cB<;>intro hc7
 ·refine rV rfl rfl ?_;refine je ?_;unfold po;(simp_all;done)
 apply cB<;>intro h0
 ·have h5:(v.c_:Int)=(0:Int):=by simpa using h0
  refine rV rfl rfl ?_;refine je ?_;unfold po;(simp_all;done)
 have h5:¬((v.c_:Int)=(0:Int)):=by simpa using h0
 apply cB<;>intro h1
 ·have h6:(v.c_:Int)=(1:Int):=by simpa using h1
  apply cB<;>intro h2
  ·have h7:(x.t:Int)=(1:Int):=by simpa using h2
   apply cB<;>intro h3
   ·have h8:=azi h3;refine rV rfl rfl ?_;refine je ?_;unfold po;(simp_all;done)
   have h8:=azh h3;refine rV rfl rfl ?_;refine je ?_;unfold po;(simp_all;omega)
  have h7:¬((x.t:Int)=(1:Int)):=by simpa using h2
  refine cF (rV rfl rfl ?_);refine je ?_;unfold po;(simp_all;done)
 have h6:¬((v.c_:Int)=(1:Int)):=by simpa using h1
 apply cB<;>intro h4
 ·have h9:(x.t:Int)=(2:Int):=by simpa using h4
  refine rV rfl rfl ?_;refine je ?_;unfold po;(simp_all;done)
 have h9:¬((x.t:Int)=(2:Int)):=by simpa using h4
 refine rV rfl rfl ?_;refine je ?_;unfold po;(simp_all;done)
def Hz(w:List GVal)(hw:bq w (fun y=>FitVal y))(l:List PVar)(hl:bq l (fun y=>True)):PRet prog 39 [.tree 3 (w.map gvA),.tree 5 (l.map vA)] (fun r=>∃b:Bool,r=vB b/\(b=true↔Bel l w)):=by refine ovT [] [] func39 rfl rfl (LenG.of (LenG.of (cB (fun h0=>by have h6:¬(((w.length:Nat):Int)=((l.length:Nat):Int)):=(by simpa using h0);have h4:¬w.length=l.length:=(by have h:=h0;simp at h;omega);exact rV rfl rfl ⟨_,rfl,fun h=>absurd h az7,fun h=>absurd h.1 h4⟩) (fun h0=>have h6:((w.length:Nat):Int)=((l.length:Nat):Int):=(by simpa using h0);have h4:w.length=l.length:=(by have h:=h0;simp at h;omega);LenG.of (LpG.on (fun k0:Nat=>(⟨fL [(1,.tree 5 (l.map vA)),(12,.tree 3 (w.map gvA)),(13,vI w.length),(14,vI k0)],hLz [],0⟩:St)) (fun k0=>(w.length-k0)) (fun k0=>(k0<=w.length/\∀j (hl:j<w.length),j<k0->∀h2:j<l.length,po w[j] l[j]=true)) 0 (cnR rfl) ⟨azk _,fun j _ h=>absurd h (azl j)⟩ ?_)))));rintro k0 h7;have hgr_k0:w.length<=140737488355328:=hw.1;obtain⟨hle_k0,h3⟩:=h7;apply cL<;>intro hlt15;refine IdxG.of ‹_› (IdxG.of (by omega) (ArgG.mk (ai3 (w[k0]) (hw.2 _ (ay7 _)) (l[k0])) rfl ?_));rintro _ rfl;refine⟨by kernel_rfl,cB (fun h5=>rV rfl rfl ⟨_,rfl,fun h=>absurd h az7,fun h=>by have h1:=h.2 k0 (by omega) (by omega);simp[h1]at h5⟩) (fun h5=>⟨by omega,⟨(k0+1),by omega,(cnR rfl),⟨by omega,fun j hl h=>?_⟩⟩⟩)⟩;rcases azn.1 h with h|rfl;exact h3 j hl h;intro h2;exact nb h5;exact rV rfl rfl ⟨_,rfl,fun _=>⟨h4,fun j h1 h2=>h3 j h1 (by omega) h2⟩,fun _=>rfl⟩
def A9(tb:Int)(l:List PVar)(hl:bq l (fun y=>True))(w:List GVal)(hw:bq w (fun y=>FitVal y))(h8:LOk l)(hl1:l.length<=1000):PRet prog 44 [vI tb,.tree 5 (l.map vA),.tree 3 (w.map gvA)] (fun r=>r=.agg (prA (m6 tb l w))):=by
 refine ovT [51,54] [15] func44 rfl rfl (LenG.of (ArgG.mk (PRet.of_call (CloneL.tree cl_V (fun _=>rfl) l (by omega))) rfl ?_));rintro _ rfl;refine ArgG.mk (Hz w hw l hl) rfl ?_;rintro _ ⟨b1,rfl,h7⟩;apply cB<;>intro h2;have h9:¬Bel l w:=fun h=>by rw[h7.2 h]at h2;simp at h2
 refine rtK rfl yg rfl ⟨[],FzP.aggL (.cons (.pure rfl) (.cons (.pure rfl) (.cons (.pure rfl) (.cons (FzP.nil (n:=7)) .nil))))⟩ ?_;rw[aah h9];rfl;have h3:=h7.1 (nb h2)
 have hwl:=h3.1;refine LenG.of (LpG.via (fun _ h=>cn 2 0 1 rfl rfl rfl rfl rfl 4 rfl h) (LpG.via (fun _ h=>cn 2 1 1 rfl rfl rfl rfl rfl 5 rfl h) (LpG.via (fun _ h=>cn 2 3 3 rfl rfl rfl rfl rfl 6 rfl h) (LpG.via (fun _ h=>cn 2 4 4 rfl rfl rfl rfl rfl 7 rfl h) (LpG.on (fun k0:KX=>(⟨fL [(6,.ptr 0 0 0),(7,.ptr 1 0 0),(8,.ptr 2 0 0),(22,.tree 3 (w.map gvA)),(23,vI w.length),(24,vI k0.k)],hLz [(0,⟨0,[vI 0,vI 0,.v (.slice none 0 0),.v (.slice none 0 0)],0,false⟩),(1,⟨0,[vI tb,vI l.length,.tree 5 (l.map vA),.v (.slice none 0 0)],0,false⟩),(2,⟨0,[.sl 3 k0.N.length 0 k0.N.length,.sl 4 k0.M.length 0 k0.M.length,.v (.slice none 0 0),.sl 5 k0.I.length 0 k0.I.length,.sl 6 k0.T.length 0 k0.T.length,.v (.slice none 0 0),.v (.slice none 0 0)],0,false⟩),(3,⟨k0.N.length,rF iA k0.N,1,Nat.beq k0.N.length 0⟩),(4,⟨k0.M.length,rF iA k0.M,1,Nat.beq k0.M.length 0⟩),(5,⟨k0.I.length,rF cnA k0.I,3,Nat.beq k0.I.length 0⟩),(6,⟨k0.T.length,rF teA k0.T,4,Nat.beq k0.T.length 0⟩)],7⟩:St)) (fun k0=>(w.length-k0.k)) (fun k0=>(k0.k<=w.length/\XI w k0)) (⟨0,[],[],[],[]⟩:KX) (cnS rfl (hpR rfl (hpR rfl (hpR (by rfl) (hpS (ab ai _ _) (by rfl) (hpS (ab ai _ _) (by rfl) (hpS (ab cg _ _) (by rfl) (hpS (ab cr _ _) (by rfl) trivial)))))))) ⟨azk _,⟨rfl,rfl,rfl,rfl,by simp⟩⟩ ?_)))));rintro k0 h4;have hgr_k0:w.length<=140737488355328:=hw.1
 obtain⟨hle_k0,h0⟩:=h4;refine cL (fun h1=>by have hx:=h0.b;obtain⟨hx1,hx2,hx3,hx4⟩:=hx;exact IdxG.of ‹_› (cE (fun h5=>OpG.mk _ _ _ 9 (ah ai (a:=((k0.k:Nat):Int)) underlying53 sz3 zr3 by3 rfl rfl rfl (am rfl rfl rfl rfl) rfl (by omega) (by omega) (by unfold TV;omega)) rfl rfl ⟨by omega,⟨(⟨k0.k+1,k0.N++[((k0.k:Nat):Int)],k0.M,k0.I,k0.T⟩:KX),(nsA ‹_›),(cnS rfl (hpR rfl (hpR rfl (.cons (by(rw[azb];rfl)) rfl rfl (.cons (by(rw[azb];rfl)) rfl (ab ai _ _) (hpS (ab ai _ _) (by rfl) (hpS (ab cg _ _) (by rfl) (hpS (ab cr _ _) (by rfl) trivial)))))))),⟨‹_›,Ik h0 h1 (by simp[nOf,mOf,iOf,tOf, *]) (by simp[nOf,mOf,iOf,tOf, *]) (by simp[nOf,mOf,iOf,tOf, *]) (by simp[nOf,mOf,iOf,tOf, *])⟩⟩⟩) (fun h5=>OpG.mk _ _ _ 9 (ah ai (a:=((k0.k:Nat):Int)) underlying53 sz3 zr3 by3 rfl rfl rfl (am rfl rfl rfl rfl) rfl (by omega) (by omega) (by unfold TV;omega)) rfl rfl (cE (fun h6=>by have hir:=Wq h3 h8 h1 ‹_›;exact OpG.lk (oh rfl (by omega) (by omega)) (OpG.nw (cm (de underlying183 Yh Qa rfl rfl rfl rfl) (fun η' h=>ba (f:=cfA) (l:=[(⟨((k0.k:Nat):Int),1⟩:PCoef)]) (azc.2 rfl) h rfl rfl rfl rfl rfl (fun a _=>⟨rfl,rfl⟩))) rfl (OpG.mk _ _ _ 11 (ah cg (a:=(⟨⟨-w[k0.k].v_,[(⟨((k0.k:Nat):Int),1⟩:PCoef)]⟩,true⟩:PCon)) underlying124 Q1 Qb Wc rfl rfl rfl (am rfl rfl rfl rfl) rfl (by omega) (by omega) (by unfold TV;omega)) rfl rfl ⟨by omega,⟨(⟨k0.k+1,k0.N,k0.M++[((k0.k:Nat):Int)],k0.I++[(⟨⟨-w[k0.k].v_,[(⟨((k0.k:Nat):Int),1⟩:PCoef)]⟩,true⟩:PCon)],k0.T⟩:KX),(nsA ‹_›),(cnS rfl (hpR rfl (hpR rfl (.cons (by(rw[azb,azb];rfl)) rfl rfl (hpS (ab ai _ _) (by rfl) (.cons (by(rw[azb];rfl)) rfl (ab ai _ _) (.cons (by(rw[azb,azb];rfl)) rfl (ab cg _ _) (hpS (ab cr _ _) (by rfl) trivial)))))))),⟨‹_›,Ik h0 h1 (by simp[nOf,mOf,iOf,tOf, *]) (by simp[nOf,mOf,iOf,tOf, *]) (by simp[nOf,mOf,iOf,tOf, *]) (by simp[nOf,mOf,iOf,tOf, *])⟩⟩⟩))) (fun h6=>OpG.mk _ _ _ 10 (ah cr (a:=(⟨((k0.k:Nat):Int),0,false,w[k0.k].l_⟩:PTest)) underlying125 sz64 zr64 by64 rfl rfl rfl (am rfl rfl rfl rfl) rfl (by omega) (by omega) (by unfold TV;omega)) rfl rfl ⟨by omega,⟨(⟨k0.k+1,k0.N,k0.M++[((k0.k:Nat):Int)],k0.I,k0.T++[(⟨((k0.k:Nat):Int),0,false,w[k0.k].l_⟩:PTest)]⟩:KX),(nsA ‹_›),(cnS rfl (hpR rfl (hpR rfl (.cons (by(rw[azb,azb];rfl)) rfl rfl (hpS (ab ai _ _) (by rfl) (.cons (by(rw[azb];rfl)) rfl (ab ai _ _) (hpS (ab cg _ _) (by rfl) (.cons (by(rw[azb,azb];rfl)) rfl (ab cr _ _) .nil)))))))),⟨‹_›,Ik h0 h1 (by simp[nOf,mOf,iOf,tOf, *]) (by simp[nOf,mOf,iOf,tOf, *]) (by simp[nOf,mOf,iOf,tOf, *]) (by simp[nOf,mOf,iOf,tOf, *])⟩⟩⟩))))) (fun hge25=>RegG.via (fun _ h=>cz [3,4,5,6] 2 0 0 [.sl 3 k0.N.length 0 k0.N.length,.sl 4 k0.M.length 0 k0.M.length,.v (.slice none 0 0),.sl 5 k0.I.length 0 k0.I.length,.sl 6 k0.T.length 0 k0.T.length,.v (.slice none 0 0),.v (.slice none 0 0)] [.tree 1 (k0.N.map iA),.tree 1 (k0.M.map iA),.tree 4 [],.tree 3 (k0.I.map cnA),.tree 4 (k0.T.map teA),.tree 2 [],.tree 2 []] rfl rfl (.fz (FzP.rows ai (by simp) rfl) (.fz (FzP.rows ai (by simp) rfl) (.fz FzP.nil (.fz (FzP.rows cg (by simp) rfl) (.fz (FzP.rows cr (by simp) rfl) (.fz FzP.nil (.fz FzP.nil (.same _)))))))) rfl h) (ay (rtK rfl yg rfl ⟨[7],FzP.aggL (.cons (.pure rfl) (.cons (.pure rfl) (.cons (.pure rfl) (.cons (ba (f:=clA) (l:=[(⟨k0.N,k0.M,[],k0.I,k0.T,[],[]⟩:PCl)]) (azc.2 rfl) rfl rfl rfl rfl rfl rfl (fun a _=>⟨rfl,rfl⟩)) .nil))))⟩ (have e0:k0.k=w.length:=(by omega);have e1:=h0.n;have e2:=h0.m;have e3:=h0.i;have e4:=h0.t;?_))));rw[e0]at e1 e2 e3 e4;rw[Ho h3,e1,e2,e3,e4];rfl
structure PAcc where
 w:Bool
 p:PPred
abbrev acA(a:PAcc):List AV:=.v (.bool a.w)::prA a.p
def jp:RowF acA 5:=⟨fun _=>rfl,fun _=>rfl,fun _ _=>rfl,fun _ _=>rfl,fun _ _=>rfl,fun _=>rfl⟩
noncomputable def Xg(s:List GTab)(p:Int×List GVal):PAcc:=⟨true,m6 p.1 (aa (s.getD p.1.toNat default)) p.2⟩
noncomputable def Pm(s:List GTab)(l:List GChg):List PAcc:=(chS l).map (Xg s)
def wb{l:List GChg}{L L':List PAcc}(h:k<l.length)(hL:L=Pm s (l.take k))(h':L'=L++(X2 l[k]).map (Xg s)):L'=Pm s (l.take (k+1)):=by unfold Pm at hL ⊢;rw[aju h,azx,<-hL,h']
theorem Nr{t:Int}(hj:j<s.length)(ht:t=((j:Nat):Int)):(⟨true,m6 t (aa s[j]) r⟩:PAcc)=Xg s (t,r):=by grind[Xg]
def ald:(prog.info? 83).map (·.bytes)=some 72:=by kernel_rfl
def La:aj prog 83=some 5:=by kernel_rfl
def afg:bp prog 83=some (.agg #[.bool false,.int .i64 0,.int .i64 0,.slice none 0 0,.slice none 0 0]):=by kernel_rfl
def V6(s:List GTab)(hs:bq s (fun y=>FitTab y))(l:List GChg)(hl:bq l (fun y=>FitChg y))(ha:SchS s)(hb:∀c∈l,ay5 s c)(hl6:l.length<=6):PRet prog 37 [.tree 5 (s.map ic),.tree 4 (l.map aax)] (fun r=>r=.tree 5 ((Pm s l).map acA)):=by
 refine ovT [40] [] func37 rfl rfl ?_;refine LenG.of (LpG.via (fun _ h=>bl 5 5 rfl 1 rfl h) ?_);refine LpG.on (fun k0:KL PAcc=>(⟨fL [(0,.tree 5 (s.map ic)),(5,.sl 0 k0.L.length 0 k0.L.length),(10,.tree 4 (l.map aax)),(11,vI l.length),(12,vI k0.k)],hLz [(0,⟨k0.L.length,rF acA k0.L,5,Nat.beq k0.L.length 0⟩)],1⟩:St)) (fun k0=>(l.length-k0.k)) (fun k0=>(k0.k<=l.length/\(k0.L=Pm s (l.take k0.k)/\k0.L.length<=2*k0.k))) (⟨0,[]⟩:KL PAcc) (cnS (by rfl) (hpS (ab jp _ _) (by rfl) trivial)) ⟨azk _,⟨rfl,azm _⟩⟩ ?_;rintro k0 h7;have hgr_k0:l.length<=140737488355328:=hl.1
 obtain⟨hle_k0,h0⟩:=h7;apply cL<;>intro h1
 ·have hl2:=h0.2;obtain⟨j1,h4,h2,_⟩:=hb _ (ay7 h1);have h8:=(ha.tab _ (ay7 h2)).to
  have hlk:=h8.lk;have hc:=h8.cl
  have hvf:=pp hc;have hvl:(aa s[j1]).length<=1000:=by simp only[aa,aze];omega
  refine IdxG.of ‹_› (ArgG.mk (Cz (l[k0.k].C_) (hl.2 _ (ay7 _)).C_ (l[k0.k].B_) (hl.2 _ (ay7 _)).B_) rfl ?_);rintro _ ⟨b0,rfl,h9⟩;apply cB<;>intro h5
  ·have hd:=h9.1 h5;refine⟨by omega,?_⟩;refine⟨(⟨k0.k+1,k0.L⟩:KL PAcc),(nsA ‹_›),(cnS (by rfl) (hpS (ab jp _ _) (by rfl) trivial)),?_⟩;refine⟨‹_›,?_⟩;exact⟨wb h1 h0.1 (by(rw[aq5 ‹_›];simp;done)),by have:=h0.2;simp only[azb,azu,azv];omega⟩
  have hd:¬l[k0.k].C_=l[k0.k].B_:=fun h=>absurd (h9.2 h) (by rw[h5];decide);refine eu (ULp.step ?_);refine cT ⟨(by first|assumption|omega|decide),LenG.of ?_⟩;apply cB<;>intro h6
  ·have h3:=azi h6;refine OpG.lk (ae underlying42 uv rfl rfl h4 h2) ?_;refine ArgG.mk (bw (s[j1]) (hs.2 _ (ay7 _)) (by omega)) rfl ?_;rintro _ rfl;refine ArgG.mk (A9 (l[k0.k].n_) ((aa (s[j1]))) ‹_› (l[k0.k].C_) (hl.2 _ (ay7 _)).C_ ‹_› (by omega)) rfl ?_;rintro _ rfl;refine OpG.mk _ _ _ 4 (ah jp (a:=(⟨true,m6 l[k0.k].n_ (aa s[j1]) (l[k0.k].C_)⟩:PAcc)) underlying74 La afg ald rfl rfl rfl (am rfl rfl rfl rfl) rfl (by omega) (by omega) (by unfold TV;omega)) rfl rfl ?_;refine⟨by kernel_rfl,?_⟩;refine⟨by omega,?_⟩;refine ULp.step ?_;refine cT ⟨(by first|assumption|omega|decide),LenG.of ?_⟩;apply cD<;>intro h3
   ·refine OpG.lk (ae underlying42 uv rfl rfl h4 h2) ?_;refine ArgG.mk (bw (s[j1]) (hs.2 _ (ay7 _)) (by omega)) rfl ?_;rintro _ rfl;refine ArgG.mk (A9 (l[k0.k].n_) ((aa (s[j1]))) ‹_› (l[k0.k].B_) (hl.2 _ (ay7 _)).B_ ‹_› (by omega)) rfl ?_;rintro _ rfl;refine OpG.mk _ _ _ 5 (ah jp (a:=(⟨true,m6 l[k0.k].n_ (aa s[j1]) (l[k0.k].B_)⟩:PAcc)) underlying74 La afg ald rfl rfl rfl (am rfl rfl rfl rfl) rfl (by(simp only[azb,azu,azv];omega)) (by(simp only[azb,azu,azv];omega)) (by unfold TV;omega)) rfl rfl ?_;refine⟨by kernel_rfl,?_⟩;refine⟨by omega,?_⟩;refine ULp.step ?_;refine cF ⟨by omega,⟨(⟨k0.k+1,k0.L++[(⟨true,m6 l[k0.k].n_ (aa s[j1]) (l[k0.k].C_)⟩:PAcc)]++[(⟨true,m6 l[k0.k].n_ (aa s[j1]) (l[k0.k].B_)⟩:PAcc)]⟩:KL PAcc),(nsA ‹_›),(cO (.cons rfl rfl (.cons (by(rw[azb,azb,azb];rfl)) rfl (.cons rfl rfl (.cons rfl rfl (.cons rfl rfl .nil))))) (.cons (by(rw[azb,azb,azb];rfl)) rfl (ab jp _ _) .nil)),?_⟩⟩;refine⟨‹_›,?_⟩;exact⟨wb h1 h0.1 (by(rw[Hv ‹_›,azg (by omega),azg (by omega)];simp[Nr h2 h4];done)),by have:=h0.2;simp only[azb,azu,azv];omega⟩
   refine⟨by omega,?_⟩;refine ULp.step ?_;refine cF ⟨by omega,⟨(⟨k0.k+1,k0.L++[(⟨true,m6 l[k0.k].n_ (aa s[j1]) (l[k0.k].C_)⟩:PAcc)]⟩:KL PAcc),(nsA ‹_›),(cO (.cons rfl rfl (.cons (by(rw[azb];rfl)) rfl (.cons rfl rfl (.cons rfl rfl (.cons rfl rfl .nil))))) (.cons (by(rw[azb];rfl)) rfl (ab jp _ _) .nil)),?_⟩⟩;refine⟨‹_›,?_⟩;exact⟨wb h1 h0.1 (by(rw[Hv ‹_›,azg (by omega),azf (by omega)];simp[Nr h2 h4];done)),by have:=h0.2;simp only[azb,azu,azv];omega⟩
  have h3:=azh h6;refine⟨by omega,?_⟩;refine ULp.step ?_;refine cT ⟨(by first|assumption|omega|decide),LenG.of ?_⟩;apply cD<;>intro h3
  ·refine OpG.lk (ae underlying42 uv rfl rfl h4 h2) ?_;refine ArgG.mk (bw (s[j1]) (hs.2 _ (ay7 _)) (by omega)) rfl ?_;rintro _ rfl;refine ArgG.mk (A9 (l[k0.k].n_) ((aa (s[j1]))) ‹_› (l[k0.k].B_) (hl.2 _ (ay7 _)).B_ ‹_› (by omega)) rfl ?_;rintro _ rfl;refine OpG.mk _ _ _ 4 (ah jp (a:=(⟨true,m6 l[k0.k].n_ (aa s[j1]) (l[k0.k].B_)⟩:PAcc)) underlying74 La afg ald rfl rfl rfl (am rfl rfl rfl rfl) rfl (by omega) (by omega) (by unfold TV;omega)) rfl rfl ?_;refine⟨by kernel_rfl,?_⟩;refine⟨by omega,?_⟩;refine ULp.step ?_;refine cF ⟨by omega,⟨(⟨k0.k+1,k0.L++[(⟨true,m6 l[k0.k].n_ (aa s[j1]) (l[k0.k].B_)⟩:PAcc)]⟩:KL PAcc),(nsA ‹_›),(cO (.cons rfl rfl (.cons (by(rw[azb];rfl)) rfl (.cons rfl rfl (.cons rfl rfl (.cons rfl rfl .nil))))) (.cons (by(rw[azb];rfl)) rfl (ab jp _ _) .nil)),?_⟩⟩;refine⟨‹_›,?_⟩;exact⟨wb h1 h0.1 (by(rw[Hv ‹_›,azf (by omega),azg (by omega)];simp[Nr h2 h4];done)),by have:=h0.2;simp only[azb,azu,azv];omega⟩
  refine⟨by omega,?_⟩;refine ULp.step ?_;refine cF ⟨by omega,⟨(⟨k0.k+1,k0.L⟩:KL PAcc),(nsA ‹_›),(cnS (by rfl) (hpS (ab jp _ _) (by rfl) trivial)),?_⟩⟩;refine⟨‹_›,?_⟩;exact⟨wb h1 h0.1 (by(rw[Hv ‹_›,azf (by omega),azf (by omega)];simp;done)),by have:=h0.2;simp only[azb,azu,azv];omega⟩
 refine rtA rfl ⟨[0],FzP.rows jp (azc.2 rfl) rfl⟩ ?_;have e1:=h0.1
 rw[az0 (by omega)]at e1;rw[e1]
def tq(w:List GVal)(v:Int):Prop:=(bj w v).c_=0
def nnH(w:List GVal)(v:Int):Prop:=¬(bj w v).c_=0
theorem im(hv:v=((j:Nat):Int))(hj:j<w.length):bj w v=w[j]:=by subst hv;exact qx hj
def ax4:cw prog 41=true:=by kernel_rfl
theorem n1(v:GVal)(i:Int):(nOf v i).length<=1:=by unfold nOf;split<;>simp
theorem m1(v:GVal)(i:Int):(mOf v i).length<=1:=by unfold mOf;split<;>simp
theorem i1(v:GVal)(i:Int):(iOf v i).length<=1:=by unfold iOf;split;simp;split<;>simp
theorem t1(v:GVal)(i:Int):(tOf v i).length<=1:=by unfold tOf;split;simp;split<;>simp
theorem T9{L:List Int}(h:v∈L):atq L v=true:=by grind[atq,yq,hasP,mn,azs,Eg]
def rf{v:GVal}{x:PVar}(h:po v x=true):(v.c_=0/\v.v_=0/\jt v.l_=true/\x.nl=true)\/(v.c_=1/\jt v.l_=true/\x.t=1/\x.lo<=v.v_/\v.v_<=x.hi)\/(v.c_=2/\v.v_=0/\Og v.l_=true/\v.l_.size<=16/\x.t=2):=by unfold po at h;split at h;rename_i hv;unfold Bv at hv;split at hv;rename_i h0;rw[azg h0]at h;simp at hv;exact .inl ⟨h0,hv.1,hv.2,h⟩;rename_i h0;rw[azf h0]at h;split at hv;rename_i h1;rw[azg h1]at h;simp at h;exact .inr (.inl ⟨h1,hv,h.1.1,by omega,by omega⟩);rename_i h1;rw[azf h1]at h;split at hv;rename_i h2;simp at h hv;exact .inr (.inr ⟨h2,hv.1.1,hv.1.2,by omega,h.1⟩);cases hv;cases h
section
variable{l:List PVar}{w w':List GVal}
def Nh(h:Bel l w){i:Nat}(hi:i<w.length):po w[i] (l[i]'(by have:=h.1;omega))=true:=h.2 i hi _
end
def aaz(c:GChg):(X2 c).length<=2:=by unfold X2;split;simp;rw[azb];split<;>split<;>simp
theorem V7:∀l:List GChg,(chS l).length<=2*l.length
 |[]=>azm _
 |c::l=>by have:=V7 l;have h2:=aaz c;have e:chS (c::l)=X2 c++chS l:=(by simp[chS]);rw[e,azb,azu];omega
def afu{c:GCol}(h:Bu c):atn (zq c)=true:=by grind[Bu,atn,zq]
theorem TabS.vars{t:GTab}(h:TabS t):∀x∈aa t,atn x=true:=fun x hx=>by obtain⟨c,hc,rfl⟩:=azy.1 hx;exact afu (h.col c hc)
def afr(t:GTab):(aa t).length=t.d_.length:=by simp[aa]
open Go.RowKit Go.ChangeShapes Go.WideShapes Go.Deep
set_option maxRecDepth 100000
def LtB(n:Nat):Nat->Prop:=fun k=>k<n
def TRL(T:Nat->Prop)(w:World)(xs:List AV)(cs:List Value):Prop:=xs.length=cs.length/\∀i (h:i<xs.length) (h':i<cs.length),TR T w xs[i] cs[i]
theorem TRL.one{w:World}{a:AV}{x:Value}(h:TR T w a x):TRL T w [a] [x]:=⟨rfl,fun i h1 h2=>by have:i=0:=(by simp at h1;omega);subst this;exact h⟩
def TRL.append{w:World}{xs ys:List AV}{ds:List Value}(h1:TRL T w xs cs)(h2:TRL T w ys ds):TRL T w (xs++ys) (cs++ds):=by grind[TRL]
def TRL.done{w:World}(h:cs.length=n):TRL T w [] (cs.drop n):=by rw[<-h,List.drop_length];exact⟨rfl,fun i h=>absurd h (by simp)⟩
def ce{w:World}{xs ys:List AV}{o:Nat}(h1:TRL T w xs ((cs.drop o).take m))(h2:TRL T w ys (cs.drop (o+m))):TRL T w (xs++ys) (cs.drop o):=by have:=h1.append h2;rwa [<-List.drop_drop,List.take_append_drop]at this
def TRL.val{w:World}{x:Value}(h:cs=[x]):TRL T w [.v x] cs:=by rw[h];exact .one (.v x)
def Kl(P:Program)(R:α->List AV)(Wf:α->Prop)(t:TypeId)(N:Nat):Prop:=
 ∀{H:Type} (enc:TypeId×Value->H) (W:World) (fuel:Nat) (cs:List Value) (d:DataW H) (ps:List MemPlace),fuel<=N->
  DataW.trod enc P W 0 (fun _=>true) true fuel t cs=some (d,ps)->(∀m∈d.weights P t,m<=140737488351232)->∃a,Wf a/\TRL (LtB W.heap.size) W (R a) cs
def nq(P:Program)(R:α->List AV)(Wf:α->Prop)(t:TypeId):Prop:=
 ∀{H:Type} (enc:TypeId×Value->H) (W:World) (fuel:Nat) (cs:List Value) (d:DataW H) (ps:List MemPlace),
  DataW.trod enc P W 0 (fun _=>true) true fuel t cs=some (d,ps)->(∀m∈d.weights P t,m<=140737488351232)->∃a,Wf a/\TRL (LtB W.heap.size) W (R a) cs
theorem nq.f{R:α->List AV}{Wf:α->Prop}(h:nq P R Wf t)(N:Nat):Kl P R Wf t N:=fun enc W fuel cs d ps _ h1 h2=>h enc W fuel cs d ps h1 h2
def nq.of{R:α->List AV}{Wf:α->Prop}(h:∀N,Kl P R Wf t N):nq P R Wf t:=fun enc W fuel cs d ps h1 h2=>h fuel enc W fuel cs d ps (azm _) h1 h2
theorem sv{H:Type}{P:Program}{e:TypeId}:∀{ds:List (DataW H)} {d:DataW H},d∈ds->∀m∈d.weights P e,m∈DataW.weightsAll P e ds
 |x::r,d,h,m,hm=>by simp only[DataW.weightsAll,azd];rcases azz.1 h with rfl|h;exact .inl hm;exact .inr (sv h m hm)
def Pg[Inhabited α]{p:Nat->α->Prop}(h:∀i,i<m->∃y,p i y):∃f:Nat->α,∀i,i<m->p i (f i):=by refine⟨fun i=>if h':i<m then Classical.choose (h i h')else default,fun i hi=>?_⟩;simp only[hi,dif_pos];exact Classical.choose_spec (h i hi)
def Kl.sliceB{R:α->List AV}{Wf:α->Prop}{t e N:Nat}(hR:Kl P R Wf e N)(ht:P.underlying t=some (.slice e))(hn:P.cellsOf e=q)(hq:∀a,Wf a->(R a).length=q)(h6:1<=q)(hb:1<=P.bytesOf e):
 Kl P (fun l:List α=>[.tree q (l.map R)]) (fun l=>l.length*P.bytesOf e<=140737488355328/\∀a∈l,Wf a) t (N+1):=by
 intro H enc W fuel cs d ps hN h hw
 rcases DataW.trod_slice ht h with⟨rfl,_⟩|⟨a,len,m,elems,rest,n,hfu,rfl,hx,_,hl,hm,g4,hi,_,_⟩
 ·exact⟨[],⟨by simp,fun a h=>by cases h⟩,.one (.tree0 (azk _))⟩
 ·simp only[Prod.mk.injEq]at hx
  obtain⟨rfl,_⟩:=hx
  simp only[DataW.weights,ht,aze,azz,azd]at hw
  have hh:=hw _ (.inl rfl)
  rw[g4]at hh
  have h7:len*P.bytesOf e<=140737488355328:=by have:len*P.bytesOf e<=(len+rest.length)*P.bytesOf e:=Nat.mul_le_mul_right _ (by omega);omega
  have ho:len<=140737488355328:=by have:len*1<=(len+rest.length)*P.bytesOf e:=Nat.mul_le_mul (by omega) hb;omega
  have hu:∀i,i<len->∃(y:α×List Value),(Wf y.1/\TRL (LtB W.heap.size) W (R y.1) y.2)/\W.cells? 0 (a.add (i*P.cellsOf e)) (P.cellsOf e)=some y.2:=by intro i g5;have h1:=hi i g5;have hp:i<elems.length:=(by omega);rw[ay8 hp]at h1;obtain⟨cs',hc,g6⟩:=azt.1 h1;obtain⟨y,hy⟩:=hR enc W n cs' elems[i].1 elems[i].2 (by omega) g6 (fun j hj=>hw j (.inr (.inl (sv (azy.2 ⟨elems[i],ay7 _,rfl⟩) j hj))));exact⟨(y,cs'),hy,hc⟩
  by_cases h0:len=0
  ·subst h0
   exact⟨[],⟨by simp,fun a h=>by cases h⟩,.one (.tree0 hm)⟩
  ·obtain⟨y0,g7⟩:=hu 0 (by omega)
   have:Inhabited (α×List Value):=⟨y0⟩
   obtain⟨f,hf⟩:=Pg hu
   obtain⟨b,off,spot⟩:=a
   have hv:=World.cells?_some g7.2
   have h3:=hv.2.2 0 (by rw[hn];exact h6)
   have h8:∃v0,W.cell? ((⟨b,off,spot⟩:Addr).add (0*P.cellsOf e))=some v0:=by have h9:0<y0.2.length:=(by rw[hv.2.1,hn];exact h6);refine⟨y0.2[0],?_⟩;have:=h3;rw[ay8 h9]at this;simpa[Addr.add]using this
   obtain⟨v0,g0⟩:=h8
   have hd:spot=none:=by simpa[Addr.add]using World.cell?_spot g0
   subst hd
   have hs:b<W.heap.size:=by have:=World.block_lt_of_cell? W _ g0;simpa[Addr.add]using this
   refine⟨(List.range len).map fun i=>(f i).1,⟨by simpa using h7,fun a ha=>?_⟩,.one ?_⟩
   ·obtain⟨i,g8,rfl⟩:=azy.1 ha
    exact(hf i (by simpa using g8)).1.1
   ·have h5:(((List.range len).map fun i=>(f i).1).map R).length=len:=by simp
    have h4:∀k (h:k<(((List.range len).map fun i=>(f i).1).map R).length),(((List.range len).map fun i=>(f i).1).map R)[k]=R (f k).1:=fun k h=>by simp
    have hT:=TR.tree (T:=LtB W.heap.size) (w:=W) (n:=q) (xs:=((List.range len).map fun i=>(f i).1).map R) (b:=b) (off:=off) (cap:=m) (fun k j=>(f k).2.getD j undef) hs (by rw[h5];exact hl) hm (by rw[h5];exact ho)
     (fun k h=>by rw[h4 k h];exact hq _ (hf k (by rw[h5]at h;exact h)).1.1)
     (fun k j hk hj=>by
      rw[h5]at hk;have g1:=World.cells?_some (hf k hk).2
      have g2:j<P.cellsOf e:=by rw[hn];exact hj
      have hg:=g1.2.2 j g2;rw[add_add,hn]at hg;have he:j<(f k).2.length:=by rw[g1.2.1];exact g2
      have e1:(⟨b,off,none⟩:Addr).add (k*q+j)=⟨b,off+k*q+j,none⟩:=by
       by_cases hz:k*q+j=0;have h1:k*q=0:=by omega
       have h2:j=0:=by omega
       rw[h1,h2];simp[Addr.add];unfold Addr.add;rw[azf hz];simp[Nat.add_assoc]
      rw[<-e1,hg];simp[List.getD,he])
     (fun k h j h'=>by have hk:k<len:=(by rw[h5]at h;exact h);have hr:=(hf k hk).1.2;have g3:j<(R (f k).1).length:=(by rw[h4 k h]at h';exact h');have he:j<(f k).2.length:=(by rw[<-hr.1];exact g3);have:=hr.2 j g3 he;simp only[h4 k h];rw[Eg he];exact this)
    rw[h5]at hT
    exact hT
theorem Kl.slice{R:α->List AV}{Wf:α->Prop}{t e N:Nat}(hR:Kl P R Wf e N)(ht:P.underlying t=some (.slice e))(hn:P.cellsOf e=q)(hq:∀a,Wf a->(R a).length=q)(h0:1<=q)(hb:1<=P.bytesOf e):
 Kl P (fun l:List α=>[.tree q (l.map R)]) (fun l=>l.length<=140737488355328/\∀a∈l,Wf a) t (N+1):=fun enc W fuel cs d ps hN h hw=>by
 obtain⟨l,⟨h1,h2⟩,h3⟩:=Kl.sliceB hR ht hn hq h0 hb enc W fuel cs d ps hN h hw
 refine⟨l,⟨?_,h2⟩,h3⟩
 have:l.length*1<=l.length*P.bytesOf e:=Nat.mul_le_mul_left _ hb
 omega
theorem nq.slice{R:α->List AV}{Wf:α->Prop}{t e:Nat}(hR:nq P R Wf e)(ht:P.underlying t=some (.slice e))(hn:P.cellsOf e=q)(hq:∀a,(R a).length=q)(h0:1<=q)(hb:1<=P.bytesOf e):
 nq P (fun l:List α=>[.tree q (l.map R)]) (fun l=>l.length<=140737488355328/\∀a∈l,Wf a) t:=nq.of fun N=>fun enc W fuel cs d ps hN h1 h2=>Kl.slice (hR.f N) ht hn (fun a _=>hq a) h0 hb enc W fuel cs d ps (by omega) h1 h2
def nq.sliceB{R:α->List AV}{Wf:α->Prop}{t e:Nat}(hR:nq P R Wf e)(ht:P.underlying t=some (.slice e))(hn:P.cellsOf e=q)(hq:∀a,(R a).length=q)(h0:1<=q)(hb:1<=P.bytesOf e):
 nq P (fun l:List α=>[.tree q (l.map R)]) (fun l=>l.length*P.bytesOf e<=140737488355328/\∀a∈l,Wf a) t:=nq.of fun N=>fun enc W fuel cs d ps hN h1 h2=>Kl.sliceB (hR.f N) ht hn (fun a _=>hq a) h0 hb enc W fuel cs d ps (by omega) h1 h2
def ir{fs:Array Field}(ht:P.underlying t=some (.struct fs)){H:Type}{enc:TypeId×Value->H}{W:World}{fuel:Nat}{d:DataW H}{ps:List MemPlace}
 (h:DataW.trod enc P W 0 (fun _=>true) true fuel t cs=some (d,ps))(hw:∀m∈d.weights P t,m<=140737488351232):
 ∃n,fuel=n+1/\cs.length=P.cellsOf t/\∀(i:Nat) (f:Field),fs[i]? =some f->
  ∃(d':DataW H) (ps':List MemPlace),DataW.trod enc P W 0 (fun _=>true) true n f.type ((cs.drop f.offset).take (P.cellsOf f.type))=some (d',ps')/\∀q∈d'.weights P f.type,q<=140737488351232:=by
 obtain⟨xs,n,h3,hx,h0,hxl,hf⟩:=DataW.trod_struct ht h
 simp only[Prod.mk.injEq]at hx
 obtain⟨rfl,_⟩:=hx
 refine⟨n,h3,h0,fun i f hi=>?_⟩
 have hil:i<fs.size:=(Array.getElem?_eq_some_iff.1 hi).1
 have h2:xs[i]? =some (xs[i]'(by omega)):=ay8 (by omega)
 have h1:=hf i f hi
 rw[h2]at h1
 refine⟨_,_,h1,fun q hq=>hw q ?_⟩
 simp only[DataW.weights,ht]
 refine DataW.weights_mem_each (j:=i) (t:=f.type) (d:=(xs[i]'(by omega)).1) ?_ ?_ q hq
 ·simp only[List.getElem?_map,Array.getElem?_toList,hi,az5]
 ·simp only[List.getElem?_map,h2,az5]
def iu(ht:P.underlying t=some (.int .i64)):nq P iA (fun x=>-9223372036854775808<=x/\x<=9223372036854775807) t:=by intro H enc W fuel cs d ps h hw;obtain⟨x,h1,_,h2⟩:=DataW.trod_int ht h;exact⟨x,bounds_i64 h2,.val h1⟩
def Oj(ht:P.underlying t=some .bool):nq P (fun b:Bool=>[vB b]) (fun _=>True) t:=by intro H enc W fuel cs d ps h hw;obtain⟨x,h1,_⟩:=DataW.trod_bool ht h;exact⟨x,trivial,.val h1⟩
def q8(ht:P.underlying t=some .string):nq P (fun s:ByteArray=>[.v (.string s)]) (fun s=>s.size<=140737488351232) t:=by intro H enc W fuel cs d ps h hw;obtain⟨x,h1,h2,_⟩:=DataW.trod_string ht h;simp only[Prod.mk.injEq]at h2;obtain⟨rfl,_⟩:=h2;refine⟨x,?_,.val h1⟩;have:=hw x.data.toList.length (by simp[DataW.weights]);have e:x.data.toList.length=x.size:=(by simp);omega
end Go.Proofs.YtfpfdfhlljjckaaGreatDoor
