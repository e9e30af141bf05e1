/- Texts of the claim. -/
import Derived.IntWalk
import Derived.Test.YtfpfdfhlljjckaaGreatDoorInf
import Derived.Test.YtfpfdfhlljjckaaGreatDoorQ2
set_option linter.defProp false
namespace Go.Proofs.YtfpfdfhlljjckaaGreatDoor
open Tryz
set_option maxRecDepth 1000000
set_option maxHeartbeats 0
set_option linter.unusedVariables false
set_option linter.unusedSimpArgs false
open Go.RowKit
variable{nm:ByteArray}{a b m n op:Int}{r:List AV}{M P:List AV->Prop}{bs nn:List Int}{k t':Nat}{y:Operand}{α:Type}
def aqd(l:List Int)(v:Int)(j:Nat):Bool:=!(l.getD j 0==v)
def aal(l:List Int)(v:Int):Bool:=!tf l.length (aqd l v)
def Qo(l:List Int)(n:Int)(j:Nat):Bool:=!(decide (l.getD j 0<0)||decide (l.getD j 0≥n)||(decide (0<j)&&decide (l.getD (j-1) 0≥l.getD j 0)))
def P2(l:List Int)(n:Int):Bool:=tf l.length (Qo l n)
def mixed:prog.follows .mixedOrders=true:=by kernel_rfl
def aqc(l:List Int)(v:Int)(hl:l.length<=1000000000):jz prog 193 [isA l,vI v] (vB (aal l v)):=by refine PRet.eq (ovT [] [] func193 rfl rfl ?_);refine LpG.loop (fun n s=>∃k:Nat,n=(l.length-k)/\s=⟨fL [(0,isA l),(1,vI v),(5,vI k)],hLz [],0⟩/\(k<=l.length/\∀j,j<k->aqd l v j=true)) (n:=(l.length-0)) (s1:=⟨fL [(0,isA l),(1,vI v),(5,vI 0)],hLz [],0⟩) (cnR rfl) ⟨0,rfl,rfl,⟨a0h _,fun j h=>absurd h (a0i j)⟩⟩ ?_;rintro n s ⟨k,rfl,rfl,h1⟩;obtain⟨hk,hj⟩:=h1;try refine LenG.of ?_;apply cL<;>intro h0;refine IdxG.of (by first|assumption|omega|decide) ?_;apply cB<;>intro hc17;refine rV rfl rfl ?_;refine br ?_;unfold aal;rw[dm h0 (by simp only[aqd,cg h0];simp_all)];rfl;refine⟨by omega,?_⟩;refine⟨(l.length-(k+1)),⟨fL [(0,isA l),(1,vI v),(5,vI (((k+1):Nat):Int))],hLz [],0⟩,by omega,(cnR rfl),(k+1),rfl,rfl,?_⟩;refine⟨by omega,fun j h=>?_⟩;rcases a0k.1 h with h|rfl;exact hj j h;simp only[aqd,cg h0];simp_all;refine rV rfl rfl ?_;refine br ?_;unfold aal;rw[dj hk h0 hj];rfl
def atz(l:List Int)(v:Int)(hl:l.length<=1000000000):jz prog 145 [isA l,vI v] (vB (P2 l v)):=by refine PRet.eq (ovT [31] [] func145 rfl rfl ?_);refine LpG.loop (fun n s=>∃k:Nat,n=(l.length-k)/\s=⟨fL [(0,isA l),(1,vI v),(5,vI k)],hLz [],0⟩/\(k<=l.length/\∀j,j<k->Qo l v j=true)) (n:=(l.length-0)) (s1:=⟨fL [(0,isA l),(1,vI v),(5,vI 0)],hLz [],0⟩) (cnR rfl) ⟨0,rfl,rfl,⟨a0h _,fun j h=>absurd h (a0i j)⟩⟩ ?_;rintro n s ⟨k,rfl,rfl,h1⟩;obtain⟨hk,hj⟩:=h1;try refine LenG.of ?_;apply cL<;>intro h0;refine IdxG.of (by first|assumption|omega|decide) ?_;apply cB<;>intro hg17;refine cT ?_;refine⟨by kernel_rfl,?_⟩;refine cT ?_;refine rV rfl rfl ?_;(refine br (Eq.symm (dm h0 ?_));(first|simp only[Qo,cg h0,ek1]|simp only[Qo,cg h0]);simp_all);refine IdxG.of (by first|assumption|omega|decide) ?_;apply cB<;>intro hg25;refine⟨by kernel_rfl,?_⟩;refine cT ?_;refine rV rfl rfl ?_;(refine br (Eq.symm (dm h0 ?_));(first|simp only[Qo,cg h0,ek1]|simp only[Qo,cg h0]);simp_all);apply cB<;>intro h2;obtain⟨k',h3⟩:∃k',k=k'+1:=⟨k-1,by simp at h2;omega⟩;have ek1:l.getD (k-1) 0=l[k']'(by omega):=(by rw[show k-1=k' by omega];exact cg (by omega));refine OpG.lk (Dv rfl rfl h3 (by omega)) ?_;refine IdxG.of (by first|assumption|omega|decide) ?_;refine IdxG.of (by first|assumption|omega|decide) ?_;refine⟨by kernel_rfl,?_⟩;apply cB<;>intro hc40;refine rV rfl rfl ?_;(refine br (Eq.symm (dm h0 ?_));(first|simp only[Qo,cg h0,ek1]|simp only[Qo,cg h0]);simp_all);refine⟨by omega,?_⟩;refine⟨(l.length-(k+1)),⟨fL [(0,isA l),(1,vI v),(5,vI (((k+1):Nat):Int))],hLz [],0⟩,by omega,(cnR rfl),(k+1),rfl,rfl,?_⟩;refine⟨by omega,fun j h=>?_⟩;rcases a0k.1 h with h|rfl;exact hj j h;(simp only[Qo,cg h0,ek1]);simp_all;refine⟨by kernel_rfl,?_⟩;refine cF ?_;refine⟨by omega,?_⟩;refine⟨(l.length-(k+1)),⟨fL [(0,isA l),(1,vI v),(5,vI (((k+1):Nat):Int))],hLz [],0⟩,by omega,(cnR rfl),(k+1),rfl,rfl,?_⟩;refine⟨by omega,fun j h=>?_⟩;rcases a0k.1 h with h|rfl;exact hj j h;(simp only[Qo,cg h0]);simp_all;exact rV rfl rfl (br (Eq.symm (dj hk h0 hj)))
structure PVar where
 (t lo hi mx:Int) (nl:Bool)
variable{l:List PVar}
structure PCoef where
 (v n:Int)
structure PLin where
 (k:Int) (cs:List PCoef)
variable{f:PLin}
structure PAux where
 (of_:PLin) (by_ tx:Int)
structure PCon where
 (l:PLin) (eq:Bool)
structure PTest where
 (v kd:Int) (ng:Bool) (s:ByteArray)
structure PCl where
 (nul nn:List Int) (aux:List PAux) (ints:List PCon) (tests:List PTest) (same diff:List (Int×Int))
variable{c:PCl}
structure PPred where
 (tab cols:Int) (vars:List PVar) (cls:List PCl)
instance:Inhabited PVar:=⟨⟨0,0,0,0,false⟩⟩
instance:Inhabited PCoef:=⟨⟨0,0⟩⟩
instance:Inhabited PAux:=⟨⟨⟨0,[]⟩,0,0⟩⟩
instance:Inhabited PCon:=⟨⟨⟨0,[]⟩,false⟩⟩
instance:Inhabited PTest:=⟨⟨0,0,false,⟨#[]⟩⟩⟩
instance:Inhabited PCl:=⟨⟨[],[],[],[],[],[],[]⟩⟩
abbrev vA(x:PVar):List AV:=[.v (.int .i64 x.t),.v (.int .i64 x.lo),.v (.int .i64 x.hi),.v (.int .i64 x.mx),.v (.bool x.nl)]
abbrev cfA(x:PCoef):List AV:=[.v (.int .i64 x.v),.v (.int .i64 x.n)]
abbrev csA(l:List PCoef):AV:=.tree 2 (l.map cfA)
abbrev liA(x:PLin):List AV:=[.v (.int .i64 x.k),csA x.cs]
abbrev axA(x:PAux):List AV:=[.v (.int .i64 x.of_.k),csA x.of_.cs,.v (.int .i64 x.by_),.v (.int .i64 x.tx)]
abbrev cnA(x:PCon):List AV:=[.v (.int .i64 x.l.k),csA x.l.cs,.v (.bool x.eq)]
abbrev teA(x:PTest):List AV:=[.v (.int .i64 x.v),.v (.int .i64 x.kd),.v (.bool x.ng),.v (.string x.s)]
abbrev paA(x:Int×Int):List AV:=[.v (.int .i64 x.1),.v (.int .i64 x.2)]
abbrev vsA(l:List PVar):AV:=.tree 5 (l.map vA)
abbrev psA(l:List (Int×Int)):AV:=.tree 2 (l.map paA)
abbrev clA(c:PCl):List AV:=[isA c.nul,isA c.nn,.tree 4 (c.aux.map axA),.tree 3 (c.ints.map cnA),.tree 4 (c.tests.map teA),psA c.same,psA c.diff]
abbrev prA(p:PPred):List AV:=[.v (.int .i64 p.tab),.v (.int .i64 p.cols),vsA p.vars,.tree 7 (p.cls.map clA)]
def ci(n:Int):Int:=if n<0 then -n else n
def wiB(n lo hi:Int):Bool:=decide (n≥lo)&&decide (n<=hi)
def I6(x:PVar):Bool:=if x.t=1 then decide (x.lo≥-2147483648)&&decide (x.lo<=x.hi)&&decide (x.hi<=2147483647)&&x.mx==0
 else x.t==2&&decide (x.mx≥0)&&decide (x.mx<=16)&&x.lo==0&&x.hi==0
def aen(l:List PVar)(j:Nat):Bool:=I6 (l.getD j default)
def aeo(l:List PVar):Bool:=tf l.length (aen l)&&decide ((l.length:Int)<=64)
def B7(v:Int)(nn:List Int)(l:List PVar):Bool:=decide (v≥0)&&decide (v<l.length)&&(l.getD v.toNat default).t==2&&aal nn v
def F0(s:ByteArray)(j:Nat):Bool:=!(decide (((bAt s j).toNat:Int)<32)||decide (((bAt s j).toNat:Int)>126))
def yn(x:PTest):Bool:=tf x.s.size (F0 x.s)&&(decide (x.kd≥0)&&decide (x.kd<=3)&&decide ((x.s.size:Int)<=16))
def adj(p:List (Int×Int))(nn:List Int)(l:List PVar)(j:Nat):Bool:=B7 (p.getD j default).1 nn l&&B7 (p.getD j default).2 nn l&&decide ((p.getD j default).1<(p.getD j default).2)
def Jt(p:List (Int×Int))(nn:List Int)(l:List PVar):Bool:=tf p.length (adj p nn l)
def ala(v:Int)(hv:v≠-9223372036854775808)(h1:-9223372036854775808<=v)(h2:v<=9223372036854775807):jz prog 194 [vI v] (vI (ci v)):=by refine PRet.eq (ovT [] [] func194 rfl rfl ?_);apply cB<;>intro h0;refine OpG.lk (lP rfl (fun _ _=>nofun) (fun _=>rfl)) ?_;refine rV rfl rfl ?_;refine w7 ?_;rw[Go.IntWalk.i64_in _ (by omega)];unfold ci;rw[a0d (a0f h0)];omega;refine rV rfl rfl ?_;refine w7 ?_;unfold ci;rw[a0c (a0e h0)]
def au4(v lo hi:Int):jz prog 148 [vI v,vI lo,vI hi] (vB (wiB v lo hi)):=by
 refine PRet.eq (ovT [] [] func148 rfl rfl ?_);apply cB<;>intro hg10
 ·refine rV rfl rfl ?_;refine br ?_;simp_all [wiB];try(intros;omega)
 refine rV rfl rfl ?_;refine br ?_;simp_all [wiB];try(intros;omega)
def ava(x:PVar):jz prog 144 [.agg (vA x)] (vB (I6 x)):=by
 refine PRet.eq (ovT [] [] func144 rfl rfl ?_);apply cB<;>intro hc5
 ·apply cB<;>intro hg9
  ·apply cB<;>intro hg16
   ·apply cB<;>intro hg21
    ·refine rV rfl rfl ?_;refine br ?_;unfold I6;simp_all;try(intros;omega)
    refine rV rfl rfl ?_;refine br ?_;unfold I6;simp_all;try(intros;omega)
   refine cF (rV rfl rfl ?_);refine br ?_;unfold I6;simp_all;try(intros;omega)
  refine cF (cF ?_);refine rV rfl rfl ?_;refine br ?_;unfold I6;simp_all;try(intros;omega)
 apply cB<;>intro hg29
 ·apply cB<;>intro hg34
  ·apply cB<;>intro hg39
   ·apply cB<;>intro hg44
    ·refine rV rfl rfl ?_;refine br ?_;unfold I6;simp_all;try(intros;omega)
    refine rV rfl rfl ?_;refine br ?_;unfold I6;simp_all;try(intros;omega)
   refine cF (rV rfl rfl ?_);refine br ?_;unfold I6;simp_all;try(intros;omega)
  refine cF (cF ?_);refine rV rfl rfl ?_;refine br ?_;unfold I6;simp_all;try(intros;omega)
 refine cF (cF ?_);refine cF (rV rfl rfl ?_);refine br ?_;unfold I6;simp_all;try(intros;omega)
def ax5(l:List PVar)(hl:l.length<=1000000000):jz prog 88 [vsA l] (vB (aeo l)):=by refine PRet.eq (ovT [] [] func88 rfl rfl ?_);refine LpG.loop (fun n s=>∃k:Nat,n=(l.length-k)/\s=⟨fL [(0,vsA l),(3,vI k)],hLz [],0⟩/\(k<=l.length/\∀j,j<k->aen l j=true)) (n:=(l.length-0)) (s1:=⟨fL [(0,vsA l),(3,vI 0)],hLz [],0⟩) (cnR rfl) ⟨0,rfl,rfl,⟨a0h _,fun j h=>absurd h (a0i j)⟩⟩ ?_;rintro n s ⟨k,rfl,rfl,h1⟩;obtain⟨hk,hj⟩:=h1;try refine LenG.of ?_;apply cL<;>intro h0;refine IdxG.of (by first|assumption|omega|decide) ?_;refine ArgG.mk (PRet.of_call ((ava l[k]))) rfl ?_;rintro _ rfl;apply cB<;>intro hc15;refine rV rfl rfl ?_;refine br ?_;unfold aeo;rw[dm h0 (by simp only[aen,cg h0];simp_all)];rfl;refine⟨by omega,?_⟩;refine⟨(l.length-(k+1)),⟨fL [(0,vsA l),(3,vI (((k+1):Nat):Int))],hLz [],0⟩,by omega,(cnR rfl),(k+1),rfl,rfl,?_⟩;refine⟨by omega,fun j h=>?_⟩;rcases a0k.1 h with h|rfl;exact hj j h;simp only[aen,cg h0];simp_all;try refine LenG.of ?_;refine rV rfl rfl ?_;refine br ?_;unfold aeo;rw[dj hk h0 hj];rfl
def sz3:am prog 3=some 1:=by kernel_rfl
def xa:am prog 109=some 5:=by kernel_rfl
def Yw(v:Int)(c:PCl)(l:List PVar)(hn:c.nn.length<=1000000000)(hl:l.length<=1000000000):jz prog 146 [vI v,.agg (clA c),vsA l] (vB (B7 v c.nn l)):=by
 refine PRet.eq (ovT [18] [] func146 rfl rfl ?_);apply cB<;>intro h4
 ·try refine LenG.of ?_;apply cB<;>intro h2
  ·have h0:0<=v:=by simpa using h4
   have h1:v<l.length:=by simpa using h2
   obtain⟨j,hj⟩:=Int.eq_ofNat_of_zero_le h0;have h3:j<l.length:=by omega
   have ev:l.getD v.toNat default=l[j]:=by rw[hj];simp[List.getD,h3]
   refine OpG.lk (ah underlying54 xa rfl rfl hj h3) ?_;apply cB<;>intro hg23
   ·refine ArgG.mk (PRet.of_call ((aqc c.nn v hn))) rfl ?_;rintro _ rfl;refine⟨.inr rfl,_,oV rfl rfl rfl rfl,?_⟩;refine br ?_;first|(simp only[B7,ev];simp_all;done)|(simp only[B7];simp_all;done)|(simp only[B7];simp_all;intros;omega)
   ·refine⟨.inr rfl,_,oV rfl rfl rfl rfl,?_⟩;refine br ?_;first|(simp only[B7,ev];simp_all;done)|(simp only[B7];simp_all;done)|(simp only[B7];simp_all;intros;omega)
  ·refine cF ?_;refine⟨.inr rfl,_,oV rfl rfl rfl rfl,?_⟩;refine br ?_;first|(simp only[B7,ev];simp_all;done)|(simp only[B7];simp_all;done)|(simp only[B7];simp_all;intros;omega)
 ·refine cF ?_;refine cF ?_;refine⟨.inr rfl,_,oV rfl rfl rfl rfl,?_⟩;refine br ?_;first|(simp only[B7,ev];simp_all;done)|(simp only[B7];simp_all;done)|(simp only[B7];simp_all;intros;omega)
def avp(x:PTest)(hl:x.s.size<=1000000000):jz prog 149 [.agg (teA x)] (vB (yn x)):=by
 refine PRet.eq (ovT [] [] func149 rfl rfl ?_);refine LpG.loop (fun n s=>∃k:Nat,n=(x.s.size-k)/\s=⟨fL [(1,.ptr 0 0 0),(3,vI k)],hLz [(0,⟨0,teA x,0,false⟩)],1⟩/\(k<=x.s.size/\∀j,j<k->F0 x.s j=true)) (n:=(x.s.size-0)) (s1:=⟨fL [(1,.ptr 0 0 0),(3,vI 0)],hLz [(0,⟨0,teA x,0,false⟩)],1⟩) (cnR rfl) ⟨0,rfl,rfl,⟨a0h _,fun j h=>absurd h (a0i j)⟩⟩ ?_;rintro n s ⟨k,rfl,rfl,h2⟩;obtain⟨hk,hj⟩:=h2;apply cB<;>intro h3
 ·have h1:k<x.s.size:=Int.ofNat_lt.1 (a0f h3);refine⟨(by first|assumption|omega|exact Nat.lt_of_lt_of_le Nat.zero_lt_one (by omega)),?_⟩;apply cB<;>intro hg16
  ·refine cT ?_;refine⟨.inr rfl,_,oV rfl rfl rfl rfl,?_⟩;first|(refine br ?_;unfold yn;rw[dm h1 (by simp only[F0];simp_all)];rfl)|(refine br ?_;unfold yn;rw[dj hk h0 hj];simp_all;done)|(refine br ?_;unfold yn;rw[dj hk h0 hj];simp_all;intros;omega)
  ·refine⟨(by first|assumption|omega|exact Nat.lt_of_lt_of_le Nat.zero_lt_one (by omega)),?_⟩;apply cB<;>intro hc22
   ·refine⟨.inr rfl,_,oV rfl rfl rfl rfl,?_⟩;first|(refine br ?_;unfold yn;rw[dm h1 (by simp only[F0];simp_all)];rfl)|(refine br ?_;unfold yn;rw[dj hk h0 hj];simp_all;done)|(refine br ?_;unfold yn;rw[dj hk h0 hj];simp_all;intros;omega)
   refine⟨by omega,?_⟩;refine⟨(x.s.size-(k+1)),⟨fL [(1,.ptr 0 0 0),(3,vI (((k+1):Nat):Int))],hLz [(0,⟨0,teA x,0,false⟩)],1⟩,by omega,(cnR rfl),(k+1),rfl,rfl,?_⟩;refine⟨by omega,fun j h=>?_⟩;rcases a0k.1 h with h|rfl;exact hj j h;simp only[F0];simp_all
 ·have h0:¬k<x.s.size:=fun h=>a0e h3 (Int.ofNat_lt.2 h);apply cB<;>intro hg26
  ·apply cB<;>intro hg31
   ·refine⟨.inr rfl,_,oV rfl rfl rfl rfl,?_⟩;first|(refine br ?_;unfold yn;rw[dm h1 (by simp only[F0];simp_all)];rfl)|(refine br ?_;unfold yn;rw[dj hk h0 hj];simp_all;done)|(refine br ?_;unfold yn;rw[dj hk h0 hj];simp_all;intros;omega)
   ·refine⟨.inr rfl,_,oV rfl rfl rfl rfl,?_⟩;first|(refine br ?_;unfold yn;rw[dm h1 (by simp only[F0];simp_all)];rfl)|(refine br ?_;unfold yn;rw[dj hk h0 hj];simp_all;done)|(refine br ?_;unfold yn;rw[dj hk h0 hj];simp_all;intros;omega)
  ·refine cF ?_;refine⟨.inr rfl,_,oV rfl rfl rfl rfl,?_⟩;first|(refine br ?_;unfold yn;rw[dm h1 (by simp only[F0];simp_all)];rfl)|(refine br ?_;unfold yn;rw[dj hk h0 hj];simp_all;done)|(refine br ?_;unfold yn;rw[dj hk h0 hj];simp_all;intros;omega)
def an8(p:List (Int×Int))(c:PCl)(l:List PVar)(hp:p.length<=1000000000)(hn:c.nn.length<=1000000000)(hl:l.length<=1000000000):jz prog 150 [psA p,.agg (clA c),vsA l] (vB (Jt p c.nn l)):=by
 refine PRet.eq (ovT [] [] func150 rfl rfl (LpG.loop (fun n s=>∃k:Nat,n=(p.length-k)/\s=⟨fL [(0,psA p),(2,vsA l),(4,.ptr 0 0 0),(7,vI k)],hLz [(0,⟨0,clA c,0,false⟩)],1⟩/\(k<=p.length/\∀j,j<k->adj p c.nn l j=true)) (n:=(p.length-0)) (s1:=⟨fL [(0,psA p),(2,vsA l),(4,.ptr 0 0 0),(7,vI 0)],hLz [(0,⟨0,clA c,0,false⟩)],1⟩) (cnR rfl) ⟨0,rfl,rfl,⟨a0h _,fun j h=>absurd h (a0i j)⟩⟩ ?_));rintro n s ⟨k,rfl,rfl,h3⟩;obtain⟨hk,hj⟩:=h3;try refine LenG.of ?_;apply cB<;>intro h1
 ·have h0:k<p.length:=Int.ofNat_lt.1 (a0f h1);first|refine IdxG.of (by first|assumption|omega|decide) ?_|refine⟨(by first|assumption|omega|decide),?_⟩
  refine OpG.lk (m5 underlying145 sz3 rfl rfl rfl) (ArgG.mk (PRet.of_call ((Yw _ c l hn hl))) rfl ?_);rintro _ rfl;refine cB (fun h4=>by refine cT ⟨by kernel_rfl,cT ⟨.inr rfl,_,oV rfl rfl rfl rfl,?_⟩⟩;first|(refine br ?_;unfold Jt;rw[dm h0 (by simp only[adj,cg h0];simp_all)];done)|(refine br ?_;unfold Jt;rw[dj hk h2 hj])) (fun h4=>?_)
  ·first|refine IdxG.of (by first|assumption|omega|decide) ?_|refine⟨(by first|assumption|omega|decide),?_⟩
   refine OpG.lk (m5 underlying145 sz3 rfl rfl rfl) (ArgG.mk (PRet.of_call ((Yw _ c l hn hl))) rfl ?_);rintro _ rfl;refine cB (fun h5=>by refine⟨by kernel_rfl,cT ⟨.inr rfl,_,oV rfl rfl rfl rfl,?_⟩⟩;first|(refine br ?_;unfold Jt;rw[dm h0 (by simp only[adj,cg h0];simp_all)];done)|(refine br ?_;unfold Jt;rw[dj hk h2 hj])) (fun h5=>?_)
   ·first|refine IdxG.of (by first|assumption|omega|decide) ?_|refine⟨(by first|assumption|omega|decide),?_⟩
    refine OpG.lk (m5 underlying145 sz3 rfl rfl rfl) ?_;first|refine IdxG.of (by first|assumption|omega|decide) ?_|refine⟨(by first|assumption|omega|decide),?_⟩
    refine OpG.lk (m5 underlying145 sz3 rfl rfl rfl) ⟨by kernel_rfl,cB (fun h6=>by refine⟨.inr rfl,_,oV rfl rfl rfl rfl,?_⟩;first|(refine br ?_;unfold Jt;rw[dm h0 (by simp only[adj,cg h0];simp_all)];done)|(refine br ?_;unfold Jt;rw[dj hk h2 hj])) (fun h6=>?_)⟩;refine⟨by omega,⟨(p.length-(k+1)),⟨fL [(0,psA p),(2,vsA l),(4,.ptr 0 0 0),(7,vI (((k+1):Nat):Int))],hLz [(0,⟨0,clA c,0,false⟩)],1⟩,by omega,(cnR rfl),(k+1),rfl,rfl,⟨by omega,fun j h=>?_⟩⟩⟩;rcases a0k.1 h with h|rfl;exact hj j h;simp only[adj,cg h0];simp_all
 ·have h2:¬k<p.length:=fun h=>a0e h1 (Int.ofNat_lt.2 h);refine⟨.inr rfl,_,oV rfl rfl rfl rfl,?_⟩;first|(refine br ?_;unfold Jt;rw[dm h0 (by simp only[adj,cg h0];simp_all)];done)|(refine br ?_;unfold Jt;rw[dj hk h2 hj])
section
variable{P:Program}{τ:Nat->AV}{η:bo}{d:Option Tmp}{ty:TypeId}{pos:String}{af:Array Edge}{g:Option (Nat×Bool)}
def Ob{t:Nat}{x:Operand}(hx:aev τ x=vI m)(hy:aev τ y=vI n)(h1:0<=m)(h2:m<=9223372036854775807)(h3:1<=n):
 LOp P ⟨d,.binOp .quo t x y t',ty,pos,af,g⟩ τ η [] [] (vI (m/n)):=
 .look [] fun C a _ h4 _=>by have e1:=h4 x (by simp[Op.operands]);have e2:=h4 y (by simp[Op.operands]);rw[hx]at e1;rw[hy]at e2;refine⟨.int .i64 (m/n),?_,VR.v C _⟩;rw[<-Go.IntWalk.i64_quo m n ⟨h1,h2,h3⟩];have h0:¬(n=0):=(by omega);simp only[execOp,e1.v_inv,e2.v_inv];simp[binOp,Op.intArith,Op.intDiv,eqGuard,h0,Sem.run_bind]
def ji{t:Nat}{x:Operand}(hx:aev τ x=vI m)(hy:aev τ y=vI n)(h1:-9223372036854775808<=m*n)(h2:m*n<=9223372036854775807):
 LOp P ⟨d,.binOp .mul t x y t',ty,pos,af,g⟩ τ η [] [] (vI (m*n)):=
 .look [] fun C a _ h0 _=>by have e1:=h0 x (by simp[Op.operands]);have e2:=h0 y (by simp[Op.operands]);rw[hx]at e1;rw[hy]at e2;refine⟨.int .i64 (m*n),?_,VR.v C _⟩;rw[<-Go.IntWalk.i64_in (m*n) ⟨h1,h2⟩];simp only[execOp,e1.v_inv,e2.v_inv];rfl
end
def fB(f:PLin)(l:List PVar)(bs:List Int)(j:Nat):Int:=if(f.cs.getD j default).v≥l.length then bs.getD ((f.cs.getD j default).v-l.length).toNat 0 else 2147483648
def fS(f:PLin)(l:List PVar)(bs:List Int):Nat->Int
 |0=>ci f.k
 |j+1=>fS f l bs j+ci (f.cs.getD j default).n*fB f l bs j
def H1(f:PLin)(l:List PVar)(bs:List Int)(j:Nat):Bool:=
 decide ((f.cs.getD j default).v<0)||decide ((f.cs.getD j default).v≥(l.length:Int)+bs.length)||(decide (0<j)&&decide ((f.cs.getD (j-1) default).v≥(f.cs.getD j default).v))||(f.cs.getD j default).n==0||!wiB (f.cs.getD j default).n (-1048576) 1048576
def fTy(f:PLin)(nn:List Int)(l:List PVar)(j:Nat):Bool:=decide ((f.cs.getD j default).v<l.length)&&(!((l.getD (f.cs.getD j default).v.toNat default).t==1)||!aal nn (f.cs.getD j default).v)
def fOk(f:PLin)(nn:List Int)(l:List PVar)(bs:List Int)(j:Nat):Bool:=
 !H1 f l bs j&&!fTy f nn l j&&decide (fB f l bs j<=1152921504606846977/ci (f.cs.getD j default).n)&&decide (fS f l bs (j+1)<=1152921504606846977)
def fV(f:PLin)(nn:List Int)(l:List PVar)(bs:List Int):Int:=if wiB f.k (-1099511627777) 1099511627777&&tf f.cs.length (fOk f nn l bs)then fS f l bs f.cs.length else -1
def kr(v:Int):0<=ci v:=by unfold ci;split<;>omega
def axw(h0:∀b∈bs,0<=b/\b<=4611686018427387904)(j:Nat):0<=fB f l bs j:=by unfold fB;split;by_cases h:((f.cs.getD j default).v-l.length).toNat<bs.length;rw[cg h];exact(h0 _ (az4 _)).1;rw[Ut h];exact Int.le_refl 0;omega
theorem Vc{f:PLin}{nn:List Int}{l:List PVar}{bs:List Int}(hw:wiB f.k (-1099511627777) 1099511627777=true)(h0:∀b∈bs,0<=b/\b<=4611686018427387904){k:Nat}(hj:∀j,j<k->fOk f nn l bs j=true):∀i,i<=k->0<=fS f l bs i/\fS f l bs i<=1152921504606846977
 |0,_=>by have h1:=kr f.k;simp only[wiB,a05,a06]at hw;refine⟨h1,?_⟩;show ci f.k<=_;unfold ci;split<;>omega
 |i+1,h=>by have ih:=Vc hw h0 hj i (by omega);have h1:=hj i (by omega);simp only[fOk,a05,a06]at h1;refine⟨?_,h1.2⟩;have h2:=Int.mul_nonneg (kr (f.cs.getD i default).n) (axw (f:=f) (l:=l) h0 i);show 0<=fS f l bs i+ci (f.cs.getD i default).n*fB f l bs i;omega
def fV_k(h:wiB f.k (-1099511627777) 1099511627777=false):-1=fV f nn l bs:=by unfold fV;rw[h];rfl
def Bi(h0:k<f.cs.length)(h:fOk f nn l bs k=false):-1=fV f nn l bs:=by unfold fV;rw[dm h0 h];simp
def aqr(h0:wiB f.k (-1099511627777) 1099511627777=true)(hk:k<=f.cs.length)(h1:¬k<f.cs.length)(hj:∀j,j<k->fOk f nn l bs j=true):fS f l bs k=fV f nn l bs:=by unfold fV;rw[dj hk h1 hj,h0];have:k=f.cs.length:=(by omega);subst this;rfl
def W1:ca prog 194=true:=by kernel_rfl
def W2:ca prog 148=true:=by kernel_rfl
def sz2:am prog 2=some 1:=by kernel_rfl
theorem ad9(f:PLin)(c:PCl)(l:List PVar)(bs:List Int)(hf:f.cs.length<=1000000000)(hn:c.nn.length<=1000000000)(hl:l.length<=1000000000)(hb:bs.length<=1000000000)(he:∀b∈bs,0<=b/\b<=4611686018427387904):jz prog 147 [.agg (liA f),.agg (clA c),vsA l,isA bs] (vI (fV f c.nn l bs)):=by
 refine PRet.eq (ovT [15,19,52,69,83,88,103,104,109,111,112] [] func147 rfl rfl (OpG.lk (LOp.call W2 rfl (au4 f.k (-1099511627777) 1099511627777)) (cB (fun h=>rV rfl rfl (w7 (fV_k (by simpa using h)))) (fun h=>have hw:wiB f.k (-1099511627777) 1099511627777=true:=(by simpa using h);have hc:f.k≠-9223372036854775808/\-9223372036854775808<=f.k/\f.k<=9223372036854775807:=(by simp[wiB]at hw;omega);OpG.lk (LOp.call W1 rfl (ala f.k hc.1 hc.2.1 hc.2.2)) (LpG.loop (fun n s=>∃k:Nat,n=(f.cs.length-k)/\s=⟨fL [(2,vsA l),(3,isA bs),(4,.ptr 0 0 0),(5,.ptr 1 0 0),(9,vI (fS f l bs k)),(10,vI k)],hLz [(0,⟨0,liA f,0,false⟩),(1,⟨0,clA c,0,false⟩)],2⟩/\(k<=f.cs.length/\∀j,j<k->fOk f c.nn l bs j=true)) (n:=(f.cs.length-0)) (s1:=⟨fL [(2,vsA l),(3,isA bs),(4,.ptr 0 0 0),(5,.ptr 1 0 0),(9,vI (fS f l bs 0)),(10,vI 0)],hLz [(0,⟨0,liA f,0,false⟩),(1,⟨0,clA c,0,false⟩)],2⟩) (cnR (by rfl)) ⟨0,rfl,rfl,⟨a0h _,fun j h=>absurd h (a0i j)⟩⟩ ?_)))));rintro n s ⟨k,rfl,rfl,hk,hj⟩;have hd:∀i,i<=k->0<=fS f l bs i/\fS f l bs i<=1152921504606846977:=Vc hw he hj
 have hsk:=hd k (a0j _);refine LenG.of (cL (fun h1=>?_) (fun hg=>?_));rotate_left;exact rV rfl rfl (w7 (aqr hw hk hg hj));have ex:f.cs.getD k default=f.cs[k]:=cg h1
 have hs:fS f l bs (k+1)=fS f l bs k+ci f.cs[k].n*fB f l bs k:=by show fS f l bs k+ci (f.cs.getD k default).n*fB f l bs k=_;rw[ex]
 refine IdxG.of h1 (cB (fun g1=>?_) (fun g1=>LenG.of (LenG.of ⟨by omega,cB (fun g2=>?_) (fun g2=>cB (fun g3=>?_) (fun g3=>cF ?_))⟩)));rotate_left 2;obtain⟨k',hh⟩:∃k',k=k'+1:=⟨k-1,by simp at g3;omega⟩;have ek1:f.cs.getD (k-1) default=f.cs[k']'(by omega):=by rw[show k-1=k' by omega];exact cg (by omega)
 refine OpG.lk (Dv rfl rfl hh (by omega)) (IdxG.of (by omega) (cB (fun g4=>?_) (fun g4=>?_)))
 all_goals first
  |(repeat' first|refine cT ?_|refine⟨rfl,?_⟩);exact rV rfl rfl (w7 (Bi h1 (by simp[fOk,show H1 f l bs k=true by first|(simp only[H1,ex,ek1];simp_all;done)|(simp only[H1,ex];simp_all;done)])))
  |refine cB (fun g5=>?_) (fun g5=>OpG.lk (LOp.call W2 rfl (au4 f.cs[k].n (-1048576) 1048576)) ⟨rfl,cB (fun g6=>?_) (fun g6=>?_)⟩)
   ·exact⟨rfl,cT (rV rfl rfl (w7 (Bi h1 (by simp[fOk,show H1 f l bs k=true by first|(simp only[H1,ex,ek1];simp_all;done)|(simp only[H1,ex];simp_all;done)]))))⟩
   ·exact rV rfl rfl (w7 (Bi h1 (by simp[fOk,show H1 f l bs k=true by first|(simp only[H1,ex,ek1];simp_all;done)|(simp only[H1,ex];simp_all;done)])))
   have h4:H1 f l bs k=false:=by first|(simp only[H1,ex,ek1];simp_all;done)|(simp only[H1,ex];simp_all;done)
   have hx:0<=f.cs[k].v/\f.cs[k].v<(l.length:Int)+bs.length/\f.cs[k].n≠0/\-1048576<=f.cs[k].n/\f.cs[k].n<=1048576:=by
    simp only[H1,ex,wiB,Bool.or_eq_false_iff,decide_eq_false_iff_not,beq_eq_false_iff_ne,Bool.not_eq_false',a05,a06]at h4
    omega
   have ha:1<=ci f.cs[k].n:=by unfold ci;split<;>omega
   refine LenG.of (cD (fun h7=>?_) (fun h7=>?_))
   obtain⟨j,h5⟩:=Int.eq_ofNat_of_zero_le (show 0<=f.cs[k].v-l.length by omega)
   have h6:j<bs.length:=by omega
   have h0:fB f l bs k=bs[j]:=by unfold fB;rw[ex,a0d h7,h5];simp[List.getD,h6]
   have h8:0<=fB f l bs k/\fB f l bs k<=4611686018427387904:=by rw[h0];exact he _ (az4 _)
   have h3:fTy f c.nn l k=false:=by unfold fTy;rw[ex];simp;intro;omega
   refine LenG.of ⟨by omega,OpG.lk (ah underlying180 sz2 rfl rfl h5 h6) ?_⟩
   rotate_left
   obtain⟨j,h5⟩:=Int.eq_ofNat_of_zero_le hx.1
   have h6:j<l.length:=by omega
   have h0:fB f l bs k=2147483648:=by unfold fB;rw[ex,a0c h7]
   have h8:0<=fB f l bs k/\fB f l bs k<=4611686018427387904:=by rw[h0];decide
   have ev:l.getD f.cs[k].v.toNat default=l[j]:=by rw[h5];simp[List.getD,h6]
   refine OpG.lk (ah underlying54 xa rfl rfl h5 h6) ?_
   refine cB (fun g8=>?_) (fun g8=>ArgG.mk (PRet.of_call (aqc c.nn f.cs[k].v hn)) rfl ?_)
   ·refine cT (rV rfl rfl (w7 (Bi h1 ?_)))
    have h3:fTy f c.nn l k=true:=by(simp only[fTy,ex,ev];simp_all;done)
    simp[fOk,h3]
   rintro _ rfl
   apply cB<;>intro g9
   ·refine rV rfl rfl (w7 (Bi h1 ?_))
    have h3:fTy f c.nn l k=true:=by(simp only[fTy,ex,ev];simp_all;done)
    simp[fOk,h3]
   have h3:fTy f c.nn l k=false:=by simp only[fTy,ex,ev];simp_all
   all_goals
    refine OpG.lk (LOp.call W1 rfl (ala f.cs[k].n (by omega) (by omega) (by omega))) (OpG.lk (Ob rfl rfl (by decide) (by decide) ha) (cD (fun hq=>?_) (fun hq=>?_)))
    ·exact rV rfl rfl (w7 (Bi h1 (by rw[<-h0]at hq;simp only[fOk,ex,Bool.and_eq_false_iff,decide_eq_false_iff_not];left;right;omega)))
    have hq:fB f l bs k<=1152921504606846977/ci f.cs[k].n:=by rw[h0];omega
    have hq1:0<=ci f.cs[k].n*fB f l bs k/\ci f.cs[k].n*fB f l bs k<=1152921504606846977:=⟨Int.mul_nonneg (kr _) h8.1,by have:=Int.mul_le_mul_of_nonneg_left hq (kr f.cs[k].n);have h2:=Int.mul_ediv_self_le (x:=1152921504606846977) (k:=ci f.cs[k].n) (by omega);omega⟩
    refine OpG.lk (LOp.call W1 rfl (ala f.cs[k].n (by omega) (by omega) (by omega))) (OpG.lk (ji rfl rfl (by rw[<-h0];omega) (by rw[<-h0];omega)) (OpG.lk (lJ rfl rfl (by rw[<-h0];omega) (by rw[<-h0];omega)) (cD (fun h9=>?_) (fun h9=>?_))))
    ·exact rV rfl rfl (w7 (Bi h1 (by simp only[fOk,hs,Bool.and_eq_false_iff,decide_eq_false_iff_not];right;rw[h0];omega)))
    refine⟨by omega,(f.cs.length-(k+1)),⟨fL [(2,vsA l),(3,isA bs),(4,.ptr 0 0 0),(5,.ptr 1 0 0),(9,vI (fS f l bs (k+1))),(10,vI (((k+1):Nat):Int))],hLz [(0,⟨0,liA f,0,false⟩),(1,⟨0,clA c,0,false⟩)],2⟩,by omega,(cO (.cons rfl rfl (.cons rfl rfl (.cons rfl rfl (.cons rfl rfl (.cons (by exact w7 (by rw[hs,h0])) rfl (.cons rfl rfl .nil)))))) (.cons rfl rfl rfl (.cons rfl rfl rfl .nil))),(k+1),rfl,rfl,by omega,fun j h=>?_⟩
    rcases a0k.1 h with h|rfl
    ·exact hj j h
    simp only[fOk,h4,h3,Bool.not_false,Bool.true_and,a05,a06];exact⟨by rw[ex];exact hq,by rw[hs,h0];omega⟩
def bV(c:PCl)(l:List PVar)(bs:List Int)(j:Nat):Int:=if(c.aux.getD j default).by_=0 then 16 else fV (c.aux.getD j default).of_ c.nn l bs/(c.aux.getD j default).by_+1
def lr(c:PCl)(l:List PVar):Nat->List Int
 |0=>[]
 |j+1=>lr c l j++[bV c l (lr c l j) j]
theorem kp(c:PCl)(l:List PVar):∀k,(lr c l k).length=k
 |0=>rfl
 |k+1=>by simp[lr,kp c l k]
def Ck(c:PCl)(l:List PVar)(j:Nat):Bool:=
 if(c.aux.getD j default).by_=0 then !(decide (0<((c.aux.getD j default).of_.cs.length:Int))||!((c.aux.getD j default).of_.k==0))&&B7 (c.aux.getD j default).tx c.nn l
 else wiB (c.aux.getD j default).by_ 1 1000&&(c.aux.getD j default).tx==0&&!decide (fV (c.aux.getD j default).of_ c.nn l (lr c l j)<0)
def Yi(c:PCl)(l:List PVar)(j:Nat):Bool:=!decide (fV (c.ints.getD j default).l c.nn l (lr c l c.aux.length)<0)
def Yf(c:PCl)(l:List PVar)(j:Nat):Bool:=yn (c.tests.getD j default)&&B7 (c.tests.getD j default).v c.nn l
def clB(c:PCl)(l:List PVar):Bool:=P2 c.nul l.length&&P2 c.nn l.length&&tf c.aux.length (Ck c l)&&tf c.ints.length (Yi c l)&&tf c.tests.length (Yf c l)&&(Jt c.same c.nn l&&Jt c.diff c.nn l)
structure PCl.Ok(c:PCl):Prop where
 nul:c.nul.length<=1000000000
 nn:c.nn.length<=1000000000
 aux:c.aux.length<=1000000000
 ints:c.ints.length<=1000000000
 tests:c.tests.length<=1000000000
 same:c.same.length<=1000000000
 diff:c.diff.length<=1000000000
 auxc:∀a∈c.aux,a.of_.cs.length<=1000000000
 intc:∀a∈c.ints,a.l.cs.length<=1000000000
 tes:∀a∈c.tests,a.s.size<=1000000000
def aqq(h0:∀b∈bs,0<=b/\b<=4611686018427387904):fV f nn l bs<=1152921504606846977:=by unfold fV;split;rename_i h;simp only[a05]at h;exact(Vc h.1 h0 (ii.1 h.2) _ (a0j _)).2;omega
theorem zp{c:PCl}{l:List PVar}:∀k,(∀j,j<k->Ck c l j=true)->∀b∈lr c l k,0<=b/\b<=4611686018427387904
 |0,_,b,hb=>by cases hb
 |k+1,h,b,hb=>by have ih:=zp k (fun j hj=>h j (by omega));rcases a0a.1 hb with hb|hb;exact ih b hb;simp only[az9]at hb;subst hb;have h1:=h k (by omega);unfold bV;split;omega;rename_i h0;unfold Ck at h1;rw[a0c h0]at h1;simp only[a05,wiB,a06,Bool.not_eq_true',decide_eq_false_iff_not,beq_iff_eq]at h1;have h2:=aqq (f:=(c.aux.getD k default).of_) (nn:=c.nn) (l:=l) ih;have h3:=Int.ediv_le_self (a:=fV (c.aux.getD k default).of_ c.nn l (lr c l k)) (c.aux.getD k default).by_ (by omega);have h4:=Int.ediv_nonneg (a:=fV (c.aux.getD k default).of_ c.nn l (lr c l k)) (b:=(c.aux.getD k default).by_) (by omega) (by omega);omega
def ap{η:bo}{id ver w z len:Nat}{cs news:List AV}(hb:η id=some ⟨w,cs,z,false⟩)(hv:w=ver)(h0:Nat.beq len 0=false)(hc:i6 0 news.length cs=some news):Src η [id] (.sl id ver 0 len) len news:=Src.sl hb hv rfl h0 hc
theorem C8(u:Nat):∀bs:List Int,rn u ((bs.map iA).flatten)=true
 |[]=>rfl
 |b::bs=>by have:=C8 u bs;simpa[iA,rn,AV.lowB]using this
theorem U3:∀bs:List Int,((bs.map iA).flatten).length=bs.length
 |[]=>rfl
 |b::bs=>by have:=U3 bs;simp[iA]at this ⊢;omega
def abl(hlt:k<c.aux.length)(h0:c.aux[k].by_=0):((lr c l k).map iA).flatten++[vI 16]=((lr c l (k+1)).map iA).flatten:=by grind[bV,lr,cg,iA]
def abk(hlt:k<c.aux.length)(h0:¬c.aux[k].by_=0):((lr c l k).map iA).flatten++[vI (fV c.aux[k].of_ c.nn l (lr c l k)/c.aux[k].by_+1)]=((lr c l (k+1)).map iA).flatten:=by grind[bV,lr,fV,cg,iA]
def atb{w z:Nat}{cs cs':List AV}(h:cs=cs'):some (Blk.mk w cs z false)=some (Blk.mk w cs' z false):=by rw[h]
theorem Dz{fp:List Nat}{η:bo}{id:Nat}(h1:id∈fp)(hb:η id=some ⟨k,(bs.map iA).flatten,1,Nat.beq k 0⟩)(hk:bs.length=k):FzP fp η (.sl id k 0 k) (isA bs):=by
 cases k with
 |zero=>
  have h0:bs=[]:=a0y hk
  subst h0
  intro C hg hη x hx
  obtain⟨e,_,_⟩:=hx.slnil_inv ((hη id h1).trans hb) rfl rfl
  subst e
  exact .tree0 (by unfold maxLen;omega)
 |succ k=>exact be (f:=iA) h1 hb rfl rfl rfl rfl hk (fun a _=>⟨rfl,rfl⟩)
def xr(h0:k<c.aux.length)(h:Ck c l k=false):false=clB c l:=by unfold clB;rw[dm h0 h];simp
def aka(h0:k<c.ints.length)(h:Yi c l k=false):false=clB c l:=by unfold clB;rw[dm h0 h];simp
def Wp(h0:k<c.tests.length)(h:Yf c l k=false):false=clB c l:=by unfold clB;rw[dm h0 h];simp
def afj:ca prog 145=true:=by kernel_rfl
def afi:ca prog 146=true:=by kernel_rfl
def afh:ca prog 147=true:=by kernel_rfl
def asq:ca prog 149=true:=by kernel_rfl
def afg:ca prog 150=true:=by kernel_rfl
def by2:(prog.info? 2).map (·.bytes)=some 8:=by kernel_rfl
def zr2:bv prog 2=some (.int .i64 0):=by kernel_rfl
def cl_p(c:PCl)(l:List PVar)(hc:c.Ok)(hl:l.length<=1000000000):jz prog 89 [.agg (clA c),vsA l] (vB (clB c l)):=by
 refine PRet.eq (ovT [15,22,56,67,70,85,86,105,119,130,137,143] [] func89 rfl rfl ?_);try refine LenG.of ?_;refine OpG.lk (LOp.call afj rfl (atz c.nul _ hc.nul)) ?_;apply cB<;>intro hg17
 ·refine cT ?_;refine rV rfl rfl ?_;refine br ?_;unfold clB;simp_all;done
 try refine LenG.of ?_;refine OpG.lk (LOp.call afj rfl (atz c.nn _ hc.nn)) ?_;apply cB<;>intro hc24
 ·refine rV rfl rfl ?_;refine br ?_;unfold clB;simp_all;done
 have h4:P2 c.nul l.length=true/\P2 c.nn l.length=true:=by simp_all
 obtain⟨h6,h7⟩:=h4;refine LpG.via (fun _ h=>bu 5 1 rfl 2 rfl h) ?_;refine LpG.loop (fun n s=>∃k:Nat,n=(c.aux.length-k)/\s=⟨fL [(1,vsA l),(2,.ptr 0 0 0),(5,.sl 1 k 0 k),(6,vI k)],hLz [(0,⟨0,clA c,0,false⟩),(1,⟨k,((lr c l k).map iA).flatten,1,Nat.beq k 0⟩)],2⟩/\(k<=c.aux.length/\∀j,j<k->Ck c l j=true)) (n:=(c.aux.length-0)) (s1:=⟨fL [(1,vsA l),(2,.ptr 0 0 0),(5,.sl 1 0 0 0),(6,vI 0)],hLz [(0,⟨0,clA c,0,false⟩),(1,⟨0,((lr c l 0).map iA).flatten,1,Nat.beq 0 0⟩)],2⟩) (cnS rfl (hpR rfl (hpS (C8 _ _) (by rfl) trivial))) ⟨0,rfl,rfl,⟨a0h _,fun j h=>absurd h (a0i j)⟩⟩ ?_;rintro n s ⟨k,rfl,rfl,h2⟩;obtain⟨hk,hj⟩:=h2;have h5:=hc.aux
 try refine LenG.of ?_;apply cL<;>intro h1
 ·have ea:c.aux.getD k default=c.aux[k]:=cg h1;refine IdxG.of (by first|assumption|omega|decide) ?_;apply cE<;>intro h0
  ·try refine LenG.of ?_;apply cB<;>intro hg45
   ·refine cT ?_;refine cT ?_;exact rV rfl rfl (br (xr h1 (by unfold Ck;rw[ea,a0d h0];simp_all;done)))
   apply cB<;>intro hg51
   ·refine cT ?_;exact rV rfl rfl (br (xr h1 (by unfold Ck;rw[ea,a0d h0];simp_all;done)))
   refine OpG.lk (LOp.call afi rfl (Yw c.aux[k].tx c l hc.nn hl)) ?_;apply cB<;>intro hc58;have h3:Ck c l k=false:=by unfold Ck;rw[ea,a0d h0];simp_all
   exact rV rfl rfl (br (xr h1 h3));have h3:Ck c l k=true:=by unfold Ck;rw[ea,a0d h0];simp_all
   refine OpG.mk _ _ _ 4 (qn (m:=1) (news:=[vI _]) underlying180 sz2 zr2 by2 rfl rfl rfl rfl (by rw[U3,kp,Nat.mul_one]) (ap rfl rfl rfl rfl) (by decide) rfl rfl (by omega) (by omega) (by unfold TV;omega)) rfl rfl ?_;refine⟨by omega,?_⟩;refine⟨(c.aux.length-(k+1)),⟨fL [(1,vsA l),(2,.ptr 0 0 0),(5,.sl 1 (k+1) 0 (k+1)),(6,vI (((k+1):Nat):Int))],hLz [(0,⟨0,clA c,0,false⟩),(1,⟨(k+1),((lr c l (k+1)).map iA).flatten,1,Nat.beq (k+1) 0⟩)],2⟩,by omega,(cnS rfl (hpR rfl (.cons (by exact atb (abl h1 h0)) rfl (C8 _ _) .nil))),(k+1),rfl,rfl,?_⟩;refine⟨by omega,fun j h=>?_⟩;rcases a0k.1 h with h|rfl;exact hj j h;exact h3
  refine OpG.lk (oa [1] afh rfl (fun i h h'=>match i,h with|0,_=>FzP.pure rfl|1,_=>FzP.pure rfl|2,_=>FzP.pure rfl|3,_=>Dz (az9.2 rfl) rfl (kp _ _ _)) (ad9 c.aux[k].of_ c l (lr c l k) (hc.auxc _ (az4 _)) hc.nn hl (by rw[kp];omega) (zp k hj))) ?_;refine OpG.lk (LOp.call W2 rfl (au4 c.aux[k].by_ 1 1000)) ?_;apply cB<;>intro hg72
  ·refine cT ?_;refine cT ?_;exact rV rfl rfl (br (xr h1 (by unfold Ck;rw[ea,a0c h0];simp_all;done)))
  apply cB<;>intro hg77
  ·refine cT ?_;exact rV rfl rfl (br (xr h1 (by unfold Ck;rw[ea,a0c h0];simp_all;done)))
  apply cB<;>intro hc80;have h3:Ck c l k=false:=by unfold Ck;rw[ea,a0c h0];simp_all
  exact rV rfl rfl (br (xr h1 h3));have h3:Ck c l k=true:=by unfold Ck;rw[ea,a0c h0];simp_all
  have hq:=h3;unfold Ck at hq;rw[ea,a0c h0]at hq;simp only[a05,wiB,a06,Bool.not_eq_true',decide_eq_false_iff_not,beq_iff_eq]at hq;have hfle:=aqq (f:=c.aux[k].of_) (nn:=c.nn) (l:=l) (zp k hj)
  have hd1:=Int.ediv_le_self (a:=fV c.aux[k].of_ c.nn l (lr c l k)) c.aux[k].by_ (by omega);have hd2:=Int.ediv_nonneg (a:=fV c.aux[k].of_ c.nn l (lr c l k)) (b:=c.aux[k].by_) (by omega) (by omega)
  refine OpG.lk (Ob rfl rfl (by omega) (by omega) (by omega)) ?_;refine OpG.lk (lJ rfl rfl (by omega) (by omega)) ?_;refine OpG.mk _ _ _ 4 (qn (m:=1) (news:=[vI _]) underlying180 sz2 zr2 by2 rfl rfl rfl rfl (by rw[U3,kp,Nat.mul_one]) (ap rfl rfl rfl rfl) (by decide) rfl rfl (by omega) (by omega) (by unfold TV;omega)) rfl rfl ?_;refine⟨by omega,?_⟩;refine⟨(c.aux.length-(k+1)),⟨fL [(1,vsA l),(2,.ptr 0 0 0),(5,.sl 1 (k+1) 0 (k+1)),(6,vI (((k+1):Nat):Int))],hLz [(0,⟨0,clA c,0,false⟩),(1,⟨(k+1),((lr c l (k+1)).map iA).flatten,1,Nat.beq (k+1) 0⟩)],2⟩,by omega,(cnS rfl (hpR rfl (.cons (by exact atb (abk h1 h0)) rfl (C8 _ _) .nil))),(k+1),rfl,rfl,?_⟩;refine⟨by omega,fun j h=>?_⟩;rcases a0k.1 h with h|rfl;exact hj j h;exact h3
 have hA:tf c.aux.length (Ck c l)=true:=dj hk h1 hj;have h8:k=c.aux.length:=by omega
 subst h8;have h9:=hj
 clear hj hk h1;refine LpG.loop (fun n s=>∃k2:Nat,n=(c.ints.length-k2)/\s=⟨fL [(1,vsA l),(2,.ptr 0 0 0),(5,.sl 1 c.aux.length 0 c.aux.length),(9,vI k2)],hLz [(0,⟨0,clA c,0,false⟩),(1,⟨c.aux.length,((lr c l c.aux.length).map iA).flatten,1,Nat.beq c.aux.length 0⟩)],2⟩/\(k2<=c.ints.length/\∀j,j<k2->Yi c l j=true)) (n:=(c.ints.length-0)) (s1:=⟨fL [(1,vsA l),(2,.ptr 0 0 0),(5,.sl 1 c.aux.length 0 c.aux.length),(9,vI 0)],hLz [(0,⟨0,clA c,0,false⟩),(1,⟨c.aux.length,((lr c l c.aux.length).map iA).flatten,1,Nat.beq c.aux.length 0⟩)],2⟩) (cnS rfl (hpR rfl (hpS (C8 _ _) rfl trivial))) ⟨0,rfl,rfl,⟨a0h _,fun j h=>absurd h (a0i j)⟩⟩ ?_;rintro n s ⟨k2,rfl,rfl,h2⟩;obtain⟨hk,hj⟩:=h2;have h5:=hc.aux
 have hints:=hc.ints;try refine LenG.of ?_;apply cL<;>intro h1;refine IdxG.of (by first|assumption|omega|decide) ?_;refine OpG.lk (oa [1] afh rfl (fun i h h'=>match i,h with|0,_=>FzP.pure rfl|1,_=>FzP.pure rfl|2,_=>FzP.pure rfl|3,_=>Dz (az9.2 rfl) rfl (kp _ _ _)) (ad9 c.ints[k2].l c l (lr c l c.aux.length) (hc.intc _ (az4 _)) hc.nn hl (by rw[kp];omega) (zp c.aux.length h9))) ?_;refine⟨by kernel_rfl,?_⟩;apply cB<;>intro hc106;exact rV rfl rfl (br (aka h1 (by simp only[Yi,cg h1];simp_all)));refine⟨by omega,?_⟩;refine⟨(c.ints.length-(k2+1)),⟨fL [(1,vsA l),(2,.ptr 0 0 0),(5,.sl 1 c.aux.length 0 c.aux.length),(9,vI (((k2+1):Nat):Int))],hLz [(0,⟨0,clA c,0,false⟩),(1,⟨c.aux.length,((lr c l c.aux.length).map iA).flatten,1,Nat.beq c.aux.length 0⟩)],2⟩,by omega,(cnS rfl (hpR rfl (hpS (C8 _ _) rfl trivial))),(k2+1),rfl,rfl,?_⟩;refine⟨by omega,fun j h=>?_⟩;rcases a0k.1 h with h|rfl;exact hj j h;simp only[Yi,cg h1];simp_all;have hB:tf c.ints.length (Yi c l)=true:=dj hk h1 hj
 clear hj hk h1;refine LpG.loop (fun n s=>∃k3:Nat,n=(c.tests.length-k3)/\s=⟨fL [(1,vsA l),(2,.ptr 0 0 0),(10,vI k3)],hLz [(0,⟨0,clA c,0,false⟩)],1⟩/\(k3<=c.tests.length/\∀j,j<k3->Yf c l j=true)) (n:=(c.tests.length-0)) (s1:=⟨fL [(1,vsA l),(2,.ptr 0 0 0),(10,vI 0)],hLz [(0,⟨0,clA c,0,false⟩)],1⟩) (cnR rfl) ⟨0,rfl,rfl,⟨a0h _,fun j h=>absurd h (a0i j)⟩⟩ ?_;rintro n s ⟨k3,rfl,rfl,h2⟩;obtain⟨hk,hj⟩:=h2;have htests:=hc.tests
 try refine LenG.of ?_;apply cL<;>intro h1;refine IdxG.of (by first|assumption|omega|decide) ?_;refine OpG.lk (LOp.call asq rfl (avp c.tests[k3] (hc.tes _ (az4 _)))) ?_;apply cB<;>intro hg121;refine⟨by kernel_rfl,?_⟩;refine cT ?_;exact rV rfl rfl (br (Wp h1 (by simp only[Yf,cg h1];simp_all)));refine IdxG.of (by first|assumption|omega|decide) ?_;refine OpG.lk (LOp.call afi rfl (Yw c.tests[k3].v c l hc.nn hl)) ?_;refine⟨by kernel_rfl,?_⟩;apply cB<;>intro hc132;exact rV rfl rfl (br (Wp h1 (by simp only[Yf,cg h1];simp_all)));refine⟨by omega,?_⟩;refine⟨(c.tests.length-(k3+1)),⟨fL [(1,vsA l),(2,.ptr 0 0 0),(10,vI (((k3+1):Nat):Int))],hLz [(0,⟨0,clA c,0,false⟩)],1⟩,by omega,(cnR rfl),(k3+1),rfl,rfl,?_⟩;refine⟨by omega,fun j h=>?_⟩;rcases a0k.1 h with h|rfl;exact hj j h;simp only[Yf,cg h1];simp_all;refine OpG.lk (LOp.call afg rfl (an8 c.same c l hc.same hc.nn hl)) ?_;apply cB<;>intro hg138
 ·refine OpG.lk (LOp.call afg rfl (an8 c.diff c l hc.diff hc.nn hl)) ?_;refine rV rfl rfl ?_;refine br ?_;unfold clB;rw[h6,h7,hA,hB,dj hk h1 hj];simp_all;done
 refine rV rfl rfl ?_;refine br ?_;unfold clB;simp_all;done
def aj8(p:PPred)(j:Nat):Bool:=clB (p.cls.getD j default) p.vars
def Fh(p:PPred)(n:Int):Bool:=decide (p.tab<0)||p.cols !=n||decide (n<1)||decide (n>p.vars.length)||!aeo p.vars||decide ((p.cls.length:Int)>256)
def Jp(p:PPred)(n:Int):Bool:=!Fh p n&&tf p.cls.length (aj8 p)
structure PPred.Ok(p:PPred):Prop where
 vars:p.vars.length<=1000000000
 cls:p.cls.length<=1000000000
 each:∀c∈p.cls,c.Ok
def ayz:ca prog 88=true:=by kernel_rfl
def ayy:ca prog 89=true:=by kernel_rfl
def awg(p:PPred)(v:Int)(hp:p.Ok):jz prog 38 [.agg (prA p),vI v] (vB (Jp p v)):=by refine PRet.eq (ovT [29,52] [] func38 rfl rfl ?_);apply cB<;>intro hg9;refine cT ?_;refine cT ?_;refine cT ?_;refine cT ?_;refine cT ?_;refine rV rfl rfl ?_;(refine br ?_;unfold Jp;rw[show Fh p v=true by unfold Fh;simp_all];rfl);apply cB<;>intro hg15;refine cT ?_;refine cT ?_;refine cT ?_;refine cT ?_;refine rV rfl rfl ?_;(refine br ?_;unfold Jp;rw[show Fh p v=true by unfold Fh;simp_all];rfl);apply cB<;>intro hg19;refine cT ?_;refine cT ?_;refine cT ?_;refine rV rfl rfl ?_;(refine br ?_;unfold Jp;rw[show Fh p v=true by unfold Fh;simp_all];rfl);try refine LenG.of ?_;apply cB<;>intro hg26;refine cT ?_;refine cT ?_;refine rV rfl rfl ?_;(refine br ?_;unfold Jp;rw[show Fh p v=true by unfold Fh;simp_all];rfl);refine OpG.lk (LOp.call ayz rfl (ax5 p.vars hp.vars)) ?_;apply cB<;>intro hg32;refine cT ?_;refine rV rfl rfl ?_;(refine br ?_;unfold Jp;rw[show Fh p v=true by unfold Fh;simp_all];rfl);try refine LenG.of ?_;apply cB<;>intro hc37;refine rV rfl rfl ?_;(refine br ?_;unfold Jp;rw[show Fh p v=true by unfold Fh;simp_all];rfl);have h0:Fh p v=false:=(by unfold Fh;simp_all);refine LpG.loop (fun n s=>∃k:Nat,n=(p.cls.length-k)/\s=⟨fL [(2,.ptr 0 0 0),(5,vI k)],hLz [(0,⟨0,prA p,0,false⟩)],1⟩/\(k<=p.cls.length/\∀j,j<k->aj8 p j=true)) (n:=(p.cls.length-0)) (s1:=⟨fL [(2,.ptr 0 0 0),(5,vI 0)],hLz [(0,⟨0,prA p,0,false⟩)],1⟩) (cnR rfl) ⟨0,rfl,rfl,⟨a0h _,fun j h=>absurd h (a0i j)⟩⟩ ?_;rintro n s ⟨k,rfl,rfl,h2⟩;obtain⟨hk,hj⟩:=h2;have hcls:=hp.cls;try refine LenG.of ?_;apply cL<;>intro h1;refine IdxG.of (by first|assumption|omega|decide) ?_;refine OpG.lk (LOp.call ayy rfl (cl_p p.cls[k] p.vars (hp.each _ (az4 _)) hp.vars)) ?_;refine⟨by kernel_rfl,?_⟩;apply cB<;>intro hc53;refine rV rfl rfl ?_;(refine br ?_;unfold Jp;rw[h0,dm h1 (by simp only[aj8,cg h1];simp_all)];rfl);refine⟨by omega,?_⟩;refine⟨(p.cls.length-(k+1)),⟨fL [(2,.ptr 0 0 0),(5,vI (((k+1):Nat):Int))],hLz [(0,⟨0,prA p,0,false⟩)],1⟩,by omega,(cnR rfl),(k+1),rfl,rfl,?_⟩;refine⟨by omega,fun j h=>?_⟩;rcases a0k.1 h with h|rfl;exact hj j h;simp only[aj8,cg h1];simp_all;refine rV rfl rfl ?_;(refine br ?_;unfold Jp;rw[h0,dj hk h1 hj];rfl)
abbrev rwA(r:List AV):List AV:=r
abbrev sA(s:ByteArray):List AV:=[.v (.string s)]
structure KL(α:Type) where
 k:Nat
 L:List α
theorem aj:RowF iA 1:=⟨fun _=>rfl,fun _=>rfl,fun _ _=>rfl,fun _ _=>rfl,fun _ _=>rfl,fun _=>rfl⟩
def Gr:RowF sA 1:=⟨fun _=>rfl,fun _=>rfl,fun _ _=>rfl,fun _ _=>rfl,fun _ _=>rfl,fun _=>rfl⟩
abbrev j3(s:ByteArray):Prop:=s.size<=140737488351232
abbrev bn(l:List α)(F:α->Prop):Prop:=l.length<=140737488355328/\∀x∈l,F x
structure GVal where
 c_:Int
 r_:Int
 l_:ByteArray
variable{v:GVal}
abbrev gvA(x:GVal):List AV:=[.v (.int .i64 x.c_),.v (.int .i64 x.r_),.v (.string x.l_)]
structure FitVal(x:GVal):Prop where
 l_:j3 x.l_
instance:Inhabited GVal:=⟨⟨0,0,⟨#[]⟩⟩⟩
structure GEx where
 op_:Int
 n_:ByteArray
 p_:ByteArray
 i_:Int
 j_:GVal
 b_:List (List AV)
abbrev exA(x:GEx):List AV:=[.v (.int .i64 x.op_),.v (.string x.n_),.v (.string x.p_),.v (.int .i64 x.i_),.v (.int .i64 x.j_.c_),.v (.int .i64 x.j_.r_),.v (.string x.j_.l_),.tree 8 (x.b_.map rwA)]
inductive IsEx:List AV->Prop
 |mk (x:GEx) (hn:bn x.b_ (fun _=>True)) (h1:j3 x.n_) (h2:j3 x.p_) (h3:FitVal x.j_) (h:∀r∈x.b_,IsEx r):IsEx (exA x)
structure FitEx(x:GEx):Prop where
 b_:bn x.b_ (fun y=>IsEx y)
 n_:j3 x.n_
 p_:j3 x.p_
 j_:FitVal x.j_
theorem IsEx.ind(H:∀x,FitEx x->(∀r∈x.b_,M r)->M (exA x))(h:IsEx r):M r:=by
 induction h with
 |mk x hn h1 h2 h3 h ih=>exact H x ⟨⟨hn.1,h⟩,h1,h2,h3⟩ ih
theorem jj(h:IsEx r):i6 0 8 (rwA r)=some r:=by
 cases h with
 |mk x hn h1 h2 h3 h=>rfl
theorem kj(h:IsEx r):cj r=true:=by
 cases h with
 |mk x hn h1 h2 h3 h=>rfl
def ki{x:GEx}(h:FitEx x):IsEx (exA x):=.mk x ⟨h.b_.1,fun _ _=>trivial⟩ h.n_ h.p_ h.j_ h.b_.2
theorem IsEx.open_(h:IsEx r):∃x,r=exA x/\FitEx x:=by
 cases h with
 |mk x hn h1 h2 h3 h=>exact⟨x,rfl,⟨⟨hn.1,h⟩,h1,h2,h3⟩⟩
structure GCol where
 p_:ByteArray
 E_:Int
 H_:Int
 G_:Int
 J_:Int
 A_:Bool
variable{T:List GCol}
abbrev yu(x:GCol):List AV:=[.v (.string x.p_),.v (.int .i64 x.E_),.v (.int .i64 x.H_),.v (.int .i64 x.G_),.v (.int .i64 x.J_),.v (.bool x.A_)]
structure FitCol(x:GCol):Prop where
 p_:j3 x.p_
instance:Inhabited GCol:=⟨⟨⟨#[]⟩,0,0,0,0,false⟩⟩
structure GFor where
 d_:List Int
 n_:Int
 K_:Int
abbrev aea(x:GFor):List AV:=[.tree 1 (x.d_.map iA),.v (.int .i64 x.n_),.v (.int .i64 x.K_)]
structure FitFor(x:GFor):Prop where
 d_:bn x.d_ (fun y=>True)
instance:Inhabited GFor:=⟨⟨[],0,0⟩⟩
structure GTab where
 p_:ByteArray
 d_:List GCol
 u_:List (List Int)
 m_:List GFor
 h_:List (List AV)
abbrev jf(x:GTab):List AV:=[.v (.string x.p_),.tree 6 (x.d_.map yu),.tree 1 (x.u_.map (fun l=>[.tree 1 (l.map iA)])),.tree 3 (x.m_.map aea),.tree 8 (x.h_.map rwA)]
structure FitTab(x:GTab):Prop where
 p_:j3 x.p_
 d_:bn x.d_ (fun y=>FitCol y)
 u_:bn x.u_ (fun y=>bn y (fun y=>True))
 m_:bn x.m_ (fun y=>FitFor y)
 h_:bn x.h_ (fun y=>IsEx y)
instance:Inhabited GTab:=⟨⟨⟨#[]⟩,[],[],[],[]⟩⟩
structure GRef where
 d_:List ByteArray
 n_:ByteArray
 x_:List ByteArray
abbrev anv(x:GRef):List AV:=[.tree 1 (x.d_.map sA),.v (.string x.n_),.tree 1 (x.x_.map sA)]
structure FitRef(x:GRef):Prop where
 d_:bn x.d_ (fun y=>j3 y)
 n_:j3 x.n_
 x_:bn x.x_ (fun y=>j3 y)
instance:Inhabited GRef:=⟨⟨[],⟨#[]⟩,[]⟩⟩
structure GDef where
 d_:List GCol
 u_:List (List ByteArray)
 m_:List GRef
 h_:List (List AV)
abbrev ajt(x:GDef):List AV:=[.tree 6 (x.d_.map yu),.tree 1 (x.u_.map (fun l=>[.tree 1 (l.map sA)])),.tree 3 (x.m_.map anv),.tree 8 (x.h_.map rwA)]
structure FitDef(x:GDef):Prop where
 d_:bn x.d_ (fun y=>FitCol y)
 u_:bn x.u_ (fun y=>bn y (fun y=>j3 y))
 m_:bn x.m_ (fun y=>FitRef y)
 h_:bn x.h_ (fun y=>IsEx y)
instance:Inhabited GDef:=⟨⟨[],[],[],[]⟩⟩
structure GSta where
 c_:Int
 n_:ByteArray
 f_:GDef
abbrev Ql(x:GSta):List AV:=[.v (.int .i64 x.c_),.v (.string x.n_),.tree 6 (x.f_.d_.map yu),.tree 1 (x.f_.u_.map (fun l=>[.tree 1 (l.map sA)])),.tree 3 (x.f_.m_.map anv),.tree 8 (x.f_.h_.map rwA),.v (.slice none 0 0),.v (.slice none 0 0),.v (.slice none 0 0),.v (.slice none 0 0),.v (.int .i64 0),.v (.string ⟨#[]⟩),.v (.string ⟨#[]⟩),.v (.int .i64 0),.v (.int .i64 0),.v (.int .i64 0),.v (.string ⟨#[]⟩),.v (.slice none 0 0),.v (.slice none 0 0),.v (.slice none 0 0),.v (.int .i64 0),.v (.string ⟨#[]⟩)]
structure FitSta(x:GSta):Prop where
 n_:j3 x.n_
 f_:FitDef x.f_
instance:Inhabited GSta:=⟨⟨0,⟨#[]⟩,default⟩⟩
structure GTbu where
 p_:ByteArray
 d_:List GCol
abbrev Yh(x:GTbu):List AV:=[.v (.string x.p_),.tree 6 (x.d_.map yu),.unk,.unk,.unk]
structure FitTbu(x:GTbu):Prop where
 p_:j3 x.p_
 d_:bn x.d_ (fun y=>FitCol y)
instance:Inhabited GTbu:=⟨⟨⟨#[]⟩,[]⟩⟩
structure GDfn where
 d_:List GCol
 h_:List (List AV)
abbrev dfnA(x:GDfn):List AV:=[.tree 6 (x.d_.map yu),.v (.slice none 0 0),.v (.slice none 0 0),.tree 8 (x.h_.map rwA)]
structure FitDfn(x:GDfn):Prop where
 d_:bn x.d_ (fun y=>FitCol y)
 h_:bn x.h_ (fun y=>IsEx y)
instance:Inhabited GDfn:=⟨⟨[],[]⟩⟩
structure GStn where
 n_:ByteArray
 f_:GDfn
abbrev amz(x:GStn):List AV:=[.v (.int .i64 0),.v (.string x.n_),.tree 6 (x.f_.d_.map yu),.v (.slice none 0 0),.v (.slice none 0 0),.tree 8 (x.f_.h_.map rwA),.v (.slice none 0 0),.v (.slice none 0 0),.v (.slice none 0 0),.v (.slice none 0 0),.v (.int .i64 0),.v (.string ⟨#[]⟩),.v (.string ⟨#[]⟩),.v (.int .i64 0),.v (.int .i64 0),.v (.int .i64 0),.v (.string ⟨#[]⟩),.v (.slice none 0 0),.v (.slice none 0 0),.v (.slice none 0 0),.v (.int .i64 0),.v (.string ⟨#[]⟩)]
structure FitStn(x:GStn):Prop where
 n_:j3 x.n_
 f_:FitDfn x.f_
instance:Inhabited GStn:=⟨⟨⟨#[]⟩,default⟩⟩
structure KB where
 k:Nat
 b:Bool
def adn{x:GEx}(hx:FitEx x)(j:Nat)(hj:j<x.b_.length):∃a,x.b_[j]=exA a/\FitEx a:=(hx.b_.2 _ (az4 hj)).open_
def aqn(n:Int):PRet prog 54 [vI n,.v (.slice none 0 0)] (fun r=>∃b:Bool,r=vB b/\(b=true->n<=20)):=by
 refine ovT [] [] func54 rfl rfl (LpG.exit ?_);refine cF (cD (fun h0=>?_) (fun h0=>?_))
 ·refine rV rfl rfl ?_;(refine⟨_,rfl,fun hr=>?_⟩;simp_all;try omega;done)
 exact rV rfl rfl bF
def Na(t:GTab)(ht:FitTab t)(l:List Int)(hl:bn l (fun y=>True)):PRet prog 55 [.agg (jf t),.tree 1 (l.map iA)] (fun r=>∃b:Bool,r=vB b/\(b=true->∀x∈l,0<=x/\x<t.d_.length)):=by refine ovT [] [] func55 rfl rfl (LpG.on (fun k0:Nat=>(⟨fL [(1,.tree 1 (l.map iA)),(2,.ptr 0 0 0),(5,vI k0)],hLz [(0,⟨0,jf t,0,false⟩)],1⟩:St)) (fun k0=>(l.length-k0)) (fun k0=>(k0<=l.length/\∀j (hl:j<l.length),j<k0->0<=l[j]/\l[j]<t.d_.length)) 0 (cnR rfl) ⟨a0h _,fun j _ h=>absurd h (a0i j)⟩ ?_);rintro k0 h1;have hgr_k0:l.length<=140737488355328:=hl.1;obtain⟨hle_k0,h0⟩:=h1;refine LenG.of (cL (fun hlt9=>?_) (fun hge9=>?_));refine IdxG.of ‹_› (cD (fun h2=>⟨by kernel_rfl,cT (rV rfl rfl bF)⟩) (fun h2=>IdxG.of ‹_› (LenG.of ⟨by kernel_rfl,cD (fun h3=>rV rfl rfl bF) (fun h3=>⟨by omega,⟨(k0+1),by omega,(cnR rfl),⟨by omega,fun j hl h=>?_⟩⟩⟩)⟩)));rcases a0k.1 h with h|rfl;exact h0 j hl h;exact⟨by simp_all,by simp_all⟩;exact rV rfl rfl ⟨_,rfl,fun _ x hx=>by obtain⟨j,hj,rfl⟩:=a0p hx;exact h0 j hj (by omega)⟩
def Pm(s:ByteArray)(hs:j3 s)(t:ByteArray)(ht:j3 t):PRet prog 201 [.v (.string s),.v (.string t)] (fun r=>∃b:Bool,r=vB b):=by refine ovT [] [] func201 rfl rfl (LpG.on (fun k0:Nat=>(⟨fL [(0,.v (.string s)),(1,.v (.string t)),(5,vI k0)],hLz [],0⟩:St)) (fun k0=>((s.size+1)-k0)) (fun k0=>(k0<=(s.size+1))) 0 (cnR rfl) (a0h _) ?_);rintro k0 h1;have hle_k0:=h1;exact⟨by omega,cB (fun h0=>by have hlt12:k0<s.size+1:=(by have:=a0f h0;omega);have hq12:((k0:Nat):Int)+((t.size:Nat):Int)<=s.size:=a0f h0;exact⟨by omega,OpG.lk (Iq underlying9 rfl rfl rfl (by omega) (by omega) (by omega)) (cB (fun h2=>rV rfl rfl ⟨_,rfl⟩) (fun h2=>⟨by omega,⟨(k0+1),by omega,(cnR rfl),by omega⟩⟩))⟩) (fun h0=>rV rfl rfl ⟨_,rfl⟩)⟩
def ap0:PRet prog 202 [] (fun r=>∃s:ByteArray,r=.v (.string s)/\s.size<=1000):=ovT [] [] func202 rfl rfl (rV rfl rfl ⟨_,rfl,by decide⟩)
def adw(s:ByteArray)(hs:j3 s):PRet prog 159 [.v (.string s)] (fun r=>∃b:Bool,r=vB b):=by refine ovT [] [] func159 rfl rfl (cB (fun h5=>by have hlt7:s.size<1:=Int.ofNat_lt.1 (a0f h5);exact cT (cT (cT (rV rfl rfl ⟨_,rfl⟩)))) (fun h5=>have hge7:¬s.size<1:=fun h=>a0e h5 (Int.ofNat_lt.2 h);cB (fun h1=>by have h6:=a0f h1;exact cT (cT (rV rfl rfl ⟨_,rfl⟩))) (fun h1=>have h6:=a0e h1;⟨(by exact Nat.lt_of_lt_of_le Nat.zero_lt_one (by omega)),cB (fun h7=>cT (rV rfl rfl ⟨_,rfl⟩)) (fun h7=>⟨(by exact Nat.lt_of_lt_of_le Nat.zero_lt_one (by omega)),cB (fun h8=>rV rfl rfl ⟨_,rfl⟩) (fun h8=>LpG.on (fun k0:Nat=>(⟨fL [(0,.v (.string s)),(3,vI k0)],hLz [],0⟩:St)) (fun k0=>(s.size-k0)) (fun k0=>(k0<=s.size)) 0 (cnR rfl) (a0h _) ?_)⟩)⟩)));rintro k0 h9;have hgr_k0:s.size<=140737488355328:=a0m hs (by decide);have hle_k0:=h9;refine cB (fun h2=>by have hlt25:k0<s.size:=Int.ofNat_lt.1 (a0f h2);exact⟨‹_›,cB (fun ha=>⟨‹_›,cB (fun hb=>cT (cF ⟨by omega,⟨(k0+1),by omega,(cnR rfl),by omega⟩⟩)) (fun hb=>⟨‹_›,cB (fun h3=>⟨‹_›,cB (fun h4=>cF ⟨by omega,⟨(k0+1),by omega,(cnR rfl),by omega⟩⟩) (fun h4=>⟨‹_›,cB (fun h0=>rV rfl rfl ⟨_,rfl⟩) (fun h0=>⟨by omega,⟨(k0+1),by omega,(cnR rfl),by omega⟩⟩)⟩)⟩) (fun h3=>cF ⟨‹_›,cB (fun h0=>rV rfl rfl ⟨_,rfl⟩) (fun h0=>⟨by omega,⟨(k0+1),by omega,(cnR rfl),by omega⟩⟩)⟩)⟩)⟩) (fun ha=>cF ⟨‹_›,cB (fun h3=>⟨‹_›,cB (fun h4=>cF ⟨by omega,⟨(k0+1),by omega,(cnR rfl),by omega⟩⟩) (fun h4=>⟨‹_›,cB (fun h0=>rV rfl rfl ⟨_,rfl⟩) (fun h0=>⟨by omega,⟨(k0+1),by omega,(cnR rfl),by omega⟩⟩)⟩)⟩) (fun h3=>cF ⟨‹_›,cB (fun h0=>rV rfl rfl ⟨_,rfl⟩) (fun h0=>⟨by omega,⟨(k0+1),by omega,(cnR rfl),by omega⟩⟩)⟩)⟩)⟩) (fun h2=>have hge25:¬k0<s.size:=fun h=>a0e h2 (Int.ofNat_lt.2 h);ArgG.mk (ap0) rfl ?_);rintro _ ⟨s0,rfl,hs0⟩;refine⟨(by simp only[ByteArray.size_append,ah0];omega),⟨(by simp only[ByteArray.size_append,ah0];omega),ArgG.mk (Pm s0 (by show _<=_;omega) ((((⟨#[32]⟩:ByteArray)++s)++(⟨#[32]⟩:ByteArray))) (by show _<=_;simp only[ByteArray.size_append,ah0];omega)) rfl ?_⟩⟩;rintro _ ⟨b1,rfl⟩;exact rV rfl rfl ⟨_,rfl⟩
def aba(c:GCol)(hc:FitCol c):PRet prog 160 [.agg (yu c)] (fun r=>∃b:Bool,r=vB b/\(b=true->(c.E_=1/\-2147483648<=c.H_/\c.H_<=c.G_/\c.G_<=2147483647/\c.J_=0)\/(c.E_=2/\1<=c.J_/\c.J_<=16/\c.H_=0/\c.G_=0))):=by
 refine ovT [] [] func160 rfl rfl ?_;refine ArgG.mk (adw c.p_ hc.p_) rfl ?_;rintro _ ⟨b0,rfl⟩;apply cB<;>intro hc6;exact rV rfl rfl bF;apply cB<;>intro hf
 ·have hg:(c.E_:Int)=(1:Int):=by simpa using hf
  apply cB<;>intro h0
  ·have h7:=a0f h0;apply cB<;>intro h1
   ·have h8:=a0f h1;apply cB<;>intro h2
    ·have h9:=a0f h2;refine rV rfl rfl ?_;(refine⟨_,rfl,fun hr=>?_⟩;simp_all;try omega;done)
    have h9:=a0e h2;exact rV rfl rfl bF
   have h8:=a0e h1;exact cF (rV rfl rfl bF)
  have h7:=a0e h0;refine cF (cF ?_);exact rV rfl rfl bF
 have hg:¬((c.E_:Int)=(1:Int)):=by simpa using hf
 apply cB<;>intro h3
 ·have ha:(c.E_:Int)=(2:Int):=by simpa using h3
  apply cB<;>intro h4
  ·have hb:=a0f h4;apply cB<;>intro h5
   ·have hd:=a0f h5;apply cB<;>intro h6
    ·have he:(c.H_:Int)=(0:Int):=by simpa using h6
     refine rV rfl rfl ?_;(refine⟨_,rfl,fun hr=>?_⟩;simp_all;try omega;done)
    have he:¬((c.H_:Int)=(0:Int)):=by simpa using h6
    exact rV rfl rfl bF
   have hd:=a0e h5;exact cF (rV rfl rfl bF)
  have hb:=a0e h4;refine cF (cF ?_);exact rV rfl rfl bF
 have ha:¬((c.E_:Int)=(2:Int)):=by simpa using h3
 refine cF (cF ?_);exact cF (rV rfl rfl bF)
theorem toList_inj{a b:ByteArray}(h:a.toList=b.toList):a=b:=by rw[Go.ByteArray.toList_eq,Go.ByteArray.toList_eq]at h;exact ByteArray.ext (Array.toList_inj.1 h)
def Zx{l:List Int}{s:KL ByteArray}(h:s.L.length=s.k/\∀j,j<s.k->∃p:Nat,∃hp:p<T.length,l[j]? =some ((p:Nat):Int)/\s.L[j]? =some T[p].p_){p:Nat}(hp:p<T.length)(hl:l[s.k]? =some ((p:Nat):Int)):
 (s.L++[T[p].p_]).length=s.k+1/\∀j,j<s.k+1->∃p':Nat,∃hp:p'<T.length,l[j]? =some ((p':Nat):Int)/\(s.L++[T[p].p_])[j]? =some T[p'].p_:=by grind
def Zo{l:List ByteArray}{s:KL Int}(h:s.L.length=s.k/\∀j,j<s.k->∃p:Nat,∃hp:p<T.length,s.L[j]? =some ((p:Nat):Int)/\l[j]? =some T[p].p_){p:Nat}(hp:p<T.length)(hl:l[s.k]? =some T[p].p_):
 (s.L++[((p:Nat):Int)]).length=s.k+1/\∀j,j<s.k+1->∃p':Nat,∃hp:p'<T.length,(s.L++[((p:Nat):Int)])[j]? =some ((p':Nat):Int)/\l[j]? =some T[p'].p_:=by grind
def auc(T U:List GCol)(a b:List Int)(j:Nat):Prop:=∃p q:Nat,∃(hp:p<T.length) (hq:q<U.length),a[j]? =some ((p:Nat):Int)/\b[j]? =some ((q:Nat):Int)/\T[p].E_=U[q].E_
def aus(T U:List GCol)(a b:List Int):Prop:=∀j,j<a.length->auc T U a b j
def Qr(T:List GCol)(l:List Int)(L:List ByteArray):Prop:=∀j,j<l.length->∃p:Nat,∃hp:p<T.length,l[j]? =some ((p:Nat):Int)/\L[j]? =some T[p].p_
def Yc(l:List α)(f:α->ByteArray)(nm:ByteArray)(j:Nat)(b:Bool):Prop:=(∀h:j<l.length,b=true->f l[j]=nm)/\(b=false->∀x∈l,f x≠nm)
theorem Yc.yes{l:List α}{f:α->ByteArray}(h:k<l.length)(hc:((f l[k]).toList==nm.toList)=true):Yc l f nm k true:=⟨fun _ _=>toList_inj (beq_iff_eq.1 hc),fun h=>absurd h.symm a04⟩
theorem Yc.no{l:List α}{f:α->ByteArray}{j:Nat}(h:∀j (hl:j<l.length),j<k->f l[j]≠nm)(hk:¬k<l.length):Yc l f nm j false:=by grind[Yc,a0p]
def avk{a b:ByteArray}(h:(a.toList==b.toList)=false):a≠b:=fun e=>by rw[e]at h;simp at h
def Yn{β:Type}(f:α->β)(l:List α):Prop:=∀i j (hi:i<l.length) (hj:j<l.length),f l[i]=f l[j]->i=j
def Yn.of{β:Type}{f:α->β}{l:List α}(h:∀i (hi:i<l.length),∀j (hj:j<l.length),j<i->f l[i]≠f l[j]):Yn f l:=by grind[Yn]
def by3:(prog.info? 3).map (·.bytes)=some 8:=by kernel_rfl
def by9:(prog.info? 9).map (·.bytes)=some 16:=by kernel_rfl
def Rm:am prog 100=some 6:=by kernel_rfl
def sz9:am prog 9=some 1:=by kernel_rfl
def zr3:bv prog 3=some (.int .i64 0):=by kernel_rfl
def zr9:bv prog 9=some (.string ⟨#[]⟩):=by kernel_rfl
def Nh(s:List GTab)(hs:bn s (fun y=>FitTab y))(nm:ByteArray)(hnm:j3 nm):PRet prog 161 [.tree 5 (s.map jf),.v (.string nm)] (fun r=>∃(j:Nat) (b:Bool),r=.tup [vI j,vB b]/\(b=true->j<s.length)/\Yc s (·.p_) nm j b):=by refine ovT [] [] func161 rfl rfl (LpG.on (fun k0:Nat=>(⟨fL [(0,.tree 5 (s.map jf)),(1,.v (.string nm)),(6,vI k0)],hLz [],0⟩:St)) (fun k0=>(s.length-k0)) (fun k0=>(k0<=s.length/\∀j (hl:j<s.length),j<k0->s[j].p_≠nm)) 0 (cnR rfl) ⟨a0h _,fun j _ h=>absurd h (a0i j)⟩ ?_);rintro k0 h1;have hgr_k0:s.length<=140737488355328:=hs.1;obtain⟨hle_k0,h0⟩:=h1;refine LenG.of (cL (fun hlt10=>?_) (fun hge10=>?_));refine IdxG.of ‹_› (cB (fun h2=>rtB rfl rfl ⟨_,_,rfl,fun _=>by assumption,Yc.yes ‹_› ‹_›⟩) (fun h2=>⟨by omega,⟨(k0+1),by omega,(cnR rfl),⟨by omega,fun j hl h=>?_⟩⟩⟩));rcases a0k.1 h with h|rfl;exact h0 j hl h;exact avk ‹_›;exact rtB rfl rfl ⟨0,false,rfl,fun h=>absurd h a04,Yc.no h0 ‹_›⟩
def I8(l:List ByteArray)(hl:bn l (fun y=>j3 y)):PRet prog 162 [.tree 1 (l.map sA)] (fun r=>∃b:Bool,r=vB b/\(b=false->Yn id l)):=by refine ovT [] [] func162 rfl rfl (LpG.on (fun k0:Nat=>(⟨fL [(0,.tree 1 (l.map sA)),(3,vI k0)],hLz [],0⟩:St)) (fun k0=>(l.length-k0)) (fun k0=>(k0<=l.length/\∀i (hi:i<l.length),i<k0->∀j (hj:j<l.length),j<i->l[i]≠l[j])) 0 (cnR rfl) ⟨a0h _,fun j _ h=>absurd h (a0i j)⟩ ?_);rintro k0 h2;have hgr_k0:l.length<=140737488355328:=hl.1;obtain⟨hle_k0,h0⟩:=h2;refine LenG.of (cL (fun hlt8=>?_) (fun hge8=>?_));refine LpG.on (fun k2:Nat=>(⟨fL [(0,.tree 1 (l.map sA)),(3,vI k0),(4,vI k2)],hLz [],0⟩:St)) (fun k2=>(k0-k2)) (fun k2=>(k2<=k0/\∀j (hl:j<l.length),j<k2->l[k0]≠l[j])) 0 (cnR rfl) ⟨a0h _,fun j _ h=>absurd h (a0i j)⟩ ?_;rintro k2 h2;obtain⟨hle_k2,h1⟩:=h2;apply cL<;>intro hlt13;refine IdxG.of ‹_› (IdxG.of (by omega) ⟨by kernel_rfl,cB (fun h3=>rV rfl rfl ⟨_,rfl,fun h=>absurd h.symm a04⟩) (fun h3=>⟨by omega,⟨(k2+1),by omega,(cnR rfl),⟨by omega,fun j hl h=>?_⟩⟩⟩)⟩);rcases a0k.1 h with h|rfl;exact h1 j hl h;exact avk ‹_›;refine⟨by omega,⟨(k0+1),by omega,(cnR rfl),⟨by omega,fun j hl h=>?_⟩⟩⟩;rcases a0k.1 h with h|rfl;exact h0 j hl h;intro j hj hji;exact h1 j hj (by omega);exact rV rfl rfl ⟨_,rfl,fun _=>Yn.of fun i hi j hj h=>h0 i hi (by omega) j hj h⟩
def agu(a:List ByteArray)(ha:bn a (fun y=>j3 y))(b:List ByteArray)(hb:bn b (fun y=>j3 y)):PRet prog 163 [.tree 1 (a.map sA),.tree 1 (b.map sA)] (fun r=>∃b:Bool,r=vB b):=by refine ovT [] [] func163 rfl rfl (LenG.of (LenG.of (cB (fun h0=>by have h1:¬(((a.length:Nat):Int)=((b.length:Nat):Int)):=(by simpa using h0);exact rV rfl rfl ⟨_,rfl⟩) (fun h0=>have h1:((a.length:Nat):Int)=((b.length:Nat):Int):=(by simpa using h0);have hab:a.length=b.length:=(by have h:=h0;simp at h;omega);LpG.on (fun k0:Nat=>(⟨fL [(0,.tree 1 (a.map sA)),(1,.tree 1 (b.map sA)),(5,vI k0)],hLz [],0⟩:St)) (fun k0=>(a.length-k0)) (fun k0=>(k0<=a.length)) 0 (cnR rfl) (a0h _) ?_))));rintro k0 h2;have hgr_k0:a.length<=140737488355328:=ha.1;have hle_k0:=h2;exact LenG.of (cL (fun hlt14=>IdxG.of ‹_› (IdxG.of (by omega) ⟨by kernel_rfl,cB (fun h3=>rV rfl rfl ⟨_,rfl⟩) (fun h3=>⟨by omega,⟨(k0+1),by omega,(cnR rfl),by omega⟩⟩)⟩)) (fun hge14=>rV rfl rfl ⟨_,rfl⟩))
def ap3(a:List Int)(ha:bn a (fun y=>True))(b:List Int)(hb:bn b (fun y=>True)):PRet prog 165 [.tree 1 (a.map iA),.tree 1 (b.map iA)] (fun r=>∃b:Bool,r=vB b):=by refine ovT [] [] func165 rfl rfl (LenG.of (LenG.of (cB (fun h0=>by have h1:¬(((a.length:Nat):Int)=((b.length:Nat):Int)):=(by simpa using h0);exact rV rfl rfl ⟨_,rfl⟩) (fun h0=>have h1:((a.length:Nat):Int)=((b.length:Nat):Int):=(by simpa using h0);have hab:a.length=b.length:=(by have h:=h0;simp at h;omega);LpG.on (fun k0:Nat=>(⟨fL [(0,.tree 1 (a.map iA)),(1,.tree 1 (b.map iA)),(5,vI k0)],hLz [],0⟩:St)) (fun k0=>(a.length-k0)) (fun k0=>(k0<=a.length)) 0 (cnR rfl) (a0h _) ?_))));rintro k0 h2;have hgr_k0:a.length<=140737488355328:=ha.1;have hle_k0:=h2;exact LenG.of (cL (fun hlt14=>IdxG.of ‹_› (IdxG.of (by omega) ⟨by kernel_rfl,cN (fun h3=>rV rfl rfl ⟨_,rfl⟩) (fun h3=>⟨by omega,⟨(k0+1),by omega,(cnR rfl),by omega⟩⟩)⟩)) (fun hge14=>rV rfl rfl ⟨_,rfl⟩))
def Kp(t:GTbu)(ht:FitTbu t)(nm:ByteArray)(hnm:j3 nm):PRet prog 203 [.agg (Yh t),.v (.string nm)] (fun r=>∃(j:Nat) (b:Bool),r=.tup [vI j,vB b]/\(b=true->j<t.d_.length)/\Yc t.d_ (·.p_) nm j b):=by refine ovT [] [] func203 rfl rfl (LpG.on (fun k0:Nat=>(⟨fL [(1,.v (.string nm)),(2,.ptr 0 0 0),(6,vI k0)],hLz [(0,⟨0,Yh t,0,false⟩)],1⟩:St)) (fun k0=>(t.d_.length-k0)) (fun k0=>(k0<=t.d_.length/\∀j (hl:j<t.d_.length),j<k0->t.d_[j].p_≠nm)) 0 (cnR rfl) ⟨a0h _,fun j _ h=>absurd h (a0i j)⟩ ?_);rintro k0 h1;have hgr_k0:t.d_.length<=140737488355328:=ht.d_.1;obtain⟨hle_k0,h0⟩:=h1;refine LenG.of (cL (fun hlt11=>?_) (fun hge11=>?_));refine IdxG.of ‹_› (cB (fun h2=>rtB rfl rfl ⟨_,_,rfl,fun _=>by assumption,Yc.yes ‹_› ‹_›⟩) (fun h2=>⟨by omega,⟨(k0+1),by omega,(cnR rfl),⟨by omega,fun j hl h=>?_⟩⟩⟩));rcases a0k.1 h with h|rfl;exact h0 j hl h;exact avk ‹_›;exact rtB rfl rfl ⟨0,false,rfl,fun h=>absurd h a04,Yc.no h0 ‹_›⟩
def Yv(t:GTbu)(ht:FitTbu t)(u:GTbu)(hu:FitTbu u)(a:List Int)(ha:bn a (fun y=>True))(b:List Int)(hb:bn b (fun y=>True))(h9:∀x∈a,0<=x/\x<t.d_.length)(hc:∀x∈b,0<=x/\x<u.d_.length)(hab:a.length=b.length):PRet prog 166 [.agg (Yh t),.agg (Yh u),.tree 1 (a.map iA),.tree 1 (b.map iA)] (fun r=>∃c:Bool,r=vB c/\(c=true->aus t.d_ u.d_ a b)):=by refine ovT [22,31] [] func166 rfl rfl (LpG.on (fun k0:Nat=>(⟨fL [(2,.tree 1 (a.map iA)),(3,.tree 1 (b.map iA)),(4,.ptr 0 0 0),(5,.ptr 1 0 0),(9,vI k0)],hLz [(0,⟨0,Yh t,0,false⟩),(1,⟨0,Yh u,0,false⟩)],2⟩:St)) (fun k0=>(a.length-k0)) (fun k0=>(k0<=a.length/\∀j (hl:j<a.length),j<k0->auc t.d_ u.d_ a b j)) 0 (cnR rfl) ⟨a0h _,fun j _ h=>absurd h (a0i j)⟩ ?_);rintro k0 h6;have hgr_k0:a.length<=140737488355328:=ha.1;obtain⟨hle_k0,h0⟩:=h6;refine LenG.of (cL (fun h1=>?_) (fun hge13=>?_));have h7:k0<b.length:=(by omega);obtain⟨j1,h2,h3⟩:∃j:Nat,a[k0]=((j:Nat):Int)/\j<t.d_.length:=⟨(a[k0]).toNat,by have:=h9 _ (az4 _:a[k0]∈_);omega,by have:=h9 _ (az4 _:a[k0]∈_);omega⟩;obtain⟨j2,h4,h5⟩:∃j:Nat,b[k0]=((j:Nat):Int)/\j<u.d_.length:=⟨(b[k0]).toNat,by have:=hc _ (az4 _:b[k0]∈_);omega,by have:=hc _ (az4 _:b[k0]∈_);omega⟩;refine IdxG.of ‹_› (OpG.lk (ah underlying22 Rm rfl rfl h2 h3) ?_);refine IdxG.of ‹_› (OpG.lk (ah underlying22 Rm rfl rfl h4 h5) ?_);refine⟨by kernel_rfl,cN (fun h8=>rV rfl rfl bF) (fun h8=>⟨by omega,⟨(k0+1),by omega,(cnR rfl),⟨by omega,fun j hl h=>?_⟩⟩⟩)⟩;rcases a0k.1 h with h|rfl;exact h0 j hl h;exact⟨j1,j2,h3,h5,(az5 h1).trans (congrArg some h2),(az5 h7).trans (congrArg some h4),by simp_all⟩;exact rV rfl rfl ⟨_,rfl,fun _ j hj=>h0 j hj (by omega)⟩
def Zw(t:GTbu)(ht:FitTbu t)(l:List Int)(hl:bn l (fun y=>True))(h8:∀x∈l,0<=x/\x<t.d_.length)(hl2:l.length<=1000):PRet prog 107 [.agg (Yh t),.tree 1 (l.map iA)] (fun r=>∃L:List ByteArray,r=.tree 1 (L.map sA)/\L.length=l.length/\bn L (fun y=>j3 y)/\Qr t.d_ l L):=by refine ovT [20] [] func107 rfl rfl (LpG.via (fun _ h=>bu 5 1 rfl 2 rfl h) ?_);refine LpG.on (fun k0:KL ByteArray=>(⟨fL [(1,.tree 1 (l.map iA)),(2,.ptr 0 0 0),(5,.sl 1 k0.L.length 0 k0.L.length),(6,vI k0.k)],hLz [(0,⟨0,Yh t,0,false⟩),(1,⟨k0.L.length,rF sA k0.L,1,Nat.beq k0.L.length 0⟩)],2⟩:St)) (fun k0=>(l.length-k0.k)) (fun k0=>(k0.k<=l.length/\k0.L.length=k0.k/\(∀x∈k0.L,j3 x)/\(k0.L.length=k0.k/\∀j,j<k0.k->∃p:Nat,∃hp:p<t.d_.length,l[j]? =some ((p:Nat):Int)/\k0.L[j]? =some t.d_[p].p_))) (⟨0,[]⟩:KL ByteArray) (cnS (by rfl) (hpR rfl (hpS (aa Gr _ _) (by rfl) trivial))) ⟨a0h _,rfl,by simp,⟨rfl,fun j h=>absurd h (a0i j)⟩⟩ ?_;rintro k0 h6;have hgr_k0:l.length<=140737488355328:=hl.1;obtain⟨hle_k0,h2,h0,h1⟩:=h6;refine LenG.of (cL (fun h3=>?_) (fun hge10=>?_));obtain⟨j1,h4,h5⟩:∃j:Nat,l[k0.k]=((j:Nat):Int)/\j<t.d_.length:=⟨(l[k0.k]).toNat,by have:=h8 _ (az4 _:l[k0.k]∈_);omega,by have:=h8 _ (az4 _:l[k0.k]∈_);omega⟩;refine IdxG.of ‹_› (OpG.lk (ah underlying22 Rm rfl rfl h4 h5) ?_);refine OpG.mk _ _ _ 3 (ae Gr (a:=(t.d_[j1].p_)) underlying207 sz9 zr9 by9 rfl rfl rfl (ap rfl rfl rfl rfl) rfl (by omega) (by omega) (by unfold TV;omega)) rfl rfl ⟨by kernel_rfl,⟨by omega,?_⟩⟩;refine⟨(⟨k0.k+1,k0.L++[(t.d_[j1].p_)]⟩:KL ByteArray),(nsA ‹_›),(cO (.cons rfl rfl (.cons rfl rfl (.cons (by(rw[az8];rfl)) rfl (.cons rfl rfl .nil)))) (.cons rfl rfl rfl (.cons (by(rw[az8];rfl)) rfl (aa Gr _ _) .nil))),⟨‹_›,by show(_++[_]).length=k0.k+1;rw[az8,h2];rfl,fun y_ h7=>(a0a.1 h7).elim (h0 y_) (fun h7=>by rw[az9.1 h7];exact(ht.d_.2 _ (az4 _)).p_),?_⟩⟩;exact Zx h1 h5 ((az5 h3).trans (congrArg some h4));exact rtA rfl ⟨[1],FzP.rows Gr (az9.2 rfl) rfl⟩ ⟨_,rfl,by omega,⟨by omega,h0⟩,fun j hj=>h1.2 j (by omega)⟩
def xi(t:GTbu)(ht:FitTbu t)(l:List ByteArray)(hl:bn l (fun y=>j3 y))(hl2:l.length<=1000):PRet prog 164 [.agg (Yh t),.tree 1 (l.map sA)] (fun r=>∃(L:List Int) (b:Bool),r=.tup [.tree 1 (L.map iA),vB b]/\bn L (fun _=>True)/\(b=true->L.length=l.length/\∀x∈L,0<=x/\x<t.d_.length)/\(b=true->Qr t.d_ L l)):=by refine ovT [] [] func164 rfl rfl (LpG.via (fun _ h=>bu 6 1 rfl 2 rfl h) (LpG.on (fun k0:KL Int=>(⟨fL [(1,.tree 1 (l.map sA)),(2,.ptr 0 0 0),(6,.sl 1 k0.L.length 0 k0.L.length),(7,vI k0.k)],hLz [(0,⟨0,Yh t,0,false⟩),(1,⟨k0.L.length,rF iA k0.L,1,Nat.beq k0.L.length 0⟩)],2⟩:St)) (fun k0=>(l.length-k0.k)) (fun k0=>(k0.k<=l.length/\k0.L.length=k0.k/\(∀x∈k0.L,True)/\((∀x∈k0.L,0<=x/\x<t.d_.length)/\k0.L.length=k0.k/\∀j,j<k0.k->∃p:Nat,∃hp:p<t.d_.length,k0.L[j]? =some ((p:Nat):Int)/\l[j]? =some t.d_[p].p_))) (⟨0,[]⟩:KL Int) (cnS (by rfl) (hpR rfl (hpS (aa aj _ _) (by rfl) trivial))) ⟨a0h _,rfl,by simp,⟨fun x hx=>absurd hx (by simp),rfl,fun j h=>absurd h (a0i j)⟩⟩ ?_));rintro k0 h4;have hgr_k0:l.length<=140737488355328:=hl.1;obtain⟨hle_k0,h1,hf_k0,h0⟩:=h4;refine LenG.of (cL (fun h2=>?_) (fun hge13=>?_));refine IdxG.of ‹_› (ArgG.mk (Kp t ht (l[k0.k]) (hl.2 _ (az4 _))) rfl ?_);rintro _ ⟨j0,b0,rfl,h7,h8⟩;refine⟨by kernel_rfl,cB (fun h3=>⟨.inr rfl,_,d8 rfl (af6.tmp (ret:=.tree 1 []) ⟨[],FzP.nil⟩) (af6.tmp ⟨[],FzP.pure rfl⟩),⟨[],false,rfl,⟨by simp,fun _ _=>trivial⟩,fun h=>absurd h a04,fun h=>absurd h a04⟩⟩) (fun h3=>OpG.mk _ _ _ 3 (ae aj (a:=((j0:Nat):Int)) underlying53 sz3 zr3 by3 rfl rfl rfl (ap rfl rfl rfl rfl) rfl (by omega) (by omega) (by unfold TV;omega)) rfl rfl ⟨by omega,⟨(⟨k0.k+1,k0.L++[((j0:Nat):Int)]⟩:KL Int),(nsA ‹_›),(cO (.cons rfl rfl (.cons rfl rfl (.cons (by(rw[az8];rfl)) rfl (.cons rfl rfl .nil)))) (.cons rfl rfl rfl (.cons (by(rw[az8];rfl)) rfl (aa aj _ _) .nil))),⟨‹_›,by show(_++[_]).length=k0.k+1;rw[az8,h1];rfl,fun _ _=>trivial,have h5:b0=true:=(by simpa using h3);have h6:=h7 h5;⟨fun x hx=>?_,Zo h0.2 h6 ((az5 h2).trans (congrArg some (h8.1 h6 h5).symm))⟩⟩⟩⟩)⟩;rcases a0a.1 hx with hx|hx;exact h0.1 x hx;rw[az9.1 hx];omega;exact⟨.inr rfl,_,d8 rfl (af6.tmp ⟨[1],FzP.rows aj (az9.2 rfl) rfl⟩) (af6.tmp ⟨[],FzP.pure rfl⟩),⟨_,true,rfl,⟨by omega,fun _ _=>trivial⟩,fun _=>⟨by omega,h0.1⟩,fun _ j hj=>h0.2.2 j (by omega)⟩⟩
def J0(t:GTab)(ht:FitTab t)(l:List Int)(hl:bn l (fun y=>True))(h0:∀x∈l,0<=x/\x<t.d_.length)(h1:l.length<=1000):PRet prog 107 [.agg (jf t),.tree 1 (l.map iA)] (fun r=>∃L:List ByteArray,r=.tree 1 (L.map sA)/\L.length=l.length/\bn L (fun y=>j3 y)/\Qr t.d_ l L):=(Zw ⟨t.p_,t.d_⟩ ⟨ht.p_,ht.d_⟩ l hl h0 h1).wk (.cons (Wk.aggL (.cons .rfl (.cons .rfl (.cons .unk (.cons .unk (.cons .unk .nil)))))) (.cons .rfl .nil))
def Tb(t:GTab)(ht:FitTab t)(l:List ByteArray)(hl:bn l (fun y=>j3 y))(h0:l.length<=1000):PRet prog 164 [.agg (jf t),.tree 1 (l.map sA)] (fun r=>∃(L:List Int) (b:Bool),r=.tup [.tree 1 (L.map iA),vB b]/\bn L (fun _=>True)/\(b=true->L.length=l.length/\∀x∈L,0<=x/\x<t.d_.length)/\(b=true->Qr t.d_ L l)):=(xi ⟨t.p_,t.d_⟩ ⟨ht.p_,ht.d_⟩ l hl h0).wk (.cons (Wk.aggL (.cons .rfl (.cons .rfl (.cons .unk (.cons .unk (.cons .unk .nil)))))) (.cons .rfl .nil))
def Vp{f:α->ByteArray}{l:List α}{L:List ByteArray}(h:Yn id L)(e:L=(l.take k).map f)(hk:l.length<=k):Yn f l:=by rw[a0x hk]at e;subst e;intro i j hi hj he;exact h i j (by simpa using hi) (by simpa using hj) (by simpa using he)
def B5(c:GCol):Prop:=(c.E_=1/\-2147483648<=c.H_/\c.H_<=c.G_/\c.G_<=2147483647/\c.J_=0)\/(c.E_=2/\1<=c.J_/\c.J_<=16/\c.H_=0/\c.G_=0)
def Uc(x:GSta)(hx:FitSta x):PRet prog 108 [.agg (Ql x)] (fun r=>∃b:Bool,r=vB b/\(b=false->(∀c∈x.f_.d_,B5 c)/\(∀f∈x.f_.m_,f.d_.length=f.x_.length/\f.d_.length≠0)/\(∀k∈x.f_.u_,k.length≠0)/\x.f_.d_.length≠0)):=by refine ovT [] [] func108 rfl rfl (ArgG.mk (adw x.n_ hx.n_) rfl ?_);rintro _ ⟨b0,rfl⟩;refine cB (fun hb=>cT (rV rfl rfl ⟨_,rfl,fun h=>absurd h.symm a04⟩)) (fun hb=>LenG.of (cE (fun hd=>rV rfl rfl ⟨_,rfl,fun h=>absurd h.symm a04⟩) (fun hd=>LpG.on (fun k0:Nat=>(⟨fL [(3,.ptr 1 0 0),(4,vI k0)],hLz [(1,⟨0,ajt x.f_,0,false⟩)],2⟩:St)) (fun k0=>(x.f_.d_.length-k0)) (fun k0=>(k0<=x.f_.d_.length/\∀j (hl:j<x.f_.d_.length),j<k0->B5 x.f_.d_[j])) 0 (cnR rfl) ⟨a0h _,fun j _ h=>absurd h (a0i j)⟩ ?_)));rintro k0 h1;have hgr_k0:x.f_.d_.length<=140737488355328:=hx.f_.d_.1;obtain⟨hle_k0,h7⟩:=h1;refine LenG.of (cL (fun hlt23=>?_) (fun hge23=>?_));refine IdxG.of ‹_› (ArgG.mk (aba (x.f_.d_[k0]) (hx.f_.d_.2 _ (az4 _))) rfl ?_);rintro _ ⟨b1,rfl,hh⟩;refine cB (fun ha=>rV rfl rfl ⟨_,rfl,fun h=>absurd h.symm a04⟩) (fun ha=>⟨by omega,⟨(k0+1),by omega,(cnR rfl),⟨by omega,fun j hl h=>?_⟩⟩⟩);rcases a0k.1 h with h|rfl;exact h7 j hl h;exact hh (by simpa using ha);refine LpG.on (fun k2:Nat=>(⟨fL [(3,.ptr 1 0 0),(5,vI k2)],hLz [(1,⟨0,ajt x.f_,0,false⟩)],2⟩:St)) (fun k2=>(x.f_.u_.length-k2)) (fun k2=>(k2<=x.f_.u_.length/\∀j (hl:j<x.f_.u_.length),j<k2->x.f_.u_[j].length≠0)) 0 (cnR rfl) ⟨a0h _,fun j _ h=>absurd h (a0i j)⟩ ?_;rintro k2 h1;have hgr_k2:x.f_.u_.length<=140737488355328:=hx.f_.u_.1;obtain⟨hle_k2,h8⟩:=h1;refine LenG.of (cL (fun hlt37=>?_) (fun hge37=>?_));refine IdxG.of ‹_› (LenG.of (cB (fun h4=>by have he:((x.f_.u_[k2].length:Nat):Int)=(0:Int):=(by simpa using h4);exact rV rfl rfl ⟨_,rfl,fun h=>absurd h.symm a04⟩) (fun h4=>have he:¬(((x.f_.u_[k2].length:Nat):Int)=(0:Int)):=(by simpa using h4);⟨by omega,⟨(k2+1),by omega,(cnR rfl),⟨by omega,fun j hl h=>?_⟩⟩⟩)));rcases a0k.1 h with h|rfl;exact h8 j hl h;have h:=h4;simp at h;intro h2;simp_all;refine LpG.on (fun k4:Nat=>(⟨fL [(3,.ptr 1 0 0),(6,vI k4)],hLz [(1,⟨0,ajt x.f_,0,false⟩)],2⟩:St)) (fun k4=>(x.f_.m_.length-k4)) (fun k4=>(k4<=x.f_.m_.length/\∀j (hl:j<x.f_.m_.length),j<k4->x.f_.m_[j].d_.length=x.f_.m_[j].x_.length/\x.f_.m_[j].d_.length≠0)) 0 (cnR rfl) ⟨a0h _,fun j _ h=>absurd h (a0i j)⟩ ?_;rintro k4 h1;have hgr_k4:x.f_.m_.length<=140737488355328:=hx.f_.m_.1;obtain⟨hle_k4,h9⟩:=h1;refine LenG.of (cL (fun hlt51=>?_) (fun hge51=>?_));refine IdxG.of ‹_› (LenG.of (cB (fun h5=>by have hf:((x.f_.m_[k4].d_.length:Nat):Int)=(0:Int):=(by simpa using h5);exact⟨by kernel_rfl,cT (rV rfl rfl ⟨_,rfl,fun h=>absurd h.symm a04⟩)⟩) (fun h5=>have hf:¬(((x.f_.m_[k4].d_.length:Nat):Int)=(0:Int)):=(by simpa using h5);IdxG.of ‹_› (LenG.of (IdxG.of ‹_› (LenG.of ⟨by kernel_rfl,cB (fun h6=>by have hg:¬(((x.f_.m_[k4].d_.length:Nat):Int)=((x.f_.m_[k4].x_.length:Nat):Int)):=(by simpa using h6);exact rV rfl rfl ⟨_,rfl,fun h=>absurd h.symm a04⟩) (fun h6=>have hg:((x.f_.m_[k4].d_.length:Nat):Int)=((x.f_.m_[k4].x_.length:Nat):Int):=(by simpa using h6);⟨by omega,⟨(k4+1),by omega,(cnR rfl),⟨by omega,fun j hl h=>?_⟩⟩⟩)⟩))))));rcases a0k.1 h with h|rfl;exact h9 j hl h;have h:=h6;have h2:=h5;simp at h h2;exact⟨by omega,by intro h3;simp_all⟩;exact rV rfl rfl ⟨_,rfl,fun _=>⟨fun c hc=>by obtain⟨j,hj,rfl⟩:=a0p hc;exact h7 j hj (by omega),fun c hc=>by obtain⟨j,hj,rfl⟩:=a0p hc;exact h9 j hj (by omega),fun c hc=>by obtain⟨j,hj,rfl⟩:=a0p hc;exact h8 j hj (by omega),by first|omega|(intro h0;simp_all)⟩⟩
def aay(s:List GTab)(hs:bn s (fun y=>FitTab y))(x:GSta)(hx:FitSta x)(hcl:x.f_.d_.length<=1000):PRet prog 109 [.tree 5 (s.map jf),.agg (Ql x)] (fun r=>∃b:Bool,r=vB b/\(b=false->(∀t∈s,t.p_≠x.n_)/\Yn (·.p_) x.f_.d_)):=by refine ovT [] [10] func109 rfl rfl (ArgG.mk (Nh s hs x.n_ hx.n_) rfl ?_);rintro _ ⟨j0,b0,rfl,hj0,h9⟩;apply cB<;>intro h5;exact rV rfl rfl ⟨_,rfl,fun h=>absurd h.symm a04⟩;refine LpG.via (fun _ h=>bu 8 1 rfl 3 rfl h) (LpG.on (fun k0:KL ByteArray=>(⟨fL [(5,.ptr 1 0 0),(8,.sl 2 k0.L.length 0 k0.L.length),(9,vI k0.k)],hLz [(1,⟨0,ajt x.f_,0,false⟩),(2,⟨k0.L.length,rF sA k0.L,1,Nat.beq k0.L.length 0⟩)],3⟩:St)) (fun k0=>(x.f_.d_.length-k0.k)) (fun k0=>(k0.k<=x.f_.d_.length/\k0.L.length=k0.k/\(∀x∈k0.L,j3 x)/\k0.L=(x.f_.d_.take k0.k).map (·.p_))) (⟨0,[]⟩:KL ByteArray) (cnS (by rfl) (hpR rfl (hpS (aa Gr _ _) (by rfl) trivial))) ⟨a0h _,rfl,by simp,rfl⟩ ?_);rintro k0 h0;have hgr_k0:x.f_.d_.length<=140737488355328:=hx.f_.d_.1;obtain⟨hle_k0,h3,h1,h2⟩:=h0;refine LenG.of (cL (fun h4=>?_) (fun hge27=>?_));refine IdxG.of ‹_› (OpG.mk _ _ _ 4 (ae Gr (a:=(x.f_.d_[k0.k].p_)) underlying207 sz9 zr9 by9 rfl rfl rfl (ap rfl rfl rfl rfl) rfl (by omega) (by omega) (by unfold TV;omega)) rfl rfl ?_);refine⟨by omega,⟨(⟨k0.k+1,k0.L++[(x.f_.d_[k0.k].p_)]⟩:KL ByteArray),(nsA ‹_›),(cO (.cons rfl rfl (.cons (by(rw[az8];rfl)) rfl (.cons rfl rfl .nil))) (.cons rfl rfl rfl (.cons (by(rw[az8];rfl)) rfl (aa Gr _ _) .nil))),?_⟩⟩;refine⟨‹_›,by show(_++[_]).length=k0.k+1;rw[az8,h3];rfl,fun y_ h6=>(a0a.1 h6).elim (h1 y_) (fun h6=>by rw[az9.1 h6];exact(hx.f_.d_.2 _ (az4 _)).p_),?_⟩;show _++[_]=_;rw[a0g h4,a0u,<-h2];rfl;refine RegG.via (fun _ h=>bm [2] 8 (.tree 1 (k0.L.map sA)) (FzP.rows Gr (az9.2 rfl) rfl) rfl h) (bh ?_);refine ArgG.mk (I8 k0.L ⟨by omega,h1⟩) rfl ?_;rintro _ ⟨b1,rfl,ha⟩;apply cB<;>intro h7;exact rV rfl rfl ⟨_,rfl,fun h=>absurd h.symm a04⟩;have hb:Yn (·.p_) x.f_.d_:=Vp (ha (by simpa using h7)) h2 (by omega);refine LpG.on (fun k2:Nat=>(⟨fL [(5,.ptr 1 0 0),(10,vI k2)],hLz [(1,⟨0,ajt x.f_,0,false⟩)],3⟩:St)) (fun k2=>(x.f_.u_.length-k2)) (fun k2=>(k2<=x.f_.u_.length)) 0 (cnR rfl) (a0h _) ?_;rintro k2 h0;have hgr_k2:x.f_.u_.length<=140737488355328:=hx.f_.u_.1;have hle_k2:=h0;refine LenG.of (cL (fun hlt45=>?_) (fun hge45=>?_));refine IdxG.of ‹_› (ArgG.mk (I8 (x.f_.u_[k2]) (hx.f_.u_.2 _ (az4 _))) rfl ?_);rintro _ ⟨b2,rfl,hb2⟩;apply cB<;>intro hc53;exact rV rfl rfl ⟨_,rfl,fun h=>absurd h.symm a04⟩;refine LpG.on (fun k4:Nat=>(⟨fL [(5,.ptr 1 0 0),(10,vI k2),(11,vI k4)],hLz [(1,⟨0,ajt x.f_,0,false⟩)],3⟩:St)) (fun k4=>(k2-k4)) (fun k4=>(k4<=k2)) 0 (cnR rfl) (a0h _) ?_;rintro k4 h0;have hle_k4:=h0;apply cL<;>intro hlt56;refine IdxG.of ‹_› (IdxG.of (by omega) ?_);refine ArgG.mk (agu (x.f_.u_[k2]) (hx.f_.u_.2 _ (az4 _)) (x.f_.u_[k4]) (hx.f_.u_.2 _ (az4 _))) rfl ?_;rintro _ ⟨b3,rfl⟩;refine⟨by kernel_rfl,cB (fun h8=>?_) (fun h8=>?_)⟩;exact rV rfl rfl ⟨_,rfl,fun h=>absurd h.symm a04⟩;refine⟨by omega,⟨(k4+1),by omega,(cnR rfl),?_⟩⟩;omega;refine⟨by omega,⟨(k2+1),by omega,(cnR rfl),?_⟩⟩;omega;refine LpG.on (fun k6:Nat=>(⟨fL [(5,.ptr 1 0 0),(12,vI k6)],hLz [(1,⟨0,ajt x.f_,0,false⟩)],3⟩:St)) (fun k6=>(x.f_.m_.length-k6)) (fun k6=>(k6<=x.f_.m_.length)) 0 (cnR rfl) (a0h _) ?_;rintro k6 h0;have hgr_k6:x.f_.m_.length<=140737488355328:=hx.f_.m_.1;have hle_k6:=h0;refine LenG.of (cL (fun hlt74=>?_) (fun hge74=>?_));refine IdxG.of ‹_› (ArgG.mk (I8 (x.f_.m_[k6].d_) (hx.f_.m_.2 _ (az4 _)).d_) rfl ?_);rintro _ ⟨b4,rfl,hb4⟩;apply cB<;>intro hc83;exact rV rfl rfl ⟨_,rfl,fun h=>absurd h.symm a04⟩;refine⟨by omega,⟨(k6+1),by omega,(cnR rfl),?_⟩⟩;omega;exact rV rfl rfl ⟨_,rfl,fun _=>⟨h9.2 (by simpa using h5),hb⟩⟩
structure SmTab(t:GTab):Prop where
 cols:t.d_.length<=20
 keys:t.u_.length<=10
 fors:t.m_.length<=10
 chks:t.h_.length<=10
 key:∀k∈t.u_,k.length<=20
 fcol:∀f∈t.m_,f.d_.length<=20
def ay2:ca prog 53=true:=by kernel_rfl
def oe:ff prog 32=some (some 8):=by kernel_rfl
def aql(x:GEx)(hx:FitEx x)(d:Int)(hd:0<=d/\d<=1000)(ih:∀r∈x.b_,∀d:Int,(0<=d/\d<=1000)->PRet prog 106 [.agg (rwA r),vI d] (fun r=>∃b:Bool,r=vB b)):PRet prog 106 [.agg (exA x),vI d] (fun r=>∃b:Bool,r=vB b):=by have hf1:x.n_.size<=140737488351232:=hx.n_;have hf2:x.p_.size<=140737488351232:=hx.p_;have hf3:x.j_.l_.size<=140737488351232:=hx.j_.l_;refine ovT [40] [] func106 rfl rfl (cE (fun h2=>?_) (fun h2=>?_));refine cT (cT ?_);exact rV rfl rfl ⟨_,rfl⟩;refine LenG.of (cD (fun h0=>?_) (fun h0=>?_));exact cT (rV rfl rfl ⟨_,rfl⟩);refine⟨by omega,⟨by omega,?_⟩⟩;apply cB<;>intro hc28;exact rV rfl rfl ⟨_,rfl⟩;refine LpG.on (fun k0:Nat=>(⟨fL [(1,vI d),(2,.ptr 0 0 0),(5,vI k0)],hLz [(0,⟨0,exA x,0,false⟩)],1⟩:St)) (fun k0=>(x.b_.length-k0)) (fun k0=>(k0<=x.b_.length)) 0 (cnR rfl) (a0h _) ?_;rintro k0 h1;have hgr_k0:x.b_.length<=140737488355328:=hx.b_.1;have hle_k0:=h1;refine LenG.of (cL (fun hlt33=>?_) (fun hge33=>?_));refine IdxG.of ‹_› (OpG.lk (co oe rfl (jj (hx.b_.2 _ (az4 _)))) ?_);refine⟨by omega,ArgG.mk (ih (x.b_[k0]) (az4 _) ((d-1)) (by omega)) (show cj [.agg (rwA x.b_[k0]),vI (d-1)]=true by simp[cj,AV.pureB,kj (hx.b_.2 _ (az4 _))]) ?_⟩;rintro _ ⟨b0,rfl⟩;apply cB<;>intro hc44;exact rV rfl rfl ⟨_,rfl⟩;refine⟨by omega,⟨(k0+1),by omega,(cnR rfl),?_⟩⟩;omega;exact rV rfl rfl ⟨_,rfl⟩
def aqm(r:List AV)(hr:IsEx r)(d:Int)(hd:0<=d/\d<=1000):PRet prog 106 [.agg (rwA r),vI d] (fun r=>∃b:Bool,r=vB b):=IsEx.ind (M:=fun r=>∀d:Int,(0<=d/\d<=1000)->PRet prog 106 [.agg (rwA r),vI d] (fun r=>∃b:Bool,r=vB b)) (fun x hx ih d hd=>aql x hx d hd ih) hr d hd
def ag4(l:List GStn)(hl:bn l (fun y=>FitStn y)):PRet prog 53 [.tree 22 (l.map amz)] (fun r=>∃b:Bool,r=vB b/\(b=true->∀x∈l,x.f_.d_.length<=20/\x.f_.h_.length<=10)):=by refine ovT [126] [] func53 rfl rfl (LpG.on (fun k0:Nat=>(⟨fL [(0,.tree 22 (l.map amz)),(3,vI k0)],hLz [],0⟩:St)) (fun k0=>(l.length-k0)) (fun k0=>(k0<=l.length/\∀j (hl:j<l.length),j<k0->l[j].f_.d_.length<=20/\l[j].f_.h_.length<=10)) 0 (cnR rfl) ⟨a0h _,fun j _ h=>absurd h (a0i j)⟩ ?_);rintro k0 h0;have hgr_k0:l.length<=140737488355328:=hl.1;obtain⟨hle_k0,h1⟩:=h0;refine LenG.of (cL (fun hlt12=>?_) (fun hge12=>?_));refine IdxG.of ‹_› (IdxG.of ‹_› ?_);apply cD<;>intro hq27;refine cT (cT ?_);refine cT (cT ?_);exact rV rfl rfl bF;refine LenG.of (cD (fun h2=>?_) (fun h2=>?_));refine cT (cT ?_);exact cT (rV rfl rfl bF);refine cF (cF ?_);refine LenG.of (cD (fun h3=>?_) (fun h3=>?_));exact rV rfl rfl bF;refine LpG.on (fun k2:Nat=>(⟨fL [(0,.tree 22 (l.map amz)),(3,vI k0),(4,.ptr 0 0 0),(5,vI k2)],hLz [(0,⟨0,dfnA l[k0].f_,0,false⟩)],1⟩:St)) (fun k2=>(l[k0].f_.d_.length-k2)) (fun k2=>(k2<=l[k0].f_.d_.length)) 0 (cnR rfl) (a0h _) ?_;rintro k2 h0;have hgr_k2:l[k0].f_.d_.length<=140737488355328:=(hl.2 _ (az4 _)).f_.d_.1;have hle_k2:=h0;refine LenG.of (cL (fun hlt55=>?_) (fun hge55=>?_));refine IdxG.of ‹_› (cD (fun h4=>?_) (fun h4=>?_));exact rV rfl rfl bF;refine⟨by omega,⟨(k2+1),by omega,(cnR rfl),?_⟩⟩;omega;refine LpG.exit (cF ?_);refine LpG.exit (cF ?_);refine LpG.on (fun k8:Nat=>(⟨fL [(0,.tree 22 (l.map amz)),(3,vI k0),(4,.ptr 0 0 0),(8,vI k8)],hLz [(0,⟨0,dfnA l[k0].f_,0,false⟩)],1⟩:St)) (fun k8=>(l[k0].f_.h_.length-k8)) (fun k8=>(k8<=l[k0].f_.h_.length)) 0 (cnR rfl) (a0h _) ?_;rintro k8 h0;have hgr_k8:l[k0].f_.h_.length<=140737488355328:=(hl.2 _ (az4 _)).f_.h_.1;have hle_k8:=h0;refine LenG.of (cL (fun hlt119=>?_) (fun hge119=>?_));refine IdxG.of ‹_› (OpG.lk (co oe rfl (jj ((hl.2 _ (az4 _)).f_.h_.2 _ (az4 _)))) ?_);refine ArgG.mk (aqm (l[k0].f_.h_[k8]) ((hl.2 _ (az4 _)).f_.h_.2 _ (az4 _)) 4 (by omega)) (show cj [.agg (rwA l[k0].f_.h_[k8]),vI 4]=true by simp[cj,AV.pureB,kj ((hl.2 _ (az4 _)).f_.h_.2 _ (az4 _))]) ?_;rintro _ ⟨b0,rfl⟩;apply cB<;>intro hc128;exact rV rfl rfl bF;refine⟨by omega,⟨(k8+1),by omega,(cnR rfl),?_⟩⟩;omega;refine⟨by omega,⟨(k0+1),by omega,(cnR rfl),?_⟩⟩;refine⟨by omega,fun j hl h=>?_⟩;rcases a0k.1 h with h|rfl;exact h1 j hl h;exact⟨by omega,by omega⟩;exact LenG.of (rV rfl rfl ⟨_,rfl,fun _ x hx=>by obtain⟨j,hj,rfl⟩:=a0p hx;exact h1 j hj (by omega)⟩)
def D9(s:List GTab)(hs:bn s (fun y=>FitTab y)):PRet prog 24 [.tree 5 (s.map jf)] (fun r=>∃b:Bool,r=vB b/\(b=true->s.length<=12/\∀t∈s,SmTab t)):=by refine ovT [37] [] func24 rfl rfl (LpG.on (fun k0:Nat=>(⟨fL [(0,.tree 5 (s.map jf)),(3,vI k0)],hLz [],0⟩:St)) (fun k0=>(s.length-k0)) (fun k0=>(k0<=s.length/\∀j (hl:j<s.length),j<k0->SmTab s[j])) 0 (cnR rfl) ⟨a0h _,fun j _ h=>absurd h (a0i j)⟩ ?_);rintro k0 h0;have hgr_k0:s.length<=140737488355328:=hs.1;obtain⟨hle_k0,h1⟩:=h0;refine LenG.of (cL (fun hlt10=>?_) (fun hge10=>?_));refine IdxG.of ‹_› (LenG.of (cD (fun h4=>cT (cT (rV rfl rfl bF))) (fun h4=>LenG.of (cD (fun h5=>cT (rV rfl rfl bF)) (fun h5=>?_)))));obtain⟨_,⟨b0,rfl,hb⟩,h6⟩:=ag4 [⟨s[k0].p_,⟨s[k0].d_,s[k0].h_⟩⟩] ⟨by simp,fun y hy=>by rw[az9.1 hy];exact⟨(hs.2 _ (az4 _)).p_,⟨(hs.2 _ (az4 _)).d_,(hs.2 _ (az4 _)).h_⟩⟩⟩;refine OpG.lk (oa [1] ay2 rfl (fun i h h'=>match i,h with|0,_=>be (f:=amz) (az9.2 rfl) rfl rfl rfl rfl rfl rfl (fun a _=>⟨rfl,rfl⟩)) h6) (cB (fun h7=>rV rfl rfl bF) (fun h7=>LpG.on (fun k2:Nat=>(⟨fL [(0,.tree 5 (s.map jf)),(3,vI k0),(4,.ptr 0 0 0),(5,vI k2)],hLz [(0,⟨0,jf s[k0],0,false⟩)],2⟩:St)) (fun k2=>(s[k0].u_.length-k2)) (fun k2=>(k2<=s[k0].u_.length/\∀j (hl:j<s[k0].u_.length),j<k2->(s[k0].u_[j].length:Int)<=20)) 0 (cnR rfl) ⟨a0h _,fun j _ h=>absurd h (a0i j)⟩ ?_));rintro k2 h0;have hgr_k2:s[k0].u_.length<=140737488355328:=(hs.2 _ (az4 _)).u_.1;obtain⟨hle_k2,h2⟩:=h0;refine LenG.of (cL (fun hlt44=>?_) (fun hge44=>?_));refine IdxG.of ‹_› (LenG.of (ArgG.mk (aqn ((s[k0].u_[k2].length:Nat):Int)) rfl ?_));rintro _ ⟨b1,rfl,hb1⟩;refine cB (fun h8=>rV rfl rfl bF) (fun h8=>⟨by omega,⟨(k2+1),by omega,(cnR rfl),⟨by omega,fun j hl h=>?_⟩⟩⟩);rcases a0k.1 h with h|rfl;exact h2 j hl h;simp_all;refine LpG.on (fun k4:Nat=>(⟨fL [(0,.tree 5 (s.map jf)),(3,vI k0),(4,.ptr 0 0 0),(6,vI k4)],hLz [(0,⟨0,jf s[k0],0,false⟩)],2⟩:St)) (fun k4=>(s[k0].m_.length-k4)) (fun k4=>(k4<=s[k0].m_.length/\∀j (hl:j<s[k0].m_.length),j<k4->(s[k0].m_[j].d_.length:Int)<=20)) 0 (cnR rfl) ⟨a0h _,fun j _ h=>absurd h (a0i j)⟩ ?_;rintro k4 h0;have hgr_k4:s[k0].m_.length<=140737488355328:=(hs.2 _ (az4 _)).m_.1;obtain⟨hle_k4,h3⟩:=h0;refine LenG.of (cL (fun hlt59=>?_) (fun hge59=>?_));refine IdxG.of ‹_› (LenG.of (ArgG.mk (aqn ((s[k0].m_[k4].d_.length:Nat):Int)) rfl ?_));rintro _ ⟨b2,rfl,hb2⟩;refine cB (fun h9=>rV rfl rfl bF) (fun h9=>⟨by omega,⟨(k4+1),by omega,(cnR rfl),⟨by omega,fun j hl h=>?_⟩⟩⟩);rcases a0k.1 h with h|rfl;exact h3 j hl h;simp_all;refine⟨by omega,⟨(k0+1),by omega,(cnR rfl),⟨by omega,fun j hl h=>?_⟩⟩⟩;rcases a0k.1 h with h|rfl;exact h1 j hl h;have ha:=hb (by simp_all) _ (az9.2 rfl);exact⟨ha.1,by omega,by omega,ha.2,fun k hk=>by obtain⟨j,hj,rfl⟩:=a0p hk;have:=h2 j hj (by omega);omega,fun k hk=>by obtain⟨j,hj,rfl⟩:=a0p hk;have:=h3 j hj (by omega);omega⟩;exact LenG.of (rV rfl rfl ⟨_,rfl,fun hr=>⟨by have:=a0f hr;omega,fun x hx=>by obtain⟨j,hj,rfl⟩:=a0p hx;exact h1 j hj (by omega)⟩⟩)
def Mj(s:ByteArray):Bool:=tf s.size (F0 s)
def jc(s:ByteArray):Bool:=s.toList==(⟨#[]⟩:ByteArray).toList
def B6(v:GVal):Bool:=if v.c_=0 then(v.r_==0&&jc v.l_)else if v.c_=1 then jc v.l_ else if v.c_=2 then(v.r_==0&&Mj v.l_&&decide ((v.l_.size:Int)<=16))else false
theorem Q2(h:B6 v=true):(v.c_=0/\v.r_=0)\/v.c_=1\/(v.c_=2/\v.r_=0/\v.l_.size<=16):=by grind[B6]
def F3(v:GVal):Prop:=(v.c_=0->v.r_=0/\v.l_.toList=[])/\(v.c_=1->v.l_.toList=[])/\(v.c_=2->v.r_=0/\Mj v.l_=true/\v.l_.size<=16)
theorem wg{s:ByteArray}(h:jc s=true):s.toList=[]:=by simp_all [jc]
def Ys(h:B6 v=true):F3 v:=by grind[F3,B6,wg]
inductive IsSh:Nat->List AV->Prop
 |mk {d:Nat} (x:GEx) (h:x.b_.length<=2) (ha:∀r∈x.b_,IsSh d r):IsSh (d+1) (exA x)
inductive HasN:List AV->Prop
 |here (x:GEx) (h:x.op_=1) (hk:x.j_.c_=0):HasN (exA x)
 |sub (x:GEx) (r:List AV) (hr:r∈x.b_) (h:HasN r):HasN (exA x)
theorem au{x y:GEx}(h:exA x=exA y):x=y:=by obtain⟨a,b,c,d,⟨e,f,g⟩,l⟩:=x;obtain⟨a',b',c',d',⟨e',f',g'⟩,l'⟩:=y;simp only[exA,List.cons.injEq,AV.v.injEq,Value.int.injEq,Value.string.injEq,AV.tree.injEq,true_and,and_true]at h;obtain⟨rfl,rfl,rfl,rfl,rfl,rfl,rfl,h⟩:=h;have e:∀z:List (List AV),z.map rwA=z:=fun z=>List.map_id z;rw[e,e]at h;subst h;rfl
theorem pm{x:GEx}:HasN (exA x)↔(x.op_=1/\x.j_.c_=0)\/∃r∈x.b_,HasN r:=by
 constructor
 ·intro h
  generalize e:exA x=r at h
  cases h with
  |here y h hk=>rw[au e];exact .inl ⟨h,hk⟩
  |sub y r hr h=>rw[au e];exact .inr ⟨r,hr,h⟩
 rintro(⟨h,hk⟩|⟨r,hr,h⟩)
 ·exact .here x h hk
 exact .sub x r hr h
section
variable{l:List (List AV)}{A:Prop}{H:List AV->Prop}{b b2:Bool}{k:Nat}
def apc(hi:b=true↔A\/∃j,∃hl:j<l.length,j<k/\H l[j])(hb:b=true):true=true↔A\/∃j,∃hl:j<l.length,j<k+1/\H l[j]:=by grind
def apd(hi:b=true↔A\/∃j,∃hl:j<l.length,j<k/\H l[j])(hb:b=false)(hk:k<l.length)(h2:b2=true↔H l[k]):b2=true↔A\/∃j,∃hl:j<l.length,j<k+1/\H l[j]:=by grind
end
def Nd{x:GEx}{b:Bool}(h1:k<=x.b_.length)(h2:x.b_.length<=k)(hi:b=true↔(x.op_=1/\x.j_.c_=0)\/∃j,∃hl:j<x.b_.length,j<k/\HasN x.b_[j]):b=true↔HasN (exA x):=by grind[pm,az4,a0p]
def Ej(s:ByteArray)(hs:j3 s):PRet prog 114 [.v (.string s)] (fun r=>r=vB (Mj s)):=by refine ovT [] [] func114 rfl rfl (LpG.on (fun k0:Nat=>(⟨fL [(0,.v (.string s)),(3,vI k0)],hLz [],0⟩:St)) (fun k0=>(s.size-k0)) (fun k0=>(k0<=s.size/\∀j (hl:j<s.size),j<k0->F0 s j=true)) 0 (cnR rfl) ⟨a0h _,fun j _ h=>absurd h (a0i j)⟩ ?_);rintro k0 h3;have hgr_k0:s.size<=140737488355328:=a0m hs (by decide);obtain⟨h1,h0⟩:=h3;apply cL<;>intro h2;refine⟨‹_›,cB (fun h4=>?_) (fun h4=>?_)⟩;refine cT (rV rfl rfl ?_);(refine br (Eq.symm (dm h2 ?_));simp only[F0];simp_all);refine⟨‹_›,cB (fun h5=>?_) (fun h5=>?_)⟩;refine rV rfl rfl ?_;(refine br (Eq.symm (dm h2 ?_));simp only[F0];simp_all);refine⟨by omega,⟨(k0+1),by omega,(cnR rfl),?_⟩⟩;refine⟨by omega,fun j hl h=>?_⟩;rcases a0k.1 h with h|rfl;exact h0 j hl h;simp only[F0];simp_all;exact rV rfl rfl (br (Eq.symm (dj h1 h2 (fun j h=>h0 j (by omega) h))))
def Co(v:GVal)(hv:FitVal v):PRet prog 64 [.agg (gvA v)] (fun r=>r=vB (B6 v)):=by
 refine ovT [] [] func64 rfl rfl ?_;apply cB<;>intro h8
 ·have h9:(v.c_:Int)=(0:Int):=by simpa using h8
  apply cB<;>intro h0
  ·have h4:(v.r_:Int)=(0:Int):=by simpa using h0
   refine rV rfl rfl ?_;refine br ?_;unfold B6 jc;simp_all;done
  have h4:¬((v.r_:Int)=(0:Int)):=by simpa using h0
  refine rV rfl rfl ?_;refine br ?_;unfold B6 jc;simp_all;done
 have h9:¬((v.c_:Int)=(0:Int)):=by simpa using h8
 apply cB<;>intro h1
 ·have h5:(v.c_:Int)=(1:Int):=by simpa using h1
  refine rV rfl rfl ?_;refine br ?_;unfold B6 jc;simp_all;done
 have h5:¬((v.c_:Int)=(1:Int)):=by simpa using h1
 apply cB<;>intro h2
 ·have h6:(v.c_:Int)=(2:Int):=by simpa using h2
  apply cB<;>intro h3
  ·have h7:(v.r_:Int)=(0:Int):=by simpa using h3
   refine ArgG.mk (Ej v.l_ hv.l_) rfl ?_;rintro _ rfl;apply cB<;>intro hg30
   ·refine rV rfl rfl ?_;refine br ?_;unfold B6 jc;simp_all;done
   refine rV rfl rfl ?_;refine br ?_;unfold B6 jc;simp_all;done
  have h7:¬((v.r_:Int)=(0:Int)):=by simpa using h3
  refine cF (rV rfl rfl ?_);refine br ?_;unfold B6 jc;simp_all;done
 have h6:¬((v.c_:Int)=(2:Int)):=by simpa using h2
 refine rV rfl rfl ?_;refine br ?_;unfold B6 jc;simp_all;done
def m7(v:GVal)(hv:FitVal v):PRet prog 64 [.agg (gvA v)] (fun r=>∃b:Bool,r=vB b/\(b=true->(v.c_=0/\v.r_=0)\/v.c_=1\/(v.c_=2/\v.r_=0/\v.l_.size<=16))/\(b=true->F3 v)):=(Co v hv).mono fun _ h=>⟨_,h,Q2,Ys⟩
def ag7(x:GEx)(hx:FitEx x)(d:Int)(hd:0<=d/\d<=1000)(ih:∀r∈x.b_,∀d:Int,(0<=d/\d<=1000)->PRet prog 60 [.agg (rwA r),vI d] (fun q=>∃b:Bool,q=vB b/\(b=true->IsSh d.toNat r))):PRet prog 60 [.agg (exA x),vI d] (fun r=>∃b:Bool,r=vB b/\(b=true->IsSh d.toNat (exA x))):=by refine ovT [25] [] func60 rfl rfl (cE (fun h4=>cT (rV rfl rfl bF)) (fun h4=>LenG.of (cD (fun h2=>rV rfl rfl bF) (fun h2=>LpG.on (fun k0:Nat=>(⟨fL [(1,vI d),(2,.ptr 0 0 0),(5,vI k0)],hLz [(0,⟨0,exA x,0,false⟩)],1⟩:St)) (fun k0=>(x.b_.length-k0)) (fun k0=>(k0<=x.b_.length/\∀j (hl:j<x.b_.length),j<k0->IsSh (d-1).toNat x.b_[j])) 0 (cnR rfl) ⟨a0h _,fun j _ h=>absurd h (a0i j)⟩ ?_))));rintro k0 h3;have hgr_k0:x.b_.length<=140737488355328:=hx.b_.1;obtain⟨hle_k0,h0⟩:=h3;refine LenG.of (cL (fun hlt18=>?_) (fun hge18=>?_));refine IdxG.of ‹_› (OpG.lk (co oe rfl (jj (hx.b_.2 _ (az4 _)))) ⟨by omega,ArgG.mk (ih (x.b_[k0]) (az4 _) ((d-1)) (by omega)) (show cj [.agg (rwA x.b_[k0]),vI (d-1)]=true by simp[cj,AV.pureB,kj (hx.b_.2 _ (az4 _))]) ?_⟩);rintro _ ⟨b0,rfl,h5⟩;refine cB (fun h1=>rV rfl rfl bF) (fun h1=>⟨by omega,⟨(k0+1),by omega,(cnR rfl),⟨by omega,fun j hl h=>?_⟩⟩⟩);rcases a0k.1 h with h|rfl;exact h0 j hl h;exact h5 (by simpa using h1);exact rV rfl rfl ⟨_,rfl,fun _=>by rw[show d.toNat=(d-1).toNat+1 by omega];exact .mk _ (by omega) (fun r hr=>by obtain⟨j,hj,rfl⟩:=a0p hr;exact h0 j hj (by omega))⟩
def R4(r:List AV)(hr:IsEx r)(d:Int)(hd:0<=d/\d<=1000):PRet prog 60 [.agg (rwA r),vI d] (fun q=>∃b:Bool,q=vB b/\(b=true->IsSh d.toNat r)):=IsEx.ind (M:=fun r=>∀d:Int,(0<=d/\d<=1000)->PRet prog 60 [.agg (rwA r),vI d] (fun q=>∃b:Bool,q=vB b/\(b=true->IsSh d.toNat r))) (fun x hx ih d hd=>ag7 x hx d hd ih) hr d hd
def ao7(x:GEx)(hx:FitEx x)(ih:∀r∈x.b_,PRet prog 62 [.agg (rwA r)] (fun q=>∃b:Bool,q=vB b/\(b=true↔HasN r))):PRet prog 62 [.agg (exA x)] (fun q=>∃b:Bool,q=vB b/\(b=true↔HasN (exA x))):=by refine ovT [27] [] func62 rfl rfl (cE (fun h7=>?_) (fun h7=>?_));refine LpG.on (fun k0:KB=>(⟨fL [(1,.ptr 0 0 0),(3,vB k0.b),(4,vI k0.k)],hLz [(0,⟨0,exA x,0,false⟩)],1⟩:St)) (fun k0=>(x.b_.length-k0.k)) (fun k0=>(k0.k<=x.b_.length/\(k0.b=true↔(x.op_=1/\x.j_.c_=0)\/∃j,∃hl:j<x.b_.length,j<k0.k/\HasN x.b_[j]))) (⟨0,_⟩:KB) (cnR rfl) ⟨a0h _,(by simp_all)⟩ ?_;rintro k0 h3;have h4:x.b_.length<=140737488355328:=hx.b_.1;obtain⟨h1,h0⟩:=h3;refine LenG.of (cL (fun h2=>?_) (fun h5=>?_));apply cB<;>intro h6;refine⟨by omega,⟨(⟨k0.k+1,_⟩:KB),(nsA ‹_›),(cnR rfl),?_⟩⟩;exact⟨‹_›,apc h0 ‹_›⟩;refine IdxG.of ‹_› (OpG.lk (co oe rfl (jj (hx.b_.2 _ (az4 _)))) ?_);refine ArgG.mk (ih (x.b_[k0.k]) (az4 _)) (show cj [.agg (rwA x.b_[k0.k])]=true by simp[cj,AV.pureB,kj (hx.b_.2 _ (az4 _))]) ?_;rintro _ ⟨b0,rfl,hb0⟩;refine⟨by omega,⟨(⟨k0.k+1,_⟩:KB),(nsA ‹_›),(cnR rfl),?_⟩⟩;exact⟨‹_›,apd h0 ‹_› h2 ‹_›⟩;exact rV rfl rfl ⟨_,rfl,Nd h1 (by omega) h0⟩;refine LpG.on (fun k0:KB=>(⟨fL [(1,.ptr 0 0 0),(3,vB k0.b),(4,vI k0.k)],hLz [(0,⟨0,exA x,0,false⟩)],1⟩:St)) (fun k0=>(x.b_.length-k0.k)) (fun k0=>(k0.k<=x.b_.length/\(k0.b=true↔(x.op_=1/\x.j_.c_=0)\/∃j,∃hl:j<x.b_.length,j<k0.k/\HasN x.b_[j]))) (⟨0,_⟩:KB) (cnR rfl) ⟨a0h _,(by simp_all)⟩ ?_;rintro k0 h3;have h4:x.b_.length<=140737488355328:=hx.b_.1;obtain⟨h1,h0⟩:=h3;refine LenG.of (cL (fun h2=>?_) (fun h5=>?_));apply cB<;>intro h6;refine⟨by omega,⟨(⟨k0.k+1,_⟩:KB),(nsA ‹_›),(cnR rfl),?_⟩⟩;exact⟨‹_›,apc h0 ‹_›⟩;refine IdxG.of ‹_› (OpG.lk (co oe rfl (jj (hx.b_.2 _ (az4 _)))) ?_);refine ArgG.mk (ih (x.b_[k0.k]) (az4 _)) (show cj [.agg (rwA x.b_[k0.k])]=true by simp[cj,AV.pureB,kj (hx.b_.2 _ (az4 _))]) ?_;rintro _ ⟨b1,rfl,hb1⟩;refine⟨by omega,⟨(⟨k0.k+1,_⟩:KB),(nsA ‹_›),(cnR rfl),?_⟩⟩;exact⟨‹_›,apd h0 ‹_› h2 ‹_›⟩;exact rV rfl rfl ⟨_,rfl,Nd h1 (by omega) h0⟩
def At(r:List AV)(hr:IsEx r):PRet prog 62 [.agg (rwA r)] (fun q=>∃b:Bool,q=vB b/\(b=true↔HasN r)):=IsEx.ind (M:=fun r=>PRet prog 62 [.agg (rwA r)] (fun q=>∃b:Bool,q=vB b/\(b=true↔HasN r))) (fun x hx ih=>ao7 x hx ih) hr
inductive TextE(l:List PVar):List AV->Prop
 |mk (x:GEx) (ha:x.b_=[]) (h:(x.op_=2/\∃j,∃h:j<l.length,x.i_=((j:Nat):Int)/\l[j].t=2)\/(x.op_=1/\x.j_.c_=2)):TextE l (exA x)
theorem cr{x:GEx}(h:TextE l (exA x)):x.b_=[]/\((x.op_=2/\∃j,∃h:j<l.length,x.i_=((j:Nat):Int)/\l[j].t=2)\/(x.op_=1/\x.j_.c_=2)):=by
 generalize e:exA x=r at h
 cases h with
 |mk y ha h=>rw[au e];exact⟨ha,h⟩
def agn(v:Int)(kd:Int)(l:List PVar)(hl:bn l (fun y=>True)):PRet prog 167 [vI v,vI kd,.tree 5 (l.map vA)] (fun r=>∃b:Bool,r=vB b/\(b=true->∃j,∃h:j<l.length,v=((j:Nat):Int)/\l[j].t=kd)):=by refine ovT [18] [] func167 rfl rfl ?_;apply cD<;>intro hq9;refine LenG.of (cD (fun h2=>?_) (fun h2=>?_));obtain⟨j1,h0,h1⟩:∃j:Nat,v=((j:Nat):Int)/\j<l.length:=⟨(v).toNat,by omega,by omega⟩;refine OpG.lk (ah underlying54 xa rfl rfl h0 h1) ?_;exact rV rfl rfl ⟨_,rfl,fun hr=>⟨j1,h1,h0,by simpa using hr⟩⟩;exact rV rfl rfl bF;exact cF (rV rfl rfl bF)
def amq(x:GEx)(hx:FitEx x)(l:List PVar)(hl:bn l (fun y=>True)):PRet prog 63 [.agg (exA x),.tree 5 (l.map vA)] (fun q=>∃b:Bool,q=vB b/\(b=true->TextE l (exA x))/\(b=false->¬TextE l (exA x))):=by
 refine ovT [26] [] func63 rfl rfl ?_;refine LenG.of (cB (fun h7=>?_) (fun h7=>?_))
 ·have hc:¬(((x.b_.length:Nat):Int)=(0:Int)):=by simpa using h7
  exact rV rfl rfl ⟨_,rfl,fun h=>absurd h a04,fun _ hh=>by obtain⟨q0,⟨q1,j,hj,q2,q3⟩|⟨q1,q2⟩⟩:=cr hh<;>first|(simp_all;done)|(simp_all;omega)⟩
 have hc:((x.b_.length:Nat):Int)=(0:Int):=by simpa using h7
 have h1:x.b_=[]:=by simpa using h7
 apply cB<;>intro h2
 ·have h8:(x.op_:Int)=(2:Int):=by simpa using h2
  apply cB<;>intro h3
  ·have h9:=a0f h3;refine LenG.of (cB (fun h0=>?_) (fun h0=>?_))
   ·have ha:=a0f h0;obtain⟨j1,h4,h5⟩:∃j:Nat,x.i_=((j:Nat):Int)/\j<l.length:=⟨(x.i_).toNat,by omega,by omega⟩;refine OpG.lk (ah underlying54 xa rfl rfl h4 h5) ?_;exact rV rfl rfl ⟨_,rfl,fun hr=>.mk x h1 (.inl ⟨by assumption,j1,h5,h4,by simpa using hr⟩),fun hr hh=>by obtain⟨q0,⟨q1,j,hj,q2,q3⟩|⟨q1,q2⟩⟩:=cr hh<;>first|omega|((obtain rfl:j=j1:=by omega);simp_all;done)⟩
   have ha:=a0e h0;exact rV rfl rfl ⟨_,rfl,fun h=>absurd h a04,fun _ hh=>by obtain⟨q0,⟨q1,j,hj,q2,q3⟩|⟨q1,q2⟩⟩:=cr hh<;>first|(simp_all;done)|(simp_all;omega)⟩
  have h9:=a0e h3;exact cF (rV rfl rfl ⟨_,rfl,fun h=>absurd h a04,fun _ hh=>by obtain⟨q0,⟨q1,j,hj,q2,q3⟩|⟨q1,q2⟩⟩:=cr hh<;>first|(simp_all;done)|(simp_all;omega)⟩)
 have h8:¬((x.op_:Int)=(2:Int)):=by simpa using h2
 apply cB<;>intro h6
 ·have hb:(x.op_:Int)=(1:Int):=by simpa using h6
  exact rV rfl rfl ⟨_,rfl,fun hr=>.mk x h1 (.inr ⟨by assumption,by simpa using hr⟩),fun hr hh=>by obtain⟨q0,⟨q1,j,hj,q2,q3⟩|⟨q1,q2⟩⟩:=cr hh<;>first|omega|(simp_all;done)⟩
 have hb:¬((x.op_:Int)=(1:Int)):=by simpa using h6
 exact rV rfl rfl ⟨_,rfl,fun h=>absurd h a04,fun _ hh=>by obtain⟨q0,⟨q1,j,hj,q2,q3⟩|⟨q1,q2⟩⟩:=cr hh<;>first|(simp_all;done)|(simp_all;omega)⟩
def tq(r:List AV)(hr:IsEx r)(l:List PVar)(hl:bn l (fun y=>True)):PRet prog 63 [.agg (rwA r),.tree 5 (l.map vA)] (fun q=>∃b:Bool,q=vB b/\(b=true->TextE l r)/\(b=false->¬TextE l r)):=by obtain⟨x,rfl,hx⟩:=hr.open_;exact amq x hx l hl
def ahp(op:Int):PRet prog 111 [vI op] (fun r=>∃p:Int,r=vI p/\(0<=p->10<=op/\op<=15)):=ovT [] [] func111 rfl rfl (ks (ULp.step (cT ⟨(by first|assumption|omega|decide),cB (fun h0=>by have h1:(10:Int)=(op:Int):=(by simpa using h0);exact rV rfl rfl ⟨_,rfl,fun _=>by omega⟩) (fun h0=>have h1:¬((10:Int)=(op:Int)):=(by simpa using h0);⟨by omega,ULp.step (cT ⟨(by first|assumption|omega|decide),cB (fun h0=>by have h1:(11:Int)=(op:Int):=(by simpa using h0);exact rV rfl rfl ⟨_,rfl,fun _=>by omega⟩) (fun h0=>have h1:¬((11:Int)=(op:Int)):=(by simpa using h0);⟨by omega,ULp.step (cT ⟨(by first|assumption|omega|decide),cB (fun h0=>by have h1:(12:Int)=(op:Int):=(by simpa using h0);exact rV rfl rfl ⟨_,rfl,fun _=>by omega⟩) (fun h0=>have h1:¬((12:Int)=(op:Int)):=(by simpa using h0);⟨by omega,ULp.step (cT ⟨(by first|assumption|omega|decide),cB (fun h0=>by have h1:(13:Int)=(op:Int):=(by simpa using h0);exact rV rfl rfl ⟨_,rfl,fun _=>by omega⟩) (fun h0=>have h1:¬((13:Int)=(op:Int)):=(by simpa using h0);⟨by omega,ULp.step (cT ⟨(by first|assumption|omega|decide),cB (fun h0=>by have h1:(14:Int)=(op:Int):=(by simpa using h0);exact rV rfl rfl ⟨_,rfl,fun _=>by omega⟩) (fun h0=>have h1:¬((14:Int)=(op:Int)):=(by simpa using h0);⟨by omega,ULp.step (cT ⟨(by first|assumption|omega|decide),cE (fun h1=>rV rfl rfl ⟨_,rfl,fun _=>by omega⟩) (fun h1=>⟨by omega,ULp.step (cF (rV rfl rfl ⟨_,rfl,fun _=>by omega⟩))⟩)⟩)⟩)⟩)⟩)⟩)⟩)⟩)⟩)⟩)⟩)⟩)))
theorem Um{a b:Bool}{w:World}:(if a=false then Result.ok false w else Result.ok b w)=Result.ok (a&&b) w:=by cases a<;>rfl
theorem Vj(k1 i1 k2 i2:Int)(t1 t2:ByteArray)(w:World):(Op.equalIn 10000 30 (.agg #[.int .i64 k1,.int .i64 i1,.string t1]) (.agg #[.int .i64 k2,.int .i64 i2,.string t2])).run prog w=.ok (k1==k2&&(i1==i2&&t1.toList==t2.toList)) w:=by rw[run_equalIn_agg w 9999 30 _ _ (show prog.underlying 30=some (.struct (prog.fieldsOf 30))by kernel_rfl) (by kernel_rfl)];simp only[Program.fieldsOf,underlying30];simp[Op.eqFields,part,run_equalIn_int _ 9998 3 _ _ _ _ underlying3,run_equalIn_int _ 9998 2 _ _ _ _ underlying2,run_equalIn_string _ 9998 9 _ _ underlying9,Um]
theorem egV:prog.eqGuardType prog.depth 30=false:=by kernel_rfl
section
variable{τ:Nat->AV}{η:bo}{d:Option Tmp}{ty:TypeId}{pos:String}{af:Array Edge}{g:Option (Nat×Bool)}
def pv{x:Operand}{k1 i1 k2 i2:Int}{t1 t2:ByteArray}(hx:aev τ x=.agg [vI k1,vI i1,.v (.string t1)])(hy:aev τ y=.agg [vI k2,vI i2,.v (.string t2)]):
 LOp prog ⟨d,.binOp .eql 30 x y t',ty,pos,af,g⟩ τ η [] [] (vB (k1==k2&&(i1==i2&&t1.toList==t2.toList))):=
 .look [] fun C a _ hq _=>by have e1:=hq x (by simp[Op.operands]);have e2:=hq y (by simp[Op.operands]);rw[hx]at e1;rw[hy]at e2;have f1:=w9 (y:=.agg #[.int .i64 k1,.int .i64 i1,.string t1]) e1 rfl;have f2:=w9 (y:=.agg #[.int .i64 k2,.int .i64 i2,.string t2]) e2 rfl;refine⟨_,?_,VR.v C _⟩;simp only[execOp,f1,f2,Sem.run_bind,run_eqGuard_agg C.w .eql 30 x y _ _ egV,a0n,run_eql_struct,Vj,a0o]
def B1{x:Operand}{k1 i1 k2 i2:Int}{t1 t2:ByteArray}(hx:aev τ x=.agg [vI k1,vI i1,.v (.string t1)])(hy:aev τ y=.agg [vI k2,vI i2,.v (.string t2)]):
 LOp prog ⟨d,.binOp .neq 30 x y t',ty,pos,af,g⟩ τ η [] [] (vB (!(k1==k2&&(i1==i2&&t1.toList==t2.toList)))):=
 .look [] fun C a _ hq _=>by have e1:=hq x (by simp[Op.operands]);have e2:=hq y (by simp[Op.operands]);rw[hx]at e1;rw[hy]at e2;have f1:=w9 (y:=.agg #[.int .i64 k1,.int .i64 i1,.string t1]) e1 rfl;have f2:=w9 (y:=.agg #[.int .i64 k2,.int .i64 i2,.string t2]) e2 rfl;refine⟨_,?_,VR.v C _⟩;simp only[execOp,f1,f2,Sem.run_bind,run_eqGuard_agg C.w .neq 30 x y _ _ egV,a0n,run_neq_struct,Vj,a0o]
end
inductive IntE(l:List PVar):List AV->Prop
 |lit (x:GEx) (h:x.op_=1) (ha:x.b_=[]) (hk:x.j_.c_=1\/x.j_.c_=0) (hc:F3 x.j_):IntE l (exA x)
 |col (x:GEx) (h:x.op_=2) (ha:x.b_=[]) (hj:∃j,∃h:j<l.length,x.i_=((j:Nat):Int)/\l[j].t=1):IntE l (exA x)
 |len (x a:GEx) (h:x.op_=9) (ha:x.b_=[exA a]) (haa:a.b_=[]) (ht:TextE l (exA a)\/(a.op_=1/\a.j_.c_=0)):IntE l (exA x)
 |neg (x:GEx) (h:x.op_=3) (ha:x.b_.length=1) (hs:∀r∈x.b_,IntE l r):IntE l (exA x)
 |bin (x:GEx) (h:4<=x.op_/\x.op_<=8) (ha:x.b_.length=2) (hs:∀r∈x.b_,IntE l r):IntE l (exA x)
theorem c8{l:List α}{a:α}(h:(l.length:Int)=1)(h0:l[0]'(by omega)=a):l=[a]:=by
 match l,h,h0 with
 |[b],_,h0=>simp at h0;rw[h0]
def ajp(x:GEx)(hx:FitEx x):PRet prog 58 [.agg (exA x),.agg [vI 0,.v (.string ⟨#[]⟩),.v (.string ⟨#[]⟩),vI 0,vI 0,vI 0,.v (.string ⟨#[]⟩),.v (.slice none 0 0)]] (fun r=>∃b:Bool,r=vB b/\(b=true->x.op_=0)):=by
 refine ovT [] [] func58 rfl rfl (cB (fun h0=>?_) (fun h0=>?_))
 ·refine cT (cT ?_)
  refine cT (cT ?_)
  exact cT (rV rfl rfl bF)
 apply cB<;>intro hg18
 ·refine cT (cT ?_)
  refine cT (cT ?_)
  exact rV rfl rfl bF
 apply cB<;>intro hg25
 ·refine cT (cT ?_)
  exact cT (rV rfl rfl bF)
 apply cB<;>intro hg32
 ·refine cT (cT ?_)
  exact rV rfl rfl bF
 refine OpG.lk (B1 rfl rfl) (cB (fun h1=>?_) (fun h1=>?_))
 ·exact cT (rV rfl rfl bF)
 refine LenG.of ?_
 try refine LenG.of ?_
 apply cB<;>intro hc47
 ·exact rV rfl rfl bF
 refine LpG.exit (LenG.of ?_)
 apply cB<;>intro h2
 ·exfalso;simp_all
 have hq52:=a0e h2
 exact rV rfl rfl ⟨_,rfl,fun _=>by simp_all⟩
def opD{x:GEx}(hx:FitEx x)(j:Nat):∃a,(∀h:j<x.b_.length,x.b_[j]=exA a)/\FitEx a:=by by_cases h:j<x.b_.length;obtain⟨a,e,ha⟩:=adn hx j h;exact⟨a,fun _=>e,ha⟩;exact⟨x,fun g=>absurd g h,hx⟩
theorem azs{l:List (List AV)}(h:((l.length:Nat):Int)=1)(h0:P (l[0]'(by omega))):∀r∈l,P r:=by
 match l,h,h0 with
 |[a],_,h0=>intro r hr;rw[az9.1 hr];exact h0
theorem all2{l:List (List AV)}(h:((l.length:Nat):Int)=2)(h0:P (l[0]'(by omega)))(h1:P (l[1]'(by omega))):∀r∈l,P r:=by
 match l,h,h0,h1 with
 |[a,b],_,h0,h1=>
  intro r hr
  rcases a0w.1 hr with rfl|hr
  ·exact h0
  ·rw[az9.1 hr];exact h1
theorem Ud(x:GEx)(hx:FitEx x)(l:List PVar)(hl:bn l (fun y=>True))(ih:∀r∈x.b_,PRet prog 112 [.agg (rwA r),.tree 5 (l.map vA)] (fun q=>∃b:Bool,q=vB b/\(b=true->IntE l r))):PRet prog 112 [.agg (exA x),.tree 5 (l.map vA)] (fun r=>∃b:Bool,r=vB b/\(b=true->IntE l (exA x))):=by
 obtain⟨a0,e0,h0⟩:=opD hx 0;obtain⟨a1,e1,h1⟩:=opD hx 1;refine ovT [] [] func112 rfl rfl ?_
 repeat' first
  |refine cT ?_|refine cF ?_|refine cE (fun _=>?_) (fun _=>?_)<;>try omega
  |refine LenG.of ?_|refine cz (j:=0) (by omega) (e0 (by omega)) ?_|refine cz (j:=1) (by omega) (e1 (by omega)) ?_
  |refine OpG.lk (pv rfl rfl) ?_
  |refine ArgG.mk (ih (exA a0) (e0 (by omega)▸az4 _)) rfl ?_;rintro _ ⟨_|_,rfl,i0⟩
  |refine ArgG.mk (ih (exA a1) (e1 (by omega)▸az4 _)) rfl ?_;rintro _ ⟨_|_,rfl,i1⟩
  |refine ArgG.mk (tq (exA a0) (ki h0) l hl) rfl ?_;rintro _ ⟨_|_,rfl,t0,t2⟩
  |refine ArgG.mk (m7 a0.j_ h0.j_) rfl ?_;rintro _ ⟨_|_,rfl,v0,v2⟩
  |refine ArgG.mk (m7 x.j_ hx.j_) rfl ?_;rintro _ ⟨_|_,rfl,v0,v2⟩
  |refine ArgG.mk (agn x.i_ 1 l hl) rfl ?_;rintro _ ⟨_|_,rfl,ty⟩
 all_goals first
  |exact rV rfl rfl bF
  |refine rV rfl rfl ⟨_,rfl,fun hr=>?_⟩
   first
    |exact .lit x ‹_› (by simp_all) (by simp_all) (by simp_all)
    |exact .col x ‹_› (by simp_all) (ty rfl)
    |exact .neg x ‹_› (by omega) (azs ‹_› (e0 (by omega)▸i0 rfl))
    |exact .len x a0 ‹_› (c8 ‹_› (e0 (by omega))) (by simp_all) (by simp_all)
    |exact .bin x (by omega) (by omega) (all2 ‹_› (e0 (by omega)▸i0 rfl) (e1 (by omega)▸i1 rfl))
def A7(r:List AV)(hr:IsEx r)(l:List PVar)(hl:bn l (fun y=>True)):PRet prog 112 [.agg (rwA r),.tree 5 (l.map vA)] (fun q=>∃b:Bool,q=vB b/\(b=true->IntE l r)):=IsEx.ind (M:=fun r=>PRet prog 112 [.agg (rwA r),.tree 5 (l.map vA)] (fun q=>∃b:Bool,q=vB b/\(b=true->IntE l r))) (fun x hx ih=>Ud x hx l hl ih) hr
section
variable{P:Program}{τ:Nat->AV}{η:bo}{d:Option Tmp}{ty:TypeId}{pos:String}{af:Array Edge}{g:Option (Nat×Bool)}
def qm{t:Nat}{x:Operand}(hx:aev τ x=vI m)(hy:aev τ y=vI n)(h1:-9223372036854775808<=m)(h2:m<=9223372036854775807)(h3:1<=n):
 LOp P ⟨d,.binOp .quo t x y t',ty,pos,af,g⟩ τ η [] [] (vI (m.tdiv n)):=
 .look [] fun C a _ h4 _=>by have e1:=h4 x (by simp[Op.operands]);have e2:=h4 y (by simp[Op.operands]);rw[hx]at e1;rw[hy]at e2;refine⟨.int .i64 (m.tdiv n),?_,VR.v C _⟩;have hw:=Go.IntWalk.i64_quo' m n ⟨h1,h2,h3⟩;have h0:¬(n=0):=(by omega);simp only[execOp,e1.v_inv,e2.v_inv];simp[binOp,Op.intArith,Op.intDiv,eqGuard,h0,Sem.run_bind,hw]
def ot{t:Nat}{x:Operand}(hx:aev τ x=vI m)(h1:-9223372036854775807<=m)(h2:m<=9223372036854775807):
 LOp P ⟨d,.unOp .neg t x,ty,pos,af,g⟩ τ η [] [] (vI (-m)):=by
 have h:LOp P ⟨d,.unOp .neg t x,ty,pos,af,g⟩ τ η [] [] (vI (IntKind.i64.wrap (-m))):=
  .look [] fun C a _ h0 _=>by have e1:=h0 x (by simp[Op.operands]);rw[hx]at e1;refine⟨_,?_,VR.v C _⟩;simp only[execOp,e1.v_inv];simp[Op.unary,Op.intArith]
 rwa [Go.IntWalk.i64_in _ ⟨by omega,by omega⟩]at h
end
theorem vd(hb:1<=b):(if a.tdiv b*b>a then a.tdiv b-1 else a.tdiv b)=a.fdiv b:=by
 have h1:=Int.tmod_add_mul_tdiv a b;have h4:b*a.tdiv b=a.tdiv b*b:=Int.mul_comm _ _
 have hf:=Int.fdiv_eq_ediv_of_nonneg a (by omega:(0:Int)<=b);rw[hf];have h2:=Int.emod_add_mul_ediv a b
 have h3:=Int.emod_nonneg a (by omega:b≠0);have h5:=Int.emod_lt_of_pos a (by omega:0<b)
 have h6:=Int.tmod_lt_of_pos a (by omega:0<b);have h7:-b<a.tmod b:=Int.lt_tmod_of_pos a (by omega)
 split
 ·rename_i h;have:(a.tdiv b-1)=a/b:=by refine(Int.ediv_eq_iff_of_pos (by omega)|>.2 ⟨?_,?_⟩).symm<;>(try rw[Int.sub_mul])<;>(try rw[Int.add_mul])<;>(try rw[Int.sub_mul])<;>omega
  exact this
 rename_i h;exact(Int.ediv_eq_iff_of_pos (by omega)|>.2 ⟨by omega,by omega⟩).symm
def aq(n:Int):(0<=n/\ci n=n)\/(n<0/\ci n=-n):=by unfold ci;split<;>omega
def D7(ha:-4611686018427387904<=a/\a<=4611686018427387904)(hb:1<=b/\b<=4611686018427387904):(-4611686018427387904<=a.tdiv b/\a.tdiv b<=4611686018427387904)/\(-9223372036854775808<=a.tdiv b*b/\a.tdiv b*b<=9223372036854775807):=by have h1:=Int.tmod_add_mul_tdiv a b;have h4:b*a.tdiv b=a.tdiv b*b:=Int.mul_comm _ _;have h6:=Int.tmod_lt_of_pos a (by omega:0<b);have h7:-b<a.tmod b:=Int.lt_tmod_of_pos a (by omega);have h8:=Int.natAbs_tdiv_le_natAbs a b;refine⟨by omega,by omega⟩
def se(n:Int)(lo:Int)(hi:Int):PRet prog 243 [vI n,vI lo,vI hi] (fun r=>∃b:Bool,r=vB b/\(b=true↔lo<=n/\n<=hi)):=by refine ovT [] [] func243 rfl rfl ?_;apply cD<;>intro hq10;refine rV rfl rfl ?_;refine⟨_,rfl,?_⟩;(simp;omega);refine rV rfl rfl ?_;refine⟨_,rfl,?_⟩;(simp;omega)
def B0(n:Int)(hn:-9223372036854775807<=n/\n<=9223372036854775807):PRet prog 245 [vI n] (fun r=>r=vI (ci n)):=ovT [6] [] func245 rfl rfl (cB (fun h0=>by have h1:=a0f h0;exact OpG.lk (ot rfl (by omega) (by omega)) (rV rfl rfl (show vI (-n)=vI (ci n)by unfold ci;rw[a0d (by simpa using h0)]))) (fun h0=>have h1:=a0e h0;rV rfl rfl (show vI n=vI (ci n)by unfold ci;rw[a0c (by simpa using h0)])))
def lm(a:Int)(b:Int):PRet prog 286 [vI a,vI b] (fun r=>∃v:Int,r=vI v/\v=if a<b then -1 else if b<a then 1 else 0):=by
 refine ovT [] [] func286 rfl rfl ?_;apply cB<;>intro h2
 ·have h3:=a0f h2;refine rV rfl rfl ?_;refine⟨_,rfl,?_⟩;(rw[a0d (by omega)];done)
 have h3:=a0e h2;apply cB<;>intro h0
 ·have h1:=a0f h0;refine rV rfl rfl ?_;refine⟨_,rfl,?_⟩;(rw[a0c (by omega),a0d (by omega)];done)
 have h1:=a0e h0;refine rV rfl rfl ?_;refine⟨_,rfl,?_⟩;(rw[a0c (by omega),a0c (by omega)];done)
def U1(a:Int)(b:Int)(ha:-4611686018427387904<=a/\a<=4611686018427387904)(hb:1<=b/\b<=4611686018427387904):PRet prog 285 [vI a,vI b] (fun r=>∃v:Int,r=vI v/\v=a.fdiv b):=by have hf:=vd (a:=a) hb.1;have hq:=D7 ha hb;exact ovT [8,11,15] [] func285 rfl rfl (OpG.lk (qm rfl rfl (by omega) (by omega) (by omega)) (OpG.lk (ji rfl rfl (by omega) (by omega)) (cB (fun h0=>OpG.lk (ql rfl rfl (by omega) (by omega)) (rV rfl rfl ⟨_,rfl,by rw[<-hf,a0d (by simpa using h0)]⟩)) (fun h0=>rV rfl rfl ⟨_,rfl,by rw[<-hf,a0c (by simpa using h0)]⟩))))
def lx:List Int->List Int->Int
 |[],[]=>0
 |[],_::_=>-1
 |_::_,[]=>1
 |a::l,b::m=>if a<b then -1 else if b<a then 1 else lx l m
theorem A2:∀l,lx l l=0
 |[]=>rfl
 |a::l=>by simp only[lx,a0c (Int.lt_irrefl a)];exact A2 l
theorem J5:∀l m,lx m l=-lx l m
 |[],[]=>rfl
 |[],_::_=>rfl
 |_::_,[]=>rfl
 |a::l,b::m=>by simp only[lx];by_cases h:a<b;rw[a0d h,a0c (by omega),a0d h];rfl;by_cases g:b<a;simp[h,g];rw[a0c h,a0c g,a0c g,a0c h];exact J5 l m
theorem Ty:∀l m,lx l m=0->l=m
 |[],[],_=>rfl
 |[],_::_,h=>by simp[lx]at h
 |_::_,[],h=>by simp[lx]at h
 |a::l,b::m,h=>by simp only[lx]at h;by_cases h1:a<b;rw[a0d h1]at h;exact absurd h (by decide);by_cases g:b<a;rw[a0c h1,a0d g]at h;exact absurd h (by decide);rw[a0c h1,a0c g]at h;rw[Ty l m h,show a=b by omega]
theorem M4:∀l m n,lx l m<0->lx m n<0->lx l n<0
 |[],[],_,h,_=>absurd h (by decide)
 |[],_::_,[],_,h=>by simp[lx]at h
 |[],_::_,_::_,_,_=>by simp[lx]
 |_::_,[],_,h,_=>by simp[lx]at h
 |_::_,_::_,[],_,h=>by simp[lx]at h
 |a::l,b::m,c::n,h,g=>by simp only[lx]at h g ⊢;by_cases h1:a<b;by_cases g1:b<c;rw[a0d (by omega)];decide;by_cases g2:c<b;rw[a0c g1,a0d g2]at g;exact absurd g (by decide);rw[a0d (by omega)];decide;by_cases h2:b<a;rw[a0c h1,a0d h2]at h;exact absurd h (by decide);rw[a0c h1,a0c h2]at h;by_cases g1:b<c;rw[a0d (by omega)];decide;by_cases g2:c<b;rw[a0c g1,a0d g2]at g;exact absurd g (by decide);rw[a0c g1,a0c g2]at g;rw[a0c (by omega),a0c (by omega)];exact M4 l m n h g
theorem adz:∀l m n,lx (l++m) (l++n)=lx m n
 |[],_,_=>rfl
 |a::l,m,n=>by simp only[List.cons_append,lx,a0c (Int.lt_irrefl a)];exact adz l m n
structure GPart where
 k_:Int
 c_:Int
 o_:Int
 by_:Int
 of_:List (List AV)
variable{p q:GPart}
abbrev ptA(x:GPart):List AV:=[.v (.int .i64 x.k_),.v (.int .i64 x.c_),.v (.int .i64 x.o_),.v (.int .i64 x.by_),.tree 2 (x.of_.map rwA)]
instance:Inhabited GPart:=⟨⟨0,0,0,0,[]⟩⟩
structure GTm where
 g_:Int
 a_:List GPart
variable{t x:GTm}
abbrev tmA(x:GTm):List AV:=[.v (.int .i64 x.g_),.tree 5 (x.a_.map ptA)]
theorem ip(l:List (List AV)):l.map rwA=l:=List.map_id l
mutual
def tvL(ρ:Int->Int->Int):List AV->Int
 | [.v (.int _ c),.tree _ ps]=>c+psL ρ ps
 |_=>0
def psL(ρ:Int->Int->Int):List (List AV)->Int
 | []=>0
 |r :: rs=>ptL ρ r+psL ρ rs
def ptL(ρ:Int->Int->Int):List AV->Int
 | [.v (.int _ c),.v (.int _ kd),.v (.int _ vr),.v (.int _ b),.tree _ os]=>c*(if kd=2 then(ofL ρ os).fdiv b else ρ kd vr)
 |_=>0
def ofL(ρ:Int->Int->Int):List (List AV)->Int
 | []=>0
 |r :: _=>tvL ρ r
end
mutual
def cdT:List AV->List Int
 | [.v (.int _ c),.tree _ ps]=>arx ps++[-1,c]
 |_=>[]
def arx:List (List AV)->List Int
 | []=>[]
 |r :: rs=>cdR r++arx rs
def cdR:List AV->List Int
 | [.v (.int _ c),.v (.int _ kd),.v (.int _ vr),.v (.int _ b),.tree _ os]=>kd :: vr :: b :: (Pz os++[c])
 |_=>[]
def Pz:List (List AV)->List Int
 | []=>[]
 |r :: _=>cdT r
end
mutual
def bdL:List AV->Int
 | [.v (.int _ c),.tree _ ps]=>ci c+ata ps
 |_=>0
def ata:List (List AV)->Int
 | []=>0
 |r :: rs=>bdR r+ata rs
def bdR:List AV->Int
 | [.v (.int _ c),.v (.int _ kd),.v (.int _ vr),.v (.int _ b),.tree _ os]=>ci c*(if kd=2 then(alx os).tdiv b+1 else if kd=1 then 16 else 2147483648)
 |_=>0
def alx:List (List AV)->Int
 | []=>0
 |r :: _=>bdL r
end
def cdP(p:GPart):List Int:=p.c_::p.o_::p.by_::Pz p.of_
def bdK(p:GPart):Int:=if p.c_=2 then(alx p.of_).tdiv p.by_+1 else if p.c_=1 then 16 else 2147483648
def bdS:List GPart->Int
 |[]=>0
 |p::l=>ci p.k_*bdK p+bdS l
def Ch(ρ:Int->Int->Int)(p:GPart):Int:=if p.c_=2 then(ofL ρ p.of_).fdiv p.by_ else ρ p.c_ p.o_
def Qk(ρ:Int->Int->Int)(p:GPart):Int:=p.k_*Ch ρ p
def px(ρ:Int->Int->Int):List GPart->Int
 |[]=>0
 |p::l=>Qk ρ p+px ρ l
theorem So(ρ:Int->Int->Int):∀l:List GPart,psL ρ (l.map ptA)=px ρ l
 |[]=>by simp only[List.map_nil,psL,px]
 |p::l=>by simp only[a0t,psL,px,So ρ l,ptA,ptL,Qk,Ch,ip]
theorem kv(ρ:Int->Int->Int)(x:GTm):tvL ρ (tmA x)=x.g_+px ρ x.a_:=by simp only[tmA,tvL,So]
theorem N2:∀l:List GPart,ata (l.map ptA)=bdS l
 |[]=>by simp only[List.map_nil,ata,bdS]
 |p::l=>by simp only[a0t,ata,bdS,N2 l,ptA,bdR,bdK,ip]
theorem pq(x:GTm):bdL (tmA x)=ci x.g_+bdS x.a_:=by simp only[tmA,bdL,N2]
def cdS:List GPart->List Int
 |[]=>[]
 |p::l=>cdP p++p.k_::cdS l
theorem Nw:∀l:List GPart,arx (l.map ptA)=cdS l
 |[]=>by simp only[List.map_nil,arx,cdS]
 |p::l=>by simp only[a0t,arx,cdS,Nw l,ptA,cdR,cdP,ip,List.cons_append,List.append_assoc,List.nil_append]
theorem Do(x:GTm):cdT (tmA x)=cdS x.a_++[-1,x.g_]:=by simp only[tmA,cdT,Nw]
def X7(ρ:Int->Int->Int):Prop:=∀v,(∀k,-2147483648<=ρ k v/\ρ k v<=2147483648)/\-16<=ρ 1 v/\ρ 1 v<=16/\ρ 2 0=0
def Bd(r:List AV)(m:Int):Prop:=∀ρ,X7 ρ->-m<=tvL ρ r/\tvL ρ r<=m
def cfR:List AV->Bool
 |.v (.int _ c)::_=>decide (ci c<=1048576)
 |_=>false
def smR:List AV->Bool
 |[.v (.int k c),.tree n ps]=>decide (ci c<=1099511627776)&&ps.all cfR&&decide (bdL [.v (.int k c),.tree n ps]<=1152921504606846976)
 |_=>false
def I2(x:GTm):Prop:=(-1099511627776<=x.g_/\x.g_<=1099511627776)/\∀p∈x.a_,-1048576<=p.k_/\p.k_<=1048576
theorem alb :ci a<=m↔-m<=a/\a<=m:=by have:=aq a;omega
theorem ja(x:GTm):smR (tmA x)=true↔I2 x/\bdL (tmA x)<=1152921504606846976:=by simp_all [ptA,cfR,List.all_map,List.all_eq_true,alb,tmA,smR,I2]
def PK(p:GPart):Prop:=(0<=p.c_/\p.c_<=2)/\(p.c_=2->p.of_.length=1/\1<=p.by_/\p.by_<=1000)/\(p.c_≠2->p.of_=[])
def lnR:List AV->Bool
 |[.v _,.tree _ ps]=>decide (ps.length<=1000000)
 |_=>false
theorem vo(x:GTm):lnR (tmA x)=true↔x.a_.length<=1000000:=by simp[lnR]
def Srt(l:List GPart):Prop:=l.Pairwise (fun p q=>lx (cdP p) (cdP q)<0)/\∀p∈l,p.k_≠0
inductive IsTm:List AV->Prop
 |mk (x:GTm) (h0:x.a_.length<=140737488355328) (hs:Srt x.a_) (hk:∀p∈x.a_,PK p) (hm:∀p∈x.a_,∀r∈p.of_,smR r=true) (hn:∀p∈x.a_,∀r∈p.of_,lnR r=true) (h:∀p∈x.a_,∀r∈p.of_,IsTm r):IsTm (tmA x)
structure FitPart(p:GPart):Prop where
 of_:bn p.of_ (fun y=>IsTm y)
 kd:PK p
 sm:∀r∈p.of_,smR r=true
 ln:∀r∈p.of_,lnR r=true
structure FitTm(x:GTm):Prop where
 a_:bn x.a_ (fun y=>FitPart y)
 srt:Srt x.a_
theorem PK.one(h:PK p):p.of_.length<=1:=by grind[PK]
theorem IsTm.fit(h0:x.a_.length<=140737488355328)(hs:Srt x.a_)(hk:∀p∈x.a_,PK p)(hm:∀p∈x.a_,∀r∈p.of_,smR r=true)(hn:∀p∈x.a_,∀r∈p.of_,lnR r=true)(h:∀p∈x.a_,∀r∈p.of_,IsTm r):FitTm x:=⟨⟨h0,fun p hp=>⟨⟨a0m (hk p hp).one (by decide),h p hp⟩,hk p hp,hm p hp,hn p hp⟩⟩,hs⟩
theorem I0(h:FitTm x):IsTm (tmA x):=.mk x h.a_.1 h.srt (fun p hp=>(h.a_.2 p hp).kd) (fun p hp=>(h.a_.2 p hp).sm) (fun p hp=>(h.a_.2 p hp).ln) (fun p hp=>(h.a_.2 p hp).of_.2)
theorem IsTm.ind(H:∀x,FitTm x->(∀p∈x.a_,∀r∈p.of_,M r)->M (tmA x))(h:IsTm r):M r:=by
 induction h with
 |mk x h0 hs hk hm hn h ih=>exact H x (IsTm.fit h0 hs hk hm hn h) ih
theorem IsTm.open_(h:IsTm r):∃x,r=tmA x/\FitTm x:=by
 cases h with
 |mk x h0 hs hk hm hn h=>exact⟨x,rfl,IsTm.fit h0 hs hk hm hn h⟩
theorem Cq(h:IsTm r):i6 0 2 (rwA r)=some r:=by
 cases h with
 |mk x h0 hs hk hm hn h=>rfl
theorem Cr(h:IsTm r):cj r=true:=by
 cases h with
 |mk x h0 hs hk hm hn h=>rfl
def Sm(h:ptA p=ptA q):p=q:=by obtain⟨a,b,c,d,e⟩:=p;obtain⟨a',b',c',d',e'⟩:=q;simp only[ptA,List.cons.injEq,AV.v.injEq,Value.int.injEq,AV.tree.injEq,true_and,and_true,ip]at h;obtain⟨rfl,rfl,rfl,rfl,rfl⟩:=h;rfl
theorem Rj{y:GTm}(h:tmA x=tmA y):x=y:=by obtain⟨a,b⟩:=x;obtain⟨a',b'⟩:=y;simp only[tmA,List.cons.injEq,AV.v.injEq,Value.int.injEq,AV.tree.injEq,true_and,and_true]at h;obtain⟨rfl,h⟩:=h;have:=(List.map_inj_right (f:=ptA) (fun _ _ h=>Sm h)).1 h;rw[this]
def PX(a b:List Int):Prop:=lx a b≠0->∀x y,lx (a++x) (b++y)=lx a b
theorem aiq{a b x y:List Int}(h:PX a b):lx (a++x) (b++y)=if lx a b=0 then lx x y else lx a b:=by split;rename_i e;rw[Ty a b e,adz];rename_i e;exact h e x y
def PX.nil:PX [] []:=fun h=>absurd rfl h
def PX.cons{k k':Int}{a b:List Int}(h:k=k'->PX a b):PX (k::a) (k'::b):=by grind[PX,lx]
def PX.cat{a b c d:List Int}(h:PX a b)(g:PX c d):PX (a++c) (b++d):=by grind[PX,aiq,List.append_assoc,lx]
theorem PX.one :PX [a] [b]:=.cons fun _=>.nil
def pxP(hp:FitPart p)(hq:FitPart q)(ih:∀r∈p.of_,∀s,IsTm s->PX (cdT r) (cdT s)):PX (cdP p) (cdP q):=
 .cons fun hk=>.cons fun _=>.cons fun _=>by by_cases e:p.c_=2;obtain⟨r,hr⟩:=a01.1 (hp.kd.2.1 e).1;obtain⟨s,hs⟩:=a01.1 (hq.kd.2.1 (hk▸e)).1;rw[hr,hs];simp only[Pz];exact ih r (by rw[hr];simp) s (hq.of_.2 s (by rw[hs];simp));rw[hp.kd.2.2 e,hq.kd.2.2 (by rw[<-hk];exact e)];simp only[Pz];exact .nil
theorem pxS{c d:Int}:∀{l m:List GPart},(∀p∈l,FitPart p)->(∀q∈m,FitPart q)->(∀p∈l,∀q∈m,PX (cdP p) (cdP q))->PX (cdS l++[-1,c]) (cdS m++[-1,d])
 |[],[],_,_,_=>by simp only[cdS,List.nil_append];exact .cons fun _=>.one
 |[],q::m,_,h,_=>by have:=(h q (by simp)).kd.1;simp only[cdS,cdP,List.nil_append,List.cons_append];exact .cons fun e=>by omega
 |p::l,[],h,_,_=>by have:=(h p (by simp)).kd.1;simp only[cdS,cdP,List.nil_append,List.cons_append];exact .cons fun e=>by omega
 |p::l,q::m,h,g,i=>by simp only[cdS,List.append_assoc,List.cons_append];exact .cat (i p (by simp) q (by simp)) (.cons fun _=>pxS (fun x hx=>h x (by simp[hx])) (fun x hx=>g x (by simp[hx])) (fun x hx y hy=>i x (by simp[hx]) y (by simp[hy])))
def pxT(hr:IsTm r):∀s,IsTm s->PX (cdT r) (cdT s):=
 IsTm.ind (M:=fun r=>∀s,IsTm s->PX (cdT r) (cdT s)) (fun x hx ih s hs=>by obtain⟨y,rfl,hy⟩:=hs.open_;rw[Do,Do];exact pxS hx.a_.2 hy.a_.2 (fun p hp q hq=>pxP (hx.a_.2 p hp) (hy.a_.2 q hq) (ih p hp))) hr
theorem pxPP(hp:FitPart p)(hq:FitPart q):PX (cdP p) (cdP q):=pxP hp hq fun r hr=>pxT (hp.of_.2 r hr)
def jy(p q:GPart):Int:=lx (cdP p) (cdP q)
theorem Fb(p q:GPart):jy p q=if p.c_<q.c_ then -1 else if q.c_<p.c_ then 1 else if p.o_<q.o_ then -1 else if q.o_<p.o_ then 1 else if p.by_<q.by_ then -1 else if q.by_<p.by_ then 1 else lx (Pz p.of_) (Pz q.of_):=by simp only[jy,cdP,lx]
def CmI(x y:GTm)(k:Nat):Prop:=lx (cdT (tmA x)) (cdT (tmA y))=lx (cdS (x.a_.drop k)++[-1,x.g_]) (cdS (y.a_.drop k)++[-1,y.g_])
def cmI0(x y:GTm):CmI x y 0:=by unfold CmI;rw[Do,Do];rfl
section
variable{x y:GTm}{k:Nat}
theorem aj5(hx:FitTm x)(hy:FitTm y)(h:CmI x y k)(h1:k<x.a_.length)(h2:k<y.a_.length):lx (cdT (tmA x)) (cdT (tmA y))=if jy x.a_[k] y.a_[k]=0 then(if x.a_[k].k_<y.a_[k].k_ then -1 else if y.a_[k].k_<x.a_[k].k_ then 1 else lx (cdS (x.a_.drop (k+1))++[-1,x.g_]) (cdS (y.a_.drop (k+1))++[-1,y.g_]))else jy x.a_[k] y.a_[k]:=by rw[h,a00 h1,a00 h2];simp only[cdS,List.append_assoc,List.cons_append];rw[aiq (pxPP (hx.a_.2 _ (az4 h1)) (hy.a_.2 _ (az4 h2)))];simp only[lx];rfl
theorem ae2(hx:FitTm x)(hy:FitTm y)(h:CmI x y k)(h1:k<=x.a_.length)(h2:k<=y.a_.length)(h3:k=x.a_.length\/k=y.a_.length):lx (cdT (tmA x)) (cdT (tmA y))=if x.a_.length<y.a_.length then -1 else if y.a_.length<x.a_.length then 1 else if x.g_<y.g_ then -1 else if y.g_<x.g_ then 1 else 0:=by rw[h];by_cases e1:k=x.a_.length;rw[List.drop_of_length_le (by omega:x.a_.length<=k)];by_cases e2:k=y.a_.length;rw[List.drop_of_length_le (by omega:y.a_.length<=k),a0c (by omega),a0c (by omega)];simp[cdS,lx];have h4:k<y.a_.length:=(by omega);have:=(hy.a_.2 _ (az4 h4)).kd.1;rw[a00 h4,a0d (by omega)];simp only[cdS,cdP,List.nil_append,List.cons_append,lx];rw[a0d (by omega)];have h4:k<x.a_.length:=(by omega);have:=(hx.a_.2 _ (az4 h4)).kd.1;rw[a00 h4,List.drop_of_length_le (by omega:y.a_.length<=k),a0c (by omega),a0d (by omega)];simp only[cdS,cdP,List.nil_append,List.cons_append,lx];rw[a0c (by omega),a0d (by omega)]
end
theorem We(p q:GPart):jy q p=-jy p q:=J5 _ _
theorem Dm{r:GPart}(h:jy p q<0)(g:jy q r<0):jy p r<0:=M4 _ _ _ h g
theorem Pv{r:GPart}(h:jy p q=0):jy p r=jy q r:=by unfold jy;rw[Ty _ _ h]
theorem akd(hr:IsTm r):∀s,IsTm s->cdT r=cdT s->r=s:=
 IsTm.ind (M:=fun r=>∀s,IsTm s->cdT r=cdT s->r=s) (fun x hx ih s hs e=>by
  obtain⟨y,rfl,hy⟩:=hs.open_;rw[Do,Do]at e
  have key:∀(l m:List GPart),(∀p∈l,FitPart p)->(∀q∈m,FitPart q)->(∀p∈l,∀r∈p.of_,∀s,IsTm s->cdT r=cdT s->r=s)->cdS l++[-1,x.g_]=cdS m++[-1,y.g_]->l=m/\x.g_=y.g_:=by
   intro l;induction l with
   |nil=>
    intro m _ hm _ e
    cases m with
    |nil=>simpa[cdS]using e
    |cons q m=>
     have:=(hm q (by simp)).kd.1
     simp only[cdS,cdP,List.nil_append,List.cons_append,List.cons.injEq]at e
     omega
   |cons p l ihl=>
    intro m hl hm hi e
    cases m with
    |nil=>
     have:=(hl p (by simp)).kd.1
     simp only[cdS,cdP,List.nil_append,List.cons_append,List.cons.injEq]at e
     omega
    |cons q m=>
     have hp:=hl p (by simp)
     have hq:=hm q (by simp)
     have z:=A2 (cdS (p::l)++[-1,x.g_])
     rw(config:={occs:=.pos [2]}) [e]at z
     simp only[cdS,List.append_assoc,List.cons_append]at z e
     rw[aiq (pxPP hp hq)]at z
     have z0:lx (cdP p) (cdP q)=0:=by
      by_cases w:lx (cdP p) (cdP q)=0
      ·exact w
      ·rw[a0c w]at z;exact z
     have z1:=Ty _ _ z0
     rw[z1]at e
     have e2:=List.append_cancel_left e
     simp only[List.cons.injEq]at e2
     obtain⟨g1,g2⟩:=ihl m (fun x hx=>hl x (by simp[hx])) (fun x hx=>hm x (by simp[hx])) (fun x hx=>hi x (by simp[hx])) e2.2
     simp only[cdP,List.cons.injEq]at z1
     obtain⟨k1,k2,k3,k4⟩:=z1
     have k5:p.of_=q.of_:=by
      by_cases e:p.c_=2
      ·obtain⟨r,hr⟩:=a01.1 (hp.kd.2.1 e).1
       obtain⟨s,hs⟩:=a01.1 (hq.kd.2.1 (k1▸e)).1
       rw[hr,hs]at k4 ⊢
       simp only[Pz]at k4
       rw[hi p (by simp) r (by rw[hr];simp) s (hq.of_.2 s (by rw[hs];simp)) k4]
      ·rw[hp.kd.2.2 e,hq.kd.2.2 (by rw[<-k1];exact e)]
     refine⟨?_,g2⟩
     rw[g1]
     obtain⟨a,b,c,d,o⟩:=p
     obtain⟨a',b',c',d',o'⟩:=q
     simp only at k1 k2 k3 k5 e2
     rw[k1,k2,k3,k5,e2.1]
  obtain⟨g1,g2⟩:=key _ _ hx.a_.2 hy.a_.2 ih e;simp only[tmA,g1,g2]) hr
def Pa(a b:GPart):Prop:=a.c_=b.c_/\a.o_=b.o_/\a.by_=b.by_/\a.of_=b.of_
def Nt(hp:FitPart p)(hq:FitPart q)(h:jy p q=0):Pa p q:=by have z1:=Ty _ _ h;simp only[cdP,List.cons.injEq]at z1;obtain⟨k1,k2,k3,k4⟩:=z1;refine⟨k1,k2,k3,?_⟩;by_cases e:p.c_=2;obtain⟨r,hr⟩:=a01.1 (hp.kd.2.1 e).1;obtain⟨s,hs⟩:=a01.1 (hq.kd.2.1 (k1▸e)).1;rw[hr,hs]at k4 ⊢;simp only[Pz]at k4;rw[akd (hp.of_.2 r (by rw[hr];simp)) s (hq.of_.2 s (by rw[hs];simp)) k4];rw[hp.kd.2.2 e,hq.kd.2.2 (by rw[<-k1];exact e)]
def Pa.val(h:Pa p q)(ρ:Int->Int->Int):Ch ρ p=Ch ρ q:=by obtain⟨h1,h2,h3,h4⟩:=h;unfold Ch;rw[h1,h2,h3,h4]
def kw(p:GPart):List GPart->List GPart
 |[]=>[p]
 |q::l=>if jy q p=0 then(if q.k_+p.k_=0 then l else{q with k_:=q.k_+p.k_}::l)else if jy q p<0 then q::kw p l else p::q::l
def eh(l m:List GPart):List GPart:=m.foldl (fun s q=>kw q s) l
theorem Ex{P:GPart->Prop}(hP:∀q c,P q->P {q with k_:=c}){p:GPart}(hp:P p):∀{l:List GPart},(∀q∈l,P q)->∀q∈kw p l,P q
 |[],_,q,hq=>by rw[az9.1 hq];exact hp
 |a::l,h,q,hq=>by unfold kw at hq;split at hq;split at hq;exact h q (by simp[hq]);rcases a0w.1 hq with rfl|hq;exact hP _ _ (h a (by simp));exact h q (by simp[hq]);split at hq;rcases a0w.1 hq with rfl|hq;exact h q (by simp);exact Ex hP hp (fun x hx=>h x (by simp[hx])) q hq;rcases a0w.1 hq with rfl|hq;exact hp;exact h q hq
theorem pj{P:GPart->Prop}(hP:∀q c,P q->P {q with k_:=c}):∀{m l:List GPart},(∀q∈l,P q)->(∀q∈m,P q)->∀q∈eh l m,P q
 |[],l,h,_=>h
 |p::m,l,h,g=>pj hP (m:=m) (l:=kw p l) (Ex hP (g p (by simp)) h) (fun q hq=>g q (by simp[hq]))
theorem Uh(p:GPart):∀l:List GPart,(kw p l).length<=l.length+1
 |[]=>a0j _
 |a::l=>by have:=Uh p l;unfold kw;split;split<;>simp<;>omega;split<;>simp<;>omega
theorem pi:∀(m l:List GPart),(eh l m).length<=l.length+m.length
 |[],l=>a0j _
 |p::m,l=>by have h:=pi m (kw p l);have g:=Uh p l;show(eh (kw p l) m).length<=_;simp only[a0r];omega
theorem Srt.tail{l:List GPart}(h:Srt (p::l)):Srt l:=⟨(List.pairwise_cons.1 h.1).2,fun q hq=>h.2 q (by simp[hq])⟩
theorem Srt.hd{l:List GPart}(h:Srt (p::l)):∀q∈l,jy p q<0:=(List.pairwise_cons.1 h.1).1
def Srt.cons{l:List GPart}(h:Srt l)(hp:p.k_≠0)(g:∀q∈l,jy p q<0):Srt (p::l):=⟨List.pairwise_cons.2 ⟨g,h.1⟩,fun q hq=>by rcases a0w.1 hq with rfl|hq;exact hp;exact h.2 q hq⟩
def Rx:Srt []:=⟨.nil,by simp⟩
theorem Ug{p:GPart}(hp:p.k_≠0):∀{l:List GPart},Srt l->Srt (kw p l)
 |[],_=>Rx.cons hp (by simp)
 |a::l,h=>by have ht:=h.tail;have hh:=h.hd;have hc:=h.2 a (by simp);unfold kw;split;split;exact ht;rename_i e;exact ht.cons e hh;split;rename_i e1 e2;exact(Ug hp ht).cons hc (Ex (P:=fun q=>jy a q<0) (fun q c h=>h) e2 hh);rename_i e1 e2;have e3:jy p a<0:=(by rw[We];omega);exact h.cons hp (fun q hq=>by rcases a0w.1 hq with rfl|hq;exact e3;exact Dm e3 (hh q hq))
theorem Dd:∀{m l:List GPart},Srt l->(∀q∈m,q.k_≠0)->Srt (eh l m)
 |[],l,h,_=>h
 |p::m,l,h,g=>Dd (m:=m) (l:=kw p l) (Ug (g p (by simp)) h) (fun q hq=>g q (by simp[hq]))
theorem Uf(ρ:Int->Int->Int){p:GPart}(hp:FitPart p):∀{l:List GPart},(∀q∈l,FitPart q)->px ρ (kw p l)=px ρ l+Qk ρ p
 |[],_=>by simp[kw,px]
 |a::l,h=>by have ha:=h a (by simp);unfold kw;split;rename_i e;have k:=(Nt ha hp e).val ρ;have e2:Ch ρ {a with k_:=a.k_+p.k_}=Ch ρ a:=rfl;split;rename_i z;have e3:a.k_*Ch ρ p+p.k_*Ch ρ p=0:=(by rw[<-Int.add_mul,z,Int.zero_mul]);simp only[px,Qk,k];omega;simp only[px,Qk,e2,k,Int.add_mul];omega;split;have:=Uf ρ hp (l:=l) (fun q hq=>h q (by simp[hq]));simp only[px,this];omega;simp only[px];omega
theorem si{c:Int}(h:FitPart q):FitPart {q with k_:=c}:=⟨h.of_,h.kd,h.sm,h.ln⟩
theorem Dc(ρ:Int->Int->Int):∀{m l:List GPart},(∀q∈l,FitPart q)->(∀q∈m,FitPart q)->px ρ (eh l m)=px ρ l+px ρ m
 |[],l,_,_=>by simp[eh,px]
 |p::m,l,h,g=>by have e:=Dc ρ (m:=m) (l:=kw p l) (Ex (fun q c hq=>si hq) (g p (by simp)) h) (fun q hq=>g q (by simp[hq]));show px ρ (eh (kw p l) m)=_;rw[e,Uf ρ (g p (by simp)) h];simp only[px];omega
theorem nr{p:GPart}:∀{m:List GPart} {s:List GPart},(∀q∈m,jy p q<0)->eh (p::s) m=p::eh s m
 |[],s,_=>rfl
 |q::m,s,h=>by have h1:=h q (by simp);show eh (kw q (p::s)) m=p::eh (kw q s) m;have e:kw q (p::s)=p::kw q s:=(by show(if jy p q=0 then _ else if jy p q<0 then p::kw q s else _)=_;rw[a0c (by omega),a0d h1]);rw[e];exact nr (fun x hx=>h x (by simp[hx]))
def Cg:List GPart->List GPart->List GPart
 |[],m=>m
 |p::l,[]=>p::l
 |p::l,q::m=>if jy p q=0 then(if q.k_+p.k_=0 then Cg l m else{q with k_:=q.k_+p.k_}::Cg l m)else if jy p q<0 then p::Cg l (q::m)else q::Cg (p::l) m
termination_by l m=>l.length+m.length
theorem De:∀{m:List GPart},Srt m->eh [] m=m
 |[],_=>rfl
 |q::m,h=>by show eh [q] m=q::m;rw[nr h.hd,De h.tail]
theorem Av:∀(n:Nat) (l m:List GPart),l.length+m.length<=n->Srt l->Srt m->(∀p∈l,FitPart p)->(∀q∈m,FitPart q)->Cg l m=eh l m
 |_,[],m,_,_,hm,_,_=>by rw[Cg,De hm]
 |_,p::l,[],_,_,_,_,_=>by rw[Cg];rfl
 |0,p::l,q::m,hn,_,_,_,_=>by simp at hn
 |n+1,p::l,q::m,hn,hl,hm,fl,fm=>by
  simp only[a0r]at hn;have fl':∀x∈l,FitPart x:=fun x hx=>fl x (by simp[hx])
  have fm':∀x∈m,FitPart x:=fun x hx=>fm x (by simp[hx]);rw[Cg];show _=eh (kw q (p::l)) m
  split;rename_i e;have e2:kw q (p::l)=if p.k_+q.k_=0 then l else{p with k_:=p.k_+q.k_}::l:=by show(if jy p q=0 then _ else _)=_;rw[a0d e]
  rw[e2,Int.add_comm q.k_];split;exact Av n l m (by omega) hl.tail hm.tail fl' fm';rw[nr (fun x hx=>by show jy p x<0;rw[Pv e];exact hm.hd x hx),Av n l m (by omega) hl.tail hm.tail fl' fm'];obtain⟨k1,k2,k3,k4⟩:=Nt (fl p (by simp)) (fm q (by simp)) e;rw[k1,k2,k3,k4];split;rename_i e1 e2;have e3:kw q (p::l)=p::kw q l:=by show(if jy p q=0 then _ else if jy p q<0 then p::kw q l else _)=_;rw[a0c e1,a0d e2]
  rw[e3,nr (fun x hx=>Dm e2 (hm.hd x hx)),Av n l (q::m) (by simp only[a0r];omega) hl.tail hm fl' fm];rfl;rename_i e1 e2;have e3:kw q (p::l)=q::p::l:=by show(if jy p q=0 then _ else if jy p q<0 then p::kw q l else _)=_;rw[a0c e1,a0c e2]
  rw[e3,nr hm.hd,Av n (p::l) m (by simp only[a0r];omega) hl hm.tail fl fm']
def tg(x y:GTm):GTm:=⟨x.g_+y.g_,eh x.a_ y.a_⟩
def K6{y:GTm}(hx:FitTm x)(hy:FitTm y)(hl:x.a_.length+y.a_.length<=140737488355328):FitTm (tg x y):=
 ⟨⟨a0m (pi _ _) hl,pj (fun q c hq=>si hq) hx.a_.2 hy.a_.2⟩,Dd hx.srt hy.srt.2⟩
def ak5{y:GTm}(hx:FitTm x)(hy:FitTm y)(ρ:Int->Int->Int):tvL ρ (tmA (tg x y))=tvL ρ (tmA x)+tvL ρ (tmA y):=by rw[kv,kv,kv];show x.g_+y.g_+px ρ (eh x.a_ y.a_)=_;rw[Dc ρ hx.a_.2 hy.a_.2];omega
def zT:GTm:=⟨0,[]⟩
def d6(t:GTm):Option GTm:=if smR (tmA t)=true then some t else none
def scT(n:Int)(x:GTm):GTm:=if n=0 then zT else⟨x.g_*n,x.a_.map (fun p=>{p with k_:=p.k_*n})⟩
def dvP(x:GTm)(b:Int):GPart:=⟨1,2,0,b,[tmA x]⟩
def dvT(x:GTm)(b:Int):GTm:=⟨0,[dvP x b]⟩
def um(k v:Int):GTm:=⟨0,[⟨1,k,v,0,[]⟩]⟩
def yt(x:GTm)(b:Int):Option GTm:=if b=1 then some x else if x.a_=[]then some ⟨x.g_.fdiv b,[]⟩else d6 (dvT x b)
theorem kg{u:GTm}(h:d6 t=some u):u=t/\smR (tmA t)=true:=by grind[d6]
def dc:FitTm zT:=⟨⟨a0h _,by simp[zT]⟩,Rx⟩
def nu{c:Int}:FitTm ⟨c,[]⟩:=⟨⟨a0h _,by simp⟩,Rx⟩
def ahq{c k v:Int}(h:k=0\/k=1):PK ⟨c,k,v,b,[]⟩:=⟨by simp only;omega,fun e=>by simp only at e;omega,fun _=>rfl⟩
def ny{k v:Int}(h:k=0\/k=1):FitTm (um k v):=
 ⟨⟨by show 1<=_;decide,fun p hp=>by rw[az9.1 hp];exact⟨⟨a0h _,fun x hx=>absurd hx (by simp)⟩,ahq h,fun x hx=>absurd hx (by simp),fun x hx=>absurd hx (by simp)⟩⟩,Rx.cons (p:=⟨1,k,v,0,[]⟩) (by simp) (by simp)⟩
def ac4(hx:FitTm x):FitTm (scT n x):=by unfold scT;split;exact dc;rename_i hn;exact⟨⟨by simpa using hx.a_.1,fun p hp=>by obtain⟨q,hq,rfl⟩:=a0v.1 hp;exact si (hx.a_.2 q hq)⟩,List.pairwise_map.2 hx.srt.1,fun p hp=>by obtain⟨q,hq,rfl⟩:=a0v.1 hp;exact fun e=>(Int.mul_eq_zero.1 e).elim (hx.srt.2 q hq) hn⟩
theorem Rr(ρ:Int->Int->Int)(n:Int):∀l:List GPart,px ρ (l.map (fun p=>{p with k_:=p.k_*n}))=n*px ρ l
 |[]=>by simp[px]
 |p::l=>by simp only[a0t,px,Rr ρ n l,Int.mul_add];have:Qk ρ {p with k_:=p.k_*n}=n*Qk ρ p:=(by show p.k_*n*Ch ρ p=n*(p.k_*Ch ρ p);rw[Int.mul_comm p.k_ n,Int.mul_assoc]);rw[this]
def anf(n:Int)(x:GTm)(ρ:Int->Int->Int):tvL ρ (tmA (scT n x))=n*tvL ρ (tmA x):=by rw[kv,kv];unfold scT;split;rename_i e;rw[e];simp[zT,px];show x.g_*n+px ρ (x.a_.map _)=_;rw[Rr,Int.mul_add,Int.mul_comm]
def Gm(n:Int)(x:GTm):(scT n x).a_.length<=x.a_.length:=by unfold scT;split;exact a0h _;simp
def Vn(hx:FitTm x)(hb:1<=b/\b<=1000)(h6:smR (tmA x)=true)(hl:x.a_.length<=1000000):FitTm (dvT x b):=
 ⟨⟨by show 1<=_;decide,fun p hp=>by rw[az9.1 hp];exact⟨⟨by show 1<=_;decide,fun r hr=>by rw[az9.1 hr];exact I0 hx⟩,⟨⟨by show(0:Int)<=2;decide,by show(2:Int)<=2;decide⟩,fun _=>⟨rfl,hb.1,hb.2⟩,fun e=>absurd rfl e⟩,fun r hr=>by rw[az9.1 hr];exact h6,fun r hr=>by rw[az9.1 hr];exact(vo x).2 hl⟩⟩,Rx.cons (by show(1:Int)≠0;decide) (by simp)⟩
def aq0(ρ:Int->Int->Int):tvL ρ (tmA (dvT x b))=(tvL ρ (tmA x)).fdiv b:=by rw[kv];simp[dvT,dvP,px,Qk,Ch,ofL]
def absM{c k:Int}(hb:-b<=k/\k<=b):-(ci c*b)<=c*k/\c*k<=ci c*b:=by
 have h1:c*k<=ci c*b/\-(ci c*b)<=c*k:=by
  rcases aq c with⟨h,e⟩|⟨h,e⟩<;>rw[e];exact⟨Int.mul_le_mul_of_nonneg_left hb.2 h,by rw[<-Int.mul_neg];exact Int.mul_le_mul_of_nonneg_left hb.1 h⟩;have e1:c*k=-c* -k:=by simp[Int.neg_mul,Int.mul_neg]
  rw[e1];exact⟨Int.mul_le_mul_of_nonneg_left (by omega) (by omega),by rw[<-Int.mul_neg];exact Int.mul_le_mul_of_nonneg_left (by omega) (by omega)⟩
 exact⟨h1.2,h1.1⟩
def ajn(hb:1<=b)(hm:0<=m)(h:-m<=n/\n<=m):-(m.tdiv b+1)<=n.fdiv b/\n.fdiv b<=m.tdiv b+1:=by rw[Int.fdiv_eq_ediv_of_nonneg _ (by omega),Int.tdiv_eq_ediv_of_nonneg hm];have h1:n/b<=m/b:=Int.ediv_le_ediv (by omega) h.2;have h2:(-m)/b<=n/b:=Int.ediv_le_ediv (by omega) h.1;have h3:-(m/b+1)<=(-m)/b:=(by rw[Int.le_ediv_iff_mul_le (by omega)];have:=Int.emod_add_mul_ediv m b;have h4:=Int.emod_lt_of_pos m (by omega:0<b);rw[Int.neg_mul,Int.add_mul,Int.mul_comm (m/b) b];omega);omega
def az2(r:List AV):Prop:=0<=bdL r/\Bd r (bdL r)
def afu(hp:FitPart p)(ih:∀r∈p.of_,az2 r):0<=bdK p/\∀ρ,X7 ρ->-bdK p<=Ch ρ p/\Ch ρ p<=bdK p:=by unfold bdK Ch;by_cases h:p.c_=2;obtain⟨r,hr⟩:=a01.1 (hp.kd.2.1 h).1;have hb:=(hp.kd.2.1 h).2;have h1:=ih r (by rw[hr];simp);simp only[a0d h,hr,alx,ofL];refine⟨?_,fun ρ hρ=>ajn hb.1 h1.1 (h1.2 ρ hρ)⟩;rw[Int.tdiv_eq_ediv_of_nonneg h1.1];have:=Int.ediv_nonneg h1.1 (by omega:0<=p.by_);omega;simp only[a0c h];by_cases h1:p.c_=1;simp only[a0d h1];exact⟨by decide,fun ρ hρ=>by rw[h1];exact⟨(hρ _).2.1,(hρ _).2.2.1⟩⟩;simp only[a0c h1];exact⟨by decide,fun ρ hρ=>(hρ _).1 _⟩
theorem aft:∀{l:List GPart},(∀p∈l,0<=bdK p/\∀ρ,X7 ρ->-bdK p<=Ch ρ p/\Ch ρ p<=bdK p)->0<=bdS l/\∀ρ,X7 ρ->-bdS l<=px ρ l/\px ρ l<=bdS l
 |[],_=>⟨Int.le_refl _,fun ρ _=>by simp[bdS,px]⟩
 |p::l,h=>by have h1:=aft (l:=l) (fun x hx=>h x (by simp[hx]));have h2:=h p (by simp);have h3:0<=ci p.k_*bdK p:=Int.mul_nonneg (by have:=aq p.k_;omega) h2.1;simp only[bdS,px];refine⟨by omega,fun ρ hρ=>?_⟩;have h4:=absM (c:=p.k_) (h2.2 ρ hρ);have h5:=h1.2 ρ hρ;simp only[Qk];omega
def Xb(h:IsTm r):az2 r:=
 IsTm.ind (M:=az2) (fun x hx ih=>by have h1:=aft (fun p hp=>afu (hx.a_.2 p hp) (ih p hp));have h2:=aq x.g_;refine⟨by rw[pq];omega,fun ρ hρ=>?_⟩;have:=h1.2 ρ hρ;rw[kv,pq];omega) h
def Xc(hp:FitPart p):0<=bdK p:=(afu hp fun r hr=>Xb (hp.of_.2 r hr)).1
def Bd.mono(h:Bd r m)(hm:m<=n):Bd r n:=fun ρ hρ=>by have:=h ρ hρ;omega
def B60(x:GTm):Prop:=Bd (tmA x) 1152921504606846976
def vf(hx:FitTm x)(h:smR (tmA x)=true):B60 x:=(Xb (I0 hx)).2.mono ((ja x).1 h).2
def il(h:smR (tmA x)=true):I2 x:=((ja x).1 h).1
def lc(op:Int)(a b:GTm):Option GTm:=
 if op=4 then d6 (tg a b)
 else if op=5 then(d6 (scT (-1) b)).bind fun c=>d6 (tg a c)
 else if op=6 then(if a.a_≠[]/\b.a_≠[]then none else if b.a_≠[]then d6 (scT a.g_ b)else d6 (scT b.g_ a))
 else if b.a_≠[]\/b.g_<1\/b.g_>1000 then none
 else(yt a b.g_).bind fun q=>if op=7 then some q else(d6 (scT (-b.g_) q)).bind fun m=>d6 (tg a m)
def A6:List (List AV)->Option GTm
 |[[.v (.int _ op),.v _,.v _,.v (.int _ ix),.v (.int _ k),.v (.int _ i),.v (.string s),.tree _ []]]=>if op=1/\k=2 then some ⟨((s.size:Nat):Int),[]⟩else if op=2/\0<=ix then some (um 1 ix)else none
 |_=>none
mutual
def ofT:List AV->Option GTm
 | [.v (.int _ op),.v _,.v _,.v (.int _ ix),.v (.int _ k),.v (.int _ i),.v (.string s),.tree _ es]=>
  if op=9 then(A6 es).bind d6
  else(Jv es).bind fun l=>
   match l with
   | []=>if op=1/\k=1 then d6 ⟨i,[]⟩else if op=2/\0<=ix then some (um 0 ix)else none
   | [a]=>if op=3 then d6 (scT (-1) a)else none
   | [a,b]=>if 4<=op/\op<=8 then lc op a b else none
   |_=>none
 |_=>none
def Jv:List (List AV)->Option (List GTm)
 | []=>some []
 |r :: rs=>(ofT r).bind fun t=>(Jv rs).map (t :: ·)
end
def jo(a b:Int):Int:=if a<b then -1 else if b<a then 1 else 0
section
variable{p q:GPart}{v:Int}
def Ns(h:¬p.c_=q.c_)(hv:v=jo p.c_ q.c_):v=jy p q:=by rw[hv,Fb,jo];split;rfl;split;rfl;omega
def Wa(h1:p.c_=q.c_)(h:¬p.o_=q.o_)(hv:v=jo p.o_ q.o_):v=jy p q:=by rw[hv,Fb,jo,h1,a0c (Int.lt_irrefl _),a0c (Int.lt_irrefl _)];split;rfl;split;rfl;omega
def ae0(h1:p.c_=q.c_)(h2:p.o_=q.o_)(h:¬p.by_=q.by_)(hv:v=jo p.by_ q.by_):v=jy p q:=by rw[hv,Fb,jo,h1,h2,a0c (Int.lt_irrefl _),a0c (Int.lt_irrefl _),a0c (Int.lt_irrefl _),a0c (Int.lt_irrefl _)];split;rfl;split;rfl;omega
theorem Kr(h1:p.c_=q.c_)(h2:p.o_=q.o_)(h3:p.by_=q.by_):jy p q=lx (Pz p.of_) (Pz q.of_):=by simp_all [Fb,Int.lt_irrefl]
theorem Wb(hp:PK p)(hq:PK q)(h1:p.c_=q.c_)(h2:p.o_=q.o_)(h3:p.by_=q.by_)(h:p.of_.length=0\/q.of_.length=0):p.of_=[]/\q.of_=[]:=by by_cases e:p.c_=2;have g1:=(hp.2.1 e).1;have g2:=(hq.2.1 (by omega)).1;omega;exact⟨hp.2.2 e,hq.2.2 (by omega)⟩
def Wc(hp:PK p)(hq:PK q)(h1:p.c_=q.c_)(h2:p.o_=q.o_)(h3:p.by_=q.by_)(h:p.of_.length=0\/q.of_.length=0)(hv:v=jo (p.of_.length:Nat) (q.of_.length:Nat)):v=jy p q:=by grind[Wb,Kr,jo,Pz,lx]
theorem aez(h1:p.c_=q.c_)(h2:p.o_=q.o_)(h3:p.by_=q.by_)(hl:0<p.of_.length)(hm:0<q.of_.length)(hv:v=lx (cdT p.of_[0]) (cdT q.of_[0])):v=jy p q:=by
 rw[Kr h1 h2 h3,hv];match h0:p.of_,h4:q.of_,hl,hm with
 |r::_,s::_,_,_=>simp only[h0,h4,List.getElem_cons_zero,Pz]
end
section
variable{x y:GTm}{k:Nat}{v:Int}
def Wh(hx:FitTm x)(hy:FitTm y)(h:CmI x y k)(h1:k<x.a_.length)(h2:k<y.a_.length)(hn:¬jy x.a_[k] y.a_[k]=0):jy x.a_[k] y.a_[k]=lx (cdT (tmA x)) (cdT (tmA y)):=by rw[aj5 hx hy h h1 h2,a0c hn]
def Wl(hx:FitTm x)(hy:FitTm y)(h:CmI x y k)(h1:k<x.a_.length)(h2:k<y.a_.length)(hn:jy x.a_[k] y.a_[k]=0)(hc:¬x.a_[k].k_=y.a_[k].k_)(hv:v=jo x.a_[k].k_ y.a_[k].k_):v=lx (cdT (tmA x)) (cdT (tmA y)):=by grind[aj5,jo]
def Wi(hx:FitTm x)(hy:FitTm y)(h:CmI x y k)(h1:k<x.a_.length)(h2:k<y.a_.length)(hn:jy x.a_[k] y.a_[k]=0)(hc:x.a_[k].k_=y.a_[k].k_):CmI x y (k+1):=by have:=aj5 hx hy h h1 h2;rw[a0d hn,hc,a0c (Int.lt_irrefl _),a0c (Int.lt_irrefl _)]at this;exact this
def Wj(hx:FitTm x)(hy:FitTm y)(h:CmI x y k)(h1:k<=x.a_.length)(h2:k<=y.a_.length)(h3:k=x.a_.length\/k=y.a_.length)(hc:¬x.a_.length=y.a_.length)(hv:v=jo (x.a_.length:Nat) (y.a_.length:Nat)):v=lx (cdT (tmA x)) (cdT (tmA y)):=by grind[ae2,jo]
def Fc(hx:FitTm x)(hy:FitTm y)(h:CmI x y k)(h1:k<=x.a_.length)(h2:k<=y.a_.length)(h3:k=x.a_.length\/k=y.a_.length)(hc:x.a_.length=y.a_.length)(hv:v=jo x.g_ y.g_):v=lx (cdT (tmA x)) (cdT (tmA y)):=by rw[ae2 hx hy h h1 h2 h3,hv,jo,hc,a0c (Nat.lt_irrefl _),a0c (Nat.lt_irrefl _)]
end
structure KI where
 k:Nat
 L:List GPart
 put:Bool
def Lc(l:List GPart)(p:GPart)(s:KI):Prop:=s.L++(if s.put=true then l.drop s.k else kw p (l.drop s.k))=kw p l/\(∀q∈s.L,FitPart q)/\s.L.length<=s.k+(if s.put=true then 1 else 0)
section
variable{l:List GPart}{p:GPart}{s:KI}
def ins0:Lc l p ⟨0,[],false⟩:=⟨rfl,fun _ h=>absurd h (by simp),a0j _⟩
def Nb(h:Lc l p s):s.L.length<=s.k+1:=by have:=h.2.2;split at this<;>omega
def Uj(h:Lc l p s)(hk:s.k<l.length)(hf:FitPart l[s.k])(hc:s.put=true\/jy l[s.k] p<0):Lc l p ⟨s.k+1,s.L++[l[s.k]],s.put⟩:=by grind[Lc,az9,az8,List.length_singleton,a00,jy,kw]
def ai3(h:Lc l p s)(hp:s.put=false)(hk:s.k<l.length)(hc:jy l[s.k] p=0)(hf:FitPart l[s.k])(hz:¬l[s.k].k_+p.k_=0):Lc l p ⟨s.k+1,s.L++[{l[s.k]with k_:=l[s.k].k_+p.k_}],true⟩:=by grind[Lc,az9,si,a00,kw]
def ai4(h:Lc l p s)(hp:s.put=false)(hk:s.k<l.length)(hc:jy l[s.k] p=0)(hz:l[s.k].k_+p.k_=0):Lc l p ⟨s.k+1,s.L,true⟩:=by refine⟨?_,h.2.1,by have:=h.2.2;rw[hp]at this;simp at this;simp;omega⟩;rw[<-h.1,a00 hk,hp];simp only[Bool.false_eq_true,if_false,if_true,kw,hc,hz]
def ap6(h:Lc l p s)(hp:s.put=false)(hk:s.k<l.length)(hc:jy l[s.k] p>0)(hf:FitPart l[s.k])(h0:FitPart p):Lc l p ⟨s.k+1,s.L++[p]++[l[s.k]],true⟩:=by refine⟨by rw[<-h.1,a00 hk,hp];simp only[Bool.false_eq_true,if_false,if_true,kw];rw[a0c (by omega),a0c (by omega)];simp,fun q hq=>?_,by have:=h.2.2;rw[hp]at this;simp at this;simp;omega⟩;simp only[a0a,az9]at hq;rcases hq with(hq|rfl)|rfl;exact h.2.1 q hq;exact h0;exact hf
def ap7(h:Lc l p s)(hk:¬s.k<l.length)(hp:s.put=true):s.L=kw p l:=by rw[<-h.1,a0d hp,List.drop_of_length_le (by omega),List.append_nil]
def ai5(h:Lc l p s)(hk:¬s.k<l.length)(hp:s.put=false):s.L++[p]=kw p l:=by rw[<-h.1,hp,List.drop_of_length_le (by omega)];rfl
end
def Cf(M:Int)(l:List GPart):Prop:=∀q∈l,-M<=q.k_/\q.k_<=M
theorem Ui{M N:Int}{p:GPart}(hN:0<=N)(hp:-N<=p.k_/\p.k_<=N)(hM:0<=M):∀{l:List GPart},Cf M l->Cf (M+N) (kw p l)
 |[],h=>fun q hq=>by simp only[kw,az9]at hq;subst hq;omega
 |q::l,h=>by have hq:=h q (by simp);have hl:Cf M l:=fun r hr=>h r (by simp[hr]);intro r hr;simp only[kw]at hr;split at hr;split at hr;have:=hl r hr;omega;rcases a0w.1 hr with rfl|hr;show -(M+N)<=q.k_+p.k_/\q.k_+p.k_<=M+N;omega;have:=hl r hr;omega;split at hr;rcases a0w.1 hr with rfl|hr;omega;exact Ui hN hp hM hl r hr;rcases a0w.1 hr with rfl|hr;omega;have:=h r hr;omega
theorem J8{l m:List GPart}(h:k<m.length):eh l (m.take (k+1))=kw m[k] (eh l (m.take k)):=by unfold eh;rw[a0g h,List.foldl_append];rfl
theorem Pe{l m:List GPart}(h:¬k<m.length):eh l (m.take k)=eh l m:=by rw[a0x (by omega)]
structure KS where
 k:Nat
 s:Int
def big:Int:=1152921504606846976
def zq(r:List AV):Int:=if smR r=true then bdL r else big+1
def BdI(x:GTm)(s:KS):Prop:=(0<=s.s/\s.s<=big)/\s.s=ci x.g_+bdS (x.a_.take s.k)/\∀p∈x.a_.take s.k,-1048576<=p.k_/\p.k_<=1048576
theorem Fg{l:List GPart}(h:k<l.length):bdS (l.take (k+1))=bdS (l.take k)+ci l[k].k_*bdK l[k]:=by
 rw[a0g h]
 have:∀a:List GPart,∀p,bdS (a++[p])=bdS a+ci p.k_*bdK p:=by
  intro a p
  induction a with
  |nil=>simp[bdS]
  |cons q a ih=>simp only[List.cons_append,bdS,ih];omega
 exact this _ _
theorem N1:∀{l:List GPart},(∀p∈l,FitPart p)->0<=bdS l
 |[],_=>by simp[bdS]
 |p::l,h=>by have h1:=N1 (l:=l) fun q hq=>h q (by simp[hq]);have h2:=Int.mul_nonneg (kr p.k_) (Xc (h p (by simp)));simp only[bdS];omega
theorem as9{l:List GPart}(h:∀p∈l,FitPart p):∀k,bdS (l.take k)<=bdS l:=fun k=>by
 have e:=List.take_append_drop k l
 have:∀a b:List GPart,bdS (a++b)=bdS a+bdS b:=by
  intro a b
  induction a with
  |nil=>simp[bdS]
  |cons q a ih=>simp only[List.cons_append,bdS,ih];omega
 have h2:=N1 (l:=l.drop k) fun p hp=>h p (List.mem_of_mem_drop hp)
 have h3:bdS l=bdS (l.take k)+bdS (l.drop k):=by rw[<-this,e]
 omega
section
variable{x:GTm}{s:KS}
def bd0(h:-1099511627776<=x.g_/\x.g_<=1099511627776):BdI x ⟨0,ci x.g_⟩:=by have:=aq x.g_;refine⟨⟨by show 0<=ci x.g_;omega,by show ci x.g_<=big;unfold big;omega⟩,by simp[bdS],by simp⟩
def abx(h:¬(-1099511627776<=x.g_/\x.g_<=1099511627776)):big+1=zq (tmA x):=by unfold zq;rw[a0c fun h2=>h ((ja x).1 h2).1.1]
def akv(hk:s.k<x.a_.length)(h:¬(-1048576<=x.a_[s.k].k_/\x.a_[s.k].k_<=1048576)):big+1=zq (tmA x):=by unfold zq;rw[a0c fun h2=>h (((ja x).1 h2).1.2 _ (az4 hk))]
def Xa(hx:FitTm x)(hk:s.k<x.a_.length)(hi:BdI x s)(h:s.s+ci x.a_[s.k].k_*bdK x.a_[s.k]>big):big+1=zq (tmA x):=by unfold zq;rw[a0c fun h2=>?_];have h3:=((ja x).1 h2).2;rw[pq]at h3;have h4:=as9 hx.a_.2 (s.k+1);rw[Fg hk]at h4;have:=hi.2.1;unfold big at h;omega
def afs{c:Int}(hc:¬c=0)(hb:0<=b)(h:b>big.tdiv (ci c)):ci c*b>big:=by have hp:0<ci c:=(by have:=aq c;omega);rw[Int.tdiv_eq_ediv_of_nonneg (by decide)]at h;have:=Int.lt_mul_of_ediv_lt hp (b:=b) h;rw[Int.mul_comm];exact this
def afr{c:Int}(hb:0<=b)(h:c=0\/¬b>big.tdiv (ci c)):0<=ci c*b/\ci c*b<=big:=by refine⟨Int.mul_nonneg (kr c) hb,?_⟩;by_cases hc:c=0;subst hc;simp[ci,big];have hp:0<ci c:=(by have:=aq c;omega);have h:=h.resolve_left hc;rw[Int.tdiv_eq_ediv_of_nonneg (by decide)]at h;have:b*ci c<=big:=(Int.le_ediv_iff_mul_le hp).1 (by omega);rw[Int.mul_comm];exact this
def aku(hi:BdI x s)(hk:s.k<x.a_.length)(hc:-1048576<=x.a_[s.k].k_/\x.a_[s.k].k_<=1048576){v:Int}(hv:v=s.s+ci x.a_[s.k].k_*bdK x.a_[s.k])(h:0<=v/\¬v>big):BdI x ⟨s.k+1,v⟩:=by refine⟨⟨h.1,by show v<=big;omega⟩,by show v=_;rw[hv,hi.2.1,Fg hk,Int.add_assoc],fun p hp=>?_⟩;rw[a0g hk]at hp;rcases a0a.1 hp with hp|hp;exact hi.2.2 p hp;rw[az9.1 hp];exact hc
def as8(hi:BdI x s)(hk:¬s.k<x.a_.length)(hc:-1099511627776<=x.g_/\x.g_<=1099511627776):s.s=zq (tmA x):=by obtain⟨h1,h2,h3⟩:=hi;rw[a0x (by omega)]at h2 h3;unfold zq;rw[a0d ((ja x).2 ⟨⟨hc,h3⟩,by rw[pq];unfold big at h1;omega⟩),pq,h2]
def W3:zq (tmA x)<=big↔smR (tmA x)=true:=by unfold zq;constructor;intro h;by_cases e:smR (tmA x)=true;exact e;rw[a0c e]at h;unfold big at h;omega;intro e;rw[a0d e];exact((ja x).1 e).2
end
def x6(a b:Int):Int:=if -big<=a*b/\a*b<=big then a*b else big
theorem Oa(a b:Int):ci (a*b)=ci a*ci b:=by
 have e:∀n:Int,ci n=n.natAbs:=fun n=>by have:=aq n;omega
 rw[e,e,e,Int.natAbs_mul];rfl
theorem y2(h:a=0\/b=0):0=x6 a b:=by grind[x6,big]
def amp(h:ci (a*b)<=big):a*b=x6 a b:=by have:=aq (a*b);unfold x6;rw[a0d (by omega)]
def agt(h:ci (a*b)>big):big=x6 a b:=by have:=aq (a*b);unfold x6;rw[a0c (by omega)]
def Jc(ha:a≠0)(hb:b≠0)(h:ci a>big\/ci b>big\/ci a>big.tdiv (ci b)):big=x6 a b:=by have h1:1<=ci a:=(by have:=aq a;omega);have h2:1<=ci b:=(by have:=aq b;omega);refine agt ?_;rw[Oa];rcases h with h|h|h;have:=Int.mul_le_mul_of_nonneg_left h2 (by omega:0<=ci a);omega;have:=Int.mul_le_mul_of_nonneg_right h1 (by omega:0<=ci b);omega;have:=afs hb (by omega) h;rw[Int.mul_comm];exact this
def amo(hb:b≠0)(h:¬ci a>big.tdiv (ci b)):(-big<=a*b/\a*b<=big)/\a*b=x6 a b:=by have h0:=kr a;have h1:=afr (c:=b) h0 (.inr h);have h2:ci (a*b)<=big:=(by rw[Oa,Int.mul_comm];exact h1.2);exact⟨by have:=aq (a*b);omega,amp h2⟩
def acz(ha:a≠0)(hb:b≠0):x6 a b≠0:=by grind[x6,Int.mul_eq_zero,big]
def scL(n:Int)(l:List GPart):List GPart:=if n=0 then[]else l.map fun p=>{p with k_:=x6 p.k_ n}
def scW(n:Int)(x:GTm):GTm:=⟨x6 x.g_ n,scL n x.a_⟩
structure ScI(x:GTm)(n:Int)(s:KL GPart):Prop where
 len:s.L.length<=s.k
 eq:s.L=scL n (x.a_.take s.k)
section
variable{x:GTm}{n v:Int}{s:KL GPart}
def sc0(x:GTm)(n:Int):ScI x n ⟨0,[]⟩:=⟨a0j _,by simp[scL]⟩
def anh(h:ScI x n s)(hk:s.k<x.a_.length)(hv:v=x6 x.a_[s.k].k_ n)(hz:¬v=0):ScI x n ⟨s.k+1,s.L++[{x.a_[s.k]with k_:=v}]⟩:=by have hn:¬n=0:=fun e=>hz (by rw[hv,<-y2 (.inr e)]);refine⟨by have:=h.len;simp only[az8,List.length_singleton];omega,?_⟩;show s.L++[_]=scL n (x.a_.take (s.k+1));rw[h.eq,a0g hk];unfold scL;rw[a0c hn,a0c hn,a0u,hv];rfl
def ani(hx:FitTm x)(h:ScI x n s)(hk:s.k<x.a_.length)(hv:v=x6 x.a_[s.k].k_ n)(hz:v=0):ScI x n ⟨s.k+1,s.L⟩:=by have hn:n=0:=Classical.byContradiction fun e=>acz (hx.srt.2 _ (az4 hk)) e (hv.symm.trans hz);refine⟨by have:=h.len;show s.L.length<=s.k+1;omega,?_⟩;show s.L=scL n (x.a_.take (s.k+1));rw[h.eq];unfold scL;rw[a0d hn,a0d hn]
def ag9(hx:FitTm x):FitTm (scW n x):=by unfold scW scL;split;exact nu;rename_i hn;exact⟨⟨by simpa using hx.a_.1,fun p hp=>by obtain⟨q,hq,rfl⟩:=a0v.1 hp;exact si (hx.a_.2 q hq)⟩,List.pairwise_map.2 hx.srt.1,fun p hp=>by obtain⟨q,hq,rfl⟩:=a0v.1 hp;exact acz (hx.srt.2 q hq) hn⟩
theorem ank(h:ScI x n s)(hge:¬s.k<x.a_.length)(hv:v=x6 x.g_ n):(⟨v,s.L⟩:GTm)=scW n x:=by have:=h.eq;rw[a0x (by omega)]at this;rw[this,hv];rfl
def arv{n:Int}(h:-1099511627776<=x6 a n/\x6 a n<=1099511627776):x6 a n=a*n:=by grind[x6,big]
def aym{n:Int}(h:-1099511627776<=a*n/\a*n<=1099511627776):x6 a n=a*n:=by unfold x6;rw[a0d (by unfold big;omega)]
theorem apu(n:Int)(x:GTm):d6 (scW n x)=d6 (scT n x):=by by_cases hn:n=0;have e:scW n x=scT n x:=(by unfold scW scT scL;rw[a0d hn,a0d hn,<-y2 (.inr hn)];rfl);rw[e];have key:∀f g:Int->Int->Int,((∀a,(-1099511627776<=f a n/\f a n<=1099511627776)->f a n=g a n))->smR (tmA ⟨f x.g_ n,x.a_.map fun p=>{p with k_:=f p.k_ n}⟩)=true->(⟨f x.g_ n,x.a_.map fun p=>{p with k_:=f p.k_ n}⟩:GTm)=⟨g x.g_ n,x.a_.map fun p=>{p with k_:=g p.k_ n}⟩:=(by intro f g h0 hs;obtain⟨h1,h2⟩:=((ja _).1 hs).1;have e1:=h0 x.g_ h1;have e2:(x.a_.map fun p=>{p with k_:=f p.k_ n})=x.a_.map fun p=>{p with k_:=g p.k_ n}:=(by refine List.map_congr_left fun p hp=>?_;have:=h2 {p with k_:=f p.k_ n} (a0v.2 ⟨p,hp,rfl⟩);rw[h0 p.k_ (by simp only at this;omega)]);rw[e1,e2]);have ew:scW n x=⟨x6 x.g_ n,x.a_.map fun p=>{p with k_:=x6 p.k_ n}⟩:=(by unfold scW scL;rw[a0c hn]);have et:scT n x=⟨x.g_*n,x.a_.map fun p=>{p with k_:=p.k_*n}⟩:=(by unfold scT;rw[a0c hn]);unfold d6;by_cases h1:smR (tmA (scW n x))=true;have h2:=h1;rw[ew]at h2;have e:=key x6 (fun a b=>a*b) (fun a h=>arv h) h2;have e':scW n x=scT n x:=(by rw[ew,et];exact e);rw[e']at h1 ⊢;by_cases h3:smR (tmA (scT n x))=true;have h2:=h3;rw[et]at h2;have e:=key (fun a b=>a*b) x6 (fun a h=>(aym h).symm) h2;have e':scW n x=scT n x:=(by rw[ew,et];exact e.symm);rw[e']at h1;exact absurd h3 h1;rw[a0c h1,a0c h3]
end
def ab9(x:GEx)(t:GTm):Prop:=x.op_=9/\∃a:GEx,x.b_=[exA a]/\a.b_=[]/\((a.op_=1/\a.j_.c_=2/\t=⟨((a.j_.l_.size:Nat):Int),[]⟩)\/(a.op_=2/\0<=a.i_/\t=um 1 a.i_))
theorem apy{x:GEx}(h:ab9 x t):A6 x.b_=some t:=by obtain⟨_,a,ha,h0,h⟩:=h;rw[ha];rcases h with⟨h1,h2,rfl⟩|⟨h1,h2,rfl⟩;simp only[exA,h0,List.map_nil,A6,h1,h2];simp;simp only[exA,h0,List.map_nil,A6,h1];simp[h2]
structure BinOk(op:Int)(a b t:GTm):Prop where
 b6:B60 t
 cf:I2 t
 len:t.a_.length<=2*max a.a_.length b.a_.length+1
 add:op=4->∀ρ,tvL ρ (tmA t)=tvL ρ (tmA a)+tvL ρ (tmA b)
 sub:op=5->∀ρ,tvL ρ (tmA t)=tvL ρ (tmA a)-tvL ρ (tmA b)
 mul:op=6->∀ρ,tvL ρ (tmA t)=tvL ρ (tmA a)*tvL ρ (tmA b)
 dv:op=7\/op=8->b.a_=[]/\1<=b.g_/\b.g_<=1000
 quo:op=7->∀ρ,tvL ρ (tmA t)=(tvL ρ (tmA a)).fdiv b.g_
 md:op=8->∀ρ,tvL ρ (tmA t)=tvL ρ (tmA a)-b.g_*(tvL ρ (tmA a)).fdiv b.g_
def BinOk.quo0{a b:GTm}(h:BinOk op a b t)(o:op=7)(ρ:Int->Int->Int)(hz:ρ 2 0=0):tvL ρ (tmA t)=(tvL ρ (tmA a)).fdiv b.g_:=h.quo o ρ
def BinOk.md0{a b:GTm}(h:BinOk op a b t)(o:op=8)(ρ:Int->Int->Int)(hz:ρ 2 0=0):tvL ρ (tmA t)=tvL ρ (tmA a)-b.g_*(tvL ρ (tmA a)).fdiv b.g_:=h.md o ρ
theorem u6{b:GTm}(h:¬((b.a_.length:Nat):Int)>0)(ρ:Int->Int->Int):tvL ρ (tmA b)=b.g_:=by rw[kv,a0y (by omega:b.a_.length=0)];simp[px]
def yc{u:GTm}(h:d6 t=some u):u=t/\smR (tmA u)=true:=by obtain⟨rfl,h2⟩:=kg h;exact⟨rfl,h2⟩
section
variable{op:Int}{a b t:GTm}
def By(ha:FitTm a)(hb:FitTm b)(hl:a.a_.length+b.a_.length<=140737488355328)(h:d6 (tg a b)=some t):FitTm t/\smR (tmA t)=true/\t.a_.length<=a.a_.length+b.a_.length/\∀ρ,tvL ρ (tmA t)=tvL ρ (tmA a)+tvL ρ (tmA b):=by obtain⟨rfl,h2⟩:=yc h;exact⟨K6 ha hb hl,h2,pi _ _,ak5 ha hb⟩
def i7(ha:FitTm a)(h:d6 (scT n a)=some t):FitTm t/\smR (tmA t)=true/\t.a_.length<=a.a_.length/\∀ρ,tvL ρ (tmA t)=n*tvL ρ (tmA a):=by obtain⟨rfl,h2⟩:=yc h;exact⟨ac4 ha,h2,Gm _ _,anf _ _⟩
def ajm{c b:Int}(hc:-1099511627776<=c/\c<=1099511627776)(hb:1<=b):-1099511627776<=c.fdiv b/\c.fdiv b<=1099511627776:=by rw[Int.fdiv_eq_ediv_of_nonneg _ (by omega)];have h1:c/b<=1099511627776/b:=Int.ediv_le_ediv (by omega) hc.2;have h4:(1099511627776:Int)/b<=1099511627776:=Int.ediv_le_self b (by omega);have h3:-1099511627776<=c/b:=(by rw[Int.le_ediv_iff_mul_le (by omega)];have:(1099511627776:Int)*1<=1099511627776*b:=Int.mul_le_mul_of_nonneg_left hb (by omega);omega);omega
def Vo{d:Int}(ha:FitTm a)(h0:a.a_.length<=1000000)(hs:smR (tmA a)=true)(hd:1<=d/\d<=1000)(h:yt a d=some t):FitTm t/\smR (tmA t)=true/\t.a_.length<=a.a_.length+1/\∀ρ,tvL ρ (tmA t)=(tvL ρ (tmA a)).fdiv d:=by
 unfold yt at h
 split at h
 ·rename_i e;cases h;subst e;exact⟨ha,hs,Nat.le_succ _,fun ρ=>by simp⟩
 ·split at h
  ·rename_i e;cases h
   refine⟨nu,?_,a0h _,fun ρ=>?_⟩
   ·have hc:=ajm (il hs).1 hd.1
    refine(ja _).2 ⟨⟨hc,by simp⟩,?_⟩
    rw[pq];have:=aq (a.g_.fdiv d);simp only[bdS];omega
   ·rw[kv,kv,e];simp[px]
  ·obtain⟨rfl,h2⟩:=yc h
   exact⟨Vn ha hd hs h0,h2,by show 1<=_+1;omega,fun ρ=>aq0 ρ⟩
def afm(h0:4<=op/\op<=8)(ha:FitTm a)(hb:FitTm b)(h7:smR (tmA a)=true)(hl:a.a_.length+b.a_.length<=1000000)(h:lc op a b=some t):FitTm t/\smR (tmA t)=true/\BinOk op a b t:=by have mk:∀{t:GTm},FitTm t->smR (tmA t)=true->B60 t/\I2 t:=fun ht hs=>⟨vf ht hs,il hs⟩;unfold lc at h;split at h;rename_i o;obtain⟨h1,h2,h3,h4⟩:=By ha hb (by omega) h;exact⟨h1,h2,(mk h1 h2).1,(mk h1 h2).2,by omega,fun _=>h4,by omega,by omega,by omega,by omega,by omega⟩;split at h;rename_i o;obtain⟨c,hc,h⟩:=a0q.1 h;obtain⟨g1,g2,g3,g4⟩:=i7 hb hc;obtain⟨h1,h2,h3,h4⟩:=By ha g1 (by omega) h;exact⟨h1,h2,(mk h1 h2).1,(mk h1 h2).2,by omega,by omega,fun _ ρ=>by rw[h4,g4];omega,by omega,by omega,by omega,by omega⟩;split at h;rename_i o;split at h;cases h;rename_i hp;split at h;rename_i h5;have h8:a.a_=[]:=Classical.byContradiction fun e=>hp ⟨e,h5⟩;obtain⟨h1,h2,h3,h4⟩:=i7 hb h;exact⟨h1,h2,(mk h1 h2).1,(mk h1 h2).2,by omega,by omega,by omega,fun _ ρ=>by rw[h4,u6 (b:=a) (by rw[h8];simp)],by omega,by omega,by omega⟩;rename_i h5;have h5:b.a_=[]:=Classical.byContradiction h5;obtain⟨h1,h2,h3,h4⟩:=i7 ha h;exact⟨h1,h2,(mk h1 h2).1,(mk h1 h2).2,by omega,by omega,by omega,fun _ ρ=>by rw[h4,u6 (b:=b) (by rw[h5];simp),Int.mul_comm],by omega,by omega,by omega⟩;split at h;cases h;rename_i hd;have h5:b.a_=[]:=Classical.byContradiction fun e=>hd (.inl e);have h6:1<=b.g_/\b.g_<=1000:=(by omega);obtain⟨q,hq,h⟩:=a0q.1 h;obtain⟨g1,g2,g3,g4⟩:=Vo ha (by omega) h7 h6 hq;split at h;rename_i o;cases h;exact⟨g1,g2,(mk g1 g2).1,(mk g1 g2).2,by omega,by omega,by omega,by omega,fun _=>⟨h5,h6⟩,fun _=>g4,by omega⟩;rename_i o;obtain⟨m,hm,h⟩:=a0q.1 h;obtain⟨f1,f2,f3,f4⟩:=i7 g1 hm;obtain⟨h1,h2,h3,h4⟩:=By ha f1 (by omega) h;exact⟨h1,h2,(mk h1 h2).1,(mk h1 h2).2,by omega,by omega,by omega,by omega,fun _=>⟨h5,h6⟩,by omega,fun _ ρ=>by rw[h4,f4,g4,Int.neg_mul];omega⟩
end
section
variable{op:Int}{a b t u q:GTm}{e:Int}
theorem as6(h:op=4):lc op a b=d6 (tg a b):=by unfold lc;rw[a0d h]
theorem as5(h:op=5)(h1:d6 (scT (-1) b)=some q):lc op a b=d6 (tg a q):=by unfold lc;rw[a0c (by omega),a0d h,h1];rfl
def aks(h:op=5)(h1:d6 (scT (-1) b)=none):lc op a b=none:=by unfold lc;rw[a0c (by omega),a0d h,h1];rfl
def as4(h:op=6)(ha:a.a_.length=0):lc op a b=d6 (scT a.g_ b):=by have ha:=a0y ha;unfold lc;rw[a0c (by omega),a0c (by omega),a0d h,a0c (fun h=>h.1 ha)];split;rfl;rename_i hb;have hb:b.a_=[]:=Classical.byContradiction hb;congr 1;obtain⟨c,ps⟩:=a;obtain⟨d,qs⟩:=b;simp only at ha hb;subst ha;subst hb;unfold scT zT;by_cases h1:d=0<;>by_cases h2:c=0<;>simp[h1,h2,Int.mul_comm]
def as3(h:op=6)(ha:¬a.a_.length=0)(hb:b.a_.length=0):lc op a b=d6 (scT b.g_ a):=by have hb:=a0y hb;unfold lc;rw[a0c (by omega),a0c (by omega),a0d h,a0c (fun h=>h.2 hb),a0c (fun h=>h hb)]
def abt(h:op=6)(ha:¬a.a_.length=0)(hb:¬b.a_.length=0):lc op a b=none:=by unfold lc;rw[a0c (by omega),a0c (by omega),a0d h,a0d ⟨fun e=>ha (by rw[e];rfl),fun e=>hb (by rw[e];rfl)⟩]
def P1(h:¬op=4)(h5:¬op=5)(h6:¬op=6)(hd:b.a_.length>0\/b.g_<1\/b.g_>1000):lc op a b=none:=by unfold lc;rw[a0c h,a0c h5,a0c h6,a0d (hd.imp (fun e h=>by rw[h]at e;exact absurd e (by simp)) id)]
theorem abu(h:¬op=4)(h5:¬op=5)(h6:¬op=6)(hd:¬b.a_.length>0)(h1:¬b.g_<1)(h2:¬b.g_>1000):lc op a b=(yt a b.g_).bind fun q=>if op=7 then some q else(d6 (scT (-b.g_) q)).bind fun m=>d6 (tg a m):=by have hb:b.a_=[]:=a0y (by omega);unfold lc;rw[a0c h,a0c h5,a0c h6,a0c (by simp[hb];omega)]
def W9(h:¬op=4)(h5:¬op=5)(h6:¬op=6)(hd:¬b.a_.length>0)(h1:¬b.g_<1)(h2:¬b.g_>1000)(hq:yt a b.g_=none):lc op a b=none:=by rw[abu h h5 h6 hd h1 h2,hq];rfl
def as2(h7:op=7)(hd:¬b.a_.length>0)(h1:¬b.g_<1)(h2:¬b.g_>1000)(hq:yt a b.g_=some q):lc op a b=some q:=by rw[abu (by omega) (by omega) (by omega) hd h1 h2,hq,a03,a0d h7]
def akr(h7:op=8)(hd:¬b.a_.length>0)(h1:¬b.g_<1)(h2:¬b.g_>1000)(hq:yt a b.g_=some q)(hm:d6 (scT (-b.g_) q)=none):lc op a b=none:=by rw[abu (by omega) (by omega) (by omega) hd h1 h2,hq,a03,a0c (by omega),hm];rfl
theorem as1(h7:op=8)(hd:¬b.a_.length>0)(h1:¬b.g_<1)(h2:¬b.g_>1000)(hq:yt a b.g_=some q)(hm:d6 (scT (-b.g_) q)=some t):lc op a b=d6 (tg a t):=by rw[abu (by omega) (by omega) (by omega) hd h1 h2,hq,a03,a0c (by omega),hm];rfl
def qg{o:Option GTm}(h:o=none):∀u,o=some u->e=0/\t=u:=fun u hu=>absurd (h.symm.trans hu) (by simp)
end
end Go.Proofs.YtfpfdfhlljjckaaGreatDoor
