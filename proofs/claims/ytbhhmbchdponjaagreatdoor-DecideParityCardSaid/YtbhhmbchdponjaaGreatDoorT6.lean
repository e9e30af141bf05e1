/- Texts of the claim. -/
import Derived.Test.YtbhhmbchdponjaaGreatDoorT5
namespace Go.Proofs.YtbhhmbchdponjaaGreatDoor
set_option linter.unusedVariables false
set_option linter.unusedSimpArgs false
open Go.RowKit
set_option maxRecDepth 100000
section
variable{s s':OSt}{f k o:Nat}{x y:ItS}{R:Option (OSt×Int×Int×Bool×Bool)}
theorem Xn(hx:s.I[k]? =some x)(ho:uh s x.g=some o)(hk:o<k)(h:jk s f (k+1)=R):jk s (f+1) k=R:=by
 rw[jk,hx];simp only;rw[ho];simp only;rw[ad3 hk];exact h
theorem R3(hx:s.I[k]? =some x)(ho:uh s x.g=some o)(hk:¬o<k)(hy:s.I[o]? =some y)(hb:B1 (bnd s x+bnd s y))(hp:0<bnd s x+bnd s y)(h:jk s f (k+1)=R):jk s (f+1) k=R:=by
 rw[jk,hx];simp only;rw[ho];simp only;rw[ad1 hk,hy];simp only;rw[ad3 hb,ad1 (by omega),ad1 (by omega)];exact h
theorem Xm(hx:s.I[k]? =some x)(ho:uh s x.g=some o)(hk:¬o<k)(hy:s.I[o]? =some y)(hb:B1 (bnd s x+bnd s y))(hp:bnd s x+bnd s y<0){b:Bool}(h:xl s (List.replicate s.n 0) [⟨x.a,1⟩,⟨y.a,1⟩]=some (s',b)):jk s (f+1) k=some (s',0,0,false,false):=by
 rw[jk,hx];simp only;rw[ho];simp only;rw[ad1 hk,hy];simp only;rw[ad3 hb,ad3 hp,h]
end
section
variable{s s' t:OSt}{g r1 r2 r3:List Int}{i j:Nat}{n1 n2 d bd:Int}{a b:IqS}
theorem acy(hd:dOf g=d)(hz:SzS s)(hi:s.K[i]? =some a)(hj:s.K[j]? =some b)(h1:fb n1 (List.replicate s.n 0) a.cs=some r1)(h2:fb n2 r1 b.cs=some r2)(b1:B1 (n1*a.b))(b3:B1 (n2*b.b))(b4:B1 (n1*a.b+n2*b.b))(hr:r2.map (flD · d)=r3)(hb:flD (n1*a.b+n2*b.b) d=bd):
 Cp s g [⟨(i:Int),n1⟩,⟨(j:Int),n2⟩]=some ({s with S:=s.S++[⟨[⟨(i:Int),n1⟩,⟨(j:Int),n2⟩],d⟩],vS:=s.vS+1,K:=s.K++[⟨r3,bd⟩],vK:=s.vK+1},⟨(s.K.length:Int),g.map (flD · d)⟩,decide (ju g≠0),decide (ju g≠0)||decide (0<=bd)):=by
 have e1:A0 ⟨List.replicate s.n 0,0⟩ n1 a=some ⟨r1,n1*a.b⟩:=by
  unfold A0;rw[h1];simp only;rw[ad3 ⟨b1,by rw[Int.zero_add];exact b1⟩,Int.zero_add]
 have e2:A0 ⟨r1,n1*a.b⟩ n2 b=some ⟨r2,n1*a.b+n2*b.b⟩:=by
  unfold A0;rw[h2];simp only;rw[ad3 ⟨b3,b4⟩]
 have e3:qw s.K [⟨(i:Int),n1⟩,⟨(j:Int),n2⟩] ⟨List.replicate s.n 0,0⟩=some ⟨r2,n1*a.b+n2*b.b⟩:=by
  rw[qw,ad3 (Int.natCast_nonneg i),Int.toNat_natCast,hi];simp only;rw[e1];simp only
  rw[qw,ad3 (Int.natCast_nonneg j),Int.toNat_natCast,hj];simp only;rw[e2];simp only
  rw[qw]
 have e4:Nl s.n s.K [⟨(i:Int),n1⟩,⟨(j:Int),n2⟩] d=some ⟨r3,bd⟩:=by
  unfold Nl;rw[e3,<-hr,<-hb];rfl
 unfold Cp
 rw[ad3 (.inl (by simp)),ad3 hz,hd,e4]
theorem Xi{us:List UsS}{x:ItS}{ok:Bool}(h:Cp s g us=some (s',x,true,ok))(ha:Cv s' x=some t):xl s g us=some (t,ok):=by
 unfold xl;rw[h];simp only[if_true];rw[ha]
theorem abj{us:List UsS}{x:ItS}{ok:Bool}(h:Cp s g us=some (s',x,false,ok)):xl s g us=some (s',ok):=by
 unfold xl;rw[h];rfl
theorem Mr{x:ItS}(hz:SzS s)(h:s.I.findIdx? (fun y=>decide (x.g=y.g))=none):Cv s x=some {s with I:=s.I++[x],vI:=s.vI+1}:=by
 unfold Cv;rw[ad3 hz,h]
end
theorem aa2{s s':OSt}{f:Nat}{S:List StS}(h:zf s=some (s',0,0,false,false))(hS:s'.S=S):Nn (f+1) s=some S:=by
 rw[Nn,h];simp only;rw[hS]
theorem Yq(x:Int):flD x 1=x:=by rw[(qi (by decide)).1,Int.ediv_one]
abbrev lsys(m z:Int):List IqS:=[⟨[0,0,-1,0],0⟩,⟨[0,0,1,0],m⟩,⟨[0,0,0,-1],0⟩,⟨[0,0,0,1],m⟩,⟨[0,0,1,1],z⟩,⟨[0,0,-1,-1],-z⟩]
abbrev S1(m z:Int):OSt:={nuS 4 (lsys m z)with I:=[⟨0,[0,0,-1,0]⟩,⟨1,[0,0,1,0]⟩,⟨2,[0,0,0,-1]⟩,⟨3,[0,0,0,1]⟩,⟨4,[0,0,1,1]⟩,⟨5,[0,0,-1,-1]⟩],vI:=6}
section
variable{m z:Int}
abbrev S2(m z:Int):OSt:={S1 m z with U:=[[1,0,0,0],[0,1,0,0],[0,0,1,-1],[0,0,0,1]],I:=[⟨0,[0,0,-1,1]⟩,⟨1,[0,0,1,-1]⟩,⟨2,[0,0,0,-1]⟩,⟨3,[0,0,0,1]⟩,⟨4,[0,0,1,0]⟩,⟨5,[0,0,-1,0]⟩]}
abbrev F0(m z:Int):OSt:=Wp (S2 m z) 2 ⟨4,[0,0,1,0]⟩
abbrev F1(m z:Int):OSt:={F0 m z with S:=[⟨[⟨0,1⟩,⟨4,1⟩],1⟩],vS:=1,K:=lsys m z++[⟨[0,0,0,1],z⟩],vK:=1,I:=[⟨6,[0,0,0,1]⟩],vI:=8}
end
section
variable{n:Nat}{K:List IqS}{r1 r2 r3:List Int}{i j:Nat}{n1 n2 d bd:Int}{a b:IqS}
theorem adp(hd:0<d)(h0:B1 d)(p1:0<=n1/\B1 n1)(p2:0<=n2/\B1 n2)(hi:K[i]? =some a)(hj:K[j]? =some b)(h1:fb n1 (List.replicate n 0) a.cs=some r1)(h2:fb n2 r1 b.cs=some r2)(b1:B1 (n1*a.b))(b3:B1 (n2*b.b))(b4:B1 (n1*a.b+n2*b.b))(hm:∀x∈r2,flM x d=0)(hr:r2.map (flD · d)=r3)(hb:flD (n1*a.b+n2*b.b) d=bd):
 Ml n K ⟨[⟨(i:Int),n1⟩,⟨(j:Int),n2⟩],d⟩=some ⟨r3,bd⟩:=by
 have e1:A0 ⟨List.replicate n 0,0⟩ n1 a=some ⟨r1,n1*a.b⟩:=by
  unfold A0;rw[h1];simp only;rw[ad3 ⟨b1,by rw[Int.zero_add];exact b1⟩,Int.zero_add]
 have e2:A0 ⟨r1,n1*a.b⟩ n2 b=some ⟨r2,n1*a.b+n2*b.b⟩:=by
  unfold A0;rw[h2];simp only;rw[ad3 ⟨b3,b4⟩]
 have e3:qw K [⟨(i:Int),n1⟩,⟨(j:Int),n2⟩] ⟨List.replicate n 0,0⟩=some ⟨r2,n1*a.b+n2*b.b⟩:=by
  rw[qw,ad3 (Int.natCast_nonneg i),Int.toNat_natCast,hi];simp only;rw[e1];simp only
  rw[qw,ad3 (Int.natCast_nonneg j),Int.toNat_natCast,hj];simp only;rw[e2];simp only
  rw[qw]
 unfold Ml
 rw[ad3 ⟨⟨h0,hd⟩,fun u hu=>by
  rcases aek.1 hu with rfl|hu
  ·exact p1
  ·rw[ady.1 hu];exact p2⟩,e3]
 simp only
 rw[ad3 hm,<-hr,<-hb];rfl
theorem Jc{s:StS}{S:List StS}{q:IqS}{R:Option (List IqS)}(h:Ml n K s=some q)(hr:qy n S (K++[q])=R):qy n (s::S) K=R:=by
 rw[qy,h];exact hr
end
section
variable{s s' t:OSt}{g r1 r2 r3:List Int}{i j:Nat}{n1 n2 d bd:Int}{a b:IqS}
theorem Y5(hd:dOf g=d)(h0:d≠1)(hz:SzS s)(hi:s.K[i]? =some a)(h1:fb 1 (List.replicate s.n 0) a.cs=some r1)(b1:B1 a.b)(hr:r1.map (flD · d)=r3)(hb:flD a.b d=bd):
 Cp s g [⟨(i:Int),1⟩]=some ({s with S:=s.S++[⟨[⟨(i:Int),1⟩],d⟩],vS:=s.vS+1,K:=s.K++[⟨r3,bd⟩],vK:=s.vK+1},⟨(s.K.length:Int),g.map (flD · d)⟩,decide (ju g≠0),decide (ju g≠0)||decide (0<=bd)):=by
 have e1:A0 ⟨List.replicate s.n 0,0⟩ 1 a=some ⟨r1,a.b⟩:=by
  unfold A0;rw[h1];simp only;rw[Int.one_mul,Int.zero_add,ad3 ⟨b1,b1⟩]
 have e3:qw s.K [⟨(i:Int),1⟩] ⟨List.replicate s.n 0,0⟩=some ⟨r1,a.b⟩:=by
  rw[qw,ad3 (Int.natCast_nonneg i),Int.toNat_natCast,hi];simp only;rw[e1];simp only
  rw[qw]
 have e4:Nl s.n s.K [⟨(i:Int),1⟩] d=some ⟨r3,bd⟩:=by
  unfold Nl;rw[e3,<-hr,<-hb];rfl
 unfold Cp
 rw[ad3 (.inr (by rw[hd];exact h0)),ad3 hz,hd,e4]
theorem Z2{n:Nat}{K:List IqS}(hd:0<d)(h0:B1 d)(hi:K[i]? =some a)(h1:fb 1 (List.replicate n 0) a.cs=some r1)(b1:B1 a.b)(hm:∀x∈r1,flM x d=0)(hr:r1.map (flD · d)=r3)(hb:flD a.b d=bd):Ml n K ⟨[⟨(i:Int),1⟩],d⟩=some ⟨r3,bd⟩:=by
 have e1:A0 ⟨List.replicate n 0,0⟩ 1 a=some ⟨r1,a.b⟩:=by
  unfold A0;rw[h1];simp only;rw[Int.one_mul,Int.zero_add,ad3 ⟨b1,b1⟩]
 have e3:qw K [⟨(i:Int),1⟩] ⟨List.replicate n 0,0⟩=some ⟨r1,a.b⟩:=by
  rw[qw,ad3 (Int.natCast_nonneg i),Int.toNat_natCast,hi];simp only;rw[e1];simp only
  rw[qw]
 unfold Ml
 rw[ad3 ⟨⟨h0,hd⟩,fun u hu=>by rw[ady.1 hu];exact⟨by show(0:Int)<=1;decide,Ns⟩⟩,e3]
 simp only
 rw[ad3 hm,<-hr,<-hb];rfl
end
theorem Zy{f k:Nat}{s s':OSt}{q:IqS}{R:Option (OSt×Bool)}(hq:s.K[k]? =some q)(hp:xl s q.cs [⟨(k:Int),1⟩]=some (s',true))(h:Ex f (k+1) s'=R):Ex (f+1) k s=R:=by
 rw[Ex,hq];simp only;rw[hp];exact h
theorem Hx{x y:Int}(hx:B1 x)(hy:B1 y):fb 1 (List.replicate 2 0) [x,y]=some [x,y]:=by
 show fb 1 [0,0] [x,y]=_
 rw[fb,Int.one_mul,Int.zero_add,ad3 ⟨hx,hx⟩,fb,Int.one_mul,Int.zero_add,ad3 ⟨hy,hy⟩];rfl
abbrev xg(A B K:Int):List IqS:=[⟨[-1,0],2147483648⟩,⟨[1,0],2147483647⟩,⟨[0,-1],2147483648⟩,⟨[0,1],2147483647⟩,⟨[A,B],-K⟩,⟨[-A,-B],K⟩]
section
variable{p q D K:Int}
structure ParH(p q D K:Int):Prop where
 p0:p≠0
 q0:q≠0
 D2:2<=D
 Db:D<=70000
 pb:-40000<=p/\p<=40000
 qb:-40000<=q/\q<=40000
 Ab:-70000<=p*D/\p*D<=70000
 Bb:-70000<=q*D/\q*D<=70000
 Kb:-70000<=K/\K<=70000
 g1:dOf [p*D,q*D]=D
 g2:dOf [-(p*D),-(q*D)]=D
 z1:ju [p*D,q*D]≠0
 z2:ju [-(p*D),-(q*D)]≠0
 r:K%D≠0
theorem Gl(h:0<D)(x:Int):flD (x*D) D=x/\flM (x*D) D=0:=by
 rw[(qi h).1,(qi h).2]
 exact⟨Int.mul_ediv_cancel x (by omega),Int.mul_emod_left x D⟩
theorem Le(h:0<D)(x:Int):flD (-(x*D)) D=-x/\flM (-(x*D)) D=0:=by
 rw[show -(x*D)=-x*D by rw[Int.neg_mul]];exact Gl h (-x)
abbrev P0(A B K:Int):OSt:={nuS 2 (xg A B K)with I:=[⟨0,[-1,0]⟩,⟨1,[1,0]⟩,⟨2,[0,-1]⟩,⟨3,[0,1]⟩],vI:=4}
abbrev P1(p q D K:Int):OSt:={P0 (p*D) (q*D) K with S:=[⟨[⟨4,1⟩],D⟩],vS:=1,K:=xg (p*D) (q*D) K++[⟨[p,q],flD (-K) D⟩],vK:=1,I:=[⟨0,[-1,0]⟩,⟨1,[1,0]⟩,⟨2,[0,-1]⟩,⟨3,[0,1]⟩,⟨6,[p,q]⟩],vI:=5}
abbrev P2(p q D K:Int):OSt:={P0 (p*D) (q*D) K with S:=[⟨[⟨4,1⟩],D⟩,⟨[⟨5,1⟩],D⟩],vS:=2,K:=xg (p*D) (q*D) K++[⟨[p,q],flD (-K) D⟩,⟨[-p,-q],flD K D⟩],vK:=2,I:=[⟨0,[-1,0]⟩,⟨1,[1,0]⟩,⟨2,[0,-1]⟩,⟨3,[0,1]⟩,⟨6,[p,q]⟩,⟨7,[-p,-q]⟩],vI:=6}
theorem adk(h:ParH p q D K):Zz (nuS 2 (xg (p*D) (q*D) K))=some (P2 p q D K,true):=by
 have hD:=h.D2
 have e:Zz (nuS 2 (xg (p*D) (q*D) K))=Ex 2 4 (P0 (p*D) (q*D) K):=by kernel_rfl
 rw[e]
 have hA:=h.Ab
 have hB:=h.Bb
 have hK:=h.Kb
 refine Zy (q:=⟨[p*D,q*D],-K⟩) (s':=P1 p q D K) rfl (Xi (s':={P0 (p*D) (q*D) K with S:=[⟨[⟨4,1⟩],D⟩],vS:=1,K:=xg (p*D) (q*D) K++[⟨[p,q],flD (-K) D⟩],vK:=1}) (x:=⟨6,[p,q]⟩) (ok:=true) ((Y5 (d:=D) (i:=4) (a:=⟨[p*D,q*D],-K⟩) (r1:=[p*D,q*D]) (r3:=[p,q]) (bd:=flD (-K) D) h.g1 (by omega) (ad5 (by kernel_rfl)) rfl (Hx (by omega) (by omega)) (by show B1 (-K);omega) (by simp only[aei,List.map_nil,(Gl (show 0<D by omega) _).1]) rfl).trans ?_) (Mr (ad5 (by kernel_rfl)) (Ea fun j hj=>?_))) ?_
 ·rw[decide_eq_true h.z1,Bool.true_or];simp only[aei,List.map_nil,(Gl (show 0<D by omega) _).1];rfl
 ·have hq:=h.q0
  have hp:=h.p0
  have hj:j<4:=hj
  have:j=0\/j=1\/j=2\/j=3:=by omega
  rcases this with rfl|rfl|rfl|rfl<;>exact decide_eq_false (fun g=>by have g:[p,q]=_:=g;simp at g;omega)
 refine Zy (q:=⟨[-(p*D),-(q*D)],K⟩) (s':=P2 p q D K) rfl (Xi (s':={P1 p q D K with S:=[⟨[⟨4,1⟩],D⟩,⟨[⟨5,1⟩],D⟩],vS:=2,K:=xg (p*D) (q*D) K++[⟨[p,q],flD (-K) D⟩,⟨[-p,-q],flD K D⟩],vK:=2}) (x:=⟨7,[-p,-q]⟩) (ok:=true) ((Y5 (d:=D) (i:=5) (a:=⟨[-(p*D),-(q*D)],K⟩) (r1:=[-(p*D),-(q*D)]) (r3:=[-p,-q]) (bd:=flD K D) h.g2 (by omega) (ad5 (by kernel_rfl)) rfl (Hx (by omega) (by omega)) (by show B1 K;omega) (by simp only[aei,List.map_nil,(Le (show 0<D by omega) _).1]) rfl).trans ?_) (Mr (ad5 (by kernel_rfl)) (Ea fun j hj=>?_))) ?_
 ·rw[decide_eq_true h.z2,Bool.true_or];simp only[aei,List.map_nil,(Le (show 0<D by omega) _).1];rfl
 ·have hq:=h.q0
  have hp:=h.p0
  have hj:j<5:=hj
  have:j=0\/j=1\/j=2\/j=3\/j=4:=by omega
  rcases this with rfl|rfl|rfl|rfl|rfl<;>exact decide_eq_false (fun g=>by have g:[-p,-q]=_:=g;simp at g;omega)
 rfl
theorem Ld(h:ParH p q D K):flD (-K) D+flD K D=-1:=by
 have hD:=h.D2
 have hr:=h.r
 rw[(qi (show 0<D by omega)).1,(qi (show 0<D by omega)).1]
 have e1:=Int.mul_ediv_add_emod K D
 have e2:=Int.mul_ediv_add_emod (-K) D
 have n1:=Int.emod_nonneg K (show D≠0 by omega)
 have l1:=Int.emod_lt_of_pos K (show 0<D by omega)
 have n2:=Int.emod_nonneg (-K) (show D≠0 by omega)
 have l2:=Int.emod_lt_of_pos (-K) (show 0<D by omega)
 have e3:D*(-K/D+K/D)=-((-K)%D+K%D):=by rw[Int.mul_add];omega
 have hs:0<(-K)%D+K%D/\(-K)%D+K%D<2*D:=by omega
 have h1:-K/D+K/D<0:=by
  rcases Int.lt_or_le (-K/D+K/D) 0 with g|g
  ·exact g
  ·have:=Int.mul_nonneg (show 0<=D by omega) g;omega
 have h2:-2< -K/D+K/D:=by
  rcases Int.lt_or_le (-2) (-K/D+K/D)with g|g
  ·exact g
  ·have:=Int.mul_le_mul_of_nonneg_left g (show 0<=D by omega);omega
 omega
abbrev pfP(D:Int):List StS:=[⟨[⟨4,1⟩],D⟩,⟨[⟨5,1⟩],D⟩,⟨[⟨6,1⟩,⟨7,1⟩],1⟩]
theorem Yp(h:ParH p q D K):(-70000<=flD K D/\flD K D<=70000)/\(-70001<=flD (-K) D/\flD (-K) D<=70001):=by
 have hs:=Ld h
 have hD:=h.D2
 have hK:=h.Kb
 have e1:=Int.mul_ediv_add_emod K D
 have n1:=Int.emod_nonneg K (show D≠0 by omega)
 have l1:=Int.emod_lt_of_pos K (show 0<D by omega)
 have hDb:=h.Db
 have hk:-70000<=flD K D/\flD K D<=70000:=by
  rw[(qi (show 0<D by omega)).1]
  constructor
  ·exact(Int.le_ediv_iff_mul_le (by omega)).2 (by have:=Int.mul_le_mul_of_nonneg_left (show(1:Int)<=D by omega) (show(0:Int)<=70000 by decide);omega)
  ·have:K/D<70001:=Int.ediv_lt_of_lt_mul (show 0<D by omega) (show K<70001*D by omega)
   omega
 exact⟨hk,by omega⟩
end
section
variable{p q D K:Int}
theorem adr{x:Int}(h:-40000<=x/\x<=40000):aZ x<=FM:=by unfold aZ FM;split<;>omega
theorem p2_c(h:ParH p q D K):∀x∈(P2 p q D K).I,∀c∈x.g,aZ c<=FM:=fun x hx c hc=>by
 have hp:=h.pb
 have hq:=h.qb
 have hx:x∈[(⟨0,[-1,0]⟩:ItS),⟨1,[1,0]⟩,⟨2,[0,-1]⟩,⟨3,[0,1]⟩,⟨6,[p,q]⟩,⟨7,[-p,-q]⟩]:=hx
 simp only[aek,List.not_mem_nil,or_false]at hx
 rcases hx with rfl|rfl|rfl|rfl|rfl|rfl<;>simp only[aek,List.not_mem_nil,or_false]at hc<;>rcases hc with rfl|rfl<;>exact adr (by omega)
theorem p2_n(h:ParH p q D K):((P2 p q D K).I.map (·.g)).Nodup:=by
 have hp:=h.p0
 have hq:=h.q0
 show[[-1,0],[1,0],[0,-1],[0,1],[p,q],[-p,-q]].Nodup
 simp only[List.nodup_cons,aek,List.not_mem_nil,or_false,List.cons.injEq,and_true,not_or,not_and,List.nodup_nil,not_false_eq_true]
 and_intros
 all_goals first|trivial|(intros;omega)
theorem Ys(h:ParH p q D K):uh (P2 p q D K) [p,q]=some 5:=by
 have hp:=h.p0
 have hq:=h.q0
 refine Ec (k:=5) (show 5<6 by decide) (decide_eq_true rfl) fun j hj hl=>?_
 have:j=0\/j=1\/j=2\/j=3\/j=4:=by omega
 rcases this with rfl|rfl|rfl|rfl|rfl<;>exact decide_eq_false (fun g=>by have g:_=[-p,-q]:=g;simp at g;omega)
theorem Xo(h:ParH p q D K):∃t,zf (P2 p q D K)=some (t,0,0,false,false)/\t.S=pfP D:=by
 obtain⟨hk1,hk2⟩:=Yp h
 have hs:=Ld h
 have e:zf (P2 p q D K)=jk (P2 p q D K) 6 0:=ad3 ⟨ad5 (by kernel_rfl),p2_n h,p2_c h⟩
 rw[e]
 have h0:bnd (P2 p q D K) ⟨0,[-1,0]⟩+bnd (P2 p q D K) ⟨1,[1,0]⟩=4294967295:=by kernel_rfl
 have h2:bnd (P2 p q D K) ⟨2,[0,-1]⟩+bnd (P2 p q D K) ⟨3,[0,1]⟩=4294967295:=by kernel_rfl
 have h4:bnd (P2 p q D K) ⟨6,[p,q]⟩+bnd (P2 p q D K) ⟨7,[-p,-q]⟩=-1:=hs
 have hd:xl (P2 p q D K) (List.replicate 2 0) [⟨6,1⟩,⟨7,1⟩]=some ({P2 p q D K with S:=(P2 p q D K).S++[⟨[⟨6,1⟩,⟨7,1⟩],1⟩],vS:=3,K:=(P2 p q D K).K++[⟨[0,0],-1⟩],vK:=3},false):=by
  have hpb:=h.pb
  have hqb:=h.qb
  refine abj (acy (i:=6) (j:=7) (d:=1) (a:=⟨[p,q],flD (-K) D⟩) (b:=⟨[-p,-q],flD K D⟩) (r1:=[p,q]) (r2:=[0,0]) (r3:=[0,0]) (bd:=-1) (by kernel_rfl) (ad5 (by kernel_rfl)) rfl rfl (Hx (by omega) (by omega)) ?_ (by show B1 (1*flD (-K) D);omega) (by show B1 (1*flD K D);omega) (by show B1 (1*flD (-K) D+1*flD K D);omega) (by kernel_rfl) (by rw[Yq];show 1*flD (-K) D+1*flD K D=-1;omega))
  show fb 1 [p,q] [-p,-q]=_
  rw[fb,ad3 ⟨by omega,by omega⟩,fb,ad3 ⟨by omega,by omega⟩,fb,show p+1* -p=0 by omega,show q+1* -q=0 by omega];rfl
 refine⟨_,R3 (x:=⟨0,[-1,0]⟩) (y:=⟨1,[1,0]⟩) (o:=1) rfl (by kernel_rfl) (by decide) rfl (by rw[h0];decide) (by rw[h0];decide)<|Xn (x:=⟨1,[1,0]⟩) (o:=0) rfl (by kernel_rfl) (by decide)<|R3 (x:=⟨2,[0,-1]⟩) (y:=⟨3,[0,1]⟩) (o:=3) rfl (by kernel_rfl) (by decide) rfl (by rw[h2];decide) (by rw[h2];decide)<|Xn (x:=⟨3,[0,1]⟩) (o:=2) rfl (by kernel_rfl) (by decide)<|Xm (x:=⟨6,[p,q]⟩) (y:=⟨7,[-p,-q]⟩) (o:=5) rfl (Ys h) (by decide) rfl (by rw[h4];decide) (by rw[h4];decide) hd,rfl⟩
theorem aav(h:ParH p q D K):Nm 2 (xg (p*D) (q*D) K)=some (pfP D):=by
 obtain⟨t,h1,h2⟩:=Xo h
 rw[Nm,adk h]
 exact aa2 h1 h2
theorem ada(h:ParH p q D K):qy 2 (pfP D) (xg (p*D) (q*D) K)=some (xg (p*D) (q*D) K++[⟨[p,q],flD (-K) D⟩,⟨[-p,-q],flD K D⟩,⟨[0,0],-1⟩]):=by
 obtain⟨hk1,hk2⟩:=Yp h
 have hs:=Ld h
 have hD:=h.D2
 have hDb:=h.Db
 have hA:=h.Ab
 have hB:=h.Bb
 have hK:=h.Kb
 have hpb:=h.pb
 have hqb:=h.qb
 have f1:=fun x=>Gl (show 0<D by omega) x
 have f2:=fun x=>Le (show 0<D by omega) x
 refine Jc (Z2 (i:=4) (a:=⟨[p*D,q*D],-K⟩) (r1:=[p*D,q*D]) (r3:=[p,q]) (bd:=flD (-K) D) (by omega) (by omega) rfl (Hx (by omega) (by omega)) (by show B1 (-K);omega) (fun x hx=>?_) (by simp only[aei,List.map_nil,(f1 _).1]) rfl) ?_
 ·simp only[aek,List.not_mem_nil,or_false]at hx
  rcases hx with rfl|rfl
  ·exact(f1 _).2
  ·exact(f1 _).2
 refine Jc (Z2 (i:=5) (a:=⟨[-(p*D),-(q*D)],K⟩) (r1:=[-(p*D),-(q*D)]) (r3:=[-p,-q]) (bd:=flD K D) (by omega) (by omega) rfl (Hx (by omega) (by omega)) (by show B1 K;omega) (fun x hx=>?_) (by simp only[aei,List.map_nil,(f2 _).1]) rfl) ?_
 ·simp only[aek,List.not_mem_nil,or_false]at hx
  rcases hx with rfl|rfl
  ·exact(f2 _).2
  ·exact(f2 _).2
 refine Jc (adp (i:=6) (j:=7) (d:=1) (a:=⟨[p,q],flD (-K) D⟩) (b:=⟨[-p,-q],flD K D⟩) (r1:=[p,q]) (r2:=[0,0]) (r3:=[0,0]) (bd:=-1) (by decide) Ns ⟨by decide,Ns⟩ ⟨by decide,Ns⟩ rfl rfl (Hx (by omega) (by omega)) ?_ (by show B1 (1*flD (-K) D);omega) (by show B1 (1*flD K D);omega) (by show B1 (1*flD (-K) D+1*flD K D);omega) (by decide) (by kernel_rfl) (by rw[Yq];show 1*flD (-K) D+1*flD K D=-1;omega)) rfl
 show fb 1 [p,q] [-p,-q]=_
 rw[fb,ad3 ⟨by omega,by omega⟩,fb,ad3 ⟨by omega,by omega⟩,fb,show p+1* -p=0 by omega,show q+1* -q=0 by omega];rfl
theorem T6{a b k:Int}(ha:-32768<=a/\a<=32767)(hb:-32768<=b/\b<=32767)(hk:-32768<=k/\k<=32767)(h0:a≠0)(h3:b≠0):∃S R,Nm 2 (xg (2*a) (2*b) (2*k+1))=some S/\S.length=3/\(∀s∈S,s.us.length<=2)/\qy 2 S (xg (2*a) (2*b) (2*k+1))=some R/\R.any (fun q=>Im q)=true:=by
 -- D=2 gcd(a,b)
 let G:Int:=((Int.gcd a b:Nat):Int)
 have hG1:1<=G:=by
  have:0<Int.gcd a b:=Int.gcd_pos_of_ne_zero_left b h0
  show(1:Int)<=((Int.gcd a b:Nat):Int);omega
 obtain⟨p,hp⟩:=Int.gcd_dvd_left (a:=a) (b:=b)
 obtain⟨q,hq⟩:=Int.gcd_dvd_right (a:=a) (b:=b)
 have hGa:G<=32768:=by
  have:=Int.gcd_le_natAbs_left b h0
  show((Int.gcd a b:Nat):Int)<=_;omega
 have eA:2*a=p*(2*G):=by
  have:p*(2*G)=2*(G*p):=by rw[Int.mul_comm p,Int.mul_assoc]
  rw[this];show 2*a=2*(((Int.gcd a b:Nat):Int)*p);rw[<-hp]
 have eB:2*b=q*(2*G):=by
  have:q*(2*G)=2*(G*q):=by rw[Int.mul_comm q,Int.mul_assoc]
  rw[this];show 2*b=2*(((Int.gcd a b:Nat):Int)*q);rw[<-hq]
 have h1:a=G*p:=hp
 have h2:b=G*q:=hq
 have bd:∀{x y:Int},(-32768<=x/\x<=32767)->x=G*y->-40000<=y/\y<=40000:=fun{x y} hx e=>by
  rcases Int.lt_or_le y (-40000)with g|g
  ·have:=Int.mul_le_mul_of_nonneg_left (show y<=-40001 by omega) (show 0<=G by omega);omega
  ·rcases Int.lt_or_le 40000 y with g'|g'
   ·have:=Int.mul_le_mul_of_nonneg_left (show 40001<=y by omega) (show 0<=G by omega);omega
   ·exact⟨g,g'⟩
 have h4:p≠0:=fun e=>by rw[e,Int.mul_zero]at h1;exact h0 h1
 have h5:q≠0:=fun e=>by rw[e,Int.mul_zero]at h2;exact h3 h2
 have gg:ju [p*(2*G),q*(2*G)]=2*G:=by
  show((Int.gcd ((Int.gcd 0 (p*(2*G)):Nat):Int) (q*(2*G)):Nat):Int)=_
  have hz:∀x y:Int,Int.gcd ((Int.natAbs x:Nat):Int) y=Int.gcd x y:=fun x y=>by simp only[Int.gcd,Int.natAbs_natCast]
  rw[Int.gcd_zero_left,<-eA,<-eB,hz,Int.gcd_mul_left]
  show((2*Int.gcd a b:Nat):Int)=2*((Int.gcd a b:Nat):Int)
  omega
 have gn:ju [-(p*(2*G)),-(q*(2*G))]=2*G:=by
  have hz:∀x y:Int,ju [-x,-y]=ju [x,y]:=fun x y=>by
   show((Int.gcd ((Int.gcd 0 (-x):Nat):Int) (-y):Nat):Int)=((Int.gcd ((Int.gcd 0 x:Nat):Int) y:Nat):Int)
   rw[Int.gcd_neg,Int.gcd_neg]
  exact(hz _ _).trans gg
 have dn:∀{g:List Int},ju g=2*G->dOf g=2*G:=fun e=>by rw[Y9 (by omega),e]
 have hH:ParH p q (2*G) (2*k+1):=⟨h4,h5,by omega,by omega,bd ha h1,bd hb h2,by omega,by omega,by omega,dn gg,dn gn,by omega,by omega,fun e=>by
  obtain⟨c,hc⟩:=Int.dvd_of_emod_eq_zero e
  rw[Int.mul_assoc]at hc
  generalize G*c=z at hc;omega⟩
 rw[eA,eB]
 exact⟨_,_,aav hH,rfl,fun s hs=>by simp only[aek,List.not_mem_nil,or_false]at hs;rcases hs with rfl|rfl|rfl<;>exact aeb rfl,ada hH,List.any_eq_true.2 ⟨⟨[0,0],-1⟩,adz.2 (.inr (by simp)),by decide⟩⟩
end
end Go.Proofs.YtbhhmbchdponjaaGreatDoor
