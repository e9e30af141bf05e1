/- Texts of the claim. -/
import Derived.Test.YthpangmpihkniaaGreatDoorF1
import Derived.Test.YthpangmpihkniaaGreatDoorQ2
namespace Go.Proofs.YthpangmpihkniaaGreatDoor
set_option maxRecDepth 1000000
set_option maxHeartbeats 0
set_option linter.unusedVariables false
set_option linter.unusedSimpArgs false
open Go.RowKit
theorem N7 {a b m:Int} (ha:0<=a) (hb:1<=b) (hm:0<=m) (h:a<=m.tdiv b):0<=a * b/\a * b<=m:=by
 rw [Int.tdiv_eq_ediv_of_nonneg hm] at h
 exact ⟨Int.mul_nonneg ha (by omega),Int.le_trans (Int.mul_le_mul_of_nonneg_right h (by omega)) (Int.ediv_mul_le m (by omega))⟩
theorem Sd {a b:Int}:cy a * cy b=a * b\/cy a * cy b=-(a * b):=by
 rcases br a with ⟨_,h⟩ | ⟨_,h⟩ <;> rcases br b with ⟨_,h'⟩ | ⟨_,h'⟩ <;> rw [h,h'] <;> simp [Int.neg_mul,Int.mul_neg]
theorem Gn {a b:Int} (hb:b≠0) (h:¬ cy a > Int.tdiv 1152921504606846976 (cy b)):-1152921504606846976<=a * b/\a * b<=1152921504606846976:=by
 have h1:1<=cy b:=by have:=br b; omega
 have h0:0<=cy a:=by have:=br a; omega
 have:=N7 h0 h1 (by omega) (Int.not_lt.1 h)
 rcases Sd (a:=a) (b:=b) with e | e <;> omega
structure KS where
 k:Nat
 s:Int
def p5 (x:GTm):Prop:=(-1099511627776<=x.const_/\x.const_<=1099511627776)/\∀ p∈x.parts_,-1048576<=p.coef_/\p.coef_<=1048576
def Sm (r:List AV):Prop:=∃ x:GTm,r=tmA x/\p5 x
theorem P4 {p q:GPart} (h:ptA p=ptA q):p=q:=by
 obtain ⟨a,b,c,d,e⟩:=p
 obtain ⟨a',b',c',d',e'⟩:=q
 simp only [ptA,List.cons.injEq,AV.v.injEq,Value.int.injEq,AV.tree.injEq,true_and,and_true,Dd] at h
 obtain ⟨rfl,rfl,rfl,rfl,rfl⟩:=h
 rfl
theorem Pg {x y:GTm} (h:tmA x=tmA y):x=y:=by
 obtain ⟨a,b⟩:=x
 obtain ⟨a',b'⟩:=y
 simp only [tmA,List.cons.injEq,AV.v.injEq,Value.int.injEq,AV.tree.injEq,true_and,and_true] at h
 obtain ⟨rfl,h⟩:=h
 have:=(List.map_inj_right (f:=ptA) (fun _ _ h=>P4 h)).1 h
 rw [this]
theorem Sm.of {x:GTm} (h:Sm (tmA x)):p5 x:=by
 obtain ⟨y,e,hy⟩:=h
 rw [Pg e]; exact hy
/-- Where the bound of a term ju after some parts. -/
structure BdI (x:GTm) (s:KS):Prop where
 rng:0<=s.s/\s.s<=1152921504606846976
 cf:∀ j (hl:j < x.parts_.length),j < s.k->-1048576<=x.parts_[j].coef_/\x.parts_[j].coef_<=1048576
 val:∀ ρ,Cb ρ->-s.s<=x.const_+fo ρ (x.parts_.take s.k)/\x.const_+fo ρ (x.parts_.take s.k)<=s.s
theorem absM {c k b:Int} (hb:-b<=k/\k<=b):-(cy c * b)<=c * k/\c * k<=cy c * b:=by
 have h1:c * k<=cy c * b/\-(cy c * b)<=c * k:=by
  rcases br c with ⟨h,e⟩ | ⟨h,e⟩ <;> rw [e]
  ·exact ⟨Int.mul_le_mul_of_nonneg_left hb.2 h,by rw [<- Int.mul_neg]; exact Int.mul_le_mul_of_nonneg_left hb.1 h⟩
  ·have e1:c * k=-c * -k:=by simp [Int.neg_mul,Int.mul_neg]
   rw [e1]
   exact ⟨Int.mul_le_mul_of_nonneg_left (by omega) (by omega),by rw [<- Int.mul_neg]; exact Int.mul_le_mul_of_nonneg_left (by omega) (by omega)⟩
 exact ⟨h1.2,h1.1⟩
theorem rp {x:GTm} {s:KS} {b:Int} (h:BdI x s) (hk:s.k < x.parts_.length) (hc:-1048576<=x.parts_[s.k].coef_/\x.parts_[s.k].coef_<=1048576) (hb:∀ ρ,Cb ρ->-b<=qs ρ x.parts_[s.k]/\qs ρ x.parts_[s.k]<=b) (hm:0<=cy x.parts_[s.k].coef_ * b) (hle:s.s+cy x.parts_[s.k].coef_ * b<=1152921504606846976):BdI x ⟨s.k+1,s.s+cy x.parts_[s.k].coef_ * b⟩:=by
 refine ⟨⟨by have:=h.rng; show 0<=s.s+_; omega,hle⟩,fun j hl hj=>?_,fun ρ hρ=>?_⟩
 ·rcases Nat.lt_succ_iff_lt_or_eq.1 hj with hj | rfl
  ·exact h.cf j hl hj
  exact hc
 show _<=x.const_+fo ρ (x.parts_.take (s.k+1))/\x.const_+fo ρ (x.parts_.take (s.k+1))<=_
 rw [jj ρ hk]
 have h1:=h.val ρ hρ
 have h2:=absM (c:=x.parts_[s.k].coef_) (hb ρ hρ)
 simp only [vn]
 show -(s.s+cy x.parts_[s.k].coef_ * b)<=_/\_<=s.s+cy x.parts_[s.k].coef_ * b
 constructor <;> omega
theorem bd0 {x:GTm} (h:-1099511627776<=x.const_/\x.const_<=1099511627776):BdI x ⟨0,cy x.const_⟩:=by
 have:=br x.const_
 exact ⟨⟨by show 0<=cy _; omega,by show cy _<=_; omega⟩,fun j _ h=>absurd h (Nat.not_lt_zero j),fun ρ _=>by simp only [List.take_zero,fo]; show -cy x.const_<=_/\_<=cy x.const_; constructor <;> omega⟩
theorem Y8 {x:GTm} {s:KS} (hc:-1099511627776<=x.const_/\x.const_<=1099511627776) (h:BdI x s) (hge:¬ s.k < x.parts_.length):(0<=s.s/\s.s<=1152921504606846977)/\(s.s<=1152921504606846976->Bd (tmA x) s.s/\Sm (tmA x)):=by
 refine ⟨⟨h.rng.1,by have:=h.rng; omega⟩,fun _=>⟨fun ρ hρ=>?_,x,rfl,hc,fun p hp=>?_⟩⟩
 ·have:=h.val ρ hρ
  rw [List.take_of_length_le (by omega)] at this
  rw [iz]; exact this
 obtain ⟨j,hj,rfl⟩:=List.getElem_of_mem hp
 exact h.cf j hj (by omega)
theorem key1 {p:GPart} (h:p.kind_=1):∀ ρ,Cb ρ->-16<=qs ρ p/\qs ρ p<=16:=fun ρ hρ=>by
 unfold qs; rw [if_neg (by omega),h]; exact ⟨(hρ _).2.1,(hρ _).2.2⟩
theorem key0 {p:GPart} (h:¬ p.kind_=2):∀ ρ,Cb ρ->-2147483648<=qs ρ p/\qs ρ p<=2147483648:=fun ρ hρ=>by
 unfold qs; rw [if_neg h]; exact (hρ _).1 _
theorem Rd {n b m:Int} (hb:1<=b) (hm:0<=m) (h:-m<=n/\n<=m):-(m.tdiv b+1)<=n.fdiv b/\n.fdiv b<=m.tdiv b+1:=by
 rw [Int.fdiv_eq_ediv_of_nonneg _ (by omega),Int.tdiv_eq_ediv_of_nonneg hm]
 have h1:n / b<=m / b:=Int.ediv_le_ediv (by omega) h.2
 have h2:(-m) / b<=n / b:=Int.ediv_le_ediv (by omega) h.1
 have h3:-(m / b+1)<=(-m) / b:=by
  rw [Int.le_ediv_iff_mul_le (by omega)]
  have:=Int.emod_add_mul_ediv m b
  have h4:=Int.emod_lt_of_pos m (by omega:0 < b)
  rw [Int.neg_mul,Int.add_mul,Int.mul_comm (m / b) b]
  omega
 omega
theorem Qe {ρ:Int->Int->Int} (l:List (List AV)) (h:0 < l.length):ofL ρ l=tvL ρ l[0]:=by
 cases l with
 | nil=>simp at h
 | cons r t=>simp only [ofL]; rfl
theorem Ue {p:GPart} {v:Int} (h:p.kind_=2) (hp:FitPart p) (hv:0<=v/\v<=1152921504606846977) (hb:v<=1152921504606846976->Bd (p.of_[0]'(by have:=hp.dv h; omega)) v/\Sm (p.of_[0]'(by have:=hp.dv h; omega))):∀ ρ,Cb ρ->-(v.tdiv p.by_+1)<=qs ρ p/\qs ρ p<=v.tdiv p.by_+1:=fun ρ hρ=>by
 have hd:=hp.dv h
 have h0:ofL ρ p.of_=tvL ρ (p.of_[0]'(by omega)):=Qe _ (by omega)
 have h2:-v<=tvL ρ (p.of_[0]'(by omega))/\tvL ρ (p.of_[0]'(by omega))<=v:=by
  by_cases hle:v<=1152921504606846976
  ·exact (hb hle).1 ρ hρ
  ·have:=hp.bd h _ (Ze (by omega:0 < p.of_.length)) ρ hρ
   omega
 unfold qs
 rw [if_pos h,h0]
 exact Rd hd.2.1 hv.1 h2
theorem N8 {c b:Int} (hb:0<=b) (h:c=0\/¬ b > Int.tdiv 1152921504606846976 (cy c)):0<=cy c * b/\cy c * b<=1152921504606846976:=by
 have ha:=br c
 by_cases hz:c=0
 ·have:cy c=0:=by omega
  rw [this,Int.zero_mul]; omega
 rcases h with h | h
 ·exact absurd h hz
 have:=N7 hb (by omega:1<=cy c) (by omega) (Int.not_lt.1 h)
 rw [Int.mul_comm]; exact this
theorem Np {v b:Int} (hv:0<=v/\v<=1152921504606846977) (hb:1<=b/\b<=1000):0<=v.tdiv b/\v.tdiv b<=1152921504606846977:=by
 rw [Int.tdiv_eq_ediv_of_nonneg hv.1]
 exact ⟨Int.ediv_nonneg hv.1 (by omega),Int.le_trans (Int.ediv_le_self _ hv.1) hv.2⟩
theorem Gp (a:Int) (b:Int):PRet Tryz.prog 242 [.v (.int .i64 a),.v (.int .i64 b)] (fun r=>∃ v:Int,r=.v (.int .i64 v)/\(v=1152921504606846976\/(v=a * b/\-1152921504606846976<=v/\v<=1152921504606846976))):=by
 refine PRet.of_vc ao [24,29] [] Tryz.func242 rfl Tryz.ntmps242 rfl (by kernel_rfl) (cE (fun hq7=>?_) (fun hq7=>?_))
 ·refine cT (rV Tryz.results242 rfl ?_)
  (refine ⟨_,rfl,.inr ⟨?_,by omega,by omega⟩⟩; simp_all)
 refine cB (fun hc10=>?_) (fun hc10=>?_)
 ·have hq10:(b:Int)=(0:Int):=by simpa using hc10
  refine rV Tryz.results242 rfl ?_
  (refine ⟨_,rfl,.inr ⟨?_,by omega,by omega⟩⟩; simp_all)
 have hq10:¬ ((b:Int)=(0:Int)):=by simpa using hc10
 have hnz:b≠0:=by simpa using hc10
 refine ArgG.mk (i7 a ((-1152921504606846976)) 1152921504606846976) rfl ?_
 rintro _ ⟨b0,rfl,hb0⟩
 refine cB (fun hg14=>?_) (fun hg14=>?_)
 ·refine cT (cT ?_)
  exact rV Tryz.results242 rfl ⟨_,rfl,.inl rfl⟩
 have ha:=hb0.1 (by simpa using hg14)
 refine ArgG.mk (i7 b ((-1152921504606846976)) 1152921504606846976) rfl ?_
 rintro _ ⟨b1,rfl,hb1⟩
 refine cB (fun hg19=>?_) (fun hg19=>?_)
 ·exact cT (rV Tryz.results242 rfl ⟨_,rfl,.inl rfl⟩)
 have hbb:=hb1.1 (by simpa using hg19)
 refine ArgG.mk (gf a (by omega)) rfl ?_
 rintro _ rfl
 have habs2:=br a
 refine ArgG.mk (gf b (by omega)) rfl ?_
 rintro _ rfl
 have habs3:=br b
 refine OpG.lk (je rfl rfl (by omega) (by omega) (by omega)) (cB (fun hc26=>?_) (fun hc26=>?_))
 ·exact rV Tryz.results242 rfl ⟨_,rfl,.inl rfl⟩
 have hr:=Gn hnz (of_decide_eq_false hc26)
 exact OpG.lk (dj rfl rfl (by omega) (by omega)) (rV Tryz.results242 rfl ⟨_,rfl,.inr ⟨rfl,hr⟩⟩)
theorem R1 (x:GTm) (hx:FitTm x) (ih:∀ p∈x.parts_,∀ r∈p.of_,PRet Tryz.prog 282 [.agg (rwA r)] (fun q=>∃ v:Int,q=.v (.int .i64 v)/\(0<=v/\v<=1152921504606846977)/\(v<=1152921504606846976->Bd r v/\Sm r))):PRet Tryz.prog 282 [.agg (tmA x)] (fun q=>∃ v:Int,q=.v (.int .i64 v)/\(0<=v/\v<=1152921504606846977)/\(v<=1152921504606846976->Bd (tmA x) v/\Sm (tmA x))):=by
 refine PRet.of_vc ao [35,39,40,54,63,64] [15] Tryz.func282 rfl Tryz.ntmps282 rfl (by kernel_rfl) (ArgG.mk (i7 x.const_ ((-1099511627776)) 1099511627776) rfl ?_)
 rintro _ ⟨b0,rfl,hb0⟩
 refine cB (fun hc10=>?_) (fun hc10=>?_)
 ·exact rV Tryz.results282 rfl ⟨_,rfl,⟨by omega,by omega⟩,fun h=>absurd h (by omega)⟩
 have hcc:=hb0.1 (by simpa using hc10)
 refine ArgG.mk (gf x.const_ (by omega)) rfl ?_
 rintro _ rfl
 have habs1:=br x.const_
 refine LpG.on (fun k0:KS=>(⟨fL [(1,.ptr 0 0 0),(3,.v (.int .i64 k0.s)),(4,.v (.int .i64 ((k0.k:Nat):Int)))],bl [(0,⟨0,tmA x,0,false⟩)],1⟩:St)) (fun k0=>(x.parts_.length - k0.k)) (fun k0=>(k0.k<=x.parts_.length/\BdI x k0)) (⟨0,_⟩:KS) (cO (.cons rfl rfl (.cons rfl rfl (.cons rfl rfl .nil))) (.cons rfl rfl rfl .nil)) ⟨Nat.zero_le _,bd0 hcc⟩ ?_
 rintro k0 hinv
 have hgr_k0:x.parts_.length<=140737488355328:=hx.parts_.1
 obtain ⟨hle_k0,hi_k0⟩:=hinv
 refine LenG.of (cL (fun hlt18=>?_) (fun hge18=>?_))
 ·have hfp:=hx.parts_.2 _ (Ze hlt18)
  have hrg:=hi_k0.rng
  refine IdxG.of (by assumption) (cB (fun hc28=>?_) (fun hc28=>?_))
  ·have hq28:(x.parts_[k0.k].kind_:Int)=(1:Int):=by simpa using hc28
   have hkey:=key1 (p:=x.parts_[k0.k]) (by simpa using hc28)
   refine cB (fun hc31=>?_) (fun hc31=>?_)
   ·have hq31:(x.parts_[k0.k].kind_:Int)=(2:Int):=by simpa using hc31
    have hk2:x.parts_[k0.k].kind_=2:=by simpa using hc31
    have hdv:=hfp.dv hk2
    refine IdxG.of (j:=0) (by omega) (OpG.lk (aq bh rfl (Cm ((hx.parts_.2 _ (Ze _)).of_.2 _ (Ze _)))) ?_)
    refine ArgG.mk (ih x.parts_[k0.k] (Ze _) (x.parts_[k0.k].of_[0]) (Ze _)) (show ay [.agg (rwA x.parts_[k0.k].of_[0])]=true by simp [ay,AV.pureB,Cn ((hx.parts_.2 _ (Ze _)).of_.2 _ (Ze _))]) ?_
    rintro _ ⟨v2,rfl,hv2,hw2⟩
    have htq2:=Np hv2 hdv.2
    have hkey:=Ue hk2 hfp hv2 hw2
    refine OpG.lk (je rfl rfl (by omega) (by omega) (by omega)) (OpG.lk (lJ rfl rfl (by omega) (by omega)) ?_)
    refine ⟨by kernel_rfl,ArgG.mk (i7 (x.parts_[k0.k].coef_) ((-1048576)) 1048576) rfl ?_⟩
    rintro _ ⟨b3,rfl,hb3⟩
    refine cB (fun hg45=>?_) (fun hg45=>?_)
    ·exact cT (rV Tryz.results282 rfl ⟨_,rfl,⟨by omega,by omega⟩,fun h=>absurd h (by omega)⟩)
    have hcf:-1048576<=x.parts_[k0.k].coef_/\x.parts_[k0.k].coef_<=1048576:=hb3.1 (by simpa using hg45)
    refine cB (fun hg49=>?_) (fun hg49=>?_)
    ·have hq49:¬ ((x.parts_[k0.k].coef_:Int)=(0:Int)):=by simpa using hg49
     refine ArgG.mk (gf (x.parts_[k0.k].coef_) (by omega)) rfl ?_
     rintro _ rfl
     have habs4:=br (x.parts_[k0.k].coef_)
     refine OpG.lk (je rfl rfl (by omega) (by omega) (by omega)) (cB (fun hc57=>?_) (fun hc57=>?_))
     ·exact rV Tryz.results282 rfl ⟨_,rfl,⟨by omega,by omega⟩,fun h=>absurd h (by omega)⟩
     have hab:0<=cy x.parts_[k0.k].coef_ * ((v2.tdiv x.parts_[k0.k].by_+1))/\cy x.parts_[k0.k].coef_ * ((v2.tdiv x.parts_[k0.k].by_+1))<=1152921504606846976:=N8 (by omega) (by exact .inr (of_decide_eq_false hc57))
     refine cr (ArgG.mk (gf (x.parts_[k0.k].coef_) (by omega)) rfl ?_)
     rintro _ rfl
     have habs5:=br (x.parts_[k0.k].coef_)
     refine OpG.lk (dj rfl rfl (by omega) (by omega)) (OpG.lk (lJ rfl rfl (by omega) (by omega)) ?_)
     refine cB (fun hc66=>?_) (fun hc66=>?_)
     ·exact rV Tryz.results282 rfl ⟨_,rfl,⟨by omega,by omega⟩,fun h=>absurd h (by omega)⟩
     have hle:=of_decide_eq_false hc66
     refine ⟨by omega,⟨(⟨k0.k+1,_⟩:KS),(by show x.parts_.length - (k0.k+1) < x.parts_.length - k0.k; omega),(cO (.cons rfl rfl (.cons rfl rfl (.cons rfl rfl .nil))) (.cons rfl rfl rfl .nil)),?_⟩⟩
     exact ⟨by show k0.k+1<=_; omega,rp hi_k0 hlt18 hcf (by exact hkey) hab.1 (by omega)⟩
    have hq49:(x.parts_[k0.k].coef_:Int)=(0:Int):=by simpa using hg49
    refine cF ?_
    have hab:0<=cy x.parts_[k0.k].coef_ * ((v2.tdiv x.parts_[k0.k].by_+1))/\cy x.parts_[k0.k].coef_ * ((v2.tdiv x.parts_[k0.k].by_+1))<=1152921504606846976:=N8 (by omega) (by exact .inl (by simpa using hg49))
    refine cr (ArgG.mk (gf (x.parts_[k0.k].coef_) (by omega)) rfl ?_)
    rintro _ rfl
    have habs6:=br (x.parts_[k0.k].coef_)
    refine OpG.lk (dj rfl rfl (by omega) (by omega)) (OpG.lk (lJ rfl rfl (by omega) (by omega)) ?_)
    refine cB (fun hc66=>?_) (fun hc66=>?_)
    ·exact rV Tryz.results282 rfl ⟨_,rfl,⟨by omega,by omega⟩,fun h=>absurd h (by omega)⟩
    have hle:=of_decide_eq_false hc66
    refine ⟨by omega,⟨(⟨k0.k+1,_⟩:KS),(by show x.parts_.length - (k0.k+1) < x.parts_.length - k0.k; omega),(cO (.cons rfl rfl (.cons rfl rfl (.cons rfl rfl .nil))) (.cons rfl rfl rfl .nil)),?_⟩⟩
    exact ⟨by show k0.k+1<=_; omega,rp hi_k0 hlt18 hcf (by exact hkey) hab.1 (by omega)⟩
   have hq31:¬ ((x.parts_[k0.k].kind_:Int)=(2:Int)):=by simpa using hc31
   have hkey0:=key0 (p:=x.parts_[k0.k]) (by simpa using hc31)
   refine ArgG.mk (i7 (x.parts_[k0.k].coef_) ((-1048576)) 1048576) rfl ?_
   rintro _ ⟨b7,rfl,hb7⟩
   refine cB (fun hg45=>?_) (fun hg45=>?_)
   ·exact cT (rV Tryz.results282 rfl ⟨_,rfl,⟨by omega,by omega⟩,fun h=>absurd h (by omega)⟩)
   have hcf:-1048576<=x.parts_[k0.k].coef_/\x.parts_[k0.k].coef_<=1048576:=hb7.1 (by simpa using hg45)
   refine cB (fun hg49=>?_) (fun hg49=>?_)
   ·have hq49:¬ ((x.parts_[k0.k].coef_:Int)=(0:Int)):=by simpa using hg49
    refine ArgG.mk (gf (x.parts_[k0.k].coef_) (by omega)) rfl ?_
    rintro _ rfl
    have habs8:=br (x.parts_[k0.k].coef_)
    refine OpG.lk (je rfl rfl (by omega) (by omega) (by omega)) (cB (fun hc57=>?_) (fun hc57=>?_))
    ·exact rV Tryz.results282 rfl ⟨_,rfl,⟨by omega,by omega⟩,fun h=>absurd h (by omega)⟩
    have hab:0<=cy x.parts_[k0.k].coef_ * 16/\cy x.parts_[k0.k].coef_ * 16<=1152921504606846976:=N8 (by omega) (by exact .inr (of_decide_eq_false hc57))
    refine cr (ArgG.mk (gf (x.parts_[k0.k].coef_) (by omega)) rfl ?_)
    rintro _ rfl
    have habs9:=br (x.parts_[k0.k].coef_)
    refine OpG.lk (dj rfl rfl (by omega) (by omega)) (OpG.lk (lJ rfl rfl (by omega) (by omega)) ?_)
    refine cB (fun hc66=>?_) (fun hc66=>?_)
    ·exact rV Tryz.results282 rfl ⟨_,rfl,⟨by omega,by omega⟩,fun h=>absurd h (by omega)⟩
    have hle:=of_decide_eq_false hc66
    refine ⟨by omega,⟨(⟨k0.k+1,_⟩:KS),(by show x.parts_.length - (k0.k+1) < x.parts_.length - k0.k; omega),(cO (.cons rfl rfl (.cons rfl rfl (.cons rfl rfl .nil))) (.cons rfl rfl rfl .nil)),?_⟩⟩
    exact ⟨by show k0.k+1<=_; omega,rp hi_k0 hlt18 hcf (by exact hkey) hab.1 (by omega)⟩
   have hq49:(x.parts_[k0.k].coef_:Int)=(0:Int):=by simpa using hg49
   refine cF ?_
   have hab:0<=cy x.parts_[k0.k].coef_ * 16/\cy x.parts_[k0.k].coef_ * 16<=1152921504606846976:=N8 (by omega) (by exact .inl (by simpa using hg49))
   refine cr (ArgG.mk (gf (x.parts_[k0.k].coef_) (by omega)) rfl ?_)
   rintro _ rfl
   have habs10:=br (x.parts_[k0.k].coef_)
   refine OpG.lk (dj rfl rfl (by omega) (by omega)) (OpG.lk (lJ rfl rfl (by omega) (by omega)) ?_)
   refine cB (fun hc66=>?_) (fun hc66=>?_)
   ·exact rV Tryz.results282 rfl ⟨_,rfl,⟨by omega,by omega⟩,fun h=>absurd h (by omega)⟩
   have hle:=of_decide_eq_false hc66
   refine ⟨by omega,⟨(⟨k0.k+1,_⟩:KS),(by show x.parts_.length - (k0.k+1) < x.parts_.length - k0.k; omega),(cO (.cons rfl rfl (.cons rfl rfl (.cons rfl rfl .nil))) (.cons rfl rfl rfl .nil)),?_⟩⟩
   exact ⟨by show k0.k+1<=_; omega,rp hi_k0 hlt18 hcf (by exact hkey) hab.1 (by omega)⟩
  have hq28:¬ ((x.parts_[k0.k].kind_:Int)=(1:Int)):=by simpa using hc28
  refine cB (fun hc31=>?_) (fun hc31=>?_)
  ·have hq31:(x.parts_[k0.k].kind_:Int)=(2:Int):=by simpa using hc31
   have hk2:x.parts_[k0.k].kind_=2:=by simpa using hc31
   have hdv:=hfp.dv hk2
   refine IdxG.of (j:=0) (by omega) (OpG.lk (aq bh rfl (Cm ((hx.parts_.2 _ (Ze _)).of_.2 _ (Ze _)))) ?_)
   refine ArgG.mk (ih x.parts_[k0.k] (Ze _) (x.parts_[k0.k].of_[0]) (Ze _)) (show ay [.agg (rwA x.parts_[k0.k].of_[0])]=true by simp [ay,AV.pureB,Cn ((hx.parts_.2 _ (Ze _)).of_.2 _ (Ze _))]) ?_
   rintro _ ⟨v11,rfl,hv11,hw11⟩
   have htq11:=Np hv11 hdv.2
   have hkey:=Ue hk2 hfp hv11 hw11
   refine OpG.lk (je rfl rfl (by omega) (by omega) (by omega)) (OpG.lk (lJ rfl rfl (by omega) (by omega)) ?_)
   refine ⟨by kernel_rfl,ArgG.mk (i7 (x.parts_[k0.k].coef_) ((-1048576)) 1048576) rfl ?_⟩
   rintro _ ⟨b12,rfl,hb12⟩
   refine cB (fun hg45=>?_) (fun hg45=>?_)
   ·exact cT (rV Tryz.results282 rfl ⟨_,rfl,⟨by omega,by omega⟩,fun h=>absurd h (by omega)⟩)
   have hcf:-1048576<=x.parts_[k0.k].coef_/\x.parts_[k0.k].coef_<=1048576:=hb12.1 (by simpa using hg45)
   refine cB (fun hg49=>?_) (fun hg49=>?_)
   ·have hq49:¬ ((x.parts_[k0.k].coef_:Int)=(0:Int)):=by simpa using hg49
    refine ArgG.mk (gf (x.parts_[k0.k].coef_) (by omega)) rfl ?_
    rintro _ rfl
    have habs13:=br (x.parts_[k0.k].coef_)
    refine OpG.lk (je rfl rfl (by omega) (by omega) (by omega)) (cB (fun hc57=>?_) (fun hc57=>?_))
    ·exact rV Tryz.results282 rfl ⟨_,rfl,⟨by omega,by omega⟩,fun h=>absurd h (by omega)⟩
    have hab:0<=cy x.parts_[k0.k].coef_ * ((v11.tdiv x.parts_[k0.k].by_+1))/\cy x.parts_[k0.k].coef_ * ((v11.tdiv x.parts_[k0.k].by_+1))<=1152921504606846976:=N8 (by omega) (by exact .inr (of_decide_eq_false hc57))
    refine cr (ArgG.mk (gf (x.parts_[k0.k].coef_) (by omega)) rfl ?_)
    rintro _ rfl
    have habs14:=br (x.parts_[k0.k].coef_)
    refine OpG.lk (dj rfl rfl (by omega) (by omega)) (OpG.lk (lJ rfl rfl (by omega) (by omega)) ?_)
    refine cB (fun hc66=>?_) (fun hc66=>?_)
    ·exact rV Tryz.results282 rfl ⟨_,rfl,⟨by omega,by omega⟩,fun h=>absurd h (by omega)⟩
    have hle:=of_decide_eq_false hc66
    refine ⟨by omega,⟨(⟨k0.k+1,_⟩:KS),(by show x.parts_.length - (k0.k+1) < x.parts_.length - k0.k; omega),(cO (.cons rfl rfl (.cons rfl rfl (.cons rfl rfl .nil))) (.cons rfl rfl rfl .nil)),?_⟩⟩
    exact ⟨by show k0.k+1<=_; omega,rp hi_k0 hlt18 hcf (by exact hkey) hab.1 (by omega)⟩
   have hq49:(x.parts_[k0.k].coef_:Int)=(0:Int):=by simpa using hg49
   refine cF ?_
   have hab:0<=cy x.parts_[k0.k].coef_ * ((v11.tdiv x.parts_[k0.k].by_+1))/\cy x.parts_[k0.k].coef_ * ((v11.tdiv x.parts_[k0.k].by_+1))<=1152921504606846976:=N8 (by omega) (by exact .inl (by simpa using hg49))
   refine cr (ArgG.mk (gf (x.parts_[k0.k].coef_) (by omega)) rfl ?_)
   rintro _ rfl
   have habs15:=br (x.parts_[k0.k].coef_)
   refine OpG.lk (dj rfl rfl (by omega) (by omega)) (OpG.lk (lJ rfl rfl (by omega) (by omega)) ?_)
   refine cB (fun hc66=>?_) (fun hc66=>?_)
   ·exact rV Tryz.results282 rfl ⟨_,rfl,⟨by omega,by omega⟩,fun h=>absurd h (by omega)⟩
   have hle:=of_decide_eq_false hc66
   refine ⟨by omega,⟨(⟨k0.k+1,_⟩:KS),(by show x.parts_.length - (k0.k+1) < x.parts_.length - k0.k; omega),(cO (.cons rfl rfl (.cons rfl rfl (.cons rfl rfl .nil))) (.cons rfl rfl rfl .nil)),?_⟩⟩
   exact ⟨by show k0.k+1<=_; omega,rp hi_k0 hlt18 hcf (by exact hkey) hab.1 (by omega)⟩
  have hq31:¬ ((x.parts_[k0.k].kind_:Int)=(2:Int)):=by simpa using hc31
  have hkey0:=key0 (p:=x.parts_[k0.k]) (by simpa using hc31)
  refine ArgG.mk (i7 (x.parts_[k0.k].coef_) ((-1048576)) 1048576) rfl ?_
  rintro _ ⟨b16,rfl,hb16⟩
  refine cB (fun hg45=>?_) (fun hg45=>?_)
  ·exact cT (rV Tryz.results282 rfl ⟨_,rfl,⟨by omega,by omega⟩,fun h=>absurd h (by omega)⟩)
  have hcf:-1048576<=x.parts_[k0.k].coef_/\x.parts_[k0.k].coef_<=1048576:=hb16.1 (by simpa using hg45)
  refine cB (fun hg49=>?_) (fun hg49=>?_)
  ·have hq49:¬ ((x.parts_[k0.k].coef_:Int)=(0:Int)):=by simpa using hg49
   refine ArgG.mk (gf (x.parts_[k0.k].coef_) (by omega)) rfl ?_
   rintro _ rfl
   have habs17:=br (x.parts_[k0.k].coef_)
   refine OpG.lk (je rfl rfl (by omega) (by omega) (by omega)) (cB (fun hc57=>?_) (fun hc57=>?_))
   ·exact rV Tryz.results282 rfl ⟨_,rfl,⟨by omega,by omega⟩,fun h=>absurd h (by omega)⟩
   have hab:0<=cy x.parts_[k0.k].coef_ * 2147483648/\cy x.parts_[k0.k].coef_ * 2147483648<=1152921504606846976:=N8 (by omega) (by exact .inr (of_decide_eq_false hc57))
   refine cr (ArgG.mk (gf (x.parts_[k0.k].coef_) (by omega)) rfl ?_)
   rintro _ rfl
   have habs18:=br (x.parts_[k0.k].coef_)
   refine OpG.lk (dj rfl rfl (by omega) (by omega)) (OpG.lk (lJ rfl rfl (by omega) (by omega)) ?_)
   refine cB (fun hc66=>?_) (fun hc66=>?_)
   ·exact rV Tryz.results282 rfl ⟨_,rfl,⟨by omega,by omega⟩,fun h=>absurd h (by omega)⟩
   have hle:=of_decide_eq_false hc66
   refine ⟨by omega,⟨(⟨k0.k+1,_⟩:KS),(by show x.parts_.length - (k0.k+1) < x.parts_.length - k0.k; omega),(cO (.cons rfl rfl (.cons rfl rfl (.cons rfl rfl .nil))) (.cons rfl rfl rfl .nil)),?_⟩⟩
   exact ⟨by show k0.k+1<=_; omega,rp hi_k0 hlt18 hcf (by exact hkey0) hab.1 (by omega)⟩
  have hq49:(x.parts_[k0.k].coef_:Int)=(0:Int):=by simpa using hg49
  refine cF ?_
  have hab:0<=cy x.parts_[k0.k].coef_ * 2147483648/\cy x.parts_[k0.k].coef_ * 2147483648<=1152921504606846976:=N8 (by omega) (by exact .inl (by simpa using hg49))
  refine cr (ArgG.mk (gf (x.parts_[k0.k].coef_) (by omega)) rfl ?_)
  rintro _ rfl
  have habs19:=br (x.parts_[k0.k].coef_)
  refine OpG.lk (dj rfl rfl (by omega) (by omega)) (OpG.lk (lJ rfl rfl (by omega) (by omega)) ?_)
  refine cB (fun hc66=>?_) (fun hc66=>?_)
  ·exact rV Tryz.results282 rfl ⟨_,rfl,⟨by omega,by omega⟩,fun h=>absurd h (by omega)⟩
  have hle:=of_decide_eq_false hc66
  refine ⟨by omega,⟨(⟨k0.k+1,_⟩:KS),(by show x.parts_.length - (k0.k+1) < x.parts_.length - k0.k; omega),(cO (.cons rfl rfl (.cons rfl rfl (.cons rfl rfl .nil))) (.cons rfl rfl rfl .nil)),?_⟩⟩
  exact ⟨by show k0.k+1<=_; omega,rp hi_k0 hlt18 hcf (by exact hkey0) hab.1 (by omega)⟩
 exact rV Tryz.results282 rfl ⟨_,rfl,Y8 hcc hi_k0 hge18⟩
theorem R3 (r:List AV) (hr:IsTm r):PRet Tryz.prog 282 [.agg (rwA r)] (fun q=>∃ v:Int,q=.v (.int .i64 v)/\(0<=v/\v<=1152921504606846977)/\(v<=1152921504606846976->Bd r v/\Sm r)):=IsTm.ind (M:=fun r=>PRet Tryz.prog 282 [.agg (rwA r)] (fun q=>∃ v:Int,q=.v (.int .i64 v)/\(0<=v/\v<=1152921504606846977)/\(v<=1152921504606846976->Bd r v/\Sm r))) (fun x hx ih=>R1 x hx ih) hr
theorem O3.cellN {P:Program} {N:Nat} {s:St} {ret:AV} (fn:Func) {t ty n id ver:Nat} {b:Blk} (ht:el P ty=some (some n)) (hx:s.τ t=.ptr id ver 0) (hb:s.η id=some b) (hv:b.ver=ver) (hn:b.nilp=false) (hl:b.cs.length=n)
  (h:∃ fp,FzP fp s.η (.agg b.cs) ret):O3 P N s (.cell t ty) ret :=
 Ai (fn:={ fn with results:=#[.cell t ty] }) rfl (Kh.cell rfl ht hx hb hv hn hl h)
theorem dg {fp:List Nat} {η:au}:FzP fp η (.agg [.v (.int .i64 0),.v (.slice none 0 0)]) (.agg (tmA ⟨0,[]⟩)) :=
 FzP.agg rfl (fun i h h'=>match i,h with
  | 0,_=>FzP.pure rfl
  | 1,_=>FzP.nil)
theorem dc:FitTm ⟨0,[]⟩:=⟨⟨Nat.zero_le _,fun x hx=>absurd hx (by simp)⟩⟩
theorem J8 {fp:List Nat} {η:au} (c:Int):FzP fp η (.agg [.v (.int .i64 c),.v (.slice none 0 0)]) (.agg (tmA ⟨c,[]⟩)) :=
 FzP.agg rfl (fun i h h'=>match i,h with
  | 0,_=>FzP.pure rfl
  | 1,_=>FzP.nil)
def B60 (x:GTm):Prop:=Bd (tmA x) 1152921504606846976
theorem Bd.mono {r:List AV} {m n:Int} (h:Bd r m) (hm:m<=n):Bd r n:=fun ρ hρ=>by have:=h ρ hρ; omega
/-- Where a sum of terms ju after some parts of the second one. -/
structure AddI (x y:GTm) (s:KL GPart):Prop where
 len:s.L.length<=x.parts_.length+s.k
 fit:bw s.L (fun p=>FitPart p)
 cf:∀ q∈s.L,-(1048576 * ((s.k:Int)+1))<=q.coef_/\q.coef_<=1048576 * ((s.k:Int)+1)
 val:∀ ρ,fo ρ s.L=fo ρ x.parts_+fo ρ (y.parts_.take s.k)
theorem add0 {x y:GTm} (hx:FitTm x) (hc:p5 x):AddI x y ⟨0,x.parts_⟩:=⟨Nat.le_refl _,hx.parts_,fun q hq=>by have:=hc.2 q hq; show -(1048576 * (((0:Nat):Int)+1))<=_/\_<=1048576 * (((0:Nat):Int)+1); omega,fun ρ=>by simp [fo]⟩
theorem Sc {x y:GTm} {s:KL GPart} (h:AddI x y s) (hk:s.k < y.parts_.length) {L:List GPart} (h1:bw L (fun p=>FitPart p)) (h2:L.length<=s.L.length+1) (h3:∀ q∈L,-(1048576 * ((s.k:Int)+1)+1048576)<=q.coef_/\q.coef_<=1048576 * ((s.k:Int)+1)+1048576) (h4:∀ ρ,fo ρ L=fo ρ s.L+vn ρ y.parts_[s.k]):AddI x y ⟨s.k+1,L⟩ :=
 ⟨by have:=h.len; show L.length<=_+(s.k+1); omega,h1,fun q hq=>by have:=h3 q hq; show -(1048576 * (((s.k+1:Nat):Int)+1))<=_/\_<=1048576 * (((s.k+1:Nat):Int)+1); omega,fun ρ=>by show fo ρ L=_+fo ρ (y.parts_.take (s.k+1)); rw [h4 ρ,h.val ρ,jj ρ hk]; omega⟩
theorem V0 {x y t:GTm} {s:KL GPart} (h:AddI x y s) (hge:¬ s.k < y.parts_.length) (hle:s.k<=y.parts_.length) (ht:t=⟨x.const_+y.const_,s.L⟩):t.parts_.length<=x.parts_.length+y.parts_.length/\∀ ρ,tvL ρ (tmA t)=tvL ρ (tmA x)+tvL ρ (tmA y):=by
 subst ht
 refine ⟨by have:=h.len; show s.L.length<=_; omega,fun ρ=>?_⟩
 rw [iz,iz,iz]
 show x.const_+y.const_+fo ρ s.L=_
 rw [h.val ρ,List.take_of_length_le (by omega)]
 omega
theorem G2 (x:GTm) (hx:FitTm x):PRet Tryz.prog 241 [.agg (tmA x)] (fun r=>∃ b:Bool,r=.v (.bool b)/\(b=true->B60 x/\p5 x)):=by
 refine PRet.of_vc ao [] [] Tryz.func241 rfl Tryz.ntmps241 rfl (by kernel_rfl) (ArgG.mk (R3 (tmA x) (isTm hx)) rfl ?_)
 rintro _ ⟨v0,rfl,hv0,hw0⟩
 exact rV Tryz.results241 rfl ⟨_,rfl,fun hr=>by have:=hw0 (of_decide_eq_true hr); exact ⟨this.1.mono (of_decide_eq_true hr),this.2.of⟩⟩
theorem mj (x:GTm) (hx:FitTm x):PRet Tryz.prog 201 [.agg (tmA x)] (fun r=>∃ (t:GTm) (e:Int),r=.tup [.agg (tmA t),.v (.int .i64 e)]/\FitTm t/\(e=0->t=x/\B60 x/\p5 x)):=by
 refine PRet.of_vc ao [] [] Tryz.func201 rfl Tryz.ntmps201 rfl (by kernel_rfl) (ArgG.mk (G2 x hx) rfl ?_)
 rintro _ ⟨b0,rfl,hb0⟩
 refine cB (fun hc6=>?_) (fun hc6=>?_)
 ·exact ⟨.inr rfl,_,ab Tryz.results201 (O3.cellN Tryz.f201 bh rfl rfl rfl rfl rfl ⟨[],dg⟩) (O3.tmp ⟨[],FzP.pure rfl⟩),⟨⟨0,[]⟩,3,rfl,dc,fun h=>absurd h (by decide)⟩⟩
 exact ⟨.inr rfl,_,ab Tryz.results201 (O3.cellN Tryz.f201 bh rfl rfl rfl rfl rfl ⟨[],FzP.pure rfl⟩) (O3.tmp ⟨[],FzP.pure rfl⟩),⟨x,0,rfl,hx,fun _=>⟨rfl,hb0 (by simpa using hc6)⟩⟩⟩
theorem Sb (x:GTm) (hx:FitTm x) (y:GTm) (hy:FitTm y) (hcx:p5 x) (hcy:p5 y) (hlx:x.parts_.length<=200000) (hly:y.parts_.length<=200000):PRet Tryz.prog 243 [.agg (tmA x),.agg (tmA y)] (fun r=>∃ (t:GTm) (e:Int),r=.tup [.agg (tmA t),.v (.int .i64 e)]/\FitTm t/\(e=0->B60 t/\p5 t/\t.parts_.length<=x.parts_.length+y.parts_.length/\∀ ρ,tvL ρ (tmA t)=tvL ρ (tmA x)+tvL ρ (tmA y))):=by
 have hc1:=hcx.1
 have hc2:=hcy.1
 refine PRet.of_vc ao [] [] Tryz.func243 rfl Tryz.ntmps243 rfl (by kernel_rfl) ⟨by omega,LpG.on (fun k0:KL GPart=>(⟨fL [(3,.ptr 1 0 0),(4,.ptr 2 0 0),(6,.ptr 3 0 0),(7,.v (.int .i64 ((k0.k:Nat):Int)))],bl [(1,⟨0,tmA y,0,false⟩),(2,⟨0,[.v (.int .i64 0),.v (.slice none 0 0)],0,false⟩),(3,⟨0,[.v (.int .i64 (x.const_+y.const_)),.tree 5 (k0.L.map ptA)],0,false⟩)],4⟩:St)) (fun k0=>(y.parts_.length - k0.k)) (fun k0=>(k0.k<=y.parts_.length/\AddI x y k0)) (⟨0,x.parts_⟩:KL GPart) (cO (.cons rfl rfl (.cons rfl rfl (.cons rfl rfl (.cons rfl rfl .nil)))) (.cons rfl rfl rfl (.cons rfl rfl rfl (.cons rfl rfl rfl .nil)))) ⟨Nat.zero_le _,add0 hx hcx⟩ ?_⟩
 rintro k0 hinv
 have hgr_k0:y.parts_.length<=140737488355328:=hy.parts_.1
 obtain ⟨hle_k0,hi_k0⟩:=hinv
 refine LenG.of (cL (fun hlt20=>?_) (fun hge20=>?_))
 ·refine IdxG.of (by assumption) (ArgG.mk (Ma k0.L hi_k0.fit (y.parts_[k0.k]) (hy.parts_.2 _ (Ze _)) (1048576 * ((k0.k:Int)+1)) 1048576 (by omega) (by omega) (by have:=hi_k0.len; omega) hi_k0.cf (hcy.2 _ (Ze _))) rfl ?_)
  rintro _ ⟨L0,rfl,hLf0,hLl0,hLc0,hLv0⟩
  refine ⟨by kernel_rfl,⟨by omega,?_⟩⟩
  refine ⟨(⟨k0.k+1,L0⟩:KL GPart),(by show y.parts_.length - (k0.k+1) < y.parts_.length - k0.k; omega),(cO (.cons rfl rfl (.cons rfl rfl (.cons rfl rfl (.cons rfl rfl .nil)))) (.cons rfl rfl rfl (.cons rfl rfl rfl (.cons rfl rfl rfl .nil)))),⟨by show k0.k+1<=_; omega,?_⟩⟩
  exact Sc hi_k0 hlt20 hLf0 hLl0 hLc0 hLv0
 refine ArgG.mk (mj (⟨x.const_+y.const_,k0.L⟩:GTm) ⟨hi_k0.fit⟩) rfl ?_
 rintro _ ⟨t1,e1,rfl,ht1,he1⟩
 exact ⟨.inr rfl,_,ab Tryz.results243 (O3.cellN Tryz.f243 bh rfl rfl rfl rfl rfl ⟨[],FzP.pure rfl⟩) (O3.tmp ⟨[],FzP.pure rfl⟩),⟨_,_,rfl,ht1,fun h=>by obtain ⟨h1,h2,h3⟩:=he1 h; have h4:=V0 hi_k0 hge20 hle_k0 h1; subst h1; exact ⟨h2,h3,h4⟩⟩⟩
/-- Where the product of a term and a number ju after some parts. -/
structure ScI (x:GTm) (n:Int) (s:KL GPart):Prop where
 len:s.L.length<=s.k
 fit:∀ p∈s.L,FitPart p
 val:(∀ q∈s.L,-1048576<=q.coef_/\q.coef_<=1048576)->∀ ρ,fo ρ s.L=n * fo ρ (x.parts_.take s.k)
theorem sc0 (x:GTm) (n:Int):ScI x n ⟨0,[]⟩:=⟨Nat.le_refl _,by simp,fun _ ρ=>by simp [fo]⟩
section
variable {x:GTm} {n v:Int} {s:KL GPart}
theorem Tg (h:ScI x n s) (hk:s.k < x.parts_.length) (hf:FitPart x.parts_[s.k]) (hv:v=1152921504606846976\/(v=x.parts_[s.k].coef_ * n/\-1152921504606846976<=v/\v<=1152921504606846976)):ScI x n ⟨s.k+1,s.L++[{ x.parts_[s.k] with coef_:=v }]⟩ :=
 ⟨by have:=h.len; simp only [Zi,List.length_singleton]; omega,fa h.fit ⟨hf.of_,hf.one,hf.dv,hf.bd⟩,fun hq ρ=>by
  show fo ρ (s.L++[_])=n * fo ρ (x.parts_.take (s.k+1))
  rw [m6,jj ρ hk,h.val (fun q hq'=>hq q (List.mem_append_left _ hq')) ρ,Int.mul_add]
  have h1:=hq { x.parts_[s.k] with coef_:=v } (List.mem_append_right _ (Zj.2 rfl))
  have h2:v=x.parts_[s.k].coef_ * n:=by
   rcases hv with h | h
   ·rw [h] at h1; exact absurd h1.2 (by show ¬ ((1152921504606846976:Int)<=1048576); decide)
   ·exact h.1
  have h3:vn ρ { x.parts_[s.k] with coef_:=v }=n * vn ρ x.parts_[s.k]:=by
   show v * qs ρ x.parts_[s.k]=n * (x.parts_[s.k].coef_ * qs ρ x.parts_[s.k])
   rw [h2,Int.mul_comm _ n,Int.mul_assoc]
  simp only [fo,h3]
  omega⟩
theorem Th (h:ScI x n s) (hk:s.k < x.parts_.length) (hv:v=1152921504606846976\/(v=x.parts_[s.k].coef_ * n/\-1152921504606846976<=v/\v<=1152921504606846976)) (hz:v=0):ScI x n ⟨s.k+1,s.L⟩ :=
 ⟨by have:=h.len; show s.L.length<=s.k+1; omega,h.fit,fun hq ρ=>by
  show fo ρ s.L=n * fo ρ (x.parts_.take (s.k+1))
  rw [jj ρ hk,h.val hq ρ,Int.mul_add]
  have h2:x.parts_[s.k].coef_ * n=0:=by
   rcases hv with h | h <;> omega
  have h3:n * vn ρ x.parts_[s.k]=0:=by
   show n * (x.parts_[s.k].coef_ * qs ρ x.parts_[s.k])=0
   rw [<- Int.mul_assoc,Int.mul_comm n,h2,Int.zero_mul]
  omega⟩
end
theorem Xa {x t:GTm} {n c:Int} {s:KL GPart} (h:ScI x n s) (hge:¬ s.k < x.parts_.length) (hle:s.k<=x.parts_.length) (hc:c=1152921504606846976\/(c=x.const_ * n/\-1152921504606846976<=c/\c<=1152921504606846976)) (ht:t=⟨c,s.L⟩) (hcf:p5 ⟨c,s.L⟩):t.parts_.length<=x.parts_.length/\∀ ρ,tvL ρ (tmA t)=n * tvL ρ (tmA x):=by
 subst ht
 refine ⟨by have:=h.len; show s.L.length<=_; omega,fun ρ=>?_⟩
 have h1:c=x.const_ * n:=by
  rcases hc with h | h
  ·have:=hcf.1; simp only at this; omega
  ·exact h.1
 have h2:=h.val hcf.2 ρ
 rw [List.take_of_length_le (by omega)] at h2
 rw [iz,iz]
 show c+fo ρ s.L=_
 rw [h2,h1,Int.mul_add,Int.mul_comm]
theorem od (x:GTm) (hx:FitTm x) (n:Int) (hlx:x.parts_.length<=500000):PRet Tryz.prog 202 [.agg (tmA x),.v (.int .i64 n)] (fun r=>∃ (t:GTm) (e:Int),r=.tup [.agg (tmA t),.v (.int .i64 e)]/\FitTm t/\(e=0->B60 t/\p5 t/\t.parts_.length<=x.parts_.length/\∀ ρ,tvL ρ (tmA t)=n * tvL ρ (tmA x))):=by
 refine PRet.of_vc ao [] [9] Tryz.func202 rfl Tryz.ntmps202 rfl (by kernel_rfl) (ArgG.mk (Gp x.const_ n) rfl ?_)
 rintro _ ⟨v0,rfl,hv0⟩
 refine LpG.via (fun _ h=>g7 2 1 5 rfl rfl rfl rfl rfl 4 rfl h) (LpG.on (fun k0:KL GPart=>(⟨fL [(1,.v (.int .i64 n)),(2,.ptr 0 0 0),(4,.ptr 1 0 0),(6,.ptr 2 0 0),(7,.v (.int .i64 ((k0.k:Nat):Int)))],bl [(0,⟨0,tmA x,0,false⟩),(1,⟨0,[.v (.int .i64 0),.v (.slice none 0 0)],0,false⟩),(2,⟨0,[.v (.int .i64 v0),.sl 3 k0.L.length 0 k0.L.length],0,false⟩),(3,⟨k0.L.length,rF ptA k0.L,5,Nat.beq k0.L.length 0⟩)],4⟩:St)) (fun k0=>(x.parts_.length - k0.k)) (fun k0=>(k0.k<=x.parts_.length/\ScI x n k0)) (⟨0,[]⟩:KL GPart) (cO (.cons rfl rfl (.cons rfl rfl (.cons rfl rfl (.cons rfl rfl (.cons rfl rfl .nil))))) (.cons rfl rfl rfl (.cons rfl rfl rfl (.cons (by rfl) rfl rfl (.cons (by rfl) rfl (ag ec _ _) .nil))))) ⟨Nat.zero_le _,sc0 x n⟩ ?_)
 rintro k0 hinv
 have hgr_k0:x.parts_.length<=140737488355328:=hx.parts_.1
 obtain ⟨hle_k0,hi_k0⟩:=hinv
 refine LenG.of (cL (fun hlt18=>?_) (fun hge18=>?_))
 ·have hfk:=hx.parts_.2 _ (Ze hlt18)
  have hll:=hi_k0.len
  refine IdxG.of (by assumption) (ArgG.mk (Gp (x.parts_[k0.k].coef_) n) rfl ?_)
  rintro _ ⟨v1,rfl,hv1⟩
  refine cB (fun hc33=>?_) (fun hc33=>?_)
  ·refine OpG.mk _ _ _ 6 (aj ec (a:=({ x.parts_[k0.k] with coef_:=v1 }:GPart)) Tryz.underlying130 y4 yn Bw rfl rfl rfl (az rfl rfl rfl rfl) rfl (by omega) (by omega) (by unfold TV; omega)) rfl rfl ⟨by omega,⟨(⟨k0.k+1,k0.L++[({ x.parts_[k0.k] with coef_:=v1 }:GPart)]⟩:KL GPart),(by show x.parts_.length - (k0.k+1) < x.parts_.length - k0.k; omega),(cO (.cons rfl rfl (.cons rfl rfl (.cons rfl rfl (.cons rfl rfl (.cons rfl rfl .nil))))) (.cons rfl rfl rfl (.cons rfl rfl rfl (.cons (by (rw [Zi]; rfl)) rfl rfl (.cons (by (rw [Zi]; rfl)) rfl (ag ec _ _) .nil))))),?_⟩⟩
   exact ⟨by show k0.k+1<=_; omega,Tg hi_k0 hlt18 hfk hv1⟩
  refine ⟨by omega,⟨(⟨k0.k+1,k0.L⟩:KL GPart),(by show x.parts_.length - (k0.k+1) < x.parts_.length - k0.k; omega),(cO (.cons rfl rfl (.cons rfl rfl (.cons rfl rfl (.cons rfl rfl (.cons rfl rfl .nil))))) (.cons rfl rfl rfl (.cons rfl rfl rfl (.cons (by rfl) rfl rfl (.cons (by rfl) rfl (ag ec _ _) .nil))))),?_⟩⟩
  exact ⟨by show k0.k+1<=_; omega,Th hi_k0 hlt18 hv1 (by simpa using hc33)⟩
 refine RegG.via (fun _ h=>gg [3] 2 0 0 [.v (.int .i64 v0),.sl 3 k0.L.length 0 k0.L.length] [.v (.int .i64 v0),.tree 5 (k0.L.map ptA)] rfl rfl (.keep (.fz (FzP.rows ec (Zj.2 rfl) rfl) (.same _))) rfl h) (cr ?_)
 refine ArgG.mk (mj ⟨v0,k0.L⟩ ⟨⟨by show k0.L.length<=_; have:=hi_k0.len; omega,hi_k0.fit⟩⟩) rfl ?_
 rintro _ ⟨t2,e2,rfl,ht2,he2⟩
 exact ⟨.inr rfl,_,ab Tryz.results202 (O3.cellN Tryz.f202 bh rfl rfl rfl rfl rfl ⟨[],FzP.pure rfl⟩) (O3.tmp ⟨[],FzP.pure rfl⟩),⟨_,_,rfl,ht2,fun h=>by obtain ⟨h1,h2,h3⟩:=he2 h; have h4:=Xa hi_k0 hge18 hle_k0 hv0 h1 h3; subst h1; exact ⟨h2,h3,h4⟩⟩⟩
theorem yj {fp:List Nat} {η:au} {id n v:Nat} {cs ds:List AV} (hid:id∈fp) (hb:η id=some ⟨v,cs,n,false⟩) (hl:cs.length=n) (hd:ds.length=n) (h:∀ i (h:i < cs.length) (h':i < ds.length),FzP fp η cs[i] ds[i]):FzP fp η (.sl id v 0 1) (.tree n [ds]) :=
 FzP.sl (b:=⟨v,cs,n,false⟩) (rows:=[ds]) hid hb rfl rfl rfl (fun k hk=>by
  have:k=0:=by simp at hk; omega
  subst this; exact hd) (fun k hk j hj=>by
  have:k=0:=by simp at hk; omega
  subst this
  have hj':j < ds.length:=hj
  refine ⟨cs[j]'(by omega),?_,h j (by omega) hj'⟩
  simp only [Nat.zero_mul,Nat.zero_add]
  exact Zf (by show j < cs.length; omega))
theorem P3 {fp:List Nat} {η:au} {cs:List AV} (h:ay cs=true):∀ i (h:i < cs.length) (h':i < cs.length),FzP fp η cs[i] cs[i]:=fun i h1 _=>FzP.pure (ky h i h1)
def dvP (x:GTm) (b:Int):GPart:=⟨1,2,0,b,[tmA x]⟩
def dvT (x:GTm) (b:Int):GTm:=⟨0,[dvP x b]⟩
theorem U6 {x:GTm} {b:Int} (hx:FitTm x) (hb:1<=b/\b<=1000) (h6:B60 x):FitTm (dvT x b) :=
 ⟨⟨by show 1<=_; decide,fun p hp=>by
  rw [Zj.1 hp]
  exact ⟨⟨by show 1<=_; decide,fun r hr=>by rw [Zj.1 hr]; exact isTm hx⟩,Nat.le_refl _,fun _=>⟨rfl,hb.1,hb.2⟩,fun _ r hr=>by rw [Zj.1 hr]; exact h6⟩⟩⟩
theorem U5 {x:GTm} {b:Int} (ρ:Int->Int->Int):tvL ρ (tmA (dvT x b))=(tvL ρ (tmA x)).fdiv b:=by
 rw [iz]
 simp [dvT,dvP,fo,vn,qs,ofL]
theorem FzP.dv {η:au} {x:GTm} {b:Int} {i j v w:Nat} (hi:η i=some ⟨v,tmA x,2,false⟩) (hj:η j=some ⟨w,[.v (.int .i64 1),.v (.int .i64 2),.v (.int .i64 0),.v (.int .i64 b),.sl i v 0 1],5,false⟩):FzP [i,j] η (.agg [.v (.int .i64 0),.sl j w 0 1]) (.agg (tmA (dvT x b))) :=
 FzP.agg rfl (fun k h h'=>match k,h with
  | 0,_=>FzP.pure rfl
  | 1,_=>yj (by simp) hj rfl rfl (fun k h h'=>match k,h with
   | 0,_=>FzP.pure rfl
   | 1,_=>FzP.pure rfl
   | 2,_=>FzP.pure rfl
   | 3,_=>FzP.pure rfl
   | 4,_=>yj (by simp) hi rfl rfl (P3 rfl)))
theorem Mk {a b m:Int} (hb:1<=b) (hm:0<=m) (h:-m<=a/\a<=m):-m<=a.fdiv b/\a.fdiv b<=m:=by
 rw [Int.fdiv_eq_ediv_of_nonneg _ (by omega)]
 have h1:a / b<=m / b:=Int.ediv_le_ediv (by omega) h.2
 have h2:=Int.ediv_le_self b hm
 have h3:-m<=a / b:=by
  rw [Int.le_ediv_iff_mul_le (by omega)]
  have:m * 1<=m * b:=Int.mul_le_mul_of_nonneg_left hb hm
  rw [Int.neg_mul]; omega
 have h4:m / b<=m:=Int.ediv_le_self b hm
 omega
def F3 (x t:GTm) (b:Int):Prop:=(1<=b/\b<=1000)/\B60 t/\p5 t/\t.parts_.length<=x.parts_.length+1/\∀ ρ,tvL ρ (tmA t)=(tvL ρ (tmA x)).fdiv b
theorem div1 {x:GTm} {b:Int} (h:b=1) (h6:B60 x) (hc:p5 x):F3 x x b:=by
 subst h; exact ⟨by decide,h6,hc,Nat.le_succ _,fun ρ=>by simp⟩
theorem divC {x:GTm} {b f:Int} (hb:1<=b/\b<=1000) (hc:p5 x) (hz:((x.parts_.length:Nat):Int)=0) (hf:f=x.const_.fdiv b):F3 x ⟨f,[]⟩ b:=by
 subst hf
 have h1:=Mk hb.1 (by decide:(0:Int)<=1099511627776) hc.1
 have e:x.parts_=[]:=List.eq_nil_of_length_eq_zero (by omega)
 refine ⟨hb,fun ρ _=>?_,⟨h1,fun p hp=>absurd hp (by simp)⟩,Nat.zero_le _,fun ρ=>?_⟩
 ·rw [iz]; show -1152921504606846976<=x.const_.fdiv b+fo ρ []/\x.const_.fdiv b+fo ρ []<=_; simp only [fo]; omega
 rw [iz,iz,e]; simp [fo]
theorem divD {x t:GTm} {b:Int} (hb:1<=b/\b<=1000) (h1:t=dvT x b) (h2:B60 t) (h3:p5 t):F3 x t b:=by
 subst h1; exact ⟨hb,h2,h3,by show 1<=_+1; omega,fun ρ=>U5 ρ⟩
theorem qt {c:Int}:FitTm ⟨c,[]⟩:=⟨⟨Nat.zero_le _,fun x hx=>absurd hx (by simp)⟩⟩
theorem Oq:co Tryz.prog 201=true:=by kernel_rfl
theorem Yl (x:GTm) (hx:FitTm x) (by_:Int) (h6:B60 x) (hcx:p5 x):PRet Tryz.prog 245 [.agg (tmA x),.v (.int .i64 by_)] (fun r=>∃ (t:GTm) (e:Int),r=.tup [.agg (tmA t),.v (.int .i64 e)]/\FitTm t/\(e=0->F3 x t by_)):=by
 have hcc:=hcx.1
 refine PRet.of_vc ao [28] [] Tryz.func245 rfl Tryz.ntmps245 rfl (by kernel_rfl) (ArgG.mk (i7 by_ 1 1000) rfl ?_)
 rintro _ ⟨b0,rfl,hb0⟩
 refine cB (fun hc8=>?_) (fun hc8=>?_)
 ·exact ⟨.inr rfl,_,ab Tryz.results245 (O3.cellN Tryz.f245 bh rfl rfl rfl rfl rfl ⟨[],dg⟩) (O3.tmp ⟨[],FzP.pure rfl⟩),⟨⟨0,[]⟩,1,rfl,dc,fun h=>absurd h (by decide)⟩⟩
 have hby:=hb0.1 (by simpa using hc8)
 refine cB (fun hc11=>?_) (fun hc11=>?_)
 ·have hq11:(by_:Int)=(1:Int):=by simpa using hc11
  exact ⟨.inr rfl,_,ab Tryz.results245 (O3.cellN Tryz.f245 bh rfl rfl rfl rfl rfl ⟨[],FzP.pure rfl⟩) (O3.tmp ⟨[],FzP.pure rfl⟩),⟨x,0,rfl,hx,fun _=>div1 (by simpa using hc11) h6 hcx⟩⟩
 have hq11:¬ ((by_:Int)=(1:Int)):=by simpa using hc11
 refine LenG.of (cE (fun hq16=>?_) (fun hq16=>?_))
 ·refine ArgG.mk (Iv x.const_ by_ (by omega) (by omega)) rfl ?_
  rintro _ ⟨f1,rfl,hf1⟩
  exact ⟨.inr rfl,_,ab Tryz.results245 (O3.cellN Tryz.f245 bh rfl rfl rfl rfl rfl ⟨[],J8 _⟩) (O3.tmp ⟨[],FzP.pure rfl⟩),⟨⟨_,[]⟩,0,rfl,qt,fun _=>divC hby hcx (by assumption) hf1⟩⟩
 obtain ⟨_,⟨t2,e2,rfl,ht2,he2⟩,hcl2⟩:=mj (dvT x by_) (U6 hx hby h6)
 exact OpG.mk _ _ _ 4 (qd [2,3] Oq rfl (fun i h h'=>match i,h with | 0,_=>FzP.dv rfl rfl) (fun id hid=>by simp at hid; rcases hid with rfl | rfl <;> rfl) hcl2) rfl rfl ⟨.inr rfl,_,ab Tryz.results245 (O3.cellN Tryz.f245 bh rfl rfl rfl rfl rfl ⟨[],FzP.pure rfl⟩) (O3.tmp ⟨[],FzP.pure rfl⟩),⟨_,_,rfl,ht2,fun h=>by obtain ⟨h1,h2,h3⟩:=he2 h; subst h1; exact divD hby rfl h2 h3⟩⟩
def F9 (kd i:Int):GTm:=⟨0,[⟨1,kd,i,0,[]⟩]⟩
theorem Bv {kd i:Int} (h:kd≠2):FitTm (F9 kd i):=⟨⟨by show 1<=_; decide,fun p hp=>by
  rw [Zj.1 hp]
  exact ⟨⟨Nat.zero_le _,fun r hr=>absurd hr (by simp)⟩,Nat.zero_le _,fun h'=>absurd h' h,fun h'=>absurd h' h⟩⟩⟩
theorem FzP.col {η:au} {kd i:Int} {j w:Nat} (hj:η j=some ⟨w,[.v (.int .i64 1),.v (.int .i64 kd),.v (.int .i64 i),.v (.int .i64 0),.v (.slice none 0 0)],5,false⟩):FzP [j] η (.agg [.v (.int .i64 0),.sl j w 0 1]) (.agg (tmA (F9 kd i))) :=
 FzP.agg rfl (fun k h h'=>match k,h with
  | 0,_=>FzP.pure rfl
  | 1,_=>yj (by simp) hj rfl rfl (fun k h h'=>match k,h with
   | 0,_=>FzP.pure rfl
   | 1,_=>FzP.pure rfl
   | 2,_=>FzP.pure rfl
   | 3,_=>FzP.pure rfl
   | 4,_=>FzP.nil))
/-- LENGTH of a literal text or of a column. -/
def Sg (x:GEx) (t:GTm):Prop:=x.op_=9/\∃ a:GEx,x.args_=[exA a]/\a.args_=[]/\((a.op_=1/\a.value_.kind_=2/\t=⟨((a.value_.text_.size:Nat):Int),[]⟩)\/(a.op_=2/\0<=a.index_/\t=F9 1 a.index_))
/-- The term of an operator. -/
structure BinOk (op:Int) (a b t:GTm):Prop where
 b6:B60 t
 cf:p5 t
 len:t.parts_.length<=2 * max a.parts_.length b.parts_.length+1
 add:op=4->∀ ρ,tvL ρ (tmA t)=tvL ρ (tmA a)+tvL ρ (tmA b)
 sub:op=5->∀ ρ,tvL ρ (tmA t)=tvL ρ (tmA a) - tvL ρ (tmA b)
 mul:op=6->∀ ρ,tvL ρ (tmA t)=tvL ρ (tmA a) * tvL ρ (tmA b)
 dv:op=7\/op=8->b.parts_=[]/\1<=b.const_/\b.const_<=1000
 quo:op=7->∀ ρ,tvL ρ (tmA t)=(tvL ρ (tmA a)).fdiv b.const_
 md:op=8->∀ ρ,tvL ρ (tmA t)=tvL ρ (tmA a) - b.const_ * (tvL ρ (tmA a)).fdiv b.const_
theorem pg {b:GTm} (h:¬ ((b.parts_.length:Nat):Int) > 0) (ρ:Int->Int->Int):tvL ρ (tmA b)=b.const_:=by
 rw [iz,List.eq_nil_of_length_eq_zero (by omega:b.parts_.length=0)]; simp [fo]
section
variable {op:Int} {a b t s u:GTm}
theorem bin4 (h:op=4) (h1:B60 t/\p5 t/\t.parts_.length<=a.parts_.length+b.parts_.length/\∀ ρ,tvL ρ (tmA t)=tvL ρ (tmA a)+tvL ρ (tmA b)):BinOk op a b t:=by
 subst h; exact ⟨h1.1,h1.2.1,by omega,fun _=>h1.2.2.2,by omega,by omega,by omega,by omega,by omega⟩
theorem bin5 (h:op=5) (h0:B60 s/\p5 s/\s.parts_.length<=b.parts_.length/\∀ ρ,tvL ρ (tmA s)=-1 * tvL ρ (tmA b)) (h1:B60 t/\p5 t/\t.parts_.length<=a.parts_.length+s.parts_.length/\∀ ρ,tvL ρ (tmA t)=tvL ρ (tmA a)+tvL ρ (tmA s)):BinOk op a b t:=by
 subst h; exact ⟨h1.1,h1.2.1,by omega,by omega,fun _ ρ=>by rw [h1.2.2.2 ρ,h0.2.2.2 ρ]; omega,by omega,by omega,by omega,by omega⟩
theorem Vt (h:op=6) (hz:¬ ((a.parts_.length:Nat):Int) > 0) (h1:B60 t/\p5 t/\t.parts_.length<=b.parts_.length/\∀ ρ,tvL ρ (tmA t)=a.const_ * tvL ρ (tmA b)):BinOk op a b t:=by
 subst h; exact ⟨h1.1,h1.2.1,by omega,by omega,by omega,fun _ ρ=>by rw [h1.2.2.2 ρ,pg hz],by omega,by omega,by omega⟩
theorem Vs (h:op=6) (hz:¬ ((b.parts_.length:Nat):Int) > 0) (h1:B60 t/\p5 t/\t.parts_.length<=a.parts_.length/\∀ ρ,tvL ρ (tmA t)=b.const_ * tvL ρ (tmA a)):BinOk op a b t:=by
 subst h; exact ⟨h1.1,h1.2.1,by omega,by omega,by omega,fun _ ρ=>by rw [h1.2.2.2 ρ,pg hz,Int.mul_comm],by omega,by omega,by omega⟩
theorem bin7 (h:op=7) (hz:¬ ((b.parts_.length:Nat):Int) > 0) (h1:F3 a t b.const_):BinOk op a b t:=by
 subst h; obtain ⟨h1,h2,h3,h4,h5⟩:=h1
 exact ⟨h2,h3,by omega,by omega,by omega,by omega,fun _=>⟨List.eq_nil_of_length_eq_zero (by omega),h1.1,h1.2⟩,fun _=>h5,by omega⟩
theorem bin8 (h:op=8) (hz:¬ ((b.parts_.length:Nat):Int) > 0) (h1:F3 a s b.const_) (h2:B60 u/\p5 u/\u.parts_.length<=s.parts_.length/\∀ ρ,tvL ρ (tmA u)=-b.const_ * tvL ρ (tmA s)) (h3:B60 t/\p5 t/\t.parts_.length<=a.parts_.length+u.parts_.length/\∀ ρ,tvL ρ (tmA t)=tvL ρ (tmA a)+tvL ρ (tmA u)):BinOk op a b t:=by
 subst h; obtain ⟨g1,g2,g3,g4,g5⟩:=h1
 exact ⟨h3.1,h3.2.1,by omega,by omega,by omega,by omega,fun _=>⟨List.eq_nil_of_length_eq_zero (by omega),g1.1,g1.2⟩,by omega,fun _ ρ=>by rw [h3.2.2.2 ρ,h2.2.2.2 ρ,g5 ρ,Int.neg_mul]; omega⟩
end
theorem Ly (x:GEx) (hx:FitEx x):PRet Tryz.prog 200 [.agg (exA x)] (fun r=>∃ (t:GTm) (b:Bool),r=.tup [.agg (tmA t),.v (.bool b)]/\FitTm t/\(b=true->Sg x t)):=by
 refine PRet.of_vc ao [] [] Tryz.func200 rfl Tryz.ntmps200 rfl (by kernel_rfl) ?_
 refine cB (fun hg8=>?_) (fun hg8=>?_)
 ·have hq8:¬ ((x.op_:Int)=(9:Int)):=by simpa using hg8
  refine cT (cT ?_)
  refine ⟨.inr rfl,_,ab Tryz.results200 (O3.cellN Tryz.f200 bh rfl rfl rfl rfl rfl ⟨_,dg (fp:=[])⟩) (O3.tmp ⟨[],FzP.pure rfl⟩),?_⟩
  exact ⟨⟨0,[]⟩,false,rfl,dc,fun h=>absurd h Bool.false_ne_true⟩
 have hq8:(x.op_:Int)=(9:Int):=by simpa using hg8
 refine LenG.of (cB (fun hg14=>?_) (fun hg14=>?_))
 ·have hq14:¬ (((x.args_.length:Nat):Int)=(1:Int)):=by simpa using hg14
  exact cT ⟨.inr rfl,_,ab Tryz.results200 (O3.cellN Tryz.f200 bh rfl rfl rfl rfl rfl ⟨_,dg (fp:=[])⟩) (O3.tmp ⟨[],FzP.pure rfl⟩),⟨⟨0,[]⟩,false,rfl,dc,fun h=>absurd h Bool.false_ne_true⟩⟩
 have hq14:((x.args_.length:Nat):Int)=(1:Int):=by simpa using hg14
 obtain ⟨a0,he_a0,ha0⟩:=n0 hx 0 (by omega)
 refine aw (j:=0) (by omega) he_a0 (LenG.of ?_)
 refine cB (fun hc22=>?_) (fun hc22=>?_)
 ·have hq22:¬ (((a0.args_.length:Nat):Int)=(0:Int)):=by simpa using hc22
  refine ⟨.inr rfl,_,ab Tryz.results200 (O3.cellN Tryz.f200 bh rfl rfl rfl rfl rfl ⟨_,dg (fp:=[])⟩) (O3.tmp ⟨[],FzP.pure rfl⟩),?_⟩
  exact ⟨⟨0,[]⟩,false,rfl,dc,fun h=>absurd h Bool.false_ne_true⟩
 have hq22:((a0.args_.length:Nat):Int)=(0:Int):=by simpa using hc22
 refine aw (j:=0) (by omega) he_a0 (cB (fun hg31=>?_) (fun hg31=>?_))
 ·have hq31:(a0.op_:Int)=(1:Int):=by simpa using hg31
  refine cB (fun hc36=>?_) (fun hc36=>?_)
  ·have hq36:(a0.value_.kind_:Int)=(2:Int):=by simpa using hc36
   refine ⟨.inr rfl,_,ab Tryz.results200 (O3.cellN Tryz.f200 bh rfl rfl rfl rfl rfl ⟨_,J8 (fp:=[]) _⟩) (O3.tmp ⟨[],FzP.pure rfl⟩),?_⟩
   exact ⟨⟨_,[]⟩,true,rfl,qt,fun _=>⟨by assumption,a0,di (by assumption) he_a0,by simpa using (by assumption:((a0.args_.length:Nat):Int)=0),.inl ⟨by assumption,by simp_all,rfl⟩⟩⟩
  have hq36:¬ ((a0.value_.kind_:Int)=(2:Int)):=by simpa using hc36
  refine cB (fun hg45=>?_) (fun hg45=>?_)
  ·have hq45:(a0.op_:Int)=(2:Int):=by simpa using hg45
   refine cB (fun hc49=>?_) (fun hc49=>?_)
   ·have hq49:(a0.index_:Int)≥(0:Int):=of_decide_eq_true hc49
    refine ⟨.inr rfl,_,ab Tryz.results200 (O3.cellN Tryz.f200 bh rfl rfl rfl rfl rfl ⟨_,FzP.col rfl⟩) (O3.tmp ⟨[],FzP.pure rfl⟩),?_⟩
    exact ⟨F9 1 _,true,rfl,Bv (by decide),fun _=>⟨by assumption,a0,di (by assumption) he_a0,by simpa using (by assumption:((a0.args_.length:Nat):Int)=0),.inr ⟨by assumption,by simp_all,rfl⟩⟩⟩
   have hq49:¬ ((a0.index_:Int)≥(0:Int)):=of_decide_eq_false hc49
   refine ⟨.inr rfl,_,ab Tryz.results200 (O3.cellN Tryz.f200 bh rfl rfl rfl rfl rfl ⟨_,dg (fp:=[])⟩) (O3.tmp ⟨[],FzP.pure rfl⟩),?_⟩
   exact ⟨⟨0,[]⟩,false,rfl,dc,fun h=>absurd h Bool.false_ne_true⟩
  have hq45:¬ ((a0.op_:Int)=(2:Int)):=by simpa using hg45
  exact cF ⟨.inr rfl,_,ab Tryz.results200 (O3.cellN Tryz.f200 bh rfl rfl rfl rfl rfl ⟨_,dg (fp:=[])⟩) (O3.tmp ⟨[],FzP.pure rfl⟩),⟨⟨0,[]⟩,false,rfl,dc,fun h=>absurd h Bool.false_ne_true⟩⟩
 have hq31:¬ ((a0.op_:Int)=(1:Int)):=by simpa using hg31
 refine cF (cB (fun hg45=>?_) (fun hg45=>?_))
 ·have hq45:(a0.op_:Int)=(2:Int):=by simpa using hg45
  refine cB (fun hc49=>?_) (fun hc49=>?_)
  ·have hq49:(a0.index_:Int)≥(0:Int):=of_decide_eq_true hc49
   refine ⟨.inr rfl,_,ab Tryz.results200 (O3.cellN Tryz.f200 bh rfl rfl rfl rfl rfl ⟨_,FzP.col rfl⟩) (O3.tmp ⟨[],FzP.pure rfl⟩),?_⟩
   exact ⟨F9 1 _,true,rfl,Bv (by decide),fun _=>⟨by assumption,a0,di (by assumption) he_a0,by simpa using (by assumption:((a0.args_.length:Nat):Int)=0),.inr ⟨by assumption,by simp_all,rfl⟩⟩⟩
  have hq49:¬ ((a0.index_:Int)≥(0:Int)):=of_decide_eq_false hc49
  refine ⟨.inr rfl,_,ab Tryz.results200 (O3.cellN Tryz.f200 bh rfl rfl rfl rfl rfl ⟨_,dg (fp:=[])⟩) (O3.tmp ⟨[],FzP.pure rfl⟩),?_⟩
  exact ⟨⟨0,[]⟩,false,rfl,dc,fun h=>absurd h Bool.false_ne_true⟩
 have hq45:¬ ((a0.op_:Int)=(2:Int)):=by simpa using hg45
 exact cF ⟨.inr rfl,_,ab Tryz.results200 (O3.cellN Tryz.f200 bh rfl rfl rfl rfl rfl ⟨_,dg (fp:=[])⟩) (O3.tmp ⟨[],FzP.pure rfl⟩),⟨⟨0,[]⟩,false,rfl,dc,fun h=>absurd h Bool.false_ne_true⟩⟩
theorem p7 (op:Int) (a:GTm) (ha:FitTm a) (b:GTm) (hb:FitTm b) (hop:4<=op/\op<=8) (h6a:B60 a) (hca:p5 a) (hcb:p5 b) (hla:a.parts_.length<=50000) (hlb:b.parts_.length<=50000):PRet Tryz.prog 203 [.v (.int .i64 op),.agg (tmA a),.agg (tmA b)] (fun r=>∃ (t:GTm) (e:Int),r=.tup [.agg (tmA t),.v (.int .i64 e)]/\FitTm t/\(e=0->BinOk op a b t)):=by
 have hka:=hca.1
 have hkb:=hcb.1
 refine PRet.of_vc ao [96] [] Tryz.func203 rfl Tryz.ntmps203 rfl (by kernel_rfl) (cE (fun hq14=>?_) (fun hq14=>?_))
 refine ArgG.mk (Sb a ha b hb hca hcb (by omega) (by omega)) rfl ?_
 rintro _ ⟨t0,e0,rfl,ht0,he0⟩
 exact ⟨.inr rfl,_,ab Tryz.results203 (O3.cellN Tryz.f203 bh rfl rfl rfl rfl rfl ⟨_,FzP.pure (fp:=[]) rfl⟩) (O3.tmp ⟨[],FzP.pure rfl⟩),⟨_,_,rfl,ht0,fun h=>bin4 (by omega) (he0 h)⟩⟩
 refine cE (fun hq21=>?_) (fun hq21=>?_)
 refine ArgG.mk (od b hb (-1) (by omega)) rfl ?_
 rintro _ ⟨t1,e1,rfl,ht1,he1⟩
 refine cB (fun hc29=>?_) (fun hc29=>?_)
 ·have hq29:¬ ((e1:Int)=(0:Int)):=by simpa using hc29
  exact ⟨.inr rfl,_,ab Tryz.results203 (O3.cellN Tryz.f203 bh rfl rfl rfl rfl rfl ⟨_,dg (fp:=[])⟩) (O3.tmp ⟨[],FzP.pure rfl⟩),⟨_,_,rfl,dc,fun h=>absurd h (by assumption)⟩⟩
 ·have hq29:(e1:Int)=(0:Int):=by simpa using hc29
  have hs1:=he1 (by simpa using hc29)
  refine ArgG.mk (Sb a ha t1 ht1 hca hs1.2.1 (by omega) (by have:=hs1.2.2.1; omega)) rfl ?_
  rintro _ ⟨t2,e2,rfl,ht2,he2⟩
  exact ⟨.inr rfl,_,ab Tryz.results203 (O3.cellN Tryz.f203 bh rfl rfl rfl rfl rfl ⟨_,FzP.pure (fp:=[]) rfl⟩) (O3.tmp ⟨[],FzP.pure rfl⟩),⟨_,_,rfl,ht2,fun h=>bin5 (by omega) hs1 (he2 h)⟩⟩
 refine cE (fun hq37=>?_) (fun hq37=>?_)
 ·refine LenG.of (cD (fun hq43=>?_) (fun hq43=>?_))
  ·refine LenG.of (cD (fun hq48=>?_) (fun hq48=>?_))
   ·exact ⟨.inr rfl,_,ab Tryz.results203 (O3.cellN Tryz.f203 bh rfl rfl rfl rfl rfl ⟨_,dg (fp:=[])⟩) (O3.tmp ⟨[],FzP.pure rfl⟩),⟨_,_,rfl,dc,fun h=>absurd h (by decide)⟩⟩
   refine LenG.of (cD (fun hq53=>?_) (fun hq53=>?_))
   ·refine ArgG.mk (od b hb a.const_ (by omega)) rfl ?_
    rintro _ ⟨t3,e3,rfl,ht3,he3⟩
    exact ⟨.inr rfl,_,ab Tryz.results203 (O3.cellN Tryz.f203 bh rfl rfl rfl rfl rfl ⟨_,FzP.pure (fp:=[]) rfl⟩) (O3.tmp ⟨[],FzP.pure rfl⟩),⟨_,_,rfl,ht3,fun h=>Vt (by omega) (by omega) (he3 h)⟩⟩
   refine ArgG.mk (od a ha b.const_ (by omega)) rfl ?_
   rintro _ ⟨t4,e4,rfl,ht4,he4⟩
   exact ⟨.inr rfl,_,ab Tryz.results203 (O3.cellN Tryz.f203 bh rfl rfl rfl rfl rfl ⟨_,FzP.pure (fp:=[]) rfl⟩) (O3.tmp ⟨[],FzP.pure rfl⟩),⟨_,_,rfl,ht4,fun h=>Vs (by omega) (by omega) (he4 h)⟩⟩
  refine cF (LenG.of ?_)
  refine cD (fun hq53=>?_) (fun hq53=>?_)
  ·refine ArgG.mk (od b hb a.const_ (by omega)) rfl ?_
   rintro _ ⟨t5,e5,rfl,ht5,he5⟩
   exact ⟨.inr rfl,_,ab Tryz.results203 (O3.cellN Tryz.f203 bh rfl rfl rfl rfl rfl ⟨_,FzP.pure (fp:=[]) rfl⟩) (O3.tmp ⟨[],FzP.pure rfl⟩),⟨_,_,rfl,ht5,fun h=>Vt (by omega) (by omega) (he5 h)⟩⟩
  refine ArgG.mk (od a ha b.const_ (by omega)) rfl ?_
  rintro _ ⟨t6,e6,rfl,ht6,he6⟩
  exact ⟨.inr rfl,_,ab Tryz.results203 (O3.cellN Tryz.f203 bh rfl rfl rfl rfl rfl ⟨_,FzP.pure (fp:=[]) rfl⟩) (O3.tmp ⟨[],FzP.pure rfl⟩),⟨_,_,rfl,ht6,fun h=>Vs (by omega) (by omega) (he6 h)⟩⟩
 refine LenG.of (cD (fun hq70=>?_) (fun hq70=>?_))
 ·exact cT ⟨.inr rfl,_,ab Tryz.results203 (O3.cellN Tryz.f203 bh rfl rfl rfl rfl rfl ⟨_,dg (fp:=[])⟩) (O3.tmp ⟨[],FzP.pure rfl⟩),⟨_,_,rfl,dc,fun h=>absurd h (by decide)⟩⟩
 refine ArgG.mk (i7 b.const_ 1 1000) rfl ?_
 rintro _ ⟨b7,rfl,hb7⟩
 refine cB (fun hc75=>?_) (fun hc75=>?_)
 ·exact ⟨.inr rfl,_,ab Tryz.results203 (O3.cellN Tryz.f203 bh rfl rfl rfl rfl rfl ⟨_,dg (fp:=[])⟩) (O3.tmp ⟨[],FzP.pure rfl⟩),⟨_,_,rfl,dc,fun h=>absurd h (by decide)⟩⟩
 refine ArgG.mk (Yl a ha b.const_ h6a hca) rfl ?_
 rintro _ ⟨t8,e8,rfl,ht8,he8⟩
 refine cB (fun hg86=>?_) (fun hg86=>?_)
 ·have hq86:¬ ((e8:Int)=(0:Int)):=by simpa using hg86
  exact cT ⟨.inr rfl,_,ab Tryz.results203 (O3.cellN Tryz.f203 bh rfl rfl rfl rfl rfl ⟨_,FzP.pure (fp:=[]) rfl⟩) (O3.tmp ⟨[],FzP.pure rfl⟩),⟨_,_,rfl,ht8,fun h=>absurd h (by assumption)⟩⟩
 have hq86:(e8:Int)=(0:Int):=by simpa using hg86
 have hd:=he8 (by simpa using hg86)
 refine cE (fun hq89=>?_) (fun hq89=>?_)
 ·exact ⟨.inr rfl,_,ab Tryz.results203 (O3.cellN Tryz.f203 bh rfl rfl rfl rfl rfl ⟨_,FzP.pure (fp:=[]) rfl⟩) (O3.tmp ⟨[],FzP.pure rfl⟩),⟨_,_,rfl,ht8,fun h=>bin7 (by omega) (by omega) (he8 h)⟩⟩
 refine OpG.lk (sv rfl (by omega) (by omega)) (ArgG.mk (od t8 ht8 (-b.const_) (by have:=hd.2.2.2.1; omega)) rfl ?_)
 rintro _ ⟨t9,e9,rfl,ht9,he9⟩
 refine cB (fun hc101=>?_) (fun hc101=>?_)
 ·have hq101:¬ ((e9:Int)=(0:Int)):=by simpa using hc101
  exact ⟨.inr rfl,_,ab Tryz.results203 (O3.cellN Tryz.f203 bh rfl rfl rfl rfl rfl ⟨_,dg (fp:=[])⟩) (O3.tmp ⟨[],FzP.pure rfl⟩),⟨_,_,rfl,dc,fun h=>absurd h (by assumption)⟩⟩
 have hq101:(e9:Int)=(0:Int):=by simpa using hc101
 have hs7:=he9 (by simpa using hc101)
 refine ArgG.mk (Sb a ha t9 ht9 hca hs7.2.1 (by omega) (by have:=hs7.2.2.1; have:=hd.2.2.2.1; omega)) rfl ?_
 rintro _ ⟨t10,e10,rfl,ht10,he10⟩
 exact ⟨.inr rfl,_,ab Tryz.results203 (O3.cellN Tryz.f203 bh rfl rfl rfl rfl rfl ⟨_,FzP.pure (fp:=[]) rfl⟩) (O3.tmp ⟨[],FzP.pure rfl⟩),⟨_,_,rfl,ht10,fun h=>bin8 (by omega) (by omega) hd hs7 (he10 h)⟩⟩
theorem xc:RowF tmA 2:=⟨fun _=>rfl,fun _=>rfl,fun _ _=>rfl,fun _ _=>rfl,fun _ _=>rfl,fun _=>rfl⟩
/-- What the term of an expression is. -/
inductive OfR:List AV->GTm->Prop
 | len (x:GEx) (t:GTm) (h:Sg x t) (h6:B60 t):OfR (exA x) t
 | lit (x:GEx) (h:x.op_=1) (ha:x.args_=[]) (hk:x.value_.kind_=1) (h6:B60 ⟨x.value_.int_,[]⟩):OfR (exA x) ⟨x.value_.int_,[]⟩
 | col (x:GEx) (h:x.op_=2) (ha:x.args_=[]) (hi:0<=x.index_) (h6:B60 (F9 0 x.index_)):OfR (exA x) (F9 0 x.index_)
 | neg (x:GEx) (r:List AV) (s t:GTm) (h:x.op_=3) (ha:x.args_=[r]) (hr:OfR r s) (ht:∀ ρ,tvL ρ (tmA t)=-1 * tvL ρ (tmA s)) (h6:B60 t):OfR (exA x) t
 | bin (x:GEx) (r q:List AV) (a b t:GTm) (h:4<=x.op_/\x.op_<=8) (ha:x.args_=[r,q]) (hr:OfR r a) (hq:OfR q b) (ht:BinOk x.op_ a b t):OfR (exA x) t
theorem OfR.b6 {r:List AV} {t:GTm} (h:OfR r t):B60 t:=by
 cases h with
 | len x t h h6=>exact h6
 | lit x h ha hk h6=>exact h6
 | col x h ha hi h6=>exact h6
 | neg x r s t h ha hr ht h6=>exact h6
 | bin x r q a b t h ha hr hq ht=>exact ht.b6
/-- .. and that it is small; d: how deep the expression is nested. -/
def OfP (d:Nat) (r:List AV) (t:GTm):Prop:=OfR r t/\B60 t/\p5 t/\t.parts_.length+1<=2 ^ (d+1)
theorem Xi {d:Nat} (h:d<=12):2 ^ (d+1)<=8192:=Nat.pow_le_pow_right (by decide) (by omega:d+1<=13)
theorem Cl {d:Nat}:2<=2 ^ (d+1):=by
 have:=Nat.pow_le_pow_right (by decide:0 < 2) (by omega:1<=d+1)
 simpa using this
theorem Qd {P:List AV->GTm->Prop} {L:List GTm} {rs:List (List AV)} {t:GTm} {n:Nat} (h:∀ j (hl:j < L.length) (h2:j < rs.length),P rs[j] L[j]) (hL:L.length=n) (hn:n < rs.length) (ht:P rs[n] t):∀ j (hl:j < (L++[t]).length) (h2:j < rs.length),P rs[j] (L++[t])[j]:=by
 intro j hl h2
 by_cases e:j < L.length
 ·rw [List.getElem_append_left e]; exact h j e h2
 have e2:j=n:=by simp at hl; omega
 subst e2
 rw [List.getElem_append_right (by omega)]
 simpa [hL] using ht
section
variable {x:GEx} {d:Nat} {t s:GTm} {k:Nat} {L:List GTm}
theorem Xq (h:Sg x s) (h1:t=s/\B60 s/\p5 s):OfP (d+1) (exA x) t:=by
 obtain ⟨rfl,h2,h3⟩:=h1
 refine ⟨.len x t h h2,h2,h3,?_⟩
 obtain ⟨_,a,_,_,⟨_,_,e⟩ | ⟨_,_,e⟩⟩:=h
 ·rw [e]; exact Nat.le_trans (by show 0+1<=2; decide) (Cl (d:=d+1))
 rw [e]; exact Cl (d:=d+1)
theorem Xp (h:x.op_=1) (hL:L.length=k) (hge:¬ k < x.args_.length) (hz:((L.length:Nat):Int)=0) (hle:k<=x.args_.length) (hk:x.value_.kind_=1) (h1:t=⟨x.value_.int_,[]⟩/\B60 ⟨x.value_.int_,[]⟩/\p5 ⟨x.value_.int_,[]⟩):OfP (d+1) (exA x) t:=by
 obtain ⟨rfl,h2,h3⟩:=h1
 exact ⟨.lit x h (List.eq_nil_of_length_eq_zero (by omega)) hk h2,h2,h3,Nat.le_trans (by show 0+1<=2; decide) (Cl (d:=d+1))⟩
theorem Xr (h:x.op_=2) (hL:L.length=k) (hge:¬ k < x.args_.length) (hz:((L.length:Nat):Int)=0) (hi:¬ x.index_ < 0):OfP (d+1) (exA x) (F9 0 x.index_):=by
 have h6:B60 (F9 0 x.index_):=fun ρ hρ=>by
  have:=(hρ x.index_).1 0
  rw [iz]
  simp [F9,fo,vn,qs]
  omega
 exact ⟨.col x h (List.eq_nil_of_length_eq_zero (by omega)) (by omega) h6,h6,⟨⟨by show -1099511627776<=(0:Int); decide,by show (0:Int)<=_; decide⟩,fun p hp=>by rw [Zj.1 hp]; exact ⟨by show -1048576<=(1:Int); decide,by show (1:Int)<=_; decide⟩⟩,Cl (d:=d+1)⟩
theorem Xo (h:x.op_=3) (hL:L.length=k) (hge:¬ k < x.args_.length) (hle:k<=x.args_.length) (hz:((L.length:Nat):Int)=1) (hi:∀ j (hl:j < L.length) (h2:j < x.args_.length),OfP d x.args_[j] L[j]) (h1:B60 t/\p5 t/\t.parts_.length<=(L[0]'(by omega)).parts_.length/\∀ ρ,tvL ρ (tmA t)=-1 * tvL ρ (tmA (L[0]'(by omega)))):OfP (d+1) (exA x) t:=by
 have h0:=hi 0 (by omega) (by omega)
 have hp:2 ^ (d+1)<=2 ^ (d+1+1):=Nat.pow_le_pow_right (by decide) (by omega)
 exact ⟨.neg x _ _ t h (di (by omega) rfl) h0.1 h1.2.2.2 h1.1,h1.1,h1.2.1,by have:=h0.2.2.2; have:=h1.2.2.1; omega⟩
theorem Ck {α:Type} {l:List α} (h:l.length=2):l=[l[0]'(by omega),l[1]'(by omega)]:=by
 match l,h with
 | [a,b],_=>rfl
theorem Ho (h:4<=x.op_/\x.op_<=8) (hL:L.length=k) (hge:¬ k < x.args_.length) (hle:k<=x.args_.length) (hz:((L.length:Nat):Int)=2) (hi:∀ j (hl:j < L.length) (h2:j < x.args_.length),OfP d x.args_[j] L[j]) (h1:BinOk x.op_ (L[0]'(by omega)) (L[1]'(by omega)) t):OfP (d+1) (exA x) t:=by
 have h0:=hi 0 (by omega) (by omega)
 have h2:=hi 1 (by omega) (by omega)
 have hp:2 ^ (d+1+1)=2 * 2 ^ (d+1):=by rw [Nat.pow_succ]; omega
 exact ⟨.bin x _ _ _ _ t h (Ck (by omega)) h0.1 h2.1 h1,h1.b6,h1.cf,by have:=h0.2.2.2; have:=h2.2.2.2; have:=h1.len; omega⟩
end
theorem uf {d:Nat} {x:GEx} (h:IsSh d (exA x)):∃ d',d=d'+1/\x.args_.length<=2/\∀ r∈x.args_,IsSh d' r:=by
 generalize e:exA x=r at h
 cases h with
 | mk y h1 h2=>rw [bj e]; exact ⟨_,rfl,h1,h2⟩
theorem Yy:(Tryz.prog.info? 132).map (·.bytes)=some 32:=by kernel_rfl
theorem W5:aa Tryz.prog 132=some 2:=by kernel_rfl
theorem Wp:ax Tryz.prog 132=some (.agg #[.int .i64 0,.slice none 0 0]):=by kernel_rfl
theorem of_w (x:GEx) (hx:FitEx x) (d:Nat) (hd:d<=11) (hsh:x.args_.length<=2) (ih:∀ r∈x.args_,PRet Tryz.prog 166 [.agg (rwA r)] (fun q=>∃ (t:GTm) (e:Int),q=.tup [.agg (tmA t),.v (.int .i64 e)]/\FitTm t/\(e=0->OfP d r t))):PRet Tryz.prog 166 [.agg (exA x)] (fun q=>∃ (t:GTm) (e:Int),q=.tup [.agg (tmA t),.v (.int .i64 e)]/\FitTm t/\(e=0->OfP (d+1) (exA x) t)):=by
 have hpw:=Xi (d:=d) (by omega)
 refine PRet.of_vc ao [32,62] [12] Tryz.func166 rfl Tryz.ntmps166 rfl (by kernel_rfl) ?_
 refine ArgG.mk (Ly x hx) rfl ?_
 rintro _ ⟨t0,b0,rfl,ht0,he0⟩
 refine cB (fun hc15=>?_) (fun hc15=>?_)
 ·refine ArgG.mk (mj t0 ht0) rfl ?_
  rintro _ ⟨t1,e1,rfl,ht1,he1⟩
  refine ⟨.inr rfl,_,ab Tryz.results166 (O3.cellN Tryz.f166 bh rfl rfl rfl rfl rfl ⟨_,FzP.pure (fp:=[]) rfl⟩) (O3.tmp ⟨[],FzP.pure rfl⟩),?_⟩
  exact ⟨_,_,rfl,ht1,fun h=>Xq (he0 (by assumption)) (he1 h)⟩
 refine LpG.via (fun _ h=>bq 6 2 rfl 4 rfl h) ?_
 refine LpG.on (fun k0:KL GTm=>(⟨fL [(1,.ptr 0 0 0),(2,.ptr 1 0 0),(6,.sl 3 k0.L.length 0 k0.L.length),(7,.v (.int .i64 ((k0.k:Nat):Int)))],bl [(0,⟨0,exA x,0,false⟩),(1,⟨0,[.v (.int .i64 0),.v (.slice none 0 0)],0,false⟩),(3,⟨k0.L.length,rF tmA k0.L,2,Nat.beq k0.L.length 0⟩)],4⟩:St)) (fun k0=>(x.args_.length - k0.k)) (fun k0=>(k0.k<=x.args_.length/\k0.L.length=k0.k/\(∀ x∈k0.L,FitTm x)/\(∀ j (hl:j < k0.L.length) (h2:j < x.args_.length),OfP d x.args_[j] k0.L[j]))) (⟨0,[]⟩:KL GTm) (cO (.cons rfl rfl (.cons rfl rfl (.cons (by rfl) rfl (.cons rfl rfl .nil)))) (.cons rfl rfl rfl (.cons rfl rfl rfl (.cons (by rfl) rfl (ag xc _ _) .nil)))) ⟨Nat.zero_le _,rfl,by simp,by simp⟩ ?_
 rintro k0 hinv
 have hgr_k0:x.args_.length<=140737488355328:=hx.args_.1
 obtain ⟨hle_k0,hL_k0,hf_k0,hi_k0⟩:=hinv
 refine LenG.of (cB (fun hc24=>?_) (fun hc24=>?_))
 ·have hlt24:k0.k < x.args_.length:=Int.ofNat_lt.1 (of_decide_eq_true hc24)
  refine IdxG.of (by assumption) (OpG.lk (aq d8 rfl (cj (hx.args_.2 _ (Ze _)))) ?_)
  refine ArgG.mk (ih x.args_[k0.k] (Ze _)) (show ay [.agg (rwA x.args_[k0.k])]=true by simp [ay,AV.pureB,cm (hx.args_.2 _ (Ze _))]) ?_
  rintro _ ⟨t2,e2,rfl,ht2,he2⟩
  refine cB (fun hc37=>?_) (fun hc37=>?_)
  ·have hq37:¬ ((e2:Int)=(0:Int)):=by simpa using hc37
   refine ⟨.inr rfl,_,ab Tryz.results166 (O3.cellN Tryz.f166 bh rfl rfl rfl rfl rfl ⟨_,dg (fp:=[])⟩) (O3.tmp ⟨[],FzP.pure rfl⟩),?_⟩
   exact ⟨_,_,rfl,dc,fun h=>absurd h (by assumption)⟩
  have hq37:(e2:Int)=(0:Int):=by simpa using hc37
  refine OpG.mk _ _ _ 6 (aj xc (a:=t2) Tryz.underlying175 W5 Wp Yy rfl rfl rfl (az rfl rfl rfl rfl) rfl (by omega) (by omega) (by unfold TV; omega)) rfl rfl ?_
  refine ⟨by omega,?_⟩
  refine ⟨(⟨k0.k+1,k0.L++[t2]⟩:KL GTm),(by show x.args_.length - (k0.k+1) < x.args_.length - k0.k; omega),(cO (.cons rfl rfl (.cons rfl rfl (.cons (by (rw [Zi]; rfl)) rfl (.cons rfl rfl .nil)))) (.cons rfl rfl rfl (.cons rfl rfl rfl (.cons (by (rw [Zi]; rfl)) rfl (ag xc _ _) .nil)))),?_⟩
  refine ⟨by show k0.k+1<=_; omega,by show (_++[_]).length=k0.k+1; rw [Zi,hL_k0]; rfl,fun y_ hy_=>(Zk.1 hy_).elim (hf_k0 y_) (fun hy_=>by rw [Zj.1 hy_]; exact ht2),?_⟩
  exact Qd hi_k0 hL_k0 hlt24 (he2 (by simpa using hc37))
 have hge24:¬ k0.k < x.args_.length:=fun h=>of_decide_eq_false hc24 (Int.ofNat_lt.2 h)
 refine RegG.via (fun _ h=>fg [3] 6 (.tree 2 (k0.L.map tmA)) (FzP.rows xc (Zj.2 rfl) rfl) rfl h) ?_
 refine cr ?_
 refine cB (fun hc46=>?_) (fun hc46=>?_)
 ·have hq46:(x.op_:Int)=(1:Int):=by simpa using hc46
  refine LenG.of (cB (fun hg51=>?_) (fun hg51=>?_))
  ·have hq51:¬ (((k0.L.length:Nat):Int)=(0:Int)):=by simpa using hg51
   exact cT ⟨.inr rfl,_,ab Tryz.results166 (O3.cellN Tryz.f166 bh rfl rfl rfl rfl rfl ⟨_,dg (fp:=[])⟩) (O3.tmp ⟨[],FzP.pure rfl⟩),⟨_,_,rfl,dc,fun h=>absurd h (by decide)⟩⟩
  have hq51:((k0.L.length:Nat):Int)=(0:Int):=by simpa using hg51
  refine cB (fun hc56=>?_) (fun hc56=>?_)
  ·have hq56:¬ ((x.value_.kind_:Int)=(1:Int)):=by simpa using hc56
   refine ⟨.inr rfl,_,ab Tryz.results166 (O3.cellN Tryz.f166 bh rfl rfl rfl rfl rfl ⟨_,dg (fp:=[])⟩) (O3.tmp ⟨[],FzP.pure rfl⟩),?_⟩
   exact ⟨_,_,rfl,dc,fun h=>absurd h (by decide)⟩
  have hq56:(x.value_.kind_:Int)=(1:Int):=by simpa using hc56
  obtain ⟨_,⟨t3,e3,rfl,ht3,he3⟩,hcl3⟩:=mj ⟨x.value_.int_,[]⟩ qt
  refine OpG.lk (qd [] Oq rfl (fun i h h'=>match i,h with | 0,_=>J8 _) (fun id hid=>absurd hid (by simp)) hcl3) ?_
  refine ⟨.inr rfl,_,ab Tryz.results166 (O3.cellN Tryz.f166 bh rfl rfl rfl rfl rfl ⟨_,FzP.pure (fp:=[]) rfl⟩) (O3.tmp ⟨[],FzP.pure rfl⟩),?_⟩
  exact ⟨_,_,rfl,ht3,fun h=>Xp (by assumption) hL_k0 hge24 (by assumption) hle_k0 (by assumption) (he3 h)⟩
 have hq46:¬ ((x.op_:Int)=(1:Int)):=by simpa using hc46
 refine cB (fun hc65=>?_) (fun hc65=>?_)
 ·have hq65:(x.op_:Int)=(2:Int):=by simpa using hc65
  refine LenG.of (cB (fun hg70=>?_) (fun hg70=>?_))
  ·have hq70:¬ (((k0.L.length:Nat):Int)=(0:Int)):=by simpa using hg70
   exact cT ⟨.inr rfl,_,ab Tryz.results166 (O3.cellN Tryz.f166 bh rfl rfl rfl rfl rfl ⟨_,dg (fp:=[])⟩) (O3.tmp ⟨[],FzP.pure rfl⟩),⟨_,_,rfl,dc,fun h=>absurd h (by decide)⟩⟩
  have hq70:((k0.L.length:Nat):Int)=(0:Int):=by simpa using hg70
  refine cB (fun hc74=>?_) (fun hc74=>?_)
  ·have hq74:(x.index_:Int) < (0:Int):=of_decide_eq_true hc74
   refine ⟨.inr rfl,_,ab Tryz.results166 (O3.cellN Tryz.f166 bh rfl rfl rfl rfl rfl ⟨_,dg (fp:=[])⟩) (O3.tmp ⟨[],FzP.pure rfl⟩),?_⟩
   exact ⟨_,_,rfl,dc,fun h=>absurd h (by decide)⟩
  have hq74:¬ ((x.index_:Int) < (0:Int)):=of_decide_eq_false hc74
  refine ⟨.inr rfl,_,ab Tryz.results166 (O3.cellN Tryz.f166 bh rfl rfl rfl rfl rfl ⟨_,FzP.col rfl⟩) (O3.tmp ⟨[],FzP.pure rfl⟩),?_⟩
  exact ⟨_,_,rfl,Bv (by decide),fun h=>Xr (by assumption) hL_k0 hge24 (by assumption) (by assumption)⟩
 have hq65:¬ ((x.op_:Int)=(2:Int)):=by simpa using hc65
 refine cB (fun hc81=>?_) (fun hc81=>?_)
 ·have hq81:(x.op_:Int)=(3:Int):=by simpa using hc81
  refine LenG.of (cB (fun hc85=>?_) (fun hc85=>?_))
  ·have hq85:((k0.L.length:Nat):Int)=(1:Int):=by simpa using hc85
   have g0:=hi_k0 0 (by omega) (by omega)
   refine IdxG.of (j:=0) (by omega) (ArgG.mk (od k0.L[0] (hf_k0 _ (Ze _)) (-1) (by have:=g0.2.2.2; omega)) rfl ?_)
   rintro _ ⟨t4,e4,rfl,ht4,he4⟩
   refine ⟨.inr rfl,_,ab Tryz.results166 (O3.cellN Tryz.f166 bh rfl rfl rfl rfl rfl ⟨_,FzP.pure (fp:=[]) rfl⟩) (O3.tmp ⟨[],FzP.pure rfl⟩),?_⟩
   exact ⟨_,_,rfl,ht4,fun h=>Xo (by assumption) hL_k0 hge24 hle_k0 (by assumption) hi_k0 (he4 h)⟩
  have hq85:¬ (((k0.L.length:Nat):Int)=(1:Int)):=by simpa using hc85
  refine ⟨.inr rfl,_,ab Tryz.results166 (O3.cellN Tryz.f166 bh rfl rfl rfl rfl rfl ⟨_,dg (fp:=[])⟩) (O3.tmp ⟨[],FzP.pure rfl⟩),?_⟩
  exact ⟨_,_,rfl,dc,fun h=>absurd h (by decide)⟩
 have hq81:¬ ((x.op_:Int)=(3:Int)):=by simpa using hc81
 refine cB (fun hc92=>?_) (fun hc92=>?_)
 ·have hq92:(x.op_:Int)=(4:Int):=by simpa using hc92
  refine cB (fun hc92=>?_) (fun hc92=>?_)
  ·have hq92:(x.op_:Int)=(4:Int):=by simpa using hc92
   refine LenG.of (cB (fun hc100=>?_) (fun hc100=>?_))
   ·have hq100:((k0.L.length:Nat):Int)=(2:Int):=by simpa using hc100
    have g0:=hi_k0 0 (by omega) (by omega)
    have g1:=hi_k0 1 (by omega) (by omega)
    refine IdxG.of (j:=0) (by omega) (IdxG.of (j:=1) (by omega) ?_)
    refine ArgG.mk (p7 x.op_ k0.L[0] (hf_k0 _ (Ze _)) k0.L[1] (hf_k0 _ (Ze _)) (by omega) g0.2.1 g0.2.2.1 g1.2.2.1 (by have:=g0.2.2.2; omega) (by have:=g1.2.2.2; omega)) rfl ?_
    rintro _ ⟨t5,e5,rfl,ht5,he5⟩
    refine ⟨by kernel_rfl,?_⟩
    refine ⟨.inr rfl,_,ab Tryz.results166 (O3.cellN Tryz.f166 bh rfl rfl rfl rfl rfl ⟨_,FzP.pure (fp:=[]) rfl⟩) (O3.tmp ⟨[],FzP.pure rfl⟩),?_⟩
    exact ⟨_,_,rfl,ht5,fun h=>Ho (by omega) hL_k0 hge24 hle_k0 (by assumption) hi_k0 (he5 h)⟩
   have hq100:¬ (((k0.L.length:Nat):Int)=(2:Int)):=by simpa using hc100
   refine ⟨.inr rfl,_,ab Tryz.results166 (O3.cellN Tryz.f166 bh rfl rfl rfl rfl rfl ⟨_,dg (fp:=[])⟩) (O3.tmp ⟨[],FzP.pure rfl⟩),?_⟩
   exact ⟨_,_,rfl,dc,fun h=>absurd h (by decide)⟩
  have hq92:¬ ((x.op_:Int)=(4:Int)):=by simpa using hc92
  refine ⟨.inr rfl,_,ab Tryz.results166 (O3.cellN Tryz.f166 bh rfl rfl rfl rfl rfl ⟨_,dg (fp:=[])⟩) (O3.tmp ⟨[],FzP.pure rfl⟩),?_⟩
  exact ⟨_,_,rfl,dc,fun h=>absurd h (by decide)⟩
 have hq92:¬ ((x.op_:Int)=(4:Int)):=by simpa using hc92
 refine cB (fun hc92=>?_) (fun hc92=>?_)
 ·have hq92:(x.op_:Int)=(5:Int):=by simpa using hc92
  refine cB (fun hc92=>?_) (fun hc92=>?_)
  ·have hq92:(x.op_:Int)=(5:Int):=by simpa using hc92
   refine LenG.of (cB (fun hc100=>?_) (fun hc100=>?_))
   ·have hq100:((k0.L.length:Nat):Int)=(2:Int):=by simpa using hc100
    have g0:=hi_k0 0 (by omega) (by omega)
    have g1:=hi_k0 1 (by omega) (by omega)
    refine IdxG.of (j:=0) (by omega) (IdxG.of (j:=1) (by omega) ?_)
    refine ArgG.mk (p7 x.op_ k0.L[0] (hf_k0 _ (Ze _)) k0.L[1] (hf_k0 _ (Ze _)) (by omega) g0.2.1 g0.2.2.1 g1.2.2.1 (by have:=g0.2.2.2; omega) (by have:=g1.2.2.2; omega)) rfl ?_
    rintro _ ⟨t6,e6,rfl,ht6,he6⟩
    refine ⟨by kernel_rfl,?_⟩
    refine ⟨.inr rfl,_,ab Tryz.results166 (O3.cellN Tryz.f166 bh rfl rfl rfl rfl rfl ⟨_,FzP.pure (fp:=[]) rfl⟩) (O3.tmp ⟨[],FzP.pure rfl⟩),?_⟩
    exact ⟨_,_,rfl,ht6,fun h=>Ho (by omega) hL_k0 hge24 hle_k0 (by assumption) hi_k0 (he6 h)⟩
   have hq100:¬ (((k0.L.length:Nat):Int)=(2:Int)):=by simpa using hc100
   refine ⟨.inr rfl,_,ab Tryz.results166 (O3.cellN Tryz.f166 bh rfl rfl rfl rfl rfl ⟨_,dg (fp:=[])⟩) (O3.tmp ⟨[],FzP.pure rfl⟩),?_⟩
   exact ⟨_,_,rfl,dc,fun h=>absurd h (by decide)⟩
  have hq92:¬ ((x.op_:Int)=(5:Int)):=by simpa using hc92
  refine ⟨.inr rfl,_,ab Tryz.results166 (O3.cellN Tryz.f166 bh rfl rfl rfl rfl rfl ⟨_,dg (fp:=[])⟩) (O3.tmp ⟨[],FzP.pure rfl⟩),?_⟩
  exact ⟨_,_,rfl,dc,fun h=>absurd h (by decide)⟩
 have hq92:¬ ((x.op_:Int)=(5:Int)):=by simpa using hc92
 refine cB (fun hc92=>?_) (fun hc92=>?_)
 ·have hq92:(x.op_:Int)=(6:Int):=by simpa using hc92
  refine cB (fun hc92=>?_) (fun hc92=>?_)
  ·have hq92:(x.op_:Int)=(6:Int):=by simpa using hc92
   refine LenG.of (cB (fun hc100=>?_) (fun hc100=>?_))
   ·have hq100:((k0.L.length:Nat):Int)=(2:Int):=by simpa using hc100
    have g0:=hi_k0 0 (by omega) (by omega)
    have g1:=hi_k0 1 (by omega) (by omega)
    refine IdxG.of (j:=0) (by omega) (IdxG.of (j:=1) (by omega) ?_)
    refine ArgG.mk (p7 x.op_ k0.L[0] (hf_k0 _ (Ze _)) k0.L[1] (hf_k0 _ (Ze _)) (by omega) g0.2.1 g0.2.2.1 g1.2.2.1 (by have:=g0.2.2.2; omega) (by have:=g1.2.2.2; omega)) rfl ?_
    rintro _ ⟨t7,e7,rfl,ht7,he7⟩
    refine ⟨by kernel_rfl,?_⟩
    refine ⟨.inr rfl,_,ab Tryz.results166 (O3.cellN Tryz.f166 bh rfl rfl rfl rfl rfl ⟨_,FzP.pure (fp:=[]) rfl⟩) (O3.tmp ⟨[],FzP.pure rfl⟩),?_⟩
    exact ⟨_,_,rfl,ht7,fun h=>Ho (by omega) hL_k0 hge24 hle_k0 (by assumption) hi_k0 (he7 h)⟩
   have hq100:¬ (((k0.L.length:Nat):Int)=(2:Int)):=by simpa using hc100
   refine ⟨.inr rfl,_,ab Tryz.results166 (O3.cellN Tryz.f166 bh rfl rfl rfl rfl rfl ⟨_,dg (fp:=[])⟩) (O3.tmp ⟨[],FzP.pure rfl⟩),?_⟩
   exact ⟨_,_,rfl,dc,fun h=>absurd h (by decide)⟩
  have hq92:¬ ((x.op_:Int)=(6:Int)):=by simpa using hc92
  refine ⟨.inr rfl,_,ab Tryz.results166 (O3.cellN Tryz.f166 bh rfl rfl rfl rfl rfl ⟨_,dg (fp:=[])⟩) (O3.tmp ⟨[],FzP.pure rfl⟩),?_⟩
  exact ⟨_,_,rfl,dc,fun h=>absurd h (by decide)⟩
 have hq92:¬ ((x.op_:Int)=(6:Int)):=by simpa using hc92
 refine cB (fun hc92=>?_) (fun hc92=>?_)
 ·have hq92:(x.op_:Int)=(7:Int):=by simpa using hc92
  refine cB (fun hc92=>?_) (fun hc92=>?_)
  ·have hq92:(x.op_:Int)=(7:Int):=by simpa using hc92
   refine LenG.of (cB (fun hc100=>?_) (fun hc100=>?_))
   ·have hq100:((k0.L.length:Nat):Int)=(2:Int):=by simpa using hc100
    have g0:=hi_k0 0 (by omega) (by omega)
    have g1:=hi_k0 1 (by omega) (by omega)
    refine IdxG.of (j:=0) (by omega) (IdxG.of (j:=1) (by omega) ?_)
    refine ArgG.mk (p7 x.op_ k0.L[0] (hf_k0 _ (Ze _)) k0.L[1] (hf_k0 _ (Ze _)) (by omega) g0.2.1 g0.2.2.1 g1.2.2.1 (by have:=g0.2.2.2; omega) (by have:=g1.2.2.2; omega)) rfl ?_
    rintro _ ⟨t8,e8,rfl,ht8,he8⟩
    refine ⟨by kernel_rfl,?_⟩
    refine ⟨.inr rfl,_,ab Tryz.results166 (O3.cellN Tryz.f166 bh rfl rfl rfl rfl rfl ⟨_,FzP.pure (fp:=[]) rfl⟩) (O3.tmp ⟨[],FzP.pure rfl⟩),?_⟩
    exact ⟨_,_,rfl,ht8,fun h=>Ho (by omega) hL_k0 hge24 hle_k0 (by assumption) hi_k0 (he8 h)⟩
   have hq100:¬ (((k0.L.length:Nat):Int)=(2:Int)):=by simpa using hc100
   refine ⟨.inr rfl,_,ab Tryz.results166 (O3.cellN Tryz.f166 bh rfl rfl rfl rfl rfl ⟨_,dg (fp:=[])⟩) (O3.tmp ⟨[],FzP.pure rfl⟩),?_⟩
   exact ⟨_,_,rfl,dc,fun h=>absurd h (by decide)⟩
  have hq92:¬ ((x.op_:Int)=(7:Int)):=by simpa using hc92
  refine ⟨.inr rfl,_,ab Tryz.results166 (O3.cellN Tryz.f166 bh rfl rfl rfl rfl rfl ⟨_,dg (fp:=[])⟩) (O3.tmp ⟨[],FzP.pure rfl⟩),?_⟩
  exact ⟨_,_,rfl,dc,fun h=>absurd h (by decide)⟩
 have hq92:¬ ((x.op_:Int)=(7:Int)):=by simpa using hc92
 refine cB (fun hc92=>?_) (fun hc92=>?_)
 ·have hq92:(x.op_:Int)=(8:Int):=by simpa using hc92
  refine LenG.of (cB (fun hc100=>?_) (fun hc100=>?_))
  ·have hq100:((k0.L.length:Nat):Int)=(2:Int):=by simpa using hc100
   have g0:=hi_k0 0 (by omega) (by omega)
   have g1:=hi_k0 1 (by omega) (by omega)
   refine IdxG.of (j:=0) (by omega) (IdxG.of (j:=1) (by omega) ?_)
   refine ArgG.mk (p7 x.op_ k0.L[0] (hf_k0 _ (Ze _)) k0.L[1] (hf_k0 _ (Ze _)) (by omega) g0.2.1 g0.2.2.1 g1.2.2.1 (by have:=g0.2.2.2; omega) (by have:=g1.2.2.2; omega)) rfl ?_
   rintro _ ⟨t9,e9,rfl,ht9,he9⟩
   refine ⟨by kernel_rfl,?_⟩
   refine ⟨.inr rfl,_,ab Tryz.results166 (O3.cellN Tryz.f166 bh rfl rfl rfl rfl rfl ⟨_,FzP.pure (fp:=[]) rfl⟩) (O3.tmp ⟨[],FzP.pure rfl⟩),?_⟩
   exact ⟨_,_,rfl,ht9,fun h=>Ho (by omega) hL_k0 hge24 hle_k0 (by assumption) hi_k0 (he9 h)⟩
  have hq100:¬ (((k0.L.length:Nat):Int)=(2:Int)):=by simpa using hc100
  refine ⟨.inr rfl,_,ab Tryz.results166 (O3.cellN Tryz.f166 bh rfl rfl rfl rfl rfl ⟨_,dg (fp:=[])⟩) (O3.tmp ⟨[],FzP.pure rfl⟩),?_⟩
  exact ⟨_,_,rfl,dc,fun h=>absurd h (by decide)⟩
 have hq92:¬ ((x.op_:Int)=(8:Int)):=by simpa using hc92
 refine ⟨.inr rfl,_,ab Tryz.results166 (O3.cellN Tryz.f166 bh rfl rfl rfl rfl rfl ⟨_,dg (fp:=[])⟩) (O3.tmp ⟨[],FzP.pure rfl⟩),?_⟩
 exact ⟨_,_,rfl,dc,fun h=>absurd h (by decide)⟩
theorem of_p (r:List AV) (hr:IsEx r):∀ d,d<=12->IsSh d r->PRet Tryz.prog 166 [.agg (rwA r)] (fun q=>∃ (t:GTm) (e:Int),q=.tup [.agg (tmA t),.v (.int .i64 e)]/\FitTm t/\(e=0->OfP d r t)):=IsEx.ind (M:=fun r=>∀ d,d<=12->IsSh d r->PRet Tryz.prog 166 [.agg (rwA r)] (fun q=>∃ (t:GTm) (e:Int),q=.tup [.agg (tmA t),.v (.int .i64 e)]/\FitTm t/\(e=0->OfP d r t))) (fun x hx ih d hd hs=>by
 obtain ⟨d',h1,h2,h3⟩:=uf hs
 subst h1
 exact of_w x hx d' (by omega) h2 (fun r hr=>ih r hr d' (by omega) (h3 r hr))) hr
/-- The parts of an expression that do not contain NULL have terms. -/
inductive FitE:Nat->List AV->Prop
 | tm (d:Nat) (r:List AV) (t:GTm) (hn:¬ HasN r) (h:OfP d r t):FitE d r
 | nul (d:Nat) (x:GEx) (hn:HasN (exA x)) (h:¬ (x.op_=6\/x.op_=7\/x.op_=8)) (ha:x.op_≠9->∀ r∈x.args_,FitE d r):FitE (d+1) (exA x)
/-- A valid operand. -/
def OpE (l:List PVar) (d:Nat) (r:List AV):Prop:=(∃ x:GEx,r=exA x/\x.op_=1/\x.value_.kind_=0/\x.args_=[])\/(TextE l r/\∀ y,r=exA y->y.op_=1->V7 y.value_)\/(IntE l r/\FitE d r)
theorem gw {v:GVal} (h:(v.kind_==0&&(v.int_==0&&v.text_.toList==(⟨#[]⟩:ByteArray).toList))=true):V7 v:=by
 simp only [Bool.and_eq_true,beq_iff_eq] at h
 exact ⟨fun _=>⟨h.2.1,uq (by unfold ey; rw [beq_iff_eq]; exact h.2.2)⟩,fun h1=>by omega,fun h1=>by omega⟩
theorem Hl {l:List PVar} {d:Nat} {x:GEx} (h:HasN (exA x)) (h1:x.op_=1) (h2:((x.args_.length:Nat):Int)=0):OpE l d (exA x):=by
 have e:x.args_=[]:=List.eq_nil_of_length_eq_zero (by omega)
 refine .inl ⟨x,rfl,h1,?_,e⟩
 rcases Ih.1 h with h | ⟨r,hr,_⟩
 ·exact h.2
 rw [e] at hr; exact absurd hr (by simp)
theorem Uq (x:GEx) (hx:FitEx x) (d:Nat) (hd:d<=11) (hsh:IsSh (d+1) (exA x)) (ih:∀ r∈x.args_,PRet Tryz.prog 134 [.agg (rwA r)] (fun q=>∃ b:Bool,q=.v (.bool b)/\(b=true->FitE d r))):PRet Tryz.prog 134 [.agg (exA x)] (fun r=>∃ b:Bool,r=.v (.bool b)/\(b=true->FitE (d+1) (exA x))):=by
 refine PRet.of_vc ao [44] [] Tryz.func134 rfl Tryz.ntmps134 rfl (by kernel_rfl) ?_
 refine ArgG.mk (i6 (exA x) (g9 hx)) rfl ?_
 rintro _ ⟨b0,rfl,hb0⟩
 refine cB (fun hc8=>?_) (fun hc8=>?_)
 ·refine ArgG.mk (of_p (exA x) (g9 hx) (d+1) (by omega) hsh) rfl ?_
  rintro _ ⟨t1,e1,rfl,ht1,he1⟩
  exact rV Tryz.results134 rfl ⟨_,rfl,fun hr=>.tm _ _ t1 (fun h=>by have:=hb0.2 h; simp_all) (he1 (by simpa using hr))⟩
 refine cB (fun hg19=>?_) (fun hg19=>?_)
 ·have hq19:(x.op_:Int)=(7:Int):=by simpa using hg19
  refine cT (cT ?_)
  exact rV Tryz.results134 rfl bF
 have hq19:¬ ((x.op_:Int)=(7:Int)):=by simpa using hg19
 refine cB (fun hg24=>?_) (fun hg24=>?_)
 ·have hq24:(x.op_:Int)=(8:Int):=by simpa using hg24
  exact cT (rV Tryz.results134 rfl bF)
 have hq24:¬ ((x.op_:Int)=(8:Int)):=by simpa using hg24
 refine cB (fun hc28=>?_) (fun hc28=>?_)
 ·have hq28:(x.op_:Int)=(6:Int):=by simpa using hc28
  exact rV Tryz.results134 rfl bF
 have hq28:¬ ((x.op_:Int)=(6:Int)):=by simpa using hc28
 refine LpG.on (fun k0:Nat=>(⟨fL [(1,.ptr 0 0 0),(5,.v (.int .i64 ((k0:Nat):Int)))],bl [(0,⟨0,exA x,0,false⟩)],1⟩:St)) (fun k0=>(x.args_.length - k0)) (fun k0=>(k0<=x.args_.length/\∀ j (hl:j < x.args_.length),j < k0->x.op_≠9->FitE d x.args_[j])) 0 (cO (.cons rfl rfl (.cons rfl rfl .nil)) (.cons rfl rfl rfl .nil)) ⟨Nat.zero_le _,fun j _ h=>absurd h (Nat.not_lt_zero j)⟩ ?_
 rintro k0 hinv
 have hgr_k0:x.args_.length<=140737488355328:=hx.args_.1
 obtain ⟨hle_k0,hj_k0⟩:=hinv
 refine LenG.of (cB (fun hc33=>?_) (fun hc33=>?_))
 ·have hlt33:k0 < x.args_.length:=Int.ofNat_lt.1 (of_decide_eq_true hc33)
  refine cB (fun hg39=>?_) (fun hg39=>?_)
  ·have hq39:¬ ((x.op_:Int)=(9:Int)):=by simpa using hg39
   refine IdxG.of (by assumption) (OpG.lk (aq d8 rfl (cj (hx.args_.2 _ (Ze _)))) ?_)
   refine ArgG.mk (ih (x.args_[k0]) (Ze _)) (show ay [.agg (rwA x.args_[k0])]=true by simp [ay,AV.pureB,cm (hx.args_.2 _ (Ze _))]) ?_
   rintro _ ⟨b2,rfl,hb2⟩
   refine cB (fun hc47=>?_) (fun hc47=>?_)
   ·exact rV Tryz.results134 rfl bF
   refine ⟨by omega,?_⟩
   refine ⟨(k0+1),by omega,(cO (.cons rfl rfl (.cons rfl rfl .nil)) (.cons rfl rfl rfl .nil)),?_⟩
   refine ⟨by omega,fun j hl h=>?_⟩
   rcases Nat.lt_succ_iff_lt_or_eq.1 h with h | rfl
   ·exact hj_k0 j hl h
   intro h9; exact hb2 (by simpa using hc47)
  have hq39:(x.op_:Int)=(9:Int):=by simpa using hg39
  refine cF ⟨by omega,⟨(k0+1),by omega,(cO (.cons rfl rfl (.cons rfl rfl .nil)) (.cons rfl rfl rfl .nil)),?_⟩⟩
  refine ⟨by omega,fun j hl h=>?_⟩
  rcases Nat.lt_succ_iff_lt_or_eq.1 h with h | rfl
  ·exact hj_k0 j hl h
  intro h9; exact absurd (by assumption) h9
 have hge33:¬ k0 < x.args_.length:=fun h=>of_decide_eq_false hc33 (Int.ofNat_lt.2 h)
 exact rV Tryz.results134 rfl ⟨_,rfl,fun _=>.nul d x (hb0.1 (by simpa using hc8)) (by omega) (fun h9 r hr=>by obtain ⟨j,hj,rfl⟩:=List.getElem_of_mem hr; exact hj_k0 j hj (by omega) h9)⟩
theorem Iz (r:List AV) (hr:IsEx r):∀ d,d<=12->IsSh d r->PRet Tryz.prog 134 [.agg (rwA r)] (fun q=>∃ b:Bool,q=.v (.bool b)/\(b=true->FitE d r)):=IsEx.ind (M:=fun r=>∀ d,d<=12->IsSh d r->PRet Tryz.prog 134 [.agg (rwA r)] (fun q=>∃ b:Bool,q=.v (.bool b)/\(b=true->FitE d r))) (fun x hx ih d hd hs=>by
 obtain ⟨d',h1,h2,h3⟩:=uf hs
 subst h1
 exact Uq x hx d' (by omega) hs (fun r hr=>ih r hr d' (by omega) (h3 r hr))) hr
theorem Hk (x:GEx) (hx:FitEx x) (l:List PVar) (hl:bw l (fun y=>True)) (d:Nat) (hd:d<=12) (hsh:IsSh d (exA x)):PRet Tryz.prog 88 [.agg (exA x),.tree 5 (l.map vA)] (fun r=>∃ b:Bool,r=.v (.bool b)/\(b=true->OpE l d (exA x))):=by
 refine PRet.of_vc ao [] [] Tryz.func88 rfl Tryz.ntmps88 rfl (by kernel_rfl) (ArgG.mk (i6 (exA x) (g9 hx)) rfl ?_)
 rintro _ ⟨b0,rfl,hb0⟩
 refine cB (fun hg7=>?_) (fun hg7=>?_)
 ·refine cE (fun hq12=>?_) (fun hq12=>?_)
  ·refine LenG.of (cE (fun hq18=>?_) (fun hq18=>?_))
   ·refine cT (cE (fun hq26=>?_) (fun hq26=>?_))
    ·exact cT (rV Tryz.results88 rfl ⟨_,rfl,fun _=>Hl (hb0.1 (by assumption)) (by assumption) (by assumption)⟩)
    refine OpG.lk (jp rfl rfl) (cB (fun hg32=>?_) (fun hg32=>?_))
    ·exact rV Tryz.results88 rfl ⟨_,rfl,fun _=>Hl (hb0.1 (by assumption)) (by assumption) (by assumption)⟩
    refine ArgG.mk (fb x.value_ hx.value_) rfl ?_
    rintro _ ⟨b1,rfl,hb1,hbc1⟩
    exact rV Tryz.results88 rfl ⟨_,rfl,fun _=>Hl (hb0.1 (by assumption)) (by assumption) (by assumption)⟩
   refine ArgG.mk (fh (exA x) (g9 hx) l hl) rfl ?_
   rintro _ ⟨b2,rfl,hb2,hbn2⟩
   refine cB (fun hc22=>?_) (fun hc22=>?_)
   ·refine cE (fun hq26=>?_) (fun hq26=>?_)
    ·exact cT (rV Tryz.results88 rfl ⟨_,rfl,fun hr=>.inr (.inl ⟨by first | exact hb2 (by assumption) | exact hb1 (by assumption),fun y hy h1=>by obtain rfl:=bj hy; first | omega | exact hbc2 hr | exact gw hg32⟩)⟩)
    refine OpG.lk (jp rfl rfl) (cB (fun hg32=>?_) (fun hg32=>?_))
    ·exact rV Tryz.results88 rfl ⟨_,rfl,fun hr=>.inr (.inl ⟨by first | exact hb2 (by assumption) | exact hb1 (by assumption),fun y hy h1=>by obtain rfl:=bj hy; first | omega | exact hbc2 hr | exact gw hg32⟩)⟩
    refine ArgG.mk (fb x.value_ hx.value_) rfl ?_
    rintro _ ⟨b3,rfl,hb3,hbc3⟩
    exact rV Tryz.results88 rfl ⟨_,rfl,fun hr=>.inr (.inl ⟨by first | exact hb3 (by assumption) | exact hb2 (by assumption),fun y hy h1=>by obtain rfl:=bj hy; first | omega | exact hbc3 hr | exact gw hg32⟩)⟩
   refine ArgG.mk (ug (exA x) (g9 hx) l hl) rfl ?_
   rintro _ ⟨b4,rfl,hb4⟩
   refine cB (fun hg40=>?_) (fun hg40=>?_)
   ·refine ArgG.mk (Iz (exA x) (g9 hx) d hd hsh) rfl ?_
    rintro _ ⟨b5,rfl,hb5⟩
    exact rV Tryz.results88 rfl ⟨_,rfl,fun hr=>.inr (.inr ⟨hb4 (by assumption),hb5 hr⟩)⟩
   exact rV Tryz.results88 rfl bF
  refine cF (ArgG.mk (fh (exA x) (g9 hx) l hl) rfl ?_)
  rintro _ ⟨b6,rfl,hb6,hbn6⟩
  refine cB (fun hc22=>?_) (fun hc22=>?_)
  ·refine cE (fun hq26=>?_) (fun hq26=>?_)
   ·exact cT (rV Tryz.results88 rfl ⟨_,rfl,fun hr=>.inr (.inl ⟨by first | exact hb6 (by assumption) | exact hb5 (by assumption),fun y hy h1=>by obtain rfl:=bj hy; first | omega | exact hbc6 hr | exact gw hg32⟩)⟩)
   refine OpG.lk (jp rfl rfl) (cB (fun hg32=>?_) (fun hg32=>?_))
   ·exact rV Tryz.results88 rfl ⟨_,rfl,fun hr=>.inr (.inl ⟨by first | exact hb6 (by assumption) | exact hb5 (by assumption),fun y hy h1=>by obtain rfl:=bj hy; first | omega | exact hbc6 hr | exact gw hg32⟩)⟩
   refine ArgG.mk (fb x.value_ hx.value_) rfl ?_
   rintro _ ⟨b7,rfl,hb7,hbc7⟩
   exact rV Tryz.results88 rfl ⟨_,rfl,fun hr=>.inr (.inl ⟨by first | exact hb7 (by assumption) | exact hb6 (by assumption),fun y hy h1=>by obtain rfl:=bj hy; first | omega | exact hbc7 hr | exact gw hg32⟩)⟩
  refine ArgG.mk (ug (exA x) (g9 hx) l hl) rfl ?_
  rintro _ ⟨b8,rfl,hb8⟩
  refine cB (fun hg40=>?_) (fun hg40=>?_)
  ·refine ArgG.mk (Iz (exA x) (g9 hx) d hd hsh) rfl ?_
   rintro _ ⟨b9,rfl,hb9⟩
   exact rV Tryz.results88 rfl ⟨_,rfl,fun hr=>.inr (.inr ⟨hb8 (by assumption),hb9 hr⟩)⟩
  exact rV Tryz.results88 rfl bF
 refine cF (cF ?_)
 refine ArgG.mk (fh (exA x) (g9 hx) l hl) rfl ?_
 rintro _ ⟨b10,rfl,hb10,hbn10⟩
 refine cB (fun hc22=>?_) (fun hc22=>?_)
 ·refine cE (fun hq26=>?_) (fun hq26=>?_)
  ·exact cT (rV Tryz.results88 rfl ⟨_,rfl,fun hr=>.inr (.inl ⟨by first | exact hb10 (by assumption) | exact hb9 (by assumption),fun y hy h1=>by obtain rfl:=bj hy; first | omega | exact hbc10 hr | exact gw hg32⟩)⟩)
  refine OpG.lk (jp rfl rfl) (cB (fun hg32=>?_) (fun hg32=>?_))
  ·exact rV Tryz.results88 rfl ⟨_,rfl,fun hr=>.inr (.inl ⟨by first | exact hb10 (by assumption) | exact hb9 (by assumption),fun y hy h1=>by obtain rfl:=bj hy; first | omega | exact hbc10 hr | exact gw hg32⟩)⟩
  refine ArgG.mk (fb x.value_ hx.value_) rfl ?_
  rintro _ ⟨b11,rfl,hb11,hbc11⟩
  exact rV Tryz.results88 rfl ⟨_,rfl,fun hr=>.inr (.inl ⟨by first | exact hb11 (by assumption) | exact hb10 (by assumption),fun y hy h1=>by obtain rfl:=bj hy; first | omega | exact hbc11 hr | exact gw hg32⟩)⟩
 refine ArgG.mk (ug (exA x) (g9 hx) l hl) rfl ?_
 rintro _ ⟨b12,rfl,hb12⟩
 refine cB (fun hg40=>?_) (fun hg40=>?_)
 ·refine ArgG.mk (Iz (exA x) (g9 hx) d hd hsh) rfl ?_
  rintro _ ⟨b13,rfl,hb13⟩
  exact rV Tryz.results88 rfl ⟨_,rfl,fun hr=>.inr (.inr ⟨hb12 (by assumption),hb13 hr⟩)⟩
 exact rV Tryz.results88 rfl bF
theorem fu (r:List AV) (hr:IsEx r) (l:List PVar) (hl:bw l (fun y=>True)) (d:Nat) (hd:d<=12) (hsh:IsSh d r):PRet Tryz.prog 88 [.agg (rwA r),.tree 5 (l.map vA)] (fun q=>∃ b:Bool,q=.v (.bool b)/\(b=true->OpE l d r)):=by
 obtain ⟨x,rfl,hx⟩:=hr.open_
 exact Hk x hx l hl d hd hsh
/-- Operands that can be compared. -/
def yl (l:List PVar) (a b:GEx):Prop:=(¬ TextE l (exA a)/\¬ TextE l (exA b))\/(TextE l (exA a)/\TextE l (exA b))\/(a.op_=1/\HasN (exA a))\/(b.op_=1/\HasN (exA b))
/-- A valid condition. -/
inductive CondE (l:List PVar):List AV->Prop
 | bin (x:GEx) (h:x.op_=18\/x.op_=19) (hl:x.args_.length=2) (ha:∀ r∈x.args_,CondE l r):CondE l (exA x)
 | not (x:GEx) (h:x.op_=20) (hl:x.args_.length=1) (ha:∀ r∈x.args_,CondE l r):CondE l (exA x)
 | isn (x:GEx) (h:x.op_=17) (hl:x.args_.length=1) (ha:∀ r∈x.args_,OpE l 11 r):CondE l (exA x)
 | like (x a b:GEx) (h:x.op_=16) (ha:x.args_=[exA a,exA b]) (hb:b.op_=1/\b.value_.kind_=2) (ho:OpE l 11 (exA a)):CondE l (exA x)
 | cmp (x a b:GEx) (h:10<=x.op_/\x.op_<=15) (ha:x.args_=[exA a,exA b]) (h0:OpE l 11 (exA a)) (h1:OpE l 11 (exA b)) (hs:yl l a b):CondE l (exA x)
theorem Wh {P:List AV->Prop} {l:List (List AV)} (h:((l.length:Nat):Int)=1) (h0:P (l[0]'(by omega))):∀ r∈l,P r:=by
 match l,h,h0 with
 | [a],_,h0=>intro r hr; rw [Zj.1 hr]; exact h0
theorem all2 {P:List AV->Prop} {l:List (List AV)} (h:((l.length:Nat):Int)=2) (h0:P (l[0]'(by omega))) (h1:P (l[1]'(by omega))):∀ r∈l,P r:=by
 match l,h,h0,h1 with
 | [a,b],_,h0,h1=>
  intro r hr
  rcases List.mem_cons.1 hr with rfl | hr
  ·exact h0
  ·rw [Zj.1 hr]; exact h1
theorem av {l:List (List AV)} {a b:List AV} (h:((l.length:Nat):Int)=2) (h0:l[0]'(by omega)=a) (h1:l[1]'(by omega)=b):l=[a,b]:=by
 match l,h,h0,h1 with
 | [c,d],_,h0,h1=>rw [<- h0,<- h1]; rfl
theorem shC {x:GEx} (h:IsSh 12 (exA x)):x.args_.length<=2/\∀ r∈x.args_,IsSh 11 r:=by
 obtain ⟨d,h1,h2,h3⟩:=uf h
 have:d=11:=by omega
 subst this; exact ⟨h2,h3⟩
theorem Mq (x:GEx) (hx:FitEx x) (l:List PVar) (hl:bw l (fun y=>True)) (dp:Int) (hdp:0<=dp/\dp<=1000) (ih:∀ r∈x.args_,∀ d:Int,(0<=d/\d<=1000)->PRet Tryz.prog 49 [.agg (rwA r),.tree 5 (l.map vA),.v (.int .i64 d)] (fun q=>∃ b:Bool,q=.v (.bool b)/\(b=true->CondE l r))):PRet Tryz.prog 49 [.agg (exA x),.tree 5 (l.map vA),.v (.int .i64 dp)] (fun r=>∃ b:Bool,r=.v (.bool b)/\(b=true->CondE l (exA x))):=by
 refine PRet.of_vc ao [29,39,55,71] [] Tryz.func49 rfl Tryz.ntmps49 rfl (by kernel_rfl) (cE (fun hq11=>?_) (fun hq11=>?_))
 ·exact cT (rV Tryz.results49 rfl bF)
 refine ArgG.mk (Pv (exA x) (g9 hx) 12 (by omega)) rfl ?_
 rintro _ ⟨b0,rfl,hb0⟩
 refine cB (fun hc15=>?_) (fun hc15=>?_)
 ·exact rV Tryz.results49 rfl bF
 have hshc:=shC (hb0 (by simpa using hc15))
 refine cB (fun hc18=>?_) (fun hc18=>?_)
 ·have hq18:(x.op_:Int)=(18:Int):=by simpa using hc18
  refine cE (fun hq18=>?_) (fun hq18=>?_)
  refine LenG.of (cE (fun hq25=>?_) (fun hq25=>?_))
  ·refine IdxG.of (j:=0) (by omega) (OpG.lk (aq d8 rfl (cj (hx.args_.2 _ (Ze _)))) ?_)
   refine ⟨by omega,ArgG.mk (ih (x.args_[0]) (Ze _) (dp - 1) (by omega)) (show ay [.agg (rwA x.args_[0]),.tree 5 (l.map vA),.v (.int .i64 (dp - 1))]=true by simp [ay,AV.pureB,cm (hx.args_.2 _ (Ze _))]) ?_⟩
   rintro _ ⟨b1,rfl,hb1⟩
   refine cB (fun hg35=>?_) (fun hg35=>?_)
   ·refine IdxG.of (j:=1) (by omega) (OpG.lk (aq d8 rfl (cj (hx.args_.2 _ (Ze _)))) ?_)
    refine ⟨by omega,ArgG.mk (ih (x.args_[1]) (Ze _) (dp - 1) (by omega)) (show ay [.agg (rwA x.args_[1]),.tree 5 (l.map vA),.v (.int .i64 (dp - 1))]=true by simp [ay,AV.pureB,cm (hx.args_.2 _ (Ze _))]) ?_⟩
    rintro _ ⟨b2,rfl,hb2⟩
    exact rV Tryz.results49 rfl ⟨_,rfl,fun hr=>.bin x (by omega) (by omega) (all2 (by assumption) (hb1 (by assumption)) (hb2 hr))⟩
   exact rV Tryz.results49 rfl bF
  ·exact cF (rV Tryz.results49 rfl bF)
  refine cE (fun hq45=>?_) (fun hq45=>?_)
  refine LenG.of (cE (fun hq51=>?_) (fun hq51=>?_))
  ·refine IdxG.of (j:=0) (by omega) (OpG.lk (aq d8 rfl (cj (hx.args_.2 _ (Ze _)))) ?_)
   refine ⟨by omega,ArgG.mk (ih (x.args_[0]) (Ze _) (dp - 1) (by omega)) (show ay [.agg (rwA x.args_[0]),.tree 5 (l.map vA),.v (.int .i64 (dp - 1))]=true by simp [ay,AV.pureB,cm (hx.args_.2 _ (Ze _))]) ?_⟩
   rintro _ ⟨b3,rfl,hb3⟩
   exact rV Tryz.results49 rfl ⟨_,rfl,fun hr=>.not x (by assumption) (by omega) (Wh (by assumption) (hb3 hr))⟩
  ·exact rV Tryz.results49 rfl bF
  refine cE (fun hq61=>?_) (fun hq61=>?_)
  refine LenG.of (cE (fun hq67=>?_) (fun hq67=>?_))
  ·refine IdxG.of (j:=0) (by omega) (OpG.lk (aq d8 rfl (cj (hx.args_.2 _ (Ze _)))) ?_)
   refine ArgG.mk (fu (x.args_[0]) (hx.args_.2 _ (Ze _)) l hl 11 (by omega) (hshc.2 _ (Ze _))) (show ay [.agg (rwA x.args_[0]),.tree 5 (l.map vA)]=true by simp [ay,AV.pureB,cm (hx.args_.2 _ (Ze _))]) ?_
   rintro _ ⟨b4,rfl,hb4⟩
   exact rV Tryz.results49 rfl ⟨_,rfl,fun hr=>.isn x (by assumption) (by omega) (Wh (by assumption) (hb4 hr))⟩
  ·exact rV Tryz.results49 rfl bF
  refine cE (fun hq75=>?_) (fun hq75=>?_)
  ·refine LenG.of (cE (fun hq81=>?_) (fun hq81=>?_))
   ·obtain ⟨a0,he_a0,ha0⟩:=n0 hx 0 (by omega)
    obtain ⟨a1,he_a1,ha1⟩:=n0 hx 1 (by omega)
    have hs_a0:IsSh 11 (exA a0):=he_a0 ▸ hshc.2 _ (Ze _)
    have hs_a1:IsSh 11 (exA a1):=he_a1 ▸ hshc.2 _ (Ze _)
    refine aw (j:=1) (by omega) he_a1 (LenG.of ?_)
    refine cE (fun hq90=>?_) (fun hq90=>?_)
    ·refine aw (j:=0) (by omega) he_a0 (ArgG.mk (fh (exA a0) (g9 ha0) l hl) rfl ?_)
     rintro _ ⟨b5,rfl,hb5,hbn5⟩
     refine cB (fun hg97=>?_) (fun hg97=>?_)
     ·refine cT (aw (j:=0) (by omega) he_a0 ?_)
      refine ArgG.mk (fu (exA a0) (g9 ha0) l hl 11 (by omega) hs_a0) rfl ?_
      rintro _ ⟨b6,rfl,hb6⟩
      refine cB (fun hg113=>?_) (fun hg113=>?_)
      ·have hoL:OpE l 11 (exA a0):=hb6 (by simpa using hg113)
       refine aw (j:=0) (by omega) he_a0 (cN (fun hq121=>?_) (fun hq121=>?_))
       ·refine aw (j:=1) (by omega) he_a1 (cE (fun hq129=>?_) (fun hq129=>?_))
        ·refine aw (j:=1) (by omega) he_a1 (cE (fun hq138=>?_) (fun hq138=>?_))
         ·refine aw (j:=1) (by omega) he_a1 (ArgG.mk (fb a1.value_ ha1.value_) rfl ?_)
          rintro _ ⟨b7,rfl,hb7,hbc7⟩
          refine cB (fun hg146=>?_) (fun hg146=>?_)
          ·refine aw (j:=0) (by omega) he_a0 (cE (fun hq153=>?_) (fun hq153=>?_))
           ·exact rV Tryz.results49 rfl ⟨_,rfl,fun _=>.like x a0 a1 (by assumption) (av (by assumption) he_a0 he_a1) ⟨by assumption,by assumption⟩ hoL⟩
           exact aw (j:=0) (by omega) he_a0 (rV Tryz.results49 rfl ⟨_,rfl,fun _=>.like x a0 a1 (by assumption) (av (by assumption) he_a0 he_a1) ⟨by assumption,by assumption⟩ hoL⟩)
          exact rV Tryz.results49 rfl bF
         exact cF (rV Tryz.results49 rfl bF)
        refine cF (cF ?_)
        exact rV Tryz.results49 rfl bF
       refine cF (cF ?_)
       exact cF (rV Tryz.results49 rfl bF)
      refine cF (cF ?_)
      refine cF (cF ?_)
      exact rV Tryz.results49 rfl bF
     refine aw (j:=0) (by omega) he_a0 (ArgG.mk (i6 (exA a0) (g9 ha0)) rfl ?_)
     rintro _ ⟨b8,rfl,hb8⟩
     refine cB (fun hg105=>?_) (fun hg105=>?_)
     ·refine aw (j:=0) (by omega) he_a0 (ArgG.mk (fu (exA a0) (g9 ha0) l hl 11 (by omega) hs_a0) rfl ?_)
      rintro _ ⟨b9,rfl,hb9⟩
      refine cB (fun hg113=>?_) (fun hg113=>?_)
      ·have hoL:OpE l 11 (exA a0):=hb9 (by simpa using hg113)
       refine aw (j:=0) (by omega) he_a0 (cN (fun hq121=>?_) (fun hq121=>?_))
       ·refine aw (j:=1) (by omega) he_a1 (cE (fun hq129=>?_) (fun hq129=>?_))
        ·refine aw (j:=1) (by omega) he_a1 (cE (fun hq138=>?_) (fun hq138=>?_))
         ·refine aw (j:=1) (by omega) he_a1 (ArgG.mk (fb a1.value_ ha1.value_) rfl ?_)
          rintro _ ⟨b10,rfl,hb10,hbc10⟩
          refine cB (fun hg146=>?_) (fun hg146=>?_)
          ·refine aw (j:=0) (by omega) he_a0 (cE (fun hq153=>?_) (fun hq153=>?_))
           ·exact rV Tryz.results49 rfl ⟨_,rfl,fun _=>.like x a0 a1 (by assumption) (av (by assumption) he_a0 he_a1) ⟨by assumption,by assumption⟩ hoL⟩
           exact aw (j:=0) (by omega) he_a0 (rV Tryz.results49 rfl ⟨_,rfl,fun _=>.like x a0 a1 (by assumption) (av (by assumption) he_a0 he_a1) ⟨by assumption,by assumption⟩ hoL⟩)
          exact rV Tryz.results49 rfl bF
         exact cF (rV Tryz.results49 rfl bF)
        refine cF (cF ?_)
        exact rV Tryz.results49 rfl bF
       refine cF (cF ?_)
       exact cF (rV Tryz.results49 rfl bF)
      refine cF (cF ?_)
      refine cF (cF ?_)
      exact rV Tryz.results49 rfl bF
     refine cF (cF ?_)
     refine cF (cF ?_)
     exact cF (rV Tryz.results49 rfl bF)
    refine cF (cF ?_)
    refine cF (cF ?_)
    refine cF (cF ?_)
    exact rV Tryz.results49 rfl bF
   refine cF (cF ?_)
   refine cF (cF ?_)
   refine cF (cF ?_)
   exact cF (rV Tryz.results49 rfl bF)
  refine ArgG.mk (He x.op_) rfl ?_
  rintro _ ⟨p11,rfl,hp11⟩
  refine cD (fun hq166=>?_) (fun hq166=>?_)
  ·refine cT (cT ?_)
   exact cT (rV Tryz.results49 rfl bF)
  have hrng:=hp11 (by omega)
  refine LenG.of (cN (fun hq172=>?_) (fun hq172=>?_))
  ·refine cT (cT ?_)
   exact rV Tryz.results49 rfl bF
  obtain ⟨a0,he_a0,ha0⟩:=n0 hx 0 (by omega)
  obtain ⟨a1,he_a1,ha1⟩:=n0 hx 1 (by omega)
  have hs_a0:IsSh 11 (exA a0):=he_a0 ▸ hshc.2 _ (Ze _)
  have hs_a1:IsSh 11 (exA a1):=he_a1 ▸ hshc.2 _ (Ze _)
  refine aw (j:=0) (by omega) he_a0 (ArgG.mk (fu (exA a0) (g9 ha0) l hl 11 (by omega) hs_a0) rfl ?_)
  rintro _ ⟨b12,rfl,hb12⟩
  refine cB (fun hg181=>?_) (fun hg181=>?_)
  ·exact cT (rV Tryz.results49 rfl bF)
  have ho0:OpE l 11 (exA a0):=hb12 (by simpa using hg181)
  refine aw (j:=1) (by omega) he_a1 (ArgG.mk (fu (exA a1) (g9 ha1) l hl 11 (by omega) hs_a1) rfl ?_)
  rintro _ ⟨b13,rfl,hb13⟩
  refine cB (fun hc189=>?_) (fun hc189=>?_)
  ·exact rV Tryz.results49 rfl bF
  have ho1:OpE l 11 (exA a1):=hb13 (by simpa using hc189)
  refine aw (j:=0) (by omega) he_a0 (aw (j:=1) (by omega) he_a1 ?_)
  refine ⟨by kernel_rfl,ArgG.mk (fh (exA a0) (g9 ha0) l hl) rfl ?_⟩
  rintro _ ⟨b14,rfl,hb14,hbn14⟩
  refine cB (fun hg202=>?_) (fun hg202=>?_)
  ·have hnA:¬ TextE l (exA a0):=hbn14 (by simpa using hg202)
   refine ArgG.mk (fh (exA a1) (g9 ha1) l hl) rfl ?_
   rintro _ ⟨b15,rfl,hb15,hbn15⟩
   refine cB (fun hc207=>?_) (fun hc207=>?_)
   ·have hcm:yl l a0 a1:=.inl ⟨hnA,hbn15 (by simpa using hc207)⟩
    exact rV Tryz.results49 rfl ⟨_,rfl,fun _=>.cmp x a0 a1 hrng (av (by assumption) he_a0 he_a1) ho0 ho1 hcm⟩
   refine ArgG.mk (fh (exA a0) (g9 ha0) l hl) rfl ?_
   rintro _ ⟨b16,rfl,hb16,hbn16⟩
   refine cB (fun hg212=>?_) (fun hg212=>?_)
   ·refine cE (fun hq216=>?_) (fun hq216=>?_)
    ·refine ArgG.mk (i6 (exA a0) (g9 ha0)) rfl ?_
     rintro _ ⟨b17,rfl,hb17⟩
     refine cB (fun hg222=>?_) (fun hg222=>?_)
     ·exact cT (rV Tryz.results49 rfl bF)
     have hcm:yl l a0 a1:=.inr (.inr (.inl ⟨hq216,hb17.1 (by simpa using hg222)⟩))
     refine ArgG.mk (fh (exA a1) (g9 ha1) l hl) rfl ?_
     rintro _ ⟨b18,rfl,hb18,hbn18⟩
     refine cB (fun hg227=>?_) (fun hg227=>?_)
     ·refine cE (fun hq231=>?_) (fun hq231=>?_)
      ·refine ArgG.mk (i6 (exA a1) (g9 ha1)) rfl ?_
       rintro _ ⟨b19,rfl,hb19⟩
       refine cB (fun hc237=>?_) (fun hc237=>?_)
       ·exact rV Tryz.results49 rfl bF
       have hcm:yl l a0 a1:=.inr (.inr (.inr ⟨hq231,hb19.1 (by simpa using hc237)⟩))
       refine cE (fun hq241=>?_) (fun hq241=>?_)
       refine cT (cT ?_)
       exact rV Tryz.results49 rfl ⟨_,rfl,fun _=>.cmp x a0 a1 hrng (av (by assumption) he_a0 he_a1) ho0 ho1 hcm⟩
       refine cE (fun hq246=>?_) (fun hq246=>?_)
       exact cT (rV Tryz.results49 rfl ⟨_,rfl,fun _=>.cmp x a0 a1 hrng (av (by assumption) he_a0 he_a1) ho0 ho1 hcm⟩)
       refine cE (fun hq251=>?_) (fun hq251=>?_)
       ·exact rV Tryz.results49 rfl ⟨_,rfl,fun _=>.cmp x a0 a1 hrng (av (by assumption) he_a0 he_a1) ho0 ho1 hcm⟩
       exact rV Tryz.results49 rfl ⟨_,rfl,fun _=>.cmp x a0 a1 hrng (av (by assumption) he_a0 he_a1) ho0 ho1 hcm⟩
      exact cT (rV Tryz.results49 rfl bF)
     skip
     refine cF (cE (fun hq241=>?_) (fun hq241=>?_))
     refine cT (cT ?_)
     exact rV Tryz.results49 rfl ⟨_,rfl,fun _=>.cmp x a0 a1 hrng (av (by assumption) he_a0 he_a1) ho0 ho1 hcm⟩
     refine cE (fun hq246=>?_) (fun hq246=>?_)
     exact cT (rV Tryz.results49 rfl ⟨_,rfl,fun _=>.cmp x a0 a1 hrng (av (by assumption) he_a0 he_a1) ho0 ho1 hcm⟩)
     refine cE (fun hq251=>?_) (fun hq251=>?_)
     ·exact rV Tryz.results49 rfl ⟨_,rfl,fun _=>.cmp x a0 a1 hrng (av (by assumption) he_a0 he_a1) ho0 ho1 hcm⟩
     exact rV Tryz.results49 rfl ⟨_,rfl,fun _=>.cmp x a0 a1 hrng (av (by assumption) he_a0 he_a1) ho0 ho1 hcm⟩
    refine cT (cT ?_)
    exact rV Tryz.results49 rfl bF
   have htA:TextE l (exA a0):=hb16 (by simpa using hg212)
   refine cF (ArgG.mk (fh (exA a1) (g9 ha1) l hl) rfl ?_)
   rintro _ ⟨b20,rfl,hb20,hbn20⟩
   refine cB (fun hg227=>?_) (fun hg227=>?_)
   ·refine cE (fun hq231=>?_) (fun hq231=>?_)
    ·refine ArgG.mk (i6 (exA a1) (g9 ha1)) rfl ?_
     rintro _ ⟨b21,rfl,hb21⟩
     refine cB (fun hc237=>?_) (fun hc237=>?_)
     ·exact rV Tryz.results49 rfl bF
     have hcm:yl l a0 a1:=.inr (.inr (.inr ⟨hq231,hb21.1 (by simpa using hc237)⟩))
     refine cE (fun hq241=>?_) (fun hq241=>?_)
     refine cT (cT ?_)
     exact rV Tryz.results49 rfl ⟨_,rfl,fun _=>.cmp x a0 a1 hrng (av (by assumption) he_a0 he_a1) ho0 ho1 hcm⟩
     refine cE (fun hq246=>?_) (fun hq246=>?_)
     exact cT (rV Tryz.results49 rfl ⟨_,rfl,fun _=>.cmp x a0 a1 hrng (av (by assumption) he_a0 he_a1) ho0 ho1 hcm⟩)
     refine cE (fun hq251=>?_) (fun hq251=>?_)
     ·exact rV Tryz.results49 rfl ⟨_,rfl,fun _=>.cmp x a0 a1 hrng (av (by assumption) he_a0 he_a1) ho0 ho1 hcm⟩
     exact rV Tryz.results49 rfl ⟨_,rfl,fun _=>.cmp x a0 a1 hrng (av (by assumption) he_a0 he_a1) ho0 ho1 hcm⟩
    exact cT (rV Tryz.results49 rfl bF)
   have hcm:yl l a0 a1:=.inr (.inl ⟨htA,hb20 (by simpa using hg227)⟩)
   refine cF (cE (fun hq241=>?_) (fun hq241=>?_))
   refine cT (cT ?_)
   exact rV Tryz.results49 rfl ⟨_,rfl,fun _=>.cmp x a0 a1 hrng (av (by assumption) he_a0 he_a1) ho0 ho1 hcm⟩
   refine cE (fun hq246=>?_) (fun hq246=>?_)
   exact cT (rV Tryz.results49 rfl ⟨_,rfl,fun _=>.cmp x a0 a1 hrng (av (by assumption) he_a0 he_a1) ho0 ho1 hcm⟩)
   refine cE (fun hq251=>?_) (fun hq251=>?_)
   ·exact rV Tryz.results49 rfl ⟨_,rfl,fun _=>.cmp x a0 a1 hrng (av (by assumption) he_a0 he_a1) ho0 ho1 hcm⟩
   exact rV Tryz.results49 rfl ⟨_,rfl,fun _=>.cmp x a0 a1 hrng (av (by assumption) he_a0 he_a1) ho0 ho1 hcm⟩
  refine cF (ArgG.mk (fh (exA a0) (g9 ha0) l hl) rfl ?_)
  rintro _ ⟨b22,rfl,hb22,hbn22⟩
  refine cB (fun hg212=>?_) (fun hg212=>?_)
  ·refine cE (fun hq216=>?_) (fun hq216=>?_)
   ·refine ArgG.mk (i6 (exA a0) (g9 ha0)) rfl ?_
    rintro _ ⟨b23,rfl,hb23⟩
    refine cB (fun hg222=>?_) (fun hg222=>?_)
    ·exact cT (rV Tryz.results49 rfl bF)
    have hcm:yl l a0 a1:=.inr (.inr (.inl ⟨hq216,hb23.1 (by simpa using hg222)⟩))
    refine ArgG.mk (fh (exA a1) (g9 ha1) l hl) rfl ?_
    rintro _ ⟨b24,rfl,hb24,hbn24⟩
    refine cB (fun hg227=>?_) (fun hg227=>?_)
    ·refine cE (fun hq231=>?_) (fun hq231=>?_)
     ·refine ArgG.mk (i6 (exA a1) (g9 ha1)) rfl ?_
      rintro _ ⟨b25,rfl,hb25⟩
      refine cB (fun hc237=>?_) (fun hc237=>?_)
      ·exact rV Tryz.results49 rfl bF
      have hcm:yl l a0 a1:=.inr (.inr (.inr ⟨hq231,hb25.1 (by simpa using hc237)⟩))
      refine cE (fun hq241=>?_) (fun hq241=>?_)
      refine cT (cT ?_)
      exact rV Tryz.results49 rfl ⟨_,rfl,fun _=>.cmp x a0 a1 hrng (av (by assumption) he_a0 he_a1) ho0 ho1 hcm⟩
      refine cE (fun hq246=>?_) (fun hq246=>?_)
      exact cT (rV Tryz.results49 rfl ⟨_,rfl,fun _=>.cmp x a0 a1 hrng (av (by assumption) he_a0 he_a1) ho0 ho1 hcm⟩)
      refine cE (fun hq251=>?_) (fun hq251=>?_)
      ·exact rV Tryz.results49 rfl ⟨_,rfl,fun _=>.cmp x a0 a1 hrng (av (by assumption) he_a0 he_a1) ho0 ho1 hcm⟩
      exact rV Tryz.results49 rfl ⟨_,rfl,fun _=>.cmp x a0 a1 hrng (av (by assumption) he_a0 he_a1) ho0 ho1 hcm⟩
     exact cT (rV Tryz.results49 rfl bF)
    skip
    refine cF (cE (fun hq241=>?_) (fun hq241=>?_))
    refine cT (cT ?_)
    exact rV Tryz.results49 rfl ⟨_,rfl,fun _=>.cmp x a0 a1 hrng (av (by assumption) he_a0 he_a1) ho0 ho1 hcm⟩
    refine cE (fun hq246=>?_) (fun hq246=>?_)
    exact cT (rV Tryz.results49 rfl ⟨_,rfl,fun _=>.cmp x a0 a1 hrng (av (by assumption) he_a0 he_a1) ho0 ho1 hcm⟩)
    refine cE (fun hq251=>?_) (fun hq251=>?_)
    ·exact rV Tryz.results49 rfl ⟨_,rfl,fun _=>.cmp x a0 a1 hrng (av (by assumption) he_a0 he_a1) ho0 ho1 hcm⟩
    exact rV Tryz.results49 rfl ⟨_,rfl,fun _=>.cmp x a0 a1 hrng (av (by assumption) he_a0 he_a1) ho0 ho1 hcm⟩
   refine cT (cT ?_)
   exact rV Tryz.results49 rfl bF
  have htA:TextE l (exA a0):=hb22 (by simpa using hg212)
  refine cF (ArgG.mk (fh (exA a1) (g9 ha1) l hl) rfl ?_)
  rintro _ ⟨b26,rfl,hb26,hbn26⟩
  refine cB (fun hg227=>?_) (fun hg227=>?_)
  ·refine cE (fun hq231=>?_) (fun hq231=>?_)
   ·refine ArgG.mk (i6 (exA a1) (g9 ha1)) rfl ?_
    rintro _ ⟨b27,rfl,hb27⟩
    refine cB (fun hc237=>?_) (fun hc237=>?_)
    ·exact rV Tryz.results49 rfl bF
    have hcm:yl l a0 a1:=.inr (.inr (.inr ⟨hq231,hb27.1 (by simpa using hc237)⟩))
    refine cE (fun hq241=>?_) (fun hq241=>?_)
    refine cT (cT ?_)
    exact rV Tryz.results49 rfl ⟨_,rfl,fun _=>.cmp x a0 a1 hrng (av (by assumption) he_a0 he_a1) ho0 ho1 hcm⟩
    refine cE (fun hq246=>?_) (fun hq246=>?_)
    exact cT (rV Tryz.results49 rfl ⟨_,rfl,fun _=>.cmp x a0 a1 hrng (av (by assumption) he_a0 he_a1) ho0 ho1 hcm⟩)
    refine cE (fun hq251=>?_) (fun hq251=>?_)
    ·exact rV Tryz.results49 rfl ⟨_,rfl,fun _=>.cmp x a0 a1 hrng (av (by assumption) he_a0 he_a1) ho0 ho1 hcm⟩
    exact rV Tryz.results49 rfl ⟨_,rfl,fun _=>.cmp x a0 a1 hrng (av (by assumption) he_a0 he_a1) ho0 ho1 hcm⟩
   exact cT (rV Tryz.results49 rfl bF)
  have hcm:yl l a0 a1:=.inr (.inl ⟨htA,hb26 (by simpa using hg227)⟩)
  refine cF (cE (fun hq241=>?_) (fun hq241=>?_))
  refine cT (cT ?_)
  exact rV Tryz.results49 rfl ⟨_,rfl,fun _=>.cmp x a0 a1 hrng (av (by assumption) he_a0 he_a1) ho0 ho1 hcm⟩
  refine cE (fun hq246=>?_) (fun hq246=>?_)
  exact cT (rV Tryz.results49 rfl ⟨_,rfl,fun _=>.cmp x a0 a1 hrng (av (by assumption) he_a0 he_a1) ho0 ho1 hcm⟩)
  refine cE (fun hq251=>?_) (fun hq251=>?_)
  ·exact rV Tryz.results49 rfl ⟨_,rfl,fun _=>.cmp x a0 a1 hrng (av (by assumption) he_a0 he_a1) ho0 ho1 hcm⟩
  exact rV Tryz.results49 rfl ⟨_,rfl,fun _=>.cmp x a0 a1 hrng (av (by assumption) he_a0 he_a1) ho0 ho1 hcm⟩
 have hq18:¬ ((x.op_:Int)=(18:Int)):=by simpa using hc18
 refine cE (fun hq18=>?_) (fun hq18=>?_)
 refine LenG.of (cE (fun hq25=>?_) (fun hq25=>?_))
 ·refine IdxG.of (j:=0) (by omega) (OpG.lk (aq d8 rfl (cj (hx.args_.2 _ (Ze _)))) ?_)
  refine ⟨by omega,ArgG.mk (ih (x.args_[0]) (Ze _) (dp - 1) (by omega)) (show ay [.agg (rwA x.args_[0]),.tree 5 (l.map vA),.v (.int .i64 (dp - 1))]=true by simp [ay,AV.pureB,cm (hx.args_.2 _ (Ze _))]) ?_⟩
  rintro _ ⟨b28,rfl,hb28⟩
  refine cB (fun hg35=>?_) (fun hg35=>?_)
  ·refine IdxG.of (j:=1) (by omega) (OpG.lk (aq d8 rfl (cj (hx.args_.2 _ (Ze _)))) ?_)
   refine ⟨by omega,ArgG.mk (ih (x.args_[1]) (Ze _) (dp - 1) (by omega)) (show ay [.agg (rwA x.args_[1]),.tree 5 (l.map vA),.v (.int .i64 (dp - 1))]=true by simp [ay,AV.pureB,cm (hx.args_.2 _ (Ze _))]) ?_⟩
   rintro _ ⟨b29,rfl,hb29⟩
   exact rV Tryz.results49 rfl ⟨_,rfl,fun hr=>.bin x (by omega) (by omega) (all2 (by assumption) (hb28 (by assumption)) (hb29 hr))⟩
  exact rV Tryz.results49 rfl bF
 ·exact cF (rV Tryz.results49 rfl bF)
 refine cE (fun hq45=>?_) (fun hq45=>?_)
 refine LenG.of (cE (fun hq51=>?_) (fun hq51=>?_))
 ·refine IdxG.of (j:=0) (by omega) (OpG.lk (aq d8 rfl (cj (hx.args_.2 _ (Ze _)))) ?_)
  refine ⟨by omega,ArgG.mk (ih (x.args_[0]) (Ze _) (dp - 1) (by omega)) (show ay [.agg (rwA x.args_[0]),.tree 5 (l.map vA),.v (.int .i64 (dp - 1))]=true by simp [ay,AV.pureB,cm (hx.args_.2 _ (Ze _))]) ?_⟩
  rintro _ ⟨b30,rfl,hb30⟩
  exact rV Tryz.results49 rfl ⟨_,rfl,fun hr=>.not x (by assumption) (by omega) (Wh (by assumption) (hb30 hr))⟩
 ·exact rV Tryz.results49 rfl bF
 refine cE (fun hq61=>?_) (fun hq61=>?_)
 refine LenG.of (cE (fun hq67=>?_) (fun hq67=>?_))
 ·refine IdxG.of (j:=0) (by omega) (OpG.lk (aq d8 rfl (cj (hx.args_.2 _ (Ze _)))) ?_)
  refine ArgG.mk (fu (x.args_[0]) (hx.args_.2 _ (Ze _)) l hl 11 (by omega) (hshc.2 _ (Ze _))) (show ay [.agg (rwA x.args_[0]),.tree 5 (l.map vA)]=true by simp [ay,AV.pureB,cm (hx.args_.2 _ (Ze _))]) ?_
  rintro _ ⟨b31,rfl,hb31⟩
  exact rV Tryz.results49 rfl ⟨_,rfl,fun hr=>.isn x (by assumption) (by omega) (Wh (by assumption) (hb31 hr))⟩
 ·exact rV Tryz.results49 rfl bF
 refine cE (fun hq75=>?_) (fun hq75=>?_)
 ·refine LenG.of (cE (fun hq81=>?_) (fun hq81=>?_))
  ·obtain ⟨a0,he_a0,ha0⟩:=n0 hx 0 (by omega)
   obtain ⟨a1,he_a1,ha1⟩:=n0 hx 1 (by omega)
   have hs_a0:IsSh 11 (exA a0):=he_a0 ▸ hshc.2 _ (Ze _)
   have hs_a1:IsSh 11 (exA a1):=he_a1 ▸ hshc.2 _ (Ze _)
   refine aw (j:=1) (by omega) he_a1 (LenG.of ?_)
   refine cE (fun hq90=>?_) (fun hq90=>?_)
   ·refine aw (j:=0) (by omega) he_a0 (ArgG.mk (fh (exA a0) (g9 ha0) l hl) rfl ?_)
    rintro _ ⟨b32,rfl,hb32,hbn32⟩
    refine cB (fun hg97=>?_) (fun hg97=>?_)
    ·refine cT (aw (j:=0) (by omega) he_a0 ?_)
     refine ArgG.mk (fu (exA a0) (g9 ha0) l hl 11 (by omega) hs_a0) rfl ?_
     rintro _ ⟨b33,rfl,hb33⟩
     refine cB (fun hg113=>?_) (fun hg113=>?_)
     ·have hoL:OpE l 11 (exA a0):=hb33 (by simpa using hg113)
      refine aw (j:=0) (by omega) he_a0 (cN (fun hq121=>?_) (fun hq121=>?_))
      ·refine aw (j:=1) (by omega) he_a1 (cE (fun hq129=>?_) (fun hq129=>?_))
       ·refine aw (j:=1) (by omega) he_a1 (cE (fun hq138=>?_) (fun hq138=>?_))
        ·refine aw (j:=1) (by omega) he_a1 (ArgG.mk (fb a1.value_ ha1.value_) rfl ?_)
         rintro _ ⟨b34,rfl,hb34,hbc34⟩
         refine cB (fun hg146=>?_) (fun hg146=>?_)
         ·refine aw (j:=0) (by omega) he_a0 (cE (fun hq153=>?_) (fun hq153=>?_))
          ·exact rV Tryz.results49 rfl ⟨_,rfl,fun _=>.like x a0 a1 (by assumption) (av (by assumption) he_a0 he_a1) ⟨by assumption,by assumption⟩ hoL⟩
          exact aw (j:=0) (by omega) he_a0 (rV Tryz.results49 rfl ⟨_,rfl,fun _=>.like x a0 a1 (by assumption) (av (by assumption) he_a0 he_a1) ⟨by assumption,by assumption⟩ hoL⟩)
         exact rV Tryz.results49 rfl bF
        exact cF (rV Tryz.results49 rfl bF)
       refine cF (cF ?_)
       exact rV Tryz.results49 rfl bF
      refine cF (cF ?_)
      exact cF (rV Tryz.results49 rfl bF)
     refine cF (cF ?_)
     refine cF (cF ?_)
     exact rV Tryz.results49 rfl bF
    refine aw (j:=0) (by omega) he_a0 (ArgG.mk (i6 (exA a0) (g9 ha0)) rfl ?_)
    rintro _ ⟨b35,rfl,hb35⟩
    refine cB (fun hg105=>?_) (fun hg105=>?_)
    ·refine aw (j:=0) (by omega) he_a0 (ArgG.mk (fu (exA a0) (g9 ha0) l hl 11 (by omega) hs_a0) rfl ?_)
     rintro _ ⟨b36,rfl,hb36⟩
     refine cB (fun hg113=>?_) (fun hg113=>?_)
     ·have hoL:OpE l 11 (exA a0):=hb36 (by simpa using hg113)
      refine aw (j:=0) (by omega) he_a0 (cN (fun hq121=>?_) (fun hq121=>?_))
      ·refine aw (j:=1) (by omega) he_a1 (cE (fun hq129=>?_) (fun hq129=>?_))
       ·refine aw (j:=1) (by omega) he_a1 (cE (fun hq138=>?_) (fun hq138=>?_))
        ·refine aw (j:=1) (by omega) he_a1 (ArgG.mk (fb a1.value_ ha1.value_) rfl ?_)
         rintro _ ⟨b37,rfl,hb37,hbc37⟩
         refine cB (fun hg146=>?_) (fun hg146=>?_)
         ·refine aw (j:=0) (by omega) he_a0 (cE (fun hq153=>?_) (fun hq153=>?_))
          ·exact rV Tryz.results49 rfl ⟨_,rfl,fun _=>.like x a0 a1 (by assumption) (av (by assumption) he_a0 he_a1) ⟨by assumption,by assumption⟩ hoL⟩
          exact aw (j:=0) (by omega) he_a0 (rV Tryz.results49 rfl ⟨_,rfl,fun _=>.like x a0 a1 (by assumption) (av (by assumption) he_a0 he_a1) ⟨by assumption,by assumption⟩ hoL⟩)
         exact rV Tryz.results49 rfl bF
        exact cF (rV Tryz.results49 rfl bF)
       refine cF (cF ?_)
       exact rV Tryz.results49 rfl bF
      refine cF (cF ?_)
      exact cF (rV Tryz.results49 rfl bF)
     refine cF (cF ?_)
     refine cF (cF ?_)
     exact rV Tryz.results49 rfl bF
    refine cF (cF ?_)
    refine cF (cF ?_)
    exact cF (rV Tryz.results49 rfl bF)
   refine cF (cF ?_)
   refine cF (cF ?_)
   refine cF (cF ?_)
   exact rV Tryz.results49 rfl bF
  refine cF (cF ?_)
  refine cF (cF ?_)
  refine cF (cF ?_)
  exact cF (rV Tryz.results49 rfl bF)
 refine ArgG.mk (He x.op_) rfl ?_
 rintro _ ⟨p38,rfl,hp38⟩
 refine cD (fun hq166=>?_) (fun hq166=>?_)
 ·refine cT (cT ?_)
  exact cT (rV Tryz.results49 rfl bF)
 have hrng:=hp38 (by omega)
 refine LenG.of (cN (fun hq172=>?_) (fun hq172=>?_))
 ·refine cT (cT ?_)
  exact rV Tryz.results49 rfl bF
 obtain ⟨a0,he_a0,ha0⟩:=n0 hx 0 (by omega)
 obtain ⟨a1,he_a1,ha1⟩:=n0 hx 1 (by omega)
 have hs_a0:IsSh 11 (exA a0):=he_a0 ▸ hshc.2 _ (Ze _)
 have hs_a1:IsSh 11 (exA a1):=he_a1 ▸ hshc.2 _ (Ze _)
 refine aw (j:=0) (by omega) he_a0 (ArgG.mk (fu (exA a0) (g9 ha0) l hl 11 (by omega) hs_a0) rfl ?_)
 rintro _ ⟨b39,rfl,hb39⟩
 refine cB (fun hg181=>?_) (fun hg181=>?_)
 ·exact cT (rV Tryz.results49 rfl bF)
 have ho0:OpE l 11 (exA a0):=hb39 (by simpa using hg181)
 refine aw (j:=1) (by omega) he_a1 (ArgG.mk (fu (exA a1) (g9 ha1) l hl 11 (by omega) hs_a1) rfl ?_)
 rintro _ ⟨b40,rfl,hb40⟩
 refine cB (fun hc189=>?_) (fun hc189=>?_)
 ·exact rV Tryz.results49 rfl bF
 have ho1:OpE l 11 (exA a1):=hb40 (by simpa using hc189)
 refine aw (j:=0) (by omega) he_a0 (aw (j:=1) (by omega) he_a1 ?_)
 refine ⟨by kernel_rfl,ArgG.mk (fh (exA a0) (g9 ha0) l hl) rfl ?_⟩
 rintro _ ⟨b41,rfl,hb41,hbn41⟩
 refine cB (fun hg202=>?_) (fun hg202=>?_)
 ·have hnA:¬ TextE l (exA a0):=hbn41 (by simpa using hg202)
  refine ArgG.mk (fh (exA a1) (g9 ha1) l hl) rfl ?_
  rintro _ ⟨b42,rfl,hb42,hbn42⟩
  refine cB (fun hc207=>?_) (fun hc207=>?_)
  ·have hcm:yl l a0 a1:=.inl ⟨hnA,hbn42 (by simpa using hc207)⟩
   exact rV Tryz.results49 rfl ⟨_,rfl,fun _=>.cmp x a0 a1 hrng (av (by assumption) he_a0 he_a1) ho0 ho1 hcm⟩
  refine ArgG.mk (fh (exA a0) (g9 ha0) l hl) rfl ?_
  rintro _ ⟨b43,rfl,hb43,hbn43⟩
  refine cB (fun hg212=>?_) (fun hg212=>?_)
  ·refine cE (fun hq216=>?_) (fun hq216=>?_)
   ·refine ArgG.mk (i6 (exA a0) (g9 ha0)) rfl ?_
    rintro _ ⟨b44,rfl,hb44⟩
    refine cB (fun hg222=>?_) (fun hg222=>?_)
    ·exact cT (rV Tryz.results49 rfl bF)
    have hcm:yl l a0 a1:=.inr (.inr (.inl ⟨hq216,hb44.1 (by simpa using hg222)⟩))
    refine ArgG.mk (fh (exA a1) (g9 ha1) l hl) rfl ?_
    rintro _ ⟨b45,rfl,hb45,hbn45⟩
    refine cB (fun hg227=>?_) (fun hg227=>?_)
    ·refine cE (fun hq231=>?_) (fun hq231=>?_)
     ·refine ArgG.mk (i6 (exA a1) (g9 ha1)) rfl ?_
      rintro _ ⟨b46,rfl,hb46⟩
      refine cB (fun hc237=>?_) (fun hc237=>?_)
      ·exact rV Tryz.results49 rfl bF
      have hcm:yl l a0 a1:=.inr (.inr (.inr ⟨hq231,hb46.1 (by simpa using hc237)⟩))
      refine cE (fun hq241=>?_) (fun hq241=>?_)
      refine cT (cT ?_)
      exact rV Tryz.results49 rfl ⟨_,rfl,fun _=>.cmp x a0 a1 hrng (av (by assumption) he_a0 he_a1) ho0 ho1 hcm⟩
      refine cE (fun hq246=>?_) (fun hq246=>?_)
      exact cT (rV Tryz.results49 rfl ⟨_,rfl,fun _=>.cmp x a0 a1 hrng (av (by assumption) he_a0 he_a1) ho0 ho1 hcm⟩)
      refine cE (fun hq251=>?_) (fun hq251=>?_)
      ·exact rV Tryz.results49 rfl ⟨_,rfl,fun _=>.cmp x a0 a1 hrng (av (by assumption) he_a0 he_a1) ho0 ho1 hcm⟩
      exact rV Tryz.results49 rfl ⟨_,rfl,fun _=>.cmp x a0 a1 hrng (av (by assumption) he_a0 he_a1) ho0 ho1 hcm⟩
     exact cT (rV Tryz.results49 rfl bF)
    skip
    refine cF (cE (fun hq241=>?_) (fun hq241=>?_))
    refine cT (cT ?_)
    exact rV Tryz.results49 rfl ⟨_,rfl,fun _=>.cmp x a0 a1 hrng (av (by assumption) he_a0 he_a1) ho0 ho1 hcm⟩
    refine cE (fun hq246=>?_) (fun hq246=>?_)
    exact cT (rV Tryz.results49 rfl ⟨_,rfl,fun _=>.cmp x a0 a1 hrng (av (by assumption) he_a0 he_a1) ho0 ho1 hcm⟩)
    refine cE (fun hq251=>?_) (fun hq251=>?_)
    ·exact rV Tryz.results49 rfl ⟨_,rfl,fun _=>.cmp x a0 a1 hrng (av (by assumption) he_a0 he_a1) ho0 ho1 hcm⟩
    exact rV Tryz.results49 rfl ⟨_,rfl,fun _=>.cmp x a0 a1 hrng (av (by assumption) he_a0 he_a1) ho0 ho1 hcm⟩
   refine cT (cT ?_)
   exact rV Tryz.results49 rfl bF
  have htA:TextE l (exA a0):=hb43 (by simpa using hg212)
  refine cF (ArgG.mk (fh (exA a1) (g9 ha1) l hl) rfl ?_)
  rintro _ ⟨b47,rfl,hb47,hbn47⟩
  refine cB (fun hg227=>?_) (fun hg227=>?_)
  ·refine cE (fun hq231=>?_) (fun hq231=>?_)
   ·refine ArgG.mk (i6 (exA a1) (g9 ha1)) rfl ?_
    rintro _ ⟨b48,rfl,hb48⟩
    refine cB (fun hc237=>?_) (fun hc237=>?_)
    ·exact rV Tryz.results49 rfl bF
    have hcm:yl l a0 a1:=.inr (.inr (.inr ⟨hq231,hb48.1 (by simpa using hc237)⟩))
    refine cE (fun hq241=>?_) (fun hq241=>?_)
    refine cT (cT ?_)
    exact rV Tryz.results49 rfl ⟨_,rfl,fun _=>.cmp x a0 a1 hrng (av (by assumption) he_a0 he_a1) ho0 ho1 hcm⟩
    refine cE (fun hq246=>?_) (fun hq246=>?_)
    exact cT (rV Tryz.results49 rfl ⟨_,rfl,fun _=>.cmp x a0 a1 hrng (av (by assumption) he_a0 he_a1) ho0 ho1 hcm⟩)
    refine cE (fun hq251=>?_) (fun hq251=>?_)
    ·exact rV Tryz.results49 rfl ⟨_,rfl,fun _=>.cmp x a0 a1 hrng (av (by assumption) he_a0 he_a1) ho0 ho1 hcm⟩
    exact rV Tryz.results49 rfl ⟨_,rfl,fun _=>.cmp x a0 a1 hrng (av (by assumption) he_a0 he_a1) ho0 ho1 hcm⟩
   exact cT (rV Tryz.results49 rfl bF)
  have hcm:yl l a0 a1:=.inr (.inl ⟨htA,hb47 (by simpa using hg227)⟩)
  refine cF (cE (fun hq241=>?_) (fun hq241=>?_))
  refine cT (cT ?_)
  exact rV Tryz.results49 rfl ⟨_,rfl,fun _=>.cmp x a0 a1 hrng (av (by assumption) he_a0 he_a1) ho0 ho1 hcm⟩
  refine cE (fun hq246=>?_) (fun hq246=>?_)
  exact cT (rV Tryz.results49 rfl ⟨_,rfl,fun _=>.cmp x a0 a1 hrng (av (by assumption) he_a0 he_a1) ho0 ho1 hcm⟩)
  refine cE (fun hq251=>?_) (fun hq251=>?_)
  ·exact rV Tryz.results49 rfl ⟨_,rfl,fun _=>.cmp x a0 a1 hrng (av (by assumption) he_a0 he_a1) ho0 ho1 hcm⟩
  exact rV Tryz.results49 rfl ⟨_,rfl,fun _=>.cmp x a0 a1 hrng (av (by assumption) he_a0 he_a1) ho0 ho1 hcm⟩
 refine cF (ArgG.mk (fh (exA a0) (g9 ha0) l hl) rfl ?_)
 rintro _ ⟨b49,rfl,hb49,hbn49⟩
 refine cB (fun hg212=>?_) (fun hg212=>?_)
 ·refine cE (fun hq216=>?_) (fun hq216=>?_)
  ·refine ArgG.mk (i6 (exA a0) (g9 ha0)) rfl ?_
   rintro _ ⟨b50,rfl,hb50⟩
   refine cB (fun hg222=>?_) (fun hg222=>?_)
   ·exact cT (rV Tryz.results49 rfl bF)
   have hcm:yl l a0 a1:=.inr (.inr (.inl ⟨hq216,hb50.1 (by simpa using hg222)⟩))
   refine ArgG.mk (fh (exA a1) (g9 ha1) l hl) rfl ?_
   rintro _ ⟨b51,rfl,hb51,hbn51⟩
   refine cB (fun hg227=>?_) (fun hg227=>?_)
   ·refine cE (fun hq231=>?_) (fun hq231=>?_)
    ·refine ArgG.mk (i6 (exA a1) (g9 ha1)) rfl ?_
     rintro _ ⟨b52,rfl,hb52⟩
     refine cB (fun hc237=>?_) (fun hc237=>?_)
     ·exact rV Tryz.results49 rfl bF
     have hcm:yl l a0 a1:=.inr (.inr (.inr ⟨hq231,hb52.1 (by simpa using hc237)⟩))
     refine cE (fun hq241=>?_) (fun hq241=>?_)
     refine cT (cT ?_)
     exact rV Tryz.results49 rfl ⟨_,rfl,fun _=>.cmp x a0 a1 hrng (av (by assumption) he_a0 he_a1) ho0 ho1 hcm⟩
     refine cE (fun hq246=>?_) (fun hq246=>?_)
     exact cT (rV Tryz.results49 rfl ⟨_,rfl,fun _=>.cmp x a0 a1 hrng (av (by assumption) he_a0 he_a1) ho0 ho1 hcm⟩)
     refine cE (fun hq251=>?_) (fun hq251=>?_)
     ·exact rV Tryz.results49 rfl ⟨_,rfl,fun _=>.cmp x a0 a1 hrng (av (by assumption) he_a0 he_a1) ho0 ho1 hcm⟩
     exact rV Tryz.results49 rfl ⟨_,rfl,fun _=>.cmp x a0 a1 hrng (av (by assumption) he_a0 he_a1) ho0 ho1 hcm⟩
    exact cT (rV Tryz.results49 rfl bF)
   skip
   refine cF (cE (fun hq241=>?_) (fun hq241=>?_))
   refine cT (cT ?_)
   exact rV Tryz.results49 rfl ⟨_,rfl,fun _=>.cmp x a0 a1 hrng (av (by assumption) he_a0 he_a1) ho0 ho1 hcm⟩
   refine cE (fun hq246=>?_) (fun hq246=>?_)
   exact cT (rV Tryz.results49 rfl ⟨_,rfl,fun _=>.cmp x a0 a1 hrng (av (by assumption) he_a0 he_a1) ho0 ho1 hcm⟩)
   refine cE (fun hq251=>?_) (fun hq251=>?_)
   ·exact rV Tryz.results49 rfl ⟨_,rfl,fun _=>.cmp x a0 a1 hrng (av (by assumption) he_a0 he_a1) ho0 ho1 hcm⟩
   exact rV Tryz.results49 rfl ⟨_,rfl,fun _=>.cmp x a0 a1 hrng (av (by assumption) he_a0 he_a1) ho0 ho1 hcm⟩
  refine cT (cT ?_)
  exact rV Tryz.results49 rfl bF
 have htA:TextE l (exA a0):=hb49 (by simpa using hg212)
 refine cF (ArgG.mk (fh (exA a1) (g9 ha1) l hl) rfl ?_)
 rintro _ ⟨b53,rfl,hb53,hbn53⟩
 refine cB (fun hg227=>?_) (fun hg227=>?_)
 ·refine cE (fun hq231=>?_) (fun hq231=>?_)
  ·refine ArgG.mk (i6 (exA a1) (g9 ha1)) rfl ?_
   rintro _ ⟨b54,rfl,hb54⟩
   refine cB (fun hc237=>?_) (fun hc237=>?_)
   ·exact rV Tryz.results49 rfl bF
   have hcm:yl l a0 a1:=.inr (.inr (.inr ⟨hq231,hb54.1 (by simpa using hc237)⟩))
   refine cE (fun hq241=>?_) (fun hq241=>?_)
   refine cT (cT ?_)
   exact rV Tryz.results49 rfl ⟨_,rfl,fun _=>.cmp x a0 a1 hrng (av (by assumption) he_a0 he_a1) ho0 ho1 hcm⟩
   refine cE (fun hq246=>?_) (fun hq246=>?_)
   exact cT (rV Tryz.results49 rfl ⟨_,rfl,fun _=>.cmp x a0 a1 hrng (av (by assumption) he_a0 he_a1) ho0 ho1 hcm⟩)
   refine cE (fun hq251=>?_) (fun hq251=>?_)
   ·exact rV Tryz.results49 rfl ⟨_,rfl,fun _=>.cmp x a0 a1 hrng (av (by assumption) he_a0 he_a1) ho0 ho1 hcm⟩
   exact rV Tryz.results49 rfl ⟨_,rfl,fun _=>.cmp x a0 a1 hrng (av (by assumption) he_a0 he_a1) ho0 ho1 hcm⟩
  exact cT (rV Tryz.results49 rfl bF)
 have hcm:yl l a0 a1:=.inr (.inl ⟨htA,hb53 (by simpa using hg227)⟩)
 refine cF (cE (fun hq241=>?_) (fun hq241=>?_))
 refine cT (cT ?_)
 exact rV Tryz.results49 rfl ⟨_,rfl,fun _=>.cmp x a0 a1 hrng (av (by assumption) he_a0 he_a1) ho0 ho1 hcm⟩
 refine cE (fun hq246=>?_) (fun hq246=>?_)
 exact cT (rV Tryz.results49 rfl ⟨_,rfl,fun _=>.cmp x a0 a1 hrng (av (by assumption) he_a0 he_a1) ho0 ho1 hcm⟩)
 refine cE (fun hq251=>?_) (fun hq251=>?_)
 ·exact rV Tryz.results49 rfl ⟨_,rfl,fun _=>.cmp x a0 a1 hrng (av (by assumption) he_a0 he_a1) ho0 ho1 hcm⟩
 exact rV Tryz.results49 rfl ⟨_,rfl,fun _=>.cmp x a0 a1 hrng (av (by assumption) he_a0 he_a1) ho0 ho1 hcm⟩
theorem Mr (r:List AV) (hr:IsEx r) (l:List PVar) (hl:bw l (fun y=>True)):∀ d:Int,(0<=d/\d<=1000)->PRet Tryz.prog 49 [.agg (rwA r),.tree 5 (l.map vA),.v (.int .i64 d)] (fun q=>∃ b:Bool,q=.v (.bool b)/\(b=true->CondE l r)):=IsEx.ind (M:=fun r=>∀ d:Int,(0<=d/\d<=1000)->PRet Tryz.prog 49 [.agg (rwA r),.tree 5 (l.map vA),.v (.int .i64 d)] (fun q=>∃ b:Bool,q=.v (.bool b)/\(b=true->CondE l r))) (fun x hx ih d hd=>Mq x hx l hl d hd ih) hr
theorem rf:RowF vA 5:=⟨fun _=>rfl,fun _=>rfl,fun _ _=>rfl,fun _ _=>rfl,fun _ _=>rfl,fun _=>rfl⟩
/-- The variable of a column. -/
def wz (c:GCol):PVar:=⟨c.type_,c.low_,c.high_,c.max_,!c.notNull_⟩
def ap (t:GTab):List PVar:=t.columns_.map wz
theorem yq {t:GTab} {k:Nat} (h:k < t.columns_.length):(ap t).take (k+1)=(ap t).take k++[wz t.columns_[k]]:=by
 rw [List.take_succ_eq_append_getElem (by simpa [ap] using h)]; simp [ap]
theorem Cg {t:GTab} {k:Nat} (h:¬ k < t.columns_.length):(ap t).take k=ap t:=List.take_of_length_le (by simp [ap]; omega)
/-- A value that fits a variable. -/
def FitV (v:GVal) (x:PVar):Prop:=(v.kind_=0/\v.int_=0)\/(v.kind_=1/\x.t=1/\x.lo<=v.int_/\v.int_<=x.hi)\/(v.kind_=2/\x.t=2/\v.int_=0/\v.text_.size<=16)
/-- Does a value fit a variable? -/
def na (v:GVal) (x:PVar):Bool:=if vo v=true then (if v.kind_=0 then x.nl else if v.kind_=1 then (x.t==1&&decide (v.int_≥x.lo)&&decide (v.int_<=x.hi)) else (x.t==2&&decide ((v.text_.size:Int)<=x.mx))) else false
theorem I0 {v:GVal} {x:PVar} (h:na v x=true):FitV v x:=by
 unfold na at h
 split at h
 ·rename_i hv
  rcases Gf hv with g | g | g
  ·exact .inl g
  ·rw [if_neg (by omega),if_pos g] at h
   simp at h
   exact .inr (.inl ⟨g,h.1.1,by omega,by omega⟩)
  rw [if_neg (by omega),if_neg (by omega)] at h
  simp at h
  exact .inr (.inr ⟨g.1,h.1,g.2⟩)
 cases h
theorem Ra {v:GVal} {x:PVar} (h:v.kind_=0->x.nl=true):na v { x with nl:=true }=na v x:=by
 unfold na
 by_cases h0:v.kind_=0
 ·simp only [h0,if_true,h h0]
 simp only [h0,if_false]
theorem Q9 {v:GVal} {x:PVar} (h:v.kind_=0) (h2:x.nl=false):na v x=false:=by
 unfold na
 rw [if_pos h,h2]; split <;> rfl
structure KE where
 k:Nat
 e:Int
/-- Where the look at a row ju. -/
def FtI (t:GTab) (r:List GVal) (s:KE):Prop:=s.e=0↔∀ j (hl:j < r.length) (h2:j < t.columns_.length),j < s.k->na r[j] (wz t.columns_[j])=true
section
variable {t:GTab} {r:List GVal} {s:KE}
theorem Il (h:FtI t r s) (h2:s.k < t.columns_.length) (hk:s.k < r.length) (hf:na r[s.k] (wz t.columns_[s.k])=true):FtI t r ⟨s.k+1,s.e⟩:=⟨fun he j hl h3 hj=>by
 rcases Nat.lt_succ_iff_lt_or_eq.1 hj with hj | rfl
 ·exact h.1 he j hl h3 hj
 exact hf,fun g=>h.2 fun j hl h3 hj=>g j hl h3 (by show j < s.k+1; omega)⟩
theorem Of {e:Int} (h2:s.k < t.columns_.length) (hk:s.k < r.length) (hf:na r[s.k] (wz t.columns_[s.k])=false) (he:e≠0):FtI t r ⟨s.k+1,e⟩:=⟨fun h=>absurd h he,fun g=>by
 have:=g s.k hk h2 (Nat.lt_succ_self _)
 rw [hf] at this; cases this⟩
end
theorem by87:(Tryz.prog.info? 87).map (·.bytes)=some 40:=by kernel_rfl
theorem zr87:ax Tryz.prog 87=some (.agg #[.int .i64 0,.int .i64 0,.int .i64 0,.int .i64 0,.bool false]):=by kernel_rfl
theorem yd (x:GEx) (hx:FitEx x) (l:List PVar) (hl:bw l (fun y=>True)):PRet Tryz.prog 22 [.agg (exA x),.tree 5 (l.map vA)] (fun r=>∃ b:Bool,r=.v (.bool b)/\(b=true->x.op_=0\/CondE l (exA x))):=by
 refine PRet.of_vc ao [] [] Tryz.func22 rfl Tryz.ntmps22 rfl (by kernel_rfl) (ArgG.mk (Rk x hx) rfl ?_)
 rintro _ ⟨b0,rfl,hb0⟩
 refine cB (fun hg8=>?_) (fun hg8=>?_)
 ·exact rV Tryz.results22 rfl ⟨_,rfl,fun _=>.inl (hb0 (by assumption))⟩
 refine ArgG.mk (Mr (exA x) (g9 hx) l hl 6 (by omega)) rfl ?_
 rintro _ ⟨b1,rfl,hb1⟩
 exact rV Tryz.results22 rfl ⟨_,rfl,fun hr=>.inr (hb1 hr)⟩
theorem o7 (t:GTab) (ht:FitTab t) (hcl:t.columns_.length<=1000):PRet Tryz.prog 8 [.agg (ef t)] (fun r=>r=.tree 5 ((ap t).map vA)):=by
 refine PRet.of_vc ao [] [] Tryz.func8 rfl Tryz.ntmps8 rfl (by kernel_rfl) (LpG.via (fun _ h=>bq 3 5 rfl 2 rfl h) ?_)
 refine LpG.on (fun k0:KL PVar=>(⟨fL [(1,.ptr 0 0 0),(3,.sl 1 k0.L.length 0 k0.L.length),(4,.v (.int .i64 ((k0.k:Nat):Int)))],bl [(0,⟨0,ef t,0,false⟩),(1,⟨k0.L.length,rF vA k0.L,5,Nat.beq k0.L.length 0⟩)],2⟩:St)) (fun k0=>(t.columns_.length - k0.k)) (fun k0=>(k0.k<=t.columns_.length/\k0.L.length=k0.k/\(∀ x∈k0.L,True)/\k0.L=(ap t).take k0.k)) (⟨0,[]⟩:KL PVar) (cO (.cons rfl rfl (.cons (by rfl) rfl (.cons rfl rfl .nil))) (.cons rfl rfl rfl (.cons (by rfl) rfl (ag rf _ _) .nil))) ⟨Nat.zero_le _,rfl,by simp,rfl⟩ ?_
 rintro k0 hinv
 have hgr_k0:t.columns_.length<=140737488355328:=ht.columns_.1
 obtain ⟨hle_k0,hL_k0,hf_k0,hi_k0⟩:=hinv
 refine LenG.of (cL (fun hlt10=>?_) (fun hge10=>?_))
 ·refine IdxG.of (by assumption) (OpG.mk _ _ _ 4 (aj rf (a:=(wz t.columns_[k0.k])) Tryz.underlying52 Nq zr87 by87 rfl rfl rfl (az rfl rfl rfl rfl) rfl (by omega) (by omega) (by unfold TV; omega)) rfl rfl ?_)
  refine ⟨by omega,⟨(⟨k0.k+1,k0.L++[(wz t.columns_[k0.k])]⟩:KL PVar),(by show t.columns_.length - (k0.k+1) < t.columns_.length - k0.k; omega),(cO (.cons rfl rfl (.cons (by (rw [Zi]; rfl)) rfl (.cons rfl rfl .nil))) (.cons rfl rfl rfl (.cons (by (rw [Zi]; rfl)) rfl (ag rf _ _) .nil))),?_⟩⟩
  refine ⟨by show k0.k+1<=_; omega,by show (_++[_]).length=k0.k+1; rw [Zi,hL_k0]; rfl,fun _ _=>trivial,?_⟩
  show _++[_]=(ap t).take (k0.k+1); rw [yq hlt10,hi_k0]
 refine ⟨.inr rfl,_,Kh.tmp Tryz.results8 ⟨[1],FzP.rows rf (Zj.2 rfl) rfl⟩,?_⟩
 show AV.tree 5 (k0.L.map vA)=_; rw [hi_k0,Cg hge10]
theorem Dr (v:GVal) (hv:FitVal v) (x:PVar):PRet Tryz.prog 73 [.agg (gvA v),.agg (vA x)] (fun r=>r=.v (.bool (na v x))):=by
 refine PRet.of_vc ao [] [] Tryz.func73 rfl Tryz.ntmps73 rfl (by kernel_rfl) ?_
 refine ArgG.mk (vm v hv) rfl ?_
 rintro _ rfl
 refine cB (fun hc7=>?_) (fun hc7=>?_)
 ·refine rV Tryz.results73 rfl ?_
  refine ba ?_
  unfold na
  (simp_all; done)
 refine cB (fun hc10=>?_) (fun hc10=>?_)
 ·have hq10:(v.kind_:Int)=(0:Int):=by simpa using hc10
  refine rV Tryz.results73 rfl ?_
  refine ba ?_
  unfold na
  (simp_all; done)
 have hq10:¬ ((v.kind_:Int)=(0:Int)):=by simpa using hc10
 refine cB (fun hc14=>?_) (fun hc14=>?_)
 ·have hq14:(v.kind_:Int)=(1:Int):=by simpa using hc14
  refine cB (fun hg19=>?_) (fun hg19=>?_)
  ·have hq19:(x.t:Int)=(1:Int):=by simpa using hg19
   refine cB (fun hg26=>?_) (fun hg26=>?_)
   ·have hq26:(v.int_:Int)≥(x.lo:Int):=of_decide_eq_true hg26
    refine rV Tryz.results73 rfl ?_
    refine ba ?_
    unfold na
    (simp_all; done)
   have hq26:¬ ((v.int_:Int)≥(x.lo:Int)):=of_decide_eq_false hg26
   refine rV Tryz.results73 rfl ?_
   refine ba ?_
   unfold na
   (simp_all; omega)
  have hq19:¬ ((x.t:Int)=(1:Int)):=by simpa using hg19
  refine cF (rV Tryz.results73 rfl ?_)
  refine ba ?_
  unfold na
  (simp_all; done)
 have hq14:¬ ((v.kind_:Int)=(1:Int)):=by simpa using hc14
 refine cB (fun hg36=>?_) (fun hg36=>?_)
 ·have hq36:(x.t:Int)=(2:Int):=by simpa using hg36
  refine rV Tryz.results73 rfl ?_
  refine ba ?_
  unfold na
  (simp_all; done)
 have hq36:¬ ((x.t:Int)=(2:Int)):=by simpa using hg36
 refine rV Tryz.results73 rfl ?_
 refine ba ?_
 unfold na
 (simp_all; done)
end Go.Proofs.YthpangmpihkniaaGreatDoor
