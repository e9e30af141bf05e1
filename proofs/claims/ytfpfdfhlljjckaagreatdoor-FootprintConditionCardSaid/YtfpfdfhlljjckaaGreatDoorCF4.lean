/- Texts of the claim. -/
import Derived.Shelf.SlicesE.Clone
import Derived.Shelf.SortM.SortNone
import Derived.Test.YtfpfdfhlljjckaaGreatDoorCF3
import Derived.Test.YtfpfdfhlljjckaaGreatDoorCQ2
import Derived.Test.YtfpfdfhlljjckaaGreatDoorCF2
import Derived.Test.YtfpfdfhlljjckaaGreatDoorCShelf
import Derived.Test.YtfpfdfhlljjckaaGreatDoorCQ1
set_option linter.all false
namespace Go.Proofs.YtfpfdfhlljjckaaGreatDoor
open Tryz
set_option maxRecDepth 1000000
set_option maxHeartbeats 0
set_option linter.unusedVariables false
set_option linter.unusedSimpArgs false
open Go.RowKit
variable{p:GPart}{t u x:GTm}{a b c e n:Int}{s:KS}{es:List (List AV)}{r:List AV}{l:List Int}{fp:List Nat}{i k v:Nat}{g:Nat->Nat}{o:Option GTm}{α:Type}
def flE(hb:1<=b):(a.tmod b<0->a.tdiv b-1=a.fdiv b)/\(¬a.tmod b<0->a.tdiv b=a.fdiv b):=by have hf:=uu (a:=a) hb;have h1:=Int.tmod_add_mul_tdiv a b;have h4:b*a.tdiv b=a.tdiv b*b:=Int.mul_comm _ _;refine⟨fun h=>by rw[<-hf,azg (by omega)],fun h=>?_⟩;rw[<-hf,azf (by omega)]
def by30:(prog.info? 30).map (·.bytes)=some 32:=by kernel_rfl
def zr30:bp prog 30=some (.agg #[.int .i64 0,.int .i64 0,.string ⟨#[]⟩]):=by kernel_rfl
def zy(p:ByteArray)(F:Nat->Bool):Nat->Bool
 |0=>F 0
 |i+1=>F (i+1)||((bAt p i).toNat==37&&zy p F i)
def skF(p:ByteArray)(F:Nat->Bool)(k j:Nat):Bool:=if j<=k then zy p F j else F j
section
variable{p s:ByteArray}{F:Nat->Bool}{k m j i:Nat}
def sk_0:F m=skF p F 0 m:=by unfold skF;split;have:m=0:=(by omega);subst this;rfl;rfl
def ams(h:(bAt p k).toNat=37)(hv:skF p F k k=true):(if m=k+1 then true else skF p F k m)=skF p F (k+1) m:=by unfold skF at hv ⊢;rw[azg (azm _)]at hv;by_cases e:m=k+1;subst e;rw[azg rfl,azg (azm _)];simp[zy,h,hv];rw[azf e];by_cases h2:m<=k;rw[azg h2,azg (by omega)];rw[azf h2,azf (by omega)]
def amt(h:(bAt p k).toNat≠37\/skF p F k k=false):skF p F k m=skF p F (k+1) m:=by unfold skF at h ⊢;rw[azg (azm _)]at h;by_cases h2:m<=k;rw[azg h2,azg (by omega)];rw[azf h2];by_cases e:m=k+1;subst e;rw[azg (azm _)];rcases h with h|h;simp[zy,h];simp[zy,h];rw[azf (by omega)]
def aci(h:m<=k):skF p F k m=zy p F m:=by unfold skF;rw[azg h]
def dm(s p:ByteArray)(j i:Nat):Bool:=if(bAt p i).toNat=37 then lk s p (i+1) j else lk s p i j
def P5(p:ByteArray)(F:Nat->Bool)(m:Nat):Bool:=(bAt p m).toNat==37&&F m
def abl(s p:ByteArray)(j:Nat)(F:Nat->Bool)(m:Nat):Bool:=(bAt p m).toNat !=37&&F m&&((bAt p m).toNat==95||(bAt p m).toNat==(bAt s j).toNat)
def nxF(s p:ByteArray)(j:Nat)(F:Nat->Bool)(k m:Nat):Bool:=(decide (m<k)&&P5 p F m)||(decide (0<m)&&decide (m<=k)&&abl s p j F (m-1))
def av7:false=nxF s p j F 0 m:=by unfold nxF;by_cases h:m=0<;>simp[h]
def aoj(h:(bAt p k).toNat=37)(hF:F k=true):(if m=k then true else nxF s p j F k m)=nxF s p j F (k+1) m:=by grind[P5,abl,nxF]
def ac9(h:(bAt p k).toNat≠37)(hF:F k=true)(hm:(bAt p k).toNat=95\/(bAt p k).toNat=(bAt s j).toNat):(if m=k+1 then true else nxF s p j F k m)=nxF s p j F (k+1) m:=by grind[P5,abl,nxF]
def Sv(h1:P5 p F k=false)(h2:abl s p j F k=false):nxF s p j F k m=nxF s p j F (k+1) m:=by grind[nxF]
def av3(h:F k=false):nxF s p j F k m=nxF s p j F (k+1) m:=Sv (by simp[P5,h]) (by simp[abl,h])
def av2(h:(bAt p k).toNat≠37)(h1:(bAt p k).toNat≠95)(h2:(bAt p k).toNat≠(bAt s j).toNat):nxF s p j F k m=nxF s p j F (k+1) m:=Sv (by simp[P5,h]) (by simp[abl,h1,h2])
theorem Tn(h:(bAt p k).toNat=37):lk s p (k+1) (j+1)=(lk s p k (j+1)||lk s p (k+1) j):=by show iv s (bAt p k).toNat (lk s p k) (j+1)=_;rw[mg h];simp;rfl
theorem Tm(h:(bAt p k).toNat=37):lk s p (k+1) 0=lk s p k 0:=by show iv s (bAt p k).toNat (lk s p k) 0=_;rw[mg h];simp
theorem lk_o(h:¬(bAt p k).toNat=37):lk s p (k+1) (j+1)=(lk s p k j&&((bAt p k).toNat==95||(bAt p k).toNat==(bAt s j).toNat)):=by show iv s (bAt p k).toNat (lk s p k) (j+1)=_;rw[my h];simp
theorem awe(h:¬(bAt p k).toNat=37):lk s p (k+1) 0=false:=by show iv s (bAt p k).toNat (lk s p k) 0=_;rw[my h];simp
theorem O0:∀i,zy p (fun k=>if k=0 then true else false) i=dm s p 0 i:=by
 have key:∀i,zy p (fun k=>if k=0 then true else false) i=lk s p i 0:=by
  intro i
  induction i with
  |zero=>rfl
  |succ i ih=>
   simp only[zy,ih]
   by_cases h:(bAt p i).toNat=37
   ·rw[Tm h];simp[h]
   ·rw[awe h];simp[h]
 intro i
 rw[key]
 unfold dm
 split
 ·rename_i h;rw[Tm h]
 rfl
theorem Wv:(bAt p p.size).toNat=0:=by simp_all [bAt]
def T8:P5 p F p.size=false:=by simp[P5,Wv]
theorem Oo:∀i,i<=p.size->zy p (nxF s p j (dm s p j) p.size) i=dm s p (j+1) i:=by
 intro i;induction i with
 |zero=>
  intro _
  show nxF s p j (dm s p j) p.size 0=_
  have e:nxF s p j (dm s p j) p.size 0=P5 p (dm s p j) 0:=by
   unfold nxF
   by_cases h:0<p.size
   ·simp[h]
   ·have:p.size=0:=by omega
    have:=T8 (p:=p) (F:=dm s p j)
    simp_all
  rw[e]
  unfold P5 dm
  by_cases h:(bAt p 0).toNat=37
  ·rw[azg h,azg h,Tn h];simp[h,lk]
  ·rw[azf h,azf h];simp[h,lk]
 |succ i ih=>
  intro hi
  have ih:=ih (by omega)
  simp only[zy,ih]
  have e:nxF s p j (dm s p j) p.size (i+1)=(P5 p (dm s p j) (i+1)||abl s p j (dm s p j) i):=by
   unfold nxF
   by_cases h:i+1<p.size
   ·simp[h,hi]
   ·have h2:i+1=p.size:=by omega
    have:=T8 (p:=p) (F:=dm s p j)
    rw[h2,this]
    simp[show 0<p.size by omega,show p.size-1=i by omega]
  rw[e]
  have eA:(abl s p j (dm s p j) i||((bAt p i).toNat==37&&dm s p (j+1) i))=lk s p (i+1) (j+1):=by
   unfold abl
   by_cases h:(bAt p i).toNat=37
   ·have:dm s p (j+1) i=lk s p (i+1) (j+1):=by unfold dm;rw[azg h]
    simp[h,this]
   ·have:dm s p j i=lk s p i j:=by unfold dm;rw[azf h]
    have a1:((bAt p i).toNat==37)=false:=by rw[beq_eq_false_iff_ne];exact h
    rw[lk_o h,this];simp only[bne,a1];simp
  rw[Bool.or_assoc,eA]
  unfold P5
  by_cases h:(bAt p (i+1)).toNat=37
  ·have e1:dm s p j (i+1)=lk s p (i+2) j:=by unfold dm;rw[azg h]
   have e2:dm s p (j+1) (i+1)=lk s p (i+2) (j+1):=by unfold dm;rw[azg h]
   rw[e1,e2,Tn h];simp[h,Bool.or_comm]
  ·have e2:dm s p (j+1) (i+1)=lk s p (i+1) (j+1):=by unfold dm;rw[azf h]
   rw[e2];simp[h]
def Rx:dm s p s.size p.size=re s p:=by unfold dm re;rw[azf (by rw[Wv];decide)]
def Rw{n z:Nat}{np:Bool}:some (Blk.mk v (lh n F) z np)=some ((Blk.mk v (lh n F) z np).ren g):=by simp only[Blk.ren,y3]
def ac7{D:List Nat}{n z:Nat}:Gm D (Blk.mk v (lh n F) z false):=⟨Ai _,.inl rfl⟩
def del3{m:List (Nat×Nat)}{a b c a' b' c' n:Nat}{A B A' B':Blk}(ha:gOf m a=a')(hb:gOf m b=b')(hc:gOf m c=c')(hA:A.ren (gOf m)=A')(hB:B.ren (gOf m)=B'):ju m [(a,some A),(b,some B),(c,some ⟨0,lh n F,1,false⟩)]=[(a',some A'),(b',some B'),(c',some ⟨0,lh n F,1,false⟩)]:=by subst ha hb hc hA hB;simp[ju,Blk.ren,y3]
end
def aih(p:ByteArray)(hp:p.size<=140737488351232)(F:Nat->Bool):aby prog 176 [.ptr 1000000 0 0,.ptr 1000001 0 0] [(1000000,⟨0,[.v (.string p)],0,false⟩),(1000001,⟨0,[.sl 1000002 0 0 (p.size+1)],0,false⟩),(1000002,⟨0,lh (p.size+1) F,1,false⟩)] [(1000000,some (⟨0,[.v (.string p)],0,false⟩)),(1000001,some (⟨0,[.sl 1000002 0 0 (p.size+1)],0,false⟩)),(1000002,some (⟨0,lh (p.size+1) (skF p F p.size),1,false⟩))] (fun q=>q=.tup []):=by refine aby.of_vc ua [15,16,21,100021] [] func176 rfl ntmps176 rfl (by kernel_rfl) (LpG.on (fun k0:Nat=>(⟨fL [(0,.ptr 1000000 0 0),(1,.ptr 1000001 0 0),(4,vI p.size),(5,vI k0)],hLz [(1000000,⟨0,[.v (.string p)],0,false⟩),(1000001,⟨0,[.sl 1000002 0 0 (p.size+1)],0,false⟩),(1000002,⟨0,lh (p.size+1) (skF p F k0),1,false⟩)],0⟩:St)) (fun k0=>(p.size-k0)) (fun k0=>(k0<=p.size)) 0 (cnS rfl (hpR rfl (hpR rfl (.cons (by exact bB (fun i _=>sk_0)) rfl (bo _) .nil)))) (azk _) ?_);rintro k0 h2;have hle_k0:=h2;refine cL (fun hlt6=>⟨‹_›,cB (fun h0=>by have h3:(bAt p k0).toNat=37:=(by have h:=h0;simp at h;omega);exact OpG.lk (c7 (i:=k0) underlying265 sz4 rfl rfl (by omega) (by omega) rfl) (OpG.lk (nt agv rfl rfl (by omega)) (cB (fun h1=>⟨by omega,OpG.lk (c7 (i:=k0+1) underlying265 sz4 rfl rfl (by omega) (by omega) rfl) (OpG.wr (eh sz4 rfl rfl rfl (by omega)) rfl ⟨by omega,⟨(k0+1),by omega,(cnS rfl (hpR rfl (hpR rfl (.cons (by exact bB (fun i _=>ams h3 h1)) rfl (bo _) .nil)))),by omega⟩⟩)⟩) (fun h1=>⟨by omega,⟨(k0+1),by omega,(cnS rfl (hpR rfl (hpR rfl (.cons (by exact bB (fun i _=>amt (.inr h1))) rfl (bo _) .nil)))),by omega⟩⟩)))) (fun h0=>have h3:¬(bAt p k0).toNat=37:=(by have h:=h0;simp at h;omega);cF ⟨by omega,⟨(k0+1),by omega,(cnS rfl (hpR rfl (hpR rfl (.cons (by exact bB (fun i _=>amt (.inl h3))) rfl (bo _) .nil)))),by omega⟩⟩)⟩) (fun hge6=>have e:k0=p.size:=(by omega);?_);subst e;exact⟨.inl rfl,_,Pn.of [] (cy rfl .nil) rfl ⟨.same rfl (by decide),.same rfl (by decide),.same rfl (by decide),trivial⟩ .same,rfl⟩
def Ts(p:ByteArray)(hp:p.size<=140737488351232)(F:Nat->Bool):jy prog 176 [.ptr 1000000 0 0,.ptr 1000001 0 0] [(1000000,⟨0,[.v (.string p)],0,false⟩),(1000001,⟨0,[.sl 1000002 0 0 (p.size+1)],0,false⟩),(1000002,⟨0,lh (p.size+1) F,1,false⟩)] [(1000000,some ⟨0,[.v (.string p)],0,false⟩),(1000001,some ⟨0,[.sl 1000002 0 0 (p.size+1)],0,false⟩),(1000002,some ⟨0,lh (p.size+1) (skF p F p.size),1,false⟩)] (.tup []):=by obtain⟨_,rfl,h⟩:=aih p hp F;exact h
def Tr(s:ByteArray)(hs:jw s)(p:ByteArray)(hp:jw p):PRet prog 131 [.v (.string s),.v (.string p)] (fun q=>q=vB (re s p)):=by
 have hs1:s.size<=140737488351232:=hs;have ha:p.size<=140737488351232:=hp
 refine ovT [13,15,16,18,27,35,36,45,55,59,64,65,100015,100045,100055] [22] func131 rfl rfl ⟨by omega,OpG.nw (wd (len:=p.size+1) 1 underlying265 sz4 zr4 by4 rfl rfl (by omega) (by omega) (by omega)) rfl (OpG.lk (c7 (i:=0) underlying265 sz4 rfl rfl (by omega) (by omega) rfl) (OpG.wr (eh sz4 rfl rfl rfl (by omega)) rfl (OpG.lk (Xk rfl) (OpG.mk _ _ _ 3 (De [(1000000,0),(1000001,2),(1000002,1)] (by kernel_rfl) (Ts p ha (fun k=>if k=0 then true else false)) rfl rfl rfl rfl rfl ⟨rfl,rfl,Rw,trivial⟩ ⟨⟨rfl,.inl rfl⟩,⟨rfl,.inl rfl⟩,ac7,trivial⟩ ⟨rfl,rfl,Ai _,trivial⟩ rfl rfl rfl rfl (del3 rfl rfl rfl rfl rfl) rfl) rfl rfl (LpG.on (fun k0:Nat=>(⟨fL [(0,.v (.string s)),(3,.ptr 0 0 0),(5,.ptr 2 0 0),(6,.clo 176 [.ptr 0 0 0,.ptr 2 0 0]),(20,vI s.size),(21,vI k0)],hLz [(0,⟨0,[.v (.string p)],0,false⟩),(1,⟨0,lh (p.size+1) (dm s p k0),1,false⟩),(2,⟨0,[.sl 1 0 0 (p.size+1)],0,false⟩)],3⟩:St)) (fun k0=>(s.size-k0)) (fun k0=>(k0<=s.size)) 0 (cnS rfl (hpR rfl (.cons (by exact bB (fun i hi=>(aci (by omega)).trans (O0 i))) rfl (bo _) (hpR rfl trivial)))) (azk _) ?_)))))⟩;rintro k0 h1;have hgr_k0:s.size<=140737488355328:=azp hs (by decide)
 have hle_k0:=h1;apply cB<;>intro h4
 ·have hlt22:k0<s.size:=Int.ofNat_lt.1 (azi h4);refine⟨by omega,OpG.nw (wd (len:=p.size+1) 3 underlying265 sz4 zr4 by4 rfl rfl (by omega) (by omega) (by omega)) rfl (LpG.on (fun k2:Nat=>(⟨fL [(0,.v (.string s)),(3,.ptr 0 0 0),(5,.ptr 2 0 0),(6,.clo 176 [.ptr 0 0 0,.ptr 2 0 0]),(7,vI k0),(8,.sl 3 0 0 (p.size+1)),(20,vI s.size),(21,vI k0),(29,vI p.size),(30,vI k2)],hLz [(0,⟨0,[.v (.string p)],0,false⟩),(1,⟨0,lh (p.size+1) (dm s p k0),1,false⟩),(2,⟨0,[.sl 1 0 0 (p.size+1)],0,false⟩),(3,⟨0,lh (p.size+1) (nxF s p k0 (dm s p k0) k2),1,false⟩)],4⟩:St)) (fun k2=>(p.size-k2)) (fun k2=>(k2<=p.size)) 0 (cnS rfl (hpR rfl (hpS (bo _) rfl (hpR rfl (.cons (by exact bB (fun i _=>av7)) rfl (bo _) .nil))))) (azk _) ?_)⟩;rintro k2 h1;have hgr_k2:p.size<=140737488355328:=azp hp (by decide)
  have hle_k2:=h1;apply cB<;>intro h5
  ·have hlt31:k2<p.size:=Int.ofNat_lt.1 (azi h5);refine OpG.lk (c7 (i:=k2) underlying265 sz4 rfl rfl (by omega) (by omega) rfl) (OpG.lk (nt agv rfl rfl (by omega)) (cB (fun h2=>by have hc:dm s p k0 k2=false:=(by simpa using h2);exact⟨by omega,⟨(k2+1),by omega,(cnS rfl (hpR rfl (hpS (bo _) rfl (hpR rfl (.cons (by exact bB (fun i _=>av3 hc)) rfl (bo _) .nil))))),by omega⟩⟩) (fun h2=>have h9:dm s p k0 k2=true:=(by simpa using h2);⟨‹_›,cB (fun h3=>by have h6:(bAt p k2).toNat=37:=(by have h:=h3;simp at h;omega);exact OpG.lk (c7 (i:=k2) underlying265 sz4 rfl rfl (by omega) (by omega) rfl) (OpG.wr (eh sz4 rfl rfl rfl (by omega)) rfl ⟨by omega,⟨(k2+1),by omega,(cnS rfl (hpR rfl (hpS (bo _) rfl (hpR rfl (.cons (by exact bB (fun i _=>aoj h6 h9)) rfl (bo _) .nil))))),by omega⟩⟩)) (fun h3=>have h6:¬(bAt p k2).toNat=37:=(by have h:=h3;simp at h;omega);cB (fun h0=>?_) (fun h0=>?_))⟩)))
   ·have h7:(bAt p k2).toNat=95:=by have h:=h0;simp at h;omega
    refine cB (fun h0=>by have h7:(bAt p k2).toNat=95:=(by have h:=h0;simp at h;omega);exact⟨by omega,OpG.lk (c7 (i:=k2+1) underlying265 sz4 rfl rfl (by omega) (by omega) rfl) (OpG.wr (eh sz4 rfl rfl rfl (by omega)) rfl ⟨by omega,⟨(k2+1),by omega,(cnS rfl (hpR rfl (hpS (bo _) rfl (hpR rfl (.cons (by exact bB (fun i _=>ac9 h6 h9 (by first|exact .inl h7|exact .inr h8))) rfl (bo _) .nil))))),by omega⟩⟩)⟩) (fun h0=>have h8:¬(bAt p k2).toNat=(bAt s k0).toNat:=(by have h:=h0;simp at h;omega);?_);try have hb:¬(bAt p k2).toNat=95:=by have h:=h0;simp at h;omega
    exact⟨by omega,⟨(k2+1),by omega,(cnS rfl (hpR rfl (hpS (bo _) rfl (hpR rfl (.cons (by(exfalso;omega)) rfl (bo _) .nil))))),by omega⟩⟩
   have h7:¬(bAt p k2).toNat=95:=by have h:=h0;simp at h;omega
   try have hb:¬(bAt p k2).toNat=95:=by have h:=h0;simp at h;omega
   refine⟨‹_›,cB (fun h0=>by have h8:(bAt p k2).toNat=(bAt s k0).toNat:=(by have h:=h0;simp at h;omega);exact⟨by omega,OpG.lk (c7 (i:=k2+1) underlying265 sz4 rfl rfl (by omega) (by omega) rfl) (OpG.wr (eh sz4 rfl rfl rfl (by omega)) rfl ⟨by omega,⟨(k2+1),by omega,(cnS rfl (hpR rfl (hpS (bo _) rfl (hpR rfl (.cons (by exact bB (fun i _=>ac9 h6 h9 (by first|exact .inl h7|exact .inr h8))) rfl (bo _) .nil))))),by omega⟩⟩)⟩) (fun h0=>have h8:¬(bAt p k2).toNat=(bAt s k0).toNat:=(by have h:=h0;simp at h;omega);?_)⟩;try have hb:¬(bAt p k2).toNat=95:=by have h:=h0;simp at h;omega
   exact⟨by omega,⟨(k2+1),by omega,(cnS rfl (hpR rfl (hpS (bo _) rfl (hpR rfl (.cons (by exact bB (fun i _=>av2 h6 h7 h8)) rfl (bo _) .nil))))),by omega⟩⟩
  have hge31:¬k2<p.size:=fun h=>azh h5 (Int.ofNat_lt.2 h);have e:k2=p.size:=by omega
  subst e;exact OpG.mk _ _ _ 4 (De [(1000000,0),(1000001,2),(1000002,3)] (by kernel_rfl) (Ts p ha (nxF s p k0 (dm s p k0) p.size)) rfl rfl rfl rfl rfl ⟨rfl,rfl,Rw,trivial⟩ ⟨⟨rfl,.inl rfl⟩,⟨rfl,.inl rfl⟩,ac7,trivial⟩ ⟨rfl,rfl,Ai _,trivial⟩ rfl rfl rfl rfl (del3 rfl rfl rfl rfl rfl) rfl) rfl rfl (RegG.via (fun _ h=>Nx 1 3 (fl:=[(0,.v (.string s)),(3,.ptr 0 0 0),(5,.ptr 2 0 0),(6,.clo 176 [.ptr 0 0 0,.ptr 2 0 0]),(20,vI s.size),(21,vI k0)]) (hl:=[(0,⟨0,[.v (.string p)],0,false⟩),(2,⟨0,[.sl 3 0 0 (p.size+1)],0,false⟩),(3,⟨0,lh (p.size+1) (dm s p (k0+1)),1,false⟩)]) (u:=4) (cnS rfl (hpR rfl (hpR rfl (.cons (bB (fun i hi=>(aci (by omega)).trans (Oo i (by omega)))) rfl (bo _) .nil)))) ⟨rfl,rfl,rfl,rfl,rfl,rfl,trivial⟩ ⟨rfl,rfl,Ai _,trivial⟩ (by decide) (by decide) (by decide) (fl':=[(0,.v (.string s)),(3,.ptr 0 0 0),(5,.ptr 2 0 0),(6,.clo 176 [.ptr 0 0 0,.ptr 2 0 0]),(20,vI s.size),(21,vI k0)]) (hl':=[(0,⟨0,[.v (.string p)],0,false⟩),(2,⟨0,[.sl 1 0 0 (p.size+1)],0,false⟩),(1,⟨0,lh (p.size+1) (dm s p (k0+1)),1,false⟩)]) rfl (by simp only[List.map,Blk.ren,y3];rfl) h) (ay ⟨by omega,⟨(k0+1),by omega,(cnS rfl (hpR rfl (hpS (bo _) (by rfl) (hpR rfl trivial)))),by omega⟩⟩))
 have hge22:¬k0<s.size:=fun h=>azh h4 (Int.ofNat_lt.2 h);refine OpG.lk (c7 (i:=p.size) underlying265 sz4 rfl rfl (by omega) (by omega) rfl) (OpG.lk (nt agv rfl rfl (by omega)) (rV rfl rfl (have e:k0=s.size:=(by omega);?_)));subst e;exact je Rx
section
variable{P:Program}{τ:Nat->AV}{η:bm}{d:Option Tmp}{ty:TypeId}{pos:String}{af:Array Edge}{g:Option (Nat×Bool)}
def abv{x y:Operand}{m n:Nat}{ats:Array TypeId}(hx:aev τ x=vI m)(hy:aev τ y=vI n):LOp P ⟨d,.call {callee:=.builtin .min,args:=#[x,y],argTypes:=ats},ty,pos,af,g⟩ τ η [] [] (vI ((min m n:Nat):Int)):=by have:=jb (P:=P) (η:=η) (d:=d) (ty:=ty) (pos:=pos) (af:=af) (g:=g) (ats:=ats) hx hy;have e:min ((m:Nat):Int) ((n:Nat):Int)=((min m n:Nat):Int):=(by omega);rwa [e]at this
end
def S9(a:Int):PRet prog 307 [vI a] (fun q=>q=vB false):=ovT [] [] func307 rfl rfl (rV rfl rfl (congrArg vB (by simp)))
def Mc(a:Int):PRet prog 177 [vI a] (fun q=>q=vB false):=ovT [] [] func177 rfl rfl (rV rfl rfl (congrArg vB (by simp)))
def V1(a:Int)(b:Int):PRet prog 260 [vI a,vI b] (fun q=>q=vI (jj a b)):=by refine ovT [] [] func260 rfl rfl (ArgG.mk (S9 a) rfl ?_);rintro _ rfl;refine ArgG.mk (S9 b) rfl ?_;rintro _ rfl;exact cF (cF (cD (fun h0=>rV rfl rfl (congrArg vI (by unfold jj;(rw[azg (by omega)];done)))) (fun h0=>cD (fun h1=>rV rfl rfl (congrArg vI (by unfold jj;(rw[azf (by omega),azg (by omega)];done)))) (fun h1=>rV rfl rfl (congrArg vI (by unfold jj;(rw[azf (by omega),azf (by omega)];done)))))))
def J9(a:Int)(b:Int):PRet prog 134 [vI a,vI b] (fun q=>q=vI (jj a b)):=by refine ovT [] [] func134 rfl rfl (ArgG.mk (Mc a) rfl ?_);rintro _ rfl;refine ArgG.mk (Mc b) rfl ?_;rintro _ rfl;exact cF (cF (cD (fun h0=>rV rfl rfl (congrArg vI (by unfold jj;(rw[azg (by omega)];done)))) (fun h0=>cD (fun h1=>rV rfl rfl (congrArg vI (by unfold jj;(rw[azf (by omega),azg (by omega)];done)))) (fun h1=>rV rfl rfl (congrArg vI (by unfold jj;(rw[azf (by omega),azf (by omega)];done)))))))
def J8(l:List Int)(hl:bq l (fun y=>True)):PRet prog 133 [.tree 1 (l.map iA)] (fun q=>q=vI (orI l)):=by refine ovT [] [] func133 rfl rfl (LenG.of (LpG.on (fun k0:Nat=>(⟨fL [(3,vI 0),(6,.tree 1 (l.map iA)),(7,vI l.length),(8,vI k0)],hLz [],0⟩:St)) (fun k0=>(l.length-k0)) (fun k0=>(k0<=l.length/\∀j (hl:j<l.length),j<k0->l[j]=0)) 0 (cnR rfl) ⟨azk _,fun j _ h=>absurd h (azl j)⟩ ?_));rintro k0 h2;have hgr_k0:l.length<=140737488355328:=hl.1;obtain⟨hle_k0,h0⟩:=h2;apply cL<;>intro h3;refine IdxG.of ‹_› (cB (fun h1=>by have h4:¬((l[k0]:Int)=(0:Int)):=(by simpa using h1);exact rV rfl rfl (congrArg vI (ac3 h3 (fun j hl hj=>h0 j hl hj) (by simpa using h1)))) (fun h1=>have h4:(l[k0]:Int)=(0:Int):=(by simpa using h1);⟨by omega,⟨(k0+1),by omega,(cnR rfl),⟨by omega,fun j hl h=>?_⟩⟩⟩));rcases azn.1 h with h|rfl;exact h0 j hl h;simpa using h1;exact rV rfl rfl (congrArg vI (L4 fun j hl=>h0 j hl (by omega)))
def vz(p:GPart)(hp:FitPart p)(q:GPart)(hq:FitPart q)(ih:∀r∈p.of_,∀s,IsTm s->PRet prog 261 [.agg (rwA r),.agg (rwA s)] (fun q=>q=vI (lx (cdT r) (cdT s)))):PRet prog 221 [.agg (ptA p),.agg (ptA q)] (fun r=>r=vI (jo p q)):=by refine ovT [21,41,45] [] func221 rfl rfl (ArgG.mk (V1 p.c_ q.c_) rfl ?_);rintro _ rfl;refine ArgG.mk (V1 p.p_ q.p_) rfl ?_;rintro _ rfl;refine ArgG.mk (J9 p.by_ q.by_) rfl ?_;rintro _ rfl;refine OpG.nw (cm (de underlying53 sz3 zr3 rfl rfl rfl rfl) (fun η' h=>ba (f:=iA) (l:=[jj p.c_ q.c_,jj p.p_ q.p_,jj p.by_ q.by_]) (azc.2 rfl) h rfl rfl rfl rfl rfl (fun a _=>⟨rfl,rfl⟩))) rfl (ArgG.mk (J8 [jj p.c_ q.c_,jj p.p_ q.p_,jj p.by_ q.by_] ⟨by show 3<=_;decide,fun _ _=>trivial⟩) rfl ?_);rintro _ rfl;refine⟨by kernel_rfl,cN (fun h0=>cT (cT (rV rfl rfl (congrArg vI (Jc hp.kd hq.kd (.inl ‹_›)))))) (fun h0=>LenG.of (cE (fun h1=>cT (rV rfl rfl (congrArg vI (Jc hp.kd hq.kd (.inr (.inl (by omega))))))) (fun h1=>LenG.of (cE (fun h2=>rV rfl rfl (congrArg vI (Jc hp.kd hq.kd (.inr (.inr (by omega)))))) (fun h2=>IdxG.of (j:=0) (by omega) (OpG.lk (ci ca rfl (Ca (hp.of_.2 _ (ay7 _)))) (IdxG.of (j:=0) (by omega) (OpG.lk (ci ca rfl (Ca (hq.of_.2 _ (ay7 _)))) (ArgG.mk (ih (p.of_[0]) (ay7 _) (q.of_[0]) (hq.of_.2 _ (ay7 _))) (show bz [.agg (rwA p.of_[0]),.agg (rwA q.of_[0])]=true by simp[bz,AV.pureB,Cb (hp.of_.2 _ (ay7 _)),Cb (hq.of_.2 _ (ay7 _))]) ?_)))))))))⟩;rintro _ rfl;exact⟨by kernel_rfl,rV rfl rfl (congrArg vI (ant ‹_› (by omega) (by omega)))⟩
def O7(x:GTm)(hx:FitTm x)(y:GTm)(hy:FitTm y)(ih:∀p∈x.a_,∀r∈p.of_,∀s,IsTm s->PRet prog 261 [.agg (rwA r),.agg (rwA s)] (fun q=>q=vI (lx (cdT r) (cdT s)))):PRet prog 261 [.agg (tmA x),.agg (tmA y)] (fun r=>r=vI (lx (cdT (tmA x)) (cdT (tmA y)))):=by have hgx:=hx.a_.1;have hgy:=hy.a_.1;refine ovT [15,37,55] [] func261 rfl rfl ?_;refine LenG.of (LenG.of ?_);refine OpG.lk (abv rfl rfl) ?_;refine LpG.on (fun k0:K1=>(⟨fL [(2,.ptr 0 0 0),(3,.ptr 1 0 0),(15,vI (((min x.a_.length y.a_.length):Nat):Int)),(16,vI k0.k)],hLz [(0,⟨0,tmA x,0,false⟩),(1,⟨0,tmA y,0,false⟩)],2⟩:St)) (fun k0=>((min x.a_.length y.a_.length)-k0.k)) (fun k0=>(k0.k<=(min x.a_.length y.a_.length)/\CmI x y k0.k)) (⟨0⟩:K1) (cnR rfl) ⟨azk _,cmI0 x y⟩ ?_;rintro k0 h3;obtain⟨hle_k0,h0⟩:=h3;apply cL<;>intro hlt17;have h4:k0.k<x.a_.length:=(by omega);have h5:k0.k<y.a_.length:=(by omega);refine IdxG.of ‹_› (IdxG.of ‹_› ?_);refine⟨by kernel_rfl,?_⟩;refine ArgG.mk (vz (x.a_[k0.k]) (hx.a_.2 _ (ay7 _)) (y.a_[k0.k]) (hy.a_.2 _ (ay7 _)) (ih _ (ay7 _))) rfl ?_;rintro _ rfl;refine ArgG.mk (J9 (x.a_[k0.k].i_) (y.a_[k0.k].i_)) rfl ?_;rintro _ rfl;refine OpG.nw (cm (de underlying53 sz3 zr3 rfl rfl rfl rfl) (fun η' h=>ba (f:=iA) (l:=[jo x.a_[k0.k] y.a_[k0.k],jj x.a_[k0.k].i_ y.a_[k0.k].i_]) (azc.2 rfl) h rfl rfl rfl rfl rfl (fun a _=>⟨rfl,rfl⟩))) rfl ?_;refine ArgG.mk (J8 [jo x.a_[k0.k] y.a_[k0.k],jj x.a_[k0.k].i_ y.a_[k0.k].i_] ⟨by show 2<=_;decide,fun _ _=>trivial⟩) rfl ?_;rintro _ rfl;refine⟨by kernel_rfl,?_⟩;apply cB<;>intro h1;have h2:=h1;simp at h2;refine rV rfl rfl ?_;refine congrArg vI ?_;exact Y7 hx hy h0 h4 h5 (by simpa using h1);have h2:=h1;simp at h2;refine⟨by omega,?_⟩;refine⟨(⟨k0.k+1⟩:K1),(nsA ‹_›),(cnR rfl),?_⟩;refine⟨‹_›,?_⟩;exact Y8 hx hy h0 h4 h5 (by simpa using h1);have h6:k0.k=x.a_.length\/k0.k=y.a_.length:=(by omega);refine LenG.of (LenG.of ?_);refine ArgG.mk (V1 ((x.a_.length:Nat):Int) ((y.a_.length:Nat):Int)) rfl ?_;rintro _ rfl;refine ArgG.mk (J9 x.f_ y.f_) rfl ?_;rintro _ rfl;refine OpG.nw (cm (de underlying53 sz3 zr3 rfl rfl rfl rfl) (fun η' h=>ba (f:=iA) (l:=[jj ((x.a_.length:Nat):Int) ((y.a_.length:Nat):Int),jj x.f_ y.f_]) (azc.2 rfl) h rfl rfl rfl rfl rfl (fun a _=>⟨rfl,rfl⟩))) rfl ?_;refine ArgG.mk (J8 [jj ((x.a_.length:Nat):Int) ((y.a_.length:Nat):Int),jj x.f_ y.f_] ⟨by show 2<=_;decide,fun _ _=>trivial⟩) rfl ?_;rintro _ rfl;refine⟨by kernel_rfl,?_⟩;refine rV rfl rfl ?_;refine congrArg vI ?_;exact ahh hx hy h0 (by omega) (by omega) h6
def O8(r:List AV)(hr:IsTm r):∀s,IsTm s->PRet prog 261 [.agg (rwA r),.agg (rwA s)] (fun q=>q=vI (lx (cdT r) (cdT s))):=IsTm.ind (M:=fun r=>∀s,IsTm s->PRet prog 261 [.agg (rwA r),.agg (rwA s)] (fun q=>q=vI (lx (cdT r) (cdT s)))) (fun x hx ih s hs=>by obtain⟨y,rfl,hy⟩:=hs.open_;exact O7 x hx y hy ih) hr
def Es(p:GPart)(hp:FitPart p)(q:GPart)(hq:FitPart q):PRet prog 221 [.agg (ptA p),.agg (ptA q)] (fun r=>r=vI (jo p q)):=vz p hp q hq (fun r hr=>O8 r (hp.of_.2 r hr))
def awb(x y:Int)(h1:0<=x)(h2:x<=18446744073709551615)(h3:0<=y)(h4:y<=18446744073709551615):qe prog 358 [.v (.int .u64 x),.v (.int .u64 y)] (.tup [.v (.int .u64 (x*y/18446744073709551616)),.v (.int .u64 (x*y%18446744073709551616))]):=by
 obtain⟨a,rfl⟩:=Int.eq_ofNat_of_zero_le h1;obtain⟨b,rfl⟩:=Int.eq_ofNat_of_zero_le h3;intro T w vals ⟨h0,hv⟩ hT;have k0:=(hv 0 (by simp) (by simp at h0;omega)).v_inv
 have k1:=(hv 1 (by simp) (by simp at h0;omega)).v_inv
 have h5:vals=#[.int .u64 (a:Int),.int .u64 (b:Int)]:=by
  apply Array.ext;simpa using h0.symm;intro i hi h6;have:i=0\/i=1:=by simp at h6;omega
  rcases this with rfl|rfl;exact k0;exact k1
 rw[h5];refine(Tryz.bits_Mul64 a b (by omega) (by omega) w).mono ?_;rintro e w' ⟨rfl,rfl⟩;refine⟨_,T,rfl,.tup rfl (fun i h h'=>have:i=0\/i=1:=(by simp at h;omega);?_),fun _ h=>h,fun _ h=>.inl h,hT,Below.refl _ _⟩;rcases this with rfl|rfl;have e:((a:Int)*(b:Int)/18446744073709551616)=((a*b/18446744073709551616:Nat):Int):=by rw[<-Int.natCast_mul];rfl
 simp only[List.getElem_cons_zero,e];exact .v _;have e:((a:Int)*(b:Int)%18446744073709551616)=((a*b%18446744073709551616:Nat):Int):=by rw[<-Int.natCast_mul];rfl
 simp only[List.getElem_cons_succ,List.getElem_cons_zero,e];exact .v _
def akp{x y:Int}(hx:0<=x)(hy:0<=y)(w:World):(callFunc 359 #[.int .u64 x,.int .u64 y,.int .u64 0]).run prog w=.ok (.value (.tuple #[.int .u64 ((x+y)%18446744073709551616),.int .u64 ((x+y)/18446744073709551616)])) w:=Xf func359 (by kernel_rfl) (by kernel_rfl) (by kernel_rfl) (by kernel_rfl) hx hy w
def cut(n:Int):Int:=min n 1152921504606846977
def Ep(h:n>1152921504606846976):1152921504606846977=cut n:=by unfold cut;omega
def ad1(h:¬n>1152921504606846976):n=cut n:=by unfold cut;omega
theorem ajf(ha:0<=a)(hb:0<=b):cut (cut a+cut b)=cut (a+b):=by unfold cut;omega
def xi(h:0<=n):0<=cut n/\cut n<=1152921504606846977:=by unfold cut;omega
def RgT(x:GTm):Prop:=(-9223372036854775808<=x.f_/\x.f_<=9223372036854775807)/\∀p∈x.a_,-9223372036854775808<=p.i_/\p.i_<=9223372036854775807
def amq(h:smR (tmA x)=true):RgT x:=by obtain⟨h1,h2⟩:=fw h;exact⟨by omega,fun p hp=>by have:=h2 p hp;omega⟩
def ar0(hx:FitTm x)(h:s.s=cut (cq x.f_+bdS (x.a_.take s.k))):0<=s.s/\s.s<=1152921504606846977:=by have h1:=oq x.f_;have h2:=H0 (l:=x.a_.take s.k) fun p hp=>hx.a_.2 p (List.mem_of_mem_take hp);rw[h];exact xi (by omega)
theorem Kd(hp:FitPart p)(r:List AV)(hr:r∈p.of_):(0<=bdL r/\bdL r<=1152921504606846976)/\cut (bdL r)=bdL r:=by have h1:=hp.sm r hr;obtain⟨y,rfl,hy⟩:=(hp.of_.2 r hr).open_;have h2:=((fb y).1 h1).2;have h3:=(Ws (Cr hy)).1;exact⟨⟨h3,h2⟩,by unfold cut;omega⟩
def blK2(h:p.c_=2)(hp:FitPart p)(hl:0<p.of_.length):(cut (bdL p.of_[0]))/p.by_+1=bdK p:=by have h0:=(Kd hp _ (ay7 hl)).1.1;have e:=bdK2 h hp hl;have e2:zj p.of_[0]=bdL p.of_[0]:=(by unfold zj;rw[azg (hp.sm _ (ay7 hl))]);rw[e2,Int.tdiv_eq_ediv_of_nonneg h0]at e;rw[(Kd hp _ (ay7 hl)).2];exact e
def Kc{v:Int}(hx:FitTm x)(h:s.s=cut (cq x.f_+bdS (x.a_.take s.k)))(hk:s.k<x.a_.length)(hb:b=bdK x.a_[s.k])(hv:v=cut (s.s+cut (cq x.a_[s.k].i_*b))):v=cut (cq x.f_+bdS (x.a_.take (s.k+1))):=by have h1:=oq x.f_;have h2:=H0 (l:=x.a_.take s.k) fun p hp=>hx.a_.2 p (List.mem_of_mem_take hp);have h3:=Int.mul_nonneg (oq x.a_[s.k].i_) (Wt (hx.a_.2 _ (ay7 hk)));rw[hv,h,hb,ajf (by omega) h3,Ez hk,Int.add_assoc]
def ar1(h:s.s=cut (cq x.f_+bdS (x.a_.take s.k)))(hk:¬s.k<x.a_.length):s.s=cut (bdL (tmA x)):=by rw[h,az0 (by omega),ni]
theorem Mf(h0:0<=n)(h:n/18446744073709551616=0):n%18446744073709551616=n:=by omega
def pj(n:Int)(hn:-9223372036854775808<=n/\n<=9223372036854775807):PRet prog 308 [vI n] (fun q=>q=.v (.int .u64 (cq n))):=ovT [6,7,9] [] func308 rfl rfl (cD (fun h0=>OpG.lk (abw underlying2 underlying388 rfl) (OpG.lk (abt rfl (ah4 hn.1 (by omega))) (rV rfl rfl (congrArg (fun z=>AV.v (.int .u64 z)) (by have:=ap n;omega))))) (fun h0=>OpG.lk (Nt underlying2 underlying388 rfl (by omega) (by omega)) (rV rfl rfl (congrArg (fun z=>AV.v (.int .u64 z)) (by have:=ap n;omega)))))
def Gj(a:Int)(b:Int)(ha:0<=a/\a<=18446744073709551615)(hb:0<=b/\b<=18446744073709551615):PRet prog 334 [.v (.int .u64 a),.v (.int .u64 b)] (fun q=>q=.v (.int .u64 (cut (a+b)))):=by refine ovT [10] [] func334 rfl rfl (OpG.lk (Xp akp rfl rfl rfl ha.1 hb.1) (OpG.lk (lP rfl (fun _ _=>nofun) (fun _=>rfl)) (cN (fun h1=>cT (rV rfl rfl (congrArg (fun z=>AV.v (.int .u64 z)) (Ep (by omega))))) (fun h1=>OpG.lk (lP rfl (fun _ _=>nofun) (fun _=>rfl)) (cD (fun h0=>rV rfl rfl (congrArg (fun z=>AV.v (.int .u64 z)) (Ep (by omega)))) (fun h0=>rV rfl rfl (congrArg (fun z=>AV.v (.int .u64 z)) ?_)))))));(rw[Mf (by omega) ‹_›];exact ad1 (by rw[Mf (by omega) ‹_›]at h0;exact h0))
def pq(a:Int)(b:Int)(ha:0<=a/\a<=18446744073709551615)(hb:0<=b/\b<=18446744073709551615):PRet prog 332 [.v (.int .u64 a),.v (.int .u64 b)] (fun q=>q=.v (.int .u64 (cut (a*b)))):=by have hm:=Int.mul_nonneg ha.1 hb.1;refine ovT [] [] func332 rfl rfl (ArgG.mk (PRet.of_call (awb a b ha.1 ha.2 hb.1 hb.2)) rfl ?_);rintro _ rfl;refine OpG.lk (lP rfl (fun _ _=>nofun) (fun _=>rfl)) (cN (fun h1=>?_) (fun h1=>?_));refine cT (rV rfl rfl (congrArg (fun z=>AV.v (.int .u64 z)) ?_));generalize a*b=m at *;exact Ep (by omega);refine OpG.lk (lP rfl (fun _ _=>nofun) (fun _=>rfl)) (cD (fun h0=>?_) (fun h0=>?_));refine rV rfl rfl (congrArg (fun z=>AV.v (.int .u64 z)) ?_);generalize a*b=m at *;exact Ep (by omega);refine rV rfl rfl (congrArg (fun z=>AV.v (.int .u64 z)) ?_);generalize a*b=m at *;(rw[Mf (by omega) ‹_›];exact ad1 (by rw[Mf (by omega) ‹_›]at h0;exact h0))
def Nf(x:GTm)(hx:FitTm x)(hr:RgT x)(ih:∀p∈x.a_,∀r∈p.of_,PRet prog 309 [.agg (rwA r)] (fun q=>q=.v (.int .u64 (cut (bdL r))))):PRet prog 309 [.agg (tmA x)] (fun q=>q=.v (.int .u64 (cut (bdL (tmA x))))):=by have hax:=ap x.f_;have hrc:=hr.1;refine ovT [27,34,35,36] [] func309 rfl rfl (ArgG.mk (pj x.f_ (by unfold RgT at hr;exact hr.1)) rfl ?_);rintro _ rfl;refine ArgG.mk (Gj ((cq x.f_)) 0 (by omega) (by omega)) rfl ?_;rintro _ rfl;refine LenG.of (LpG.on (fun k0:KS=>(⟨fL [(3,.v (.int .u64 k0.s)),(12,.tree 5 (x.a_.map ptA)),(13,vI x.a_.length),(14,vI k0.k)],hLz [],1⟩:St)) (fun k0=>(x.a_.length-k0.k)) (fun k0=>(k0.k<=x.a_.length/\k0.s=cut (cq x.f_+bdS (x.a_.take k0.k)))) (⟨0,_⟩:KS) (cnR rfl) ⟨azk _,by show cut (cq x.f_+0)=_;simp[bdS]⟩ ?_);rintro k0 h8;have hgr_k0:x.a_.length<=140737488355328:=hx.a_.1;obtain⟨hle_k0,h1⟩:=h8;apply cL<;>intro h0;have h9:=hx.a_.2 _ (ay7 h0);have hrp:=hr.2 _ (ay7 h0);have hap:=ap x.a_[k0.k].i_;have hrs:=ar0 hx h1;refine IdxG.of ‹_› (cB (fun h2=>?_) (fun h2=>?_));have h4:=h2;simp at h4;have ha:=bdK1 (p:=x.a_[k0.k]) (by simpa using h2);refine ArgG.mk (pj (x.a_[k0.k].i_) (by unfold RgT at hr;exact hr.2 _ (ay7 _))) rfl ?_;rintro _ rfl;refine ArgG.mk (pq ((cq (x.a_[k0.k].i_))) 16 (by omega) (by omega)) rfl ?_;rintro _ rfl;have hct3:=xi (n:=((cq (x.a_[k0.k].i_)))*16) (Int.mul_nonneg (by omega) (by omega));refine ArgG.mk (Gj k0.s ((cut (((cq (x.a_[k0.k].i_)))*16))) (by omega) (by omega)) rfl ?_;rintro _ rfl;exact⟨by omega,⟨(⟨k0.k+1,_⟩:KS),(nsA ‹_›),(cnR rfl),⟨‹_›,Kc hx h1 h0 ha rfl⟩⟩⟩;have h4:=h2;simp at h4;apply cB<;>intro h3;have h5:=h3;simp at h5;have hb:=h3;simp at hb;have hdv:=h9.kd.2.1 hb;have hd:=Kd h9 x.a_[k0.k].of_[0] (ay7 (by omega));have h6:=blK2 hb h9 (by omega);have he:=xi hd.1.1;have hqd:=Int.ediv_le_self x.a_[k0.k].by_ he.1;have hqn:=Int.ediv_nonneg he.1 (by omega:0<=x.a_[k0.k].by_);refine IdxG.of (j:=0) (by omega) (OpG.lk (ci ca rfl (Ca ((hx.a_.2 _ (ay7 _)).of_.2 _ (ay7 _)))) ?_);refine ArgG.mk (ih x.a_[k0.k] (ay7 _) (x.a_[k0.k].of_[0]) (ay7 _)) (show bz [.agg (rwA x.a_[k0.k].of_[0])]=true by simp[bz,AV.pureB,Cb ((hx.a_.2 _ (ay7 _)).of_.2 _ (ay7 _))]) ?_;rintro _ rfl;refine OpG.lk (lP rfl (fun _ _=>nofun) (fun _=>rfl)) (cD (fun hc=>?_) (fun hc=>?_));refine OpG.lk (Nt underlying2 underlying388 rfl (by omega) (by omega)) (OpG.lk (abr rfl rfl (by omega) (by omega) (by omega)) ?_);refine OpG.lk (abx rfl rfl (by omega) (by omega)) (ArgG.mk (pj (x.a_[k0.k].i_) (by unfold RgT at hr;exact hr.2 _ (ay7 _))) rfl ?_);rintro _ rfl;refine ArgG.mk (pq ((cq (x.a_[k0.k].i_))) ((cut (bdL x.a_[k0.k].of_[0])/x.a_[k0.k].by_+1)) (by omega) (by omega)) rfl ?_;rintro _ rfl;have hct7:=xi (n:=((cq (x.a_[k0.k].i_)))*((cut (bdL x.a_[k0.k].of_[0])/x.a_[k0.k].by_+1))) (Int.mul_nonneg (by omega) (by omega));refine ArgG.mk (Gj k0.s ((cut (((cq (x.a_[k0.k].i_)))*((cut (bdL x.a_[k0.k].of_[0])/x.a_[k0.k].by_+1))))) (by omega) (by omega)) rfl ?_;rintro _ rfl;exact⟨by omega,⟨(⟨k0.k+1,_⟩:KS),(nsA ‹_›),(cnR rfl),⟨‹_›,Kc hx h1 h0 h6 rfl⟩⟩⟩;refine ArgG.mk (pj (x.a_[k0.k].i_) (by unfold RgT at hr;exact hr.2 _ (ay7 _))) rfl ?_;rintro _ rfl;refine ArgG.mk (pq ((cq (x.a_[k0.k].i_))) ((cut (bdL (x.a_[k0.k].of_[0])))) (by omega) (by omega)) rfl ?_;rintro _ rfl;have hct10:=xi (n:=((cq (x.a_[k0.k].i_)))*((cut (bdL (x.a_[k0.k].of_[0]))))) (Int.mul_nonneg (by omega) (by omega));refine ArgG.mk (Gj k0.s ((cut (((cq (x.a_[k0.k].i_)))*((cut (bdL (x.a_[k0.k].of_[0]))))))) (by omega) (by omega)) rfl ?_;rintro _ rfl;refine⟨by omega,⟨(⟨k0.k+1,_⟩:KS),(nsA ‹_›),(cnR rfl),⟨‹_›,?_⟩⟩⟩;(exfalso;have:=hd.2;omega);have h5:=h3;simp at h5;have h7:=bdK0 (p:=x.a_[k0.k]) (by simpa using h3);refine ArgG.mk (pj (x.a_[k0.k].i_) (by unfold RgT at hr;exact hr.2 _ (ay7 _))) rfl ?_;rintro _ rfl;refine ArgG.mk (pq ((cq (x.a_[k0.k].i_))) 2147483648 (by omega) (by omega)) rfl ?_;rintro _ rfl;have hct13:=xi (n:=((cq (x.a_[k0.k].i_)))*2147483648) (Int.mul_nonneg (by omega) (by omega));refine ArgG.mk (Gj k0.s ((cut (((cq (x.a_[k0.k].i_)))*2147483648))) (by omega) (by omega)) rfl ?_;rintro _ rfl;exact⟨by omega,⟨(⟨k0.k+1,_⟩:KS),(nsA ‹_›),(cnR rfl),⟨‹_›,Kc hx h1 h0 (h7.resolve_left ‹_›) rfl⟩⟩⟩;exact rV rfl rfl (congrArg (fun z=>AV.v (.int .u64 z)) (ar1 h1 h0))
def aa4(r:List AV)(hr:IsTm r):smR r=true->PRet prog 309 [.agg (rwA r)] (fun q=>q=.v (.int .u64 (cut (bdL r)))):=IsTm.ind (M:=fun r=>smR r=true->PRet prog 309 [.agg (rwA r)] (fun q=>q=.v (.int .u64 (cut (bdL r))))) (fun x hx ih hs=>Nf x hx (amq hs) (fun p hp r hr=>ih p hp r hr ((hx.a_.2 p hp).sm r hr))) hr
def aa3(x:GTm)(hx:FitTm x)(hr:RgT x):PRet prog 309 [.agg (rwA (tmA x))] (fun q=>q=.v (.int .u64 (cut (bdL (tmA x))))):=Nf x hx hr (fun p hp r hr=>aa4 r ((hx.a_.2 p hp).of_.2 r hr) ((hx.a_.2 p hp).sm r hr))
end Go.Proofs.YtfpfdfhlljjckaaGreatDoor
namespace Go.Proofs
open Go.Shelf
def Tryz.cloP_ren:Go.Shelf.Ren:=⟨fun|41=>263|n=>n,fun|22=>60|23=>206|4=>4|n=>n,fun|n=>n⟩
def Tryz.cloP:Go.Proofs.SlLaysE0.n41 Tryz.prog Tryz.cloP_ren:={
 mixed:=by kernel_rfl
 f41:=⟨Tryz.f263.name,by decide,Tryz.func263.trans (congrArg some (by kernel_rfl))⟩
 t4:=Tryz.underlying4
 a4:=Tryz.isAgg4
 z4:=Tryz.sizeOf4
 v4:=Tryz.zeroValue4
 t22:=Tryz.underlying60
 a22:=Tryz.isAgg60
 z22:=Tryz.sizeOf60
 v22:=Tryz.zeroValue60}
end Go.Proofs
namespace Go.Proofs.YtfpfdfhlljjckaaGreatDoor
open Tryz
variable{p:GPart}{t u x:GTm}{a b c e n:Int}{s:KS}{es:List (List AV)}{r:List AV}{l:List Int}{fp:List Nat}{i k v:Nat}{g:Nat->Nat}{o:Option GTm}{α:Type}
set_option maxRecDepth 1000000
set_option maxHeartbeats 0
open Go.Shelf in
def axn:CloneL prog 263 5:=⟨⟨Tryz.cloP_ren,Tryz.t206,_,_,rfl,Tryz.cloP,by kernel_rfl,rfl,rfl,rfl,rfl,sizeOf206,by decide⟩,by decide⟩
set_option linter.unusedVariables false
set_option linter.unusedSimpArgs false
open Go.RowKit
def ak3{η:bm}{id:Nat}{l:List GPart}(hb:η id=some ⟨v,rF ptA l,5,false⟩):FzP [id] η (.agg [vI c,.sl id v 0 l.length]) (.agg (tmA ⟨c,l⟩)):=FzP.agg rfl (fun i h h'=>match i,h with|0,_=>FzP.pure rfl|1,_=>fg be (azc.2 rfl) hb)
def amr(h1:¬cq x.f_>1099511627776)(h2:∀p∈x.a_,¬cq p.i_>1048576):cut (bdL (tmA x))<=1152921504606846976↔smR (tmA x)=true:=by have e:cut (bdL (tmA x))<=1152921504606846976↔bdL (tmA x)<=1152921504606846976:=(by unfold cut;omega);rw[e,fb];refine⟨fun h=>⟨⟨akt.1 (by omega),fun p hp=>akt.1 (by have:=h2 p hp;omega)⟩,h⟩,fun h=>h.2⟩
def aej:cw prog 263=true:=by kernel_rfl
def acn:ey prog 206=some (some 5):=by kernel_rfl
def ame:aj prog 204=some 1:=by kernel_rfl
def Ys(x:GTm)(hx:FitTm x)(hr:RgT x):PRet prog 262 [.agg (tmA x)] (fun r=>∃b:Bool,r=vB b/\(b=true↔smR (tmA x)=true)):=by refine ovT [] [] func262 rfl rfl (ArgG.mk (pj x.f_ (by unfold RgT at hr;exact hr.1)) rfl ?_);rintro _ rfl;refine OpG.lk (lP rfl (fun _ _=>nofun) (fun _=>rfl)) (cD (fun h5=>rV rfl rfl ⟨_,rfl,fun h=>absurd h az7,fun h=>by have:=akt.2 (fw h).1;omega⟩) (fun h5=>LenG.of (LpG.on (fun k0:Nat=>(⟨fL [(1,.ptr 0 0 0),(10,.tree 5 (x.a_.map ptA)),(11,vI x.a_.length),(12,vI k0)],hLz [(0,⟨0,tmA x,0,false⟩)],1⟩:St)) (fun k0=>(x.a_.length-k0)) (fun k0=>(k0<=x.a_.length/\∀j (hl:j<x.a_.length),j<k0->¬cq x.a_[j].i_>1048576)) 0 (cnR rfl) ⟨azk _,fun j _ h=>absurd h (azl j)⟩ ?_)));rintro k0 h3;have hgr_k0:x.a_.length<=140737488355328:=hx.a_.1;obtain⟨hle_k0,h1⟩:=h3;apply cL<;>intro h2;refine IdxG.of ‹_› (ArgG.mk (pj (x.a_[k0].i_) (by unfold RgT at hr;exact hr.2 _ (ay7 _))) rfl ?_);rintro _ rfl;refine OpG.lk (lP rfl (fun _ _=>nofun) (fun _=>rfl)) (cB (fun h0=>by have h4:=azi h0;exact rV rfl rfl ⟨_,rfl,fun h=>absurd h az7,fun h=>by have:=akt.2 ((fw h).2 _ (ay7 h2));omega⟩) (fun h0=>have h4:=azh h0;⟨by omega,⟨(k0+1),by omega,(cnR rfl),⟨by omega,fun j hl h=>?_⟩⟩⟩));rcases azn.1 h with h|rfl;exact h1 j hl h;exact azh h0;refine ArgG.mk (aa3 x hx hr) rfl ?_;rintro _ rfl;exact OpG.lk (lP rfl (fun _ _=>nofun) (fun _=>rfl)) (rV rfl rfl ⟨_,rfl,by rw[decide_eq_true_iff];exact amr ‹_› (fun p hp=>by obtain⟨j,hj,rfl⟩:=azs hp;exact h1 j hj (by omega))⟩)
def lr(x:GTm)(hx:FitTm x)(hr:RgT x):PRet prog 222 [.agg (tmA x)] (fun r=>∃(t:GTm) (e:Int),r=.tup [.agg (tmA t),vI e]/\FitTm t/\wo (dt x) t e):=by refine ovT [] [] func222 rfl rfl (ArgG.mk (Ys x hx hr) rfl ?_);rintro _ ⟨b0,rfl,h0⟩;exact cB (fun h1=>rtC rfl ca rfl ⟨[],ev⟩ ⟨⟨0,[]⟩,3,rfl,c8,rd fun h=>by have:=h0.2 h;simp_all⟩) (fun h1=>rtP rfl ca rfl ⟨x,0,rfl,hx,At (h0.1 (by simpa using h1))⟩)
def ajt(x:GTm)(hx:FitTm x)(h0:0<x.a_.length)(hl:x.a_.length<=1000000)(ih:∀p∈x.a_,∀r∈p.of_,PRet prog 223 [.agg (rwA r)] (fun q=>q=.agg (rwA r))):PRet prog 223 [.agg (tmA x)] (fun q=>q=.agg (tmA x)):=by refine ovT [7,15,16,29,30,100031] [] func223 rfl rfl (OpG.mk _ _ _ 3 (bg [(0,2)] aej (Dg axn be x.a_ h0 hl) rfl rfl rfl rfl trivial trivial ⟨c9 be _ _,trivial⟩ rfl rfl rfl rfl (bv be rfl) rfl) rfl rfl ?_);refine LpG.on (fun k0:Nat=>(⟨fL [(1,.ptr 0 0 0),(2,.ptr 1 0 0),(10,.sl 2 0 0 x.a_.length),(11,vI x.a_.length),(12,vI k0)],hLz [(0,⟨0,[vI x.f_,.sl 2 0 0 x.a_.length],0,false⟩),(1,⟨0,[vI 0,.v (.slice none 0 0)],0,false⟩),(2,⟨0,rF ptA x.a_,5,false⟩)],3⟩:St)) (fun k0=>(x.a_.length-k0)) (fun k0=>(k0<=x.a_.length)) 0 (cnS rfl (hpR rfl (hpR rfl (hpS (ab be _ _) rfl trivial)))) (azk _) ?_;rintro k0 h3;have hgr_k0:x.a_.length<=140737488355328:=hx.a_.1;have hle_k0:=h3;apply cL<;>intro h1;refine OpG.lk (dy (k:=k0) be underlying60 nu rfl rfl rfl (by omega) rfl) (OpG.lk (uh (k:=k0) be acn rfl rfl (by omega)) ?_);refine LenG.of (cD (fun h4=>?_) (fun h4=>?_));obtain⟨y0,h2,hy0⟩:=((hx.a_.2 _ (ay7 h1)).of_.2 (x.a_[k0].of_[0]) (ay7 (by omega))).open_;have h5:x.a_[k0].of_=[tmA y0]:=co (by have:=(hx.a_.2 _ (ay7 h1)).kd.one;omega) h2;refine cb (j:=0) (by omega) h2 (ArgG.mk (ih x.a_[k0] (ay7 _) (tmA y0) (by rw[h5];simp)) rfl ?_);rintro _ rfl;refine OpG.nw (cm (de underlying204 amb afh rfl rfl rfl rfl) (fun η' h=>ba (f:=tmA) (l:=[y0]) (azc.2 rfl) h rfl rfl rfl rfl rfl (fun a _=>⟨rfl,rfl⟩))) rfl (OpG.lk (dy (k:=k0) be underlying60 nu rfl rfl rfl (by omega) rfl) ?_);refine OpG.wr (wc (k:=k0) (o:=4) (vs:=[.tree 2 [tmA y0]]) be ame rfl rfl rfl rfl rfl rfl (by omega) (by decide) (by simp[bn,ptA,h5])) rfl ⟨by kernel_rfl,⟨by omega,?_⟩⟩;refine⟨(k0+1),by omega,(cnS rfl (hpR rfl (hpR rfl (hpS (ab be _ _) rfl trivial)))),?_⟩;omega;refine⟨by omega,⟨(k0+1),by omega,(cnS rfl (hpR rfl (hpR rfl (hpS (ab be _ _) rfl trivial)))),?_⟩⟩;omega;refine rtK rfl ca rfl ⟨[2],ak3 (c:=x.f_) (l:=x.a_) rfl⟩ ?_;rfl
def V2(c:Int):PRet prog 223 [.agg (tmA ⟨c,[]⟩)] (fun q=>q=.agg (tmA ⟨c,[]⟩)):=by refine ovT [] [] func223 rfl rfl (ArgG.mk (PRet.of_call (CloneL.tree axn (fun _=>rfl) ([]:List GPart) (by decide))) rfl ?_);rintro _ rfl;exact LenG.of (LpG.exit (cB (fun hc=>absurd hc (by decide)) (fun hc=>rtK rfl ca rfl ⟨[],FzP.pure rfl⟩ rfl)))
def Ex(r:List AV)(hr:IsTm r):lnR r=true->PRet prog 223 [.agg (rwA r)] (fun q=>q=.agg (rwA r)):=IsTm.ind (M:=fun r=>lnR r=true->PRet prog 223 [.agg (rwA r)] (fun q=>q=.agg (rwA r))) (fun x hx ih hl=>by have hl:=(vf x).1 hl;by_cases h0:x.a_=[];obtain⟨c,ps⟩:=x;simp only at h0;subst h0;exact V2 c;exact ajt x hx (List.length_pos_iff.2 h0) hl (fun p hp r hr=>ih p hp r hr ((hx.a_.2 p hp).ln r hr))) hr
def Zv(h:wo (dt x) t e)(hl:x.a_.length<=1000000):lnR (tmA t)=true:=by rw[vf];by_cases he:e=0;have:=j6 (h.1 he);rw[this.1];exact hl;rw[(h.2 he).2.2];exact azk _
theorem Y5(q:GPart):({q with i_:=q.i_+0}:GPart)=q:=by cases q;simp
def ao2{y:GTm}{s:KM}(h:MrgI x y s)(hj:s.j<y.a_.length)(hc:s.i=x.a_.length\/∃hi:s.i<x.a_.length,jo x.a_[s.i] y.a_[s.j]>0):MrgI x y ⟨s.k+1,s.i,s.j+1,s.L++[{y.a_[s.j]with i_:=y.a_[s.j].i_+0}]⟩:=by rw[Y5];exact mrgB h hj hc
theorem as9{y:GTm}(hx:Fk x)(hy:Fk y)(hl:x.a_.length+y.a_.length<=1000000):RgT (qq x y):=by
 have h1:=hx.1
 have h2:=hy.1
 refine⟨by show _<=x.f_+y.f_/\x.f_+y.f_<=_;omega,fun p hp=>?_⟩
 have key:∀(m l:List GPart) (M:Int),0<=M->Cf M l->Cf 1048576 m->Cf (M+1048576*(m.length:Int)) (dx l m):=by
  intro m
  induction m with
  |nil=>intro l M h0 h _ q hq;have:=h q hq;simp;omega
  |cons a m ih=>
   intro l M h0 h g q hq
   have ga:=g a (by simp)
   have:=ih (j9 a l) (M+1048576) (by omega) (T1 (by decide) ga h0 h) (fun r hr=>g r (by simp[hr])) q hq
   simp only[azu];omega
 have:=key y.a_ x.a_ 1048576 (by decide) hx.2 hy.2 p hp
 omega
def Bn(x:GTm)(hx:FitTm x)(y:GTm)(hy:FitTm y)(hb:Fk x)(ha:Fk y)(hlx:x.a_.length<=200000)(hly:y.a_.length<=200000):PRet prog 192 [.agg (tmA x),.agg (tmA y)] (fun r=>∃(t:GTm) (e:Int),r=.tup [.agg (tmA t),vI e]/\FitTm t/\wo (dt (qq x y)) t e):=by have hc1:=hb.1;have hc2:=ha.1;refine ovT [] [21] func192 rfl rfl ⟨by omega,LpG.via (fun _ h=>cn 3 1 5 rfl rfl rfl rfl rfl 5 rfl h) ?_⟩;refine LpG.on (fun k0:KM=>(⟨fL [(2,.ptr 0 0 0),(3,.ptr 1 0 0),(4,.ptr 2 0 0),(6,.ptr 3 0 0),(7,vI k0.i),(8,vI k0.j)],hLz [(0,⟨0,tmA x,0,false⟩),(1,⟨0,tmA y,0,false⟩),(2,⟨0,[vI 0,.v (.slice none 0 0)],0,false⟩),(3,⟨0,[vI (x.f_+y.f_),.sl 4 k0.L.length 0 k0.L.length],0,false⟩),(4,⟨k0.L.length,rF ptA k0.L,5,Nat.beq k0.L.length 0⟩)],5⟩:St)) (fun k0=>((x.a_.length+y.a_.length)-k0.k)) (fun k0=>(k0.k<=(x.a_.length+y.a_.length)/\MrgI x y k0)) (⟨0,0,0,[]⟩:KM) (cnS rfl (hpR rfl (hpR rfl (hpR rfl (hpR (by rfl) (hpS (ab be _ _) (by rfl) trivial)))))) ⟨azk _,mrg0 x y⟩ ?_;rintro k0 hc;obtain⟨hle_k0,h1⟩:=hc;have hk1:=h1.kk;have hk2:=h1.len;have hk3:=h1.li;have hk4:=h1.lj;refine LenG.of (cL (fun h2=>?_) (fun h8=>?_));refine cT (LenG.of ?_);refine cE (fun h5=>?_) (fun h5=>?_);exact absurd h2 (by omega);refine LenG.of (cE (fun hd=>?_) (fun hd=>?_));refine cT (IdxG.of ‹_› ?_);refine⟨by omega,cF ?_⟩;refine cB (fun h0=>?_) (fun h0=>?_);have h6:¬((x.a_[k0.i].i_:Int)=(0:Int)):=(by simpa using h0);refine OpG.mk _ _ _ 7 (ah be (a:=x.a_[k0.i]) underlying60 nu qn yn rfl rfl rfl (am rfl rfl rfl rfl) rfl (by omega) (by omega) (by unfold TV;omega)) rfl rfl ⟨(⟨k0.k+1,(k0.i+1),k0.j,k0.L++[x.a_[k0.i]]⟩:KM),(by show(x.a_.length+y.a_.length)-(k0.k+1)<(x.a_.length+y.a_.length)-k0.k;omega),(cnS rfl (hpR rfl (hpR rfl (hpR rfl (.cons (by(rw[azb];rfl)) rfl rfl (.cons (by(rw[azb];rfl)) rfl (ab be _ _) .nil)))))),⟨by show k0.k+1<=_;omega,?_⟩⟩;exact mrgA h1 h2 (.inl (by omega));have h6:(x.a_[k0.i].i_:Int)=(0:Int):=(by simpa using h0);exact absurd (by simpa using h0) (hx.srt.2 _ (ay7 h2));have h3:k0.j<y.a_.length:=(by omega);have hcf1:=hb.2 _ (ay7 h2);have he:=ha.2 _ (ay7 h3);refine IdxG.of ‹_› (IdxG.of ‹_› ?_);refine ArgG.mk (Es (x.a_[k0.i]) (hx.a_.2 _ (ay7 _)) (y.a_[k0.j]) (hy.a_.2 _ (ay7 _))) rfl ?_;rintro _ rfl;refine⟨by kernel_rfl,cD (fun hf=>?_) (fun hf=>?_)⟩;refine IdxG.of ‹_› ⟨by omega,cD (fun h7=>?_) (fun h7=>?_)⟩;refine IdxG.of ‹_› ⟨by omega,⟨by omega,?_⟩⟩;refine cB (fun h0=>?_) (fun h0=>?_);refine OpG.mk _ _ _ 7 (ah be (a:=({y.a_[k0.j]with i_:=y.a_[k0.j].i_+x.a_[k0.i].i_}:GPart)) underlying60 nu qn yn rfl rfl rfl (am rfl rfl rfl rfl) rfl (by omega) (by omega) (by unfold TV;omega)) rfl rfl ⟨(⟨k0.k+1,(k0.i+1),(k0.j+1),k0.L++[({y.a_[k0.j]with i_:=y.a_[k0.j].i_+x.a_[k0.i].i_}:GPart)]⟩:KM),(by show(x.a_.length+y.a_.length)-(k0.k+1)<(x.a_.length+y.a_.length)-k0.k;omega),(cnS rfl (hpR rfl (hpR rfl (hpR rfl (.cons (by(rw[azb];rfl)) rfl rfl (.cons (by(rw[azb];rfl)) rfl (ab be _ _) .nil)))))),⟨by show k0.k+1<=_;omega,?_⟩⟩;exact mrgC h1 h2 h3 (by omega) (by simpa using h0);refine⟨(⟨k0.k+1,(k0.i+1),(k0.j+1),k0.L⟩:KM),(by show(x.a_.length+y.a_.length)-(k0.k+1)<(x.a_.length+y.a_.length)-k0.k;omega),(cnS rfl (hpR rfl (hpR rfl (hpR rfl (hpR (by rfl) (hpS (ab be _ _) (by rfl) trivial)))))),⟨by show k0.k+1<=_;omega,?_⟩⟩;exact mrgD h1 h2 h3 (by omega) (by simpa using h0);refine cB (fun h0=>?_) (fun h0=>?_);have h6:¬((x.a_[k0.i].i_:Int)=(0:Int)):=(by simpa using h0);refine OpG.mk _ _ _ 7 (ah be (a:=x.a_[k0.i]) underlying60 nu qn yn rfl rfl rfl (am rfl rfl rfl rfl) rfl (by omega) (by omega) (by unfold TV;omega)) rfl rfl ⟨(⟨k0.k+1,(k0.i+1),k0.j,k0.L++[x.a_[k0.i]]⟩:KM),(by show(x.a_.length+y.a_.length)-(k0.k+1)<(x.a_.length+y.a_.length)-k0.k;omega),(cnS rfl (hpR rfl (hpR rfl (hpR rfl (.cons (by(rw[azb];rfl)) rfl rfl (.cons (by(rw[azb];rfl)) rfl (ab be _ _) .nil)))))),⟨by show k0.k+1<=_;omega,?_⟩⟩;exact mrgA h1 h2 (.inr ⟨h3,by omega⟩);have h6:(x.a_[k0.i].i_:Int)=(0:Int):=(by simpa using h0);exact absurd (by simpa using h0) (hx.srt.2 _ (ay7 h2));refine cD (fun h7=>?_) (fun h7=>?_);refine IdxG.of ‹_› ⟨by omega,⟨by omega,?_⟩⟩;refine cB (fun h0=>?_) (fun h0=>?_);refine OpG.mk _ _ _ 7 (ah be (a:=({y.a_[k0.j]with i_:=y.a_[k0.j].i_+0}:GPart)) underlying60 nu qn yn rfl rfl rfl (am rfl rfl rfl rfl) rfl (by omega) (by omega) (by unfold TV;omega)) rfl rfl ⟨(⟨k0.k+1,k0.i,(k0.j+1),k0.L++[({y.a_[k0.j]with i_:=y.a_[k0.j].i_+0}:GPart)]⟩:KM),(by show(x.a_.length+y.a_.length)-(k0.k+1)<(x.a_.length+y.a_.length)-k0.k;omega),(cnS rfl (hpR rfl (hpR rfl (hpR rfl (.cons (by(rw[azb];rfl)) rfl rfl (.cons (by(rw[azb];rfl)) rfl (ab be _ _) .nil)))))),⟨by show k0.k+1<=_;omega,?_⟩⟩;exact ao2 h1 ‹_› (.inr ⟨h2,by omega⟩);exact absurd (by simpa using h0) (hy.srt.2 _ (ay7 h3));omega;refine LenG.of (cL (fun h4=>?_) (fun h9=>?_));have he:=ha.2 _ (ay7 h4);refine LenG.of (cE (fun h5=>?_) (fun h5=>?_));refine cF (cT ?_);refine IdxG.of ‹_› ⟨by omega,⟨by omega,?_⟩⟩;refine cB (fun h0=>?_) (fun h0=>?_);refine OpG.mk _ _ _ 7 (ah be (a:=({y.a_[k0.j]with i_:=y.a_[k0.j].i_+0}:GPart)) underlying60 nu qn yn rfl rfl rfl (am rfl rfl rfl rfl) rfl (by omega) (by omega) (by unfold TV;omega)) rfl rfl ⟨(⟨k0.k+1,k0.i,(k0.j+1),k0.L++[({y.a_[k0.j]with i_:=y.a_[k0.j].i_+0}:GPart)]⟩:KM),(by show(x.a_.length+y.a_.length)-(k0.k+1)<(x.a_.length+y.a_.length)-k0.k;omega),(cnS rfl (hpR rfl (hpR rfl (hpR rfl (.cons (by(rw[azb];rfl)) rfl rfl (.cons (by(rw[azb];rfl)) rfl (ab be _ _) .nil)))))),⟨by show k0.k+1<=_;omega,?_⟩⟩;exact ao2 h1 ‹_› (.inl (by omega));exact absurd (by simpa using h0) (hy.srt.2 _ (ay7 h4));exact absurd h1.li (by omega);have hg:=mrgE hx hy h1 h8 h9;have hj:FitTm ⟨x.f_+y.f_,k0.L⟩:=hg▸Kk hx hy (by omega);have hk:RgT ⟨x.f_+y.f_,k0.L⟩:=hg▸as9 hb ha (by omega);refine RegG.via (fun _ h=>cz [4] 3 0 0 [vI (x.f_+y.f_),.sl 4 k0.L.length 0 k0.L.length] [vI (x.f_+y.f_),.tree 5 (k0.L.map ptA)] rfl rfl (.keep (.fz (FzP.rows be (azc.2 rfl) rfl) (.same _))) rfl h) (ay ?_);refine ArgG.mk (lr ⟨x.f_+y.f_,k0.L⟩ hj hk) rfl ?_;rintro _ ⟨t1,e1,rfl,hh,hi⟩;refine ArgG.mk (Ex (tmA t1) (Cr hh) (Zv hi (by show k0.L.length<=_;omega))) rfl ?_;rintro _ rfl;exact rtP rfl ca rfl ⟨_,_,rfl,hh,hg▸hi⟩
def aoz(n:Int)(p:GPart):GPart:={p with i_:=p.i_*n}
def scP(n:Int)(l:List GPart)(k:Nat):List GPart:=(l.take k).map (aoz n)++l.drop k
section
variable{n:Int}{l:List GPart}{k:Nat}
theorem Iz:(scP n l k).length=l.length:=by simp[scP];omega
theorem am0(h:k<l.length):(scP n l k)[k]'(by rw[Iz];exact h)=l[k]:=by grind[scP]
theorem agp(h:k<l.length):(scP n l k).set k (aoz n l[k])=scP n l (k+1):=by have e:((l.take k).map (aoz n)).length=k:=(by simp;omega);simp only[scP];rw[List.set_append_right _ _ (by omega),e,Nat.sub_self,az3 h,List.set_cons_zero,azj h,azx,List.append_assoc];rfl
theorem agq(h:¬k<l.length):scP n l k=l.map (aoz n):=by grind[scP,az0,List.drop_of_length_le]
end
theorem Bo(a b:Int):cq (a*b)=cq a*cq b:=by
 have e:∀z,cq z=(z.natAbs:Int):=fun z=>by have:=ap z;omega
 rw[e,e,e,Int.natAbs_mul,Int.natCast_mul]
def agn(hn:¬n=0)(h:cq x.f_*cq n>1099511627776\/∃p∈x.a_,cq p.i_*cq n>1048576):¬smR (tmA (scT n x))=true:=by intro hs;obtain⟨h1,h2⟩:=fw hs;unfold scT at h1 h2;rw[azf hn]at h1 h2;rcases h with h|⟨p,hp,h⟩;rw[<-Bo]at h;have:=akt.2 h1;exact absurd h (by show¬cq (x.f_*n)>_;exact Int.not_lt.2 this);rw[<-Bo]at h;have:=akt.2 (h2 _ (azy.2 ⟨p,hp,rfl⟩));exact absurd h (Int.not_lt.2 this)
def Be{m:Int}(hb:b<=1152921504606846976):cut m>b↔m>b:=by unfold cut;omega
def Me(h:¬cq a*cq n>b):-b<=a*n/\a*n<=b:=by rw[<-Bo]at h;exact akt.1 (by omega)
def au8(hn:¬n=0)(h:¬k<x.a_.length):(⟨x.f_*n,scP n x.a_ k⟩:GTm)=scT n x:=by unfold scT;rw[azf hn,agq h];rfl
def amx(hn:¬n=0):(⟨c*n,[]⟩:GTm)=scT n ⟨c,[]⟩:=by unfold scT;rw[azf hn];rfl
def au9(hn:¬n=0)(hc:-1099511627776<=x.f_*n/\x.f_*n<=1099511627776)(h:∀p∈x.a_,¬cq p.i_*cq n>1048576):RgT (scT n x):=by unfold scT;rw[azf hn];refine⟨by show _<=x.f_*n/\x.f_*n<=_;omega,fun p hp=>?_⟩;obtain⟨q,hq,rfl⟩:=azy.1 hp;have:=Me (h q hq);show _<=q.i_*n/\q.i_*n<=_;omega
def limZ(h:n=0):wo (dt (scT n x)) ⟨0,[]⟩ 0:=by have e:scT n x=⟨0,[]⟩:=(by unfold scT;rw[azg h];rfl);rw[e];exact At ((fb _).2 ⟨⟨⟨by show(_:Int)<=0;decide,by show(0:Int)<=_;decide⟩,fun p hp=>absurd hp (by simp)⟩,by rw[ni];simp[bdS,cq]⟩)
def ak2{η:bm}{id m:Nat}{l:List GPart}(hb:η id=some ⟨v,rF ptA l,5,false⟩)(hl:l.length=m):FzP [id] η (.sl id v 0 m) (.tree 5 (l.map ptA)):=by subst hl;exact fg be (azc.2 rfl) hb
section
variable{P:Program}{τ:Nat->AV}{η:bm}{d:Option Tmp}{ty:TypeId}{pos:String}{af:Array Edge}{g:Option (Nat×Bool)}
def Km{t id:Nat}{x y:Operand}{v:Int}{L:List GPart}(hs:aj P t=some 1)(hx:aev τ x=.ptr id 0 (k*5))(hb:η id=some ⟨0,rF ptA (scP n L k),5,false⟩)(hk:k<L.length)(hy:aev τ y=vI v)(hv:v=L[k].i_*n):
 LOp P ⟨d,.store t x y,ty,pos,af,g⟩ τ η [id] [(id,some ⟨0,rF ptA (scP n L (k+1)),5,false⟩)] (.v undef):=by
 have:=lu (P:=P) (τ:=τ) (η:=η) (d:=d) (ty:=ty) (pos:=pos) (af:=af) (g:=g) (o:=0) (v:=aoz n L[k]) (vs:=[vI v]) be hs hx hb (by rw[hy];rfl) (by rw[hy];rfl) rfl rfl (by rw[Iz];exact hk) (by decide) (by rw[am0 hk,hv];rfl)
 rwa [agp hk]at this
end
def arp:cw prog 223=true:=by kernel_rfl
def aaw(x:GTm)(hx:FitTm x)(h0:0<x.a_.length)(hl:x.a_.length<=1000000):aby prog 223 [.agg (tmA x)] [] [(2,some (⟨0,rF ptA x.a_,5,false⟩))] (fun q=>q=.agg [vI x.f_,.sl 2 0 0 x.a_.length]):=by refine aby.of_vc ua [7,15,16,29,30,100031] [] func223 rfl ntmps223 rfl (by kernel_rfl) (OpG.mk _ _ _ 3 (bg [(0,2)] aej (Dg axn be x.a_ h0 hl) rfl rfl rfl rfl trivial trivial ⟨c9 be _ _,trivial⟩ rfl rfl rfl rfl (bv be rfl) rfl) rfl rfl ?_);refine LpG.on (fun k0:Nat=>(⟨fL [(1,.ptr 0 0 0),(2,.ptr 1 0 0),(10,.sl 2 0 0 x.a_.length),(11,vI x.a_.length),(12,vI k0)],hLz [(0,⟨0,[vI x.f_,.sl 2 0 0 x.a_.length],0,false⟩),(1,⟨0,[vI 0,.v (.slice none 0 0)],0,false⟩),(2,⟨0,rF ptA x.a_,5,false⟩)],3⟩:St)) (fun k0=>(x.a_.length-k0)) (fun k0=>(k0<=x.a_.length)) 0 (cnS rfl (hpR rfl (hpR rfl (hpS (ab be _ _) rfl trivial)))) (azk _) ?_;rintro k0 h3;have hgr_k0:x.a_.length<=140737488355328:=hx.a_.1;have hle_k0:=h3;apply cL<;>intro h1;refine OpG.lk (dy (k:=k0) be underlying60 nu rfl rfl rfl (by omega) rfl) (OpG.lk (uh (k:=k0) be acn rfl rfl (by omega)) ?_);refine LenG.of (cD (fun h4=>?_) (fun h4=>?_));obtain⟨y0,h2,h6⟩:=((hx.a_.2 _ (ay7 h1)).of_.2 (x.a_[k0].of_[0]) (ay7 (by omega))).open_;have h5:x.a_[k0].of_=[tmA y0]:=co (by have:=(hx.a_.2 _ (ay7 h1)).kd.one;omega) h2;refine cb (j:=0) (by omega) h2 (ArgG.mk (Ex (tmA y0) (Cr h6) ((hx.a_.2 _ (ay7 h1)).ln _ (by rw[h5];simp))) rfl ?_);rintro _ rfl;refine OpG.nw (cm (de underlying204 amb afh rfl rfl rfl rfl) (fun η' h=>ba (f:=tmA) (l:=[y0]) (azc.2 rfl) h rfl rfl rfl rfl rfl (fun a _=>⟨rfl,rfl⟩))) rfl (OpG.lk (dy (k:=k0) be underlying60 nu rfl rfl rfl (by omega) rfl) ?_);refine OpG.wr (wc (k:=k0) (o:=4) (vs:=[.tree 2 [tmA y0]]) be ame rfl rfl rfl rfl rfl rfl (by omega) (by decide) (by simp[bn,ptA,h5])) rfl ⟨by kernel_rfl,⟨by omega,?_⟩⟩;refine⟨(k0+1),by omega,(cnS rfl (hpR rfl (hpR rfl (hpS (ab be _ _) rfl trivial)))),?_⟩;omega;refine⟨by omega,⟨(k0+1),by omega,(cnS rfl (hpR rfl (hpR rfl (hpS (ab be _ _) rfl trivial)))),?_⟩⟩;omega;refine⟨.inr rfl,_,Pn.of [] (cy rfl (.cons (ay3.cellN ca rfl rfl trivial rfl rfl rfl) .nil)) rfl ⟨.same rfl (by decide),trivial⟩ .same,?_⟩;rfl
def aq4(x:GTm)(hx:FitTm x)(h0:0<x.a_.length)(hl:x.a_.length<=1000000):jy prog 223 [.agg (tmA x)] [] [(2,some ⟨0,rF ptA x.a_,5,false⟩)] (.agg [vI x.f_,.sl 2 0 0 x.a_.length]):=by obtain⟨_,rfl,h⟩:=aaw x hx h0 hl;exact h
def Yv(x:GTm)(hx:FitTm x)(n:Int)(hc:Fk x)(hn:-2199023255552<=n/\n<=2199023255552)(h0:0<x.a_.length)(hd:x.a_.length<=1000000):PRet prog 304 [.agg (tmA x),vI n] (fun r=>∃(t:GTm) (e:Int),r=.tup [.agg (tmA t),vI e]/\FitTm t/\wo (dt (scT n x)) t e):=by have hc1:=hc.1;refine ovT [21,25,49,50,100051] [14] func304 rfl rfl (cB (fun h2=>by have h6:(n:Int)=(0:Int):=(by simpa using h2);exact rtC rfl ca rfl ⟨[],ev⟩ ⟨⟨0,[]⟩,0,rfl,c8,limZ (by simpa using h2)⟩) (fun h2=>have h6:¬((n:Int)=(0:Int)):=(by simpa using h2);have h7:¬n=0:=(by simpa using h2);ArgG.mk (pj x.f_ (by omega)) rfl ?_));rintro _ rfl;have hab0:=ap x.f_;refine ArgG.mk (pj n (by omega)) rfl ?_;rintro _ rfl;have hab1:=ap n;refine ArgG.mk (pq ((cq x.f_)) ((cq n)) (by omega) (by omega)) rfl ?_;rintro _ rfl;refine OpG.lk (lP rfl (fun _ _=>nofun) (fun _=>rfl)) (cB (fun h4=>by have h8:=azi h4;exact rtC rfl ca rfl ⟨[],ev⟩ ⟨⟨0,[]⟩,3,rfl,c8,rd (agn (by simpa using h2) (.inl ((Be (by decide)).1 ‹_›)))⟩) (fun h4=>have h8:=azh h4;have he:=Me (fun h=>azh h4 ((Be (by decide)).2 h));OpG.mk _ _ _ 3 (bg [(2,2)] arp (aq4 x hx h0 hd) rfl rfl rfl rfl trivial trivial ⟨c9 be _ _,trivial⟩ rfl rfl rfl rfl (bv be rfl) rfl) rfl rfl (OpG.lk (ki rfl rfl (by omega) (by omega)) (LenG.of (LpG.on (fun k0:Nat=>(⟨fL [(1,vI n),(4,.ptr 1 0 0),(6,.ptr 3 0 0),(28,.tree 5 (x.a_.map ptA)),(29,vI x.a_.length),(30,vI k0)],hLz [(1,⟨0,[vI 0,.v (.slice none 0 0)],0,false⟩),(2,⟨0,rF ptA (scP n x.a_ k0),5,false⟩),(3,⟨0,[vI (x.f_*n),.sl 2 0 0 x.a_.length],0,false⟩)],4⟩:St)) (fun k0=>(x.a_.length-k0)) (fun k0=>(k0<=x.a_.length/\∀j (hl:j<x.a_.length),j<k0->¬cq x.a_[j].i_*cq n>1048576)) 0 (cnS rfl (hpR rfl (hpS (ab be _ _) rfl (hpR rfl trivial)))) ⟨azk _,fun j _ h=>absurd h (azl j)⟩ ?_)))));rintro k0 h9;have hgr_k0:x.a_.length<=140737488355328:=hx.a_.1;obtain⟨hle_k0,h5⟩:=h9;apply cL<;>intro h1;have hcf:=hc.2 _ (ay7 h1);refine IdxG.of ‹_› (ArgG.mk (pj (x.a_[k0].i_) (by omega)) rfl ?_);rintro _ rfl;have hab3:=ap (x.a_[k0].i_);refine ArgG.mk (pj n (by omega)) rfl ?_;rintro _ rfl;have hab4:=ap n;refine ArgG.mk (pq ((cq (x.a_[k0].i_))) ((cq n)) (by omega) (by omega)) rfl ?_;rintro _ rfl;refine OpG.lk (lP rfl (fun _ _=>nofun) (fun _=>rfl)) (cB (fun h3=>by have ha:=azi h3;exact rtC rfl ca rfl ⟨[],ev⟩ ⟨⟨0,[]⟩,3,rfl,c8,rd (agn h7 (.inr ⟨_,ay7 h1,(Be (by decide)).1 ‹_›⟩))⟩) (fun h3=>have ha:=azh h3;have hm2:=Me (fun h=>azh h3 ((Be (by decide)).2 h));OpG.lk (ki rfl rfl (by omega) (by omega)) (OpG.lk (dy (k:=k0) be underlying60 nu rfl rfl rfl (by omega) rfl) (OpG.wr (Km (k:=k0) sz2 rfl rfl h1 rfl rfl) rfl ⟨by omega,⟨(k0+1),by omega,(cnS rfl (hpR rfl (hpS (ab be _ _) rfl (hpR rfl trivial)))),⟨by omega,fun j hl h=>?_⟩⟩⟩))));rcases azn.1 h with h|rfl;exact h5 j hl h;exact(fun h=>azh h3 ((Be (by decide)).2 h));have hb:=au8 (x:=x) h7 h1;have hf:FitTm ⟨x.f_*n,scP n x.a_ k0⟩:=hb▸acj hx;have hg:RgT ⟨x.f_*n,scP n x.a_ k0⟩:=hb▸au9 h7 he (fun p hp=>by obtain⟨j,hj,rfl⟩:=azs hp;exact h5 j hj (by omega));refine RegG.via (fun _ h=>cz [2] 3 0 0 [vI (x.f_*n),.sl 2 0 0 x.a_.length] [vI (x.f_*n),.tree 5 ((scP n x.a_ k0).map ptA)] rfl rfl (.keep (.fz (ak2 rfl Iz) (.same _))) rfl h) (ay (ArgG.mk (lr ⟨x.f_*n,scP n x.a_ k0⟩ hf hg) rfl ?_));rintro _ ⟨t6,e6,rfl,hh,hi⟩;exact rtP rfl ca rfl ⟨_,_,rfl,hh,hb▸hi⟩
def Yw(c n:Int)(hc1:-1099511627776<=c/\c<=1099511627776)(hn:-2199023255552<=n/\n<=2199023255552):PRet prog 304 [.agg (tmA ⟨c,[]⟩),vI n] (fun r=>∃(t:GTm) (e:Int),r=.tup [.agg (tmA t),vI e]/\FitTm t/\wo (dt (scT n ⟨c,[]⟩)) t e):=by refine ovT [25] [] func304 rfl rfl (cB (fun h0=>by have h2:(n:Int)=(0:Int):=(by simpa using h0);exact rtC rfl ca rfl ⟨[],ev⟩ ⟨⟨0,[]⟩,0,rfl,c8,limZ (by simpa using h0)⟩) (fun h0=>have h2:¬((n:Int)=(0:Int)):=(by simpa using h0);have h4:¬n=0:=(by simpa using h0);ArgG.mk (pj c (by omega)) rfl ?_));rintro _ rfl;have hab0:=ap c;refine ArgG.mk (pj n (by omega)) rfl ?_;rintro _ rfl;have hab1:=ap n;refine ArgG.mk (pq ((cq c)) ((cq n)) (by omega) (by omega)) rfl ?_;rintro _ rfl;refine OpG.lk (lP rfl (fun _ _=>nofun) (fun _=>rfl)) (cB (fun h1=>by have h3:=azi h1;exact rtC rfl ca rfl ⟨[],ev⟩ ⟨⟨0,[]⟩,3,rfl,c8,rd (agn (x:=⟨c,[]⟩) (by simpa using h0) (.inl ((Be (by decide)).1 ‹_›)))⟩) (fun h1=>have h3:=azh h1;have hm1:-1099511627776<=c*n/\c*n<=1099511627776:=Me (fun h=>azh h1 ((Be (by decide)).2 h));ArgG.mk (V2 c) rfl ?_));rintro _ rfl;refine OpG.lk (ki rfl rfl (by show _<=c*n;omega) (by show c*n<=_;omega)) ?_;try refine LenG.of ?_;refine LpG.exit (cF (ArgG.mk (lr ⟨c*n,[]⟩ m8 ⟨by show _<=c*n/\c*n<=_;omega,fun p hp=>absurd hp (by simp)⟩) rfl ?_));rintro _ ⟨t4,e4,rfl,h5,h6⟩;exact rtP rfl ca rfl ⟨_,_,rfl,h5,amx h4▸h6⟩
def px(x:GTm)(hx:FitTm x)(n:Int)(hn:-2199023255552<=n/\n<=2199023255552)(h1:Fk x)(h2:x.a_.length<=1000000):PRet prog 304 [.agg (tmA x),vI n] (fun r=>∃(t:GTm) (e:Int),r=.tup [.agg (tmA t),vI e]/\FitTm t/\wo (dt (scT n x)) t e):=by by_cases h0:x.a_=[];obtain⟨c,ps⟩:=x;simp only at h0;subst h0;exact Yw c n h1.1 hn;exact Yv x hx n h1 hn (List.length_pos_iff.2 h0) h2
def tt(h:wo o t e)(hu:o=some u):e=0/\t=u:=by by_cases he:e=0;exact⟨he,Option.some.inj ((h.1 he).symm.trans hu)⟩;exact absurd ((h.2 he).1.symm.trans hu) (by simp)
def As(h:wo o t e)(hu:o=some u):AV.tup [.agg (tmA t),vI e]=.tup [.agg (tmA u),vI 0]:=by obtain⟨rfl,rfl⟩:=tt h hu;rfl
def Tq(h:wo o t e)(he:¬e=0):o=none:=(h.2 he).1
def N2(hb:1<=b):(if a.tmod b<0 then a.tdiv b-1 else a.tdiv b)=a.fdiv b:=by rw[<-uu hb];have h1:=Int.tmod_add_mul_tdiv a b;rw[Int.mul_comm]at h1;by_cases h:a.tmod b<0;rw[azg h,azg (by omega)];rw[azf h,azf (by omega)]
theorem j4(r:List AV)(hr:IsEx r):∀d,d<=12->IsSh d r->∀u,ofT r=some u->FitTm u/\smR (tmA u)=true/\u.a_.length+1<=2^(d+1):=
 IsEx.ind (M:=fun r=>∀d,d<=12->IsSh d r->∀u,ofT r=some u->FitTm u/\smR (tmA u)=true/\u.a_.length+1<=2^(d+1)) (fun x hx ih d hd hs u hu=>by
  obtain⟨d',rfl,h2,h3⟩:=fx hs;have hp:=ag8 (d:=d') (by omega)
  have hq:2^(d'+1+1)=2*2^(d'+1):=by rw[Nat.pow_succ];omega
  have h0:=Fv (d:=d');cases ofV hu with
  |len t h hl hu=>
   obtain⟨a,_,_,_,⟨_,_,rfl⟩|⟨_,_,rfl⟩⟩:=alb hx hl<;>obtain⟨rfl,hs⟩:=xy hu
   ·exact⟨m8,hs,by show 0+1<=_;omega⟩
   ·exact⟨nf (.inr rfl),hs,by show 1+1<=_;omega⟩
  |lit h ha hk hu=>obtain⟨rfl,hs⟩:=xy hu;exact⟨m8,hs,by show 0+1<=_;omega⟩
  |col h ha hi hu=>subst hu;exact⟨nf (.inl rfl),Bh,by show 1+1<=_;omega⟩
  |neg r s h ha hr hu=>
   have hm:r∈x.b_:=by rw[ha];simp
   obtain⟨g1,g2,g3⟩:=ih r hm d' (by omega) (h3 r hm) s hr
   obtain⟨f1,f2,f3,_⟩:=il g1 hu
   exact⟨f1,f2,by omega⟩
  |bin r q a b h ha hr h0 hu=>
   have hm:r∈x.b_:=by rw[ha];simp
   have h1:q∈x.b_:=by rw[ha];simp
   obtain⟨g1,g2,g3⟩:=ih r hm d' (by omega) (h3 r hm) a hr
   obtain⟨k1,k2,k3⟩:=ih q h1 d' (by omega) (h3 q h1) b h0
   obtain⟨f1,f2,f3⟩:=aeu h g1 k1 g2 (by omega) hu
   exact⟨f1,f2,by have:=f3.len;omega⟩) hr
theorem of_9{x:GEx}(h:ofT (exA x)=some u)(h9:x.op_=9):∃t,Av x.b_=some t/\dt t=some u:=by
 cases ofV h with
 |len t h hl hu=>exact⟨t,hl,hu⟩
 |lit h=>omega
 |col h=>omega
 |neg r s h=>omega
 |bin r q a b h=>omega
theorem avo{x:GEx}(h:ofT (exA x)=some u)(h9:¬x.op_=9)(ho:x.op_=1\/x.op_=2\/x.op_=9):x.b_=[]:=by
 cases ofV h with
 |len t h hl hu=>omega
 |lit h ha=>exact ha
 |col h ha=>exact ha
 |neg r s h=>omega
 |bin r q a b h=>omega
theorem avp{x:GEx}(h:ofT (exA x)=some u)(h1:x.op_=1):x.k_.c_=1/\dt ⟨x.k_.v_,[]⟩=some u:=by
 cases ofV h with
 |len t h hl hu=>omega
 |lit h ha hk hu=>exact⟨hk,hu⟩
 |col h ha=>omega
 |neg r s h=>omega
 |bin r q a b h=>omega
theorem of_2{x:GEx}(h:ofT (exA x)=some u)(h2:x.op_=2):0<=x.j_/\dt (ue 0 x.j_)=some u:=by
 cases ofV h with
 |len t h hl hu=>omega
 |lit h ha hk hu=>omega
 |col h ha hi hu=>exact⟨hi,by rw[hu];unfold dt;rw[azg Bh]⟩
 |neg r s h=>omega
 |bin r q a b h=>omega
theorem of_3{x:GEx}(h:ofT (exA x)=some u)(h3:x.op_=3):∃r s,x.b_=[r]/\ofT r=some s/\dt (scT (-1) s)=some u:=by
 cases ofV h with
 |len t h hl hu=>omega
 |lit h ha hk hu=>omega
 |col h ha hi hu=>omega
 |neg r s h ha hr hu=>exact⟨r,s,ha,hr,hu⟩
 |bin r q a b h=>omega
theorem of_4{x:GEx}(h:ofT (exA x)=some u)(h4:¬(x.op_=1\/x.op_=2\/x.op_=9\/x.op_=3)):(4<=x.op_/\x.op_<=8)/\∃r q a b,x.b_=[r,q]/\ofT r=some a/\ofT q=some b/\kw x.op_ a b=some u:=by
 cases ofV h with
 |len t h hl hu=>omega
 |lit h ha hk hu=>omega
 |col h ha hi hu=>omega
 |neg r s h ha hr hu=>omega
 |bin r q a b h ha hr hq hu=>exact⟨h,r,q,a,b,ha,hr,hq,hu⟩
def ao8(h:dt ⟨c,[]⟩=some u):RgT ⟨c,[]⟩:=by obtain⟨rfl,hs⟩:=xy h;exact amq hs
def aur{s:ByteArray}(h:jw s):RgT ⟨((s.size:Nat):Int),[]⟩:=⟨by have h:s.size<=140737488351232:=h;show _<=((s.size:Nat):Int)/\((s.size:Nat):Int)<=_;omega,fun p hp=>absurd hp (by simp)⟩
def al1(h:e=0/\t=u):AV.tup [.agg (tmA t),vI e]=.tup [.agg (tmA u),vI 0]:=by obtain⟨rfl,rfl⟩:=h;rfl
def aw2(x:GTm)(b:Int):RgT (dvT x b):=⟨by show _<=(0:Int)/\(0:Int)<=_;decide,fun p hp=>by rw[azc.1 hp];show _<=(1:Int)/\(1:Int)<=_;decide⟩
def ad5(k v:Int):RgT (ue k v):=⟨by show _<=(0:Int)/\(0:Int)<=_;decide,fun p hp=>by rw[azc.1 hp];show _<=(1:Int)/\(1:Int)<=_;decide⟩
def Hw:cw prog 222=true:=by kernel_rfl
def aaa(a:Int)(b:Int)(ha:-4611686018427387904<=a/\a<=4611686018427387904)(hb:1<=b/\b<=4611686018427387904):PRet prog 392 [vI a,vI b] (fun r=>r=vI (a.fdiv b)):=by have hf:=N2 (a:=a) hb.1;have hq:=Do ha hb;exact ovT [8,11,14] [] func392 rfl rfl (OpG.lk (qg rfl rfl (by omega) (by omega) (by omega)) (OpG.lk (E4 rfl rfl (by omega)) (cB (fun h0=>OpG.lk (qf rfl rfl (by omega) (by omega)) (rV rfl rfl (congrArg vI (by rw[<-hf,azg (by simpa using h0)])))) (fun h0=>rV rfl rfl (congrArg vI (by rw[<-hf,azf (by simpa using h0)]))))))
def aqf(x:GTm)(hx:FitTm x)(by_:Int)(hs:smR (tmA x)=true)(h2:x.a_.length<=1000000)(h7:1<=by_/\by_<=1000):PRet prog 357 [.agg (tmA x),vI by_] (fun r=>∃(t:GTm) (e:Int),r=.tup [.agg (tmA t),vI e]/\FitTm t/\wo (ym x by_) t e):=by have hcc:=(fw hs).1;refine ovT [36] [] func357 rfl rfl (cD (fun h8=>?_) (fun h8=>?_));omega;apply cB<;>intro h5;exact absurd (azi h5) (by omega);have hq6:=azh h5;apply cB<;>intro h0;have h1:=h0;simp at h1;refine ArgG.mk (Ex (tmA x) (Cr hx) ((vf x).2 h2)) rfl ?_;rintro _ rfl;exact rtP rfl ca rfl ⟨x,0,rfl,hx,div1 (by simpa using h0)⟩;have h1:=h0;simp at h1;refine LenG.of (cE (fun h3=>?_) (fun h3=>?_));refine ArgG.mk (aaa x.f_ by_ (by omega) (by omega)) rfl ?_;rintro _ rfl;exact rtC rfl ca rfl ⟨[],Df _⟩ ⟨⟨_,[]⟩,0,rfl,m8,divC (by simpa using h0) (by omega) rfl⟩;refine ArgG.mk (Ex (tmA x) (Cr hx) ((vf x).2 h2)) rfl ?_;rintro _ rfl;obtain⟨_,⟨t3,e3,rfl,h9,ha⟩,h4⟩:=lr (dvT x by_) (U4 hx h7 hs h2) (aw2 x by_);exact OpG.mk _ _ _ 4 (iz [2,3] Hw rfl (fun i h h'=>match i,h with|0,_=>FzP.dv rfl rfl) (fun id h6=>by simp at h6;rcases h6 with rfl|rfl<;>rfl) h4) rfl rfl (rtP rfl ca rfl ⟨_,_,rfl,h9,aw8 (by simpa using h0) (by omega) ha⟩)
def Vm(op:Int)(a:GTm)(ha:FitTm a)(b:GTm)(hb:FitTm b)(hop:4<=op/\op<=8)(he:smR (tmA a)=true)(hp:smR (tmA b)=true)(hla:a.a_.length<=50000)(hlb:b.a_.length<=50000):PRet prog 331 [vI op,.agg (tmA a),.agg (tmA b)] (fun r=>∃(t:GTm) (e:Int),r=.tup [.agg (tmA t),vI e]/\FitTm t/\∀u,kw op a b=some u->e=0/\t=u):=by have h7:=fw he;have h9:=fw hp;have hka:=h7.1;have hkb:=h9.1;refine ovT [95] [] func331 rfl rfl (cE (fun hf=>?_) (fun hf=>?_));refine ArgG.mk (Bn a ha b hb h7 h9 (by omega) (by omega)) rfl ?_;rintro _ ⟨t0,e0,rfl,hq,hr⟩;exact rtP rfl ca rfl ⟨_,_,rfl,hq,fun u hu=>tt hr ((asf (by omega)).symm.trans hu)⟩;apply cE<;>intro hq20;refine ArgG.mk (px b hb (-1) (by omega) h9 (by omega)) rfl ?_;rintro _ ⟨t1,e1,rfl,hs,hl⟩;apply cB<;>intro h3;have h4:=h3;simp at h4;exact rtC rfl ca rfl ⟨[],ev⟩ ⟨_,_,rfl,c8,qa (akc (by omega) (Tq hl ‹_›))⟩;have h4:=h3;simp at h4;have h8:=hl.1 (by simpa using h3);have hm:=il hb h8;refine ArgG.mk (Bn a ha t1 hs h7 (fw hm.2.1) (by omega) (by have:=hm.2.2.1;omega)) rfl ?_;rintro _ ⟨t2,e2,rfl,ht,hv⟩;exact rtP rfl ca rfl ⟨_,_,rfl,ht,fun u hu=>tt hv ((ase (by omega) h8).symm.trans hu)⟩;apply cE<;>intro hq36;refine LenG.of (cE (fun hg=>?_) (fun hg=>?_));refine ArgG.mk (px b hb a.f_ (by omega) h9 (by omega)) rfl ?_;rintro _ ⟨t3,e3,rfl,hw,hx⟩;exact rtP rfl ca rfl ⟨_,_,rfl,hw,fun u hu=>tt hx ((asd (by omega) (by omega)).symm.trans hu)⟩;refine LenG.of (cE (fun hh=>?_) (fun hh=>?_));refine ArgG.mk (px a ha b.f_ (by omega) h7 (by omega)) rfl ?_;rintro _ ⟨t4,e4,rfl,hy,hz⟩;exact rtP rfl ca rfl ⟨_,_,rfl,hy,fun u hu=>tt hz ((asb (by omega) (by omega) (by omega)).symm.trans hu)⟩;exact rtC rfl ca rfl ⟨[],ev⟩ ⟨_,_,rfl,c8,qa (aa9 (by omega) (by omega) (by omega))⟩;refine LenG.of (cD (fun hi=>?_) (fun hi=>?_));refine cT (cT ?_);exact rtC rfl ca rfl ⟨[],ev⟩ ⟨_,_,rfl,c8,qa (Pl (by omega) (by omega) (by omega) (by omega))⟩;apply cD<;>intro hq70;exact cT (rtC rfl ca rfl ⟨[],ev⟩ ⟨_,_,rfl,c8,qa (Pl (by omega) (by omega) (by omega) (by omega))⟩);apply cD<;>intro hq74;exact rtC rfl ca rfl ⟨[],ev⟩ ⟨_,_,rfl,c8,qa (Pl (by omega) (by omega) (by omega) (by omega))⟩;refine ArgG.mk (aqf a ha b.f_ he (by omega) (by omega)) rfl ?_;rintro _ ⟨t5,e5,rfl,hj,hk⟩;apply cB<;>intro h5;have h6:=h5;simp at h6;exact cT (rtP rfl ca rfl ⟨_,_,rfl,hj,qa (Wp (by omega) (by omega) (by omega) (by omega) (by omega) (by omega) (Tq hk ‹_›))⟩);have h6:=h5;simp at h6;have hd:=hk.1 (by simpa using h5);have hc:=U5 ha (by omega) he (by omega) hd;apply cE<;>intro hq88;exact rtP rfl ca rfl ⟨_,_,rfl,hj,fun u hu=>tt hk (hd.trans ((asa (by omega) (by omega) (by omega) (by omega) hd).symm.trans hu))⟩;refine OpG.lk (oh rfl (by omega) (by omega)) (ArgG.mk (px t5 hj (-b.f_) (by omega) (fw hc.2.1) (by have:=hc.2.2.1;omega)) rfl ?_);rintro _ ⟨t6,e6,rfl,g0,hn⟩;apply cB<;>intro h0;have h1:=h0;simp at h1;exact rtC rfl ca rfl ⟨[],ev⟩ ⟨_,_,rfl,c8,qa (akb (by omega) (by omega) (by omega) (by omega) hd (Tq hn ‹_›))⟩;have h1:=h0;simp at h1;have h2:=hn.1 (by simpa using h0);have ho:=il hc.1 h2;refine ArgG.mk (Bn a ha t6 g0 h7 (fw ho.2.1) (by omega) (by have:=ho.2.2.1;have:=hc.2.2.1;omega)) rfl ?_;rintro _ ⟨t7,e7,rfl,g1,g2⟩;exact rtP rfl ca rfl ⟨_,_,rfl,g1,fun u hu=>tt g2 ((ar9 (by omega) (by omega) (by omega) (by omega) hd h2).symm.trans hu)⟩
theorem aph(x:GEx)(hx:FitEx x)(u:GTm)(hu:ofT (exA x)=some u)(h5:x.op_=1\/x.op_=2\/x.op_=9):PRet prog 329 [.agg (exA x)] (fun r=>r=.tup [.agg (tmA u),vI 0]):=by
 refine ovT [47,66,95,110] [] func329 rfl rfl (cE (fun h9=>?_) (fun h9=>?_))
 ·obtain⟨tl,h6,h3⟩:=of_9 hu h9;obtain⟨a,h4,ha,h7,h2⟩:=alb hx h6;have hl1:x.b_.length=1:=by rw[h4];rfl
  have hlb:(a.op_=1/\a.k_.c_=2)\/(a.op_=2/\0<=a.j_):=h2.imp (fun h=>⟨h.1,h.2.1⟩) (fun h=>⟨h.1,h.2.1⟩);have h0:a.b_.length=0:=by simp[h7]
  have he:x.b_[0]=exA a:=by simp[h4]
  refine LenG.of (cN (fun h=>by omega) (fun _=>cb (j:=0) (by omega) he (LenG.of ?_)))
  repeat' first
   |refine cT ?_|refine cF ?_|refine cE (fun _=>?_) (fun _=>?_)<;>try omega|refine cD (fun _=>?_) (fun _=>?_)<;>try omega|refine⟨rfl,?_⟩|fail
  obtain⟨_,⟨t0,e0,rfl,ht0,h8⟩,hc⟩:=lr ⟨((a.k_.l_.size:Nat):Int),[]⟩ m8 (aur ha.k_.l_);exact OpG.mk _ _ _ 4 (iz [] Hw rfl (fun i h h'=>match i,h with|0,_=>Df _) (fun id h1=>absurd h1 (by simp)) hc) rfl rfl (rtP rfl ca rfl (As h8 ((h2.resolve_right (fun h=>by omega)).2.2▸h3)))
  all_goals
   obtain⟨_,⟨t1,e1,rfl,ht1,hb⟩,hc⟩:=lr (ue 1 a.j_) (nf (.inr rfl)) (ad5 _ _)
   exact OpG.mk _ _ _ 5 (iz [4] Hw rfl (fun i h h'=>match i,h with|0,_=>FzP.col rfl) (fun id h1=>by simp at h1;subst h1;rfl) hc) rfl rfl (rtP rfl ca rfl (As hb ((h2.resolve_left (fun h=>by omega)).2.2▸h3)))
 have h0:x.b_.length=0:=by simp[avo hu h9 h5]
 refine LenG.of ?_
 repeat' first
  |refine cT ?_|refine cF ?_|refine cE (fun _=>?_) (fun _=>?_)<;>try omega|refine cD (fun _=>?_) (fun _=>?_)<;>try omega|refine⟨rfl,?_⟩|fail
 all_goals first
  |obtain⟨_,⟨t3,e3,rfl,ht3,hd⟩,hc⟩:=lr ⟨x.k_.v_,[]⟩ m8 (ao8 (avp hu ‹_›).2)
   exact OpG.mk _ _ _ 3 (iz [] Hw rfl (fun i h h'=>match i,h with|0,_=>Df _) (fun id h1=>absurd h1 (by simp)) hc) rfl rfl (rtP rfl ca rfl (As hd (avp hu ‹_›).2))
  |obtain⟨_,⟨t4,e4,rfl,ht4,hf⟩,hc⟩:=lr (ue 0 x.j_) (nf (.inl rfl)) (ad5 _ _)
   first
    |exact OpG.mk _ _ _ 4 (iz [3] Hw rfl (fun i h h'=>match i,h with|0,_=>FzP.col rfl) (fun id h1=>by simp at h1;subst h1;rfl) hc) rfl rfl (rtP rfl ca rfl (As hf (of_2 hu ‹_›).2))
    |have:=(of_2 hu ‹_›).1;omega
  |have:=(avp hu ‹_›).1;omega
theorem avt(x:GEx)(hx:FitEx x)(u:GTm)(hu:ofT (exA x)=some u)(d:Nat)(hd:d<=11)(h2:∀r∈x.b_,IsSh d r)(ih:∀r∈x.b_,∀s,ofT r=some s->PRet prog 303 [.agg (rwA r)] (fun q=>q=.tup [.agg (tmA s),vI 0])):PRet prog 303 [.agg (exA x)] (fun r=>r=.tup [.agg (tmA u),vI 0]):=by
 have hpw:=ag8 (d:=d) (by omega);have M:∀{j} (h:j<x.b_.length),x.b_[j]∈x.b_:=fun _=>ay7 _
 have Q:∀{j} (h:j<x.b_.length),bz [.agg (rwA x.b_[j])]=true:=fun h=>by simp[bz,AV.pureB,kc (hx.b_.2 _ (M h))]
 refine ovT [33,63,75] [] func303 rfl rfl ?_;repeat' first|refine cE (fun _=>?_) (fun _=>?_)<;>try omega
 all_goals first
  |refine ArgG.mk (aph x hx u hu (by omega)) rfl ?_;rintro _ rfl;exact rtP rfl ca rfl rfl
  |obtain⟨r,s,h0,h3,h7⟩:=of_3 hu ‹_›
   have h8:x.b_.length=1:=by rw[h0];rfl
   have h1:r∈x.b_:=by rw[h0];simp
   obtain⟨hs,h9,hsl⟩:=j4 r (hx.b_.2 _ h1) d (by omega) (h2 _ h1) s h3
   refine LenG.of (cN (fun h=>absurd h8 (by omega)) (fun _=>?_))
   refine IdxG.of (j:=0) (by omega) (OpG.lk (ci n6 rfl (jd (hx.b_.2 _ (M _)))) (ArgG.mk (ih x.b_[0] (M _) s (by simpa[h0]using h3)) (Q _) ?_))
   rintro _ rfl
   refine cF (ArgG.mk (px s hs (-1) (by omega) (fw h9) (by omega)) rfl ?_)
   rintro _ ⟨t4,e4,rfl,ht4,hc⟩
   exact rtP rfl ca rfl (As hc h7)
  |obtain⟨he,r,q,a,b,h0,h4,h5,hf⟩:=of_4 hu (by omega)
   have hg:x.b_.length=2:=by rw[h0];rfl
   have h1:r∈x.b_:=by rw[h0];simp
   have h6:q∈x.b_:=by rw[h0];simp
   obtain⟨ha,hh,hal⟩:=j4 r (hx.b_.2 _ h1) d (by omega) (h2 _ h1) a h4
   obtain⟨hb,hi,hbl⟩:=j4 q (hx.b_.2 _ h6) d (by omega) (h2 _ h6) b h5
   refine LenG.of (cN (fun h=>absurd hg (by omega)) (fun _=>?_))
   refine IdxG.of (j:=0) (by omega) (OpG.lk (ci n6 rfl (jd (hx.b_.2 _ (M _)))) (ArgG.mk (ih x.b_[0] (M _) a (by simpa[h0]using h4)) (Q _) ?_))
   rintro _ rfl
   refine cF (IdxG.of (j:=1) (by omega) (OpG.lk (ci n6 rfl (jd (hx.b_.2 _ (M _)))) (ArgG.mk (ih x.b_[1] (M _) b (by simpa[h0]using h5)) (Q _) ?_)))
   rintro _ rfl
   refine cF (ArgG.mk (Vm x.op_ a ha b hb he hh hi (by omega) (by omega)) rfl ?_)
   rintro _ ⟨t7,e7,rfl,ht7,hj⟩
   exact rtP rfl ca rfl (al1 (hj u hf))
  |have:=(of_4 hu (by omega)).1;omega
def aoe(r:List AV)(hr:IsEx r):∀d,d<=12->IsSh d r->∀u,ofT r=some u->PRet prog 303 [.agg (rwA r)] (fun q=>q=.tup [.agg (tmA u),vI 0]):=IsEx.ind (M:=fun r=>∀d,d<=12->IsSh d r->∀u,ofT r=some u->PRet prog 303 [.agg (rwA r)] (fun q=>q=.tup [.agg (tmA u),vI 0])) (fun x hx ih d hd hs u hu=>by obtain⟨d',rfl,h2,h3⟩:=fx hs;exact avt x hx u hu d' (by omega) h3 (fun r hr s h=>ih r hr d' (by omega) (h3 r hr) s h)) hr
def apt{b:Blk}:lp [(i,some b)]=hLz [(i,b)]:=rfl
open Go.Sort in
theorem amp(l:List Int)(v:Nat)(hl:l.length<=140737488355328):jy prog 212 [.sl TOP v 0 l.length] [(TOP,⟨v,iF l,1,Nat.beq l.length 0⟩)] [(TOP,some ⟨v,iF (srt l),1,Nat.beq l.length 0⟩)] (.v (.tuple #[])):=by
 cases l with
 |nil=>
  intro C vals hg hη hU ⟨h2,hv⟩
  have hb:C.η TOP=some ⟨v,[],1,true⟩:=by rw[hη];simp[hLz,iF]
  have h0:=hv 0 (by simp) (by simp at h2;omega)
  obtain⟨e1,_,_⟩:=h0.slnil_inv hb rfl rfl
  have h1:vals=#[.slice none 0 0]:=by
   apply Array.ext
   ·simpa using h2.symm
   ·intro i hi h3
    have:i=0:=by simp at h3;omega
    subst this
    exact e1
  rw[h1]
  refine(AnyM.slices_Sort_int_none Tryz.laysSlM5_f212 none 0 C.w).mono ?_
  rintro e w' ⟨rfl,rfl⟩
  have e0:srt []=[]:=by simp[srt]
  rw[e0]
  exact⟨_,C,rfl,rfl,hη.trans apt.symm,hg,Fr.refl C,VR.v _ _⟩
 |cons a r=>
  refine Bs (l:=a::r) (rv:=fun _ _ _=>.tuple #[]) (by simp) fq (.inl ⟨rfl,fun _ _ _=>rfl⟩) fun blk off cap w hH h4 hcap=>((Tryz.slices_Sort_int blk off cap (a::r) w hH h4 (by omega)).mono ?_)
  rintro e w' ⟨rfl,n,os,rfl⟩
  exact⟨rfl,n,os,by rw[Lib.putRow_eq_setCells _ w blk off _ _ n hH (by rw[fq];simp)]⟩
theorem Bg(l:List Int):(Lib.compact l++List.replicate (l.length-(Lib.compact l).length) 0).length=l.length:=by have:=Lib.compact_length_le l;simp;omega
open Go.Sort in
def Vl(l:List Int)(v:Nat)(h0:0<l.length)(hl:l.length<=140737488355328):jy prog 213 [.sl TOP v 0 l.length] [(TOP,⟨v,iF l,1,false⟩)] [(TOP,some ⟨v,iF (Lib.compact l++List.replicate (l.length-(Lib.compact l).length) 0),1,false⟩)] (.sl TOP v 0 (Lib.compact l).length):=by refine Bs (rv:=fun b o c=>.slice (some ⟨b,o,none⟩) (Lib.compact l).length c) h0 (Bg l) (.inr ⟨_,Lib.compact_length_le l,rfl,fun _ _ _=>rfl⟩) fun blk off cap w hH hlt h1=>((Tryz.slices_Compact_int blk off cap l w hH (by omega) h1).mono ?_);rintro e w' ⟨rfl,q,rfl⟩;exact⟨rfl,q,#[],by rw[Lib.putRow_eq_setCells _ w blk off _ _ q hH (by rw[Bg];simp)];simp⟩
def aps(h:k<l.length):(iF l)[k]? =some (vI (l[k])):=by simp[iF,h]
theorem FzP.iF{η:bm}{id m:Nat}(h0:id∈fp)(hb:η id=some ⟨v,iF l,1,false⟩)(hm:m<=l.length):FzP fp η (.sl id v 0 m) (isA (l.take m)):=by
 have:=FzP.sl (fp:=fp) (η:=η) (id:=id) (ver:=v) (off:=0) (len:=m) (b:=⟨v,Go.Proofs.YtfpfdfhlljjckaaGreatDoor.iF l,1,false⟩) (rows:=(l.take m).map iA) h0 hb rfl rfl (by simp;omega) (fun k h=>by simp[iA]) (fun k h j h'=>by
  have hk:k<l.length:=by simp at h;omega
  have hj:j=0:=by simp[iA]at h';omega
  subst hj;refine⟨vI (l[k]),?_,?_⟩;have e:(0+k*(Blk.mk v (Go.Proofs.YtfpfdfhlljjckaaGreatDoor.iF l) 1 false).esz+0)=k:=by show 0+k*1+0=k;omega
  rw[e];exact aps hk;have e2:((l.take m).map iA)[k][0]=vI (l[k]):=by simp only[List.getElem_map,List.getElem_take];rfl
  rw[e2];exact FzP.pure rfl)
 exact this
theorem FzP.pre{η:bm}{id:Nat}{c r:List Int}(h0:id∈fp)(hb:η id=some ⟨v,Go.Proofs.YtfpfdfhlljjckaaGreatDoor.iF (c++r),1,false⟩):FzP fp η (.sl id v 0 c.length) (isA c):=by have:=FzP.iF h0 hb (m:=c.length) (by simp);rw[List.take_left' rfl]at this;exact this
def Kq{η:bm}{id:Nat}(h0:id∈fp)(hb:η id=some ⟨v,[],1,true⟩):FzP fp η (.sl id v 0 0) (isA []):=by intro C hg hη x hx;obtain⟨e,_,_⟩:=hx.slnil_inv ((hη id h0).trans hb) rfl rfl;subst e;exact .tree0 (by unfold maxLen;omega)
theorem Js:∀l:List Int,iF l=rF iA l
 |[]=>rfl
 |a::r=>by have:=Js r;simp only[iF,azw]at this ⊢;rw[ly,<-this];rfl
def ux(l:List Int)(v:Nat)(hl:l.length<=140737488355328):jy prog 212 [.sl TOP v 0 l.length] [(TOP,⟨v,rF iA l,1,Nat.beq l.length 0⟩)] [(TOP,some ⟨v,rF iA (srt l),1,Nat.beq l.length 0⟩)] (.v (.tuple #[])):=by have:=amp l v hl;rwa [Js,Js]at this
def cmR(l:List Int):List Int:=Lib.compact l++List.replicate (l.length-(Lib.compact l).length) 0
theorem Vk(l:List Int)(v:Nat)(hl:l.length<=140737488355328):jy prog 213 [.sl TOP v 0 l.length] [(TOP,⟨v,rF iA l,1,Nat.beq l.length 0⟩)] [(TOP,some ⟨v,rF iA (cmR l),1,Nat.beq l.length 0⟩)] (.sl TOP v 0 (Lib.compact l).length):=by
 cases l with
 |nil=>
  intro C vals hg hη hU ⟨h2,hv⟩
  have hb:C.η TOP=some ⟨v,[],1,true⟩:=by rw[hη];rfl
  have h0:=hv 0 (by simp) (by simp at h2;omega)
  obtain⟨e1,_,_⟩:=h0.slnil_inv hb rfl rfl
  have h1:vals=#[.slice none 0 0]:=by
   apply Array.ext
   ·simpa using h2.symm
   ·intro i hi h3
    have:i=0:=by simp at h3;omega
    subst this
    exact e1
  rw[h1]
  refine(Tryz.slices_Compact_int_empty none 0 C.w).mono ?_
  rintro e w' ⟨rfl,rfl⟩
  exact⟨_,C,rfl,rfl,hη.trans apt.symm,hg,Fr.refl C,.slnil (b:=⟨v,[],1,true⟩) hb rfl rfl⟩
 |cons a r=>
  have:=Vl (a::r) v (by simp) hl
  rw[Js,Js]at this
  exact this
theorem FzP.srtU{η:bm}{id:Nat}(hb:η id=some ⟨v,rF iA (cmR (srt l)),1,Nat.beq l.length 0⟩):FzP [id] η (.sl id v 0 (Lib.compact (srt l)).length) (isA (srtU l)):=by
 cases l with
 |nil=>
  have e:srt []=[]:=by simp[srt]
  have e2:YtfpfdfhlljjckaaGreatDoor.srtU []=[]:=by unfold YtfpfdfhlljjckaaGreatDoor.srtU;rw[e];rfl
  rw[e]at hb ⊢
  rw[e2]
  exact Kq (azc.2 rfl) hb
 |cons a r=>exact FzP.pre (azc.2 rfl) (by rw[Js];exact hb)
theorem ac6{K:List Nat}{m:List Int}(h:m.length=l.length):Gm K ⟨v,rF iA m,1,Nat.beq l.length 0⟩:=⟨c9 ai _ _,by
 cases l with
 |nil=>rw[az1 h];exact .inr (.inl rfl)
 |cons a r=>exact .inl rfl⟩
def ig{f:α->List AV}{q:Nat}(h:RowF f q){l:List α}{n:Bool}:some (⟨v,rF f l,q,n⟩:Blk)=some ((Blk.mk v (rF f l) q n).ren g):=by rw[n8 h]
structure KW(α:Type) where
 k:Nat
 L:List α
 v:Nat
theorem db(l:List Int):(srtU l).length<=l.length:=by have:=Lib.compact_length_le (srt l);rw[fq]at this;exact this
theorem ow{m:List Int}(h:∀y,y∈l↔y∈m):srtU l=srtU m:=W8 qv qv fun y=>la.trans ((h y).trans la.symm)
def vsP(p:GPart):List Int:=if p.c_=2 then srtU (ve p.of_)else[p.p_]
def Di(p:GPart):(vsP p).length<=(lm p).length:=by unfold vsP lm;split;exact db _;exact azm _
theorem Td{y:Int}:y∈vsP p↔y∈lm p:=by unfold vsP lm;split;exact la;exact Iff.rfl
theorem Mv{α:Type}{f g:α->List Int}:∀{l:List α},(∀a∈l,(f a).length<=(g a).length)->(l.flatMap f).length<=(l.flatMap g).length
 |[],_=>azm _
 |a::l,h=>by simp only[List.flatMap_cons,azb];have:=h a (by simp);have:=Mv (l:=l) fun b hb=>h b (by simp[hb]);omega
def vo(f:α->List Int)(l:List α)(k:Nat):((l.take k).flatMap f).length<=(l.flatMap f).length:=by grind[List.take_append_drop,azb]
theorem Hk(f:α->List Int){l:List α}(h:k<l.length):(l.take (k+1)).flatMap f=(l.take k).flatMap f++f l[k]:=by rw[azj h,List.flatMap_append];simp
structure VsI{α:Type}(f:α->List Int)(l:List α)(s:KW Int):Prop where
 eq:s.L=(l.take s.k).flatMap f
 v:s.v<=2*s.k
section
variable{α:Type}{f g:α->List Int}{l:List α}{s:KW Int}
def atm:VsI f l ⟨0,[],0⟩:=⟨rfl,azm _⟩
def zp(h:VsI f l s)(hf:∀a∈l,(f a).length<=(g a).length):s.L.length<=(l.flatMap g).length:=by rw[h.eq];exact azp (Mv fun a ha=>hf a (List.mem_of_mem_take ha)) (vo g l s.k)
def ul{a:List Int}(h:VsI f l s)(hk:s.k<l.length)(ha:f l[s.k]=a)(hv:v<=s.v+2):VsI f l ⟨s.k+1,s.L++a,v⟩:=⟨by show s.L++a=_;rw[Hk f hk,<-h.eq,ha],by have:=h.v;show v<=2*(s.k+1);omega⟩
def Qe(h:VsI f l s)(hk:¬s.k<l.length)(hm:∀a∈l,∀y,y∈f a↔y∈g a):srtU s.L=srtU (l.flatMap g):=ow fun y=>by rw[h.eq,az0 (by omega)];simp only[List.mem_flatMap];exact⟨fun⟨a,ha,h⟩=>⟨a,ha,(hm a ha y).1 h⟩,fun⟨a,ha,h⟩=>⟨a,ha,(hm a ha y).2 h⟩⟩
def Kv(h:VsI f l s)(hk:s.k<l.length)(hf:∀a∈l,(f a).length<=(g a).length):s.L.length+(f l[s.k]).length<=(l.flatMap g).length:=by have:=zp (ul (v:=0) h hk rfl (by omega)) hf;simpa using this
end
def csE(r:List AV):List Int:=(if(dcE r).op_=2 then[(dcE r).j_]else[])++srtU (bi (dcE r).b_)
theorem dq:∀l:List (List AV),bi l=l.flatMap dw
 |[]=>by simp only[bi,List.flatMap_nil]
 |r::rs=>by simp only[bi,List.flatMap_cons,dq rs]
theorem M4(x:GEx):csE (exA x)=(if x.op_=2 then[x.j_]else[])++srtU (bi x.b_):=by unfold csE;rw[rh]
def Er(h:IsEx r):(csE r).length<=(dw r).length:=by obtain⟨x,rfl,_⟩:=h.open_;rw[M4,dg,azb,azb];have:=db (bi x.b_);omega
theorem Te(h:IsEx r)(y:Int):y∈csE r↔y∈dw r:=by obtain⟨x,rfl,_⟩:=h.open_;rw[M4,dg,azd,azd,la]
theorem zd{α:Type}(f:α->List Int):∀{l:List α} {a:α},a∈l->(f a).length<=(l.flatMap f).length
 |b::l,a,h=>by simp only[List.flatMap_cons,azb];rcases azz.1 h with rfl|h;omega;have:=zd f h;omega
def Sp(hx:FitTm x)(hp:p∈x.a_)(hr:r∈p.of_):(d7 r).length<=(d7 (tmA x)).length:=by
 have hk:=(hx.a_.2 p hp).kd;have k2:p.c_=2:=Classical.byContradiction fun e=>by rw[hk.2.2 e]at hr;exact absurd hr (by simp)
 obtain⟨q,hq⟩:=az4.1 (hk.2.1 k2).1;rw[hq]at hr;have e:d7 r=lm p:=by unfold lm;rw[azg k2,hq,azc.1 hr];simp only[ve]
 rw[e,dj];exact zd lm hp
def M0(h:bq es (fun y=>IsEx y))(hk:k<es.length){x:GEx}(he:es[k]=exA x):(bi (dcE es[k]).b_).length<=(bi es).length:=by have h1:=zd dw (ay7 hk);rw[<-dq]at h1;rw[he,rh];rw[he,dg,azb]at h1;omega
def lq(l:List Int)(v:Nat)(hl:l.length<=140737488355328):jy prog 213 [.sl TOP v 0 l.length] [(TOP,⟨v,rF iA (srt l),1,Nat.beq l.length 0⟩)] [(TOP,some ⟨v,rF iA (cmR (srt l)),1,Nat.beq l.length 0⟩)] (.sl TOP v 0 (Lib.compact (srt l)).length):=by have:=Vk (srt l) v (by rw[fq];exact hl);rwa [fq]at this
def v8:cw prog 212=true:=by kernel_rfl
def ya:cw prog 213=true:=by kernel_rfl
def afs(x:GTm)(hx:FitTm x)(h8:(d7 (tmA x)).length<=1099511627776)(ih:∀p∈x.a_,∀r∈p.of_,PRet prog 255 [.agg (rwA r)] (fun q=>q=isA (srtU (d7 r)))):PRet prog 255 [.agg (tmA x)] (fun q=>q=isA (srtU (d7 (tmA x)))):=by rw[dj]at h8 ⊢;refine ovT [22,30,32] [] func255 rfl rfl (LenG.of (LpG.via (fun _ h=>bl 3 1 rfl 2 rfl h) (LpG.on (fun k0:KW Int=>(⟨fL [(3,.sl 1 k0.v 0 k0.L.length),(7,.tree 5 (x.a_.map ptA)),(8,vI x.a_.length),(9,vI k0.k)],hLz [(1,⟨k0.v,rF iA k0.L,1,Nat.beq k0.L.length 0⟩)],2⟩:St)) (fun k0=>(x.a_.length-k0.k)) (fun k0=>(k0.k<=x.a_.length/\VsI vsP x.a_ k0)) (⟨0,[],0⟩:KW Int) (cnS (by rfl) (hpS (ab ai _ _) (by rfl) trivial)) ⟨azk _,atm⟩ ?_)));rintro k0 h6;have hgr_k0:x.a_.length<=140737488355328:=hx.a_.1;obtain⟨hle_k0,h1⟩:=h6;apply cL<;>intro h0;have h5:=Kv h1 h0 fun p _=>Di p;have hv:=h1.v;have hpt:=hx.a_.1;refine IdxG.of ‹_› (cE (fun h2=>?_) (fun h2=>?_));have h9:0<x.a_[k0.k].of_.length:=(by have:=(hx.a_.2 _ (ay7 h0)).kd.2.1 h2;omega);obtain⟨y0,h3,hy0⟩:=((hx.a_.2 _ (ay7 h0)).of_.2 (x.a_[k0.k].of_[0]) (ay7 h9)).open_;have hkd:=(hx.a_.2 _ (ay7 h0)).kd.2.1 h2;have h7:x.a_[k0.k].of_=[tmA y0]:=co (by omega) h3;have h4:vsP x.a_[k0.k]=srtU (d7 (tmA y0)):=(by unfold vsP;rw[azg h2,h7];simp only[ve]);rw[h4]at h5;have hvb:=xp (ver:=k0.v) (n:=(k0.L++srtU (d7 (tmA y0))).length);refine cb (j:=0) ‹_› h3 (ArgG.mk (ih x.a_[k0.k] (ay7 _) (tmA y0) (by rw[h7];simp)) rfl ?_);rintro _ rfl;refine OpG.mk _ _ _ 3 (d4 ai (l:=k0.L) (l':=srtU (d7 (tmA y0))) underlying53 sz3 zr3 by3 rfl rfl rfl rfl (by omega) (by omega) (by unfold TV;omega)) rfl rfl ⟨by omega,⟨(⟨k0.k+1,k0.L++srtU (d7 (tmA y0)),vbX k0.v (k0.L++srtU (d7 (tmA y0))).length⟩:KW Int),(nsA ‹_›),(cnS (by rfl) (hpS (ab ai _ _) (by rfl) trivial)),?_⟩⟩;exact⟨‹_›,ul h1 h0 h4 (by omega)⟩;have h4:vsP x.a_[k0.k]=[x.a_[k0.k].p_]:=(by unfold vsP;rw[azf h2]);rw[h4]at h5;simp only[azu,azv]at h5;refine OpG.mk _ _ _ 4 (ah ai (a:=(x.a_[k0.k].p_)) underlying53 sz3 zr3 by3 rfl rfl rfl (am rfl rfl rfl rfl) rfl (by omega) (by omega) (by unfold TV;omega)) rfl rfl ⟨by omega,⟨(⟨k0.k+1,k0.L++[x.a_[k0.k].p_],k0.v+1⟩:KW Int),(nsA ‹_›),(cnS (by rfl) (hpS (ab ai _ _) (by rfl) trivial)),?_⟩⟩;exact⟨‹_›,ul h1 h0 h4 (by omega)⟩;have h5:=zp h1 fun p _=>Di p;refine OpG.mk _ _ _ 2 (bg [(TOP,1)] v8 (ux k0.L k0.v (by omega)) rfl rfl rfl rfl ⟨ig ai,trivial⟩ ⟨d5 ai,trivial⟩ ⟨c9 ai _ _,trivial⟩ rfl rfl rfl rfl (bv ai rfl) rfl) rfl rfl (OpG.mk _ _ _ 2 (bg [(TOP,1)] ya (lq k0.L k0.v (by omega)) rfl rfl rfl rfl ⟨ig ai,trivial⟩ ⟨ac6 fq,trivial⟩ ⟨c9 ai _ _,trivial⟩ rfl rfl rfl rfl (bv ai rfl) rfl) rfl rfl ?_);exact rtA rfl ⟨[1],FzP.srtU rfl⟩ (congrArg isA (Qe h1 h0 fun _ _ _=>Td))
def Qg(r:List AV)(hr:IsTm r):(d7 r).length<=1099511627776->PRet prog 255 [.agg (rwA r)] (fun q=>q=isA (srtU (d7 r))):=IsTm.ind (M:=fun r=>(d7 r).length<=1099511627776->PRet prog 255 [.agg (rwA r)] (fun q=>q=isA (srtU (d7 r)))) (fun x hx ih ho=>afs x hx ho fun p hp r hr=>ih p hp r hr (azp (Sp hx hp hr) ho)) hr
def Vn(es:List (List AV))(h3:bq es (fun y=>IsEx y))(h8:(bi es).length<=1099511627776)(ih:∀r∈es,(bi (dcE r).b_).length<=1099511627776->PRet prog 185 [.tree 8 ((dcE r).b_.map rwA)] (fun q=>q=isA (srtU (bi (dcE r).b_)))):PRet prog 185 [.tree 8 (es.map rwA)] (fun q=>q=isA (srtU (bi es))):=by refine ovT [24,27,29] [] func185 rfl rfl (LenG.of (LpG.via (fun _ h=>bl 3 1 rfl 1 rfl h) (LpG.on (fun k0:KW Int=>(⟨fL [(3,.sl 0 k0.v 0 k0.L.length),(6,.tree 8 (es.map rwA)),(7,vI es.length),(8,vI k0.k)],hLz [(0,⟨k0.v,rF iA k0.L,1,Nat.beq k0.L.length 0⟩)],1⟩:St)) (fun k0=>(es.length-k0.k)) (fun k0=>(k0.k<=es.length/\VsI csE es k0)) (⟨0,[],0⟩:KW Int) (cnS (by rfl) (hpS (ab ai _ _) (by rfl) trivial)) ⟨azk _,atm⟩ ?_)));rintro k0 h7;have hgr_k0:es.length<=140737488355328:=h3.1;obtain⟨hle_k0,h1⟩:=h7;apply cL<;>intro h2;obtain⟨x0,h0,hx0⟩:=(h3.2 _ (ay7 h2)).open_;have h4:=Kv h1 h2 fun r hr=>Er (h3.2 r hr);rw[<-dq]at h4;have hv:=h1.v;have hpt:=h3.1;have h6:=M4 x0;rw[h0,h6]at h4;have hvb:=xp (ver:=k0.v) (n:=(k0.L++srtU (bi x0.b_)).length);have hvc:=xp (ver:=k0.v+1) (n:=(k0.L++[x0.j_]++srtU (bi x0.b_)).length);refine cb (j:=k0.k) ‹_› h0 (cE (fun h5=>?_) (fun h5=>?_));rw[azg h5]at h4 h6;simp only[azb,azu,azv]at h4;refine OpG.mk _ _ _ 3 (ah ai (a:=x0.j_) underlying53 sz3 zr3 by3 rfl rfl rfl (am rfl rfl rfl rfl) rfl (by omega) (by omega) (by unfold TV;omega)) rfl rfl (ArgG.mk ((by have h:=ih es[k0.k] (ay7 _) (azp (M0 h3 h2 h0) h8);rw[h0,rh]at h;exact h)) rfl ?_);rintro _ rfl;refine OpG.mk _ _ _ 3 (d4 ai (l:=k0.L++[x0.j_]) (l':=srtU (bi x0.b_)) underlying53 sz3 zr3 by3 rfl rfl rfl rfl (by simp only[azb,azu,azv];omega) (by simp only[azb,azu,azv];omega) (by unfold TV;omega)) rfl rfl ⟨by omega,⟨(⟨k0.k+1,k0.L++[x0.j_]++srtU (bi x0.b_),vbX (k0.v+1) (k0.L++[x0.j_]++srtU (bi x0.b_)).length⟩:KW Int),(nsA ‹_›),(cnS (by rfl) (hpS (ab ai _ _) (by rfl) trivial)),?_⟩⟩;refine⟨‹_›,?_⟩;(rw[List.append_assoc];exact ul h1 h2 (by rw[h0];exact h6) (azp xp.2 (by omega)));rw[azf h5]at h4 h6;simp only[azb,azu,azv]at h4;refine ArgG.mk ((by have h:=ih es[k0.k] (ay7 _) (azp (M0 h3 h2 h0) h8);rw[h0,rh]at h;exact h)) rfl ?_;rintro _ rfl;refine OpG.mk _ _ _ 2 (d4 ai (l:=k0.L) (l':=srtU (bi x0.b_)) underlying53 sz3 zr3 by3 rfl rfl rfl rfl (by omega) (by omega) (by unfold TV;omega)) rfl rfl ⟨by omega,⟨(⟨k0.k+1,k0.L++srtU (bi x0.b_),vbX k0.v (k0.L++srtU (bi x0.b_)).length⟩:KW Int),(nsA ‹_›),(cnS (by rfl) (hpS (ab ai _ _) (by rfl) trivial)),?_⟩⟩;exact⟨‹_›,ul h1 h2 (by rw[h0];simpa using h6) (azp xp.2 (by omega))⟩;have h4:=zp h1 fun r hr=>Er (h3.2 r hr);rw[<-dq]at h4;refine OpG.mk _ _ _ 1 (bg [(TOP,0)] v8 (ux k0.L k0.v (by omega)) rfl rfl rfl rfl ⟨ig ai,trivial⟩ ⟨d5 ai,trivial⟩ ⟨c9 ai _ _,trivial⟩ rfl rfl rfl rfl (bv ai rfl) rfl) rfl rfl (OpG.mk _ _ _ 1 (bg [(TOP,0)] ya (lq k0.L k0.v (by omega)) rfl rfl rfl rfl ⟨ig ai,trivial⟩ ⟨ac6 fq,trivial⟩ ⟨c9 ai _ _,trivial⟩ rfl rfl rfl rfl (bv ai rfl) rfl) rfl rfl ?_);exact rtA rfl ⟨[0],FzP.srtU rfl⟩ (congrArg isA (by rw[dq];exact Qe h1 h2 fun r hr y=>Te (h3.2 r hr) y))
def J6(es:List (List AV))(h0:bq es (fun y=>IsEx y))(h1:(bi es).length<=1099511627776):PRet prog 185 [.tree 8 (es.map rwA)] (fun q=>q=isA (srtU (bi es))):=Vn es h0 h1 fun r hr=>IsEx.ind (M:=fun r=>(bi (dcE r).b_).length<=1099511627776->PRet prog 185 [.tree 8 ((dcE r).b_.map rwA)] (fun q=>q=isA (srtU (bi (dcE r).b_)))) (fun x hx ih ho=>by rw[rh]at ho ⊢;exact Vn x.b_ hx.b_ ho ih) (h0.2 r hr)
theorem Yq :(srtU l).length=0↔l.length=0:=by simp_all [az1,List.eq_nil_iff_forall_not_mem,la,db]
theorem abb(l:List Int):Nat.beq l.length 0=Nat.beq (srtU l).length 0:=by grind[Yq,kg]
def Lz{P:Program}{f:FuncId}{args:List AV}{L:List Int}(hi:i<TOP)(h:Fa P f args [] (fun q hb'=>∃v,q=.sl i v 0 (Lib.compact (srt L)).length/\hb'=[(i,some ⟨v,rF iA (cmR (srt L)),1,Nat.beq L.length 0⟩)]))(hl:srtU L=l):jy P f args [] [(i,some ⟨0,rF iA l,1,Nat.beq l.length 0⟩)] (.sl i 0 0 l.length):=by obtain⟨_,_,⟨v,rfl,rfl⟩,h⟩:=h;subst hl;have e2:rF iA (cmR (srt L))=rF iA (srtU L)++rF iA (List.replicate ((srt L).length-(Lib.compact (srt L)).length) 0):=Ch;rw[abb L,e2]at h;refine xn h hi (fun hb=>?_) (Aj ai _);have h0:(srtU L).length=0:=ay9 hb;have h1:=Yq.1 h0;rw[az1 h0];refine⟨rfl,?_⟩;rw[show(srt L).length-(Lib.compact (srt L)).length=0 by rw[fq];omega];rfl
def alp(x:GTm):srtU (x.a_.flatMap vsP)=srtU (d7 (tmA x)):=by grind[ow,dj,Td]
def aqo(h:bq es (fun y=>IsEx y)):srtU (es.flatMap csE)=srtU (bi es):=by grind[ow,dq,Te]
theorem agx(h:k<l.length):(rF iA l)[k*1]? =some (vI (l[k])):=by
 have:∀m:List Int,rF iA m=m.map fun x=>vI x:=fun m=>by
  induction m with
  |nil=>rfl
  |cons a m ih=>rw[ly,ih];rfl
 rw[this,Nat.mul_one];simp[h]
structure KD where
 k:Nat
 i:Nat
 M:List Int
def kpB(own:List Int)(v:Int):Bool:=!own.contains v
structure DelI(own l:List Int)(j:Nat)(s:KD):Prop where
 len:s.M.length=l.length
 ik:s.i<(j+1+s.k)
 fr:s.M.take s.i=(l.take ((j+1+s.k))).filter (kpB own)
 bk:s.M.drop ((j+1+s.k))=l.drop ((j+1+s.k))
section
variable{own l:List Int}{j:Nat}{s:KD}
def del0(hj:j<l.length)(hc:own.contains l[j]=true)(hb:∀k (h:k<l.length),k<j->own.contains l[k]=false):DelI own l j ⟨0,j,l⟩:=by refine⟨rfl,by show j<(j+1+0);omega,?_,rfl⟩;show l.take j=(l.take ((j+1+0))).filter (kpB own);rw[Nat.add_zero,azj hj,List.filter_append];have e1:[l[j]].filter (kpB own)=[]:=(by simp[kpB];simpa using hc);rw[e1,List.append_nil,List.filter_eq_self.2];intro a ha;obtain⟨k,hk,rfl⟩:=azs ha;have h0:k<j:=(by rw[List.length_take]at hk;omega);rw[List.getElem_take];have h2:k<l.length:=(by omega);have h3:=hb k h2 h0;unfold kpB;rw[h3];rfl
def axc(h:DelI own l j s)(hk:(j+1+s.k)<l.length):s.M[(j+1+s.k)]'(by rw[h.len];exact hk)=l[(j+1+s.k)]:=by have hm:(j+1+s.k)<s.M.length:=(by rw[h.len];exact hk);have e:=h.bk;rw[az3 hm,az3 hk]at e;exact(List.cons.inj e).1
def delK(h:DelI own l j s)(hk:(j+1+s.k)<l.length)(hc:kpB own l[(j+1+s.k)]=true):DelI own l j ⟨s.k+1,s.i+1,s.M.set s.i l[(j+1+s.k)]⟩:=by have hi:=h.ik;have hl:=h.len;have e:(j+1+(s.k+1))=(j+1+s.k)+1:=(by omega);refine⟨by simp[hl],by show s.i+1<(j+1+(s.k+1));omega,by show(s.M.set s.i _).take (s.i+1)=(l.take ((j+1+(s.k+1)))).filter _;have h1:s.i<(s.M.set s.i l[(j+1+s.k)]).length:=(by rw[List.length_set];omega);rw[e,azj h1,List.getElem_set_self,List.take_set_of_le (azm _),h.fr,azj hk,List.filter_append];simp[hc],?_⟩;show(s.M.set s.i _).drop ((j+1+(s.k+1)))=l.drop ((j+1+(s.k+1)));rw[e,List.drop_set_of_lt (by omega),<-List.drop_drop,h.bk,List.drop_drop]
def delD(h:DelI own l j s)(hk:(j+1+s.k)<l.length)(hc:kpB own l[(j+1+s.k)]=false):DelI own l j ⟨s.k+1,s.i,s.M⟩:=by have hi:=h.ik;have e:(j+1+(s.k+1))=(j+1+s.k)+1:=(by omega);refine⟨h.len,by show s.i<(j+1+(s.k+1));omega,by show s.M.take s.i=(l.take ((j+1+(s.k+1)))).filter _;rw[e,h.fr,azj hk,List.filter_append];simp[hc],?_⟩;show s.M.drop ((j+1+(s.k+1)))=l.drop ((j+1+(s.k+1)));rw[e,<-List.drop_drop,h.bk,List.drop_drop]
def aqk(h:DelI own l j s)(hk:¬(j+1+s.k)<l.length):s.M.take s.i=l.filter (kpB own):=by rw[h.fr,az0 (by omega)]
end
def abz{η:bm}{id:Nat}{M R:List Int}(hi:i<=M.length)(hb:η id=some ⟨v,rF iA (M.take i++R),1,false⟩):FzP [id] η (.sl id v 0 i) (isA (M.take i)):=by grind[FzP.pre,azc,Js,List.length_take,Nat.min_eq_left]
def aen:cw prog 217=true:=by kernel_rfl
def ael:cw prog 256=true:=by kernel_rfl
def row3:ey prog 3=some none:=by kernel_rfl
def afq(x:GTm)(hx:FitTm x)(h7:(d7 (tmA x)).length<=1099511627776):Fa prog 255 [.agg (tmA x)] [] (fun q hb'=>∃v,q=.sl 1 v 0 (Lib.compact (srt (x.a_.flatMap vsP))).length/\hb'=[(1,some ⟨v,rF iA (cmR (srt (x.a_.flatMap vsP))),1,Nat.beq (x.a_.flatMap vsP).length 0⟩)]):=by rw[dj]at h7;refine Fa.of_vc ua [22,30,32] [] func255 rfl ntmps255 rfl (by kernel_rfl) (LenG.of (LpG.via (fun _ h=>bl 3 1 rfl 2 rfl h) (LpG.on (fun k0:KW Int=>(⟨fL [(3,.sl 1 k0.v 0 k0.L.length),(7,.tree 5 (x.a_.map ptA)),(8,vI x.a_.length),(9,vI k0.k)],hLz [(1,⟨k0.v,rF iA k0.L,1,Nat.beq k0.L.length 0⟩)],2⟩:St)) (fun k0=>(x.a_.length-k0.k)) (fun k0=>(k0.k<=x.a_.length/\VsI vsP x.a_ k0)) (⟨0,[],0⟩:KW Int) (cnS (by rfl) (hpS (ab ai _ _) (by rfl) trivial)) ⟨azk _,atm⟩ ?_)));rintro k0 h6;have hgr_k0:x.a_.length<=140737488355328:=hx.a_.1;obtain⟨hle_k0,h1⟩:=h6;apply cL<;>intro h0;have h5:=Kv h1 h0 fun p _=>Di p;have hv:=h1.v;have hpt:=hx.a_.1;refine IdxG.of ‹_› (cE (fun h2=>?_) (fun h2=>?_));have h9:0<x.a_[k0.k].of_.length:=(by have:=(hx.a_.2 _ (ay7 h0)).kd.2.1 h2;omega);obtain⟨y0,h3,ha⟩:=((hx.a_.2 _ (ay7 h0)).of_.2 (x.a_[k0.k].of_[0]) (ay7 h9)).open_;have hkd:=(hx.a_.2 _ (ay7 h0)).kd.2.1 h2;have h8:x.a_[k0.k].of_=[tmA y0]:=co (by omega) h3;have h4:vsP x.a_[k0.k]=srtU (d7 (tmA y0)):=(by unfold vsP;rw[azg h2,h8];simp only[ve]);rw[h4]at h5;have hvb:=xp (ver:=k0.v) (n:=(k0.L++srtU (d7 (tmA y0))).length);refine cb (j:=0) ‹_› h3 (ArgG.mk (Qg (tmA y0) (Cr ha) (azp (Sp hx (ay7 h0) (by rw[h8];simp)) (by rw[dj];exact h7))) rfl ?_);rintro _ rfl;refine OpG.mk _ _ _ 3 (d4 ai (l:=k0.L) (l':=srtU (d7 (tmA y0))) underlying53 sz3 zr3 by3 rfl rfl rfl rfl (by omega) (by omega) (by unfold TV;omega)) rfl rfl ⟨by omega,⟨(⟨k0.k+1,k0.L++srtU (d7 (tmA y0)),vbX k0.v (k0.L++srtU (d7 (tmA y0))).length⟩:KW Int),(nsA ‹_›),(cnS (by rfl) (hpS (ab ai _ _) (by rfl) trivial)),?_⟩⟩;exact⟨‹_›,ul h1 h0 h4 (by omega)⟩;have h4:vsP x.a_[k0.k]=[x.a_[k0.k].p_]:=(by unfold vsP;rw[azf h2]);rw[h4]at h5;simp only[azu,azv]at h5;refine OpG.mk _ _ _ 4 (ah ai (a:=(x.a_[k0.k].p_)) underlying53 sz3 zr3 by3 rfl rfl rfl (am rfl rfl rfl rfl) rfl (by omega) (by omega) (by unfold TV;omega)) rfl rfl ⟨by omega,⟨(⟨k0.k+1,k0.L++[x.a_[k0.k].p_],k0.v+1⟩:KW Int),(nsA ‹_›),(cnS (by rfl) (hpS (ab ai _ _) (by rfl) trivial)),?_⟩⟩;exact⟨‹_›,ul h1 h0 h4 (by omega)⟩;have h5:=zp h1 fun p _=>Di p;refine OpG.mk _ _ _ 2 (bg [(TOP,1)] v8 (ux k0.L k0.v (by omega)) rfl rfl rfl rfl ⟨ig ai,trivial⟩ ⟨d5 ai,trivial⟩ ⟨c9 ai _ _,trivial⟩ rfl rfl rfl rfl (bv ai rfl) rfl) rfl rfl (OpG.mk _ _ _ 2 (bg [(TOP,1)] ya (lq k0.L k0.v (by omega)) rfl rfl rfl rfl ⟨ig ai,trivial⟩ ⟨ac6 fq,trivial⟩ ⟨c9 ai _ _,trivial⟩ rfl rfl rfl rfl (bv ai rfl) rfl) rfl rfl ?_);refine⟨.inr rfl,_,_,Pn.of (hb':=[(1,some ⟨k0.v,rF iA (cmR (srt k0.L)),1,Nat.beq k0.L.length 0⟩)]) [] (cy rfl (.cons (ay3.tmp rfl) .nil)) rfl ⟨.same rfl (by decide),trivial⟩ .same,have hL:=h1.eq;?_⟩;rw[az0 (by omega)]at hL;exact⟨k0.v,(by rw[<-hL];rfl),(by rw[<-hL])⟩
def at9(x:GTm)(hx:FitTm x)(h0:(d7 (tmA x)).length<=1099511627776):jy prog 255 [.agg (tmA x)] [] [(1,some ⟨0,rF iA (srtU (d7 (tmA x))),1,Nat.beq (srtU (d7 (tmA x))).length 0⟩)] (.sl 1 0 0 (srtU (d7 (tmA x))).length):=Lz (by decide) (afq x hx h0) (alp x)
def ajl(es:List (List AV))(h4:bq es (fun y=>IsEx y))(h8:(bi es).length<=1099511627776):Fa prog 185 [.tree 8 (es.map rwA)] [] (fun q hb'=>∃v,q=.sl 0 v 0 (Lib.compact (srt (es.flatMap csE))).length/\hb'=[(0,some ⟨v,rF iA (cmR (srt (es.flatMap csE))),1,Nat.beq (es.flatMap csE).length 0⟩)]):=by refine Fa.of_vc ua [24,27,29] [] func185 rfl ntmps185 rfl (by kernel_rfl) (LenG.of (LpG.via (fun _ h=>bl 3 1 rfl 1 rfl h) (LpG.on (fun k0:KW Int=>(⟨fL [(3,.sl 0 k0.v 0 k0.L.length),(6,.tree 8 (es.map rwA)),(7,vI es.length),(8,vI k0.k)],hLz [(0,⟨k0.v,rF iA k0.L,1,Nat.beq k0.L.length 0⟩)],1⟩:St)) (fun k0=>(es.length-k0.k)) (fun k0=>(k0.k<=es.length/\VsI csE es k0)) (⟨0,[],0⟩:KW Int) (cnS (by rfl) (hpS (ab ai _ _) (by rfl) trivial)) ⟨azk _,atm⟩ ?_)));rintro k0 h7;have hgr_k0:es.length<=140737488355328:=h4.1;obtain⟨hle_k0,h1⟩:=h7;apply cL<;>intro h2;obtain⟨x0,h0,h9⟩:=(h4.2 _ (ay7 h2)).open_;have h3:=Kv h1 h2 fun r hr=>Er (h4.2 r hr);rw[<-dq]at h3;have hv:=h1.v;have hpt:=h4.1;have h6:=M4 x0;rw[h0,h6]at h3;have hvb:=xp (ver:=k0.v) (n:=(k0.L++srtU (bi x0.b_)).length);have hvc:=xp (ver:=k0.v+1) (n:=(k0.L++[x0.j_]++srtU (bi x0.b_)).length);refine cb (j:=k0.k) ‹_› h0 (cE (fun h5=>?_) (fun h5=>?_));rw[azg h5]at h3 h6;simp only[azb,azu,azv]at h3;refine OpG.mk _ _ _ 3 (ah ai (a:=x0.j_) underlying53 sz3 zr3 by3 rfl rfl rfl (am rfl rfl rfl rfl) rfl (by omega) (by omega) (by unfold TV;omega)) rfl rfl (ArgG.mk (J6 x0.b_ h9.b_ (by have h:=M0 h4 h2 h0;rw[h0,rh]at h;exact azp h h8)) rfl ?_);rintro _ rfl;refine OpG.mk _ _ _ 3 (d4 ai (l:=k0.L++[x0.j_]) (l':=srtU (bi x0.b_)) underlying53 sz3 zr3 by3 rfl rfl rfl rfl (by simp only[azb,azu,azv];omega) (by simp only[azb,azu,azv];omega) (by unfold TV;omega)) rfl rfl ⟨by omega,⟨(⟨k0.k+1,k0.L++[x0.j_]++srtU (bi x0.b_),vbX (k0.v+1) (k0.L++[x0.j_]++srtU (bi x0.b_)).length⟩:KW Int),(nsA ‹_›),(cnS (by rfl) (hpS (ab ai _ _) (by rfl) trivial)),?_⟩⟩;refine⟨‹_›,?_⟩;(rw[List.append_assoc];exact ul h1 h2 (by rw[h0];exact h6) (azp xp.2 (by omega)));rw[azf h5]at h3 h6;simp only[azb,azu,azv]at h3;refine ArgG.mk (J6 x0.b_ h9.b_ (by have h:=M0 h4 h2 h0;rw[h0,rh]at h;exact azp h h8)) rfl ?_;rintro _ rfl;refine OpG.mk _ _ _ 2 (d4 ai (l:=k0.L) (l':=srtU (bi x0.b_)) underlying53 sz3 zr3 by3 rfl rfl rfl rfl (by omega) (by omega) (by unfold TV;omega)) rfl rfl ⟨by omega,⟨(⟨k0.k+1,k0.L++srtU (bi x0.b_),vbX k0.v (k0.L++srtU (bi x0.b_)).length⟩:KW Int),(nsA ‹_›),(cnS (by rfl) (hpS (ab ai _ _) (by rfl) trivial)),?_⟩⟩;exact⟨‹_›,ul h1 h2 (by rw[h0];simpa using h6) (azp xp.2 (by omega))⟩;have h3:=zp h1 fun r hr=>Er (h4.2 r hr);rw[<-dq]at h3;refine OpG.mk _ _ _ 1 (bg [(TOP,0)] v8 (ux k0.L k0.v (by omega)) rfl rfl rfl rfl ⟨ig ai,trivial⟩ ⟨d5 ai,trivial⟩ ⟨c9 ai _ _,trivial⟩ rfl rfl rfl rfl (bv ai rfl) rfl) rfl rfl (OpG.mk _ _ _ 1 (bg [(TOP,0)] ya (lq k0.L k0.v (by omega)) rfl rfl rfl rfl ⟨ig ai,trivial⟩ ⟨ac6 fq,trivial⟩ ⟨c9 ai _ _,trivial⟩ rfl rfl rfl rfl (bv ai rfl) rfl) rfl rfl ?_);refine⟨.inr rfl,_,_,Pn.of (hb':=[(0,some ⟨k0.v,rF iA (cmR (srt k0.L)),1,Nat.beq k0.L.length 0⟩)]) [] (cy rfl (.cons (ay3.tmp rfl) .nil)) rfl ⟨.same rfl (by decide),trivial⟩ .same,have hL:=h1.eq;?_⟩;rw[az0 (by omega)]at hL;exact⟨k0.v,(by rw[<-hL];rfl),(by rw[<-hL])⟩
def axf(es:List (List AV))(h0:bq es (fun y=>IsEx y))(h1:(bi es).length<=1099511627776):jy prog 185 [.tree 8 (es.map rwA)] [] [(0,some ⟨0,rF iA (srtU (bi es)),1,Nat.beq (srtU (bi es)).length 0⟩)] (.sl 0 0 0 (srtU (bi es)).length):=Lz (by decide) (ajl es h0 h1) (aqo h0)
def Z2(l:List Int)(hl:bq l (fun y=>True))(v:Int):PRet prog 234 [.tree 1 (l.map iA),vI v] (fun q=>∃i:Int,q=vI i/\(0<=i↔v∈l)):=by refine ovT [] [] func234 rfl rfl (LenG.of (LpG.on (fun k0:Nat=>(⟨fL [(0,.tree 1 (l.map iA)),(1,vI v),(7,vI l.length),(8,vI k0)],hLz [],0⟩:St)) (fun k0=>(l.length-k0)) (fun k0=>(k0<=l.length/\∀j (hl:j<l.length),j<k0->¬v=l[j])) 0 (cnR rfl) ⟨azk _,fun j _ h=>absurd h (azl j)⟩ ?_));rintro k0 h2;have hgr_k0:l.length<=140737488355328:=hl.1;obtain⟨hle_k0,h1⟩:=h2;apply cL<;>intro h3;refine IdxG.of ‹_› (cB (fun h0=>by have h4:(v:Int)=(l[k0]:Int):=(by simpa using h0);exact rV rfl rfl ⟨_,rfl,fun _=>by rw[show v=_ from by simpa using h0];exact ay7 h3,fun _=>by omega⟩) (fun h0=>have h4:¬((v:Int)=(l[k0]:Int)):=(by simpa using h0);⟨by omega,⟨(k0+1),by omega,(cnR rfl),⟨by omega,fun j hl h=>?_⟩⟩⟩));rcases azn.1 h with h|rfl;exact h1 j hl h;simpa using h0;exact rV rfl rfl ⟨_,rfl,fun h=>absurd h (by decide),fun h=>by obtain⟨j,hj,e⟩:=azs h;exact absurd e.symm (h1 j hj (by omega))⟩
def J2(l:List Int)(hl:bq l (fun y=>True))(v:Int):PRet prog 199 [.tree 1 (l.map iA),vI v] (fun q=>q=vB (l.contains v)):=by refine ovT [] [] func199 rfl rfl (ArgG.mk (Z2 l hl v) rfl ?_);rintro _ ⟨i0,rfl,h0⟩;exact rV rfl rfl (congrArg vB (Bool.eq_iff_iff.2 (by rw[List.contains_iff_mem,<-h0];simp)))
def aq1(v:Int)(own:List Int)(h0:bq own (fun _=>True)):PRet prog 217 [vI v,.tp [isA own] 0] (fun q=>q=vB (own.contains v)):=by refine ovT [] [] func217 rfl rfl (ArgG.mk (J2 own h0 v) rfl ?_);rintro _ rfl;exact rV rfl rfl rfl
def G6(l:List Int)(hl:bq l (fun y=>True))(own:List Int)(h3:bq own (fun _=>True)):PRet prog 256 [.tree 1 (l.map iA),.clo 217 [.tp [isA own] 0]] (fun q=>∃i:Int,q=vI i/\((i=-1/\∀x∈l,own.contains x=false)\/∃j:Nat,i=((j:Nat):Int)/\∃h:j<l.length,own.contains l[j]=true/\∀k (hk:k<l.length),k<j->own.contains l[k]=false)):=by refine ovT [16] [] func256 rfl rfl (LenG.of (LpG.on (fun k0:Nat=>(⟨fL [(0,.tree 1 (l.map iA)),(1,.clo 217 [.tp [isA own] 0]),(7,vI l.length),(8,vI k0)],hLz [],0⟩:St)) (fun k0=>(l.length-k0)) (fun k0=>(k0<=l.length/\∀j (hl:j<l.length),j<k0->own.contains l[j]=false)) 0 (cnR rfl) ⟨azk _,fun j _ h=>absurd h (azl j)⟩ ?_));rintro k0 h4;have hgr_k0:l.length<=140737488355328:=hl.1;obtain⟨hle_k0,h0⟩:=h4;apply cL<;>intro h5;obtain⟨_,rfl,h2⟩:=aq1 l[k0] own h3;refine IdxG.of ‹_› (OpG.lk (sk aen rfl rfl rfl h2) (cB (fun h1=>rV rfl rfl ⟨_,rfl,.inr ⟨k0,rfl,h5,h1,fun k hk h=>h0 k hk h⟩⟩) (fun h1=>⟨by omega,⟨(k0+1),by omega,(cnR rfl),⟨by omega,fun j hl h=>?_⟩⟩⟩)));rcases azn.1 h with h|rfl;exact h0 j hl h;exact h1;exact rV rfl rfl ⟨_,rfl,.inl ⟨rfl,fun x hx=>by obtain⟨j,hj,rfl⟩:=azs hx;exact h0 j hj (by omega)⟩⟩
def aqi(l own:List Int)(h0:0<l.length)(hl:l.length<=140737488355328)(h3:bq own (fun _=>True)):aby prog 216 [.sl 1000000 0 0 l.length,.clo 217 [.tp [isA own] 0]] [(1000000,⟨0,rF iA l,1,false⟩)] [(1000000,none)] (fun q=>q=isA (l.filter (kpB own))):=by have h9:bq l (fun _=>True):=⟨hl,fun _ _=>trivial⟩;refine aby.of_vc ua [10,24,25,28,33,38,41,99999,100033] [] func216 rfl ntmps216 rfl (by kernel_rfl) ?_;obtain⟨_,⟨i0,rfl,h8⟩,h6⟩:=G6 l h9 own h3;refine OpG.lk (rn [1000000] ael rfl (fun i h h'=>match i,h with|0,_=>fg ai (azc.2 rfl) rfl|1,_=>FzP.pure rfl) h6) (cE (fun h4=>?_) (fun h4=>?_));exact⟨.inr rfl,_,Pn.of [1000000] (cy rfl (.cons (ay3.tmp rfl) .nil)) rfl ⟨.gone,trivial⟩ (.fz (fg ai (azc.2 rfl) rfl)),congrArg isA (List.filter_eq_self.2 fun x hx=>by unfold kpB;rw[h8.elim (fun h=>h.2 x hx) (fun⟨j,e,_⟩=>by omega)];rfl).symm⟩;obtain⟨j1,rfl,hj1l,ha,hb⟩:=(h8.resolve_left (fun h=>h4 h.1));have hlen1:l.length-(j1+1)+(j1+1)=l.length:=(by omega);refine⟨by omega,LpG.on (fun k0:KD=>(⟨fL [(0,.sl 1000000 0 0 l.length),(1,.clo 217 [.tp [isA own] 0]),(5,vI k0.i),(6,vI ((((j1+1+k0.k)):Nat):Int))],hLz [(1000000,⟨0,rF iA k0.M,1,false⟩)],0⟩:St)) (fun k0=>((l.length-(j1+1))-k0.k)) (fun k0=>(k0.k<=(l.length-(j1+1))/\DelI own l j1 k0)) (⟨0,j1,l⟩:KD) (cnS rfl (hpS (ab ai _ _) rfl trivial)) ⟨azk _,del0 hj1l ha hb⟩ ?_⟩;rintro k0 h7;obtain⟨hle_k0,h1⟩:=h7;apply cL<;>intro hk;have hc:=h1.len;have hd:=h1.ik;have he:=axc h1 hk;obtain⟨_,rfl,h5⟩:=aq1 l[(j1+1+k0.k)] own h3;refine OpG.lk (dy (k:=(j1+1+k0.k)) ai underlying53 sz3 rfl rfl rfl hk rfl) (OpG.lk (lD row3 rfl rfl rfl rfl ((agx (by omega)).trans (by rw[he]))) ?_);refine OpG.lk (sk aen rfl rfl rfl h5) (cB (fun h2=>?_) (fun h2=>?_));refine OpG.lk (dy (k:=k0.i) ai underlying53 sz3 rfl rfl rfl (by omega) rfl) (OpG.wr (lu (k:=k0.i) (o:=0) (v:=l[(j1+1+k0.k)]) ai sz3 rfl rfl rfl rfl rfl rfl (by omega) (by decide) rfl) rfl ?_);exact⟨by omega,⟨by omega,⟨(⟨k0.k+1,k0.i+1,k0.M.set k0.i l[(j1+1+k0.k)]⟩:KD),(by show(l.length-(j1+1))-(k0.k+1)<(l.length-(j1+1))-k0.k;omega),(cnS rfl (hpS (ab ai _ _) rfl trivial)),⟨by show k0.k+1<=_;omega,delK h1 hk (by simpa[kpB]using h2)⟩⟩⟩⟩;exact⟨by omega,⟨(⟨k0.k+1,k0.i,k0.M⟩:KD),(by show(l.length-(j1+1))-(k0.k+1)<(l.length-(j1+1))-k0.k;omega),(cnS rfl (hpS (ab ai _ _) rfl trivial)),⟨by show k0.k+1<=_;omega,delD h1 hk (by simpa[kpB]using h2)⟩⟩⟩;have hc:=h1.len;have hd:=h1.ik;refine OpG.lk (Xo underlying53 sz3 rfl rfl rfl rfl rfl rfl rfl (by omega)) (OpG.wr (Py (i:=k0.i) (l:=k0.M) underlying53 zr3 rfl rfl (by omega) (by omega)) rfl ?_);exact OpG.lk (Xj underlying53 sz3 rfl rfl rfl rfl rfl rfl rfl (by omega)) ⟨.inr rfl,_,Pn.of [1000000] (cy rfl (.cons (ay3.tmp rfl) .nil)) rfl ⟨.gone,trivial⟩ (.fz (abz (by omega) rfl)),congrArg isA (aqk h1 hk)⟩
def delF(l own:List Int)(h0:0<l.length)(hl:l.length<=140737488355328)(h1:bq own (fun _=>True)):jy prog 216 [.sl TOP 0 0 l.length,.clo 217 [.tp [isA own] 0]] [(TOP,⟨0,rF iA l,1,Nat.beq l.length 0⟩)] [(TOP,none)] (isA (l.filter (kpB own))):=by obtain⟨_,rfl,h⟩:=aqi l own h0 hl h1;rw[kg (by omega:l.length≠0)];exact h
end Go.Proofs.YtfpfdfhlljjckaaGreatDoor
