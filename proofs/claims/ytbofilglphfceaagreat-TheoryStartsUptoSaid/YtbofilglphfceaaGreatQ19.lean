import Derived.Lib.Bytealg
import Derived.Test.YtbofilglphfceaaGreatQ18
namespace Go.Proofs.YtbofilglphfceaaGreat
set_option linter.unusedVariables false
set_option linter.unusedSimpArgs false
open Go.RowKit
theorem Li (x:Tm):1<=jQ x:=by rw [zw];omega
theorem s6 (d:Int):∀ (l:List Tm) (h:∀ x ∈ l,∀ c,0<=c->((bp x d c).1=(gH x && decide ((cM x:Int)<=c) && decide ((jQ x:Int)<=d)))/\((bp x d c).1=true->(bp x d c).2=c - cM x)) (c:Int),0<=c->0<=d ->
  ((cw l d c).1=(iU l && decide ((bj l:Int)<=c) && decide ((fj l:Int)<=d)))/\((cw l d c).1=true->(cw l d c).2=c - bj l)
 |[],h,c,hc,hd=>by
  rw [cw,iU,bj,fj]
  exact⟨by simp [hc,hd],fun _=>by simp⟩
 |x::l,h,c,hc,hd=>by
  obtain⟨h1,h2⟩:=h x (by simp) c hc
  rw [cw,iU,bj,fj]
  cases hv:(bp x d c).1 with
  |false =>
   rw [hv] at h1
   rw [if_neg (by simp)]
   refine⟨?_,fun h=>by cases h⟩
   show false=_
   cases hf:gH x<;>cases hg:iU l<;>simp only [hf,Bool.true_and,Bool.false_and,Bool.and_false,Bool.and_true] at h1 ⊢
   all_goals try rfl
   symm
   replace h1:=h1.symm
   rw [Bool.and_eq_false_iff,decide_eq_false_iff_not,decide_eq_false_iff_not] at h1 ⊢
   omega
  |true =>
   rw [if_pos rfl]
   have h3:=h2 hv
   rw [hv] at h1
   have h4:gH x=true/\(cM x:Int)<=c/\(jQ x:Int)<=d:=by
    have:=h1.symm
    rw [Bool.and_eq_true,Bool.and_eq_true,decide_eq_true_eq,decide_eq_true_eq] at this
    exact⟨this.1.1,this.1.2,this.2⟩
   obtain⟨h5,h6⟩:=s6 d l (fun y hy=>h y (by simp [hy])) (c - cM x) (by omega) hd
   rw [h3]
   refine⟨?_,fun h=>by rw [h6 h];push_cast;omega⟩
   rw [h5,h4.1,Bool.true_and]
   have e1:decide ((bj l:Int)<=c - cM x)=decide (((cM x+bj l:Nat):Int)<=c):=decide_eq_decide.2 (by omega)
   have e2:decide ((fj l:Int)<=d)=decide (((max (jQ x) (fj l):Nat):Int)<=d):=decide_eq_decide.2 (by omega)
   rw [e1,e2]
theorem Cn (x:Tm):∀ (d c:Int),0<=c->((bp x d c).1=(gH x && decide ((cM x:Int)<=c) && decide ((jQ x:Int)<=d)))/\((bp x d c).1=true->(bp x d c).2=c - cM x):=by
 refine Tm.ind (p:=fun x=>∀ (d c:Int),0<=c->((bp x d c).1=(gH x && decide ((cM x:Int)<=c) && decide ((jQ x:Int)<=d)))/\((bp x d c).1=true->(bp x d c).2=c - cM x)) ?_ x
 intro k i n a ih d c hc
 have hs:=mo ⟨k,i,n,a⟩
 have hd:=Li ⟨k,i,n,a⟩
 have EM:=s5 ⟨k,i,n,a⟩
 have eK:=zw ⟨k,i,n,a⟩
 by_cases h0:c - 1 < 0\/d < 1
 ·rw [bp,if_pos h0]
  refine⟨?_,fun h=>by cases h⟩
  show false=_
  symm
  rw [Bool.and_eq_false_iff,Bool.and_eq_false_iff,decide_eq_false_iff_not,decide_eq_false_iff_not]
  rcases h0 with h|h
  ·exact .inl (.inr (by omega))
  ·exact .inr (by omega)
 have hA:=s6 (d - 1) a (fun y hy c hc=>ih y hy (d - 1) c hc) (c - 1)
 by_cases h2:k=2
 ·subst h2
  have e:jP ⟨2,i,n,a⟩=a:=rfl
  rw [e] at EM eK
  obtain⟨h5,h6⟩:=hA (by omega) (by omega)
  rw [EM,eK,bp,if_neg h0,if_neg (by decide:¬ (2:Int)=0),if_neg (by decide:¬ (2:Int)=1),if_pos (rfl:(2:Int)=2),gH,if_neg (by decide:¬ (2:Int)=0),if_neg (by decide:¬ (2:Int)=1),if_pos (rfl:(2:Int)=2)]
  have e1:decide ((bj a:Int)<=c - 1)=decide (((1+bj a:Nat):Int)<=c):=decide_eq_decide.2 (by omega)
  have e2:decide ((fj a:Int)<=d - 1)=decide (((1+fj a:Nat):Int)<=d):=decide_eq_decide.2 (by omega)
  rw [e1,e2] at h5
  split
  ·rename_i hz
   refine⟨?_,fun h=>by cases h⟩
   show false=_
   symm
   have:(i == 0 && (gm n && a.length == 2 || gk n && decide (a.length<=6)))=false:=by
    cases ho:gm n<;>cases hn:gk n<;>simp<;>omega
   rw [this];rfl
  ·rename_i hz
   have hi:i=0:=by omega
   have hl:a.length<=6:=by omega
   split
   ·rename_i hw
    refine⟨?_,fun h=>by rw [h6 h];push_cast;omega⟩
    rw [h5]
    have:(i == 0 && (gm n && a.length == 2 || gk n && decide (a.length<=6)))=true:=by
     subst hi
     rw [decide_eq_true hl,Bool.and_true,Bool.or_comm]
     exact hw
    rw [this,Bool.true_and]
   ·rename_i hw
    refine⟨?_,fun h=>by cases h⟩
    show false=_
    symm
    have:(gm n && a.length == 2 || gk n && decide (a.length<=6))=false:=by
     rw [decide_eq_true hl,Bool.and_true,Bool.or_comm]
     simpa using hw
    rw [this,Bool.and_false];rfl
 ·have e:jP ⟨k,i,n,a⟩=[]:=by rw [jP,if_neg h2]
  rw [e,bj] at EM
  rw [e,fj] at eK
  have e1:decide (((1+0:Nat):Int)<=c)=true:=decide_eq_true (by omega)
  have e2:decide (((1+0:Nat):Int)<=d)=true:=decide_eq_true (by omega)
  rw [EM,eK,e1,e2,Bool.and_true,Bool.and_true,bp,if_neg h0,gH,if_neg h2]
  refine⟨?_,?_⟩
  ·(repeat' split)<;>rfl
  ·intro _
   (repeat' split)<;>(show c - 1=_;omega)
theorem Lj (x:Tm):(bp x 20 200).1=gE x:=by
 rw [(Cn x 20 200 (by omega)).1,gE]
 have e1:decide ((cM x:Int)<=200)=decide (cM x<=200):=decide_eq_decide.2 (by omega)
 have e2:decide ((jQ x:Int)<=20)=decide (jQ x<=20):=decide_eq_decide.2 (by omega)
 rw [e1,e2]
section
set_option maxRecDepth 100000
attribute [local irreducible] ah bc ad ab
def N_:CF Tryz.f106:=⟨_,by conv=>lhs;cbv⟩
theorem W6:aH Tryz.prog 106 N_.1 Tryz.f106.ntmps:=aQ Tryz.func106 N_.2 Tryz.call106
def Td:List Nat:=[2,0,3,1]
def Oa:CF Tryz.f105:=⟨_,by conv=>lhs;cbv⟩
theorem W7:aH Tryz.prog 105 Oa.1 Tryz.f105.ntmps:=aQ Tryz.func105 Oa.2 Tryz.call105
def Co:List Nat:=[1,2,0,3]
theorem Aw:∀ l:List Tm,bj l<=200->l.all gE=(iU l && decide ((fj l:Int)<=20))
 |[],_=>by rw [iU,fj];rfl
 |x::l,h=>by
  rw [bj] at h
  rw [List.all_cons,Aw l (by omega),iU,fj,gE]
  have e1:decide (cM x<=200)=true:=decide_eq_true (by omega)
  have e2:decide (((max (jQ x) (fj l):Nat):Int)<=20)=(decide (jQ x<=20) && decide ((fj l:Int)<=20)):=by
   rw [Bool.eq_iff_iff,Bool.and_eq_true];simp only [decide_eq_true_eq];omega
  rw [e1,e2]
  cases gH x<;>cases iU l<;>cases decide (jQ x<=20)<;>simp
theorem Ax (l:List Tm):(cw l 20 200).1=ld l:=by
 rw [(s6 20 l (fun x _ c hc=>Cn x 20 c hc) 200 (by omega) (by omega)).1,ld]
 have e1:decide ((bj l:Int)<=200)=decide (bj l<=200):=decide_eq_decide.2 (by omega)
 rw [e1]
 cases h:decide (bj l<=200) with
 |false=>simp
 |true =>
  rw [Aw l (of_decide_eq_true h)]
  cases iU l<;>simp
section
variable {w0:World}{ρ:Hd}
theorem Lk (mq:∀ s:ByteArray,ah Tryz.prog w0 272 [.v (.string s)] (.v (.bool (gm s)))) (x:Tm) (hx:x.ok):ah Tryz.prog w0 106 [tm ρ x] (.v (.bool (gE x))):=by
 have bI:=zz (ρ:=ρ) mq x 20 200 hx (by omega) (by omega) (by omega) (by omega)
 have hr:=Lj x
 obtain⟨⟨b,c1⟩,lB⟩:∃ p,p=bp x 20 200:=⟨_,rfl⟩
 rw [<-lB] at bI hr
 simp only at bI hr
 rw [<-hr]
 clear hr lB mq
 refine W6.aG (by simp [Tryz.ntmps106]) (.v) ?_
 refine gq Td ?_
 repeat' (first
  |((refine ab.a_ rfl (ad.iS (m:=[(0,1)]) (to:=[(1,some (eQ c1))]) bI rfl ⟨Rn.pt rfl rfl,Rn.pure (ba _),Rn.pure .v,trivial⟩ (Rb.pure .v) rfl rfl ⟨⟨_,rfl,hO.pure (gz _)⟩,trivial⟩ ⟨⟨0,_,rfl,rfl,iD.pure (gz _)⟩,trivial⟩ rfl (by repeat (first|exact (fun _ _ h=>by cases h)|refine jt ?_ rfl)) (.inr rfl)) (fun hb=>?_) (fun hb=>?_)<;>refine gq Td ?_))
  |(refine fq ?_))
 all_goals (refine aC ?_;rw [hb])
theorem Ll (mq:∀ s:ByteArray,ah Tryz.prog w0 272 [.v (.string s)] (.v (.bool (gm s)))) (x:At) (hx:x.ok) (hn:x.n.size<=1099511627776):ah Tryz.prog w0 105 [at_ ρ x] (.v (.bool (eh x))):=by
 obtain⟨n,a⟩:=x
 obtain⟨hl,hk⟩:=hx
 dsimp only at hl hk hn
 have bI:=sj (w0:=w0) (ρ:=ρ) (a:=a) 20 (fun y hy c' h0 h1=>⟨(fc y _ _ h0).1,(fc y _ _ h0).2,zz (ρ:=ρ) mq y 20 c' (hk.mem y hy) h0 h1 (by omega) (by omega)⟩) hl 200 (by omega) (by omega)
 have hr:=Ax a
 obtain⟨⟨b,c1⟩,lB⟩:∃ p,p=cw a 20 200:=⟨_,rfl⟩
 rw [<-lB] at bI hr
 simp only at bI hr
 have hL:decide (a.length<=6)=decide ((a.length:Int)<=6):=decide_eq_decide.2 (by omega)
 rw [eh,hL,<-hr]
 clear hr lB mq
 refine W7.aG (by simp [Tryz.ntmps105]) (.v) ?_
 refine gq Co ?_
 repeat' (first
  |(refine ab.a_ rfl (ad.ag rfl (sh _ hn) ⟨.v,trivial⟩) (fun _=>?_) (fun _=>?_)<;>refine gq Co ?_)
  |((refine ab.a_ rfl (ad.iS (m:=[(0,1)]) (to:=[(1,some (eQ c1))]) bI rfl ⟨Rn.pt rfl rfl,Rn.pure (bC _),Rn.pure .v,trivial⟩ (Rb.pure .v) rfl rfl ⟨⟨_,rfl,hO.pure (gz _)⟩,trivial⟩ ⟨⟨0,_,rfl,rfl,iD.pure (gz _)⟩,trivial⟩ rfl (by repeat (first|exact (fun _ _ h=>by cases h)|refine jt ?_ rfl)) (.inr rfl)) (fun hb=>?_) (fun hb=>?_)<;>refine gq Co ?_))
  |(refine bq (fun hb=>?_) (fun hb=>?_)<;>(try simp only [aq] at hb)<;>(first|refine gq Co ?_))
  |(refine aB fun m hm=>?_;(try rw [af] at hm);refine gq Co ?_)
  |(refine fq ?_))
 all_goals (clear bI;refine aC ?_;subst_vars;simp_all<;>(intros;omega))
end
end
section
set_option maxRecDepth 100000
attribute [local irreducible] ah bc ad ab
def Oc:CF Tryz.f420:=⟨_,by conv=>lhs;cbv⟩
theorem W8:aH Tryz.prog 420 Oc.1 Tryz.f420.ntmps:=aQ Tryz.func420 Oc.2 Tryz.call420
def Te:List Nat:=[4,0,1]
def Od:CF Tryz.f393:=⟨_,by conv=>lhs;cbv⟩
theorem W9:aH Tryz.prog 393 Od.1 Tryz.f393.ntmps:=aQ Tryz.func393 Od.2 Tryz.call393
def Cp:List Nat:=[8,0,1,5,9,10,6,11,12,13,4,16,24,31,36,59,64,73,7,93,107,114,132,139]
def Oe:CF Tryz.f362:=⟨_,by conv=>lhs;cbv⟩
theorem W_:aH Tryz.prog 362 Oe.1 Tryz.f362.ntmps:=aQ Tryz.func362 Oe.2 Tryz.call362
def Tg:List Nat:=[4,0,1]
def Of:CF Tryz.f325:=⟨_,by conv=>lhs;cbv⟩
theorem Xa:aH Tryz.prog 325 Of.1 Tryz.f325.ntmps:=aQ Tryz.func325 Of.2 Tryz.call325
def Lm:List Nat:=[4,0,1]
def Og:CF Tryz.f272:=⟨_,by conv=>lhs;cbv⟩
theorem Oh:aH Tryz.prog 272 Og.1 Tryz.f272.ntmps:=aQ Tryz.func272 Og.2 Tryz.call272
def w6:List Nat:=[0,2]
def oP:ByteArray:=⟨#[43,45,42,47,37]⟩
section
variable {w0:World}{ρ:Hd}
theorem ibs (s:ByteArray) (c:Int) (w:World):(callFunc 461 #[.string s,.int .u8 c]).run Tryz.prog w=.ok (.value (.int .i64 (Lib.indexByte s.data.toList c.toNat.toUInt8))) w:=by
 rw [run_callFunc_extern Tryz.func461 (by kernel_rfl) (by kernel_rfl) (by kernel_rfl) (e:=Extern.BytealgIndexByte.indexByte) (by kernel_rfl),Lib.run_indexByteString]
 rfl
theorem D0 (s:ByteArray) (c:Int):ah Tryz.prog w0 420 [.v (.string s),.v (.int .u8 c)] (iv (Lib.indexByte s.data.toList c.toNat.toUInt8)):=by
 refine W8.aG (by simp [Tryz.ntmps420]) (.v) ?_
 refine gq Te ?_
 repeat' (first
  |(refine ab.int rfl (ad.ext (xs:=[.string s,.int .u8 c]) rfl rfl (ibs s c)) fun _ _=>?_;refine gq Te ?_)
  |(refine fq ?_))
 all_goals (subst_vars;exact dI rfl)
theorem Ln (n:ByteArray) (c:UInt8) (h:n.data.toList=[c]):ah Tryz.prog w0 393 [.v (.string oP),.v (.string n)] (iv (Lib.indexByte oP.data.toList c)):=by
 have bH:=jO n
 rw [h] at bH
 have ur:=toL_eq n
 rw [h] at ur
 have hi:idx n.data.toList 0=some c:=wY h
 refine W9.aG (by simp [Tryz.ntmps393]) (.v) ?_
 refine gq Cp ?_
 repeat' (first
  |(refine ab.int rfl (ad.Cg rfl rfl hi) fun _ _=>?_;refine gq Cp ?_)
  |(refine ab.int rfl (ad.ag rfl (D0 _ _) ⟨.v,.v,trivial⟩) fun _ _=>?_;refine gq Cp ?_)
  |(refine bq (fun hb=>?_) (fun hb=>?_)<;>(try simp only [aq] at hb)<;>(first|refine gq Cp ?_))
  |(refine aB fun m hm=>?_;(try rw [af] at hm);refine gq Cp ?_)
  |(refine fq ?_))
 all_goals first
  |(exfalso;simp only [List.length_cons,List.length_nil] at bH;omega)
  |(exfalso;rename_i hb;rw [ur,toL_eq] at hb;simp at hb;done)
  |(subst_vars;exact dI (by simp [oP]))
theorem QX (n:ByteArray) (c:UInt8) (h:n.data.toList=[c]):ah Tryz.prog w0 362 [.v (.string oP),.v (.string n)] (iv (Lib.indexByte oP.data.toList c)):=by
 have hi:=Ln (w0:=w0) n c h
 obtain⟨r,hr⟩:∃ r,r=Lib.indexByte oP.data.toList c:=⟨_,rfl⟩
 rw [<-hr] at hi ⊢
 refine W_.aG (by simp [Tryz.ntmps362]) (.v) ?_
 refine gq Tg ?_
 repeat' (first
  |(refine ab.op rfl (ad.ag rfl hi ⟨.v,.v,trivial⟩) ?_;refine gq Tg ?_)
  |(refine fq ?_))
 all_goals exact dI rfl
theorem F3 (n:ByteArray) (c:UInt8) (h:n.data.toList=[c]):ah Tryz.prog w0 325 [.v (.string oP),.v (.string n)] (.v (.bool (decide (Lib.indexByte oP.data.toList c>=0)))):=by
 have hi:=QX (w0:=w0) n c h
 obtain⟨r,hr⟩:∃ r,r=Lib.indexByte oP.data.toList c:=⟨_,rfl⟩
 rw [<-hr] at hi ⊢
 refine Xa.aG (by simp [Tryz.ntmps325]) (.v) ?_
 refine gq Lm ?_
 repeat' (first
  |(refine ab.op rfl (ad.ag rfl hi ⟨.v,.v,trivial⟩) ?_;refine gq Lm ?_)
  |(refine bq (fun hb=>?_) (fun hb=>?_)<;>(try simp only [aq] at hb)<;>(first|refine gq Lm ?_))
  |(refine fq ?_))
 all_goals (refine aC ?_;simp_all)
theorem Th (n:ByteArray) (c:UInt8) (h:n.data.toList=[c]):gm n=decide (Lib.indexByte oP.data.toList c>=0):=by
 have e:oP.data.toList=[43,45,42,47,37]:=rfl
 rw [gm,toL_eq n,h,e]
 simp only [toL_eq]
 have b:∀ d:UInt8,([c] == [d])=(d == c):=fun d=>by
  rw [Bool.eq_iff_iff];simp;exact eq_comm
 rw [b,b,b,b,b]
 unfold Lib.indexByte Lib.indexByte Lib.indexByte Lib.indexByte Lib.indexByte Lib.indexByte
 cases (43:UInt8) == c<;>cases (45:UInt8) == c<;>cases (42:UInt8) == c<;>cases (47:UInt8) == c<;>cases (37:UInt8) == c<;>rfl
theorem Lo (n:ByteArray) (h:n.size ≠ 1):gm n=false:=by
 rw [jO] at h
 rw [gm]
 simp only [toL_eq]
 have b:∀ d:UInt8,(n.data.toList == [d])=false:=fun d=>by
  rw [beq_eq_false_iff_ne];intro e;rw [e] at h;exact h rfl
 rw [b,b,b,b,b];rfl
theorem Cq (n:ByteArray):ah Tryz.prog w0 272 [.v (.string n)] (.v (.bool (gm n))):=by
 have bH:=jO n
 by_cases h1:n.size=1
 ·obtain⟨c,h⟩:∃ c,n.data.toList=[c]:=by
   rw [h1] at bH
   match hl:n.data.toList,bH with
   |[c],_=>exact⟨c,rfl⟩
   |[],h=>simp at h
   |_::_::_,h=>simp at h
  rw [Th n c h]
  have hi:=F3 (w0:=w0) n c h
  obtain⟨r,hr⟩:∃ r,r=decide (Lib.indexByte oP.data.toList c>=0):=⟨_,rfl⟩
  rw [<-hr] at hi ⊢
  refine Oh.aG (by simp [Tryz.ntmps272]) (.v) ?_
  refine gq w6 ?_
  repeat' (first
   |(refine ab.a_ rfl (ad.ag rfl hi ⟨.v,.v,trivial⟩) (fun _=>?_) (fun _=>?_)<;>refine gq w6 ?_)
   |(refine bq (fun hb=>?_) (fun hb=>?_)<;>(try simp only [aq] at hb)<;>(first|refine gq w6 ?_))
   |(refine aB fun m hm=>?_;(try rw [af] at hm);refine gq w6 ?_)
   |(refine fq ?_))
  all_goals first
   |(exfalso;omega)
   |(refine aC ?_;rename_i hx;rw [hx])
 ·rw [Lo n h1]
  refine Oh.aG (by simp [Tryz.ntmps272]) (.v) ?_
  refine gq w6 ?_
  repeat' (first
   |(refine bq (fun hb=>?_) (fun hb=>?_)<;>(try simp only [aq] at hb)<;>(first|refine gq w6 ?_))
   |(refine aB fun m hm=>?_;(try rw [af] at hm);refine gq w6 ?_)
   |(refine fq ?_))
  all_goals first
   |exact aC rfl
   |(exfalso;omega)
end
end
section
set_option maxRecDepth 100000
attribute [local irreducible] ah bc ad ab
def Oi:CF Tryz.f110:=⟨_,by conv=>lhs;cbv⟩
theorem Xb:aH Tryz.prog 110 Oi.1 Tryz.f110.ntmps:=aQ Tryz.func110 Oi.2 Tryz.call110
def Cr:List Nat:=[1,6,15,18,2,0,7,3,4]
section
variable {w0:World}{ρ:Hd}
theorem QY (x:Tm) (hx:x.ok):ah Tryz.prog w0 106 [tm ρ x] (.v (.bool (gE x))):=Lk Cq x hx
theorem vH (x:At) (hx:x.ok) (hn:x.n.size<=1099511627776):ah Tryz.prog w0 105 [at_ ρ x] (.v (.bool (eh x))):=Ll Cq x hx hn
theorem vI (x:Gl) (hx:x.ok) (hn:x.n.size<=1099511627776):ah Tryz.prog w0 110 [gl ρ x] (.v (.bool (dL x))):=by
 obtain⟨o,n,a⟩:=x
 obtain⟨hl,hk⟩:=hx
 dsimp only at hl hk hn
 have hA:=vH (w0:=w0) (ρ:=ρ) ⟨n,a⟩ ⟨hl,hk⟩ hn
 have bI:=sj (w0:=w0) (ρ:=ρ) (a:=a) 20 (fun y hy c' h0 h1=>⟨(fc y _ _ h0).1,(fc y _ _ h0).2,zz (ρ:=ρ) Cq y 20 c' (hk.mem y hy) h0 h1 (by omega) (by omega)⟩) hl 200 (by omega) (by omega)
 have hr:=Ax a
 obtain⟨⟨b,c1⟩,lB⟩:∃ p,p=cw a 20 200:=⟨_,rfl⟩
 rw [<-lB] at bI hr
 simp only at bI hr
 obtain⟨ra,Ti⟩:∃ ra,ra=eh ⟨n,a⟩:=⟨_,rfl⟩
 rw [<-Ti] at hA
 obtain⟨R,hR⟩:∃ R,R=dL ⟨o,n,a⟩:=⟨_,rfl⟩
 rw [<-hR]
 rw [dL] at hR
 simp only at hR
 rw [<-Ti,<-hr] at hR
 clear hr lB Ti hk
 refine Xb.aG (by simp [Tryz.ntmps110]) (.v) ?_
 refine gq Cr ?_
 repeat' (first
  |(refine ab.a_ rfl (ad.ag rfl hA ⟨de (ρ:=ρ) ⟨n,a⟩,trivial⟩) (fun _=>?_) (fun _=>?_)<;>refine gq Cr ?_)
  |((refine ab.a_ rfl (ad.iS (m:=[(0,1)]) (to:=[(1,some (eQ c1))]) bI rfl ⟨Rn.pt rfl rfl,Rn.pure (bC _),Rn.pure .v,trivial⟩ (Rb.pure .v) rfl rfl ⟨⟨_,rfl,hO.pure (gz _)⟩,trivial⟩ ⟨⟨0,_,rfl,rfl,iD.pure (gz _)⟩,trivial⟩ rfl (by repeat (first|exact (fun _ _ h=>by cases h)|refine jt ?_ rfl)) (.inr rfl)) (fun hb=>?_) (fun hb=>?_)<;>refine gq Cr ?_))
  |(refine bq (fun hb=>?_) (fun hb=>?_)<;>(try simp only [aq] at hb)<;>(first|refine gq Cr ?_))
  |(refine aB fun m hm=>?_;(try rw [af] at hm);refine gq Cr ?_)
  |(refine fq ?_))
 all_goals (clear hA bI;refine aC ?_;rw [hR];clear hR)
 all_goals first
  |(rw [if_pos (by omega)];simp_all;done)
  |(rw [if_neg (by omega)]
    obtain⟨ar,Tk⟩:∃ ar,ar=arity o:=⟨_,rfl⟩
    rw [<-Tk]
    unfold arity at Tk
    (repeat' split at Tk)<;>first|(exfalso;omega)|(simp_all<;>(intros;omega)))
  |(rw [if_neg (by omega),decide_eq_false (show ¬ arity o=(a.length:Int) by unfold arity;(repeat' split)<;>omega)];simp;done)
end
end
section
set_option maxRecDepth 100000
attribute [local irreducible] ah bc ad ab
def Oj:CF Tryz.f286:=⟨_,by conv=>lhs;cbv⟩
theorem Xc:aH Tryz.prog 286 Oj.1 Tryz.f286.ntmps:=aQ Tryz.func286 Oj.2 Tryz.call286
def pY:List Nat:=[5,0,4,9,1,17]
def Ok:CF Tryz.f181:=⟨_,by conv=>lhs;cbv⟩
theorem Xd:aH Tryz.prog 181 Ok.1 Tryz.f181.ntmps:=aQ Tryz.func181 Ok.2 Tryz.call181
def Tl:List Nat:=[0,1,4,5,9]
section
variable {w0:World}{ρ:Hd}
theorem To (l:List Int) (v:Int) (hl:l.length<=1099511627776):ah Tryz.prog w0 286 [b8 ρ bF false l,iv v] (.v (.bool (l.contains v))):=by
 refine Xc.aG (by simp [Tryz.ntmps286]) (.v) ?_
 refine gq pY ?_
 refine ab.aP (σ:=Int) 0 0 [] (fun i=>[(0,b8 ρ bF false l),(1,.v (.int .i64 v)),(5,.v (.int .i64 i))]) [] (fun _=>[])
  (fun i=>∃ k:Nat,i=k/\k<=l.length/\l.contains v=(l.drop k).contains v) (fun i=>l.length - i.toNat) 0 ⟨0,rfl,by simp,by simp⟩ rfl cq ?_
 rintro i ⟨k,hi,hk,hp⟩
 refine gq pY ?_
 by_cases au:k < l.length
 ·obtain⟨x,hx,aO⟩:=az au
  rw [aO,List.contains_cons] at hp
  repeat' (first
   |(refine ab.op rfl (ad.ind rfl rfl (ay (l:=l) hi hx) (aw fun _=>rfl)) ?_;refine gq pY ?_)
   |(refine bq (fun hb=>?_) (fun hb=>?_)<;>(try simp only [aq] at hb)<;>(first|refine gq pY ?_))
   |(refine aB fun m hm=>?_;(try rw [af] at hm);refine gq pY ?_)
   |(refine aS fun _ _=>?_;refine gq pY ?_)
   |(refine ab.ao ?_;refine gq pY ?_)
   |(refine ab.bJ ?_;refine gq pY ?_)
   |(refine fq ?_))
  all_goals first
   |(refine ab.aL (σ:=Int) _ [] ?_ ?_ cq
     ·refine⟨k+1,by omega,by omega,?_⟩
      rw [hp];simp;intro h;omega
     ·omega)
   |(refine aC ?_;rw [hp];simp;left;omega)
   |(exfalso;omega)
 ·skip
  repeat' (first
   |(refine bq (fun hb=>?_) (fun hb=>?_)<;>(try simp only [aq] at hb)<;>(first|refine gq pY ?_))
   |(refine aB fun m hm=>?_;(try rw [af] at hm);refine gq pY ?_)
   |(refine ab.ao ?_;refine gq pY ?_)
   |(refine fq ?_))
  all_goals first
   |(exfalso;omega)
   |(rw [hp,List.drop_eq_nil_of_le (by omega)];exact aC rfl)
theorem EO (a b:Int):ah Tryz.prog w0 181 [iv a,iv b] (iv (eH a b)):=by
 refine Xd.aG (by simp [Tryz.ntmps181]) (.v) ?_
 refine gq Tl ?_
 repeat' (first
  |(refine bq (fun hb=>?_) (fun hb=>?_)<;>(try simp only [aq] at hb)<;>(first|refine gq Tl ?_))
  |(refine fq ?_))
 all_goals (refine aU.of_eq ?_;simp only [eH,iv];(repeat' split)<;>first|rfl|omega)
end
end
end Go.Proofs.YtbofilglphfceaaGreat
