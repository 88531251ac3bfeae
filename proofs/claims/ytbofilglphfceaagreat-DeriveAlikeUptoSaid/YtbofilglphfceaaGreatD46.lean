import Derived.Test.YtbofilglphfceaaGreatD45
namespace Go.Proofs.YtbofilglphfceaaGreat
set_option linter.unusedVariables false
set_option linter.unusedSimpArgs false
open Go.RowKit
section
set_option maxRecDepth 100000
theorem ja (a:Int):cL a a=0:=by unfold cL;rw [if_neg (by omega),if_neg (by omega)]
theorem qU:∀ l:List UInt8,Op.bytesLess l l=false
 |[]=>rfl
 |x::l=>by
  simp only [Op.bytesLess]
  have:=qU l
  simp [this]
theorem uf (a:ByteArray):lF a a=0:=by
 unfold lF
 rw [qU]
 simp
mutual
theorem ug:∀ t:Tm,c_ t t=0
 |⟨k,i,n,a⟩=>by
  have h:=js a
  rw [c_]
  simp only [ja,uf,h,bL,if_true]
  split<;>first|rfl|(split<;>rfl)
theorem js:∀ l:List Tm,cG l l=0
 |[]=>by rw [cG];exact ja 0
 |x::l=>by rw [cG,ug x,js l];rfl
end
theorem nK:∀ l:List Int,e7 l l=0
 |[]=>rfl
 |x::l=>by rw [e7,ja,nK l];rfl
theorem jX {T:Type}{p:T->T->Bool}(h:∀ x,p x x=true):∀ l,bP p l l=true
 |[]=>rfl
 |x::l=>by rw [bP,h x,jX h l];rfl
theorem BL (s:eN):fV s s=true:=by
 unfold fV
 rw [jX (fun x=>by unfold aI;rw [js];simp),jX (fun x=>by unfold iN lH;rw [js,uf,ja];simp [bL]),jX (fun x=>by unfold iO;rw [ug];simp),
  jX (fun x=>by unfold iP jS;rw [nK,ja,ja];simp [bL]),jX (fun x=>by unfold aI;rw [js];simp)]
 simp
end
section
set_option maxRecDepth 100000
attribute [local irreducible] ag aR aa ab
def Ks:CF Tryz.f69:=⟨_,by conv=>lhs;cbv⟩
theorem RE:bN Tryz.prog 69 Ks.1 Tryz.f69.ntmps:=cd Tryz.func69 Ks.2 Tryz.call69
def mi:List Nat:=[0,4,3,2,7,11,22]
def Kt:CF Tryz.f94:=⟨_,by conv=>lhs;cbv⟩
theorem RF:bN Tryz.prog 94 Kt.1 Tryz.f94.ntmps:=cd Tryz.func94 Kt.2 Tryz.call94
def nZ:List Nat:=[3,0,2,7,16]
def Ku:CF Tryz.f17:=⟨_,by conv=>lhs;cbv⟩
theorem RG:bN Tryz.prog 17 Ku.1 Tryz.f17.ntmps:=cd Tryz.func17 Ku.2 Tryz.call17
def mj:List Nat:=[0,5,4,1,9,13,22]
def la (l:List Tm):Bool:=decide (l.length<=8) && decide (b_ l<=60)
theorem ql (a b:List Tm):b_ (a++b)=b_ a+b_ b:=by
 induction a with
 |nil=>simp [b_]
 |cons x a ih=>rw [List.cons_append,b_,b_,ih];omega
section
variable {w0:World}{ρ:Hd}
theorem wa (l:List Tm) (hl:l.length<=1099511627776) (hz:b_ l<=1099511627776):ag Tryz.prog w0 69 [tl ρ l] (.v (.bool (la l))):=by
 obtain⟨R,hR⟩:∃ R,R=la l:=⟨_,rfl⟩
 rw [<-hR]
 unfold la at hR
 refine RE.bc (by simp [Tryz.ntmps69]) (.v) ?_
 refine gq mi ?_
 repeat' (first
  |(refine bq (fun hb=>?_) (fun hb=>?_)<;>(try simp only [aJ] at hb)<;>(first|refine gq mi ?_))
  |(refine aS fun m hm=>?_;(try rw [aq] at hm);refine gq mi ?_)
  |(refine fq ?_))
 ·rw [hR,decide_eq_false (by omega)];exact aT rfl
 rw [decide_eq_true (by omega),Bool.true_and] at hR
 refine ab.cO (σ:=Int × Int) 0 0 [] (fun p=>[(0,tl ρ l),(3,.v (.int .i64 p.2)),(4,.v (.int .i64 p.1))]) [] (fun _=>[]) (fun p=>∃ k:Nat,p.1=k/\k<=l.length/\p.2=b_ (l.take k)/\p.2<=60) (fun p=>l.length - p.1.toNat) (0,0) ⟨0,rfl,by simp,rfl,by simp⟩ rfl cq ?_
 rintro⟨i,c⟩ ⟨k,hi,hk,hp,hc⟩
 simp only at hi hp hc
 refine gq mi ?_
 by_cases au:k < l.length
 ·obtain⟨x,hx,bI⟩:=aU au
  have ht:b_ (l.take (k+1))=b_ (l.take k)+fS x:=by
   rw [List.take_add_one,hx,ql]
   simp [b_]
  have hle:b_ (l.take (k+1))<=b_ l:=by
   have:=ql (l.take (k+1)) (l.drop (k+1))
   rw [List.take_append_drop] at this
   omega
  have hS:=xB (w0:=w0) (ρ:=ρ) _ x (Nat.le_refl _) (by omega)
  obtain⟨z,G8⟩:∃ z,z=fS x:=⟨_,rfl⟩
  rw [<-G8] at ht hS
  obtain⟨z1,Uz⟩:∃ z:Int,z=(fS x:Nat):=⟨_,rfl⟩
  clear bI
  have iA:=bT (ρ:=ρ) x
  obtain⟨xk,xi,xn,xa⟩:=x
  repeat' (first
   |(refine ab.op rfl (aa.ind rfl rfl (mJ (l:=l) hi hx) mK) ?_;refine gq mi ?_)
   |(refine ab.int rfl (aa.aB rfl hS ⟨iA,trivial⟩) fun _ _=>?_;refine gq mi ?_)
   |(refine bq (fun hb=>?_) (fun hb=>?_)<;>(try simp only [aJ] at hb)<;>(first|refine gq mi ?_))
   |(refine aS fun m hm=>?_;(try rw [aq] at hm);refine gq mi ?_)
   |(refine cQ fun _ _=>?_;refine gq mi ?_)
   |(refine ab.aK ?_;refine gq mi ?_)
   |(refine ab.de ?_;refine gq mi ?_)
   |(refine fq ?_))
  all_goals first
   |(exfalso;omega)
   |(rw [hR,decide_eq_false (by omega)];exact aT rfl)
   |(refine ab.cK (σ:=Int × Int) (_,_) [] ?_ ?_ cq
     ·exact⟨k+1,by simp only;omega,by omega,by simp only;omega,by simp only;omega⟩
     ·simp only;omega)
 ·have On:l.take k=l:=List.take_of_length_le (by omega)
  rw [On] at hp
  repeat' (first
   |(refine bq (fun hb=>?_) (fun hb=>?_)<;>(try simp only [aJ] at hb)<;>(first|refine gq mi ?_))
   |(refine aS fun m hm=>?_;(try rw [aq] at hm);refine gq mi ?_)
   |(refine ab.aK ?_;refine gq mi ?_)
   |(refine fq ?_))
  all_goals first
   |(exfalso;omega)
   |(rw [hR,decide_eq_true (by omega)];exact aT rfl)
end
end
section
set_option maxRecDepth 100000
def Kv:AV:=.agg [ix 2,ix 1,ix 0,ix 0,.sl true []]
def Kw:AV:=.sl true [[ix 2,ix 0,ix 0,.sl true []]]
def Kx:AV:=.agg [ix 2,ix 2,ix 0,ix 0,.sl true []]
def Ky:AV:=.agg [ix 7,ix 2,ix 0,ix 0,.sl true []]
def Kz:AV:=.sl true [[ix 1,ix 0,sx [],.sl true []]]
def RH:AV:=.sl true [[sx [112],ix 1],[sx [113],ix 1]]
def s_:AV:=.sl false [[ix 0,ix 1,sx [],.sl false []]]
def KA:AV:=.agg [ix 4,ix 1,ix 0,ix 0,.sl true [[ix 1]]]
def RI:AV:=.sl false [[ix 0,sx [],.sl false [],ix 1,ix 0]]
def RJ:AV:=.sl false [[ix 0,sx [],.sl false [],ix 2,ix 0]]
def Oo:AV:=.sl true [[sx [112],Kz]]
def Oq:AV:=.sl true [[ix 0,sx [113],Kz]]
def G9:AV:=.sl false [[ix 1,sx [112],s_]]
def Ot:AV:=.sl false [[ix 0,sx [112],s_]]
def Ou:AV:=.sl false [[ix 0,sx [113],s_]]
def BM:AV:=.sl false [[ix 2,sx [113],s_]]
def Ov:AV:=.sl false [[ix 0,sx [112],s_,ix 0,ix 0]]
def Ow:AV:=.sl false [[ix 0,sx [113],s_,ix 0,ix 0]]
def ml:AV:=.agg [Ov,.sl false [],.sl false [],.sl false [],ix 1,ix 0,bx false]
def pL:AV:=.agg [Ow,.sl false [],.sl false [],.sl false [],ix 2,ix 1,bx false]
def G_:AV:=.agg [Ot,.sl false [],.sl false [],.sl false [],.sl false [],ix 1,ix 0,bx false]
def BN:AV:=.agg [.sl false [],G9,.sl false [],.sl false [],.sl false [],ix 2,ix 0,bx false]
def BO:AV:=.agg [Ou,.sl false [],.sl false [],.sl false [],.sl false [],ix 2,ix 1,bx false]
def Ha:AV:=.agg [.sl false [],BM,.sl false [],.sl false [],.sl false [],ix 3,ix 1,bx false]
def pM:AV:=.agg [RI,G9,.sl false [],.sl false [],ix 2,ix 0,bx false]
def pN:AV:=.agg [RJ,BM,.sl false [],.sl false [],ix 3,ix 1,bx false]
def Ox:AV:=.sl true [[sx [],.sl true [],Oo,.sl true [],Oq,ix 1]]
def cw:AV:=.agg [RH,Ox]
def KB:List Fa:=[]
def KC:List Fa:=(43,[cw],.aL [ix 0,ix 0])::KB
def KD:List Fa:=(21,[cw,ml],bx true)::KC
def KE:List Fa:=(167,[cw,ml,ix 0],.sl true [[ix 2,ix 1,ix 0,ix 0,.sl true [],.sl true [],.sl true []]])::KD
def KF:List Fa:=(248,[cw,ml],.sl false [[ix 2,ix 1,ix 0,ix 0,.sl false []]])::KE
def KG:List Fa:=(86,[cw,ml,Kv],Kw)::KF
def KH:List Fa:=(170,[cw,ml,Kv],.aL [pM,ix 0])::KG
def KI:List Fa:=(12,[cw,G_],bx true)::KH
def KJ:List Fa:=(67,[cw,G_,.agg [ix 2,ix 0,ix 0,.sl true []]],.aL [BN,ix 0])::KI
def KK:List Fa:=(21,[cw,pM],bx true)::KJ
def Hb:List Fa:=(167,[cw,pM,ix 0],.sl false [[ix 4,ix 1,ix 0,ix 0,.sl false [[ix 1]],.sl false [[ix 1]],.sl false [[ix 0,ix 0,ix 1,sx [],.sl false []]]]])::KK
def Hc:List Fa:=(170,[cw,pM,KA],.aL [pL,ix 0])::Hb
def He:List Fa:=(248,[cw,pM],.sl false [[ix 4,ix 1,ix 0,ix 0,.sl false [[ix 1]]]])::Hc
def Hf:List Fa:=(86,[cw,pM,KA],.sl true [[ix 3,ix 0,ix 0,.sl true [[ix 1]]]])::He
def Hg:List Fa:=(12,[cw,BN],bx true)::Hf
def Hh:List Fa:=(67,[cw,BN,.agg [ix 3,ix 0,ix 0,.sl true [[ix 1]]]],.aL [BO,ix 0])::Hg
def Hi:List Fa:=(21,[cw,pL],bx true)::Hh
def Hj:List Fa:=(167,[cw,pL,ix 0],.sl true [[ix 2,ix 2,ix 0,ix 0,.sl true [],.sl true [],.sl true []]])::Hi
def Hk:List Fa:=(170,[cw,pL,Kx],.aL [pN,ix 0])::Hj
def Hl:List Fa:=(248,[cw,pL],.sl false [[ix 2,ix 2,ix 0,ix 0,.sl false []]])::Hk
def Hm:List Fa:=(86,[cw,pL,Kx],Kw)::Hl
def Hn:List Fa:=(12,[cw,BO],bx true)::Hm
def Ho:List Fa:=(67,[cw,BO,.agg [ix 2,ix 0,ix 0,.sl true []]],.aL [Ha,ix 0])::Hn
def Hp:List Fa:=(21,[cw,pN],bx true)::Ho
def Hq:List Fa:=(167,[cw,pN,ix 0],.sl true [[ix 7,ix 2,ix 0,ix 0,.sl true [],.sl true [],.sl true []]])::Hp
def Hr:List Fa:=(170,[cw,pN,Ky],.aL [.agg [.sl true [],BM,.sl false [],.sl false [],ix 3,ix 1,bx false],ix 0])::Hq
def Hs:List Fa:=(248,[cw,pN],.sl false [[ix 7,ix 2,ix 0,ix 0,.sl false []]])::Hr
def Ht:List Fa:=(86,[cw,pN,Ky],.sl true [])::Hs
def Hu:List Fa:=(87,[cw,ml,.sl true [[ix 2,ix 1,ix 0,ix 0,.sl true []],[ix 4,ix 1,ix 0,ix 0,.sl true [[ix 1]]],[ix 2,ix 2,ix 0,ix 0,.sl true []],[ix 7,ix 2,ix 0,ix 0,.sl true []]]],.aL [Ha,ix 0])::Ht
def Hv:List Fa:=(170,[cw,ml,.agg [ix 1,ix 0,ix 0,ix 0,.sl true []]],.aL [.agg [.sl true [],.sl true [],.sl true [],.sl true [],ix 0,ix 0,bx false],ix 18])::Hu
def Oy:List Fa:=(87,[cw,ml,.sl true [[ix 1,ix 0,ix 0,ix 0,.sl true []]]],.aL [.agg [.sl true [],.sl true [],.sl true [],.sl true [],.sl true [],ix 0,ix 0,bx false],ix 18])::Hv
section
variable {w0:World}
theorem RK:aP w0 KB:=aP.nil
theorem RL:aP w0 KC:=aP.cons ct RK (by kernel_rfl)
theorem RM:aP w0 KD:=aP.cons ct RL (by kernel_rfl)
theorem RN:aP w0 KE:=aP.cons ct RM (by kernel_rfl)
theorem RO:aP w0 KF:=aP.cons ct RN (by kernel_rfl)
theorem RP:aP w0 KG:=aP.cons ct RO (by kernel_rfl)
theorem RQ:aP w0 KH:=aP.cons ct RP (by kernel_rfl)
theorem RR:aP w0 KI:=aP.cons ct RQ (by kernel_rfl)
theorem RS:aP w0 KJ:=aP.cons ct RR (by kernel_rfl)
theorem RT:aP w0 KK:=aP.cons ct RS (by kernel_rfl)
theorem Oz:aP w0 Hb:=aP.cons ct RT (by kernel_rfl)
theorem OA:aP w0 Hc:=aP.cons ct Oz (by kernel_rfl)
theorem OB:aP w0 He:=aP.cons ct OA (by kernel_rfl)
theorem OC:aP w0 Hf:=aP.cons ct OB (by kernel_rfl)
theorem OD:aP w0 Hg:=aP.cons ct OC (by kernel_rfl)
theorem OE:aP w0 Hh:=aP.cons ct OD (by kernel_rfl)
theorem OF:aP w0 Hi:=aP.cons ct OE (by kernel_rfl)
theorem OG:aP w0 Hj:=aP.cons ct OF (by kernel_rfl)
theorem OH:aP w0 Hk:=aP.cons ct OG (by kernel_rfl)
theorem OI:aP w0 Hl:=aP.cons ct OH (by kernel_rfl)
theorem OJ:aP w0 Hm:=aP.cons ct OI (by kernel_rfl)
theorem OK:aP w0 Hn:=aP.cons ct OJ (by kernel_rfl)
theorem OL:aP w0 Ho:=aP.cons ct OK (by kernel_rfl)
theorem OM:aP w0 Hp:=aP.cons ct OL (by kernel_rfl)
theorem ON:aP w0 Hq:=aP.cons ct OM (by kernel_rfl)
theorem OO:aP w0 Hr:=aP.cons ct ON (by kernel_rfl)
theorem OP:aP w0 Hs:=aP.cons ct OO (by kernel_rfl)
theorem OQ:aP w0 Ht:=aP.cons ct OP (by kernel_rfl)
theorem OR:aP w0 Hu:=aP.cons ct OQ (by kernel_rfl)
theorem OS:aP w0 Hv:=aP.cons ct OR (by kernel_rfl)
theorem OT:aP w0 Oy:=aP.cons ct OS (by kernel_rfl)
theorem RU:ag Tryz.prog w0 27 [] (.v (.bool true)):=aP.last ct OT (by kernel_rfl)
end
end
end Go.Proofs.YtbofilglphfceaaGreat
