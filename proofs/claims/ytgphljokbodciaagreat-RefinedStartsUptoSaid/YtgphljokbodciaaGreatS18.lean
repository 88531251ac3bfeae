import Derived.Laws.StructEq
import Derived.Lib.Bytealg
import Derived.Test.YtgphljokbodciaaGreatS17
namespace Go.Proofs.YtgphljokbodciaaGreat
set_option linter.unusedVariables false
set_option linter.unusedSimpArgs false
open Go.RowKit
section
set_option maxRecDepth 100000
attribute [local irreducible] ah aV ad ab
def PY:CF Tryz.f566:=⟨_,by conv=>lhs;cbv⟩
theorem ZM:aD Tryz.prog 566 PY.1 Tryz.f566.ntmps:=aO Tryz.func566 PY.2 Tryz.call566
def Vl:List Nat:=[4,0,1]
def PZ:CF Tryz.f552:=⟨_,by conv=>lhs;cbv⟩
theorem ZN:aD Tryz.prog 552 PZ.1 Tryz.f552.ntmps:=aO Tryz.func552 PZ.2 Tryz.call552
def C5:List Nat:=[8,0,1,5,9,10,6,11,12,13,4,16,24,31,36,59,64,73,7,93,107,114,132,139]
def P0:CF Tryz.f527:=⟨_,by conv=>lhs;cbv⟩
theorem ZO:aD Tryz.prog 527 P0.1 Tryz.f527.ntmps:=aO Tryz.func527 P0.2 Tryz.call527
def Vm:List Nat:=[4,0,1]
def P1:CF Tryz.f504:=⟨_,by conv=>lhs;cbv⟩
theorem ZP:aD Tryz.prog 504 P1.1 Tryz.f504.ntmps:=aO Tryz.func504 P1.2 Tryz.call504
def MT:List Nat:=[4,0,1]
def P2:CF Tryz.f447:=⟨_,by conv=>lhs;cbv⟩
theorem P3:aD Tryz.prog 447 P2.1 Tryz.f447.ntmps:=aO Tryz.func447 P2.2 Tryz.call447
def xT:List Nat:=[0,2]
def pw:ByteArray:=⟨#[43,45,42,47,37]⟩
section
variable {w0:World}{ρ:Hd}
theorem ibs (s:ByteArray) (c:Int) (w:World):(callFunc 578 #[.string s,.int .u8 c]).run Tryz.prog w=.ok (.value (.int .i64 (Lib.indexByte s.data.toList c.toNat.toUInt8))) w:=by
 rw [run_callFunc_extern Tryz.func578 (by kernel_rfl) (by kernel_rfl) (by kernel_rfl) (e:=Extern.BytealgIndexByte.indexByte) (by kernel_rfl),Lib.run_indexByteString]
 rfl
theorem EU (s:ByteArray) (c:Int):ah Tryz.prog w0 566 [.v (.string s),.v (.int .u8 c)] (iv (Lib.indexByte s.data.toList c.toNat.toUInt8)):=by
 refine ZM.aH (by simp [Tryz.ntmps566]) (.v) ?_
 refine gq Vl ?_
 repeat' (first
  |(refine ab.int rfl (ad.ext (xs:=[.string s,.int .u8 c]) rfl rfl (ibs s c)) fun _ _=>?_;refine gq Vl ?_)
  |(refine fq ?_))
 all_goals (subst_vars;exact dK rfl)
theorem MU (n:ByteArray) (c:UInt8) (h:n.data.toList=[c]):ah Tryz.prog w0 552 [.v (.string pw),.v (.string n)] (iv (Lib.indexByte pw.data.toList c)):=by
 have bI:=j9 n
 rw [h] at bI
 have vc:=toL_eq n
 rw [h] at vc
 have hi:idx n.data.toList 0=some c:=xR h
 refine ZN.aH (by simp [Tryz.ntmps552]) (.v) ?_
 refine gq C5 ?_
 repeat' (first
  |(refine ab.int rfl (ad.CT rfl rfl hi) fun _ _=>?_;refine gq C5 ?_)
  |(refine ab.int rfl (ad.ag rfl (EU _ _) ⟨.v,.v,trivial⟩) fun _ _=>?_;refine gq C5 ?_)
  |(refine bq (fun hb=>?_) (fun hb=>?_)<;>(try simp only [aq] at hb)<;>(first|refine gq C5 ?_))
  |(refine az fun m hm=>?_;(try rw [af] at hm);refine gq C5 ?_)
  |(refine fq ?_))
 all_goals first
  |(exfalso;simp only [List.length_cons,List.length_nil] at bI;omega)
  |(exfalso;rename_i hb;rw [vc,toL_eq] at hb;simp at hb;done)
  |(subst_vars;exact dK (by simp [pw]))
theorem TH (n:ByteArray) (c:UInt8) (h:n.data.toList=[c]):ah Tryz.prog w0 527 [.v (.string pw),.v (.string n)] (iv (Lib.indexByte pw.data.toList c)):=by
 have hi:=MU (w0:=w0) n c h
 obtain⟨r,hr⟩:∃ r,r=Lib.indexByte pw.data.toList c:=⟨_,rfl⟩
 rw [<-hr] at hi ⊢
 refine ZO.aH (by simp [Tryz.ntmps527]) (.v) ?_
 refine gq Vm ?_
 repeat' (first
  |(refine ab.op rfl (ad.ag rfl hi ⟨.v,.v,trivial⟩) ?_;refine gq Vm ?_)
  |(refine fq ?_))
 all_goals exact dK rfl
theorem G_ (n:ByteArray) (c:UInt8) (h:n.data.toList=[c]):ah Tryz.prog w0 504 [.v (.string pw),.v (.string n)] (.v (.bool (decide (Lib.indexByte pw.data.toList c>=0)))):=by
 have hi:=TH (w0:=w0) n c h
 obtain⟨r,hr⟩:∃ r,r=Lib.indexByte pw.data.toList c:=⟨_,rfl⟩
 rw [<-hr] at hi ⊢
 refine ZP.aH (by simp [Tryz.ntmps504]) (.v) ?_
 refine gq MT ?_
 repeat' (first
  |(refine ab.op rfl (ad.ag rfl hi ⟨.v,.v,trivial⟩) ?_;refine gq MT ?_)
  |(refine bq (fun hb=>?_) (fun hb=>?_)<;>(try simp only [aq] at hb)<;>(first|refine gq MT ?_))
  |(refine fq ?_))
 all_goals (refine aI ?_;simp_all)
theorem Vn (n:ByteArray) (c:UInt8) (h:n.data.toList=[c]):gL n=decide (Lib.indexByte pw.data.toList c>=0):=by
 have e:pw.data.toList=[43,45,42,47,37]:=rfl
 rw [gL,toL_eq n,h,e]
 simp only [toL_eq]
 have b:∀ d:UInt8,([c] == [d])=(d == c):=fun d=>by
  rw [Bool.eq_iff_iff];simp;exact eq_comm
 rw [b,b,b,b,b]
 unfold Lib.indexByte Lib.indexByte Lib.indexByte Lib.indexByte Lib.indexByte Lib.indexByte
 cases (43:UInt8) == c<;>cases (45:UInt8) == c<;>cases (42:UInt8) == c<;>cases (47:UInt8) == c<;>cases (37:UInt8) == c<;>rfl
theorem MV (n:ByteArray) (h:n.size ≠ 1):gL n=false:=by
 rw [j9] at h
 rw [gL]
 simp only [toL_eq]
 have b:∀ d:UInt8,(n.data.toList == [d])=false:=fun d=>by
  rw [beq_eq_false_iff_ne];intro e;rw [e] at h;exact h rfl
 rw [b,b,b,b,b];rfl
theorem C6 (n:ByteArray):ah Tryz.prog w0 447 [.v (.string n)] (.v (.bool (gL n))):=by
 have bI:=j9 n
 by_cases h1:n.size=1
 ·obtain⟨c,h⟩:∃ c,n.data.toList=[c]:=by
   rw [h1] at bI
   match hl:n.data.toList,bI with
   |[c],_=>exact⟨c,rfl⟩
   |[],h=>simp at h
   |_::_::_,h=>simp at h
  rw [Vn n c h]
  have hi:=G_ (w0:=w0) n c h
  obtain⟨r,hr⟩:∃ r,r=decide (Lib.indexByte pw.data.toList c>=0):=⟨_,rfl⟩
  rw [<-hr] at hi ⊢
  refine P3.aH (by simp [Tryz.ntmps447]) (.v) ?_
  refine gq xT ?_
  repeat' (first
   |(refine ab.bif rfl (ad.ag rfl hi ⟨.v,.v,trivial⟩) (fun _=>?_) (fun _=>?_)<;>refine gq xT ?_)
   |(refine bq (fun hb=>?_) (fun hb=>?_)<;>(try simp only [aq] at hb)<;>(first|refine gq xT ?_))
   |(refine az fun m hm=>?_;(try rw [af] at hm);refine gq xT ?_)
   |(refine fq ?_))
  all_goals first
   |(exfalso;omega)
   |(refine aI ?_;rename_i hx;rw [hx])
 ·rw [MV n h1]
  refine P3.aH (by simp [Tryz.ntmps447]) (.v) ?_
  refine gq xT ?_
  repeat' (first
   |(refine bq (fun hb=>?_) (fun hb=>?_)<;>(try simp only [aq] at hb)<;>(first|refine gq xT ?_))
   |(refine az fun m hm=>?_;(try rw [af] at hm);refine gq xT ?_)
   |(refine fq ?_))
  all_goals first
   |exact aI rfl
   |(exfalso;omega)
end
end
section
set_option maxRecDepth 100000
attribute [local irreducible] ah aV ad ab
def P4:CF Tryz.f206:=⟨_,by conv=>lhs;cbv⟩
theorem ZQ:aD Tryz.prog 206 P4.1 Tryz.f206.ntmps:=aO Tryz.func206 P4.2 Tryz.call206
def C7:List Nat:=[1,6,15,18,2,0,7,3,4]
section
variable {w0:World}{ρ:Hd}
theorem TI (x:Tm) (hx:x.ok):ah Tryz.prog w0 238 [tm ρ x] (.v (.bool (gX x))):=MR C6 x hx
theorem wA (x:At) (hx:x.ok) (hn:x.n.size<=1099511627776):ah Tryz.prog w0 203 [at_ ρ x] (.v (.bool (eu x))):=MS C6 x hx hn
theorem Ag (x:Gl) (hx:x.ok) (hn:x.n.size<=1099511627776):ah Tryz.prog w0 206 [gl ρ x] (.v (.bool (eS x))):=by
 obtain⟨o,n,a⟩:=x
 obtain⟨hl,hk⟩:=hx
 dsimp only at hl hk hn
 have hA:=wA (w0:=w0) (ρ:=ρ) ⟨n,a⟩ ⟨hl,hk⟩ hn
 have bL:=s7 (w0:=w0) (ρ:=ρ) (a:=a) 20 (fun y hy c' h0 h1=>⟨(fu y _ _ h0).1,(fu y _ _ h0).2,Af (ρ:=ρ) C6 y 20 c' (hk.mem y hy) h0 h1 (by omega) (by omega)⟩) hl 200 (by omega) (by omega)
 have hr:=Bb a
 obtain⟨⟨b,c1⟩,lY⟩:∃ p,p=cz a 20 200:=⟨_,rfl⟩
 rw [<-lY] at bL hr
 simp only at bL hr
 obtain⟨ra,Vo⟩:∃ ra,ra=eu ⟨n,a⟩:=⟨_,rfl⟩
 rw [<-Vo] at hA
 obtain⟨R,hR⟩:∃ R,R=eS ⟨o,n,a⟩:=⟨_,rfl⟩
 rw [<-hR]
 rw [eS] at hR
 simp only at hR
 rw [<-Vo,<-hr] at hR
 clear hr lY Vo hk
 refine ZQ.aH (by simp [Tryz.ntmps206]) (.v) ?_
 refine gq C7 ?_
 repeat' (first
  |(refine ab.bif rfl (ad.ag rfl hA ⟨cX (ρ:=ρ) ⟨n,a⟩,trivial⟩) (fun _=>?_) (fun _=>?_)<;>refine gq C7 ?_)
  |((refine ab.bif rfl (ad.jJ (m:=[(0,1)]) (to:=[(1,some (eV c1))]) bL rfl ⟨Rn.pt rfl rfl,Rn.pure (bB _),Rn.pure .v,trivial⟩ (Rb.pure .v) rfl rfl ⟨⟨_,rfl,kF.pure (gR _)⟩,trivial⟩ ⟨⟨0,_,rfl,rfl,kY.pure (gR _)⟩,trivial⟩ rfl (by repeat (first|exact (fun _ _ h=>by cases h)|refine m4 ?_ rfl)) (.inr rfl)) (fun hb=>?_) (fun hb=>?_)<;>refine gq C7 ?_))
  |(refine bq (fun hb=>?_) (fun hb=>?_)<;>(try simp only [aq] at hb)<;>(first|refine gq C7 ?_))
  |(refine az fun m hm=>?_;(try rw [af] at hm);refine gq C7 ?_)
  |(refine fq ?_))
 all_goals (clear hA bL;refine aI ?_;rw [hR];clear hR)
 all_goals first
  |(rw [if_pos (by omega)];simp_all;done)
  |(rw [if_neg (by omega)]
    obtain⟨ar,Vp⟩:∃ ar,ar=arity o:=⟨_,rfl⟩
    rw [<-Vp]
    unfold arity at Vp
    (repeat' split at Vp)<;>first|(exfalso;omega)|(simp_all<;>(intros;omega)))
  |(rw [if_neg (by omega),decide_eq_false (show ¬ arity o=(a.length:Int) by unfold arity;(repeat' split)<;>omega)];simp;done)
end
end
section
set_option maxRecDepth 100000
attribute [local irreducible] ah aV ad ab
def P5:CF Tryz.f432:=⟨_,by conv=>lhs;cbv⟩
theorem ZR:aD Tryz.prog 432 P5.1 Tryz.f432.ntmps:=aO Tryz.func432 P5.2 Tryz.call432
def qN:List Nat:=[5,0,4,9,1,17]
def P6:CF Tryz.f339:=⟨_,by conv=>lhs;cbv⟩
theorem ZS:aD Tryz.prog 339 P6.1 Tryz.f339.ntmps:=aO Tryz.func339 P6.2 Tryz.call339
def Vq:List Nat:=[0,1,4,5,9]
section
variable {w0:World}{ρ:Hd}
theorem Vr (l:List Int) (v:Int) (hl:l.length<=1099511627776):ah Tryz.prog w0 432 [bY ρ bJ false l,iv v] (.v (.bool (l.contains v))):=by
 refine ZR.aH (by simp [Tryz.ntmps432]) (.v) ?_
 refine gq qN ?_
 refine ab.aP (σ:=Int) 0 0 [] (fun i=>[(0,bY ρ bJ false l),(1,.v (.int .i64 v)),(5,.v (.int .i64 i))]) [] (fun _=>[])
  (fun i=>∃ k:Nat,i=k/\k<=l.length/\l.contains v=(l.drop k).contains v) (fun i=>l.length - i.toNat) 0 ⟨0,rfl,by simp,by simp⟩ rfl cq ?_
 rintro i ⟨k,hi,hk,hp⟩
 refine gq qN ?_
 by_cases au:k < l.length
 ·obtain⟨x,hx,aQ⟩:=aA au
  rw [aQ,List.contains_cons] at hp
  repeat' (first
   |(refine ab.op rfl (ad.ind rfl rfl (ay (l:=l) hi hx) (aw fun _=>rfl)) ?_;refine gq qN ?_)
   |(refine bq (fun hb=>?_) (fun hb=>?_)<;>(try simp only [aq] at hb)<;>(first|refine gq qN ?_))
   |(refine az fun m hm=>?_;(try rw [af] at hm);refine gq qN ?_)
   |(refine aS fun _ _=>?_;refine gq qN ?_)
   |(refine ab.ao ?_;refine gq qN ?_)
   |(refine ab.bK ?_;refine gq qN ?_)
   |(refine fq ?_))
  all_goals first
   |(refine ab.aK (σ:=Int) _ [] ?_ ?_ cq
     ·refine⟨k+1,by omega,by omega,?_⟩
      rw [hp];simp;intro h;omega
     ·omega)
   |(refine aI ?_;rw [hp];simp;left;omega)
   |(exfalso;omega)
 ·skip
  repeat' (first
   |(refine bq (fun hb=>?_) (fun hb=>?_)<;>(try simp only [aq] at hb)<;>(first|refine gq qN ?_))
   |(refine az fun m hm=>?_;(try rw [af] at hm);refine gq qN ?_)
   |(refine ab.ao ?_;refine gq qN ?_)
   |(refine fq ?_))
  all_goals first
   |(exfalso;omega)
   |(rw [hp,List.drop_eq_nil_of_le (by omega)];exact aI rfl)
theorem FA (a b:Int):ah Tryz.prog w0 339 [iv a,iv b] (iv (eQ a b)):=by
 refine ZS.aH (by simp [Tryz.ntmps339]) (.v) ?_
 refine gq Vq ?_
 repeat' (first
  |(refine bq (fun hb=>?_) (fun hb=>?_)<;>(try simp only [aq] at hb)<;>(first|refine gq Vq ?_))
  |(refine fq ?_))
 all_goals (refine aX.of_eq ?_;simp only [eQ,iv];(repeat' split)<;>first|rfl|omega)
end
end
section
set_option maxRecDepth 100000
attribute [local irreducible] ah aV ad ab
def P7:CF Tryz.f173:=⟨_,by conv=>lhs;cbv⟩
theorem ZT:aD Tryz.prog 173 P7.1 Tryz.f173.ntmps:=aO Tryz.func173 P7.2 Tryz.call173
def qO:List Nat:=[7,0,6,11,1,2,29]
def dU (l:List Dc) (n:ByteArray) (ar:Int):Bool:=l.any fun d=>d.n.toList == n.toList && d.ar == ar
section
variable {w0:World}{ρ:Hd}
theorem pY (l:List Dc) (n:ByteArray) (ar:Int) (hl:l.length<=1099511627776):ah Tryz.prog w0 173 [dP ρ l,.v (.string n),iv ar] (.v (.bool (dU l n ar))):=by
 unfold dU
 obtain⟨R,hR⟩:∃ R,R=l.any fun d=>d.n.toList == n.toList && d.ar == ar:=⟨_,rfl⟩
 rw [<-hR]
 refine ZT.aH (by simp [Tryz.ntmps173]) (.v) ?_
 refine gq qO ?_
 refine ab.aP (σ:=Int) 0 0 [] (fun i=>[(0,dP ρ l),(1,.v (.string n)),(2,.v (.int .i64 ar)),(7,.v (.int .i64 i))]) [] (fun _=>[])
  (fun i=>∃ k:Nat,i=k/\k<=l.length/\R=(l.drop k).any fun d=>d.n.toList == n.toList && d.ar == ar) (fun i=>l.length - i.toNat) 0 ⟨0,rfl,by simp,by simpa using hR⟩ rfl cq ?_
 rintro i ⟨k,hi,hk,hp⟩
 clear hR
 refine gq qO ?_
 by_cases au:k < l.length
 ·obtain⟨x,hx,aQ⟩:=aA au
  rw [aQ,List.any_cons] at hp
  repeat' (first
   |(refine ab.op rfl (ad.ind rfl rfl (ay (l:=l) hi hx) (aw fun _=>rfl)) ?_;refine gq qO ?_)
   |(refine bq (fun hb=>?_) (fun hb=>?_)<;>(try simp only [aq] at hb)<;>(first|refine gq qO ?_))
   |(refine az fun m hm=>?_;(try rw [af] at hm);refine gq qO ?_)
   |(refine aS fun _ _=>?_;refine gq qO ?_)
   |(refine ab.ao ?_;refine gq qO ?_)
   |(refine ab.bK ?_;refine gq qO ?_)
   |(refine fq ?_))
  all_goals first
   |(refine aI ?_;rw [hp];simp_all;done)
   |(refine ab.aK (σ:=Int) _ [] ?_ ?_ cq
     ·exact⟨k+1,by omega,by omega,by rw [hp];simp_all⟩
     ·omega)
 ·skip
  repeat' (first
   |(refine bq (fun hb=>?_) (fun hb=>?_)<;>(try simp only [aq] at hb)<;>(first|refine gq qO ?_))
   |(refine az fun m hm=>?_;(try rw [af] at hm);refine gq qO ?_)
   |(refine ab.ao ?_;refine gq qO ?_)
   |(refine fq ?_))
  all_goals first
   |(exfalso;omega)
   |(rw [hp,List.drop_eq_nil_of_le (by omega)];exact aI rfl)
end
end
def yN (P:Program) (w0:World) (F:AV) (xs:List AV) (b:Bool):Prop:=∃ gid args,e7 F xs=some (gid,args)/\c_ args/\ah P w0 gid args (.v (.bool b))
theorem ad.FB {P:Program}{w0:World}{α:AA}{S:ae}{dr:Bool}{f:QO}{qs:List QO}{F:AV}{l:List AV}{b:Bool}(hf:f.ev α.tm=F) (ha:qs.map (·.ev α.tm)=l) (h:yN P w0 F l b):ad P w0 dr (.call f qs) α S (.v (.bool b)) S:=by
 obtain⟨gid,args,h1,h2,h3⟩:=h
 subst hf ha
 exact ad.ag h1 h3 h2
def dc (x:Dc):AV:=.agg (Kx x)
theorem Ah (x:Dc):Pure (dc x):=.agg (CP x)
def cE {T:Type}(p:T->Bool):List T->Nat->Int
 |[],_=>-1
 |x::l,k=>if p x then k else cE p l (k+1)
theorem kf {T:Type}(p:T->Bool):∀ (l:List T) (k:Nat),decide (0<=cE p l k)=l.any p
 |[],_=>rfl
 |x::l,k=>by
  rw [cE,List.any_cons]
  split
  ·simp_all
  ·rw [kf p l];simp_all
def de {T:Type}(p:T->T->Bool):List T->List T->Bool
 |[],[]=>true
 |x::a,y::b=>p x y && de p a b
 |_,_=>false
theorem ny {T:Type}{p:T->T->Bool}:∀ {a b:List T},a.length ≠ b.length->de p a b=false
 |[],[],h=>absurd rfl h
 |[],_::_,_=>rfl
 |_::_,[],_=>rfl
 |x::a,y::b,h=>by rw [de,ny (by simpa using h)];simp
section
variable {P:Program}{w0:World}{n:Nat}{α:AA}{S:ae}{Q:Exit->AA->ae->Prop}{K:List iq}
theorem ab.Ha {σ T:Type}{B N:Nat}{st0:List (Nat × AV)}{ds:List DE}{so:σ->List (Nat × Ob)}{I:List T->σ->Prop}{rest:List T}(s':σ) (m:List (Nat × Nat)) (hI:I rest s') (hC:Canon B N m α S [] [] (so s')):ab P w0 true n (Vs P w0 n B N st0 ds so I Q K rest) (.out .normal []) α S:=⟨s',m,hI,hC⟩
end
section
variable {P:Program}{w0:World}{α:AA}{S:ae}
theorem FC {o:Op}{t:Nat}{x y:QO}(h:res P.toTables o=some (.eqs t x y)):∃ u v s,o=.binOp .eql t u v s/\x=qo u/\y=qo v:=by
 cases o with
 |binOp op' t' u v s =>
  simp only [res] at h
  split at h
  ·cases h
  ·cases h
  ·split at h
   ·simp only [Option.some.injEq,dz.eqs.injEq] at h
    obtain⟨rfl,rfl,rfl⟩:=h
    exact⟨_,_,_,rfl,rfl,rfl⟩
   ·cases h
  ·cases h
 |_ =>
  simp only [res] at h
  repeat' split at h
  all_goals cases h
def KE (P:Program) (t:Nat) (a b:Value) (e:Bool):Prop:=(∃ xs ys,a=.agg xs/\b=.agg ys)/\P.eqGuardType P.depth t=false/\∀ w,(binOp .eql t a b).run P w=.ok (.bool e) w
theorem FD {t:Nat}{x y:QO}{a b:Value}{e:Bool}(h:KE P t a b e) {n:Nat}{o:Oper}(hr:res P.toTables o.op=some (.eqs t x y)) (β:AA) (hx:toV (x.ev β.tm)=some a) (hy:toV (y.ev β.tm)=some b):eB P w0 n o β S (.v (.bool e)) S:=by
 obtain⟨u,v,s,ho,rfl,rfl⟩:=FC hr
 rw [aU] at hx hy
 refine bg.ops (bg.quiet fun A g c w hS hA=>⟨.bool e,?_,.v⟩) fun c e=>by rw [ho] at e;cases e
 have e1:=s4 (hA.ev u) hx
 have e2:=s4 (hA.ev v) hy
 obtain⟨⟨xs,ys,rfl,rfl⟩,h1,h2⟩:=h
 have hg:(eqGuard .eql t u v (.agg xs) (.agg ys)).run P w=.ok () w:=by
  simp [eqGuard,h1]
 simp only [execOp,ho,e1,e2,Sem.run_bind,hg,Result.andThen_ok,h2 w,Sem.run_pure]
theorem ad.eqs {dr:Bool}{t:Nat}{x y:QO}{a b:Value}{e:Bool}(hx:toV (x.ev α.tm)=some a) (hy:toV (y.ev α.tm)=some b) (h:KE P t a b e):ad P w0 dr (.eqs t x y) α S (.v (.bool e)) S:=by
 cases dr with
 |false=>exact fun n o hr=>FD h hr α hx hy
 |true =>
  intro n o hr
  obtain⟨u,v,s,ho,hu,hv⟩:=FC hr
  have key:∀ z ∈ o.op.operands,(α.only (dg o)).ev z=α.ev z:=fun z hz=>jl fun t e=>iA (by rw [<-e];exact hz)
  have h1:(α.only (dg o)).ev u=α.ev u:=key u (by rw [ho];simp [Op.operands])
  have h2:(α.only (dg o)).ev v=α.ev v:=key v (by rw [ho];simp [Op.operands])
  have h3:∀ T,eB P w0 n o (α.only (dg o)) T (.v (.bool e)) T:=fun T=>FD h hr _ (by rw [hu,aU,h1,<-aU,<-hu];exact hx) (by rw [hv,aU,h2,<-aU,<-hv];exact hy)
  exact⟨h3 S,fun _=>⟨rfl,h3⟩,fun _=>rfl⟩
end
section
variable {P:Program}{w0:World}{rd dr:Bool}{n B:Nat}{α aB:AA}{S S':ae}{Q:Exit->AA->ae->Prop}{r:AV}{l:List QI}{K:List iq}{o:Oper}
theorem ve {t k sz by_ len:Nat}{ex:Bool}{b:QO}{rows:List (List AV)}{o:Oper}(ho:res P.toTables o.op=some (.append sz by_ (.t t) b)) (h1:α.tm t=.gr k sz len) (hk:S.get k=some (.arr sz rows 0 ex)) (hn:len=rows.length)
  (hb:∀ c,b.ev (bP α.tm t c)=b.ev α.tm) (hm:dv S (b.ev α.tm)=some []):eB P w0 n o α S (.gr k sz len) S:=by
 intro F mm A g a w nx R hF hS hA pI
 have au:t < n:=by
  rcases Nat.lt_or_ge t n with h|h
  ·exact h
  ·have:=hA.out t h;rw [h1] at this;cases this
 have hr:=hA.tm t au
 rw [h1] at hr
 obtain⟨v,hv⟩:∃ v,a.tmps.getD t undef=v:=⟨_,rfl⟩
 have bH:α.tm t ≠ .u:=by rw [h1];intro h;cases h
 rw [hv] at hr
 rcases qP hr with ⟨h,A',rfl⟩|⟨ir,c,rfl,hx,hle⟩
 ·have C8:b7 g w n ⟨bP α.tm t (.sl true []),α.df⟩ a:=hA.slot bH (by rw [hv];exact .nil fun _=>rfl)
  have h5:=ad.C9 (P:=P) (w0:=w0) (dr:=false) (α:=⟨bP α.tm t (.sl true []),α.df⟩) (S:=S) (sz:=sz) (by_:=by_) (a:=.t t) (b:=b) (rows:=[]) (aG _ _ _) (by rw [hb];exact hm) n o ho
  refine h5 F mm A g a w nx R hF hS C8 fun v w' g' k1 k2 k3=>pI v w' g' ?_ k2 k3
  subst h
  cases k1 with
  |nil hz=>obtain rfl:=hz rfl;exact .iW
  |sl hz=>exact absurd rfl hz
 ·have C8:b7 g w n ⟨bP α.tm t (.ob k sz 0 len none),α.df⟩ a:=hA.slot bH (by
   rw [hv]
   have:=aL.ob (g:=g) (w:=w) (k:=k) (sz:=sz) (off:=0) (len:=len) (c:=c) (cx:=none) ir (fun m h=>by cases h) (by omega) (fun _=>by omega) hle
   rwa [Nat.zero_mul] at this)
  have h5:=ad.yO (P:=P) (w0:=w0) (dr:=false) (α:=⟨bP α.tm t (.ob k sz 0 len none),α.df⟩) (S:=S) (sz:=sz) (by_:=by_) (a:=.t t) (b:=b) (k:=k) (fz:=0) (ex:=ex) (rows:=rows) (sz':=sz) (aG _ _ _) hk (by rw [hb];exact hm) n o ho
  refine h5 F mm A g a w nx R hF hS C8 fun v w' g' k1 k2 k3=>pI v w' g' ?_ k2 k3
  cases k1 with
  |ob q1 q2 q3 q4 q5=>rw [Nat.zero_mul];exact .gr q1 (by have:=q4 rfl;omega) q5
theorem fy {S:ae}{ex:Bool}{l:List (List AV)}:dv S (.sl ex l)=some l:=by
 simp [dv,rowsOf,l_]
section
variable {ρ:Hd}{T:Type}{f:T->List AV}{acc ys:List T}
theorem ab.MW {dd:Option Nat}{gg:Option (Nat × Bool)}{t:Nat}{b:QO}{sz by_ k len:Nat}{ex ex':Bool}(hw:cb α.tm gg=some true) (h1:α.tm t=.gr k sz len) (hk:S.get k=some (.arr sz (ρ.h (List.map f) acc) 0 ex)) (hn:len=acc.length) (gj:∀ c,b.ev (bP α.tm t c)=b.ev α.tm)
  (hb:b.ev α.tm=bY ρ f ex' ys) (hl:∀ x,(f x).length=sz) (hc:∀ x,(f x).all cn=true) (hy:(len+ys.length)*by_<=35184372088832)
  (k0:ys=[]->ab P w0 rd n Q (.bz false l K) (cG dd α (.gr k sz len)) S)
  (kk:∀ dx cF,ys ≠ []->dx=acc++ys->cF=dx.length->ab P w0 rd n Q (.bz false l K) (cG dd α (.gr S.nx sz cF)) ((S.set k none).new (.arr sz (ρ.h (List.map f) dx) 0 false))):ab P w0 rd n Q (.bz false (⟨dd,gg,.append sz by_ (.t t) b⟩::l) K) α S:=by
 have hlen:(ρ.h (List.map f) acc).length=acc.length:=af
 rw [dE] at hb
 cases ys with
 |nil =>
  exact ab.op (i:=⟨dd,gg,.append sz by_ (.t t) b⟩) hw (fun n o ho=>ve ho h1 hk (by omega) gj (by rw [hb];exact fy)) (k0 rfl)
 |cons y ys =>
  have h:=kk _ _ (by simp) rfl rfl
  have e:ρ.h (List.map f) acc++List.map f (y::ys)=ρ.h (List.map f) (acc++y::ys):=by rw [ρ.eq,ρ.eq,List.map_append]
  rw [<-e,show (acc++y::ys).length=len+(f y::List.map f ys).length by simp;omega] at h
  refine ab.op (i:=⟨dd,gg,.append sz by_ (.t t) b⟩) hw (ad.Hb h1 hk (by omega) gj (by rw [hb];exact fy) (by rw [hb];exact fy) (fun row hr=>?_) (by simpa using hy)) h
  obtain⟨x,_,rfl⟩:=List.mem_map.1 (show row ∈ List.map f (y::ys) from hr)
  exact⟨hl x,hc x⟩
end
theorem qq {sz by_:Nat}{a b:QO}{o:Op}(h:res P.toTables o=some (.append sz by_ a b)):jt o=false:=by
 obtain⟨c,t,t2,u,v,e,e2,z,rfl,h1,_⟩:=lQ h
 simp only [jt,h1]
theorem cj.append {sz by_:Nat}{a b:QO}{d:Dt}{ex:Bool}{more:List (List AV)}(hb:b.ev α.tm=.sl ex more) (hd:lr S d.F)
  (h:∀ T,lr T d.F->(d.m=true->T.nx=S.nx)->∀ e z,cY P e=some z->cS P e=some sz->gm P e=some by_->Nat.blt 0 by_=true->jm P e (qQ r (dQ T d.W d.m)) T more (a.ev α.tm)):cj P w0 B (.append sz by_ a b) α S r d:=by
 refine cj.Bc (fun o ho hp=>by rw [qq ho] at hp;cases hp) hd fun T hT hm o hr=>?_
 obtain⟨c,t,t2,u,v,e,e2,z,rfl,h1,h2,h3,rfl,rfl,h4,h5,h6,h7,h8,h9,P8⟩:=lQ hr
 rw [aU] at hb
 have h:=h T hT hm e z h6 h7 h8 P8
 rw [aU] at h
 simp only [bm,h1,lu,h2,h3,List.map_cons,List.map_nil,h4,h5,h6,h7,h9]
 rw [hb]
 exact bp.mk (a:=more) rfl ⟨rfl,h⟩
theorem cj.C9 {sz by_:Nat}{a b:QO}{ex:Bool}{rows:List (List AV)}(ha:a.ev α.tm=.sl true rows) (hb:b.ev α.tm=.sl ex []):cj P w0 B (.append sz by_ a b) α S (.sl true rows) ⟨[],[],false⟩ :=
 cj.append hb (fun p hp=>by cases hp) fun T _ _ e z _ _ _ _=>by
  rw [ha]
  exact⟨rfl,by rw [cO]⟩
theorem cj.Ai {sz by_:Nat}{a b:QO}{ex:Bool}{x:List AV}{more:List (List AV)}(ha:a.ev α.tm=.sl true []) (hb:b.ev α.tm=.sl ex (x::more)) (h3:∀ row ∈ x::more,row.length=sz) (h4:(x::more).length*by_<=35184372088832) :
  cj P w0 B (.append sz by_ a b) α S (.ob S.nx sz 0 (x::more).length none) ⟨[],[(S.nx,some (.arr sz (x::more) 0 false))],true⟩ :=
 cj.append hb (fun p hp=>by cases hp) fun T _ hm e z hz hs hy hp=>by
  rw [ha]
  simp only [jm,hs,hy,hp]
  refine⟨(fun _ h=>by cases h),h3,(by simpa using h4),?_,?_⟩
  ·rw [hm rfl];simp
  ·rw [dW]
   simp only [gQ,<-hm rfl]
   rfl
theorem cj.yO {sz by_ k fz len sz':Nat}{ex ex':Bool}{a b:QO}{rows:List (List AV)}(ha:a.ev α.tm=.ob k sz' 0 len none) (hk:S.get k=some (.arr sz' rows fz ex)) (hb:b.ev α.tm=.sl ex' []):cj P w0 B (.append sz by_ a b) α S (.ob k sz' 0 len none) ⟨[(k,.arr sz' rows fz ex)],[],false⟩ :=
 cj.append hb (fun p hp=>by simp only [List.mem_singleton] at hp;subst hp;exact hk) fun T hT _ e z _ _ _ _=>by
  rw [ha]
  simp only [jm]
  exact bp.mk (a:=(sz',rows,fz,ex)) (qR (hT (k,.arr sz' rows fz ex) (by simp))) ⟨rfl,by rw [cO]⟩
theorem cj.Hc {sz by_ k fz len:Nat}{ex ex':Bool}{a b:QO}{rows more:List (List AV)}{x:List AV}(ha:a.ev α.tm=.ob k sz 0 len none) (hk:S.get k=some (.arr sz rows fz ex)) (hb:b.ev α.tm=.sl ex' (x::more)) (h0:fz<=len) (h2:len<=rows.length)
  (h3:∀ row ∈ x::more,row.length=sz/\row.all cn=true) (h4:(len+(x::more).length)*by_<=35184372088832) :
  cj P w0 B (.append sz by_ a b) α S (.ob S.nx sz 0 (len+(x::more).length) none) ⟨[(k,.arr sz rows fz ex)],[(S.nx,some (.arr sz (rows.take len++x::more) fz false)),(k,none)],true⟩ :=
 cj.append hb (fun p hp=>by simp only [List.mem_singleton] at hp;subst hp;exact hk) fun T hT hm e z hz hs hy hp=>by
  rw [ha]
  simp only [jm]
  refine bp.mk (a:=(sz,rows,fz,ex)) (qR (hT (k,.arr sz rows fz ex) (by simp))) ?_
  simp only [hs,hy,hp,Nat.beq_refl,Bool.and_self,Bool.true_and]
  refine⟨h0,h2,h3,h4,(by rw [hm rfl]),?_⟩
  rw [dW]
  simp only [gQ,<-hm rfl]
  rfl
theorem cj.Hb {sz by_ t k len:Nat}{ex ex':Bool}{b:QO}{rows more:List (List AV)}{x:List AV}(ha:α.tm t=.gr k sz len) (hk:S.get k=some (.arr sz rows 0 ex)) (hn:len=rows.length) (gj:∀ c,b.ev (bP α.tm t c)=b.ev α.tm) (hb:b.ev α.tm=.sl ex' (x::more))
  (h3:∀ row ∈ x::more,row.length=sz/\row.all cn=true) (h4:(len+(x::more).length)*by_<=35184372088832) :
  cj P w0 B (.append sz by_ (.t t) b) α S (.gr S.nx sz (len+(x::more).length)) ⟨[(k,.arr sz rows 0 ex)],[(S.nx,some (.arr sz (rows++x::more) 0 false)),(k,none)],true⟩:=by
 intro n o hr
 refine⟨fun hp=>(by rw [qq hr] at hp;cases hp),(show lr S _ from fun p hp=>by simp only [List.mem_singleton] at hp;subst hp;exact hk),fun T _ hT hm=>?_⟩
 have e:∀ y:QO,(y=.t t\/y=b)->y.ev (α.only (dg o)).tm=y.ev α.tm:=by
  obtain⟨c,t1,t2,u,v,e,e2,z,ho,h1,h2,h3,h4,h5,_⟩:=lQ hr
  intro y hy
  have:∃ q ∈ [u,v],y=qo q:=by
   rcases hy with rfl|rfl
   ·exact⟨u,by simp,h4⟩
   ·exact⟨v,by simp,h5⟩
  obtain⟨q,hq,rfl⟩:=this
  rw [aU,aU]
  refine jl fun t ht=>iA ?_
  rw [ho,<-ht]
  have:q ∈ c.args:=Array.mem_toList_iff.1 (by rw [h3];exact hq)
  show q ∈ c.operands
  simp [Call.operands,this,h1]
 have et:(α.only (dg o)).tm t=.gr k sz len:=(e (.t t) (.inl rfl)).trans ha
 have eb:=e b (.inr rfl)
 have key:∀ c,b.ev (bP (α.only (dg o)).tm t c)=b.ev (α.only (dg o)).tm:=by
  intro c
  cases b with
  |t s =>
   by_cases hs:s=t
   ·exfalso;subst hs;rw [show (QO.t s).ev α.tm=α.tm s from rfl,ha] at hb;cases hb
   ·exact aN _ _ hs
  |_=>rfl
 have h:=C_ (P:=P) (w0:=w0) (n:=n) (α:=α.only (dg o)) (S:=T) (k:=k) (sz:=sz) (by_:=by_) (len:=len) (ex:=ex) (b:=b) (rows:=rows) (more:=more) (x:=x) hr et (hT (k,.arr sz rows 0 ex) (by simp)) hn key (by rw [eb,hb];exact fy) (by rw [eb,hb];exact fy) h3 h4
 rw [dW,<-hm rfl]
 exact h
theorem cj.ZU {sz by_ t k len:Nat}{ex ex':Bool}{b:QO}{rows:List (List AV)}(ha:α.tm t=.gr k sz len) (hk:S.get k=some (.arr sz rows 0 ex)) (hn:len=rows.length) (gj:∀ c,b.ev (bP α.tm t c)=b.ev α.tm) (hb:b.ev α.tm=.sl ex' []) :
  cj P w0 B (.append sz by_ (.t t) b) α S (.gr k sz len) ⟨[(k,.arr sz rows 0 ex)],[],false⟩:=by
 intro n o hr
 refine⟨fun hp=>(by rw [qq hr] at hp;cases hp),(show lr S _ from fun p hp=>by simp only [List.mem_singleton] at hp;subst hp;exact hk),fun T _ hT hm=>?_⟩
 have e:∀ y:QO,(y=.t t\/y=b)->y.ev (α.only (dg o)).tm=y.ev α.tm:=by
  obtain⟨c,t1,t2,u,v,e,e2,z,ho,h1,h2,h3,h4,h5,_⟩:=lQ hr
  intro y hy
  have:∃ q ∈ [u,v],y=qo q:=by
   rcases hy with rfl|rfl
   ·exact⟨u,by simp,h4⟩
   ·exact⟨v,by simp,h5⟩
  obtain⟨q,hq,rfl⟩:=this
  rw [aU,aU]
  refine jl fun t ht=>iA ?_
  rw [ho,<-ht]
  have:q ∈ c.args:=Array.mem_toList_iff.1 (by rw [h3];exact hq)
  show q ∈ c.operands
  simp [Call.operands,this,h1]
 have et:(α.only (dg o)).tm t=.gr k sz len:=(e (.t t) (.inl rfl)).trans ha
 have eb:=e b (.inr rfl)
 have key:∀ c,b.ev (bP (α.only (dg o)).tm t c)=b.ev (α.only (dg o)).tm:=by
  intro c
  cases b with
  |t s =>
   by_cases hs:s=t
   ·exfalso;subst hs;rw [show (QO.t s).ev α.tm=α.tm s from rfl,ha] at hb;cases hb
   ·exact aN _ _ hs
  |_=>rfl
 rw [show dQ T [] false=T from cO]
 exact ve hr et (hT (k,.arr sz rows 0 ex) (by simp)) hn key (by rw [eb,hb];exact fy)
theorem cj.P9 {f:QO}{aZ9:List QO}{g:FuncId}{args gI:List AV}{qD:AV}{so':List (Nat × Ob)}{ob:Ob}(bL:aV P w0 g args (aE [] 0) r (aE so' 1)) (h:e7 (f.ev α.tm) (aZ9.map (·.ev α.tm))=some (g,gI)) (ha:CE (bX []) 0 gI args)
  (hr:Rb (gP (bX []) 0 S.nx) r qD) (hT:oT (gP (bX []) 0 S.nx) so' [(S.nx,some ob)]) (hf:xJ so'=true):cj P w0 B (.call f aZ9) α S qD ⟨[],[(S.nx,some ob)],true⟩:=by
 intro n o iZ
 obtain⟨c,u,ho,hu,Vt,has⟩:=lj iZ
 refine⟨fun hp=>(by rw [ho] at hp;simp only [jt,hu] at hp;cases hp),(show lr S [] from fun p hp=>by cases hp),fun T _ _ hm=>?_⟩
 have e:T.nx=S.nx:=hm rfl
 have eo:∀ q ∈ (.call c:Op).operands,(α.only (dg o)).ev q=α.ev q:=fun q hq=>jl fun t ht=>iA (by rw [ho,<-ht];exact hq)
 have h':e7 (f.ev (α.only (dg o)).tm) (aZ9.map (·.ev (α.only (dg o)).tm))=some (g,gI):=by
  rw [<-h,Vt,has,aU,aU,lO,lO,eo u (show u ∈ c.operands by simp [Call.operands,hu])]
  congr 1
  exact List.map_congr_left fun q hq=>eo q (show q ∈ c.operands by simp [Call.operands,hu];exact .inr (by simpa using hq))
 rw [<-e] at hr hT ⊢
 intro F mm A gg a w nx R hF hS hA pI
 let T':ae:=⟨fun k=>if k < T.nx then T.get k else none,T.nx⟩
 have iu:St w0 A gg T' w:=hS.forget (Nat.le_refl _) fun j p hj _=>by
  have hj:(if j < T.nx then T.get j else none)=some p:=hj
  split at hj
  ·exact hj
  ·cases hj
 have hc:=ad.jJ (P:=P) (w0:=w0) (α:=α.only (dg o)) (T:=T') (m:=[]) (N:=0) (N':=1) (so:=[]) (so':=so') (to:=[(T.nx,some ob)]) (f:=f) (aZ9:=aZ9) bL h' ha hr rfl rfl trivial hT rfl (fun k p hk=>by
  have hk:(if k < T.nx then T.get k else none)=some p:=hk
  split at hk
  ·assumption
  ·cases hk) (.inr hf) n o iZ
 refine hc F mm A gg a w nx R hF iu hA fun v w' g' k1 k2 k3=>pI v w' g' k1 ?_ k3
 rw [dW]
 refine k2.forget (Nat.le_refl _) fun j p hj bG=>?_
 have Aj:j < T.nx+1:=k2.al j bG
 have hj:bP T.get T.nx (some ob) j=some p:=hj
 show bP T'.get T.nx (some ob) j=some p
 by_cases ej:j=T.nx
 ·subst ej;rw [aG] at hj ⊢;exact hj
 ·rw [aN _ _ ej] at hj ⊢
  show (if j < T.nx then T.get j else none)=some p
  rw [if_pos (by omega)]
  exact hj
end
end Go.Proofs.YtgphljokbodciaaGreat
