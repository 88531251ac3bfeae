import Derived.Test.YtgphljokbodciaaGreatS29
namespace Go.Proofs.YtgphljokbodciaaGreat
set_option linter.unusedVariables false
set_option linter.unusedSimpArgs false
open Go.RowKit
section
set_option maxRecDepth 100000
attribute [local irreducible] ah aV ad ab
def ui (w0:World) (f:FuncId) (args:List AV) (E:Int):Prop:=Ch Tryz.prog w0 f args (decide (E=0)) (.bc []) (lW E)
section
variable {w0:World}{ρ:Hd}{rd:Bool}{n:Nat}{α:AA}{S S':ae}{Q:Exit->AA->ae->Prop}{l:List QI}{K:List iq}{r:AV}{ex:Exit}
theorem Cp {f:FuncId}{q:QC × List QR}{args:List AV}{E:Int}(F:aD Tryz.prog f q n) (bD:args.length<=n) (h:ab Tryz.prog w0 false n (u0 q.2 (fun r' S=>decide (E=0)=true/\aX S r' (.bc [])) (fun wZ S=>decide (E=0)=false/\wZ=lW E)) (.run q.1 []) ⟨kP args,[]⟩ ae.none_):ui w0 f args E :=
 aD.O2 F bD (.bc fun a ha=>by cases ha) h
theorem yd {qs:List QR}{E:Int}(he:Cg ex=true) (h:tL qs ex α S=some (.bc [],S')) (k:E=0):ab Tryz.prog w0 rd n (u0 qs (fun r' S=>decide (E=0)=true/\aX S r' (.bc [])) (fun wZ S=>decide (E=0)=false/\wZ=lW E)) (.out ex []) α S :=
 ab.u4 he h ⟨decide_eq_true k,.refl _⟩
theorem ky {qs:List QR}{E e:Int}(hd:α.df=[]) (hz:decide (e=0)=false) (k:E=e):ab Tryz.prog w0 rd n (u0 qs (fun r' S=>decide (E=0)=true/\aX S r' (.bc [])) (fun wZ S=>decide (E=0)=false/\wZ=lW E)) (.out (.panic (lW e)) []) α S :=
 ab.UJ hd ⟨by rw [k];exact hz,by rw [k]⟩
theorem ab.mc {b:Bool}{e:Int}{d:Option Nat}{gd:Option (Nat × Bool)}{f:QO}{mh:List QO}(hw:cb α.tm gd=some true) (h:e7 (f.ev α.tm) (mh.map (·.ev α.tm))=some (154,[.v (.bool b),.v (.int .i64 e)]))
  (k1:b=true->ab Tryz.prog w0 rd n Q (.bz false l K) (cG d α (.bc [])) S) (k2:b=false->ab Tryz.prog w0 rd n Q (.out (.panic (lW e)) K) α S):ab Tryz.prog w0 rd n Q (.bz false (⟨d,gd,.call f mh⟩::l) K) α S :=
 ab.wu hw h (V9 b e) ⟨.v,.v,trivial⟩ (.bc fun a ha=>by cases ha) (fE.refl _ _) k1 k2
theorem ab.mD {E:Int}{d:Option Nat}{gd:Option (Nat × Bool)}{f:QO}{mh:List QO}{g:FuncId}{args:List AV}(hw:cb α.tm gd=some true) (h:e7 (f.ev α.tm) (mh.map (·.ev α.tm))=some (g,args)) (hc:ui w0 g args E) (hp:c_ args)
  (k1:E=0->ab Tryz.prog w0 rd n Q (.bz false l K) (cG d α (.bc [])) S) (k2:¬ E=0->ab Tryz.prog w0 rd n Q (.out (.panic (lW E)) K) α S):ab Tryz.prog w0 rd n Q (.bz false (⟨d,gd,.call f mh⟩::l) K) α S :=
 ab.wu hw h hc hp (.bc fun a ha=>by cases ha) (fE.refl _ _) (fun h=>k1 (of_decide_eq_true h)) (fun h=>k2 (of_decide_eq_false h))
end
def Rm:CF Tryz.f288:=⟨_,by conv=>lhs;cbv⟩
theorem aaX:aD Tryz.prog 288 Rm.1 Tryz.f288.ntmps:=aO Tryz.func288 Rm.2 Tryz.call288
def Wx:List Nat:=[0,2]
def Ro:CF Tryz.f385:=⟨_,by conv=>lhs;cbv⟩
theorem aaY:aD Tryz.prog 385 Ro.1 Tryz.f385.ntmps:=aO Tryz.func385 Ro.2 Tryz.call385
def Wy:List Nat:=[3,0,2,1]
def Rp:CF Tryz.f286:=⟨_,by conv=>lhs;cbv⟩
theorem aaZ:aD Tryz.prog 286 Rp.1 Tryz.f286.ntmps:=aO Tryz.func286 Rp.2 Tryz.call286
def HM:List Nat:=[0,4,1,6,2]
def Rq:CF Tryz.f287:=⟨_,by conv=>lhs;cbv⟩
theorem aa0:aD Tryz.prog 287 Rq.1 Tryz.f287.ntmps:=aO Tryz.func287 Rq.2 Tryz.call287
def pD:List Nat:=[8,5,1,7,9,6,14,0]
def oW (o:Int):Bool:=decide (5<=o) && decide (o<=12)
def named (n:ByteArray) (d:Dc):Bool:=d.n.toList == n.toList
def lf (ds:List Dc) (n:ByteArray) (a:Int):Int:=if ds.any (named n) then (if dU ds n a then 0 else 9) else 7
def mD (ds:List Dc) (g:Gl):Int:=if g.op=0 then lf ds g.n g.a.length else 0
def bh (e k:Int):Int:=if e=0 then k else e
theorem bw {e k:Int}(h:e=0):bh e k=k:=by rw [bh,if_pos h]
theorem cI {e k:Int}(h:¬ e=0):bh e k=e:=by rw [bh,if_neg h]
def gE (ds:List Dc):List Gl->Int
 |[]=>0
 |g::l=>bh (mD ds g) (gE ds l)
section
variable {w0:World}{ρ:Hd}
theorem Ll (o:Int):ah Tryz.prog w0 288 [iv o] (.v (.bool (oW o))):=by
 refine aaX.aH (by simp [Tryz.ntmps288]) (.v) ?_
 refine gq Wx ?_
 repeat' (first
  |(refine bq (fun hb=>?_) (fun hb=>?_)<;>(try simp only [aq] at hb)<;>(first|refine gq Wx ?_))
  |(refine fq ?_))
 all_goals (subst_vars;refine aI ?_;rw [oW,Bool.eq_iff_iff];simp;omega)
theorem Ub (d:Dc) (n:ByteArray):ah Tryz.prog w0 385 [dc d,.ip [.v (.string n)]] (.v (.bool (named n d))):=by
 obtain⟨dn,da⟩:=d
 refine aaY.aH (by simp [Tryz.ntmps385]) (.v) ?_
 refine gq Wy ?_
 repeat' (first
  |(refine bq (fun hb=>?_) (fun hb=>?_)<;>(try simp only [aq] at hb)<;>(first|refine gq Wy ?_))
  |(refine fq ?_))
 all_goals (subst_vars;refine aI ?_;unfold named;simp_all)
theorem AJ (ds:List Dc) (n:ByteArray) (a:Int) (hd:ds.length<=1099511627776):ui w0 286 [dP ρ ds,.v (.string n),iv a] (lf ds n a):=by
 have hF:Pure (.fn (.func 385) [] [.ip [.v (.string n)]]):=.fn (fun a ha=>by cases ha) fun a ha=>by obtain rfl:=List.mem_singleton.1 ha;exact .ip fun b hb=>by obtain rfl:=List.mem_singleton.1 hb;exact .v
 have h1:=Vy (w0:=w0) (ρ:=ρ) (named n) ds _ [] _ hd hF (fun x _=>⟨_,_,rfl,⟨Ah x,.ip fun b hb=>by obtain rfl:=List.mem_singleton.1 hb;exact .v,trivial⟩,Ub x n⟩)
 have h2:=tZ (w0:=w0) (ρ:=ρ) ds n a hd
 unfold lf
 obtain⟨b1,e1⟩:∃ b,b=ds.any (named n):=⟨_,rfl⟩
 obtain⟨b2,e2⟩:∃ b,b=dU ds n a:=⟨_,rfl⟩
 rw [<-e1] at h1
 rw [<-e2] at h2
 rw [<-e1,<-e2]
 clear e1 e2
 refine Cp aaZ (by simp [Tryz.ntmps286]) ?_
 refine gq HM ?_
 repeat' (first
  |(refine ab.op rfl (ad.wv rfl h1 ⟨cg _,hF,trivial⟩ .v ⟨.refl _,aX.fns trivial ⟨aX.box (cs:=[.v (.string n)]) (cs':=[.v (.string n)]) rfl ⟨.refl _,trivial⟩,trivial⟩,trivial⟩) ?_;refine gq HM ?_)
  |(refine ab.op rfl (ad.ag rfl h2 ⟨cg _,.v,.v,trivial⟩) ?_;refine gq HM ?_)
  |(refine ab.mc rfl rfl (fun hb=>?_) (fun hb=>?_)<;>(try simp only [aq] at hb)<;>(first|refine gq HM ?_))
  |(refine yd rfl (by conv=>lhs;cbv) ?_)
  |(refine ky rfl (by first|rfl ) ?_)
  )
 all_goals (subst_vars;simp)
theorem F5 (ds:List Dc) (l:List Gl) (hd:ds.length<=1099511627776) (hl:l.length<=1099511627776) (hz:∀ g ∈ l,g.a.length<=1099511627776):ui w0 287 [dP ρ ds,dC ρ l] (gE ds l):=by
 obtain⟨R,hR⟩:∃ R,R=gE ds l:=⟨_,rfl⟩
 rw [<-hR]
 refine Cp aa0 (by simp [Tryz.ntmps287]) ?_
 refine gq pD ?_
 repeat' (first
  |(refine az fun m hm=>?_;(try rw [af] at hm);refine gq pD ?_)
  )
 refine ab.aP (σ:=Int) 0 0 [] (fun i=>[(0,dP ρ ds),(6,dC ρ l),(7,.v (.int .i64 m)),(8,.v (.int .i64 i))]) [] (fun _=>[]) (fun i=>∃ k:Nat,i=k/\k<=l.length/\R=gE ds (l.drop k)) (fun i=>l.length - i.toNat) 0 ⟨0,rfl,by simp,by simpa using hR⟩ rfl cq ?_
 rintro i ⟨k,hi,hk,hp⟩
 clear hR
 refine gq pD ?_
 by_cases au:k < l.length
 ·obtain⟨x,hx,aQ⟩:=aA au
  rw [aQ,gE] at hp
  have l0:=hz x (List.mem_of_getElem? hx)
  obtain⟨o,n,a⟩:=x
  dsimp only at l0
  have hD:=AJ (w0:=w0) (ρ:=ρ) ds n a.length hd
  have hC:mD ds ⟨o,n,a⟩=if o=0 then lf ds n a.length else 0:=rfl
  obtain⟨D,Lm⟩:∃ D,D=lf ds n a.length:=⟨_,rfl⟩
  rw [<-Lm] at hC hD
  obtain⟨C,xl⟩:∃ C,C=mD ds ⟨o,n,a⟩:=⟨_,rfl⟩
  rw [<-xl] at hC hp
  obtain⟨q,hq⟩:∃ q:Int,q=a.length:=⟨_,rfl⟩
  rw [<-hq] at hD
  clear Lm xl
  repeat' (first
   |(refine ab.op rfl (ad.ind rfl rfl (ay (l:=l) hi hx) (aw fun _=>rfl)) ?_;refine gq pD ?_)
   |(refine ab.int rfl (ad.len rfl) fun m hm=>?_;rw [af] at hm;obtain rfl:m=q:=(by omega);refine gq pD ?_)
   |(refine ab.mD rfl rfl (hD) (by repeat' (first|exact trivial|(refine⟨?_,?_⟩;(first|exact .v|exact cg _ )))) (fun he=>?_) (fun he=>?_)<;>refine gq pD ?_)
   |(refine ab.pz ?_;refine gq pD ?_)
   |(refine yd rfl (by conv=>lhs;cbv) ?_)
   |(refine ky rfl (by first|exact decide_eq_false (by assumption)) ?_)
   |(refine bq (fun hb=>?_) (fun hb=>?_)<;>(try simp only [aq] at hb)<;>(first|refine gq pD ?_))
   |(refine aS fun _ _=>?_;refine gq pD ?_)
   |(refine ab.ao ?_;refine gq pD ?_)
   )
  all_goals first
   |(exfalso;omega)
   |(have e:C=0:=by (rw [hC];simp_all)
     rw [bw e] at hp;(refine ab.aK (σ:=Int) _ [] ?_ ?_ cq<;>first|omega|exact⟨k+1,by omega,by omega,hp⟩))
   |(have e:C=D:=by (rw [hC];simp_all)
     rw [cI (by omega)] at hp;rw [hp,e])
 ·skip
  repeat' (first
   |(refine yd rfl (by conv=>lhs;cbv) ?_)
   |(refine bq (fun hb=>?_) (fun hb=>?_)<;>(try simp only [aq] at hb)<;>(first|refine gq pD ?_))
   |(refine ab.ao ?_;refine gq pD ?_)
   )
  all_goals first
   |(exfalso;omega)
   |(rw [hp,List.drop_eq_nil_of_le (by omega)];rfl)
end
end
def cw (T:Tables) (n:Nat):Code->Option QC
 |.skip=>some .skip
 |.label _=>some .skip
 |.region _ ops dr=>match kS T n ops.toList ops.toList with
  |some l=>match dr with
   |false=>some (.bz false l)
   |true=>match oI ops with
    |true=>some (.dM (uf ops) l)
    |false=>none
  |none=>none
 |.seq a b=>match cw T n a,cw T n b with
  |some a',some b'=>some (.seq a' b')
  |_,_=>none
 |.cond c a b=>match cw T n a,cw T n b with
  |some a',some b'=>some (.cond (qo c) a' b')
  |_,_=>none
 |.block id a=>match cw T n a with
  |some a'=>some (.block id a')
  |none=>none
 |.scope a=>match cw T n a with
  |some a'=>some (.scope a')
  |none=>none
 |.loop a=>match cw T n a with
  |some a'=>some (.loop a')
  |none=>none
 |.exit id=>some (.exit id)
 |.ret=>some .ret
 |.rangeFunc f ps a b=>match cw T n a,cw T n b with
  |some a',some b'=>some (.uj (qo f) ps.toList a' b')
  |_,_=>none
 |c=>some (.raw c)
def inV (i:Nat):List (Nat × Nat)->Bool
 |[]=>false
 |p::V=>match Nat.beq p.1 i with
  |true=>true
  |false=>match Nat.beq p.2 i with|true=>true|false=>inV i V
def Bz (x y:List Nat × List Nat × Bool):Bool:=match Bt x,Bt y with
 |none,none=>dj x y
 |some l,none=>Bs y l
 |none,some l=>Bs x l
 |some _,some _=>false
def NJ (V:List (Nat × Nat)) (lg:List (List Nat × List Nat × Bool)):Bool:=V.all fun p=>Bz (vL lg p.1) (vL lg p.2)
def Dt.ok (d:Dt):Prop:=Bt d.ns=none
theorem Wz {d e:Dt × Option Nat}(h1:d.2=none->d.1.ok) (h2:e.2=none->e.1.ok) (h:Bz (xd d) (xd e)=true):Ay d e:=by
 obtain⟨d,x⟩:=d
 obtain⟨e,y⟩:=e
 cases x with
 |none =>
  have q1:Bt d.ns=none:=h1 rfl
  cases y with
  |none =>
   have q2:Bt e.ns=none:=h2 rfl
   simp only [Bz,xd,q1,q2] at h
   exact h
  |some l =>
   have h:Bz d.ns ([l],[],true)=true:=h
   unfold Bz at h
   rw [q1] at h
   exact h
 |some l =>
  cases y with
  |none =>
   have q2:Bt e.ns=none:=h2 rfl
   have h:Bz ([l],[],true) e.ns=true:=h
   unfold Bz at h
   rw [q2] at h
   exact h
  |some l'=>simp only [Bz,xd,Bt] at h;cases h
section
variable (P:Program) (w0:World) (rd:Bool) (n:Nat)
def ja (b:QC) (Q:Exit->AA->ae->Prop) (α:AA) (S:ae):Prop:=∀ c,cw P.toTables n c=some b->cM P c=true->Wp P w0 rd n c Q α S
def iQ (Q:Exit->AA->ae->Prop):List iq->Exit->AA->ae->Prop
 |[]=>Q
 |.seq b::K=>fun ex α S=>match ex with|.normal=>ja P w0 rd n b (iQ Q K) α S|e=>iQ Q K e α S
 |.qE id::K=>fun ex α S=>match ex with|.exit j=>(match Nat.beq j id with|true=>iQ Q K .normal α S|false=>iQ Q K (.exit j) α S)|e=>iQ Q K e α S
 |.uU::K=>fun ex α S=>match ex with|.goto _=>False|e=>iQ Q K e α S
def vM (B:Nat) (V:List (Nat × Nat)) (lg:List (List Nat × List Nat × Bool)) (l:List QI) (Q:AA->ae->Prop) (α:AA) (S:ae):Prop :=
 ∀ ops:List Oper,kS P.toTables n ops (ops.drop lg.length)=some l->uf ops.toArray=V->∃ (D:Nat->Dt × Option Nat) (aB:AA) (S':ae),ig P w0 n ops.toArray B D (List.range' lg.length l.length) α S aB S' /\
  NJ V (lg++(List.range' lg.length l.length).map fun i=>xd (D i))=true/\(∀ i ∈ List.range' lg.length l.length,(D i).2=none->(D i).1.ok)/\Q aB S'
def ck (Q:Exit->AA->ae->Prop):QF->AA->ae->Prop
 |.run c K,α,S=>ja P w0 rd n c (iQ P w0 rd n Q K) α S
 |.out ex K,α,S=>iQ P w0 rd n Q K ex α S
 |.bz dr l K,α,S=>match dr with
  |false=>eg P w0 n false l (fun α S=>iQ P w0 rd n Q K .normal α S) (fun ch α S=>iQ P w0 rd n Q K (.panic ch) α S) α S
  |true=>False
 |.dM B V lg rs l K,α,S=>(∀ k ∈ rs,k < B)->B<=S.nx->vM P w0 n B V lg l (fun α S=>iQ P w0 rd n Q K .normal α S) α S
end
section
variable {P:Program}{w0:World}{rd:Bool}{n:Nat}{α aB:AA}{S S':ae}{Q Q':Exit->AA->ae->Prop}{ex:Exit}{r:AV}{i:QI}{l:List QI}{R:AA->ae->Prop}
theorem BA {c:Code}{dr:Bool}(h:cw P.toTables n c=some (.bz dr l)):∃ id ops,c=.region id ops false/\dr=false/\kS P.toTables n ops.toList ops.toList=some l:=by
 cases c<;>simp only [cw] at h<;>(repeat' split at h)<;>(try cases h)
 ·exact⟨_,_,rfl,rfl,by assumption⟩
theorem Ln {c:Code}{V:List (Nat × Nat)}(h:cw P.toTables n c=some (.dM V l)):∃ id ops,c=.region id ops true/\kS P.toTables n ops.toList ops.toList=some l/\oI ops=true/\V=uf ops:=by
 cases c<;>simp only [cw] at h<;>(repeat' split at h)<;>(try cases h)
 ·exact⟨_,_,rfl,by assumption,by assumption,rfl⟩
theorem BB {c:Code}{a b:QC}(h:cw P.toTables n c=some (.seq a b)):∃ c1 c2,c=.seq c1 c2/\cw P.toTables n c1=some a/\cw P.toTables n c2=some b:=by
 cases c<;>simp only [cw] at h<;>(repeat' split at h)<;>(try cases h)
 ·exact⟨_,_,rfl,by assumption,by assumption⟩
theorem HN {c:Code}{x:QO}{a b:QC}(h:cw P.toTables n c=some (.cond x a b)):∃ y c1 c2,c=.cond y c1 c2/\qo y=x/\cw P.toTables n c1=some a/\cw P.toTables n c2=some b:=by
 cases c<;>simp only [cw] at h<;>(repeat' split at h)<;>(try cases h)
 ·exact⟨_,_,_,rfl,rfl,by assumption,by assumption⟩
theorem E6 {c:Code}{id:Nat}{a:QC}(h:cw P.toTables n c=some (.block id a)):∃ c1,c=.block id c1/\cw P.toTables n c1=some a:=by
 cases c<;>simp only [cw] at h<;>(repeat' split at h)<;>(try cases h)
 ·exact⟨_,rfl,by assumption⟩
theorem E7 {c:Code}{a:QC}(h:cw P.toTables n c=some (.scope a)):∃ c1,c=.scope c1/\cw P.toTables n c1=some a:=by
 cases c<;>simp only [cw] at h<;>(repeat' split at h)<;>(try cases h)
 ·exact⟨_,rfl,by assumption⟩
theorem HO {c:Code}{a:QC}(h:cw P.toTables n c=some (.loop a)):∃ c1,c=.loop c1/\cw P.toTables n c1=some a:=by
 cases c<;>simp only [cw] at h<;>(repeat' split at h)<;>(try cases h)
 ·exact⟨_,rfl,by assumption⟩
theorem HP {c:Code}{x:QO}{ps:List Nat}{a b:QC}(h:cw P.toTables n c=some (.uj x ps a b)):∃ y pt c1 c2,c=.rangeFunc y pt c1 c2/\qo y=x/\pt.toList=ps/\cw P.toTables n c1=some a/\cw P.toTables n c2=some b:=by
 cases c<;>simp only [cw] at h<;>(repeat' split at h)<;>(try cases h)
 ·exact⟨_,_,_,_,rfl,rfl,rfl,by assumption,by assumption⟩
theorem oX {c:Code}:(cw P.toTables n c=some .skip->KI c)/\(cw P.toTables n c=some .ret->c=.ret)/\∀ id,cw P.toTables n c=some (.exit id)->c=.exit id:=by
 refine⟨fun h=>?_,fun h=>?_,fun id h=>?_⟩
 all_goals
  cases c<;>simp only [cw] at h<;>(repeat' split at h)<;>(try cases h)<;>first|rfl|exact .inl rfl|exact .inr ⟨_,rfl⟩
theorem ja.seq {a b:QC}(h:ja P w0 rd n a (fun ex α S=>match ex with|.normal=>ja P w0 rd n b Q α S|e=>Q e α S) α S):ja P w0 rd n (.seq a b) Q α S:=by
 intro c hc hd
 obtain⟨c1,c2,rfl,h1,h2⟩:=BB hc
 simp only [cM,Bool.and_eq_true] at hd
 refine Wp.seq ?_
 obtain⟨ex,bN,bZ,h3,h4⟩:=h c1 h1 hd.1
 refine⟨ex,bN,bZ,h3,?_⟩
 cases ex with
 |normal=>exact h4 c2 h2 hd.2
 |_=>exact h4
theorem ja.cond {x:QO}{a b:QC}{t:Bool}(hx:x.ev α.tm=.v (.bool t)) (h:ja P w0 rd n (if t then a else b) Q α S):ja P w0 rd n (.cond x a b) Q α S:=by
 intro c hc hd
 obtain⟨y,c1,c2,rfl,rfl,h1,h2⟩:=HN hc
 simp only [cM,Bool.and_eq_true] at hd
 refine Wp.cond (by rw [Rr];exact hx) ?_
 cases t with
 |true=>exact h c1 h1 hd.1
 |false=>exact h c2 h2 hd.2
theorem ja.scope {a:QC}(h:ja P w0 rd n a (fun ex α S=>match ex with|.goto _=>False|e=>Q e α S) α S):ja P w0 rd n (.scope a) Q α S:=by
 intro c hc hd
 obtain⟨c1,rfl,h1⟩:=E7 hc
 obtain⟨ex,bN,bZ,h2,h3⟩:=h c1 h1 hd
 cases ex with
 |goto l=>exact h3.elim
 |_=>exact⟨_,bN,bZ,cy.scope h2 (fun l e=>by cases e),h3⟩
theorem ja.block {id:Nat}{a:QC}(h:ja P w0 rd n a (fun ex α S=>match ex with|.exit j=>(match Nat.beq j id with|true=>Q .normal α S|false=>Q (.exit j) α S)|e=>Q e α S) α S):ja P w0 rd n (.block id a) Q α S:=by
 intro c hc hd
 obtain⟨c1,rfl,h1⟩:=E6 hc
 exact Wp.block (h c1 h1 hd)
theorem ja.bz (h:eg P w0 n false l (fun α S=>Q .normal α S) (fun ch α S=>Q (.panic ch) α S) α S):ja P w0 rd n (.bz false l) Q α S:=by
 intro c hc hd
 obtain⟨id,ops,rfl,_,h1⟩:=BA hc
 rcases h _ _ h1 0 rfl with ⟨aB,S',h3,h4⟩|⟨ch,aB,S',h3,h4⟩
 ·rw [Array.length_toList,<-List.range_eq_range'] at h3
  exact⟨_,aB,S',cy.region h3,h4⟩
 ·rw [Array.length_toList,<-List.range_eq_range'] at h3
  exact⟨.panic ch,aB,S',fun F m A g a w hF hR hS hA=>wpIn_region (h3 F m A g a w _ hF hS hA fun a' w' g' q1 q2 q3=>⟨rfl,g',q1,q2,q3⟩),h4⟩
theorem DT {ops:List Oper}:∀ {rest:List Oper}{l:List QI},kS P.toTables n ops rest=some l->l.length=rest.length
 |[],l,h=>by obtain rfl:=Option.some.inj h;rfl
 |o::rest,l,h=>by
  cases l with
  |nil =>
   exfalso
   simp only [kS] at h
   split at h
   ·split at h
    ·cases h
    ·split at h<;>cases h
   ·cases h
  |cons i l =>
   obtain⟨o',km,e,h3,_⟩:=lF (α:=⟨fun _=>.u,[]⟩) h
   injection e with e1 e2
   subst e1 e2
   simp [DT h3]
theorem DU {ops:Array Oper}{m:List Nat}:∀ {k:Nat}{q:Nat × Nat},q ∈ sd ops m k->q.1 < k/\q.2 < k
 |0,q,h=>by cases h
 |k+1,q,h=>by
  simp only [sd,List.mem_append,List.mem_map,List.mem_filter,List.mem_range] at h
  rcases h with ⟨x,⟨hx,_⟩,rfl⟩|h
  ·exact⟨by simp only;omega,by simp only;omega⟩
  ·have:=DU h;omega
theorem ja.dM {V:List (Nat × Nat)}(h:(∀ k ∈ gS l S.nx,k < S.nx+(gS l S.nx).length)->S.nx+(gS l S.nx).length<=(uk S l).nx->vM P w0 n (S.nx+(gS l S.nx).length) V [] l (fun α S=>Q .normal α S) α (uk S l)):ja P w0 rd n (.dM V l) Q α S:=by
 intro c hc hd
 obtain⟨id,ops,rfl,h1,h2,rfl⟩:=Ln hc
 simp only [cM,Bool.and_eq_true] at hd
 have hl:l.length=ops.size:=by rw [DT h1];simp
 obtain⟨D,aB,S',h3,h4,h6,h5⟩:=h (fun k hk=>(rD hk).2) (by cases S;exact Nat.le_refl _) ops.toList h1 rfl
 simp only [List.length_nil,hl,List.nil_append] at h3 h4 h6
 rw [<-List.range_eq_range'] at h3 h4 h6
 refine⟨.normal,aB,S',fun F m A g a w hF hR hS hA=>?_,h5⟩
 refine cy.aaW hd.1 h2 (fun p hp=>?_) h3 F m A g a w hF hR (hS.rsv l) hA
 obtain⟨k1,k2⟩:=DU (List.mem_filter.1 hp).1
 have get:∀ i,i < ops.size->vL ((List.range ops.size).map fun i=>xd (D i)) i=xd (D i):=fun i hi=>by
  unfold vL
  rw [List.getD_eq_getElem?_getD,List.getElem?_map,List.getElem?_range hi]
  rfl
 have h7:=List.all_eq_true.1 h4 p hp
 rw [get _ k1,get _ k2] at h7
 exact Wz (h6 _ (List.mem_range.2 k1)) (h6 _ (List.mem_range.2 k2)) h7
theorem ja.done {a:QC}(hd:∀ c,cw P.toTables n c=some a->Wp P w0 rd n c Q α S):ja P w0 rd n a Q α S:=fun c hc _=>hd c hc
variable {K:List iq}
theorem ck.skip (h:ck P w0 rd n Q (.out .normal K) α S):ck P w0 rd n Q (.run .skip K) α S:=ja.done fun c hc=>Wp.of (cy.skip (oX.1 hc)) h
theorem ck.exit_ {id:Nat}(h:ck P w0 rd n Q (.out (.exit id) K) α S):ck P w0 rd n Q (.run (.exit id) K) α S:=ja.done fun c hc=>by rw [oX.2.2 _ hc];exact Wp.of (cy.exit_ _) h
theorem ck.afQ (h:ck P w0 rd n Q (.out .ret K) α S):ck P w0 rd n Q (.run .ret K) α S:=ja.done fun c hc=>by rw [oX.2.1 hc];exact Wp.of cy.ret h
theorem ck.seq {a b:QC}(h:ck P w0 rd n Q (.run a (.seq b::K)) α S):ck P w0 rd n Q (.run (.seq a b) K) α S:=ja.seq h
theorem ck.cond {x:QO}{a b:QC}{t:Bool}(hx:x.ev α.tm=.v (.bool t)) (h:ck P w0 rd n Q (.run (if t then a else b) K) α S):ck P w0 rd n Q (.run (.cond x a b) K) α S:=ja.cond hx h
theorem ck.scope {a:QC}(h:ck P w0 rd n Q (.run a (.uU::K)) α S):ck P w0 rd n Q (.run (.scope a) K) α S:=ja.scope h
theorem ck.block {id:Nat}{a:QC}(h:ck P w0 rd n Q (.run a (.qE id::K)) α S):ck P w0 rd n Q (.run (.block id a) K) α S:=ja.block h
theorem ck.bz (h:ck P w0 rd n Q (.bz false l K) α S):ck P w0 rd n Q (.run (.bz false l) K) α S:=ja.bz h
theorem ck.dM {V:List (Nat × Nat)}(h:ck P w0 rd n Q (.dM (S.nx+(gS l S.nx).length) V [] (gS l S.nx) l K) α (uk S l)):ck P w0 rd n Q (.run (.dM V l) K) α S:=ja.dM fun h1 h2=>h h1 h2
theorem ck.fin (h:ck P w0 rd n Q (.out .normal K) α S):ck P w0 rd n Q (.bz false [] K) α S:=by
 show eg P w0 n false [] _ _ α S
 exact eg.nil h
theorem ck.op (hw:cb α.tm i.g=some true) (h:ad P w0 false i.q α S r S') (k:ck P w0 rd n Q (.bz false l K) (cG i.d α r) S'):ck P w0 rd n Q (.bz false (i::l) K) α S:=by
 show eg P w0 n false (i::l) _ _ α S
 exact eg.op hw h k
theorem ck.no (hw:cb α.tm i.g=some false) (k:ck P w0 rd n Q (.bz false l K) (cG i.d α (.v undef)) S):ck P w0 rd n Q (.bz false (i::l) K) α S:=by
 show eg P w0 n false (i::l) _ _ α S
 exact eg.skip hw k
theorem ck.cv {c:QC}(h:Cv w0 n α S aB S') (k:ck P w0 rd n Q (.run c K) aB S'):ck P w0 rd n Q (.run c K) α S:=by
 intro c0 hc hd
 obtain⟨ex,bN,bZ,h1,h2⟩:=k c0 hc hd
 exact⟨ex,bN,bZ,h1.cv h,h2⟩
theorem ig.congr {ops:Array Oper}{B:Nat}{D D':Nat->Dt × Option Nat}:∀ {L:List Nat}{α aB:AA}{S S':ae},(∀ i ∈ L,D i=D' i)->ig P w0 n ops B D L α S aB S'->ig P w0 n ops B D' L α S aB S'
 |[],_,_,_,_,_,.nil ..=>.nil ..
 |i::rest,_,_,_,_,he,.cons h t=>.cons (by rw [<-he i (by simp)];exact h) (t.congr fun j hj=>he j (by simp [hj]))
theorem vM.step {B:Nat}{V:List (Nat × Nat)}{lg:List (List Nat × List Nat × Bool)}{d:Dt × Option Nat}{α1:AA}{S1:ae}(hx:d.2=none->d.1.ok)
  (hg:∀ ops o rest,ops.drop lg.length=o::rest->mC n o.dst=true->o.dst=i.d->res P.toTables o.op=some i.q->(∀ b,cb α.tm i.g=some b->gO ops α o=some b)->DF P w0 n ops.toArray B lg.length d α S α1 S1)
  (k:vM P w0 n B V (lg++[xd d]) l R α1 S1):vM P w0 n B V lg (i::l) R α S:=by
 intro ops hr hV
 obtain⟨o,rest,h1,h2,h3,h4,h5,h6⟩:=lF (α:=α) hr
 obtain⟨h7,h8⟩:=lG h1
 obtain⟨D,aB,S',k1,k2,k4,k3⟩:=k ops (by rw [List.length_append,List.length_singleton,h8];exact h2) hV
 simp only [List.length_append,List.length_singleton] at k1 k2 k4
 refine⟨fun i=>if i=lg.length then d else D i,aB,S',?_,?_,?_,k3⟩
 ·rw [List.length_cons,List.range'_succ]
  refine .cons (by rw [if_pos rfl];exact hg ops o rest h1 h3 h4 h5 h6) (k1.congr fun i hi=>?_)
  have:=(List.mem_range'_1.1 hi).1
  rw [if_neg (by omega)]
 ·rw [List.length_cons,List.range'_succ,List.map_cons]
  simp only [if_pos]
  have e:((List.range' (lg.length+1) l.length).map fun i=>xd (if i=lg.length then d else D i))=(List.range' (lg.length+1) l.length).map fun i=>xd (D i):=List.map_congr_left fun i hi=>by
   have:=(List.mem_range'_1.1 hi).1
   rw [if_neg (by omega)]
  rw [e]
  rw [List.append_assoc] at k2
  exact k2
 ·intro j hj hb
  rw [List.length_cons,List.range'_succ] at hj
  rcases List.mem_cons.1 hj with rfl|hj
  ·show ((if lg.length=lg.length then d else D lg.length):Dt × Option Nat).1.ok
   have hb:((if lg.length=lg.length then d else D lg.length):Dt × Option Nat).2=none:=hb
   rw [if_pos rfl] at hb ⊢
   exact hx hb
  ·have:=(List.mem_range'_1.1 hj).1
   show ((if j=lg.length then d else D j):Dt × Option Nat).1.ok
   have hb:((if j=lg.length then d else D j):Dt × Option Nat).2=none:=hb
   rw [if_neg (by omega)] at hb ⊢
   exact k4 j hj hb
theorem ck.vq {B:Nat}{V:List (Nat × Nat)}{lg:List (List Nat × List Nat × Bool)}{rs:List Nat}{d:Dt}(hw:cb α.tm i.g=some true) (od:d.ok) (h:cj P w0 B i.q α S r d) (k:ck P w0 rd n Q (.dM B V (lg++[d.ns]) rs l K) (cG i.d α r) (dQ S d.W d.m)):ck P w0 rd n Q (.dM B V lg rs (i::l) K) α S:=by
 intro fD hB
 refine vM.step (d:=(d,none)) (fun _=>od) (fun ops o rest h1 h2 h3 h4 h5=>?_) (k fD (by rw [dW];exact Nat.le_trans hB (Nat.le_add_right _ _)))
 obtain⟨k1,k2,k3⟩:=h n o h4
 exact⟨o,(lG h1).1,h2,k1,hB,k2,rfl,.inr ⟨(zh (h5 _ hw)).1 rfl,r,by rw [oJ,<-h3];cases o.dst<;>rfl,fun T hb ht hm=>k3 T hb ht hm⟩⟩
theorem ck.dno {B:Nat}{V:List (Nat × Nat)}{lg:List (List Nat × List Nat × Bool)}{rs:List Nat}(hw:cb α.tm i.g=some false) (k:ck P w0 rd n Q (.dM B V (lg++[([],[],false)]) rs l K) (cG i.d α (.v undef)) S):ck P w0 rd n Q (.dM B V lg rs (i::l) K) α S:=by
 intro fD hB
 refine vM.step (d:=(.none_,none)) (fun _=>rfl) (fun ops o rest h1 h2 h3 h4 h5=>?_) (k fD hB)
 obtain⟨j,want,c,e1,e2,e3⟩:=(zh (h5 _ hw)).2 rfl
 exact⟨o,(lG h1).1,h2,fun _=>rfl,hB,(show lr S [] from fun p hp=>by cases hp),cO.symm,.inl ⟨j,want,c,e1,e2,e3,by rw [oJ,<-h3];cases o.dst<;>rfl,rfl⟩⟩
def DV:dz->Bool
 |.mv _|.pick ..|.build ..|.rows ..|.bin ..|.eqs ..|.not _|.neg _|.conv ..|.qf _|.NK _|.wK ..|.field ..|.r_ ..|.o6 ..|.vv ..|.mK ..|.slice ..|.extract ..|.DW ..|.wL _|.len ..|.min ..|.max ..=>true
 |_=>false
theorem Uc {o:Op}{q:dz}(h:res P.toTables o=some q) (hq:DV q=false):jt o=false:=by
 cases o<;>simp only [res] at h<;>(repeat' split at h)<;>(try cases h)<;>first|rfl|(cases hq;done)|(simp only [jt, *])
def mn:dz->List QO
 |.mv x|.box x|.not x|.neg x|.conv _ x|.qf x|.wK _ x|.field _ _ x|.vw x|.qg x|.wL x|.NK x|.uZ x|.z6 _ x|.ti _ x|.Lo x|.cap x|.extract x _|.len _ x|.load _ x=>[x]
 |.store _ a b|.bin _ _ a b|.r_ _ a b|.o6 _ _ a b|.vv a b|.mK _ _ _ a b|.append _ _ a b|.min a b|.max a b|.look _ _ a b|.eqs _ a b|.del a b|.copy _ a b|.eU _ _ _ a b|.WA _ a b|.jo _ _ a b|.Ax _ _ a b=>[a,b]
 |.pick a b c|.j6 a b c|.k_ _ a b c|.WB a b c=>[a,b,c]
 |.slice _ x a b c=>[x]++a.toList++b.toList++c.toList
 |.call f aZ9=>f::aZ9
 |.eZ x=>x.toList
 |_=>[]
def zi:List QO->List Nat
 |[]=>[]
 |.t n::l=>n::zi l
 |.c _::l=>zi l
theorem AK {t:Nat}:∀ {l:List QO},t ∈ zi l->QO.t t ∈ l
 |[],h=>by cases h
 |.t n::l,h=>by
  rcases List.mem_cons.1 h with rfl|h
  ·exact List.mem_cons_self
  ·exact List.mem_cons_of_mem _ (AK h)
 |.c a::l,h=>List.mem_cons_of_mem _ (AK (l:=l) h)
theorem NL {o:Op}{q:dz}(hq:DV q=false) (h:res P.toTables o=some q):∀ x ∈ mn q,∃ y ∈ o.operands,x=qo y:=by
 have arr:∀ {c:Call}{x:Operand},x ∈ c.args.toList->x ∈ c.operands:=fun {c x} hx=>by
  have:=Array.mem_toList_iff.1 hx
  unfold Call.operands
  split<;>simp [this]
 have opt:∀ {z:Option Operand}{x:QO},x ∈ (z.map qo).toList->∃ y,z=some y/\x=qo y:=by
  intro z x hx
  cases z with
  |none=>simp at hx
  |some y=>simp at hx;exact⟨y,rfl,hx⟩
 cases o with
 |call c =>
  simp only [res] at h
  intro x hx
  split at h
  ·rename_i f hf
   obtain rfl:=Option.some.inj h
   simp only [mn,List.mem_cons,List.mem_map] at hx
   rcases hx with rfl|⟨y,hy,rfl⟩
   ·exact⟨f,by show f ∈ c.operands;simp [Call.operands,hf],rfl⟩
   ·exact⟨y,arr hy,rfl⟩
  ·have key:∀ {u v:Operand},c.args.toList=[u,v]->∀ y,y=u\/y=v->y ∈ c.operands:=fun e y hy=>arr (by rw [e];simpa using hy)
   have afR:∀ {u:Operand},c.args.toList=[u]->u ∈ c.operands:=fun e=>arr (by rw [e];simp)
   repeat' split at h
   all_goals first
    |(cases h;done)
    |(obtain rfl:=Option.some.inj h
      simp only [mn,List.mem_cons,List.not_mem_nil,or_false] at hx
      first
       |(rcases hx with rfl|rfl
         exact⟨_,key (by assumption) _ (.inl rfl),rfl⟩
         exact⟨_,key (by assumption) _ (.inr rfl),rfl⟩)
       |(subst hx;exact⟨_,afR (by assumption),rfl⟩)
       |fail "call")
    |fail "callall"
  ·cases h
 |makeMap t r =>
  simp only [res] at h
  split at h
  ·obtain rfl:=Option.some.inj h
   intro x hx
   obtain⟨y,rfl,rfl⟩:=opt hx
   exact⟨y,by simp [Op.operands],rfl⟩
  ·cases h
 |_ =>
  simp only [res] at h
  repeat' split at h
  all_goals first
   |(cases h;done)
   |(obtain rfl:=Option.some.inj h
     first
      |(cases hq;done)
      |(intro x hx;cases hx;done)
      |(intro x hx
        simp only [mn,List.mem_cons,List.not_mem_nil,or_false] at hx
        first
         |(cases hx;done)
         |(subst hx;exact⟨_,by simp [Op.operands],rfl⟩)
         |(rcases hx with rfl|rfl<;>exact⟨_,by simp [Op.operands],rfl⟩)
         |(rcases hx with rfl|rfl|rfl<;>exact⟨_,by simp [Op.operands],rfl⟩)
         |fail "ops")
      |fail "cs")
   |fail "all"
def wM (L:List Nat) (f:Nat->AV):Nat->AV:=fun t=>match jV t L with|true=>f t|false=>.u
theorem ye {k:Nat}:∀ {l:List Nat},jV k l=true->k ∈ l
 |[],h=>by cases h
 |j::l,h=>by
  simp only [jV] at h
  split at h
  ·rename_i hb
   rw [Nat.eq_of_beq_eq_true hb]
   exact List.mem_cons_self
  ·exact List.mem_cons_of_mem _ (ye h)
theorem eB.afS {o:Oper}{β:AA}(hw:∀ t,β.tm t=α.tm t\/β.tm t=.u) (hd:β.df=α.df) (h:eB P w0 n o β S r S'):eB P w0 n o α S r S':=by
 intro F m A g a w next R hF hS hA mB
 refine h F m A g a w next R hF hS ⟨hA.size,fun t ht=>?_,fun t ht=>?_,by rw [hd];exact hA.df,fun k hk=>hA.sZ k (by rw [<-hd];exact hk)⟩ mB
 ·rcases hw t with e|e
  ·rw [e];exact hA.tm t ht
  ·rw [e];exact .u
 ·rcases hw t with e|e
  ·rw [e];exact hA.out t ht
  ·exact e
theorem ck.xop {B:Nat}{V:List (Nat × Nat)}{lg:List (List Nat × List Nat × Bool)}{rs:List Nat}(hw:cb α.tm i.g=some true) (hp:DV i.q=false) (hn:S.nx<=S'.nx) {lw:Nat}(hold:∀ k,k < lw->S'.get k=S.get k) (h:ad P w0 false i.q ⟨wM (zi (mn i.q)) α.tm,α.df⟩ S r S')
  (k:ck P w0 rd n Q (.dM B V (lg++[([lw],[],true)]) rs l K) (cG i.d α r) S'):ck P w0 rd n Q (.dM B V lg rs (i::l) K) α S:=by
 intro fD hB
 refine vM.step (d:=(.none_,some lw)) (fun e=>by cases e) (fun ops o rest h1 h2 h3 h4 h5=>?_) (k fD (Nat.le_trans hB hn))
 have hi:=(lG h1).1
 refine⟨o,hi,h2,by simp only [pA,hi];exact Uc h4 hp,hB,hn,hold,(zh (h5 _ hw)).1 rfl,r,by rw [oJ,<-h3];cases o.dst<;>rfl,?_⟩
 refine eB.afS (β:=⟨wM (zi (mn i.q)) α.tm,α.df⟩) (fun t=>?_) rfl (h n o h4)
 show wM (zi (mn i.q)) α.tm t=(α.only (dg o)).tm t\/wM (zi (mn i.q)) α.tm t=.u
 unfold wM
 cases hm:jV t (zi (mn i.q)) with
 |false=>exact .inr rfl
 |true =>
  left
  obtain⟨y,hy,e⟩:=NL hp h4 _ (AK (ye hm))
  have:t ∈ dg o:=by
   cases y with
   |tmp t' =>
    injection e with e
    subst e
    exact iA hy
   |_=>cases e
  show α.tm t=if (dg o).contains t then α.tm t else .u
  rw [if_pos (by simpa using this)]
theorem ck.afT {B:Nat}{V:List (Nat × Nat)}{lg:List (List Nat × List Nat × Bool)}{rs:List Nat}(hc:NJ V lg=true) (h:ck P w0 rd n Q (.out .normal K) α S):ck P w0 rd n Q (.dM B V lg rs [] K) α S:=by
 intro fD hB
 exact fun ops _ _=>⟨fun _=>(.none_,none),α,S,.nil ..,by simpa using hc,fun i hi=>(by cases hi),h⟩
structure aF (P:Program) (f:FuncId) (q:QC × List QR) (n:Nat):Prop where
 out:∃ fn c,P.funcs[f]?=some fn/\fn.body=some c/\fn.ntmps=n/\sU P.toTables fn.results.toList=some q.2/\cw P.toTables n c=some q.1/\cM P c=true/\∀ (xs:Array Value) (w:World),(callFunc f xs).run P w=.ok (.enter f xs) w
def aR (T:Tables) (fn:Func):Option (QC × List QR):=match fn.body with
 |some c=>match cw T fn.ntmps c,sU T fn.results.toList with
  |some q,some qs=>some (q,qs)
  |_,_=>none
 |none=>none
theorem aF.of {f:FuncId}{q:QC × List QR}{fn:Func}{T:Tables}(hf:P.funcs[f]?=some fn) (hq:aR T fn=some q) (hT:P.toTables=T) (hn:fn.ntmps=n) (hd:yI P fn=true)
  (hc:∀ (xs:Array Value) (w:World),(callFunc f xs).run P w=.ok (.enter f xs) w):aF P f q n:=by
 subst hT
 unfold aR at hq
 unfold yI at hd
 cases hb:fn.body with
 |none=>rw [hb] at hq;cases hq
 |some c =>
  rw [hb] at hq hd
  simp only at hq
  split at hq
  ·rename_i q1 qs h1 h2
   obtain rfl:=Option.some.inj hq
   exact⟨⟨fn,c,hf,hb,hn,h2,by rw [<-hn];exact h1,hd,hc⟩⟩
  ·cases hq
theorem ck.mono {Q':Exit->AA->ae->Prop}(hm:∀ ex α S,Q ex α S->Q' ex α S) {c:QC}(h:ck P w0 rd n Q (.run c []) α S):ck P w0 rd n Q' (.run c []) α S:=by
 intro c0 hc hd
 obtain⟨ex,aB,S',h1,h2⟩:=h c0 hc hd
 exact⟨ex,aB,S',h1,hm _ _ _ h2⟩
theorem aF.aH {f:FuncId}{q:QC × List QR}{args:List AV}(F:aF P f q n) (bD:args.length<=n) (hp:Pure r) (h:ck P w0 false n (nr q.2 fun r' S=>aX S r' r) (.run q.1 []) ⟨kP args,[]⟩ ae.none_):ah P w0 f args r:=by
 obtain⟨fn,c,hf,hb,hn,hr,hq,hd,hc⟩:=F.out
 exact ah.of_wp hf hb hc hn bD hp (ck.mono (fun ex α S=>u5 hr) h c hq hd)
theorem aF.A7 {f:FuncId}{q:QC × List QR}{args:List AV}{R:AV->ae->Prop}(F:aF P f q n) (bD:args.length<=n) (h:ck P w0 false n (nr q.2 R) (.run q.1 []) ⟨kP args,[]⟩ S):∃ r S',aV P w0 f args S r S'/\R r S':=by
 obtain⟨fn,c,hf,hb,hn,hr,hq,hd,hc⟩:=F.out
 exact aV.of_wp hf hb hc hn bD (ck.mono (fun ex α S=>u5 hr) h c hq hd)
end
end Go.Proofs.YtgphljokbodciaaGreat
