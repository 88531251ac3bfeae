import Derived.Test.YtgjfgekaclobaaaGreatCm47
namespace Go.Proofs.YtgjfgekaclobaaaGreat
set_option linter.unusedVariables false
set_option linter.unusedSimpArgs false
open Go.RowKit
section
set_option maxRecDepth 100000
attribute [local irreducible] av aE ad ab
def OK:CF Tryz.f339:=⟨_,by conv=>lhs;cbv⟩
theorem WT:bQ Tryz.prog 339 OK.1 Tryz.f339.ntmps:=fh Tryz.func339 OK.2 Tryz.call339
def dm:List Nat:=[0,3,10,31,7,4,1,13,6,24,5,30,32,29,9,71]
theorem Aw:∀ (s:PS) (l:List Tm) (x:Tm),(bP s (l++[x])).1=(a6 (bP s l).1 x).1/\(bP s (l++[x])).2=(bP s l).2++[(a6 (bP s l).1 x).2]
 |s,[],x=>by simp only [List.nil_append,bP];exact⟨trivial,trivial⟩
 |s,y::l,x=>by
  simp only [List.cons_append,bP]
  obtain⟨h1,h2⟩:=Aw (a6 s y).1 l x
  exact⟨h1,by rw [h2]⟩
def lr (i j nl ul:Nat):Ob:=.arr 6 [[.gr i 5 nl,.mp 2,.gr j 1 ul,.mp 4,.mp 5,.mp 6]] 0 true
def gY (ρ:Hd) (i j:Nat) (s:PS) (kn:KN):List (Nat × Ob):=[(0,lr i j s.N.length s.js.up.length),(2,aY ρ s.vs),(4,cP ρ s.js.sh),(5,aY ρ s.js.ls),(6,cQ ρ kn),(i,cN ρ s.N),(j,cO ρ s.js.up)]
theorem J_ {i j:Nat}{ρ:Hd}{S:aa}{nl ul:Nat}{Nd:aU}{vs sh ls:List (Int × Int)}{up:List Nat}{kn:KN}(h0:S.get 0=some (lr i j nl ul):=by rfl) (h1:S.get i=some (cN ρ Nd):=by rfl) (h2:S.get 2=some (aY ρ vs):=by rfl) (h3:S.get j=some (cO ρ up):=by rfl)
  (h4:S.get 4=some (cP ρ sh):=by rfl) (h5:S.get 5=some (aY ρ ls):=by rfl) (h6:S.get 6=some (cQ ρ kn):=by rfl):eI 7 [(7,i),(8,j)] 9 S [(0,lr 7 8 nl ul),(2,aY ρ vs),(4,cP ρ sh),(5,aY ρ ls),(6,cQ ρ kn),(7,cN ρ Nd),(8,cO ρ up)] :=
 ⟨.inl ⟨_,h0,.arr (by exact⟨⟨.lD rfl rfl,.aJ (.mp (by decide)),.lD rfl rfl,.aJ (.mp (by decide)),.aJ (.mp (by decide)),.aJ (.mp (by decide)),trivial⟩,trivial⟩)⟩,.inl ⟨_,h2,.same (bY _)⟩,.inl ⟨_,h4,.same (fE _)⟩,.inl ⟨_,h5,.same (bY _)⟩,.inl ⟨_,h6,.same (fF _)⟩,.inl ⟨_,h1,.same (gv _)⟩,.inl ⟨_,h3,.same (fD _)⟩,trivial⟩
def gZ (ρ:Hd) (i j nl ul:Nat) (N:aU) (vs:List (Int × Int)) (up:List Nat) (sh ls:List (Int × Int)) (kn:KN):List (Nat × Ob):=[(0,lr i j nl ul),(i,cN ρ N),(2,aY ρ vs),(j,cO ρ up),(4,cP ρ sh),(5,aY ρ ls),(6,cQ ρ kn)]
theorem Ka {ρ:Hd}{i j nl ul:Nat}{N:aU}{vs:List (Int × Int)}{up:List Nat}{sh ls:List (Int × Int)}{kn:KN}{T:aa}(h:fu T (gZ ρ i j nl ul N vs up sh ls kn)):jk (aN [(1,i),(3,j)]) 7 T (gX ρ nl ul N vs up sh ls kn):=by
 have h0:T.get 0=some (lr i j nl ul):=h (0,lr i j nl ul) (by simp [gZ])
 have h1:T.get i=some (cN ρ N):=h (i,cN ρ N) (by simp [gZ])
 have h2:T.get 2=some (aY ρ vs):=h (2,aY ρ vs) (by simp [gZ])
 have h3:T.get j=some (cO ρ up):=h (j,cO ρ up) (by simp [gZ])
 have h4:T.get 4=some (cP ρ sh):=h (4,cP ρ sh) (by simp [gZ])
 have h5:T.get 5=some (aY ρ ls):=h (5,aY ρ ls) (by simp [gZ])
 have h6:T.get 6=some (cQ ρ kn):=h (6,cQ ρ kn) (by simp [gZ])
 exact⟨⟨_,h0,.row ⟨.gr rfl rfl,.mp rfl rfl,.gr rfl rfl,.mp rfl rfl,.mp rfl rfl,.mp rfl rfl,trivial⟩⟩,⟨_,h1,.pure (mZ _)⟩,⟨_,h2,.mb (cU fl _)⟩,⟨_,h3,.pure (m7 _)⟩,
  ⟨_,h4,.mp (cU fl _)⟩,⟨_,h5,.mb (cU fl _)⟩,⟨_,h6,.mp (cU o_ _)⟩,trivial⟩
def gW (ρ:Hd) (a i j nl ul:Nat) (N:aU) (vs:List (Int × Int)) (up:List Nat) (sh ls:List (Int × Int)) (kn:KN):List (Nat × Option Ob):=[(0,some (lr (a+7) (a+8) nl ul)),(2,some (aY ρ vs)),(4,some (cP ρ sh)),(5,some (aY ρ ls)),(6,some (cQ ρ kn)),(i,none),(j,none),
 (a,none),(a+1,none),(a+2,none),(a+3,none),(a+4,none),(a+5,none),(a+6,none),(a+7,some (cN ρ N)),(a+8,some (cO ρ up))]
def Kb (ρ:Hd) (nl ul:Nat) (N:aU) (vs:List (Int × Int)) (up:List Nat) (sh ls:List (Int × Int)) (kn:KN):List (Nat × Ob):=[(0,lr 7 8 nl ul),(2,aY ρ vs),(4,cP ρ sh),(5,aY ρ ls),(6,cQ ρ kn),(7,cN ρ N),(8,cO ρ up)]
theorem OL {ρ:Hd}{a i j nl ul:Nat}{N:aU}{vs:List (Int × Int)}{up:List Nat}{sh ls:List (Int × Int)}{kn:KN}:iL (da (aN [(1,i),(3,j)]) 7 a) (Kb ρ nl ul N vs up sh ls kn) (gW ρ a i j nl ul N vs up sh ls kn) :=
 ⟨⟨0,_,rfl,rfl,.row ⟨.gr rfl,.mp rfl,.gr rfl,.mp rfl,.mp rfl,.mp rfl,trivial⟩⟩,⟨2,_,rfl,rfl,.mb (cU fl _)⟩,⟨4,_,rfl,rfl,.mp (cU fl _)⟩,⟨5,_,rfl,rfl,.mb (cU fl _)⟩,⟨6,_,rfl,rfl,.mp (cU o_ _)⟩,
  ⟨7,_,rfl,rfl,.pure (mZ _)⟩,⟨8,_,rfl,rfl,.pure (m7 _)⟩,trivial⟩
section
variable {P:Program}{w0:World}{rd:Bool}{n B:Nat}{Q:Exit->AA->aa->Prop}{α:AA}{S:aa}{l:List QI}{K:List ig}{T:Type}{ρ:Hd}{f:T->List AV}{acc:List T}{V:List (Nat × Nat)}{lg:List (List Nat × List Nat × Bool)}{rs:List Nat}
theorem ab.OM {dd:Option Nat}{gg:Option (Nat × Bool)}{t:Nat}{b:QO}{sz by_ k len:Nat}{ex ex':Bool}(x:T) (hw:bB α.tm gg=some true) (h1:α.tm t=.gr k sz len) (hk:S.get k=some (.arr sz (ρ.h (List.map f) acc) 0 ex)) (hn:len=acc.length) (mK:∀ c,b.ev (aX α.tm t c)=b.ev α.tm)
  (hb:b.ev α.tm=.sl ex' [f x]) (hl:(f x).length=sz) (hc:(f x).all bl=true) (hy:(len+1)*by_<=35184372088832)
  (kk:∀ dk gR,dk=acc++[x]->gR=dk.length->ab P w0 rd n Q (.dh B V (lg++[([k],[S.nx,k],true)]) rs l K) (bJ dd α (.gr S.nx sz gR)) (cJ S [(S.nx,some (.arr sz (ρ.h (List.map f) dk) 0 false)),(k,none)] true)):ab P w0 rd n Q (.dh B V lg rs (⟨dd,gg,.append sz by_ (.t t) b⟩::l) K) α S:=by
 have hlen:(ρ.h (List.map f) acc).length=acc.length:=aF
 have h:=kk _ _ rfl rfl
 have e:ρ.h (List.map f) acc++[f x]=ρ.h (List.map f) (acc++[x]):=by rw [ρ.eq,ρ.eq,List.map_append];rfl
 rw [<-e,show (acc++[x]).length=len+[f x].length by simp;omega] at h
 exact ab.mJ (i:=⟨dd,gg,.append sz by_ (.t t) b⟩) hw (a_.Bp (x:=f x) (more:=[]) h1 hk (by omega) mK hb (fun row hr=>by obtain rfl:=List.mem_singleton.1 hr;exact⟨hl,hc⟩) (by simpa using hy)) h
end
def EK (s:PS):Prop:=∀ C:Nat,s.N.length<=C->ao s.js.ls (C:Int)=none
theorem Ax:∀ (l:List Tm) (m:Nat),dU (l.take m)<=dU l
 |[],m=>by simp
 |y::l,0=>by simp [dU]
 |y::l,m+1=>by rw [List.take_succ_cons,dU,dU];have:=Ax l m;omega
theorem uo:∀ (s:PS) (l:List Tm),(bP s l).2.length=l.length
 |s,[]=>rfl
 |s,x::l=>by rw [bP];simp only [List.length_cons];rw [uo]
theorem Rs {α:Type}{l:List α}{m:Nat}{y:α}(h:l[m]?=some y):l.take (m+1)=l.take m++[y]:=by rw [List.take_add_one,h];rfl
theorem Kc {l:List Tm}(h:gd l) (m:Nat):gd (l.take m):=yI fun x hx=>h.mem x (List.mem_of_mem_take hx)
theorem EL:∀ {l:List Tm},(∀ x ∈ l,iy x)->iB l
 |[],_=>by rw [iB];trivial
 |y::l,h=>by rw [iB];exact⟨h y (by simp),EL fun x hx=>h x (by simp [hx])⟩
theorem Kd {l:List Tm}(h:iB l) (m:Nat):iB (l.take m):=EL fun x hx=>h.mem x (List.mem_of_mem_take hx)
theorem wV {s0:PS}{a:List Tm}(hV:kU s0) (hF:EK s0) (hw:gd a) (ON:iB a) (pM:nA s0.N) (m:Nat):kU (bP s0 (a.take m)).1/\EK (bP s0 (a.take m)).1/\nA (bP s0 (a.take m)).1.N/\(bP s0 (a.take m)).1.N.length<=s0.N.length+dU (a.take m):=by
 obtain⟨h1,h2,h3,h4⟩:=wB s0 (a.take m) hV (Kc hw m)
 obtain⟨k1,k2⟩:=wN s0.N (a.take m) pM (Kd ON m)
 rw [<-h1] at k1 k2
 exact⟨h3,fun C hC=>by rw [h4.tv C hC];exact hF C (Nat.le_trans h4.le hC),k1,k2⟩
theorem CQ {s0:PS}{a:List Tm}{m:Nat}{y:Tm}(hV:kU s0) (hF:EK s0) (hw:gd a) (ON:iB a) (pM:nA s0.N) (hy:a[m]?=some y) :
  kU (bP s0 (a.take m)).1/\EK (bP s0 (a.take m)).1/\dP y/\iy y/\nA (bP s0 (a.take m)).1.N/\(bP s0 (a.take m)).1.N.length+gp y<=s0.N.length+dU a/\(bP s0 (a.take (m+1))).1=(a6 (bP s0 (a.take m)).1 y).1/\(bP s0 (a.take (m+1))).2=(bP s0 (a.take m)).2++[(a6 (bP s0 (a.take m)).1 y).2]:=by
 obtain⟨h1,h2,h3,h4⟩:=wV hV hF hw ON pM m
 have hm:=List.mem_of_getElem? hy
 have e:=Rs hy
 obtain⟨q1,q2⟩:=Aw s0 (a.take m) y
 have q3:=Ax a (m+1)
 rw [e,Li] at q3
 rw [e]
 exact⟨h1,h2,hw.mem y hm,ON.mem y hm,h3,by omega,q1,q2⟩
theorem ZZ {ρ:Hd}{ni uj rj:Nat}{S:aa}{nl ul kl:Nat}{Nd:aU}{vs sh ls:List (Int × Int)}{up rl:List Nat}{kn:KN}{t:Tm}(h0:S.get 0=some (lr ni uj nl ul):=by rfl) (h1:S.get ni=some (cN ρ Nd):=by rfl) (h2:S.get 2=some (aY ρ vs):=by rfl) (h3:S.get uj=some (cO ρ up):=by rfl)
  (h4:S.get 4=some (cP ρ sh):=by rfl) (h5:S.get 5=some (aY ρ ls):=by rfl) (h6:S.get 6=some (cQ ρ kn):=by rfl) (h7:S.get 7=some (.arr 4 [pB ρ t] 0 true):=by rfl) (h8:S.get 8=some (.arr 5 [[iv t.k,iv t.i,.v (.string t.n),tl ρ t.a,.gr rj 1 kl]] 0 true):=by rfl) (h9:S.get rj=some (.arr 1 (ρ.h (List.map fP) rl) 0 false):=by rfl) :
  eI 9 [(9,ni),(10,uj),(11,rj)] 12 S [(0,lr 9 10 nl ul),(9,cN ρ Nd),(2,aY ρ vs),(10,cO ρ up),(4,cP ρ sh),(5,aY ρ ls),(6,cQ ρ kn),(7,.arr 4 [pB ρ t] 0 true),(8,.arr 5 [[iv t.k,iv t.i,.v (.string t.n),tl ρ t.a,.gr 11 1 kl]] 0 true),(11,.arr 1 (ρ.h (List.map fP) rl) 0 false)] :=
 ⟨.inl ⟨_,h0,.arr (by exact⟨⟨.lD rfl rfl,.aJ (.mp (by decide)),.lD rfl rfl,.aJ (.mp (by decide)),.aJ (.mp (by decide)),.aJ (.mp (by decide)),trivial⟩,trivial⟩)⟩,.inl ⟨_,h1,.same (gv _)⟩,.inl ⟨_,h2,.same (bY _)⟩,.inl ⟨_,h3,.same (fD _)⟩,.inl ⟨_,h4,.same (fE _)⟩,.inl ⟨_,h5,.same (bY _)⟩,.inl ⟨_,h6,.same (fF _)⟩,
  .inl ⟨_,h7,.same (fun row hr a ha=>by obtain rfl:=List.mem_singleton.1 hr;exact Pure.bT (rH t a ha))⟩,.inl ⟨_,h8,.arr (by exact⟨⟨.aJ .v,.aJ .v,.aJ .v,.aJ (Pure.bT (cy _)),.lD rfl rfl,trivial⟩,trivial⟩)⟩,.inl ⟨_,h9,.same (fD _)⟩,trivial⟩
theorem uq {ρ:Hd}{i j nl ul:Nat}{N:aU}{vs:List (Int × Int)}{up:List Nat}{sh ls:List (Int × Int)}{kn:KN}{T:aa}(h0:T.get 0=some (lr i j nl ul):=by rfl) (h1:T.get i=some (cN ρ N):=by rfl) (h2:T.get 2=some (aY ρ vs):=by rfl) (h3:T.get j=some (cO ρ up):=by rfl) (h4:T.get 4=some (cP ρ sh):=by rfl) (h5:T.get 5=some (aY ρ ls):=by rfl) (h6:T.get 6=some (cQ ρ kn):=by rfl):fu T (gZ ρ i j nl ul N vs up sh ls kn):=by
 intro p hp
 unfold gZ at hp
 simp only [List.mem_cons,List.not_mem_nil,or_false] at hp
 rcases hp with rfl|rfl|rfl|rfl|rfl|rfl|rfl<;>assumption
theorem Tz {ρ:Hd}{S:aa}{nl ul:Nat}{Nd:aU}{vs sh ls:List (Int × Int)}{up:List Nat}{kn:KN}{t:Tm}(h0:S.get 0=some (lr 1 3 nl ul):=by rfl) (h1:S.get 1=some (cN ρ Nd):=by rfl) (h2:S.get 2=some (aY ρ vs):=by rfl) (h3:S.get 3=some (cO ρ up):=by rfl)
  (h4:S.get 4=some (cP ρ sh):=by rfl) (h5:S.get 5=some (aY ρ ls):=by rfl) (h6:S.get 6=some (cQ ρ kn):=by rfl) (h7:S.get 7=some (.arr 4 [pB ρ t] 0 true):=by rfl) (h8:S.get 8=some (.arr 5 [[iv t.k,iv t.i,.v (.string t.n),tl ρ t.a,.sl true []]] 0 true):=by rfl) (kL:Nat.ble S.nx 11=true:=by rfl) :
  eI 9 [(9,1),(10,3)] 12 S [(0,lr 9 10 nl ul),(9,cN ρ Nd),(2,aY ρ vs),(10,cO ρ up),(4,cP ρ sh),(5,aY ρ ls),(6,cQ ρ kn),(7,.arr 4 [pB ρ t] 0 true),(8,.arr 5 [[iv t.k,iv t.i,.v (.string t.n),tl ρ t.a,.gr 11 1 0]] 0 true),(11,.arr 1 (ρ.h (List.map fP) []) 0 false)] :=
 ⟨.inl ⟨_,h0,.arr (by exact⟨⟨.lD rfl rfl,.aJ (.mp (by decide)),.lD rfl rfl,.aJ (.mp (by decide)),.aJ (.mp (by decide)),.aJ (.mp (by decide)),trivial⟩,trivial⟩)⟩,.inl ⟨_,h1,.same (gv _)⟩,.inl ⟨_,h2,.same (bY _)⟩,.inl ⟨_,h3,.same (fD _)⟩,.inl ⟨_,h4,.same (fE _)⟩,.inl ⟨_,h5,.same (bY _)⟩,.inl ⟨_,h6,.same (fF _)⟩,
  .inl ⟨_,h7,.same (fun row hr a ha=>by obtain rfl:=List.mem_singleton.1 hr;exact Pure.bT (rH t a ha))⟩,.inl ⟨_,h8,.arr (by exact⟨⟨.aJ .v,.aJ .v,.aJ .v,.aJ (Pure.bT (cy _)),.ia,trivial⟩,trivial⟩)⟩,.inr kL,trivial⟩
section
variable {w0:World}{ρ:Hd}
theorem OO (sz:Nat):∀ (s:PS) (t:Tm) (kn:KN),gp t<=sz->kU s->EK s->dP t->iy t->nA s.N->s.N.length+gp t<=100000000000 ->
  aE Tryz.prog w0 339 [.pt 0 6 0 0,tm ρ t] (au (gS ρ s kn) 7) (iv (a6 s t).2) (au (gY ρ 7 8 (a6 s t).1 kn) 9):=by
 induction sz with
 |zero=>intro s t kn h;exfalso;obtain⟨k,i,n,a⟩:=t;rw [gp] at h;omega
 |succ sz ih =>
  rintro⟨N,vs,up,sh,ls⟩ ⟨k,i,n,a⟩ kn aZ hV hF hw ha pM hB
  rw [iy] at ha
  have OP:gd a:=by
   rw [dP] at hw
   split at hw
   ·rw [hw.2,gd];trivial
   ·exact hw.1
  have OQ:iB a:=ha.2.2
  rw [gp] at aZ hB
  simp only at hB
  obtain⟨s',eg⟩:∃ s',s'=a6 ⟨N,vs,up,sh,ls⟩ ⟨k,i,n,a⟩:=⟨_,rfl⟩
  rw [<-eg]
  rw [a6] at eg
  obtain⟨nl,dz⟩:∃ nl,nl=N.length:=⟨_,rfl⟩
  obtain⟨ul,jy⟩:∃ ul,ul=up.length:=⟨_,rfl⟩
  obtain⟨Ke,wW⟩:∃ Ke,Ke=s'.1.N.length:=⟨_,rfl⟩
  obtain⟨Kf,lL⟩:∃ Kf,Kf=s'.1.js.up.length:=⟨_,rfl⟩
  simp only [gS,gY,<-dz,<-jy,<-wW,<-lL]
  refine bQ.jl 7 9 _ WT (by simp [Tryz.ntmps339]) rfl rfl ?_
  refine gq dm ?_
  refine bq (fun hb=>?_) (fun hb=>?_)<;>(try simp only [bS] at hb)
  ·subst hb
   rw [if_pos rfl] at eg
   refine gq dm ?_
   refine ab.CM (ρ:=ρ) (f:=iv) (kv:=vs) rfl rfl rfl rfl (fun v hv=>?_) (fun hv=>?_)
   ·rw [hv] at eg
    simp only at eg
    obtain rfl:=eg
    have TA:((v.toNat:Nat):Int)=v:=by
     have:=hV.vs i
     simp only [hv] at this
     cases Z0:jE N i with
     |none=>rw [Z0] at this;cases this
     |some j=>rw [Z0] at this;obtain rfl:=Option.some.inj this;rfl
    simp only at wW lL
    rw [TA]
    obtain rfl:Ke=nl:=by rw [wW,dz]
    obtain rfl:Kf=ul:=by rw [lL,jy]
    refine gq dm ?_
    refine fq ?_
    exact⟨[(7,1),(8,3)],.aJ .v,J_,rfl⟩
   ·rw [hv] at eg
    simp only at eg
    refine gq dm ?_
    obtain⟨k,hk⟩:∃ k:Int,k=1:=⟨_,rfl⟩
    refine bK fun q hq=>?_
    rw [aF] at hq
    refine gq dm ?_
    refine ab.iK (σ:=Int × PS × List Nat × Nat × Nat × Nat) 9 12 [(9,1),(10,3)] (fun p=>[(0,.pt 0 6 0 0),(3,.pt 7 4 0 0),(4,iv 0),(7,.pt 8 5 0 0),(29,tl ρ a),(30,iv q),(31,iv p.1)]) []
     (fun p=>[(0,lr 9 10 p.2.2.2.2.1 p.2.2.2.2.2),(9,cN ρ p.2.1.N),(2,aY ρ p.2.1.vs),(10,cO ρ p.2.1.js.up),(4,cP ρ p.2.1.js.sh),(5,aY ρ p.2.1.js.ls),(6,cQ ρ kn),(7,.arr 4 [pB ρ ⟨1,i,n,a⟩] 0 true),(8,.arr 5 [[iv 1,iv i,.v (.string n),tl ρ a,.gr 11 1 p.2.2.2.1]] 0 true),(11,.arr 1 (ρ.h (List.map fP) p.2.2.1) 0 false)])
     (fun p=>∃ m:Nat,p.1=m/\m<=a.length/\p.2.1=(bP ⟨N,vs,⟨up,sh,ls⟩⟩ (a.take m)).1/\p.2.2.1=(bP ⟨N,vs,⟨up,sh,ls⟩⟩ (a.take m)).2/\p.2.2.2.1=p.2.2.1.length/\p.2.2.2.2.1=p.2.1.N.length/\p.2.2.2.2.2=p.2.1.js.up.length) (fun p=>a.length - p.1.toNat)
     (0,⟨N,vs,⟨up,sh,ls⟩⟩,[],0,nl,ul) ⟨0,rfl,by simp,by simp [bP],by simp [bP],rfl,dz,jy⟩ rfl (by exact⟨sq,rfl,Tz,rfl,rfl,rfl⟩) ?_
    rintro⟨mi,⟨N1,iW,⟨eF,iq,gL⟩⟩,rl,kl,n1,u1⟩ ⟨m,hm,CR,j_,eX,pT,nE,fG⟩
    simp only at hm CR j_ eX pT nE fG
    refine gq dm ?_
    refine bq (fun fA=>?_) (fun fA=>?_)<;>(try simp only [bS] at fA)
    ·have cd:m < a.length:=by omega
     obtain⟨y,hy⟩:∃ y,a[m]?=some y:=⟨_,List.getElem?_eq_getElem cd⟩
     obtain⟨e1,e2,e3,e4,e5,e6,e7,e8⟩:=CQ hV hF OP OQ pM hy
     rw [<-j_] at e1 e2 e5 e6 e7 e8
     rw [<-eX] at e8
     simp only at e5 e6
     have e9:gp y<=dU a:=uL y (List.mem_of_getElem? hy)
     have c:=ih _ y kn (by omega) e1 e2 e3 e4 e5 (by simp only;omega)
     obtain⟨⟨⟨N2,qV,⟨kc,ny,nz⟩⟩,r2⟩,hp⟩:∃ p,p=a6 ⟨N1,iW,⟨eF,iq,gL⟩⟩ y:=⟨_,rfl⟩
     rw [<-hp] at c e7 e8
     obtain⟨n2,vI⟩:∃ n2,n2=N2.length:=⟨_,rfl⟩
     obtain⟨u2,gu⟩:∃ u2,u2=kc.length:=⟨_,rfl⟩
     rw [<-eD nE fG.symm] at c
     have c':aE Tryz.prog w0 339 [.pt 0 6 0 0,tm ρ y] (au (gX ρ n1 u1 N1 iW eF iq gL kn) 7) (iv (r2:Nat)) (au (Kb ρ n2 u2 N2 qV kc ny nz kn) 9):=by
      rw [vI,gu];exact c
     have abr:kl<=6:=by
      rw [pT,eX,uo,List.length_take];omega
     clear hp c
     refine gq dm ?_
     refine ab.op rfl (ad.ind rfl rfl (qA (l:=a) hm hy) qB) ?_
     refine gq dm ?_
     refine ab.mJ rfl (a_.pS [(1,9),(3,10)] (gZ ρ 9 10 n1 u1 N1 iW eF iq gL kn) (gW ρ 13 9 10 n2 u2 N2 qV kc ny nz kn) c' rfl ⟨.pt rfl rfl,.pure (dN y),trivial⟩ (.pure .v) uq (fun T hT=>Ka hT) OL) ?_
     refine gq dm ?_
     refine ab.OM r2 (f:=fP) rfl rfl rfl pT (fun _=>rfl) rfl rfl rfl (by omega) (fun TB TD MI MJ=>?_)
     refine gq dm ?_
     refine bH (fun m2 zD=>?_)
     refine gq dm ?_
     refine ab.d_ (σ:=Int × PS × List Nat × Nat × Nat × Nat) (m2,⟨N2,qV,⟨kc,ny,nz⟩⟩,TB,TD,n2,u2) [(9,20),(10,21),(11,29)] ⟨m+1,by simp only;omega,by omega,e7.symm,by simp only;rw [MI,e8],MJ,vI,gu⟩ ?_ (by exact⟨sq,rfl,ZZ,rfl,rfl,rfl⟩)
     simp only;omega
    ·have cd:m=a.length:=by omega
     rw [cd,List.take_of_length_le (Nat.le_refl _)] at j_ eX
     obtain⟨e1,e2,e5,e6⟩:=wV hV hF OP OQ pM a.length
     rw [List.take_of_length_le (Nat.le_refl _),<-j_] at e1 e2 e5 e6
     rw [<-j_,<-eX] at eg
     simp only at e5 e6 eg
     refine gq dm ?_
     refine ab.bh ?_
     refine gq dm ?_
     refine ab.Ze (Cv.Tt (kb:=8) (k:=11) (j:=4) (m:=kl) rfl rfl (by decide) rfl (by rw [aF];exact pT)) ?_
     refine ab.int rfl (ad.wI rfl) fun e he=>?_
     subst he
     refine gq dm ?_
     refine ab.Tu ((⟨1,i,n,a⟩:Tm),rl) (f:=od ρ) rfl rfl rfl nE (fun _=>rfl) rfl rfl rfl (by omega) (fun N3 n3 TE Ay=>?_)
     refine gq dm ?_
     have hun:u1=n1:=by rw [fG,nE];exact e1.up
     refine ab.app (x:=n1) (f:=fP) rfl rfl rfl fG (fun _=>rfl) rfl rfl rfl rfl (by omega) (fun yg u3 MK oe=>?_)
     refine gq dm ?_
     refine bq (fun qW=>?_) (fun qW=>?_)<;>(try simp only [bS] at qW)
     rotate_left
     ·exact absurd trivial qW
     refine gq dm ?_
     have OR:a=[]:=by rw [dP,if_pos rfl] at hw;exact hw.2
     have hvs:iW=vs:=by rw [OR,bP] at j_;exact congrArg PS.vs j_
     have Z1:ao iW i=none:=by rw [hvs];exact hv
     have vt:ao gL (n1:Int)=none:=by rw [nE];exact e2 _ (Nat.le_refl _)
     refine ab.Oj (ρ:=ρ) (f:=iv) (kv:=iW) (z0:=(0:Int)) rfl rfl rfl rfl rfl Z1 (fun V2 j hV2 hj=>?_)
     refine gq dm ?_
     refine ab.Ol (ρ:=ρ) (f:=iv) (kv:=V2) (v:=(n1:Int)) rfl rfl rfl rfl rfl hV2 hj (fun V3 hV3=>?_)
     refine gq dm ?_
     refine ab.Oj (ρ:=ρ) (f:=iv) (kv:=gL) (z0:=(0:Int)) rfl rfl rfl rfl rfl vt (fun L2 j2 I9 dK=>?_)
     refine gq dm ?_
     refine ab.Ol (ρ:=ρ) (f:=iv) (kv:=L2) (v:=i) rfl rfl rfl rfl rfl I9 dK (fun L3 Y8=>?_)
     refine gq dm ?_
     refine fq ?_
     have mM:s'=(⟨N3,V3,⟨yg,iq,L3⟩⟩,n1):=by
      rw [eg,TE,hV3,MK,Y8,nE]
      rw [nE] at vt
      simp only [eA,if_true,nv Z1,nv vt]
      rfl
     subst mM
     simp only at wW lL
     obtain rfl:Ke=n3:=by rw [wW,Ay]
     obtain rfl:Kf=u3:=by rw [lL,oe]
     exact⟨[(7,12),(8,13)],.aJ .v,J_,rfl⟩
  ·rw [if_neg hb] at eg
   simp only at eg
   refine gq dm ?_
   refine bK fun q hq=>?_
   rw [aF] at hq
   refine gq dm ?_
   refine ab.iK (σ:=Int × PS × List Nat × Nat × Nat × Nat) 9 12 [(9,1),(10,3)] (fun p=>[(0,.pt 0 6 0 0),(3,.pt 7 4 0 0),(4,iv 0),(7,.pt 8 5 0 0),(29,tl ρ a),(30,iv q),(31,iv p.1)]) []
    (fun p=>[(0,lr 9 10 p.2.2.2.2.1 p.2.2.2.2.2),(9,cN ρ p.2.1.N),(2,aY ρ p.2.1.vs),(10,cO ρ p.2.1.js.up),(4,cP ρ p.2.1.js.sh),(5,aY ρ p.2.1.js.ls),(6,cQ ρ kn),(7,.arr 4 [pB ρ ⟨k,i,n,a⟩] 0 true),(8,.arr 5 [[iv k,iv i,.v (.string n),tl ρ a,.gr 11 1 p.2.2.2.1]] 0 true),(11,.arr 1 (ρ.h (List.map fP) p.2.2.1) 0 false)])
    (fun p=>∃ m:Nat,p.1=m/\m<=a.length/\p.2.1=(bP ⟨N,vs,⟨up,sh,ls⟩⟩ (a.take m)).1/\p.2.2.1=(bP ⟨N,vs,⟨up,sh,ls⟩⟩ (a.take m)).2/\p.2.2.2.1=p.2.2.1.length/\p.2.2.2.2.1=p.2.1.N.length/\p.2.2.2.2.2=p.2.1.js.up.length) (fun p=>a.length - p.1.toNat)
    (0,⟨N,vs,⟨up,sh,ls⟩⟩,[],0,nl,ul) ⟨0,rfl,by simp,by simp [bP],by simp [bP],rfl,dz,jy⟩ rfl (by exact⟨sq,rfl,Tz,rfl,rfl,rfl⟩) ?_
   rintro⟨mi,⟨N1,iW,⟨eF,iq,gL⟩⟩,rl,kl,n1,u1⟩ ⟨m,hm,CR,j_,eX,pT,nE,fG⟩
   simp only at hm CR j_ eX pT nE fG
   refine gq dm ?_
   refine bq (fun fA=>?_) (fun fA=>?_)<;>(try simp only [bS] at fA)
   ·have cd:m < a.length:=by omega
    obtain⟨y,hy⟩:∃ y,a[m]?=some y:=⟨_,List.getElem?_eq_getElem cd⟩
    obtain⟨e1,e2,e3,e4,e5,e6,e7,e8⟩:=CQ hV hF OP OQ pM hy
    rw [<-j_] at e1 e2 e5 e6 e7 e8
    rw [<-eX] at e8
    simp only at e5 e6
    have e9:gp y<=dU a:=uL y (List.mem_of_getElem? hy)
    have c:=ih _ y kn (by omega) e1 e2 e3 e4 e5 (by simp only;omega)
    obtain⟨⟨⟨N2,qV,⟨kc,ny,nz⟩⟩,r2⟩,hp⟩:∃ p,p=a6 ⟨N1,iW,⟨eF,iq,gL⟩⟩ y:=⟨_,rfl⟩
    rw [<-hp] at c e7 e8
    obtain⟨n2,vI⟩:∃ n2,n2=N2.length:=⟨_,rfl⟩
    obtain⟨u2,gu⟩:∃ u2,u2=kc.length:=⟨_,rfl⟩
    rw [<-eD nE fG.symm] at c
    have c':aE Tryz.prog w0 339 [.pt 0 6 0 0,tm ρ y] (au (gX ρ n1 u1 N1 iW eF iq gL kn) 7) (iv (r2:Nat)) (au (Kb ρ n2 u2 N2 qV kc ny nz kn) 9):=by
     rw [vI,gu];exact c
    have abr:kl<=6:=by
     rw [pT,eX,uo,List.length_take];omega
    clear hp c
    refine gq dm ?_
    refine ab.op rfl (ad.ind rfl rfl (qA (l:=a) hm hy) qB) ?_
    refine gq dm ?_
    refine ab.mJ rfl (a_.pS [(1,9),(3,10)] (gZ ρ 9 10 n1 u1 N1 iW eF iq gL kn) (gW ρ 13 9 10 n2 u2 N2 qV kc ny nz kn) c' rfl ⟨.pt rfl rfl,.pure (dN y),trivial⟩ (.pure .v) uq (fun T hT=>Ka hT) OL) ?_
    refine gq dm ?_
    refine ab.OM r2 (f:=fP) rfl rfl rfl pT (fun _=>rfl) rfl rfl rfl (by omega) (fun TB TD MI MJ=>?_)
    refine gq dm ?_
    refine bH (fun m2 zD=>?_)
    refine gq dm ?_
    refine ab.d_ (σ:=Int × PS × List Nat × Nat × Nat × Nat) (m2,⟨N2,qV,⟨kc,ny,nz⟩⟩,TB,TD,n2,u2) [(9,20),(10,21),(11,29)] ⟨m+1,by simp only;omega,by omega,e7.symm,by simp only;rw [MI,e8],MJ,vI,gu⟩ ?_ (by exact⟨sq,rfl,ZZ,rfl,rfl,rfl⟩)
    simp only;omega
   ·have cd:m=a.length:=by omega
    rw [cd,List.take_of_length_le (Nat.le_refl _)] at j_ eX
    obtain⟨e1,e2,e5,e6⟩:=wV hV hF OP OQ pM a.length
    rw [List.take_of_length_le (Nat.le_refl _),<-j_] at e1 e2 e5 e6
    rw [<-j_,<-eX] at eg
    simp only at e5 e6 eg
    refine gq dm ?_
    refine ab.bh ?_
    refine gq dm ?_
    refine ab.Ze (Cv.Tt (kb:=8) (k:=11) (j:=4) (m:=kl) rfl rfl (by decide) rfl (by rw [aF];exact pT)) ?_
    refine ab.int rfl (ad.wI rfl) fun e he=>?_
    subst he
    refine gq dm ?_
    refine ab.Tu ((⟨k,i,n,a⟩:Tm),rl) (f:=od ρ) rfl rfl rfl nE (fun _=>rfl) rfl rfl rfl (by omega) (fun N3 n3 TE Ay=>?_)
    refine gq dm ?_
    have hun:u1=n1:=by rw [fG,nE];exact e1.up
    refine ab.app (x:=n1) (f:=fP) rfl rfl rfl fG (fun _=>rfl) rfl rfl rfl rfl (by omega) (fun yg u3 MK oe=>?_)
    refine gq dm ?_
    refine bq (fun qW=>?_) (fun qW=>?_)<;>(try simp only [bS] at qW)
    ·exact absurd qW hb
    refine gq dm ?_
    refine ab.gQ (ρ:=ρ) (f:=iv) (kv:=iq) (v:=(n1:Int)) rfl rfl rfl rfl rfl (fun SH3 abt=>?_)
    refine gq dm ?_
    refine fq ?_
    have mM:s'=(⟨N3,iW,⟨yg,SH3,gL⟩⟩,n1):=by
     rw [eg,TE,MK,abt,nE]
     simp only [eA,if_neg hb]
     rfl
    subst mM
    simp only at wW lL
    obtain rfl:Ke=n3:=by rw [wW,Ay]
    obtain rfl:Kf=u3:=by rw [lL,oe]
    exact⟨[(7,12),(8,13)],.aJ .v,J_,rfl⟩
end
end
end Go.Proofs.YtgjfgekaclobaaaGreat
