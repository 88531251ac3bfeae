import Derived.Test.YtbpabjmnhggajaaGreatOr38
namespace Go.Proofs.YtbpabjmnhggajaaGreat
set_option linter.all false
set_option maxRecDepth 100000
open Go.RowKit
variable {ρ:Hd}{kn:KN}{ls vs:List (Int × Int)}{args:List AV}{up:List Nat}{a l:List Tm}{i j m nl ul:Nat}{cf:QF}{N:aS}{S:af}
section
attribute [local irreducible] ah aG ae ad
def ai6:FQ 137 Tryz.f137:=aF Tryz.func137 Tryz.call137
def fZ:List Nat:=[0,3,10,31,7,4,1,13,6,24,5,30,32,29,9,71]
theorem J9:∀(s:PS) (l:List Tm) (x:Tm),(dA s (l++[x])).1=(bU (dA s l).1 x).1/\(dA s (l++[x])).2=(dA s l).2++[(bU (dA s l).1 x).2]
 |s,[],x=>by grind[dA]
 |s,y::l,x=>by
  simp only[aR_,dA];obtain⟨a,b⟩:=J9 (bU s y).1 l x;exact⟨a,by grind⟩
def uW (i j nl ul:Nat):Ob:=.arr 6 [[.gr i 5 nl,.mp 2,.gr j 1 ul,.mp 4,.mp 5,.mp 6]] 0 true
def gY (ρ:Hd) (i j:Nat) (s:PS) (kn:KN):List (Nat × Ob):=[(0,uW i j s.N.length s.js.up.length),(2,bZ ρ s.vs),(4,fT ρ s.js.sh),(5,bZ ρ s.js.ls),(6,fU ρ kn),(i,fS ρ s.N),(j,cI ρ s.js.up)]
theorem gCY {a:aS}{sh:List (Int × Int)}(h0:S.get 0=some (uW i j nl ul):=by rfl) (h1:S.get i=some (fS ρ a):=by rfl) (h2:S.get 2=some (bZ ρ vs):=by rfl) (h3:S.get j=some (cI ρ up):=by rfl)
  (h4:S.get 4=some (fT ρ sh):=by rfl) (h5:S.get 5=some (bZ ρ ls):=by rfl) (h6:S.get 6=some (fU ρ kn):=by rfl):fO 7 [(7,i),(8,j)] 9 S [(0,uW 7 8 nl ul),(2,bZ ρ vs),(4,fT ρ sh),(5,bZ ρ ls),(6,fU ρ kn),(7,fS ρ a),(8,cI ρ up)] :=
 ⟨.inl ⟨_,h0,.arr (by exact⟨⟨.jT rfl rfl,.aC (.mp (by decide)),.jT rfl rfl,.aC (.mp (by decide)),.aC (.mp (by decide)),.aC (.mp (by decide)),trivial⟩,trivial⟩)⟩,.inl ⟨_,h2,.same (eK _)⟩,.inl ⟨_,h4,.same (lQ _)⟩,.inl ⟨_,h5,.same (eK _)⟩,.inl ⟨_,h6,.same (lP _)⟩,.inl ⟨_,h1,.same (mq _)⟩,.inl ⟨_,h3,.same (fy _)⟩,trivial⟩
def gZ (ρ:Hd) (i j nl ul:Nat) (N:aS) (vs:List (Int × Int)) (up:List Nat) (sh ls:List (Int × Int)) (kn:KN):List (Nat × Ob):=[(0,uW i j nl ul),(i,fS ρ N),(2,bZ ρ vs),(j,cI ρ up),(4,fT ρ sh),(5,bZ ρ ls),(6,fU ρ kn)]
theorem U7 {sh:List (Int × Int)}{T:af}(h:iC T (gZ ρ i j nl ul N vs up sh ls kn)):jF (aU [(1,i),(3,j)]) 7 T (gX ρ nl ul N vs up sh ls kn):=by
 have a:T.get 0=some (uW i j nl ul):=h (0,uW i j nl ul) (by simp[gZ]);have b:T.get i=some (fS ρ N):=h (i,fS ρ N) (by simp[gZ]);have c:T.get 2=some (bZ ρ vs):=h (2,bZ ρ vs) (by simp[gZ]);have d:T.get j=some (cI ρ up):=h (j,cI ρ up) (by simp[gZ]);have e:T.get 4=some (fT ρ sh):=h (4,fT ρ sh) (by simp[gZ]);have f:T.get 5=some (bZ ρ ls):=h (5,bZ ρ ls) (by simp[gZ]);have g:T.get 6=some (fU ρ kn):=h (6,fU ρ kn) (by simp[gZ])
 exact⟨⟨_,a,.row ⟨.gr rfl rfl,.mp rfl rfl,.gr rfl rfl,.mp rfl rfl,.mp rfl rfl,.mp rfl rfl,trivial⟩⟩,⟨_,b,.pure (ud _)⟩,⟨_,c,.mb (fw kK _)⟩,⟨_,d,.pure (nS _)⟩,
  ⟨_,e,.mp (fw kK _)⟩,⟨_,f,.mb (fw kK _)⟩,⟨_,g,.mp (fw xF _)⟩,trivial⟩
def gW (ρ:Hd) (a i j nl ul:Nat) (N:aS) (vs:List (Int × Int)) (up:List Nat) (sh ls:List (Int × Int)) (kn:KN):List (Nat × Option Ob):=[(0,some (uW (a+7) (a+8) nl ul)),(2,some (bZ ρ vs)),(4,some (fT ρ sh)),(5,some (bZ ρ ls)),(6,some (fU ρ kn)),(i,none),(j,none),
 (a,none),(a+1,none),(a+2,none),(a+3,none),(a+4,none),(a+5,none),(a+6,none),(a+7,some (fS ρ N)),(a+8,some (cI ρ up))]
def U8 (ρ:Hd) (nl ul:Nat) (N:aS) (vs:List (Int × Int)) (up:List Nat) (sh ls:List (Int × Int)) (kn:KN):List (Nat × Ob):=[(0,uW 7 8 nl ul),(2,bZ ρ vs),(4,fT ρ sh),(5,bZ ρ ls),(6,fU ρ kn),(7,fS ρ N),(8,cI ρ up)]
theorem gWB {a:Nat}{sh:List (Int × Int)}:gT (dz (aU [(1,i),(3,j)]) 7 a) (U8 ρ nl ul N vs up sh ls kn) (gW ρ a i j nl ul N vs up sh ls kn) :=
 ⟨⟨0,_,rfl,rfl,.row ⟨.gr rfl,.mp rfl,.gr rfl,.mp rfl,.mp rfl,.mp rfl,trivial⟩⟩,⟨2,_,rfl,rfl,.mb (fw kK _)⟩,⟨4,_,rfl,rfl,.mp (fw kK _)⟩,⟨5,_,rfl,rfl,.mb (fw kK _)⟩,⟨6,_,rfl,rfl,.mp (fw xF _)⟩,
  ⟨7,_,rfl,rfl,.pure (ud _)⟩,⟨8,_,rfl,rfl,.pure (nS _)⟩,trivial⟩
section
variable {P:Program}{w0:World}{rd:Bool}{n B:Nat}{Q:Exit->AA->af->Prop}{α:AA}{S:af}{l:List QI}{K:List f_}{T:Type}{ρ:Hd}{f:T->List AV}{acc:List T}{V:List (Nat × Nat)}{lg:List (List Nat × List Nat × Bool)}{rs:List Nat}
theorem ad.wi {a:Option Nat}{d:Option (Nat × Bool)}{t:Nat}{b:QO}{sz by_ k len:Nat}{ex ex':Bool}(x:T) (m:bG α.tm d=some true) (h1:α.tm t=.gr k sz len) (o:S.get k=some (.arr sz (ρ.h (List.map f) acc) 0 ex)) (r:len=acc.length) (p:∀c,b.ev (bE α.tm t c)=b.ev α.tm)
  (q:b.ev α.tm=.sl ex' [f x]) (s:(f x).length=sz) (u:(f x).all dh=true) (v:(len+1)*by_<=35184372088832)
  (kk:∀g j,g=acc++[x]->j=g.length->ad P w0 rd n Q (.j6 B V (lg++[([k],[S.nx,k],true)]) rs l K) (bP a α (.gr S.nx sz j)) (eP S [(S.nx,some (.arr sz (ρ.h (List.map f) g) 0 false)),(k,none)] true)):ad P w0 rd n Q (.j6 B V lg rs (⟨a,d,.append sz by_ (.t t) b⟩::l) K) α S:=by
 have hlen:(ρ.h (List.map f) acc).length=acc.length:=au;have h:=kk _ _ rfl rfl;have e:ρ.h (List.map f) acc++[f x]=ρ.h (List.map f) (acc++[x]):=by rw[ρ.eq,ρ.eq,aM_];rfl
 rw[<-e,show (acc++[x]).length=len+[f x].length by grind]at h;exact ad.eW (i:=⟨a,d,.append sz by_ (.t t) b⟩) m (a_.im (x:=f x) (more:=[]) h1 o (by omega) p q (λrow w=>by grind) (by grind)) h
end
def QQ (s:PS):Prop:=∀C:Nat,s.N.length<=C->aH s.js.ls (C:Int)=none
theorem Dq:∀(l:List Tm) (m:Nat),bp (l.take m)<=bp l
 |[],m=>by simp
 |y::l,0=>by simp[bp]
 |y::l,m+1=>by rw[List.take_succ_cons,bp,bp];have:=Dq l m;omega
theorem Dr:∀(s:PS) (l:List Tm),(dA s l).2.length=l.length
 |s,[]=>rfl
 |s,x::l=>by rw[dA];simp only[aw_];rw[Dr]
theorem Ep {α:Type}{l:List α}{y:α}(h:l[m]?=some y):l.take (m+1)=l.take m++[y]:=by rw[bF_,h];rfl
theorem J_ (h:gH l) (m:Nat):gH (l.take m):=ID λx a=>h.mem x (cy_ a)
theorem QS:∀{l:List Tm},(∀x ∈ l,jy x)->jV l
 |[],_=>by rw[jV];trivial
 |y::l,h=>by rw[jV];exact⟨h y (by simp),QS λx a=>h x (by grind)⟩
theorem Ka (h:jV l) (m:Nat):jV (l.take m):=QS λx a=>h.mem x (cy_ a)
theorem F4 {s0:PS}(f:qn s0) (g:QQ s0) (h:gH a) (i:jV a) (j:qd s0.N) (m:Nat):qn (dA s0 (a.take m)).1/\QQ (dA s0 (a.take m)).1/\qd (dA s0 (a.take m)).1.N/\(dA s0 (a.take m)).1.N.length<=s0.N.length+bp (a.take m):=by
 obtain⟨k,n,l,b⟩:=FM s0 (a.take m) f (J_ h m);obtain⟨c,d⟩:=A9 s0.N (a.take m) j (Ka i m);rw[<-k]at c d;exact⟨l,λC e=>by rw[b.C5 C e];exact g C (ay_ b.le e),c,d⟩
theorem Nw {s0:PS}{y:Tm}(g:qn s0) (h:QQ s0) (b:gH a) (c:jV a) (i:qd s0.N) (d:a[m]?=some y) :
  qn (dA s0 (a.take m)).1/\QQ (dA s0 (a.take m)).1/\eh y/\jy y/\qd (dA s0 (a.take m)).1.N/\(dA s0 (a.take m)).1.N.length+cR y<=s0.N.length+bp a/\(dA s0 (a.take (m+1))).1=(bU (dA s0 (a.take m)).1 y).1/\(dA s0 (a.take (m+1))).2=(dA s0 (a.take m)).2++[(bU (dA s0 (a.take m)).1 y).2]:=by
 obtain⟨j,k,l,p⟩:=F4 g h b c i m;have f:=aa_ d;have e:=Ep d;obtain⟨q1,n⟩:=J9 s0 (a.take m) y;have o:=Dq a (m+1);rw[e,Mv]at o;rw[e];exact⟨j,k,b.mem y f,c.mem y f,l,by omega,q1,n⟩
theorem Ds {sh:List (Int × Int)}{T:af}(h0:T.get 0=some (uW i j nl ul):=by rfl) (h1:T.get i=some (fS ρ N):=by rfl) (h2:T.get 2=some (bZ ρ vs):=by rfl) (h3:T.get j=some (cI ρ up):=by rfl) (h4:T.get 4=some (fT ρ sh):=by rfl) (h5:T.get 5=some (bZ ρ ls):=by rfl) (h6:T.get 6=some (fU ρ kn):=by rfl):iC T (gZ ρ i j nl ul N vs up sh ls kn):=by
 intro p a;unfold gZ at a;simp only[ad_,as_,or_false]at a;rcases a with rfl|rfl|rfl|rfl|rfl|rfl|rfl<;>assumption
section
variable {w0:World}{ρ:Hd}
theorem aav (sz:Nat):∀(s:PS) (t:Tm) (kn:KN),cR t<=sz->qn s->QQ s->eh t->jy t->qd s.N->s.N.length+cR t<=100000000000 ->
  aG Tryz.prog w0 137 [.pt 0 6 0 0,tm ρ t] (aq (gS ρ s kn) 7) (iv (bU s t).2) (aq (gY ρ 7 8 (bU s t).1 kn) 9):=by
 induction sz with
 |zero=>intro s t kn h;exfalso;obtain⟨k,i,n,a⟩:=t;rw[cR]at h;omega
 |succ sz ih =>
  rintro⟨N,vs,up,sh,ls⟩ ⟨k,i,n,a⟩ kn bO W hF hw ha lu hB;rw[jy]at ha;have B5:gH a:=by grind[eh,gH]
  have B6:jV a:=ha.2.2;rw[cR]at bO hB;simp only at hB;obtain⟨V,b⟩:∃V,V=bU ⟨N,vs,up,sh,ls⟩ ⟨k,i,n,a⟩:=⟨_,rfl⟩;rw[<-b];rw[bU]at b;obtain⟨nl,dB⟩:∃nl,nl=N.length:=⟨_,rfl⟩;obtain⟨ul,jx⟩:∃ul,ul=up.length:=⟨_,rfl⟩;obtain⟨X,SL⟩:∃X,X=V.1.N.length:=⟨_,rfl⟩;obtain⟨Y,vA⟩:∃Y,Y=V.1.js.up.length:=⟨_,rfl⟩;simp only[gS,gY,<-dB,<-jx,<-SL,<-vA];refine sc 7 9 ai6 ?_;refine gq fZ ?_;refine bq (λhb=>?_) (λhb=>?_)<;>(try simp only[bL]at hb)
  ·subst hb;rw[if_pos rfl]at b;refine gq fZ ?_;refine ad.Ns (ρ:=ρ) (f:=iv) (kv:=vs) rfl rfl rfl rfl (λv hv=>?_) (λhv=>?_)
   ·rw[hv]at b;simp only at b;obtain rfl:=b;have hv0:((v.toNat:Nat):Int)=v:=by
     have:=W.vs i;simp only[hv]at this;cases Qk:mM N i with
     |none=>rw[Qk]at this;cases this
     |some j=>rw[Qk]at this;obtain rfl:=oJ_ this;rfl
    simp only at SL vA;rw[hv0];obtain rfl:X=nl:=by grind
    obtain rfl:Y=ul:=by grind
    refine gq fZ ?_;refine fq ?_;exact⟨[(7,1),(8,3)],.aC .v,gCY,rfl⟩
   ·rw[hv]at b;simp only at b;refine gq fZ ?_;obtain⟨k,hk⟩:∃k:Int,k=1:=⟨_,rfl⟩;refine bS λq hq=>?_;rw[au]at hq;refine gq fZ ?_
    refine ad.aK (σ:=Int × PS × List Nat × Nat × Nat × Nat) 9 12 [(9,1),(10,3)] (λp=>[(0,.pt 0 6 0 0),(3,.pt 7 4 0 0),(4,iv 0),(7,.pt 8 5 0 0),(29,tl ρ a),(30,iv q),(31,iv p.1)]) []
     (λp=>[(0,uW 9 10 p.2.2.2.2.1 p.2.2.2.2.2),(9,fS ρ p.2.1.N),(2,bZ ρ p.2.1.vs),(10,cI ρ p.2.1.js.up),(4,fT ρ p.2.1.js.sh),(5,bZ ρ p.2.1.js.ls),(6,fU ρ kn),(7,.arr 4 [je ρ ⟨1,i,n,a⟩] 0 true),(8,.arr 5 [[iv 1,iv i,.v (.string n),tl ρ a,.gr 11 1 p.2.2.2.1]] 0 true),(11,.arr 1 (ρ.h (List.map c8) p.2.2.1) 0 false)])
     (λp=>∃m:Nat,p.1=m/\m<=a.length/\p.2.1=(dA ⟨N,vs,⟨up,sh,ls⟩⟩ (a.take m)).1/\p.2.2.1=(dA ⟨N,vs,⟨up,sh,ls⟩⟩ (a.take m)).2/\p.2.2.2.1=p.2.2.1.length/\p.2.2.2.2.1=p.2.1.N.length/\p.2.2.2.2.2=p.2.1.js.up.length) (λp=>a.length - p.1.toNat)
     (0,⟨N,vs,⟨up,sh,ls⟩⟩,[],0,nl,ul) ⟨0,rfl,by simp,by simp[dA],by simp[dA],rfl,dB,jx⟩ rfl cz ?_
    rintro⟨mi,⟨J,o,⟨K,E,B⟩⟩,rl,kl,d,L⟩ ⟨m,hm,Bo,r,F,gR,C,G⟩;simp only at hm Bo r F gR C G;refine gq fZ ?_;refine bq (λaZ=>?_) (λaZ=>?_)<;>(try simp only[bL]at aZ)
    ·have M:m < a.length:=by omega
     obtain⟨y,O⟩:∃y,a[m]?=some y:=⟨_,ai_ M⟩;obtain⟨u,D,e3,e4,g,w,P,Q⟩:=Nw W hF B5 B6 lu O;rw[<-r]at u D g w P Q;rw[<-F]at Q;simp only at g w;have e9:cR y<=bp a:=iw y (aa_ O);have c:=ih _ y kn (by omega) u D e3 e4 g (by grind);obtain⟨⟨⟨H,R,⟨I,S,U⟩⟩,r2⟩,hp⟩:∃p,p=bU ⟨J,o,⟨K,E,B⟩⟩ y:=⟨_,rfl⟩;rw[<-hp]at c P Q;obtain⟨z,cZ⟩:∃z,z=H.length:=⟨_,rfl⟩;obtain⟨A,mH⟩:∃A,A=I.length:=⟨_,rfl⟩;rw[<-jq C G.symm]at c;have c':aG Tryz.prog w0 137 [.pt 0 6 0 0,tm ρ y] (aq (gX ρ d L J o K E B kn) 7) (iv (r2:Nat)) (aq (U8 ρ z A H R I S U kn) 9):=by
      rw[cZ,mH];exact c
     have Nx:kl<=6:=by grind[Dr]
     clear hp c;refine gq fZ ?_;refine ad.op rfl (ae.ind rfl rfl (cC (l:=a) hm O) cD) ?_;refine gq fZ ?_;refine ad.eW rfl (a_.jK [(1,9),(3,10)] (gZ ρ 9 10 d L J o K E B kn) (gW ρ 13 9 10 z A H R I S U kn) c' rfl ⟨.pt rfl rfl,.pure (bQ y),trivial⟩ (.pure .v) Ds (λT hT=>U7 hT) gWB) ?_;refine gq fZ ?_;refine ad.wi r2 (f:=c8) rfl rfl rfl gR (λ_=>rfl) rfl rfl rfl (by omega) (λNy Nz NC F5=>?_);refine gq fZ ?_;refine cw (λm2 eI=>?_);refine gq fZ ?_;refine ad.az (σ:=Int × PS × List Nat × Nat × Nat × Nat) (m2,⟨H,R,⟨I,S,U⟩⟩,Ny,Nz,z,A) [(9,20),(10,21),(11,29)] ⟨m+1,by grind,by omega,P.symm,by grind,F5,cZ,mH⟩ ?_ cz;simp only;omega
    ·have M:m=a.length:=by omega
     rw[M,aQ_ (ac_ _)]at r F;obtain⟨u,D,g,w⟩:=F4 W hF B5 B6 lu a.length;rw[aQ_ (ac_ _),<-r]at u D g w;rw[<-r,<-F]at b;simp only at g w b;refine gq fZ ?_;refine ad.ao ?_;refine gq fZ ?_;refine ad.uC (Cv.Np (kb:=8) (k:=11) (j:=4) (m:=kl) rfl rfl (by decide) rfl (by grind[au])) ?_;refine ad.int rfl (ae.iz rfl) λe he=>?_;subst he;refine gq fZ ?_;refine ad.dU ((⟨1,i,n,a⟩:Tm),rl) (f:=vQ ρ) rfl rfl rfl C (λ_=>rfl) rfl rfl rfl (by omega) (λN3 n3 ND kT=>?_);refine gq fZ ?_;have Du:L=d:=by rw[G,C];exact u.up
     refine ad.app (x:=d) (f:=c8) rfl rfl rfl G (λ_=>rfl) rfl rfl rfl rfl (by omega) (λHG u3 ann vS=>?_);refine gq fZ ?_;refine bq (λmg=>?_) (λmg=>?_)<;>(try simp only[bL]at mg)
     rotate_left
     ·grind
     refine gq fZ ?_;have PY:a=[]:=by grind[eh]
     have Na:o=vs:=by grind[dA]
     have hv1:aH o i=none:=by grind
     have iD:aH B (d:Int)=none:=by rw[C];exact D _ (ac_ _)
     refine ad.Z4 (ρ:=ρ) (f:=iv) (kv:=o) (z0:=(0:Int)) rfl rfl rfl rfl rfl hv1 (λV2 j hV2 hj=>?_);refine gq fZ ?_;refine ad.Z5 (ρ:=ρ) (f:=iv) (kv:=V2) (v:=(d:Int)) rfl rfl rfl rfl rfl hV2 hj (λV3 hV3=>?_);refine gq fZ ?_;refine ad.Z4 (ρ:=ρ) (f:=iv) (kv:=B) (z0:=(0:Int)) rfl rfl rfl rfl rfl iD (λL2 j2 hL2 iB=>?_);refine gq fZ ?_;refine ad.Z5 (ρ:=ρ) (f:=iv) (kv:=L2) (v:=i) rfl rfl rfl rfl rfl hL2 iB (λL3 hL3=>?_);refine gq fZ ?_;refine fq ?_;have oN:V=(⟨N3,V3,⟨HG,E,L3⟩⟩,d):=by grind[jm,yw]
     subst oN;simp only at SL vA;obtain rfl:X=n3:=by grind
     obtain rfl:Y=u3:=by grind
     exact⟨[(7,12),(8,13)],.aC .v,gCY,rfl⟩
  ·rw[if_neg hb]at b;simp only at b;refine gq fZ ?_;refine bS λq hq=>?_;rw[au]at hq;refine gq fZ ?_
   refine ad.aK (σ:=Int × PS × List Nat × Nat × Nat × Nat) 9 12 [(9,1),(10,3)] (λp=>[(0,.pt 0 6 0 0),(3,.pt 7 4 0 0),(4,iv 0),(7,.pt 8 5 0 0),(29,tl ρ a),(30,iv q),(31,iv p.1)]) []
    (λp=>[(0,uW 9 10 p.2.2.2.2.1 p.2.2.2.2.2),(9,fS ρ p.2.1.N),(2,bZ ρ p.2.1.vs),(10,cI ρ p.2.1.js.up),(4,fT ρ p.2.1.js.sh),(5,bZ ρ p.2.1.js.ls),(6,fU ρ kn),(7,.arr 4 [je ρ ⟨k,i,n,a⟩] 0 true),(8,.arr 5 [[iv k,iv i,.v (.string n),tl ρ a,.gr 11 1 p.2.2.2.1]] 0 true),(11,.arr 1 (ρ.h (List.map c8) p.2.2.1) 0 false)])
    (λp=>∃m:Nat,p.1=m/\m<=a.length/\p.2.1=(dA ⟨N,vs,⟨up,sh,ls⟩⟩ (a.take m)).1/\p.2.2.1=(dA ⟨N,vs,⟨up,sh,ls⟩⟩ (a.take m)).2/\p.2.2.2.1=p.2.2.1.length/\p.2.2.2.2.1=p.2.1.N.length/\p.2.2.2.2.2=p.2.1.js.up.length) (λp=>a.length - p.1.toNat)
    (0,⟨N,vs,⟨up,sh,ls⟩⟩,[],0,nl,ul) ⟨0,rfl,by simp,by simp[dA],by simp[dA],rfl,dB,jx⟩ rfl cz ?_
   rintro⟨mi,⟨J,o,⟨K,E,B⟩⟩,rl,kl,d,L⟩ ⟨m,hm,Bo,r,F,gR,C,G⟩;simp only at hm Bo r F gR C G;refine gq fZ ?_;refine bq (λaZ=>?_) (λaZ=>?_)<;>(try simp only[bL]at aZ)
   ·have M:m < a.length:=by omega
    obtain⟨y,O⟩:∃y,a[m]?=some y:=⟨_,ai_ M⟩;obtain⟨u,D,e3,e4,g,w,P,Q⟩:=Nw W hF B5 B6 lu O;rw[<-r]at u D g w P Q;rw[<-F]at Q;simp only at g w;have e9:cR y<=bp a:=iw y (aa_ O);have c:=ih _ y kn (by omega) u D e3 e4 g (by grind);obtain⟨⟨⟨H,R,⟨I,S,U⟩⟩,r2⟩,hp⟩:∃p,p=bU ⟨J,o,⟨K,E,B⟩⟩ y:=⟨_,rfl⟩;rw[<-hp]at c P Q;obtain⟨z,cZ⟩:∃z,z=H.length:=⟨_,rfl⟩;obtain⟨A,mH⟩:∃A,A=I.length:=⟨_,rfl⟩;rw[<-jq C G.symm]at c;have c':aG Tryz.prog w0 137 [.pt 0 6 0 0,tm ρ y] (aq (gX ρ d L J o K E B kn) 7) (iv (r2:Nat)) (aq (U8 ρ z A H R I S U kn) 9):=by
     rw[cZ,mH];exact c
    have Nx:kl<=6:=by grind[Dr]
    clear hp c;refine gq fZ ?_;refine ad.op rfl (ae.ind rfl rfl (cC (l:=a) hm O) cD) ?_;refine gq fZ ?_;refine ad.eW rfl (a_.jK [(1,9),(3,10)] (gZ ρ 9 10 d L J o K E B kn) (gW ρ 13 9 10 z A H R I S U kn) c' rfl ⟨.pt rfl rfl,.pure (bQ y),trivial⟩ (.pure .v) Ds (λT hT=>U7 hT) gWB) ?_;refine gq fZ ?_;refine ad.wi r2 (f:=c8) rfl rfl rfl gR (λ_=>rfl) rfl rfl rfl (by omega) (λNy Nz NC F5=>?_);refine gq fZ ?_;refine cw (λm2 eI=>?_);refine gq fZ ?_;refine ad.az (σ:=Int × PS × List Nat × Nat × Nat × Nat) (m2,⟨H,R,⟨I,S,U⟩⟩,Ny,Nz,z,A) [(9,20),(10,21),(11,29)] ⟨m+1,by grind,by omega,P.symm,by grind,F5,cZ,mH⟩ ?_ cz;simp only;omega
   ·have M:m=a.length:=by omega
    rw[M,aQ_ (ac_ _)]at r F;obtain⟨u,D,g,w⟩:=F4 W hF B5 B6 lu a.length;rw[aQ_ (ac_ _),<-r]at u D g w;rw[<-r,<-F]at b;simp only at g w b;refine gq fZ ?_;refine ad.ao ?_;refine gq fZ ?_;refine ad.uC (Cv.Np (kb:=8) (k:=11) (j:=4) (m:=kl) rfl rfl (by decide) rfl (by grind[au])) ?_;refine ad.int rfl (ae.iz rfl) λe he=>?_;subst he;refine gq fZ ?_;refine ad.dU ((⟨k,i,n,a⟩:Tm),rl) (f:=vQ ρ) rfl rfl rfl C (λ_=>rfl) rfl rfl rfl (by omega) (λN3 n3 ND kT=>?_);refine gq fZ ?_;have Du:L=d:=by rw[G,C];exact u.up
    refine ad.app (x:=d) (f:=c8) rfl rfl rfl G (λ_=>rfl) rfl rfl rfl rfl (by omega) (λHG u3 ann vS=>?_);refine gq fZ ?_;refine bq (λmg=>?_) (λmg=>?_)<;>(try simp only[bL]at mg)
    ·grind
    refine gq fZ ?_;refine ad.oD (ρ:=ρ) (f:=iv) (kv:=E) (v:=(d:Int)) rfl rfl rfl rfl rfl (λSH3 arH=>?_);refine gq fZ ?_;refine fq ?_;have oN:V=(⟨N3,o,⟨HG,SH3,B⟩⟩,d):=by grind[jm]
    subst oN;simp only at SL vA;obtain rfl:X=n3:=by grind
    obtain rfl:Y=u3:=by grind
    exact⟨[(7,12),(8,13)],.aC .v,gCY,rfl⟩
end
end
section
attribute [local irreducible] ah aG ae ad
def ai7:FQ 135 Tryz.f135:=aF Tryz.func135 Tryz.call135
def NF:List Nat:=[0]
section
variable {w0:World}{ρ:Hd}
theorem SM:aG Tryz.prog w0 135 [] (aq [] 0) (.pt 0 6 0 0) (aq (gS ρ ⟨[],[],⟨[],[],[]⟩⟩ []) 7):=by
 refine sc 0 7 ai7 ?_;refine gq NF ?_;refine ad.Hb ρ iv rfl (λe a=>?_);refine gq NF ?_;refine ad.kQ ρ iv rfl (λf b=>?_);refine gq NF ?_;refine ad.Hb ρ iv rfl (λk3 c=>?_);refine gq NF ?_;refine ad.kQ ρ E9 rfl (λk4 d=>?_);refine gq NF ?_;refine fq ?_;subst a b c d;exact⟨[(0,4),(1,5),(2,0),(3,6),(4,1),(5,2),(6,3)],.ni rfl rfl,⟨.inl ⟨_,rfl,.arr (by exact⟨⟨.kO,.sv rfl rfl,.kO,.sv rfl rfl,.sv rfl rfl,.sv rfl rfl,trivial⟩,trivial⟩)⟩,.inr rfl,.inl ⟨_,rfl,.same (eK _)⟩,.inr rfl,.inl ⟨_,rfl,.same (lQ _)⟩,.inl ⟨_,rfl,.same (eK _)⟩,.inl ⟨_,rfl,.same (lP _)⟩,trivial⟩,rfl⟩
end
structure GI (s:PS):Prop where
 V:qn s
 F:QQ s
 A:qd s.N
 G:fj s.N
theorem GI.add {s:PS}{t:Tm}(h:GI s) (a:eh t) (g:jy t):GI (bU s t).1/\(bU s t).1.N.length<=s.N.length+cR t:=by
 obtain⟨i,k,j,b⟩:=rG s t h.V a;obtain⟨c,d⟩:=wH s.N t h.A g;obtain⟨e,_,_⟩:=pO s.N t h.G a;rw[<-i]at c d e;exact⟨⟨j,λC f=>by rw[b.C5 C f];exact h.F C (ay_ b.le f),c,e.g⟩,d⟩
theorem HH {a b L:Nat}(c:a < L) (h:∀C:Nat,L<=C->aH ls (C:Int)=none):∀C:Nat,L<=C->aH (lq ls a b) (C:Int)=none:=by
 intro C d;have key:∀v,aH (iy ls (a:Int) v) (C:Int)=none:=λv=>by grind[cQ]
 unfold lq;split
 ·grind
 ·grind
theorem yM {N:aS}:∀{m:Nat}{ps:List (Nat × Nat)}{s c:JS}{b:Bool},iS N m ps s=some (b,c)->∀{L:Nat},s.up.length=L->(∀C:Nat,L<=C->aH s.ls (C:Int)=none)->∀C:Nat,L<=C->aH c.ls (C:Int)=none
 |0,_,_,_,_,h,_,_,_=>by cases h
 |m+1,ps,s,c,b,h,L,i,d=>by
  rw[iS]at h;split at h
  ·grind
  ·split at h
   ·grind
   ·split at h
    ·grind
    ·rename_i j a e;split at h
     ·grind
     ·rename_i k l g;have n:=jz e;have o:=jz g;have f:a < L:=by have:=Nv e;omega
      split at h
      ·exact yM h (by grind) d
      ·split at h
       ·split at h
        ·split at h
         ·split at h
          ·split at h
           ·exact yM h (by grind) (HH f d)
           ·grind
          ·grind
         ·grind
        ·grind
       ·exact yM h (by grind) (HH f d)
theorem GI.join {s:PS}{ps:List (Nat × Nat)}{j:JS}{b:Bool}(h:GI s) (a:iS s.N m ps s.js=some (b,j)):GI ⟨s.N,s.vs,j⟩ :=
 ⟨⟨h.V.vs,by rw[rK a];exact h.V.up,h.V.nd⟩,λC c=>yM a h.V.up h.F C c,h.A,h.G⟩
theorem GI.nil:GI ⟨[],[],⟨[],[],[]⟩⟩:=⟨⟨λv=>rfl,rfl,List.nodup_nil⟩,λC _=>rfl,λi a=>(by grind),C8⟩
end
theorem mI {e k:Int}(h:bj e k=0):e=0/\k=0:=by
 unfold bj at h;split at h
 ·exact⟨by assumption,h⟩
 ·exact absurd h (by assumption)
theorem ug {b:Bool}{e:Int}(a:e ≠ 0) (h:cH b e=0):b=true:=by
 unfold cH at h;split at h
 ·assumption
 ·exact absurd h a
theorem Va:∀(vs:List Int) (n:Int) (k:Int->Int),xz vs n k=0->∃m,k m=0/\n<=m/\m<=n+vs.length
 |[],n,k,h=>⟨n,h,bf_ _,by simp⟩
 |v::vs,n,k,h=>by
  rw[xz]at h;split at h
  ·obtain⟨m,a,b,c⟩:=Va vs _ k h;refine⟨m,a,?_,?_⟩
   ·split at b<;>omega
   ·rw[aw_];split at c<;>omega
  ·cases h
mutual
theorem Dv {v:Int}:∀t:Tm,eh t->(mL v t ↔ v ∈ dO t)
 |⟨k,i,n,a⟩,h=>by
  rw[eh]at h;rw[mL,dO];by_cases b:k=1
  ·rw[if_pos b,if_pos b,ae_];exact eq_comm
  ·rw[if_neg b]at h;rw[if_neg b,if_neg b];by_cases c:k=2
   ·rw[if_pos c];exact HI a h.1
   ·rw[if_neg c,h.2.resolve_left c,nK];simp
theorem HI {v:Int}:∀l:List Tm,gH l->(nK v l ↔ v ∈ aY l)
 |[],h=>by rw[nK,aY];simp
 |x::l,h=>by
  rw[gH]at h;rw[nK,aY,az_,Dv x h.1,HI l h.2]
end
theorem Bp {x:At}(h:fH x=true) (a:dG x.a):gH x.a/\jV x.a/\qJ x.a/\vu x.a/\bp x.a<=200:=by
 unfold fH at h;rw[al_]at h;exact Hp h.2 a
theorem HJ {x:Gl}(h:dE x=true) (a:dG x.a):gH x.a/\jV x.a/\qJ x.a/\vu x.a/\bp x.a<=200:=by
 unfold dE at h;split at h
 ·exact Bp (x:=⟨x.n,x.a⟩) h a
 ·rw[al_]at h;exact Hp h.2 a
theorem Vb {ds:List Dc}{r:Rl}(h:nO ds r=0):(z8 r=true/\(∀x ∈ r.aM,fH x=true)/\(∀x ∈ r.rem,fH x=true)/\(∀g ∈ r.guard,dE g=true)/\∀g ∈ r.body,dE g=true)/\(∃n,r.vars=n/\0<=n/\n<=(tB r++yC r).length)/\∀v ∈ sV [r.guard],v ∈ tB r:=by
 unfold nO K4 wc at h;obtain⟨c,h⟩:=mI h;obtain⟨d,h⟩:=mI h;obtain⟨e,h⟩:=mI h;obtain⟨f,h⟩:=mI h;obtain⟨i,h⟩:=mI h;refine⟨⟨ug (by decide) c,λx a=>ug (by decide) (kp d x a),λx a=>ug (by decide) (kp e x a),λx a=>ug (by decide) (kp f x a),λx a=>ug (by decide) (kp i x a)⟩,?_⟩;unfold wb at h;obtain⟨m,h,j,o⟩:=Va _ _ _ h;obtain⟨b,h⟩:=mI h;have b:=ug (by decide) b;rw[decide_eq_true_eq]at b;refine⟨⟨m,b,j,by omega⟩,λv k=>?_⟩;unfold Be Hw wa K3 Em at h;obtain⟨_,h⟩:=mI h;obtain⟨_,h⟩:=mI h;obtain⟨_,h⟩:=mI h;obtain⟨_,h⟩:=mI h;obtain⟨_,h⟩:=mI h;obtain⟨_,h⟩:=mI h;obtain⟨_,h⟩:=mI h;obtain⟨l,_⟩:=mI h;have:=ug (by decide) (kp l v k);simpa using this
theorem HK {ds:List Dc}:∀(l:List Rl) (k:Nat),(sX ds l k).2=0->∀r ∈ l,nO ds r=0
 |[],k,h,r,a=>by cases a
 |x::l,k,h,r,a=>by
  rw[sX]at h;split at h
  ·rename_i b;rcases ad_.1 a with rfl|a
   ·exact b
   ·exact HK l _ h r a
  ·rename_i b;exact absurd h b
theorem pV {p:Pg}(h:(fM p).2=0):∀r ∈ p.rs,nO p.ds r=0:=by
 unfold fM at h;split at h
 ·exact HK _ _ h
 ·rename_i a;exact absurd h a
def gA:List Nat:=List.range 120
section
variable {P:Program}{w0:World}{rd:Bool}{n m:Nat}{Q:Exit->AA->af->Prop}{α:AA}{S:af}{K:List f_}{c:QC}{l:List QI}{d:Option Nat}{y:Option (Nat × Bool)}{f:QO}{bs:List QO}{g:FuncId}{args:List AV}{q:QC × List QR}
def Vc (P:Program) (w0:World) (rd:Bool) (n:Nat) (Q:Exit->AA->af->Prop) (c:QC) (K:List f_) (α:AA) (S:af):Prop :=
 ∀a,comp P.toTables n a=some c->fP P a=true->∃b d e,ze P w0 rd n a α S b d e/\dS P w0 rd n Q K b d e
def NG (P:Program) (w0:World) (rd:Bool) (n:Nat) (Q:Exit->AA->af->Prop) (c:QC) (K:List f_):Exit->AA->af->Prop :=
 λa α S=>match a with|.normal=>Vc P w0 rd n Q c K α S|e=>ad P w0 rd n Q (.out e K) α S
theorem Vc.round (h:ad P w0 rd n (NG P w0 rd n Q c K) (.run c []) α S):Vc P w0 rd n Q c K α S:=by
 intro a d e;obtain⟨b,i,j,f,g⟩:Wp P w0 rd n a (NG P w0 rd n Q c K) α S:=h a d e;cases b with
 |normal =>
  obtain⟨b,k,l,m,o⟩:=g a d e;exact⟨b,k,l,ze.step f m,o⟩
 |_=>exact⟨_,i,j,ze.done f (by simp),g⟩
theorem ad.ai8 (h:ad P w0 rd n (NG P w0 rd n Q c K) (.run c []) α S):ad P w0 rd n Q (.run (.loop c) K) α S:=by
 intro c0 a b;obtain⟨d,rfl,e⟩:=Kb a;obtain⟨f,g,i,j,k⟩:=Vc.round h d e b;exact⟨f,g,i,dN.loop j,k⟩
theorem ad.ai9 (h:ad P w0 rd n (NG P w0 rd n Q c K) (.run c []) α S):ad P w0 rd n (NG P w0 rd n Q c K) (.out .normal []) α S:=Vc.round h
theorem ad.ai_ {id:Nat}(h:ad P w0 rd n Q (.out (.exit id) K) α S):ad P w0 rd n (NG P w0 rd n Q c K) (.out (.exit id) []) α S:=h
theorem ad.ano (h:ad P w0 rd n Q (.out .ret K) α S):ad P w0 rd n (NG P w0 rd n Q c K) (.out .ret []) α S:=h
end
class FN (g:FuncId) where
 f:Func
 q:FQ g f
section
variable {w0:World}{rd:Bool}{n:Nat}{Q:Exit->AA->af->Prop}{α:AA}{S:af}{K:List f_}{l:List QI}{d:Option Nat}{y:Option (Nat × Bool)}{f:QO}{bs:List QO}{g:FuncId}{args:List AV}
theorem inl (h:eV (f.ev α.tm) (bs.map (·.ev α.tm))=some (g,args)) [x:FN g] {a:AA}{S':af}(k:ad Tryz.prog w0 false x.f.ntmps (sj x.q.1.2 λr S'=>ad Tryz.prog w0 rd n Q (.bc false l K) (bP d α r) S') cf a S')
  (b:args.length<=x.f.ntmps:=by exact aq_ rfl) (e:nh gA 400 (.run x.q.1.1 []) ⟨nI args,[]⟩ S=(cf,a,S'):=by conv=>lhs;cbv) (c:bG α.tm y=some true:=by rfl):ad Tryz.prog w0 rd n Q (.bc false (⟨d,y,.call f bs⟩::l) K) α S:=by
 obtain⟨r,S',i,j⟩:=oc.LH x.q.2 b (ad.yd gA 400 e k);exact ad.op c (ae.call h i λe=>nomatch e) j
end
theorem kw {P:Prop}(h:P:=by repeat' (first|exact trivial|(refine⟨?_,?_⟩;first|exact .aC .v|exact .aC (Pure.bm (jo (m:=60) rfl))|exact .aC (.mp (by decide))|exact .aC (.pt (by decide))|exact .aC (.yl (by decide))|exact .ni rfl rfl))):P:=h
theorem oz {P:Prop}(h:P:=by repeat' (first|exact trivial|(refine⟨?_,?_⟩;first|exact .inr rfl|(refine .inl ⟨_,rfl,?_⟩;first|exact .same trivial|exact .same (di_ _)|exact .arr ⟨kw,trivial⟩)))):P:=h
theorem rn {p:Prop}(h:p:=by repeat' (first
  |refine ad.ai8 ?_;refine gq gA ?_
  |refine ad.op rfl (ae.bit rfl) ?_;refine gq gA ?_
  |refine ad.op rfl (ae.len rfl) ?_;refine gq gA ?_
  |refine ad.op rfl (ae.ind rfl rfl rfl (by first|decide|simp)) ?_;refine gq gA ?_
  |refine ad.op rfl (ae.yf rfl rfl rfl (by decide) (by decide)) ?_;refine gq gA ?_
  |refine ad.op rfl (ae.nil rfl rfl) ?_;refine gq gA ?_
  |refine ad.op rfl (ae.HL rfl rfl) ?_;refine gq gA ?_
  |refine ad.op rfl (ae.Ik rfl rfl) ?_;refine gq gA ?_
  |refine ad.op rfl (ae.RJ rfl rfl rfl) ?_;refine gq gA ?_
  |refine ad.op rfl (ae.Il rfl rfl (by first|decide|simp) (by first|decide|simp) (by first|decide|simp)) ?_;refine gq gA ?_
  |refine ad.op rfl (ae.ac5 rfl rfl rfl (by decide) (by decide) (by decide) (by decide)) ?_;refine gq gA ?_
  |refine ad.op rfl (ae.cap rfl) ?_;refine gq gA ?_
  |refine ad.op rfl (ae.wL rfl rfl rfl (by decide) (by decide)) ?_;refine gq gA ?_
  |refine ad.op rfl (ae.iu rfl rfl (by decide) (by decide)) ?_;refine gq gA ?_
  |refine ad.op rfl (ae.kQ) ?_;refine gq gA ?_
  |refine ad.op rfl (ae.adt rfl) ?_;refine gq gA ?_
  |refine ad.op rfl (ae.look rfl rfl (di_ _) rfl) ?_;refine gq gA ?_
  |refine ad.op rfl (ae.Z7 afu rfl (anp rfl rfl rfl rfl rfl) kl4 .v) ?_;refine gq gA ?_
  |refine ad.uC (Cv.freeze (t:=81) rfl rfl (.inr ⟨_,rfl⟩) rfl (ax_ _)) ?_;refine ad.op rfl (pl (QT true)) ?_;refine gq gA ?_
  |refine ad.uC (Cv.freeze (t:=81) rfl rfl (.inr ⟨_,rfl⟩) rfl (ax_ _)) ?_;refine ad.op rfl (pl (QT false)) ?_;refine gq gA ?_
  |refine ad.op rfl (pl (QU true)) ?_;refine gq gA ?_
  |refine ad.cP rfl (λT=>pl (QU true)) ?_;refine gq gA ?_
  |refine ad.cP rfl (λT=>pl X6) ?_;refine gq gA ?_
  |refine ad.op rfl (pl X7) ?_;refine gq gA ?_
  |refine ad.cP rfl (λT=>pl X8) ?_;refine gq gA ?_
  |refine ad.cP rfl (λT=>pl X9) ?_;refine gq gA ?_
  |refine ad.op rfl (pl ab8) ?_;refine gq gA ?_
  |refine ad.op rfl (pl (afv _ _)) ?_;refine gq gA ?_
  |refine ad.op rfl (pl anq) ?_;refine gq gA ?_
  |refine ad.op rfl (pl aja) ?_;refine gq gA ?_
  |refine ad.op rfl (pl ajb) ?_;refine gq gA ?_
  |refine ad.op rfl (pl ajc) ?_;refine gq gA ?_
  |refine ad.op rfl (pl aaw) ?_;refine gq gA ?_
  |refine ad.op rfl (pl ajd) ?_;refine gq gA ?_
  |refine ad.op rfl (pl aje) ?_;refine gq gA ?_
  |refine ad.op rfl (pl ab9) ?_;refine gq gA ?_
  |refine ad.op rfl (pl (afw _)) ?_;refine gq gA ?_
  |refine ad.op rfl (pl (QV _)) ?_;refine gq gA ?_
  |refine ad.cP rfl (λT=>pl ab_) ?_;refine gq gA ?_
  |refine ad.op rfl (pl (NH true)) ?_;refine gq gA ?_
  |refine ad.op rfl (pl (NH false)) ?_;refine gq gA ?_
  |refine ad.op rfl (pl ajf) ?_;refine gq gA ?_
  |refine ad.op rfl (pl ajg) ?_;refine gq gA ?_
  |refine ad.op rfl (pl ajh) ?_;refine gq gA ?_
  |refine ad.op rfl (pl aji) ?_;refine gq gA ?_
  |refine ad.op rfl (pl anr) ?_;refine gq gA ?_
  |refine ad.op rfl (pl okT) ?_;refine gq gA ?_
  |refine ad.op rfl (pl noT) ?_;refine gq gA ?_
  |refine ad.op rfl (pl ajj) ?_;refine gq gA ?_
  |refine ad.op rfl (pl ans) ?_;refine gq gA ?_
  |refine ad.op rfl (pl ajk) ?_;refine gq gA ?_
  |refine ad.eW rfl (a_.yl rfl rfl rfl (by assumption)) ?_;refine gq gA ?_
  |refine ad.eW rfl (cy (by assumption)) ?_;refine gq gA ?_
  |refine ad.cP rfl (λT=>ae.ant (ρ:=.plain) (f:=aI) (acc:=[]) rfl rfl rfl rfl λ_=>rfl) ?_;refine gq gA ?_
  |refine ad.eW rfl (a_.Il rfl rfl (by first|decide|simp) (by first|decide|simp)) ?_;refine gq gA ?_
  |refine inl rfl ?_
  |refine ad.ai9 ?_;refine gq gA ?_
  |refine ad.ai_ ?_;refine gq gA ?_
  |refine ad.ano ?_;refine gq gA ?_
  |refine fq ?_;refine gq gA ?_
  |(refine fq ?_;first|exact .refl _|exact aP.ac6 (ρ:=.plain) rfl rfl|exact aP.grow (ρ:=.plain) rfl rfl|exact (we (m:=60) rfl).1|exact⟨[],.aC .v,oz,rfl⟩|exact⟨[],.aC (Pure.bm (jo (m:=60) rfl)),oz,rfl⟩))):p:=h
theorem py {p:Prop}(h:p:=by exact jo (m:=60) rfl):p:=h
theorem px {w0:World}{g:FuncId}{r:AV} [x:FN g] {α:AA}(a:Pure r:=by exact py) (b:args.length<=x.f.ntmps:=by exact aq_ rfl) (e:nh gA 400 (.run x.q.1.1 []) ⟨nI args,[]⟩ af.none_=(cf,α,S):=by conv=>lhs;cbv)
  (k:ad Tryz.prog w0 false x.f.ntmps (sj x.q.1.2 λc S=>aP S c r) cf α S:=by exact rn):ah Tryz.prog w0 g args r:=st x.q gA a k b e
theorem cx {w0:World}{g:FuncId}{r:AV}{so so':List (Nat × Ob)}{N M:Nat} [x:FN g] {α:AA}(a:args.length<=x.f.ntmps:=by exact aq_ rfl) (b:Nat.ble N N=true:=by rfl) (c:Nat.ble N M=true:=by rfl) (e:nh gA 400 (.run x.q.1.1 []) ⟨nI args,[]⟩ (aq so N)=(cf,α,S):=by conv=>lhs;cbv)
  (k:ad Tryz.prog w0 false x.f.ntmps (sj x.q.1.2 λd S=>∃m,kf N m M d r/\fO N m M S so'/\qD N m (so'.map (·.1))=true) cf α S:=by exact rn):aG Tryz.prog w0 g args (aq so N) r (aq so' M):=sc N M x.q (ad.yd gA 400 e k) a b c
end Go.Proofs.YtbpabjmnhggajaaGreat
