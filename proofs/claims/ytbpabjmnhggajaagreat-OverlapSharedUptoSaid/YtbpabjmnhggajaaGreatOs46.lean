import Derived.Test.YtbpabjmnhggajaaGreatOs45
namespace Go.Proofs.YtbpabjmnhggajaaGreat
set_option linter.unusedVariables false
set_option linter.unusedSimpArgs false
open Go.RowKit
section
set_option maxRecDepth 100000
attribute [local irreducible] ah aC af ad
def aeF:FQ 198 Tryz.f198:=a_ Tryz.func198 Tryz.call198
def gM:List Nat:=[0,1,10,6,2,56,15,7,9,26,8,30,12,46,11,55,57,54,14,16,70]
def ub (_:Unit):AV:=.v (.bool true)
def yp (ρ:Hd) (busy:List (Int × Unit)):Ob:=.mp (ρ.h (dh ub) busy)
def Ad:Option (Int × Int)->AV
 |some q=>.aG [BL q,.v (.bool true)]
 |none=>.aG [BL (0,0),.v (.bool false)]
theorem JX {T:Type}{f:T->AV}:∀ {l:List (Int × T)}{i:Int}{v:T},aB l i=none->jB (dh f (l++[(i,v)])) i=some l.length
 |[],i,v,_=>by simp[dh,jB,cE]
 |p::l,i,v,h=>by
  rw[aB] at h;by_cases e:p.1=i
  ·grind
  ·rw[if_neg e] at h;have ih:=JX (f:=f) (v:=v) h;have e2:dh f (p::l++[(i,v)])=(cE p.1,f p.2)::dh f (l++[(i,v)]):=rfl;rw[e2,jB,ih];simp[cE,e]
theorem TW {T:Type}{f:T->AV}{l:List (Int × T)}{i:Int}{v:T}(h:aB l i=none):EP (dh f (l++[(i,v)])) i=dh f l:=by
 unfold EP;rw[JX h];have:dh f (l++[(i,v)])=dh f l++[(cE i,f v)]:=by simp[dh]
 rw[this,show l.length=(dh f l).length by simp[dh]];show (dh f l++[(cE i,f v)]).eraseIdx (dh f l).length=dh f l;rw[List.eraseIdx_append_of_length_le (Nat.le_refl _),Nat.sub_self];simp
theorem QK {P:Program}{w0:World}{rd:Bool}{n:Nat}{qs:List QR}{R:AV->ae->Prop}{α:AA}{S S':ae}{r:AV}(hL:v_ P S α.df S') (hr:(match mJ α.tm S' qs with|some [a]=>some a|some l=>some (.aG l)|none=>none)=some r) (k:R r S'):ad P w0 rd n (SV P qs R) (.out .ret []) α S:=by
 simp only[ad,dx];exact⟨rfl,S',r,hL,hr,k⟩
theorem v_.TX {P:Program}{ρ:Hd}{S:ae}{t:Target}{k:Nat}{i:Int}{busy bz:List (Int × Unit)}(ht:M6 P t) (hb:aB busy i=none) (GN:bz=fl busy i ()) (hk:S.get k=some (.mp (ρ.h (dh ub) bz))):v_ P S [.del t k i] (S.set k (some (yp ρ busy))):=by
 subst GN;have e:EP (ρ.h (dh ub) (fl busy i ())) i=ρ.h (dh ub) busy:=by rw[ρ.eq,ρ.eq,uN hb,TW hb]
 refine .del ht hk (by rw[ρ.eq];exact oV) ?_;rw[e];exact .nil
def vG (kn:KN):Prop:=∀ C p,aB kn C=some p->(0<=p.1/\p.1<=201)/\0<=p.2/\p.2<=21
theorem vG.ins {kn:KN}{r:Int}{q:Int × Int}(h:vG kn) (hq:(0<=q.1/\q.1<=201)/\0<=q.2/\q.2<=21):vG (fl kn r q):=fun C p hp=>by
 rw[cd] at hp;split at hp
 ·grind
 ·exact h C p hp
theorem xC {N:bB}{sh:List (Int × Int)}:∀ (m:Nat) {busy:List (Int × Unit)}{r:Nat}{up dA:List Nat}{kn eI:KN}{o:Option (Int × Int)},kZ N sh m busy r up kn=some (o,dA,eI)->vG kn->vG eI/\dA.length=up.length/\∀ q,o=some q->(0<=q.1/\q.1<=201)/\0<=q.2/\q.2<=21
 |0,_,_,_,_,_,_,_,h,_=>by cases h
 |m+1,busy,r,up,dA,kn,eI,o,h,hk=>by
  have key:∀ (l:List Nat) {busy:List (Int × Unit)}{up dA:List Nat}{kn eI:KN}{q:Int × Int}{o:Option (Int × Int)},oE (kZ N sh m busy) l up kn q=some (o,dA,eI)->vG kn->((0<=q.1/\q.1<=201)/\0<=q.2/\q.2<=21)->vG eI/\dA.length=up.length/\∀ q,o=some q->(0<=q.1/\q.1<=201)/\0<=q.2/\q.2<=21:=by
   intro l
   induction l with
   |nil =>
    intro busy up dA kn eI q o h hk hq;simp only[oE,oI_,pI_] at h;obtain⟨rfl,rfl,rfl⟩:=h;exact⟨hk,rfl,fun q' e=>by grind⟩
   |cons x l ih =>
    intro busy up dA kn eI q o h hk hq;rw[oE] at h;split at h
    ·grind
    ·rename_i u c hr;have e1:=gK hr;split at h
     ·grind
     ·rename_i u' nL hm;obtain⟨k1,k2,_⟩:=xC m hm hk;simp only[oI_,pI_] at h;obtain⟨rfl,rfl,rfl⟩:=h;exact⟨k1,by omega,fun q' e=>by grind⟩
     ·rename_i p u' nL hm;obtain⟨k1,k2,k3⟩:=xC m hm hk;have k4:=k3 p rfl;obtain⟨j1,j2,j3⟩:=ih h k1 ⟨⟨by grind,by simp only;omega⟩,by simp only;omega,by simp only;omega⟩;exact⟨j1,by omega,j3⟩
  rw[kZ] at h;split at h
  ·rename_i q hq;simp only[oI_,pI_] at h;obtain⟨rfl,rfl,rfl⟩:=h;exact⟨hk,rfl,fun q' e=>by obtain rfl:=oJ_ e;exact hk _ _ hq⟩
  ·split at h
   ·simp only[oI_,pI_] at h;obtain⟨rfl,rfl,rfl⟩:=h;exact⟨hk,rfl,fun q' e=>by cases e⟩
   ·split at h
    ·simp only[oI_,pI_] at h;obtain⟨rfl,rfl,rfl⟩:=h;exact⟨hk.ins (by decide),rfl,fun q' e=>by obtain rfl:=oJ_ e;decide⟩
    ·split at h
     ·split at h
      ·cases h
      ·split at h
       ·cases h
       ·rename_i u nL hm;obtain⟨j1,j2,j3⟩:=key _ hm hk (by decide);simp only[oI_,pI_] at h;obtain⟨rfl,rfl,rfl⟩:=h;exact⟨j1,j2,fun q' e=>by cases e⟩
       ·rename_i q u nL hm;obtain⟨j1,j2,j3⟩:=key _ hm hk (by decide);simp only[oI_,pI_] at h;obtain⟨rfl,rfl,rfl⟩:=h;exact⟨j1.ins (j3 q rfl),j2,fun q' e=>by obtain rfl:=oJ_ e;exact j3 q rfl⟩
     ·cases h
theorem JY {N:Nat}{ρ:Hd}{S:ae}{nl ul:Nat}{Nd:bB}{vs sh ls:List (Int × Int)}{up:List Nat}{kn:KN}{busy:List (Int × Unit)}(h7:S.get 7=some (yp ρ busy):=by rfl) (h0:S.get 0=some (gO nl ul):=by rfl) (h1:S.get 1=some (dY ρ Nd):=by rfl) (h2:S.get 2=some (bD ρ vs):=by rfl) (h3:S.get 3=some (dZ ρ up):=by rfl)
  (h4:S.get 4=some (d_ ρ sh):=by rfl) (h5:S.get 5=some (bD ρ ls):=by rfl) (h6:S.get 6=some (ec ρ kn):=by rfl):fY 8 [] N S (gX ρ nl ul Nd vs up sh ls kn++[(7,yp ρ busy)]) :=
 ⟨.inl ⟨_,h0,.same (oh (by omega))⟩,.inl ⟨_,h1,.same (jv _)⟩,.inl ⟨_,h2,.same (db _)⟩,.inl ⟨_,h3,.same (iN _)⟩,.inl ⟨_,h4,.same (iO _)⟩,.inl ⟨_,h5,.same (db _)⟩,.inl ⟨_,h6,.same (iP _)⟩,.inl ⟨_,h7,.same (fun e he=>Pure.aV (eh (fun _=>.v) busy e he))⟩,trivial⟩
def gB (ρ:Hd) (nl ul:Nat) (N:bB) (vs:List (Int × Int)) (up:List Nat) (sh ls:List (Int × Int)) (kn:KN) (busy:List (Int × Unit)):List (Nat × Ob):=gX ρ nl ul N vs up sh ls kn++[(7,yp ρ busy)]
theorem A7 {ρ:Hd}{nl ul:Nat}{N:bB}{vs:List (Int × Int)}{up:List Nat}{sh ls:List (Int × Int)}{kn:KN}{busy:List (Int × Unit)}{B:Nat}(h:7 < B):zK (gB ρ nl ul N vs up sh ls kn busy) B:=⟨fun j o hj=>by
 have hm:=fg hj;unfold gB at hm;rcases List.mem_append.1 hm with hm|hm
 ·have h1:dL (gX ρ nl ul N vs up sh ls kn) j=some o:=by
   have:=E6 (ρ:=ρ) (nl:=nl) (ul:=ul) (N:=N) (vs:=vs) (up:=up) (sh:=sh) (ls:=ls) (kn:=kn) (j,o) hm;exact this
  exact (cW (by omega)).get j o h1
 ·simp only[List.mem_cons,pI_,List.not_mem_nil,or_false] at hm;obtain⟨rfl,rfl⟩:=hm;exact⟨h,(fun e he=>Pure.aV (eh (fun _=>.v) busy e he)),fun J=>by simp[yp]⟩⟩
theorem QL {ρ:Hd}{nl ul:Nat}{N:bB}{vs:List (Int × Int)}{up:List Nat}{sh ls:List (Int × Int)}{kn:KN}{busy:List (Int × Unit)}{T:ae}(h7:T.get 7=some (yp ρ busy):=by rfl) (h0:T.get 0=some (gO nl ul):=by rfl) (h1:T.get 1=some (dY ρ N):=by rfl) (h2:T.get 2=some (bD ρ vs):=by rfl) (h3:T.get 3=some (dZ ρ up):=by rfl) (h4:T.get 4=some (d_ ρ sh):=by rfl) (h5:T.get 5=some (bD ρ ls):=by rfl) (h6:T.get 6=some (ec ρ kn):=by rfl):∀ j o,dL (gB ρ nl ul N vs up sh ls kn busy) j=some o->T.get j=some o:=fun j o hj=>by
 have hm:=fg hj;unfold gB at hm;rcases List.mem_append.1 hm with hm|hm
 ·exact DM (h0:=h0) (h1:=h1) (h2:=h2) (h3:=h3) (h4:=h4) (h5:=h5) (h6:=h6) (j,o) hm
 ·grind
theorem QM {a:AV}{N:Nat}(h:7 < N) (ha:Pure a):∀ b ∈ [AV.pt 0 6 0 0,a,.mp 7],dz N b:=by
 intro b hb;simp only[List.mem_cons,List.not_mem_nil,or_false] at hb;rcases hb with rfl|rfl|rfl
 ·exact .pt (by omega)
 ·exact Pure.aV ha
 ·exact .mp h
theorem Mb {B:Nat}{a b:Int}:fR B (.arr 2 [[iv a,iv b]] 0 true):=fun row hr x hx=>by
 obtain rfl:=List.mem_singleton.1 hr;simp only[List.mem_cons,List.not_mem_nil,or_false] at hx;rcases hx with rfl|rfl<;>exact .v
theorem aa4 {N:Nat}{ρ:Hd}{S:ae}{nl ul:Nat}{Nd:bB}{vs sh ls:List (Int × Int)}{up:List Nat}{kn:KN}{busy:List (Int × Unit)}{a b:Int}(h8:S.get 8=some (.arr 2 [[iv 0,iv 0]] 0 true):=by rfl) (K3:S.get 10=some (.arr 2 [[iv a,iv b]] 0 true):=by rfl) (h7:S.get 7=some (yp ρ busy):=by rfl) (h0:S.get 0=some (gO nl ul):=by rfl) (h1:S.get 1=some (dY ρ Nd):=by rfl) (h2:S.get 2=some (bD ρ vs):=by rfl) (h3:S.get 3=some (dZ ρ up):=by rfl)
  (h4:S.get 4=some (d_ ρ sh):=by rfl) (h5:S.get 5=some (bD ρ ls):=by rfl) (h6:S.get 6=some (ec ρ kn):=by rfl):fY 11 [] N S [(0,gO nl ul),(1,dY ρ Nd),(2,bD ρ vs),(3,dZ ρ up),(4,d_ ρ sh),(5,bD ρ ls),(6,ec ρ kn),(7,yp ρ busy),(8,.arr 2 [[iv 0,iv 0]] 0 true),(10,.arr 2 [[iv a,iv b]] 0 true)] :=
 ⟨.inl ⟨_,h0,.same (oh (by omega))⟩,.inl ⟨_,h1,.same (jv _)⟩,.inl ⟨_,h2,.same (db _)⟩,.inl ⟨_,h3,.same (iN _)⟩,.inl ⟨_,h4,.same (iO _)⟩,.inl ⟨_,h5,.same (db _)⟩,.inl ⟨_,h6,.same (iP _)⟩,.inl ⟨_,h7,.same (fun e he=>Pure.aV (eh (fun _=>.v) busy e he))⟩,.inl ⟨_,h8,.same Mb⟩,.inl ⟨_,K3,.same Mb⟩,trivial⟩
theorem nk (o:Option (Int × Int)):Pure (Ad o):=by
 cases o<;>(refine .aG fun a ha=>?_)<;>simp only[List.mem_cons,List.not_mem_nil,or_false] at ha<;>rcases ha with rfl|rfl<;>first|exact tX _|exact .v
section
variable {w0:World}{ρ:Hd}
theorem aa5 {N:bB}{vs sh ls:List (Int × Int)}{nl ul:Nat}(hN:Gb N) (fj:nl=N.length) (jX:ul<=1099511627776):∀ (m:Nat) {busy:List (Int × Unit)}{r:Nat}{up dA:List Nat}{kn eI:KN}{o:Option (Int × Int)},up.length=ul->vG kn->kZ N sh m busy r up kn=some (o,dA,eI) ->
  aC Tryz.prog w0 198 [.pt 0 6 0 0,iv r,.mp 7] (aq (gX ρ nl ul N vs up sh ls kn++[(7,yp ρ busy)]) 8) (Ad o) (aq (gX ρ nl ul N vs dA sh ls eI++[(7,yp ρ busy)]) 8):=by
 intro m
 induction m with
 |zero=>intro busy r up dA kn eI o _ _ h;cases h
 |succ m ih =>
  intro busy r up dA kn eI o hu hk h;rw[kZ] at h;obtain⟨ri,Lm⟩:∃ ri:Int,ri=r:=⟨_,rfl⟩;rw[<-Lm] at h ⊢;refine mK.ac4 8 8 _ aeF.2 (by simp[Tryz.ntmps198]) rfl rfl ?_;unfold gX;refine gq gM ?_;refine ad.look (ρ:=ρ) (f:=BL) (kv:=kn) rfl rfl rfl rfl (fun q hq=>?_) (fun hq=>?_)
  ·rw[hq] at h;simp only[oI_,pI_] at h;obtain⟨rfl,rfl,rfl⟩:=h;refine gq gM ?_;exact QK .nil rfl ⟨[],.ao (Pure.aV (nk (some q))),JY,rfl⟩
  rw[hq] at h;simp only at h;refine gq gM ?_;refine ad.look (ρ:=ρ) (f:=ub) (kv:=busy) rfl rfl rfl rfl (fun b hb=>?_) (fun hb=>?_)
  ·rw[hb] at h;simp only[oI_,pI_] at h;obtain⟨rfl,rfl,rfl⟩:=h;refine gq gM ?_;exact QK .nil rfl ⟨[],.ao (Pure.aV (nk none)),JY,rfl⟩
  rw[hb] at h;simp only at h;refine gq gM ?_;refine ad.j7 (ρ:=ρ) (f:=ub) (kv:=busy) (v:=()) rfl rfl rfl rfl rfl (fun bz GN=>?_);refine gq gM ?_;refine ad.aaX rfl rfl rfl rfl rfl rfl rfl rfl rfl rfl rfl rfl rfl rfl rfl rfl rfl rfl rfl (fun t ht=>?_);refine gq gM ?_;refine ad.look (ρ:=ρ) (f:=iv) (kv:=sh) rfl rfl rfl rfl (fun k DO=>?_) (fun DO=>?_)
  ·rw[DO] at h;simp only at h;split at h;rotate_left
   ·cases h
   rename_i h00;obtain⟨Gn,zz⟩:∃ n:Nat,n=k.toNat:=⟨_,rfl⟩;rw[<-zz] at h;split at h
   ·cases h
   rename_i t0 l Gx;have q2:k=(Gn:Int):=by omega
   have g2:=hN _ _ _ Gx;have i2:Gn < nl:=by rw[fj];exact (List.getElem?_eq_some_iff.1 Gx).1
   have r2:=fN (ρ:=ρ) (f:=r_ ρ) Gx;rw[r_] at r2;simp only at r2;have Vm:Pure (aX ρ iW false l):=eR fun x _ a ha=>by
    obtain rfl:=List.mem_singleton.1 ha;exact .v
   rw[<-GN] at h;obtain⟨tot,aa7⟩:∃ tot,tot=oE (kZ N sh m bz) l up kn (1,1):=⟨_,rfl⟩;rw[<-aa7] at h;refine gq gM ?_;refine ad.op rfl (af.jM rfl rfl q2 i2) ?_;refine ad.op rfl (af.quiet rfl) ?_;refine og gM (af.pP rfl rfl r2 rfl) ?_;refine ad.int rfl (af.len rfl) fun q CV=>?_;rw[aE] at CV;refine gq gM ?_
   refine ad.bu (σ:=Int × List Nat × KN × (Int × Int)) 11 11 [] (fun p=>[(0,.pt 0 6 0 0),(1,iv ri),(2,.mp 7),(6,.pt 8 2 0 0),(7,.v (.bool false)),(10,.pt 10 2 0 0),(54,aX ρ iW false l),(55,iv q),(56,iv p.1)]) [.del t 7 ri]
    (fun p=>[(0,gO nl ul),(1,dY ρ N),(2,bD ρ vs),(3,dZ ρ p.2.1),(4,d_ ρ sh),(5,bD ρ ls),(6,ec ρ p.2.2.1),(7,yp ρ bz),(8,.arr 2 [[iv 0,iv 0]] 0 true),(10,.arr 2 [[iv p.2.2.2.1,iv p.2.2.2.2]] 0 true)])
    (fun p=>∃ i:Nat,p.1=i/\i<=l.length/\p.2.1.length=ul/\vG p.2.2.1/\((0<=p.2.2.2.1/\p.2.2.2.1<=201)/\0<=p.2.2.2.2/\p.2.2.2.2<=21)/\oE (kZ N sh m bz) (l.drop i) p.2.1 p.2.2.1 p.2.2.2=tot) (fun p=>l.length - p.1.toNat)
    (0,up,kn,(1,1)) ⟨0,rfl,by simp,hu,hk,by simp only;decide,by simpa using aa7.symm⟩ rfl (by exact⟨sq,rfl,aa4,rfl,rfl,rfl⟩) ?_
   rintro⟨ii,gJ,nL,⟨p1,p2⟩⟩ ⟨i,ym,Cy,ic,dV,⟨⟨b1,b2⟩,b3,b4⟩,hm⟩;simp only at ym Cy ic dV b1 b2 b3 b4 hm;refine gq gM ?_;refine cn (fun cy=>?_) fun cy=>?_
   ·have mX:i < l.length:=by omega
    obtain⟨x,hx⟩:∃ x,l[i]?=some x:=⟨_,List.getElem?_eq_getElem mX⟩;obtain⟨xa,xb⟩:=List.getElem?_eq_some_iff.1 hx;rw[List.drop_eq_getElem_cons xa,xb,oE] at hm;split at hm
    ·subst hm;cases h
    rename_i u2 cl hr;have c1:=wi (w0:=w0) (ρ:=ρ) (s:=⟨N,vs,⟨gJ,sh,ls⟩⟩) (kn:=nL) (by simp only;omega) hr;have jN:u2.length=ul:=by rw[gK hr,ic]
    simp only at c1;rw[<-gE fj ic,<-gE fj jN] at c1;refine gq gM ?_;refine og gM (af.ind rfl rfl (aY (l:=l) ym hx) (aZ fun _=>rfl)) ?_;refine ad.op rfl (af.kA c1 rfl (Nat.le_of_ble_eq_true rfl) (cW (by decide)) (mu) (cW (by decide)) (pT (by decide) .v) .v) ?_;obtain⟨ro,u3,we,tN⟩:∃ ro u3 we,kZ N sh m bz cl u2 nL=some (ro,u3,we):=by
     cases tN:kZ N sh m bz cl u2 nL with
     |none=>rw[tN] at hm;simp only at hm;subst hm;cases h
     |some w=>exact⟨w.1,w.2.1,w.2.2,rfl⟩
    rw[tN] at hm;obtain⟨k3,l3,p3⟩:=xC m tN dV;have c2:aC Tryz.prog w0 198 [.pt 0 6 0 0,iv cl,.mp 7] (aq (gB ρ nl ul N vs u2 sh ls nL bz) 8) (Ad ro) (aq (gB ρ nl ul N vs u3 sh ls we bz) 8):=ih jN dV tN;have se:u3.length=ul:=by omega
    refine gq gM ?_;refine ad.op rfl (af.kA c2 rfl (Nat.le_of_ble_eq_true rfl) (A7 (by decide)) (QL) (A7 (by decide)) (QM (by decide) .v) (Pure.aV (nk ro))) ?_;cases ro with
    |none =>
     simp only at hm;subst hm;simp only[oI_,pI_] at h;obtain⟨rfl,rfl,rfl⟩:=h;rw[Ad];refine gq gM ?_;refine ad.cP ?_;refine gq gM ?_;exact QK (v_.TX ht hb GN rfl) rfl ⟨[],.ao (Pure.aV (nk none)),JY,rfl⟩
    |some pq =>
     obtain⟨q3,q4⟩:=pq;obtain⟨⟨d1,d2⟩,d3,d4⟩:=p3 _ rfl;simp only at hm d1 d2 d3 d4;rw[Ad];refine gq gM ?_;refine ag gM fun a1 ia=>?_;refine ig gM (af.min (k:=.i64) (a:=a1) (b:=201) rfl rfl) fun a2 kN=>?_;refine ag gM fun a3 mY=>?_;refine ig gM (af.max (k:=.i64) (a:=p2) (b:=a3) rfl rfl) fun a4 ha4=>?_;refine ig gM (af.min (k:=.i64) (a:=a4) (b:=21) rfl rfl) fun a5 ha5=>?_;refine ag gM fun i3 iC=>?_;have e1:a2=min (p1+q3) 201:=by omega
     have e2:a5=min (max p2 (q4+1)) 21:=by omega
     refine ad.aO (σ:=Int × List Nat × KN × (Int × Int)) (i3,u3,we,(a2,a5)) [] ⟨i+1,by simp only;omega,by omega,se,k3,⟨⟨by simp only;omega,by simp only;omega⟩,by simp only;omega,by simp only;omega⟩,by rw[e1,e2];exact hm⟩ ?_ (by exact⟨sq,rfl,aa4,rfl,rfl,rfl⟩);simp only;omega
   ·have mX:i=l.length:=by omega
    rw[mX,List.drop_of_length_le (Nat.le_refl _),oE] at hm;subst hm;simp only[oI_,pI_] at h;obtain⟨rfl,rfl,rfl⟩:=h;refine gq gM ?_;refine ad.aH ?_;refine gq gM ?_;refine ad.Dl (ρ:=ρ) (f:=BL) (kv:=nL) (v:=(p1,p2)) rfl rfl rfl rfl rfl (fun ID TY=>?_);rw[<-TY];refine gq gM ?_;exact QK (v_.TX ht hb GN rfl) rfl ⟨[],.ao (Pure.aV (nk (some (p1,p2)))),JY,rfl⟩
  ·rw[DO] at h;simp only[oI_,pI_] at h;obtain⟨rfl,rfl,rfl⟩:=h;refine gq gM ?_;refine ad.Dl (ρ:=ρ) (f:=BL) (kv:=kn) (v:=((1:Int),(1:Int))) rfl rfl rfl rfl rfl (fun ID TY=>?_);rw[<-TY];refine gq gM ?_;exact QK (v_.TX ht hb GN rfl) rfl ⟨[],.ao (Pure.aV (nk (some (1,1)))),JY,rfl⟩
end
end
section
set_option maxRecDepth 100000
attribute [local irreducible] ah aC af ad
def aeG:FQ 138 Tryz.f138:=a_ Tryz.func138 Tryz.call138
def dv:List Nat:=[0,11,21,43,10,14,8,2,3,20,22,5,4,7,34,42,44,41,13,75,89]
def aeH:FQ 200 Tryz.f200:=a_ Tryz.func200 Tryz.call200
def aiU:List Nat:=[2,0,1]
section
variable {P:Program}{w0:World}{rd:Bool}{n:Nat}{Q:Exit->AA->ae->Prop}{α:AA}{S:ae}{l:List QI}{K:List ff}{T:Type}{ρ:Hd}{f:T->AV}{kv:List (Int × T)}
theorem ad.QN {d:Option Nat}{g:Option (Nat × Bool)}{z:AV}{x i:QO}{k:Nat}{m:Int}{z0:T}(hw:bm α.tm g=some true) (hx:x.ev α.tm=.mp k) (hS:S.get k=some (.mp (ρ.h (dh f) kv))) (hi:i.ev α.tm=.v (.int .i64 m)) (hz:f z0=z)
  (k1:∀ v,v=(aB kv m).getD z0->ad P w0 rd n Q (.aN false l K) (bC d α (f v)) S):ad P w0 rd n Q (.aN false (⟨d,g,.look z false x i⟩::l) K) α S :=
 ad.look (ρ:=ρ) (f:=f) (kv:=kv) hw hx hS hi (fun v hv=>k1 v (by grind)) fun hn=>by grind
theorem ad.XD {d:Option Nat}{g:Option (Nat × Bool)}{z:AV}{x i:QO}{k:Nat}{m:Int}{z0:T}(hw:bm α.tm g=some true) (hx:x.ev α.tm=.mp k) (hS:S.get k=some (.mb (ρ.h (dh f) kv))) (hi:i.ev α.tm=.v (.int .i64 m)) (hz:f z0=z)
  (k1:∀ v,v=(aB kv m).getD z0->ad P w0 rd n Q (.aN false l K) (bC d α (f v)) S):ad P w0 rd n Q (.aN false (⟨d,g,.look z false x i⟩::l) K) α S :=
 ad.iM (ρ:=ρ) (f:=f) (kv:=kv) hw hx hS hi (fun v hv=>k1 v (by grind)) fun hn=>by grind
end
theorem XE {ρ:Hd}{B:Nat}(l:List Bd):fR B (.arr 5 (ρ.h (List.map (uD ρ)) l) 0 false):=by
 show ∀ row ∈ ρ.h (List.map (uD ρ)) l,∀ a ∈ row,dz B a;rw[ρ.eq];intro row hr a ha;obtain⟨x,_,rfl⟩:=List.mem_map.1 hr;exact Pure.aV (B8 x a ha)
theorem gS9 {ρ:Hd}{S:ae}{nl ul:Nat}{Nd:bB}{vs sh ls:List (Int × Int)}{up:List Nat}{kn:KN}(h0:S.get 0=some (gO nl ul):=by rfl) (h1:S.get 1=some (dY ρ Nd):=by rfl) (h2:S.get 2=some (bD ρ vs):=by rfl) (h3:S.get 3=some (dZ ρ up):=by rfl)
  (h4:S.get 4=some (d_ ρ sh):=by rfl) (h5:S.get 5=some (bD ρ ls):=by rfl) (h6:S.get 6=some (ec ρ kn):=by rfl) (nY:Nat.ble S.nx 9=true:=by rfl):fY 9 [] 10 S [(0,gO nl ul),(1,dY ρ Nd),(2,bD ρ vs),(3,dZ ρ up),(4,d_ ρ sh),(5,bD ρ ls),(6,ec ρ kn),(9,.arr 5 (ρ.h (List.map (uD ρ)) []) 0 false)] :=
 ⟨.inl ⟨_,h0,.same (oh (by omega))⟩,.inl ⟨_,h1,.same (jv _)⟩,.inl ⟨_,h2,.same (db _)⟩,.inl ⟨_,h3,.same (iN _)⟩,.inl ⟨_,h4,.same (iO _)⟩,.inl ⟨_,h5,.same (db _)⟩,.inl ⟨_,h6,.same (iP _)⟩,.inr nY,trivial⟩
theorem TZ {j:Nat}{ρ:Hd}{S:ae}{nl ul:Nat}{Nd:bB}{vs sh ls:List (Int × Int)}{up:List Nat}{kn:KN}{acc:List Bd}(h9:S.get j=some (.arr 5 (ρ.h (List.map (uD ρ)) acc) 0 false):=by rfl) (h0:S.get 0=some (gO nl ul):=by rfl) (h1:S.get 1=some (dY ρ Nd):=by rfl) (h2:S.get 2=some (bD ρ vs):=by rfl) (h3:S.get 3=some (dZ ρ up):=by rfl)
  (h4:S.get 4=some (d_ ρ sh):=by rfl) (h5:S.get 5=some (bD ρ ls):=by rfl) (h6:S.get 6=some (ec ρ kn):=by rfl):fY 9 [(9,j)] 10 S [(0,gO nl ul),(1,dY ρ Nd),(2,bD ρ vs),(3,dZ ρ up),(4,d_ ρ sh),(5,bD ρ ls),(6,ec ρ kn),(9,.arr 5 (ρ.h (List.map (uD ρ)) acc) 0 false)] :=
 ⟨.inl ⟨_,h0,.same (oh (by omega))⟩,.inl ⟨_,h1,.same (jv _)⟩,.inl ⟨_,h2,.same (db _)⟩,.inl ⟨_,h3,.same (iN _)⟩,.inl ⟨_,h4,.same (iO _)⟩,.inl ⟨_,h5,.same (db _)⟩,.inl ⟨_,h6,.same (iP _)⟩,.inl ⟨_,h9,.same (XE _)⟩,trivial⟩
def aa8 (ρ:Hd):Option (List Bd)->AV
 |none=>.aG [.sl true [],iv 6]
 |some o=>.aG [kQ ρ o,iv 0]
section
variable {w0:World}{ρ:Hd}
theorem aa9 (G:Nat->Option Ob):aC Tryz.prog w0 200 [.mp 2] ⟨G,8⟩ (.fn (.func 237) [] [.pt 8 1 0 0]) ⟨a7 G 8 (some (.arr 1 [[.mp 2]] 0 true)),9⟩:=by
 obtain⟨r,S',h,h1,h2⟩:=mK.CL (w0:=w0) (S:=⟨G,8⟩) (args:=[.mp 2]) (R:=fun r S'=>r=.fn (.func 237) [] [.pt 8 1 0 0]/\S'=⟨a7 G 8 (some (.arr 1 [[.mp 2]] 0 true)),9⟩) aeH.2 (by simp[Tryz.ntmps200]) (by
  refine gq aiU ?_;refine fq ?_;exact⟨rfl,rfl⟩)
 subst h1 h2;exact h
theorem T1 {N:bB}{vs sh ls:List (Int × Int)}{nl ul:Nat}(hN:Gb N) (fj:nl=N.length) (jX:ul<=1099511627776) (CT:nl<=1099511627776) {up:List Nat}{dA:List Nat}{eI:KN}{b:Bool}(hu:up.length=ul) (hvl:vs.length<=1000000000000) (DC:(vs.map (·.1)).Nodup) (V1:∀ x ∈ vs.map (·.1),0<=x/\x<=1099511627776)
  (hm:uQ N sh (List.range nl) up []=some (b,dA,eI)) {R:AV}(pK:Pure R) (hb:b=false->R=.aG [.sl true [],iv 13]) (cy:b=true->∃ L M ro,uH L/\(∀ v,v ∈ L ↔ v ∈ vs.map (·.1))/\L.length<=100000000000/\tP N sh ls vs eI M L dA []=some ro/\R=aa8 ρ ro) :
  aC Tryz.prog w0 138 [.pt 0 6 0 0] (aq (gX ρ nl ul N vs up sh ls []) 7) R (aq [] 7):=by
 refine sc 7 7 aeG ?_;unfold gX;refine gq dv ?_;refine ad.gj ρ ub rfl (fun bz GN=>?_);refine gq dv ?_;refine ad.int rfl (af.pE rfl) fun e he=>?_;refine gq dv ?_
 refine ad.bu (σ:=Int × List Nat × KN) 8 8 [] (fun p=>[(0,.pt 0 6 0 0),(2,.sl true []),(3,iv 0),(4,.mp 7),(20,iv e),(21,iv p.1)]) []
  (fun p=>[(0,gO nl ul),(1,dY ρ N),(2,bD ρ vs),(3,dZ ρ p.2.1),(4,d_ ρ sh),(5,bD ρ ls),(6,ec ρ p.2.2),(7,yp ρ bz)])
  (fun p=>∃ i:Nat,p.1=i/\i<=nl/\p.2.1.length=ul/\vG p.2.2/\uQ N sh ((List.range nl).drop i) p.2.1 p.2.2=some (b,dA,eI)) (fun p=>nl - p.1.toNat)
  (0,up,[]) ⟨0,rfl,by simp,hu,(fun C p h=>by cases h),by grind⟩ rfl (by exact⟨sq,rfl,JY,rfl,rfl,rfl⟩) ?_
 rintro⟨ii,gJ,nL⟩ ⟨i,ym,Cy,ic,dV,dG⟩;simp only at ym Cy ic dV dG;refine gq dv ?_;refine bq (fun cy=>?_) (fun cy=>?_)<;>(try simp only[bX] at cy)
 ·have mX:i < nl:=by omega
  have hx:(List.range nl)[i]?=some i:=by grind
  obtain⟨xa,xb⟩:=List.getElem?_eq_some_iff.1 hx;rw[List.drop_eq_getElem_cons xa,xb,uQ] at dG;split at dG
  ·grind
  rename_i u2 cl hr;have c1:=wi (w0:=w0) (ρ:=ρ) (s:=⟨N,vs,⟨gJ,sh,ls⟩⟩) (kn:=nL) (by grind) hr;have jN:u2.length=ul:=by rw[gK hr,ic]
  simp only at c1;rw[<-gE fj ic,<-gE fj jN,<-ym] at c1;obtain⟨ro,u3,we,tN⟩:∃ ro u3 we,kZ N sh (N.length+1) bz cl u2 nL=some (ro,u3,we):=by grind
  have aba:=tN;rw[GN] at aba;rw[aba] at dG;obtain⟨k3,l3,p3⟩:=xC _ tN dV;have c2:aC Tryz.prog w0 198 [.pt 0 6 0 0,iv cl,.mp 7] (aq (gB ρ nl ul N vs u2 sh ls nL bz) 8) (Ad ro) (aq (gB ρ nl ul N vs u3 sh ls we bz) 8):=aa5 hN fj jX _ jN dV tN;have se:u3.length=ul:=by omega
  refine gq dv ?_;refine ad.op rfl (af.kA c1 rfl (Nat.le_of_ble_eq_true rfl) (cW (by decide)) (mu) (cW (by decide)) (pT (by decide) .v) .v) ?_;refine gq dv ?_;refine ad.op rfl (af.kA c2 rfl (Nat.le_of_ble_eq_true rfl) (A7 (by decide)) (QL) (A7 (by decide)) (QM (by decide) .v) (Pure.aV (nk ro))) ?_;cases ro with
  |none =>
   simp only[oI_,pI_] at dG;obtain⟨rfl,rfl,rfl⟩:=dG;rw[hb rfl] at pK ⊢;rw[Ad];refine gq dv ?_;refine ad.cP ?_;refine gq dv ?_;refine fq ?_;exact⟨[],.ao (Pure.aV pK),trivial,rfl⟩
  |some pq =>
   rw[Ad];refine gq dv ?_;refine cz (fun i3 iC=>?_);refine gq dv ?_;refine ad.aO (σ:=Int × List Nat × KN) (i3,u3,we) [] ⟨i+1,by grind,by omega,se,k3,dG⟩ ?_ (by exact⟨sq,rfl,JY,rfl,rfl,rfl⟩);simp only;omega
 ·have mX:i=nl:=by omega
  rw[mX,List.drop_of_length_le (by grind),uQ] at dG;simp only[oI_,pI_] at dG;obtain⟨rfl,rfl,rfl⟩:=dG;refine gq dv ?_;refine ad.aH ?_;refine gq dv ?_;obtain⟨L,M,ro,JZ,fG,IM,RN,rfl⟩:=cy rfl;clear hb cy dV;refine ad.op rfl (af.call rfl (aa9 _) (fun h=>by grind)) ?_;refine gq dv ?_;refine ad.op rfl (af.call rfl (Tt (kb:=8) (km:=2) (L:=L) rfl rfl DC V1 hvl JZ fG) (fun h=>by grind)) ?_;refine gq dv ?_;refine cF fun q hq=>?_;rw[aE] at hq;refine gq dv ?_
  refine ad.bu (σ:=Int × List Nat × List Bd × Nat) 9 10 [] (fun p=>[(0,.pt 0 6 0 0),(8,.gr 9 5 p.2.2.2),(41,aX ρ aP false L),(42,iv q),(43,iv p.1)]) []
   (fun p=>[(0,gO nl ul),(1,dY ρ N),(2,bD ρ vs),(3,dZ ρ p.2.1),(4,d_ ρ sh),(5,bD ρ ls),(6,ec ρ nL),(9,.arr 5 (ρ.h (List.map (uD ρ)) p.2.2.1) 0 false)])
   (fun p=>∃ i:Nat,p.1=i/\i<=L.length/\p.2.1.length=ul/\p.2.2.2=p.2.2.1.length/\p.2.2.1.length<=i/\tP N sh ls vs nL M (L.drop i) p.2.1 p.2.2.1=some ro) (fun p=>L.length - p.1.toNat)
   (0,gJ,[],0) ⟨0,rfl,by simp,ic,rfl,by simp,by grind⟩ rfl (by exact⟨sq,rfl,gS9,rfl,rfl,rfl⟩) ?_
  rintro⟨ii,upx,acc,al⟩ ⟨i,ym,Cy,ic,aK,mV,dG⟩;simp only at ym Cy ic aK mV dG;clear RN;refine gq dv ?_;refine bq (fun cy=>?_) (fun cy=>?_)<;>(try simp only[bX] at cy)
  ·have mX:i < L.length:=by omega
   obtain⟨v,hx,bK⟩:=bf mX;rw[bK,tP] at dG;split at dG
   ·grind
   rename_i k hk;split at dG;rotate_left
   ·grind
   rename_i hk0;split at dG
   ·grind
   rename_i u2 cl hr;have c1:=wi (w0:=w0) (ρ:=ρ) (s:=⟨N,vs,⟨upx,sh,ls⟩⟩) (kn:=nL) (by grind) hr;have jN:u2.length=ul:=by rw[gK hr,ic]
   simp only at c1;rw[<-gE fj ic,<-gE fj jN,show ((k.toNat:Nat):Int)=k by omega] at c1;obtain⟨ci,Je⟩:∃ ci:Int,ci=cl:=⟨_,rfl⟩;rw[<-Je] at c1 dG;refine gq dv ?_;refine ad.op rfl (af.ind rfl rfl (aY (l:=L) ym hx) (aZ fun _=>rfl)) ?_;refine gq dv ?_;refine ad.iM (ρ:=ρ) (f:=iv) (kv:=vs) rfl rfl rfl rfl (fun k2 dP=>?_) (fun dP=>?_);rotate_left
   ·grind
   rw[hk] at dP;obtain rfl:=oJ_ dP;refine gq dv ?_;refine ad.op rfl (af.kA c1 rfl (Nat.le_of_ble_eq_true rfl) (cW (by decide)) (mu) (cW (by decide)) (pT (by decide) .v) .v) ?_;refine gq dv ?_;refine ad.look (ρ:=ρ) (f:=iv) (kv:=sh) rfl rfl rfl rfl (fun si Jf=>?_) (fun Jf=>?_)
   ·rw[if_neg (by grind)] at dG;refine gq dv ?_;refine ad.QN (ρ:=ρ) (f:=BL) (kv:=nL) (z0:=(0,0)) rfl rfl rfl rfl rfl (fun q2 sd=>?_);rw[<-sd] at dG;obtain⟨q3,q4⟩:=q2;simp only at dG;refine gq dv ?_;refine bq (fun Ae=>?_) (fun Ae=>?_)<;>(try simp only[bX] at Ae)
    ·rw[if_pos (.inl (by omega))] at dG;obtain rfl:=oJ_ dG;refine gq dv ?_;refine ad.cP ?_;refine gq dv ?_;refine fq ?_;exact⟨[],.ao (Pure.aV pK),trivial,rfl⟩
    ·refine gq dv ?_;refine bq (fun u6=>?_) (fun u6=>?_)<;>(try simp only[bX] at u6)
     ·rw[if_pos (.inr (by omega))] at dG;obtain rfl:=oJ_ dG;refine gq dv ?_;refine ad.cP ?_;refine gq dv ?_;refine fq ?_;exact⟨[],.ao (Pure.aV pK),trivial,rfl⟩
     ·rw[if_neg (by omega)] at dG;split at dG
      ·grind
      rename_i tx u3 QA;have c2:=JR (w0:=w0) (ρ:=ρ) (vs:=vs) (kn:=nL) hN fj jX _ jN QA;have se:u3.length=ul:=by grind[xA]
      rw[<-Je] at c2;refine gq dv ?_;refine ad.op rfl (af.kA c2 rfl (Nat.le_of_ble_eq_true rfl) (cW (by decide)) (mu) (cW (by decide)) (pT (by decide) .v) (Pure.aV (aT tx))) ?_;refine gq dv ?_;refine ad.app (x:=(⟨v,tx⟩:Bd)) (f:=uD ρ) rfl rfl rfl aK (fun _=>rfl) rfl rfl rfl rfl (by omega) (fun dp r8 aeI vo=>?_);refine gq dv ?_;refine cz (fun i3 iC=>?_);refine gq dv ?_;refine ad.aO (σ:=Int × List Nat × List Bd × Nat) (i3,u3,dp,r8) [(9,11)] ⟨i+1,by grind,by omega,se,vo,by grind,by grind⟩ ?_ (by exact⟨sq,rfl,TZ,rfl,rfl,rfl⟩);simp only;omega
   ·refine gq dv ?_;refine ad.XD (ρ:=ρ) (f:=iv) (kv:=ls) (z0:=0) rfl rfl rfl rfl rfl (fun lv hlv=>?_);refine gq dv ?_;refine bq (fun jo=>?_) (fun jo=>?_)<;>(try simp only[bX] at jo)
    ·rw[if_pos ⟨Jf,by grind⟩] at dG;refine gq dv ?_;refine cz (fun i3 iC=>?_);refine gq dv ?_;refine ad.aO (σ:=Int × List Nat × List Bd × Nat) (i3,u2,acc,al) [(9,9)] ⟨i+1,by grind,by omega,jN,aK,by grind,dG⟩ ?_ (by exact⟨sq,rfl,TZ,rfl,rfl,rfl⟩);simp only;omega
    ·rw[if_neg (by grind)] at dG;refine gq dv ?_;refine ad.QN (ρ:=ρ) (f:=BL) (kv:=nL) (z0:=(0,0)) rfl rfl rfl rfl rfl (fun q2 sd=>?_);rw[<-sd] at dG;obtain⟨q3,q4⟩:=q2;simp only at dG;refine gq dv ?_;refine bq (fun Ae=>?_) (fun Ae=>?_)<;>(try simp only[bX] at Ae)
     ·rw[if_pos (.inl (by omega))] at dG;obtain rfl:=oJ_ dG;refine gq dv ?_;refine ad.cP ?_;refine gq dv ?_;refine fq ?_;exact⟨[],.ao (Pure.aV pK),trivial,rfl⟩
     ·refine gq dv ?_;refine bq (fun u6=>?_) (fun u6=>?_)<;>(try simp only[bX] at u6)
      ·rw[if_pos (.inr (by omega))] at dG;obtain rfl:=oJ_ dG;refine gq dv ?_;refine ad.cP ?_;refine gq dv ?_;refine fq ?_;exact⟨[],.ao (Pure.aV pK),trivial,rfl⟩
      ·rw[if_neg (by omega)] at dG;split at dG
       ·grind
       rename_i tx u3 QA;have c2:=JR (w0:=w0) (ρ:=ρ) (vs:=vs) (kn:=nL) hN fj jX _ jN QA;have se:u3.length=ul:=by grind[xA]
       rw[<-Je] at c2;refine gq dv ?_;refine ad.op rfl (af.kA c2 rfl (Nat.le_of_ble_eq_true rfl) (cW (by decide)) (mu) (cW (by decide)) (pT (by decide) .v) (Pure.aV (aT tx))) ?_;refine gq dv ?_;refine ad.app (x:=(⟨v,tx⟩:Bd)) (f:=uD ρ) rfl rfl rfl aK (fun _=>rfl) rfl rfl rfl rfl (by omega) (fun dp r8 aeI vo=>?_);refine gq dv ?_;refine cz (fun i3 iC=>?_);refine gq dv ?_;refine ad.aO (σ:=Int × List Nat × List Bd × Nat) (i3,u3,dp,r8) [(9,11)] ⟨i+1,by grind,by omega,se,vo,by grind,by grind⟩ ?_ (by exact⟨sq,rfl,TZ,rfl,rfl,rfl⟩);simp only;omega
  ·have mX:i=L.length:=by omega
   rw[mX,List.drop_of_length_le (Nat.le_refl _),tP] at dG;obtain rfl:=oJ_ dG;refine gq dv ?_;refine ad.aH ?_;refine ad.aaT (ad.Yw (Cv.freeze (t:=8) (k:=9) (rows:=ρ.h (List.map (uD ρ)) acc) (fz:=0) (ex:=false) rfl rfl (.inl rfl) (by grind[aE]) (Nat.zero_le _)) ?_);refine gq dv ?_;refine fq ?_;exact⟨[],.ao (Pure.aV pK),trivial,rfl⟩
end
end
section
set_option maxRecDepth 100000
def Af (N:bB):Prop:=∀ i,i < N.length->(tn N i).k=1->0<=(tn N i).i/\(tn N i).i<=1099511627776
theorem Af.push {N:bB}(h:Af N) {t:Tm}{l:List Nat}(ht:t.k=1->0<=t.i/\t.i<=1099511627776):Af (N++[(t,l)]):=by
 intro i hi hk;by_cases e:i < N.length
 ·have hp:∀ i,i < N.length->(N++[(t,l)])[i]?=N[i]?:=fun i hi=>List.getElem?_append_left hi;rw[(eg hp e).1] at hk ⊢;exact h i e hk
 ·have:i=N.length:=by grind
  subst this;rw[kc.1] at hk ⊢;exact ht hk
mutual
theorem wz:∀ (N:bB) (t:Tm),Af N->BI t->Af (mD N t).1
 |N,⟨k,i,n,a⟩,h,ht=>by
  rw[BI] at ht;rw[mD];split
  ·grind
  ·exact (J3 N a h ht.2).push ht.1
theorem J3:∀ (N:bB) (l:List Tm),Af N->rN l->Af (fh N l).1
 |N,[],h,_=>by rw[fh];exact h
 |N,x::l,h,ht=>by
  rw[rN] at ht;rw[fh];exact J3 _ l (wz N x h ht.1) ht.2
end
theorem pN.vb {l:List (Tm × Tm)}{s s':PS}{b:Bool}(h:pN l s b s'):GI s->Af s.N->(∀ e ∈ l,(eE e.1/\kz e.1/\BI e.1)/\eE e.2/\kz e.2/\BI e.2)->GI s'/\Af s'.N:=by
 induction h with
 |nil=>exact fun h1 h2 _=>⟨h1,h2⟩
 |@no a b l s j m h =>
  intro h1 h2 he;obtain⟨⟨w1,a1,v1⟩,w2,a2,v2⟩:=he (a,b) (by simp);simp only at w1 a1 v1 w2 a2 v2;have g1:=(h1.add w1 a1).1;have g2:=(g1.add w2 a2).1;have e1:=(oZ s a h1.V w1).1;have e2:=(oZ (bM s a).1 b g1.V w2).1;refine⟨g2.join h,?_⟩;show Af (bM (bM s a).1 b).1.N;rw[e2];refine wz _ _ ?_ v2;rw[e1];exact wz _ _ h2 v1
 |@go a b l s s' j m r h k ih =>
  intro h1 h2 he;obtain⟨⟨w1,a1,v1⟩,w2,a2,v2⟩:=he (a,b) (by simp);simp only at w1 a1 v1 w2 a2 v2;have g1:=(h1.add w1 a1).1;have g2:=(g1.add w2 a2).1;have e1:=(oZ s a h1.V w1).1;have e2:=(oZ (bM s a).1 b g1.V w2).1;refine ih (g2.join h) ?_ fun e hx=>he e (by grind);show Af (bM (bM s a).1 b).1.N;rw[e2];refine wz _ _ ?_ v2;rw[e1];exact wz _ _ h2 v1
theorem J4:∀ {l m:List Int},l.Nodup->(∀ x ∈ l,x ∈ m)->l.length<=m.length
 |[],m,_,_=>Nat.zero_le _
 |x::l,m,hn,hs=>by
  rw[List.nodup_cons] at hn;have h1:=J4 (l:=l) (m:=m.erase x) hn.2 fun y hy=>(List.mem_erase_of_ne (fun e=>hn.1 (by grind))).2 (hs y (by grind));have h2:=List.length_erase_of_mem (hs x (by simp));have h3:0 < m.length:=List.length_pos_of_mem (hs x (by simp));rw[List.length_cons];omega
noncomputable def jk (l r:List Tm):List Bd × Int:=if (l.any fun x=>!(dO x))=true then ([],2) else if (r.any fun x=>!(dO x))=true then ([],2) else if l.length=r.length then lX lz (l.zip r) else ([],9)
def xD (ρ:Hd) (p:List Bd × Int):AV:=.aG [kQ ρ p.1,iv p.2]
theorem kD {ρ:Hd}(p:List Bd × Int):Pure (xD ρ p):=.aG (wP (cJ _) .v)
theorem wA {ρ:Hd}{S:ae}{c:Int}:aR S (.aG [.sl true [],iv c]) (xD ρ ([],c)):=by
 refine .aG rfl fun i a a' h1 h2=>?_
 match i with
 |0 =>
  obtain rfl:=oJ_ h1;obtain rfl:=oJ_ h2;rw[kQ,bQ];exact aR.wk
 |1 =>
  obtain rfl:=oJ_ h1;obtain rfl:=oJ_ h2;exact .refl _
 |i+2=>simp at h1
theorem QP:∀ (E:List (Tm × Tm)),(∀ e ∈ E,dk e.1<=200/\dk e.2<=200)->zy E<=400*E.length
 |[],_=>by simp[zy]
 |e::E,h=>by
  have h1:=h e (by simp);have h2:=QP E fun x hx=>h x (by grind);rw[zy,List.length_cons];omega
theorem ah.fz {P:Program}{w0:World}{g:Nat}{l:List AV}{r r':AV}(h:ah P w0 g l r) (hf:∀ S,aR S r r') (hp:Pure r'):ah P w0 g l r':=by
 obtain⟨_,S',h2⟩:=h;exact ah.Df h2 (hf _) hp
section
variable {w0:World}{ρ:Hd}
theorem J5 {l r:List Tm}(hl:l.length<=100000000) (hr:r.length<=100000000) (wB:∀ x ∈ l,x.ok) (kO:∀ x ∈ r,x.ok):ah Tryz.prog w0 79 [tl ρ l,tl ρ r] (xD ρ (jk l r)):=by
 have nM:=IW (w0:=w0) (ρ:=ρ) l (by omega) wB;have tY:=IW (w0:=w0) (ρ:=ρ) r (by omega) kO;unfold jk;by_cases c1:(l.any fun x=>!(dO x))=true
 ·rw[if_pos c1];rw[c1] at nM;exact ah.fz (qI (kJ 2) (TO nM)) (fun S=>wA) (kD _)
 rw[if_neg c1];rw[Bool.not_eq_true] at c1;rw[c1] at nM;by_cases c2:(r.any fun x=>!(dO x))=true
 ·rw[if_pos c2];rw[c2] at tY;exact ah.fz (qI (kJ 2) (TP nM tY)) (fun S=>wA) (kD _)
 rw[if_neg c2];rw[Bool.not_eq_true] at c2;rw[c2] at tY;by_cases c3:l.length=r.length;rotate_left
 ·rw[if_neg c3];exact ah.fz (qI (kJ 9) (TQ nM tY c3)) (fun S=>wA) (kD _)
 rw[if_pos c3];have BN:∀ x ∈ l,eE x/\kz x/\E1 x/\BI x/\dk x<=200:=fun x hx=>uX (by grind) (wB x hx);have BO:∀ x ∈ r,eE x/\kz x/\E1 x/\BI x/\dk x<=200:=fun x hx=>uX (by grind) (kO x hx);have hE:∀ e ∈ l.zip r,e.1 ∈ l/\e.2 ∈ r:=fun e he=>⟨(List.of_mem_zip he).1,(List.of_mem_zip he).2⟩;have bS:zy (l.zip r)<=100000000000:=by
  have:=QP (l.zip r) fun e he=>⟨(BN _ (hE e he).1).2.2.2.2,(BO _ (hE e he).2).2.2.2.2⟩;rw[List.length_zip] at this;omega
 obtain⟨b,s',hA,hf,ht⟩:=Xa (l.zip r) (fun e he=>⟨⟨(BN _ (hE e he).1).1,(BN _ (hE e he).1).2.1⟩,(BO _ (hE e he).2).1,(BO _ (hE e he).2).2.1⟩) bS;have T3:∀ x ∈ l,eE x/\kz x:=fun x hx=>⟨(BN x hx).1,(BN x hx).2.1⟩;have T4:∀ x ∈ r,eE x/\kz x:=fun x hx=>⟨(BO x hx).1,(BO x hx).2.1⟩;have bad:(b=true->aC Tryz.prog w0 138 [.pt 0 6 0 0] (aq (gS ρ s' []) 7) (.aG [.sl true [],iv 13]) (aq [] 7))->lX lz (l.zip r)=([],13)->ah Tryz.prog w0 79 [tl ρ l,tl ρ r] (xD ρ (lX lz (l.zip r))):=fun h1 h2=>by
  rw[h2];exact ah.fz (qI (kJ 13) (NJ (by omega) nM tY T3 T4 c3 bS hA (.sl fun r hr=>by grind) (fun _=>⟨⟨rfl,rfl⟩,rfl⟩) h1)) (fun S=>wA) (kD _)
 cases b with
 |false=>exact bad (fun h=>by grind) (hf rfl)
 |true =>
  obtain⟨hV,qh,hle,b2,up,kn,hm,abb,abc⟩:=ht rfl;obtain⟨DU,abd⟩:=hA.vb .nil (fun i hi=>by grind) fun e he=>⟨⟨(BN _ (hE e he).1).1,(BN _ (hE e he).1).2.1,(BN _ (hE e he).1).2.2.2.1⟩,(BO _ (hE e he).2).1,(BO _ (hE e he).2).2.1,(BO _ (hE e he).2).2.2.2.1⟩;have Tq:∀ x ∈ s'.vs.map (·.1),∃ i,i < s'.N.length/\(tn s'.N i).k=1/\(tn s'.N i).i=x:=fun x hx=>by
   obtain⟨k,hk⟩:=qZ.1 hx;rw[hV.vs] at hk;cases hv:mC s'.N x with
   |none=>rw[hv] at hk;cases hk
   |some j=>exact⟨j,yV hv⟩
  have V1:∀ x ∈ s'.vs.map (·.1),0<=x/\x<=1099511627776:=fun x hx=>by
   obtain⟨i,h1,h2,h3⟩:=Tq x hx;have:=abd i h1 h2;rw[h3] at this;exact this
  have hvl:s'.vs.length<=s'.N.length:=by
   have:=J4 (l:=s'.vs.map (·.1)) (m:=s'.N.map fun x=>x.1.i) hV.nd fun x hx=>by grind[tn]
   rwa [List.length_map,List.length_map] at this
  obtain⟨N,vs,⟨Vz,sh,ls⟩⟩:=s';simp only at hV qh hle hm abb abc DU abd V1 hvl;have hu:Vz.length=N.length:=hV.up
  have hG:∀ {R:AV},Pure R->(b2=false->R=.aG [.sl true [],iv 13])->(b2=true->∃ L M ro,uH L/\(∀ v,v ∈ L ↔ v ∈ vs.map (·.1))/\L.length<=100000000000/\tP N sh ls vs kn M L up []=some ro/\R=aa8 ρ ro) ->
    aC Tryz.prog w0 138 [.pt 0 6 0 0] (aq (gS ρ ⟨N,vs,⟨Vz,sh,ls⟩⟩ []) 7) R (aq [] 7):=fun hp h1 h2=>by
   rw[<-gE (nl:=N.length) (ul:=N.length) rfl hu];exact T1 (Gb.of DU.G DU.A) rfl (by grind) (by grind) hu (by grind) hV.nd V1 hm hp h1 h2
  cases b2 with
  |false=>exact bad (fun _=>hG (kJ 13) (fun _=>rfl) fun h=>by grind) (abb rfl)
  |true =>
   have hs:=List.mergeSort_perm (vs.map (·.1)) (fun x y=>decide (x<=y));obtain⟨L,hL⟩:∃ L,L=(vs.map (·.1)).mergeSort (fun x y=>decide (x<=y)):=⟨_,rfl⟩;have JZ:uH L:=by
    rw[hL];refine rQ ?_ (hs.nodup_iff.2 hV.nd);have:=List.pairwise_mergeSort (le:=fun x y:Int=>decide (x<=y)) (fun a b c h1 h2=>by grind) (fun a b=>by grind) (vs.map (·.1));exact this.imp fun h=>by grind
   have fG:∀ v,v ∈ L ↔ v ∈ vs.map (·.1):=fun v=>by grind
   have IM:L.length<=100000000000:=by rw[hL,List.length_mergeSort,List.length_map];omega
   obtain⟨M,ro,ho,he⟩:=abc rfl L JZ fG;rw[he];cases ro with
   |none =>
    exact ah.fz (qI (kJ 6) (NJ (by omega) nM tY T3 T4 c3 bS hA (.sl fun r hr=>by grind) (fun h=>by grind) fun _=>hG (kJ 6) (fun h=>by grind) fun _=>⟨L,M,none,JZ,fG,IM,ho,rfl⟩)) (fun S=>wA) (kD _)
   |some o =>
    exact qI (kD (o,0)) (NJ (by omega) nM tY T3 T4 c3 bS hA (cJ o) (fun h=>by grind) fun _=>hG (kD (o,0)) (fun h=>by grind) fun _=>⟨L,M,some o,JZ,fG,IM,ho,rfl⟩)
theorem T5 {a b:Tm}(ha:a.ok) (hb:b.ok):ah Tryz.prog w0 204 [tm ρ a,tm ρ b] (xD ρ (jk [a] [b])):=by
 have h:=J5 (w0:=w0) (ρ:=ρ) (l:=[a]) (r:=[b]) (by simp) (by simp) (fun x hx=>by grind) (fun x hx=>by grind);exact Xw (kD _) h
theorem J6 {a b:Tm}(ha:a.ok) (hb:b.ok):ah Tryz.prog w0 145 [tm ρ a,tm ρ b] (.v (.bool (decide ((jk [a] [b]).2=0\/(jk [a] [b]).2=6)))):=KU (T5 ha hb)
end
end
end Go.Proofs.YtbpabjmnhggajaaGreat
