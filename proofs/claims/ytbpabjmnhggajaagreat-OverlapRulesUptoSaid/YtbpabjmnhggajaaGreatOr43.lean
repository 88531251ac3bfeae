import Derived.Test.YtbpabjmnhggajaaGreatOr42
namespace Go.Proofs.YtbpabjmnhggajaaGreat
set_option linter.all false
set_option maxRecDepth 100000
open Go.RowKit
variable {ρ:Hd}{ls vs:List (Int × Int)}{cl up:List Nat}{a:List Tm}{i j m n nl ul:Nat}{g:Option (Nat × Bool)}{d:Option Nat}{N Nd:aS}{S:af}
section
attribute [local irreducible] ah aG ae ad
def ajG:FQ 138 Tryz.f138:=aF Tryz.func138 Tryz.call138
def dY:List Nat:=[0,11,21,43,10,14,8,2,3,20,22,5,4,7,34,42,44,41,13,75,89]
def ajH:FQ 200 Tryz.f200:=aF Tryz.func200 Tryz.call200
def anN:List Nat:=[2,0,1]
section
variable {P:Program}{w0:World}{rd:Bool}{n:Nat}{Q:Exit->AA->af->Prop}{α:AA}{S:af}{l:List QI}{K:List f_}{T:Type}{ρ:Hd}{f:T->AV}{kv:List (Int × T)}
theorem ad.Vo {z:AV}{x i:QO}{k:Nat}{m:Int}{z0:T}(a:bG α.tm g=some true) (b:x.ev α.tm=.mp k) (c:S.get k=some (.mp (ρ.h (dW f) kv))) (hi:i.ev α.tm=.v (.int .i64 m)) (h:f z0=z)
  (e:∀v,v=(aH kv m).getD z0->ad P w0 rd n Q (.bc false l K) (bP d α (f v)) S):ad P w0 rd n Q (.bc false (⟨d,g,.look z false x i⟩::l) K) α S :=
 ad.look (ρ:=ρ) (f:=f) (kv:=kv) a b c hi (λv j=>e v (by grind)) λo=>by grind
theorem ad.acq {z:AV}{x i:QO}{k:Nat}{m:Int}{z0:T}(a:bG α.tm g=some true) (b:x.ev α.tm=.mp k) (c:S.get k=some (.mb (ρ.h (dW f) kv))) (hi:i.ev α.tm=.v (.int .i64 m)) (h:f z0=z)
  (e:∀v,v=(aH kv m).getD z0->ad P w0 rd n Q (.bc false l K) (bP d α (f v)) S):ad P w0 rd n Q (.bc false (⟨d,g,.look z false x i⟩::l) K) α S :=
 ad.g_ (ρ:=ρ) (f:=f) (kv:=kv) a b c hi (λv j=>e v (by grind)) λo=>by grind
end
theorem Ja {B:Nat}(l:List Bd):h_ B (.arr 5 (ρ.h (List.map (gG ρ)) l) 0 false):=by
 show ∀row ∈ ρ.h (List.map (gG ρ)) l,∀a ∈ row,ec B a;rw[ρ.eq];intro row b a c;obtain⟨x,_,rfl⟩:=av_.1 b;exact Pure.bm (AM x a c)
theorem gS9 {sh:List (Int × Int)}{kn:KN}(h0:S.get 0=some (gO nl ul):=by rfl) (h1:S.get 1=some (fS ρ Nd):=by rfl) (h2:S.get 2=some (bZ ρ vs):=by rfl) (h3:S.get 3=some (cI ρ up):=by rfl)
  (h4:S.get 4=some (fT ρ sh):=by rfl) (h5:S.get 5=some (bZ ρ ls):=by rfl) (h6:S.get 6=some (fU ρ kn):=by rfl) (a:Nat.ble S.nx 9=true:=by rfl):fO 9 [] 10 S [(0,gO nl ul),(1,fS ρ Nd),(2,bZ ρ vs),(3,cI ρ up),(4,fT ρ sh),(5,bZ ρ ls),(6,fU ρ kn),(9,.arr 5 (ρ.h (List.map (gG ρ)) []) 0 false)] :=
 ⟨.inl ⟨_,h0,.same (o6 (by omega))⟩,.inl ⟨_,h1,.same (mq _)⟩,.inl ⟨_,h2,.same (eK _)⟩,.inl ⟨_,h3,.same (fy _)⟩,.inl ⟨_,h4,.same (lQ _)⟩,.inl ⟨_,h5,.same (eK _)⟩,.inl ⟨_,h6,.same (lP _)⟩,.inr a,trivial⟩
theorem Yp {sh:List (Int × Int)}{kn:KN}{acc:List Bd}(a:S.get j=some (.arr 5 (ρ.h (List.map (gG ρ)) acc) 0 false):=by rfl) (h0:S.get 0=some (gO nl ul):=by rfl) (h1:S.get 1=some (fS ρ Nd):=by rfl) (h2:S.get 2=some (bZ ρ vs):=by rfl) (h3:S.get 3=some (cI ρ up):=by rfl)
  (h4:S.get 4=some (fT ρ sh):=by rfl) (h5:S.get 5=some (bZ ρ ls):=by rfl) (h6:S.get 6=some (fU ρ kn):=by rfl):fO 9 [(9,j)] 10 S [(0,gO nl ul),(1,fS ρ Nd),(2,bZ ρ vs),(3,cI ρ up),(4,fT ρ sh),(5,bZ ρ ls),(6,fU ρ kn),(9,.arr 5 (ρ.h (List.map (gG ρ)) acc) 0 false)] :=
 ⟨.inl ⟨_,h0,.same (o6 (by omega))⟩,.inl ⟨_,h1,.same (mq _)⟩,.inl ⟨_,h2,.same (eK _)⟩,.inl ⟨_,h3,.same (fy _)⟩,.inl ⟨_,h4,.same (lQ _)⟩,.inl ⟨_,h5,.same (eK _)⟩,.inl ⟨_,h6,.same (lP _)⟩,.inl ⟨_,a,.same (Ja _)⟩,trivial⟩
def Yq (ρ:Hd):Option (List Bd)->AV
 |none=>.aL [.sl true [],iv 6]
 |some o=>.aL [eg ρ o,iv 0]
section
variable {w0:World}{ρ:Hd}
theorem af0 (G:Nat->Option Ob):aG Tryz.prog w0 200 [.mp 2] ⟨G,8⟩ (.fn (.func 237) [] [.pt 8 1 0 0]) ⟨bE G 8 (some (.arr 1 [[.mp 2]] 0 true)),9⟩:=by
 obtain⟨r,a,h,b,c⟩:=oc.LH (w0:=w0) (S:=⟨G,8⟩) (args:=[.mp 2]) (R:=λr a=>r=.fn (.func 237) [] [.pt 8 1 0 0]/\a=⟨bE G 8 (some (.arr 1 [[.mp 2]] 0 true)),9⟩) ajH.2 (by simp[Tryz.ntmps200]) (by
  refine gq anN ?_;refine fq ?_;exact⟨rfl,rfl⟩)
 subst b c;exact h
theorem Yr {sh:List (Int × Int)}(T:zW N) (o:nl=N.length) (U:ul<=1099511627776) (r9:nl<=1099511627776) {V:List Nat}{W:KN}{b:Bool}(hu:up.length=ul) (Ql:vs.length<=1000000000000) (HS:(vs.map (·.1)).Nodup) (X:∀x ∈ vs.map (·.1),0<=x/\x<=1099511627776)
  (hm:yy N sh (List.range nl) up []=some (b,V,W)) {R:AV}(r:Pure R) (hb:b=false->R=.aL [.sl true [],iv 13]) (j:b=true->∃L M d,tv L/\(∀v,v ∈ L ↔ v ∈ vs.map (·.1))/\L.length<=100000000000/\xq N sh ls vs W M L V []=some d/\R=Yq ρ d) :
  aG Tryz.prog w0 138 [.pt 0 6 0 0] (aq (gX ρ nl ul N vs up sh ls []) 7) R (aq [] 7):=by
 refine sc 7 7 ajG ?_;unfold gX;refine gq dY ?_;refine ad.kQ ρ ub rfl (λO Kd=>?_);refine gq dY ?_;refine ad.int rfl (ae.iz rfl) λe he=>?_;refine gq dY ?_
 refine ad.aK (σ:=Int × List Nat × KN) 8 8 [] (λp=>[(0,.pt 0 6 0 0),(2,.sl true []),(3,iv 0),(4,.mp 7),(20,iv e),(21,iv p.1)]) []
  (λp=>[(0,gO nl ul),(1,fS ρ N),(2,bZ ρ vs),(3,cI ρ p.2.1),(4,fT ρ sh),(5,bZ ρ ls),(6,fU ρ p.2.2),(7,B7 ρ O)])
  (λp=>∃i:Nat,p.1=i/\i<=nl/\p.2.1.length=ul/\zo p.2.2/\yy N sh ((List.range nl).drop i) p.2.1 p.2.2=some (b,V,W)) (λp=>nl - p.1.toNat)
  (0,up,[]) ⟨0,rfl,by simp,hu,(λC p h=>by cases h),by grind⟩ rfl (by exact⟨sq,rfl,NW,rfl,rfl,rfl⟩) ?_
 rintro⟨ii,jw,g⟩ ⟨i,D,Y,m,P,a⟩;simp only at D Y m P a;refine gq dY ?_;refine bq (λj=>?_) (λj=>?_)<;>(try simp only[bL]at j)
 ·have z:i < nl:=by omega
  have Z:(List.range nl)[i]?=some i:=by grind
  obtain⟨xa,xb⟩:=ar_.1 Z;rw[bq_ xa,xb,yy]at a;split at a
  ·grind
  rename_i A cl E;have n:=Ai (w0:=w0) (ρ:=ρ) (s:=⟨N,vs,⟨jw,sh,ls⟩⟩) (kn:=g) (by grind) E;have u:A.length=ul:=by rw[jz E,m]
  simp only at n;rw[<-jq o m,<-jq o u,<-D]at n;obtain⟨d,c,Q,zS⟩:∃d c Q,m9 N sh (N.length+1) O cl A g=some (d,c,Q):=by grind
  have F:=zS;rw[Kd]at F;rw[F]at a;obtain⟨k3,l3,p3⟩:=Bt _ zS P;have w:aG Tryz.prog w0 198 [.pt 0 6 0 0,iv cl,.mp 7] (aq (gB ρ nl ul N vs A sh ls g O) 8) (DF d) (aq (gB ρ nl ul N vs c sh ls Q O) 8):=afO T o U _ u P zS;have G:c.length=ul:=by omega
  refine gq dY ?_;refine ad.op rfl (ae.iA n rfl (aq_ rfl) (dJ (by decide)) (oq) (dJ (by decide)) (s8 (by decide) .v) .v) ?_;refine gq dY ?_;refine ad.op rfl (ae.iA w rfl (aq_ rfl) (Es (by decide)) (Vk) (Es (by decide)) (Vl (by decide) .v) (Pure.bm (pv d))) ?_;cases d with
  |none =>
   simp only[oI_,pI_]at a;obtain⟨rfl,rfl,rfl⟩:=a;rw[hb rfl]at r ⊢;rw[DF];refine gq dY ?_;refine ad.bh ?_;refine gq dY ?_;refine fq ?_;exact⟨[],.aC (Pure.bm r),trivial,rfl⟩
  |some pq =>
   rw[DF];refine gq dY ?_;refine cw (λy de=>?_);refine gq dY ?_;refine ad.az (σ:=Int × List Nat × KN) (y,c,Q) [] ⟨i+1,by grind,by omega,G,k3,a⟩ ?_ (by exact⟨sq,rfl,NW,rfl,rfl,rfl⟩);simp only;omega
 ·have z:i=nl:=by omega
  rw[z,aA_ (by grind),yy]at a;simp only[oI_,pI_]at a;obtain⟨rfl,rfl,rfl⟩:=a;refine gq dY ?_;refine ad.ao ?_;refine gq dY ?_;obtain⟨L,M,d,N6,iI,uO,WD,rfl⟩:=j rfl;clear hb j P;refine ad.op rfl (ae.call rfl (af0 _) (λh=>by grind)) ?_;refine gq dY ?_;refine ad.op rfl (ae.call rfl (Ym (kb:=8) (km:=2) (L:=L) rfl rfl HS X Ql N6 iI) (λh=>by grind)) ?_;refine gq dY ?_;refine bS λq hq=>?_;rw[au]at hq;refine gq dY ?_
  refine ad.aK (σ:=Int × List Nat × List Bd × Nat) 9 10 [] (λp=>[(0,.pt 0 6 0 0),(8,.gr 9 5 p.2.2.2),(41,aR ρ aI false L),(42,iv q),(43,iv p.1)]) []
   (λp=>[(0,gO nl ul),(1,fS ρ N),(2,bZ ρ vs),(3,cI ρ p.2.1),(4,fT ρ sh),(5,bZ ρ ls),(6,fU ρ g),(9,.arr 5 (ρ.h (List.map (gG ρ)) p.2.2.1) 0 false)])
   (λp=>∃i:Nat,p.1=i/\i<=L.length/\p.2.1.length=ul/\p.2.2.2=p.2.2.1.length/\p.2.2.1.length<=i/\xq N sh ls vs g M (L.drop i) p.2.1 p.2.2.1=some d) (λp=>L.length - p.1.toNat)
   (0,jw,[],0) ⟨0,rfl,by simp,m,rfl,by simp,by grind⟩ rfl (by exact⟨sq,rfl,gS9,rfl,rfl,rfl⟩) ?_
  rintro⟨ii,upx,H,al⟩ ⟨i,D,Y,m,S,nB,a⟩;simp only at D Y m S nB a;clear WD;refine gq dY ?_;refine bq (λj=>?_) (λj=>?_)<;>(try simp only[bL]at j)
  ·have z:i < L.length:=by omega
   obtain⟨v,Z,aV⟩:=aD z;rw[aV,xq]at a;split at a
   ·grind
   rename_i k hk;split at a;rotate_left
   ·grind
   rename_i ZT;split at a
   ·grind
   rename_i A cl E;have n:=Ai (w0:=w0) (ρ:=ρ) (s:=⟨N,vs,⟨upx,sh,ls⟩⟩) (kn:=g) (by grind) E;have u:A.length=ul:=by rw[jz E,m]
   simp only at n;rw[<-jq o m,<-jq o u,show ((k.toNat:Nat):Int)=k by omega]at n;obtain⟨ci,yB⟩:∃ci:Int,ci=cl:=⟨_,rfl⟩;rw[<-yB]at n a;refine gq dY ?_;refine ad.op rfl (ae.ind rfl rfl (aB (l:=L) D Z) (aA λ_=>rfl)) ?_;refine gq dY ?_;refine ad.g_ (ρ:=ρ) (f:=iv) (kv:=vs) rfl rfl rfl rfl (λk2 fe=>?_) (λfe=>?_);rotate_left
   ·grind
   rw[hk]at fe;obtain rfl:=oJ_ fe;refine gq dY ?_;refine ad.op rfl (ae.iA n rfl (aq_ rfl) (dJ (by decide)) (oq) (dJ (by decide)) (s8 (by decide) .v) .v) ?_;refine gq dY ?_;refine ad.look (ρ:=ρ) (f:=iv) (kv:=sh) rfl rfl rfl rfl (λsi yK=>?_) (λyK=>?_)
   ·rw[if_neg (by grind)]at a;refine gq dY ?_;refine ad.Vo (ρ:=ρ) (f:=E9) (kv:=g) (z0:=(0,0)) rfl rfl rfl rfl rfl (λq2 uR=>?_);rw[<-uR]at a;obtain⟨q3,q4⟩:=q2;simp only at a;refine gq dY ?_;refine bq (λI=>?_) (λI=>?_)<;>(try simp only[bL]at I)
    ·rw[if_pos (.inl (by omega))]at a;obtain rfl:=oJ_ a;refine gq dY ?_;refine ad.bh ?_;refine gq dY ?_;refine fq ?_;exact⟨[],.aC (Pure.bm r),trivial,rfl⟩
    ·refine gq dY ?_;refine bq (λJ=>?_) (λJ=>?_)<;>(try simp only[bL]at J)
     ·rw[if_pos (.inr (by omega))]at a;obtain rfl:=oJ_ a;refine gq dY ?_;refine ad.bh ?_;refine gq dY ?_;refine fq ?_;exact⟨[],.aC (Pure.bm r),trivial,rfl⟩
     ·rw[if_neg (by omega)]at a;split at a
      ·grind
      rename_i K c Vg;have w:=NM (w0:=w0) (ρ:=ρ) (vs:=vs) (kn:=g) T o U _ u Vg;have G:c.length=ul:=by grind[Bs]
      rw[<-yB]at w;refine gq dY ?_;refine ad.op rfl (ae.iA w rfl (aq_ rfl) (dJ (by decide)) (oq) (dJ (by decide)) (s8 (by decide) .v) (Pure.bm (bQ K))) ?_;refine gq dY ?_;refine ad.app (x:=(⟨v,K⟩:Bd)) (f:=gG ρ) rfl rfl rfl S (λ_=>rfl) rfl rfl rfl rfl (by omega) (λdu tz HC vi=>?_);refine gq dY ?_;refine cw (λy de=>?_);refine gq dY ?_;refine ad.az (σ:=Int × List Nat × List Bd × Nat) (y,c,du,tz) [(9,11)] ⟨i+1,by grind,by omega,G,vi,by grind,by grind⟩ ?_ (by exact⟨sq,rfl,Yp,rfl,rfl,rfl⟩);simp only;omega
   ·refine gq dY ?_;refine ad.acq (ρ:=ρ) (f:=iv) (kv:=ls) (z0:=0) rfl rfl rfl rfl rfl (λlv Vp=>?_);refine gq dY ?_;refine bq (λdQ=>?_) (λdQ=>?_)<;>(try simp only[bL]at dQ)
    ·rw[if_pos ⟨yK,by grind⟩]at a;refine gq dY ?_;refine cw (λy de=>?_);refine gq dY ?_;refine ad.az (σ:=Int × List Nat × List Bd × Nat) (y,A,H,al) [(9,9)] ⟨i+1,by grind,by omega,u,S,by grind,a⟩ ?_ (by exact⟨sq,rfl,Yp,rfl,rfl,rfl⟩);simp only;omega
    ·rw[if_neg (by grind)]at a;refine gq dY ?_;refine ad.Vo (ρ:=ρ) (f:=E9) (kv:=g) (z0:=(0,0)) rfl rfl rfl rfl rfl (λq2 uR=>?_);rw[<-uR]at a;obtain⟨q3,q4⟩:=q2;simp only at a;refine gq dY ?_;refine bq (λI=>?_) (λI=>?_)<;>(try simp only[bL]at I)
     ·rw[if_pos (.inl (by omega))]at a;obtain rfl:=oJ_ a;refine gq dY ?_;refine ad.bh ?_;refine gq dY ?_;refine fq ?_;exact⟨[],.aC (Pure.bm r),trivial,rfl⟩
     ·refine gq dY ?_;refine bq (λJ=>?_) (λJ=>?_)<;>(try simp only[bL]at J)
      ·rw[if_pos (.inr (by omega))]at a;obtain rfl:=oJ_ a;refine gq dY ?_;refine ad.bh ?_;refine gq dY ?_;refine fq ?_;exact⟨[],.aC (Pure.bm r),trivial,rfl⟩
      ·rw[if_neg (by omega)]at a;split at a
       ·grind
       rename_i K c Vg;have w:=NM (w0:=w0) (ρ:=ρ) (vs:=vs) (kn:=g) T o U _ u Vg;have G:c.length=ul:=by grind[Bs]
       rw[<-yB]at w;refine gq dY ?_;refine ad.op rfl (ae.iA w rfl (aq_ rfl) (dJ (by decide)) (oq) (dJ (by decide)) (s8 (by decide) .v) (Pure.bm (bQ K))) ?_;refine gq dY ?_;refine ad.app (x:=(⟨v,K⟩:Bd)) (f:=gG ρ) rfl rfl rfl S (λ_=>rfl) rfl rfl rfl rfl (by omega) (λdu tz HC vi=>?_);refine gq dY ?_;refine cw (λy de=>?_);refine gq dY ?_;refine ad.az (σ:=Int × List Nat × List Bd × Nat) (y,c,du,tz) [(9,11)] ⟨i+1,by grind,by omega,G,vi,by grind,by grind⟩ ?_ (by exact⟨sq,rfl,Yp,rfl,rfl,rfl⟩);simp only;omega
  ·have z:i=L.length:=by omega
   rw[z,aA_ (ac_ _),xq]at a;obtain rfl:=oJ_ a;refine gq dY ?_;refine ad.ao ?_;refine ad.xI (ad.BS (Cv.freeze (t:=8) (k:=9) (rows:=ρ.h (List.map (gG ρ)) H) (fz:=0) (ex:=false) rfl rfl (.inl rfl) (by grind[au]) (ax_ _)) ?_);refine gq dY ?_;refine fq ?_;exact⟨[],.aC (Pure.bm r),trivial,rfl⟩
end
end
section
attribute [local irreducible] ah aG ae ad
def ajI:FQ 158 Tryz.f158:=aF Tryz.func158 Tryz.call158
def eY:List Nat:=[0,3,5,7,6,4,1,10,17,41,54]
theorem Kf:∀(N:aS) (l:List Tm) (x:Tm),(bR N (l++[x])).1=(bN (bR N l).1 x).1/\(bR N (l++[x])).2=(bR N l).2++[(bN (bR N l).1 x).2]
 |N,[],x=>by grind[bR]
 |N,y::l,x=>by
  simp only[aR_,bR];obtain⟨a,b⟩:=Kf (bN N y).1 l x;exact⟨a,by grind⟩
theorem DH:∀(N:aS) (l:List Tm),(bR N l).2.length=l.length
 |N,[]=>rfl
 |N,x::l=>by rw[bR];simp only[aw_];rw[DH]
def ot (cl:List Nat) (n m:Nat):List Nat:=cl++List.range' n (m - n)
theorem F_ (cl:List Nat) (n:Nat):ot cl n n=cl:=by grind[ot]
theorem rN (h:cl.length=n) (a:n<=m):(ot cl n m).length=m:=by grind[ot]
theorem yP {q:Nat}(h:n<=m) (k:m<=q):ot (ot cl n m) m q=ot cl n q:=by
 unfold ot;rw[bc_];congr 1;have:=List.range'_append (s:=n) (m:=m - n) (n:=q - m) (step:=1);rw[br_,show n+(m - n)=m by omega]at this;rw[this];congr 1;omega
theorem N7 (h:n<=m):ot cl n m++[m]=ot cl n (m+1):=by
 have:=yP (cl:=cl) h (show m<=m+1 by omega);rw[<-this];conv=>rhs;unfold ot
 congr 1;rw[show m+1 - m=1 by omega]
 rfl
def rY (ρ:Hd) (nl ul:Nat) (N:aS) (cl:List Nat):List (Nat × Ob):=[(0,yO 3 4 nl ul),(3,ij ρ N),(4,cI ρ cl)]
def rZ (ρ:Hd) (i j nl ul:Nat) (N:aS) (cl:List Nat):List (Nat × Ob):=[(0,yO i j nl ul),(i,ij ρ N),(j,cI ρ cl)]
def rW (ρ:Hd) (a i j nl ul:Nat) (N:aS) (cl:List Nat):List (Nat × Option Ob):=[(0,some (yO (a+3) (a+4) nl ul)),(i,none),(j,none),(a,none),(a+1,none),(a+2,none),(a+3,some (ij ρ N)),(a+4,some (cI ρ cl))]
theorem DI {T:af}(h0:T.get 0=some (yO i j nl ul):=by rfl) (h1:T.get i=some (ij ρ N):=by rfl) (h2:T.get j=some (cI ρ cl):=by rfl):iC T (rZ ρ i j nl ul N cl):=by
 intro p a;unfold rZ at a;simp only[ad_,as_,or_false]at a;rcases a with rfl|rfl|rfl<;>assumption
theorem Vq {T:af}(h:iC T (rZ ρ i j nl ul N cl)):jF (aU [(1,i),(2,j)]) 3 T (rX ρ nl ul N cl):=by
 have a:T.get 0=some (yO i j nl ul):=h (0,yO i j nl ul) (by simp[rZ]);have b:T.get i=some (ij ρ N):=h (i,ij ρ N) (by simp[rZ]);have c:T.get j=some (cI ρ cl):=h (j,cI ρ cl) (by simp[rZ]);exact⟨⟨_,a,.row ⟨.gr rfl rfl,.gr rfl rfl,trivial⟩⟩,⟨_,b,.pure (Bu _)⟩,⟨_,c,.pure (nS _)⟩,trivial⟩
theorem rWB {a:Nat}:gT (dz (aU [(1,i),(2,j)]) 3 a) (rY ρ nl ul N cl) (rW ρ a i j nl ul N cl) :=
 ⟨⟨0,_,rfl,rfl,.row ⟨.gr rfl,.gr rfl,trivial⟩⟩,⟨3,_,rfl,rfl,.pure (Bu _)⟩,⟨4,_,rfl,rfl,.pure (nS _)⟩,trivial⟩
theorem rCY (h0:S.get 0=some (yO i j nl ul):=by rfl) (h1:S.get i=some (ij ρ Nd):=by rfl) (h2:S.get j=some (cI ρ cl):=by rfl):fO 3 [(3,i),(4,j)] 5 S (rY ρ nl ul Nd cl) :=
 ⟨.inl ⟨_,h0,.arr (by exact⟨⟨.jT rfl rfl,.jT rfl rfl,trivial⟩,trivial⟩)⟩,.inl ⟨_,h1,.same (nj _)⟩,.inl ⟨_,h2,.same (fy _)⟩,trivial⟩
theorem uj (c:fj N) (d:qd N) (e:gH a) (f:jV a) (m:Nat):fj (bR N (a.take m)).1/\qd (bR N (a.take m)).1/\N.length<=(bR N (a.take m)).1.length/\(bR N (a.take m)).1.length<=N.length+bp (a.take m):=by
 obtain⟨b,_,_⟩:=FE N (a.take m) c (J_ e m);obtain⟨g,h⟩:=A9 N (a.take m) d (Ka f m);exact⟨b.g,g,b.le,h⟩
theorem N8 {y:Tm}(g:fj N) (h:qd N) (b:gH a) (d:jV a) (f:a[m]?=some y) :
  eh y/\jy y/\(bR N (a.take m)).1.length+cR y<=N.length+bp a/\(bR N (a.take (m+1))).1=(bN (bR N (a.take m)).1 y).1/\(bR N (a.take (m+1))).2=(bR N (a.take m)).2++[(bN (bR N (a.take m)).1 y).2]/\(bR N (a.take m)).1.length<=(bN (bR N (a.take m)).1 y).1.length:=by
 obtain⟨i,n,o,p⟩:=uj g h b d m;have c:=aa_ f;have e:=Ep f;obtain⟨q1,j⟩:=Kf N (a.take m) y;have k:=Dq a (m+1);rw[e,Mv]at k;rw[e];obtain⟨l,_,_⟩:=pO (bR N (a.take m)).1 y i (b.mem y c);exact⟨b.mem y c,d.mem y c,by omega,q1,j,l.le⟩
section
variable {w0:World}{ρ:Hd}
theorem Q4 (sz:Nat):∀(N:aS) (cl:List Nat) (t:Tm),cR t<=sz->fj N->qd N->eh t->jy t->cl.length=N.length->N.length+cR t<=100000000000 ->
  aG Tryz.prog w0 158 [.pt 0 2 0 0,tm ρ t] (aq (rX ρ N.length N.length N cl) 3) (iv (bN N t).2) (aq (rY ρ (bN N t).1.length (bN N t).1.length (bN N t).1 (ot cl N.length (bN N t).1.length)) 5):=by
 induction sz with
 |zero=>intro N cl t h;exfalso;obtain⟨k,i,n,a⟩:=t;rw[cR]at h;omega
 |succ sz ih =>
  rintro N cl ⟨k,i,n,a⟩ bO F G hw ha eZ hB;rw[jy]at ha;have H:gH a:=by
   rw[eh]at hw;split at hw
   ·rw[hw.2,gH];trivial
   ·exact hw.1
  have I:jV a:=ha.2.2;rw[cR]at bO hB;obtain⟨V,b⟩:∃V,V=(bN N ⟨k,i,n,a⟩).1:=⟨_,rfl⟩;obtain⟨res,s⟩:∃r,r=(bN N ⟨k,i,n,a⟩).2:=⟨_,rfl⟩;rw[<-b,<-s];rw[bN]at b s;obtain⟨nl,W⟩:∃nl,nl=N.length:=⟨_,rfl⟩;obtain⟨X,Y⟩:∃X,X=V.length:=⟨_,rfl⟩;obtain⟨cW,Ft⟩:∃l,l=ot cl nl X:=⟨_,rfl⟩;rw[<-W,<-Y,<-Ft];have hle:∀m,N.length<=(bR N (a.take m)).1.length:=λm=>(uj F G H I m).2.2.1;have rest:∀{x:aS},x=(bR N a).1->V=x++[(⟨k,i,n,a⟩,(bR N a).2)]->X=x.length+1/\nl<=x.length:=λ{x} h1 h2=>by
   have:=hle a.length;rw[aQ_ (ac_ _),<-h1]at this;exact⟨by rw[Y,h2,af_,bi_],by omega⟩
  obtain⟨ki,nF⟩:∃ki:Int,ki=k:=⟨_,rfl⟩;refine sc 3 5 ajI ?_;unfold rX;refine gq eY ?_;refine cn (λhb=>?_) λhb=>?_
  ·subst hb;simp only[if_true]at b s;refine gq eY ?_
   refine ad.aK (σ:=Int) 4 4 [] (λp=>[(0,.pt 0 2 0 0),(3,.pt 3 4 0 0),(4,iv 0),(5,iv p)]) [] (λp=>[(0,rO nl nl),(1,ij ρ N),(2,cI ρ cl),(3,.arr 4 [je ρ ⟨1,i,n,a⟩] 0 true)])
    (λp=>∃j:Nat,p=j/\j<=nl/\mM N i=((N.drop j).findIdx? λx=>x.1.k == 1 && x.1.i == i).map (·+j)) (λp=>nl - p.toNat) 0 ⟨0,rfl,by simp,by rw[bw_];show _=Option.map (λx=>x+0) (mM N i);cases mM N i<;>rfl⟩ rfl cz ?_
   rintro jj ⟨j,Q5,Jb,w⟩;refine gq eY ?_;refine ig eY (ae.iz rfl) λe he=>?_;refine cn (λaZ=>?_) λaZ=>?_
   ·have lK:j < nl:=by omega
    obtain⟨⟨t,Z⟩,hNj,hNd⟩:=aD (show j < N.length by omega);have E:=bW (ρ:=ρ) (f:=pw ρ) hNj;rw[pw]at E;simp only at E;rw[hNd,List.findIdx?_cons]at w;obtain⟨tk,ti,Fa,ta⟩:=t;simp only at w E;refine gq eY ?_
    repeat' (first
     |(refine ad.op rfl (ae.dg rfl rfl Q5 lK) ?_;refine ad.op rfl (ae.quiet rfl) ?_;refine og eY (ae.fk rfl rfl E rfl) ?_)
     |refine cg eY (λhb=>?_) λhb=>?_
     |refine ag eY λ_ _=>?_
     |refine ad.bh ?_;refine gq eY ?_
     |(refine fq ?_))
    all_goals first
     |(have hc:(tk == 1 && ti == i)=true:=by rw[al_,beq_iff_eq,beq_iff_eq];exact⟨by grind,by grind⟩
       rw[hc]at w;simp only[if_true,aE_,aD_]at w;rw[w]at b s;simp only at b s;subst b s;rw[<-W]at Y;subst Y;rw[F_]at Ft;subst Ft;rw[<-Q5];exact⟨[(3,1),(4,2)],.aC .v,rCY,rfl⟩)
     |(have hc:(tk == 1 && ti == i)=false:=by first|(rw[show (tk == 1)=false by rw[beq_eq_false_iff_ne];assumption];rfl)|(rw[show (ti == i)=false by rw[beq_eq_false_iff_ne];assumption,bJ_])
       rw[hc]at w;simp only[bn_,if_false,Option.map_map]at w;refine ad.az (σ:=Int) _ [] ?_ ?_ cz
       ·refine⟨j+1,by omega,by omega,?_⟩;rw[w];congr 1;funext x;simp only[Function.comp];omega
       ·omega)
   ·have lK:j=N.length:=by omega
    rw[lK,aA_ (ac_ _)]at w;simp only[List.findIdx?_nil,bj_]at w;rw[w]at b s;simp only at b s;refine gq eY ?_;refine ad.ao ?_;refine gq eY ?_
    refine ad.aK (σ:=Int × aS × List Nat × List Nat × Nat × Nat) 5 8 [(5,1),(6,2)] (λp=>[(0,.pt 0 2 0 0),(3,.pt 3 4 0 0),(4,iv 0),(6,.pt 4 4 0 0),(7,iv p.1)]) []
     (λp=>[(0,yO 5 6 p.2.2.2.2.2 p.2.2.2.2.2),(5,ij ρ p.2.1),(6,cI ρ p.2.2.1),(3,.arr 4 [je ρ ⟨1,i,n,a⟩] 0 true),(4,.arr 4 [[iv 1,iv i,.v (.string n),.gr 7 1 p.2.2.2.2.1]] 0 true),(7,.arr 1 (ρ.h (List.map c8) p.2.2.2.1) 0 false)])
     (λp=>∃m:Nat,p.1=m/\m<=a.length/\p.2.1=(bR N (a.take m)).1/\p.2.2.1=ot cl nl p.2.1.length/\p.2.2.2.1=(bR N (a.take m)).2/\p.2.2.2.2.1=p.2.2.2.1.length/\p.2.2.2.2.2=p.2.1.length) (λp=>a.length - p.1.toNat)
     (0,N,cl,[],0,nl) ⟨0,rfl,by simp,by simp[bR],by simp only;rw[W,F_],by simp[bR],rfl,W⟩ rfl cz ?_
    rintro⟨mi,A,J,rl,Z,d⟩ ⟨m,hm,Bo,g,u,v,B,o⟩;simp only at hm Bo g u v B o;refine gq eY ?_;refine lg eY λq hq=>?_;refine cn (λaZ=>?_) λaZ=>?_
    ·have K:m < a.length:=by omega
     obtain⟨y,L⟩:∃y,a[m]?=some y:=⟨_,ai_ K⟩;obtain⟨e1,C,e3,M⟩:=uj F G H I m;obtain⟨e5,O,e7,P,D,Vr⟩:=N8 F G H I L;rw[<-g]at e1 C e3 M e7 P D Vr;rw[<-v]at D;have ey:cR y<=bp a:=iw y (aa_ L);have c:=ih A J y (by omega) e1 C e5 O (by rw[u];exact rN (by omega) (by omega)) (by omega);obtain⟨Q,mR⟩:∃x,x=(bN A y).1:=⟨_,rfl⟩;obtain⟨E,zu⟩:∃x,x=(bN A y).2:=⟨_,rfl⟩;rw[<-mR]at c P Vr;rw[<-zu]at c D;obtain⟨z,R⟩:∃x,x=Q.length:=⟨_,rfl⟩;obtain⟨S,dI⟩:∃x,x=ot J d z:=⟨_,rfl⟩;rw[<-o,<-R,<-dI]at c;have Yt:S=ot cl nl z:=by rw[dI,u,<-o];exact yP (by omega) (by omega)
     have Nx:Z<=6:=by
      rw[B,v,DH,aZ_];omega
     clear mR zu;refine gq eY ?_;refine ad.cP rfl (λT=>ae.ind rfl rfl (cC (l:=a) hm L) cD) ?_;refine gq eY ?_;refine ad.eW rfl (a_.jK [(1,5),(2,6)] (rZ ρ 5 6 d d A J) (rW ρ 8 5 6 z z Q S) c rfl ⟨.pt rfl rfl,.pure (bQ y),trivial⟩ (.pure .v) DI (λT hT=>Vq hT) rWB) ?_;refine gq eY ?_;refine ad.wi E (f:=c8) rfl rfl rfl B (λ_=>rfl) rfl rfl rfl (by omega) (λNy Nz NC F5=>?_);refine gq eY ?_;refine ag eY λi3 de=>?_;refine ad.az (σ:=Int × aS × List Nat × List Nat × Nat × Nat) (i3,Q,S,Ny,Nz,z) [(5,11),(6,12),(7,24)] ⟨m+1,by simp only;omega,by omega,P.symm,by simp only;rw[Yt,R],by simp only;rw[NC,D],F5,R⟩ ?_ cz;simp only;omega
    ·have K:m=a.length:=by omega
     rw[K,aQ_ (ac_ _)]at g v;rw[<-g,<-v]at b;rw[<-g]at s;obtain⟨g1,g2⟩:=rest g (by rw[b,v]);have O:=(uj F G H I a.length).2.2.2;rw[aQ_ (ac_ _),<-g]at O;refine gq eY ?_;refine ad.ao ?_;refine ad.xI (ad.BS (Cv.Np (kb:=4) (k:=7) (j:=3) (m:=Z) rfl rfl (by decide) rfl (by rw[au];exact B)) ?_);refine gq eY ?_;refine ad.dU ((⟨1,i,n,a⟩:Tm),rl) (f:=pw ρ) rfl rfl rfl o (λ_=>rfl) rfl rfl rfl (by omega) (λN3 U ND kT=>?_);have N9:U=d+1:=by rw[kT,ND,af_,bi_,<-o]
     refine gq eY ?_;refine ig eY (ae.iz rfl) λe he=>?_;refine ag eY λC vR=>?_;refine ad.dU d (f:=c8) rfl rfl rfl (by rw[u,rN (by omega) (by omega)];exact o) (λ_=>rfl) (by rw[c8,show C=(d:Int) by omega];rfl) rfl rfl (by omega) (λc3 m3 Cl uP=>?_);refine gq eY ?_;refine ig eY (ae.iz rfl) λe3 he3=>?_;refine ag eY λM he4=>?_;refine fq ?_;obtain rfl:N3=V:=by rw[ND,b]
     obtain rfl:U=X:=by rw[Y,kT]
     obtain rfl:m3=U:=by rw[uP,Cl,af_,u,rN (by omega) (by omega)];simp;omega
     obtain rfl:c3=cW:=by rw[Cl,Ft,u,<-o,N7 (by omega),show d+1=m3 by omega]
     obtain rfl:M=(res:Int):=by rw[s];omega
     exact⟨[(3,8),(4,9)],.aC .v,rCY,rfl⟩
  ·rw[if_neg hb]at b s;simp only at b s;refine gq eY ?_
   refine ad.aK (σ:=Int × aS × List Nat × List Nat × Nat × Nat) 5 8 [(5,1),(6,2)] (λp=>[(0,.pt 0 2 0 0),(3,.pt 3 4 0 0),(4,iv 0),(6,.pt 4 4 0 0),(7,iv p.1)]) []
    (λp=>[(0,yO 5 6 p.2.2.2.2.2 p.2.2.2.2.2),(5,ij ρ p.2.1),(6,cI ρ p.2.2.1),(3,.arr 4 [je ρ ⟨k,i,n,a⟩] 0 true),(4,.arr 4 [[iv k,iv i,.v (.string n),.gr 7 1 p.2.2.2.2.1]] 0 true),(7,.arr 1 (ρ.h (List.map c8) p.2.2.2.1) 0 false)])
    (λp=>∃m:Nat,p.1=m/\m<=a.length/\p.2.1=(bR N (a.take m)).1/\p.2.2.1=ot cl nl p.2.1.length/\p.2.2.2.1=(bR N (a.take m)).2/\p.2.2.2.2.1=p.2.2.2.1.length/\p.2.2.2.2.2=p.2.1.length) (λp=>a.length - p.1.toNat)
    (0,N,cl,[],0,nl) ⟨0,rfl,by simp,by simp[bR],by simp only;rw[W,F_],by simp[bR],rfl,W⟩ rfl cz ?_
   rintro⟨mi,A,J,rl,Z,d⟩ ⟨m,hm,Bo,g,u,v,B,o⟩;simp only at hm Bo g u v B o;refine gq eY ?_;refine lg eY λq hq=>?_;refine cn (λaZ=>?_) λaZ=>?_
   ·have K:m < a.length:=by omega
    obtain⟨y,L⟩:∃y,a[m]?=some y:=⟨_,ai_ K⟩;obtain⟨e1,C,e3,M⟩:=uj F G H I m;obtain⟨e5,O,e7,P,D,Vr⟩:=N8 F G H I L;rw[<-g]at e1 C e3 M e7 P D Vr;rw[<-v]at D;have ey:cR y<=bp a:=iw y (aa_ L);have c:=ih A J y (by omega) e1 C e5 O (by rw[u];exact rN (by omega) (by omega)) (by omega);obtain⟨Q,mR⟩:∃x,x=(bN A y).1:=⟨_,rfl⟩;obtain⟨E,zu⟩:∃x,x=(bN A y).2:=⟨_,rfl⟩;rw[<-mR]at c P Vr;rw[<-zu]at c D;obtain⟨z,R⟩:∃x,x=Q.length:=⟨_,rfl⟩;obtain⟨S,dI⟩:∃x,x=ot J d z:=⟨_,rfl⟩;rw[<-o,<-R,<-dI]at c;have Yt:S=ot cl nl z:=by rw[dI,u,<-o];exact yP (by omega) (by omega)
    have Nx:Z<=6:=by
     rw[B,v,DH,aZ_];omega
    clear mR zu;refine gq eY ?_;refine ad.cP rfl (λT=>ae.ind rfl rfl (cC (l:=a) hm L) cD) ?_;refine gq eY ?_;refine ad.eW rfl (a_.jK [(1,5),(2,6)] (rZ ρ 5 6 d d A J) (rW ρ 8 5 6 z z Q S) c rfl ⟨.pt rfl rfl,.pure (bQ y),trivial⟩ (.pure .v) DI (λT hT=>Vq hT) rWB) ?_;refine gq eY ?_;refine ad.wi E (f:=c8) rfl rfl rfl B (λ_=>rfl) rfl rfl rfl (by omega) (λNy Nz NC F5=>?_);refine gq eY ?_;refine ag eY λi3 de=>?_;refine ad.az (σ:=Int × aS × List Nat × List Nat × Nat × Nat) (i3,Q,S,Ny,Nz,z) [(5,11),(6,12),(7,24)] ⟨m+1,by simp only;omega,by omega,P.symm,by simp only;rw[Yt,R],by simp only;rw[NC,D],F5,R⟩ ?_ cz;simp only;omega
   ·have K:m=a.length:=by omega
    rw[K,aQ_ (ac_ _)]at g v;rw[<-g,<-v]at b;rw[<-g]at s;obtain⟨g1,g2⟩:=rest g (by rw[b,v]);have O:=(uj F G H I a.length).2.2.2;rw[aQ_ (ac_ _),<-g]at O;refine gq eY ?_;refine ad.ao ?_;refine ad.xI (ad.BS (Cv.Np (kb:=4) (k:=7) (j:=3) (m:=Z) rfl rfl (by decide) rfl (by rw[au];exact B)) ?_);refine gq eY ?_;refine ad.dU ((⟨k,i,n,a⟩:Tm),rl) (f:=pw ρ) rfl rfl rfl o (λ_=>rfl) rfl rfl rfl (by omega) (λN3 U ND kT=>?_);have N9:U=d+1:=by rw[kT,ND,af_,bi_,<-o]
    refine gq eY ?_;refine ig eY (ae.iz rfl) λe he=>?_;refine ag eY λC vR=>?_;refine ad.dU d (f:=c8) rfl rfl rfl (by rw[u,rN (by omega) (by omega)];exact o) (λ_=>rfl) (by rw[c8,show C=(d:Int) by omega];rfl) rfl rfl (by omega) (λc3 m3 Cl uP=>?_);refine gq eY ?_;refine ig eY (ae.iz rfl) λe3 he3=>?_;refine ag eY λM he4=>?_;refine fq ?_;obtain rfl:N3=V:=by rw[ND,b]
    obtain rfl:U=X:=by rw[Y,kT]
    obtain rfl:m3=U:=by rw[uP,Cl,af_,u,rN (by omega) (by omega)];simp;omega
    obtain rfl:c3=cW:=by rw[Cl,Ft,u,<-o,N7 (by omega),show d+1=m3 by omega]
    obtain rfl:M=(res:Int):=by rw[s];omega
    exact⟨[(3,8),(4,9)],.aC .v,rCY,rfl⟩
end
end
end Go.Proofs.YtbpabjmnhggajaaGreat
