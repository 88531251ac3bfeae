import Derived.Shelf.SlIterI.Collect
import Derived.Shelf.SlIterI.Sorted
import Derived.Shelf.SortM.Plain
import Derived.Shelf.SortM.SortNone
import Derived.Test.YtbpabjmnhggajaaGreatOr41
namespace Go.Proofs.YtbpabjmnhggajaaGreat
set_option linter.all false
set_option maxRecDepth 100000
open Go.RowKit
variable {a:AV}{ex:Bool}{ρ:Hd}{kn:KN}{ls vs:List (Int × Int)}{busy:List (Int × Unit)}{rows:List (List AV)}{L:List Int}{cl up:List Nat}{i n nl ul:Nat}{P:Program}{N Nd:aS}{S T:af}
section
attribute [local irreducible] ah aG ae ad
theorem NU (l:List Tm):aR ρ (je ρ) false l=tl ρ l:=by
 rw[tl,bX,bX,show (je ρ)=iN from funext λx=>(pM x).symm]
theorem ack:aP S (.sl true []) (tl ρ []):=by rw[tl,bX];exact aP.wk
theorem q_:∀l:List Tm,l.length<=bp l
 |[]=>ax_ _
 |x::l=>by rw[bp,aw_];have:=q_ l;have:=iO x;omega
end
section
attribute [local irreducible] ah aG ae ad
theorem Cv.afM {w0:World}{α:AA}{T:Type}(f:T->List AV) {t k sz:Nat}(a:S.get k=some (.arr sz rows 0 ex)) (b:α.tm t=.ob k sz 0 0 none):Cv w0 n α S ⟨bE α.tm t (.gr k sz 0),α.df⟩ (S.set k (some (.arr sz (ρ.h (List.map f) []) 0 false))):=by
 have:=Cv.anw (w0:=w0) (n:=n) a b (ax_ _);rw[ρ.eq,bg_];simpa using this
def aju:FQ 254 Tryz.f254:=aF Tryz.func254 Tryz.call254
def vC:List Nat:=[0,12,5,6,4,11,13,1]
def Q1 (ρ:Hd) (x:Tm × Tm):List AV:=[iv x.1.k,iv x.1.i,.v (.string x.1.n),tl ρ x.1.a,iv x.2.k,iv x.2.i,.v (.string x.2.n),tl ρ x.2.a]
def prs (ρ:Hd) (l:List (Tm × Tm)):AV:=aR ρ (Q1 ρ) false l
theorem LR (x:Tm × Tm):∀a ∈ Q1 ρ x,Pure a:=by simp[Q1,cG,Pure.v,iv]
theorem Yf (l:List (Tm × Tm)):Pure (prs ρ l):=dT λx _ a b=>LR x a b
section
variable {w0:World}{ρ:Hd}
theorem Yg (a b:List Tm) (M:a.length<=100000000000) (N:a.length=b.length):ah Tryz.prog w0 254 [tl ρ a,tl ρ b] (prs ρ (a.zip b)):=by
 obtain⟨R,g⟩:∃R,R=a.zip b:=⟨_,rfl⟩;rw[<-g];refine st aju vC ((Yf _)) ?_;refine bS λq j=>?_;rw[au]at j;refine gq vC ?_;refine ad.op rfl (ae.aeQ rfl rfl (by omega) (by omega) (by omega) (by omega)) ?_;refine ad.uC (Cv.afM (ρ:=ρ) (Q1 ρ) (t:=9) (k:=0) rfl rfl) ?_;refine gq vC ?_;refine bS λm n=>?_;rw[au]at n;refine gq vC ?_
 refine ad.aK (σ:=Int × List (Tm × Tm) × Nat) 1 2 [(1,0)] (λp=>[(0,tl ρ a),(1,tl ρ b),(5,.gr 1 8 p.2.2),(11,.v (.int .i64 m)),(12,.v (.int .i64 p.1))]) [] (λp=>[(1,.arr 8 (ρ.h (List.map (Q1 ρ)) p.2.1) 0 false)])
  (λp=>∃k:Nat,p.1=k/\k<=a.length/\R=p.2.1++(a.drop k).zip (b.drop k)/\p.2.2=p.2.1.length/\p.2.1.length=k) (λp=>a.length - p.1.toNat) (0,[],0) ⟨0,rfl,by simp,by grind,rfl,rfl⟩ rfl cz ?_
 rintro⟨i,r,len⟩ ⟨k,d,O,c,e,s⟩;simp only at d c e s;clear g;refine gq vC ?_;refine bq (λh=>?_) (λh=>?_)<;>(try simp only[bL]at h)
 rotate_left
 ·refine gq vC ?_;refine ad.ao ?_;refine gq vC ?_;refine fq ?_;rw[aA_ (by omega),List.zip_nil_left,aB_]at c;rw[c];exact aP.grow rfl e
 obtain⟨x,u,v⟩:=aD (l:=a) (k:=k) (by omega);obtain⟨y,w,z⟩:=aD (l:=b) (k:=k) (by omega);rw[v,z,List.zip_cons_cons]at c;obtain⟨A,B,C,D⟩:=x;obtain⟨E,F,G,H⟩:=y;refine gq vC ?_;refine ad.op rfl (ae.ind rfl rfl (cC (l:=a) d u) cD) ?_;refine gq vC ?_;refine ad.op rfl (ae.ind rfl rfl (cC (l:=b) d w) cD) ?_;refine gq vC ?_;refine ad.dU (f:=Q1 ρ) (⟨A,B,C,D⟩,⟨E,F,G,H⟩) rfl rfl rfl e (λ_=>rfl) rfl rfl rfl (by omega) (λI J P K=>?_);refine gq vC ?_;refine cw (λL Q=>?_);refine gq vC ?_;refine ad.az (σ:=Int × List (Tm × Tm) × Nat) (L,I,J) [(1,2)] ⟨k+1,by grind,by omega,by grind,K,by grind⟩ ?_ cz;simp only;omega
end
end
section
variable {P:Program}{w0:World}{n:Nat}{α:AA}{S S' N:af}{r:AV}
theorem aG.J3 {f:FuncId}{args args':List AV}{b:af}(l:∀k o,N.get k=some o->S.get k=some o) (c:S.nx<=S'.nx) (y:∀k o,S'.get k=some o->S.get k=some o/\N.get k=none) (d:iq N args args') (h:aG P w0 f args' S' r b):aG P w0 f args S r b:=by
 refine⟨h.1,λF m A g n w z q s=>?_⟩;obtain⟨B,C⟩:=q.J3 l c y;have D:mj (g.still N) w args' n:=by
  refine⟨s.1.trans d.len,λi a x t c=>?_⟩;have E:i < args.length:=by rw[d.len];exact (ar_.1 t).1
  have u:=ai_ E;have G:St w0 A g ⟨N.get,S.nx⟩ w:=q.forget (ac_ _) λj p H _=>l j p H;have I:=(d.at i _ a u t);exact (I.mono (S:=N) (T:=⟨N.get,S.nx⟩) λ_ _ _ _ _ h=>h).rep G (s.2 i _ x u c)
 refine (h.2 F m A (g.still N) n w z C D).mono ?_;rintro e M ⟨v,J,rfl,K,L,k3⟩;exact⟨v,J,rfl,K,L,B.trans k3⟩
end
structure Fr where
 t:Tr AV
 ds:List DE
inductive XR where
 |dn (ex:Exit) (F:Fr) (s:XS)
 |mr (cf:QF) (F:Fr) (s:XS)
 |no
abbrev Rec:=Bool->Nat->QF->Fr->XS->XR
structure Env where
 tab:Nat->Option ((QC × List QR) × Nat)
 ext:Nat->List AV->Option AV
 nat:Nat->List AV->Option Value
 cau:Nat->Option AV
 wm:Nat->Bool
 kok:Nat->Value->Bool
 keq:Value->Value->Bool
 seq:Nat->Value->Value->Option Bool
 sp:Nat->Option Nat
 fx:Nat->Bool
section
variable {P:Program}{w0:World}{E:Env}{rc:Rec}{s s':XS}{r:AV}{J J':FJ}
theorem ah.emp {g:Nat}{r:AV}(h:∀A c,ah P w0 g [.v (.slice A 0 c)] r):ah P w0 g [.sl ex []] r:=by
 have j:∀A c,∀a ∈ [AV.v (.slice A 0 c)],Pure a:=λA c a d=>by
  simp only[ae_]at d;subst d;exact .v
 refine⟨(h none 0).1,af.none_,((h none 0).LH (j _ _) af.none_).1,λF m A g b w n o k=>?_⟩;have p:b.size=1:=k.1;obtain⟨v,rfl⟩:∃v,b=#[v]:=by
  obtain⟨l⟩:=b
  match l,p with
  |[x],_=>exact⟨x,rfl⟩
 have q:=k.2 0 _ v rfl rfl;obtain⟨B,c,e,_,_⟩:=sR q;subst e;refine ((h B c).LH (j _ _) af.none_).2 F m A g _ w n o ⟨rfl,λi a x d f=>?_⟩
 match i,d,f with
 |0,d,f =>
  obtain rfl:=oJ_ d;obtain rfl:=oJ_ f;exact .v
end
section
attribute [local irreducible] ah aG ae ad
def ajv:FQ 198 Tryz.f198:=aF Tryz.func198 Tryz.call198
def jC:List Nat:=[0,1,10,6,2,56,15,7,9,26,8,30,12,46,11,55,57,54,14,16,70]
def ub (_:Unit):AV:=.v (.bool true)
def B7 (ρ:Hd) (busy:List (Int × Unit)):Ob:=.mp (ρ.h (dW ub) busy)
def DF:Option (Int × Int)->AV
 |some q=>.aL [E9 q,.v (.bool true)]
 |none=>.aL [E9 (0,0),.v (.bool false)]
theorem NV {T:Type}{f:T->AV}:∀{l:List (Int × T)}{i:Int}{v:T},aH l i=none->lW (dW f (l++[(i,v)])) i=some l.length
 |[],i,v,_=>by simp[dW,lW,c_]
 |p::l,i,v,h=>by
  rw[aH]at h;by_cases e:p.1=i
  ·grind
  ·rw[if_neg e]at h;have a:=NV (f:=f) (v:=v) h;have b:dW f (p::l++[(i,v)])=(c_ p.1,f p.2)::dW f (l++[(i,v)]):=rfl;rw[b,lW,a];simp[c_,e]
theorem Yh {T:Type}{f:T->AV}{l:List (Int × T)}{i:Int}{v:T}(h:aH l i=none):IM (dW f (l++[(i,v)])) i=dW f l:=by
 unfold IM;rw[NV h];have:dW f (l++[(i,v)])=dW f l++[(c_ i,f v)]:=by simp[dW]
 rw[this,show l.length=(dW f l).length by simp[dW]];show (dW f l++[(c_ i,f v)]).eraseIdx (dW f l).length=dW f l;rw[List.eraseIdx_append_of_length_le (ac_ _),bk_];simp
theorem Vj {w0:World}{rd:Bool}{b:List QR}{R:AV->af->Prop}{α:AA}{S':af}{r:AV}(c:zO P S α.df S') (d:(match v_ α.tm S' b with|some [a]=>some a|some l=>some (.aL l)|none=>none)=some r) (k:R r S'):ad P w0 rd n (Xs P b R) (.out .ret []) α S:=by
 simp only[ad,dS];exact⟨rfl,S',r,c,d,k⟩
theorem zO.Yi {t:Target}{k:Nat}{i:Int}{a:List (Int × Unit)}(c:Se P t) (b:aH busy i=none) (d:a=iy busy i ()) (f:S.get k=some (.mp (ρ.h (dW ub) a))):zO P S [.del t k i] (S.set k (some (B7 ρ busy))):=by
 subst d;have e:IM (ρ.h (dW ub) (iy busy i ())) i=ρ.h (dW ub) busy:=by rw[ρ.eq,ρ.eq,yw b,Yh b]
 refine .del c f (by rw[ρ.eq];exact rq) ?_;rw[e];exact .nil
def zo (kn:KN):Prop:=∀C p,aH kn C=some p->(0<=p.1/\p.1<=201)/\0<=p.2/\p.2<=21
theorem zo.ins {r:Int}{q:Int × Int}(h:zo kn) (b:(0<=q.1/\q.1<=201)/\0<=q.2/\q.2<=21):zo (iy kn r q):=λC p a=>by
 rw[cQ]at a;split at a
 ·grind
 ·exact h C p a
theorem Bt {N:aS}{sh:List (Int × Int)}:∀(m:Nat) {busy:List (Int × Unit)}{r:Nat}{up b:List Nat}{kn d:KN}{o:Option (Int × Int)},m9 N sh m busy r up kn=some (o,b,d)->zo kn->zo d/\b.length=up.length/\∀q,o=some q->(0<=q.1/\q.1<=201)/\0<=q.2/\q.2<=21
 |0,_,_,_,_,_,_,_,h,_=>by cases h
 |m+1,busy,r,up,b,kn,d,o,h,a=>by
  have key:∀(l:List Nat) {busy:List (Int × Unit)}{up b:List Nat}{kn d:KN}{q:Int × Int}{o:Option (Int × Int)},qG (m9 N sh m busy) l up kn q=some (o,b,d)->zo kn->((0<=q.1/\q.1<=201)/\0<=q.2/\q.2<=21)->zo d/\b.length=up.length/\∀q,o=some q->(0<=q.1/\q.1<=201)/\0<=q.2/\q.2<=21:=by
   intro l
   induction l with
   |nil =>
    intro busy up b kn d q o h a n;simp only[qG,oI_,pI_]at h;obtain⟨rfl,rfl,rfl⟩:=h;exact⟨a,rfl,λg e=>by grind⟩
   |cons x l v =>
    intro busy up b kn d q o h a n;rw[qG]at h;split at h
    ·grind
    ·rename_i u c w;have A:=jz w;split at h
     ·grind
     ·rename_i y s f;obtain⟨t,z,_⟩:=Bt m f a;simp only[oI_,pI_]at h;obtain⟨rfl,rfl,rfl⟩:=h;exact⟨t,by omega,λg e=>by grind⟩
     ·rename_i p y s f;obtain⟨t,z,k3⟩:=Bt m f a;have k4:=k3 p rfl;obtain⟨i,k,j⟩:=v h t ⟨⟨by grind,by simp only;omega⟩,by simp only;omega,by simp only;omega⟩;exact⟨i,by omega,j⟩
  rw[m9]at h;split at h
  ·rename_i q n;simp only[oI_,pI_]at h;obtain⟨rfl,rfl,rfl⟩:=h;exact⟨a,rfl,λg e=>by obtain rfl:=oJ_ e;exact a _ _ n⟩
  ·split at h
   ·simp only[oI_,pI_]at h;obtain⟨rfl,rfl,rfl⟩:=h;exact⟨a,rfl,λg e=>by cases e⟩
   ·split at h
    ·simp only[oI_,pI_]at h;obtain⟨rfl,rfl,rfl⟩:=h;exact⟨a.ins (by decide),rfl,λg e=>by obtain rfl:=oJ_ e;decide⟩
    ·split at h
     ·split at h
      ·cases h
      ·split at h
       ·cases h
       ·rename_i u s f;obtain⟨i,k,j⟩:=key _ f a (by decide);simp only[oI_,pI_]at h;obtain⟨rfl,rfl,rfl⟩:=h;exact⟨i,k,λg e=>by cases e⟩
       ·rename_i q u s f;obtain⟨i,k,j⟩:=key _ f a (by decide);simp only[oI_,pI_]at h;obtain⟨rfl,rfl,rfl⟩:=h;exact⟨i.ins (j q rfl),k,λg e=>by obtain rfl:=oJ_ e;exact j q rfl⟩
     ·cases h
theorem NW {N:Nat}{sh:List (Int × Int)}(a:S.get 7=some (B7 ρ busy):=by rfl) (h0:S.get 0=some (gO nl ul):=by rfl) (h1:S.get 1=some (fS ρ Nd):=by rfl) (h2:S.get 2=some (bZ ρ vs):=by rfl) (h3:S.get 3=some (cI ρ up):=by rfl)
  (h4:S.get 4=some (fT ρ sh):=by rfl) (h5:S.get 5=some (bZ ρ ls):=by rfl) (h6:S.get 6=some (fU ρ kn):=by rfl):fO 8 [] N S (gX ρ nl ul Nd vs up sh ls kn++[(7,B7 ρ busy)]) :=
 ⟨.inl ⟨_,h0,.same (o6 (by omega))⟩,.inl ⟨_,h1,.same (mq _)⟩,.inl ⟨_,h2,.same (eK _)⟩,.inl ⟨_,h3,.same (fy _)⟩,.inl ⟨_,h4,.same (lQ _)⟩,.inl ⟨_,h5,.same (eK _)⟩,.inl ⟨_,h6,.same (lP _)⟩,.inl ⟨_,a,.same (λe b=>Pure.bm (fw (λ_=>.v) busy e b))⟩,trivial⟩
def gB (ρ:Hd) (nl ul:Nat) (N:aS) (vs:List (Int × Int)) (up:List Nat) (sh ls:List (Int × Int)) (kn:KN) (busy:List (Int × Unit)):List (Nat × Ob):=gX ρ nl ul N vs up sh ls kn++[(7,B7 ρ busy)]
theorem Es {sh:List (Int × Int)}{B:Nat}(h:7 < B):zm (gB ρ nl ul N vs up sh ls kn busy) B:=⟨λj o b=>by
 have a:=fp b;unfold gB at a;rcases az_.1 a with a|a
 ·have c:fb (gX ρ nl ul N vs up sh ls kn) j=some o:=by
   have:=I2 (ρ:=ρ) (nl:=nl) (ul:=ul) (N:=N) (vs:=vs) (up:=up) (sh:=sh) (ls:=ls) (kn:=kn) (j,o) a;exact this
  exact (dJ (by omega)).get j o c
 ·simp only[ad_,pI_,as_,or_false]at a;obtain⟨rfl,rfl⟩:=a;exact⟨h,(λe d=>Pure.bm (fw (λ_=>.v) busy e d)),λJ=>by simp[B7]⟩⟩
theorem Vk {sh:List (Int × Int)}(c:T.get 7=some (B7 ρ busy):=by rfl) (h0:T.get 0=some (gO nl ul):=by rfl) (h1:T.get 1=some (fS ρ N):=by rfl) (h2:T.get 2=some (bZ ρ vs):=by rfl) (h3:T.get 3=some (cI ρ up):=by rfl) (h4:T.get 4=some (fT ρ sh):=by rfl) (h5:T.get 5=some (bZ ρ ls):=by rfl) (h6:T.get 6=some (fU ρ kn):=by rfl):∀j o,fb (gB ρ nl ul N vs up sh ls kn busy) j=some o->T.get j=some o:=λj o b=>by
 have a:=fp b;unfold gB at a;rcases az_.1 a with a|a
 ·exact HE (h0:=h0) (h1:=h1) (h2:=h2) (h3:=h3) (h4:=h4) (h5:=h5) (h6:=h6) (j,o) a
 ·grind
theorem Vl {N:Nat}(h:7 < N) (d:Pure a):∀b ∈ [AV.pt 0 6 0 0,a,.mp 7],ec N b:=by
 intro b c;simp only[ad_,as_,or_false]at c;rcases c with rfl|rfl|rfl
 ·exact .pt (by omega)
 ·exact Pure.bm d
 ·exact .mp h
theorem Ed {B:Nat}{a b:Int}:h_ B (.arr 2 [[iv a,iv b]] 0 true):=λrow d x c=>by
 obtain rfl:=ae_.1 d;simp only[ad_,as_,or_false]at c;rcases c with rfl|rfl<;>exact .v
theorem afN {N:Nat}{sh:List (Int × Int)}{a b:Int}(c:S.get 8=some (.arr 2 [[iv 0,iv 0]] 0 true):=by rfl) (d:S.get 10=some (.arr 2 [[iv a,iv b]] 0 true):=by rfl) (f:S.get 7=some (B7 ρ busy):=by rfl) (h0:S.get 0=some (gO nl ul):=by rfl) (h1:S.get 1=some (fS ρ Nd):=by rfl) (h2:S.get 2=some (bZ ρ vs):=by rfl) (h3:S.get 3=some (cI ρ up):=by rfl)
  (h4:S.get 4=some (fT ρ sh):=by rfl) (h5:S.get 5=some (bZ ρ ls):=by rfl) (h6:S.get 6=some (fU ρ kn):=by rfl):fO 11 [] N S [(0,gO nl ul),(1,fS ρ Nd),(2,bZ ρ vs),(3,cI ρ up),(4,fT ρ sh),(5,bZ ρ ls),(6,fU ρ kn),(7,B7 ρ busy),(8,.arr 2 [[iv 0,iv 0]] 0 true),(10,.arr 2 [[iv a,iv b]] 0 true)] :=
 ⟨.inl ⟨_,h0,.same (o6 (by omega))⟩,.inl ⟨_,h1,.same (mq _)⟩,.inl ⟨_,h2,.same (eK _)⟩,.inl ⟨_,h3,.same (fy _)⟩,.inl ⟨_,h4,.same (lQ _)⟩,.inl ⟨_,h5,.same (eK _)⟩,.inl ⟨_,h6,.same (lP _)⟩,.inl ⟨_,f,.same (λe g=>Pure.bm (fw (λ_=>.v) busy e g))⟩,.inl ⟨_,c,.same Ed⟩,.inl ⟨_,d,.same Ed⟩,trivial⟩
theorem pv (o:Option (Int × Int)):Pure (DF o):=by
 cases o<;>(refine .aL λa b=>?_)<;>simp only[ad_,as_,or_false]at b<;>rcases b with rfl|rfl<;>first|exact xF _|exact .v
section
variable {w0:World}{ρ:Hd}
theorem afO {sh:List (Int × Int)}(hN:zW N) (H:nl=N.length) (jx:ul<=1099511627776):∀(m:Nat) {busy:List (Int × Unit)}{r:Nat}{up A:List Nat}{kn B:KN}{o:Option (Int × Int)},up.length=ul->zo kn->m9 N sh m busy r up kn=some (o,A,B) ->
  aG Tryz.prog w0 198 [.pt 0 6 0 0,iv r,.mp 7] (aq (gX ρ nl ul N vs up sh ls kn++[(7,B7 ρ busy)]) 8) (DF o) (aq (gX ρ nl ul N vs A sh ls B++[(7,B7 ρ busy)]) 8):=by
 intro m
 induction m with
 |zero=>intro busy r up A kn B o _ _ h;cases h
 |succ m ih =>
  intro busy r up A kn B o hu hk h;rw[m9]at h;obtain⟨C,P6⟩:∃C:Int,C=r:=⟨_,rfl⟩;rw[<-P6]at h ⊢;refine oc.aiq 8 8 _ ajv.2 (by simp[Tryz.ntmps198]) rfl rfl ?_;unfold gX;refine gq jC ?_;refine ad.look (ρ:=ρ) (f:=E9) (kv:=kn) rfl rfl rfl rfl (λq I=>?_) (λI=>?_)
  ·rw[I]at h;simp only[oI_,pI_]at h;obtain⟨rfl,rfl,rfl⟩:=h;refine gq jC ?_;exact Vj .nil rfl ⟨[],.aC (Pure.bm (pv (some q))),NW,rfl⟩
  rw[I]at h;simp only at h;refine gq jC ?_;refine ad.look (ρ:=ρ) (f:=ub) (kv:=busy) rfl rfl rfl rfl (λb e=>?_) (λe=>?_)
  ·rw[e]at h;simp only[oI_,pI_]at h;obtain⟨rfl,rfl,rfl⟩:=h;refine gq jC ?_;exact Vj .nil rfl ⟨[],.aC (Pure.bm (pv none)),NW,rfl⟩
  rw[e]at h;simp only at h;refine gq jC ?_;refine ad.oD (ρ:=ρ) (f:=ub) (kv:=busy) (v:=()) rfl rfl rfl rfl rfl (λd D=>?_);refine gq jC ?_;refine ad.aeD rfl rfl rfl rfl rfl rfl rfl rfl rfl rfl rfl rfl rfl rfl rfl rfl rfl rfl rfl (λt J=>?_);refine gq jC ?_;refine ad.look (ρ:=ρ) (f:=iv) (kv:=sh) rfl rfl rfl rfl (λk K=>?_) (λK=>?_)
  ·rw[K]at h;simp only at h;split at h;rotate_left
   ·cases h
   rename_i h00;obtain⟨V,C9⟩:∃n:Nat,n=k.toNat:=⟨_,rfl⟩;rw[<-C9]at h;split at h
   ·cases h
   rename_i t0 l L;have q2:k=(V:Int):=by omega
   have g2:=hN _ _ _ L;have i2:V < nl:=by rw[H];exact (ar_.1 L).1
   have M:=bW (ρ:=ρ) (f:=vQ ρ) L;rw[vQ]at M;simp only at M;have hpu:Pure (aR ρ c8 false l):=dT λx _ a ha=>by
    obtain rfl:=ae_.1 ha;exact .v
   rw[<-D]at h;obtain⟨O,W⟩:∃O,O=qG (m9 N sh m d) l up kn (1,1):=⟨_,rfl⟩;rw[<-W]at h;refine gq jC ?_;refine ad.op rfl (ae.dg rfl rfl q2 i2) ?_;refine ad.op rfl (ae.quiet rfl) ?_;refine og jC (ae.fk rfl rfl M rfl) ?_;refine ad.int rfl (ae.len rfl) λq GJ=>?_;rw[au]at GJ;refine gq jC ?_
   refine ad.aK (σ:=Int × List Nat × KN × (Int × Int)) 11 11 [] (λp=>[(0,.pt 0 6 0 0),(1,iv C),(2,.mp 7),(6,.pt 8 2 0 0),(7,.v (.bool false)),(10,.pt 10 2 0 0),(54,aR ρ c8 false l),(55,iv q),(56,iv p.1)]) [.del t 7 C]
    (λp=>[(0,gO nl ul),(1,fS ρ N),(2,bZ ρ vs),(3,cI ρ p.2.1),(4,fT ρ sh),(5,bZ ρ ls),(6,fU ρ p.2.2.1),(7,B7 ρ d),(8,.arr 2 [[iv 0,iv 0]] 0 true),(10,.arr 2 [[iv p.2.2.2.1,iv p.2.2.2.2]] 0 true)])
    (λp=>∃i:Nat,p.1=i/\i<=l.length/\p.2.1.length=ul/\zo p.2.2.1/\((0<=p.2.2.2.1/\p.2.2.2.1<=201)/\0<=p.2.2.2.2/\p.2.2.2.2<=21)/\qG (m9 N sh m d) (l.drop i) p.2.1 p.2.2.1 p.2.2.2=O) (λp=>l.length - p.1.toNat)
    (0,up,kn,(1,1)) ⟨0,rfl,by simp,hu,hk,by simp only;decide,by simpa using W.symm⟩ rfl (by exact⟨sq,rfl,afN,rfl,rfl,rfl⟩) ?_
   rintro⟨ii,jw,j,⟨P,E⟩⟩ ⟨i,X,vB,Q,R,⟨⟨b1,b2⟩,b3,b4⟩,c⟩;simp only at X vB Q R b1 b2 b3 b4 c;refine gq jC ?_;refine cn (λbf=>?_) λbf=>?_
   ·have S:i < l.length:=by omega
    obtain⟨x,Y⟩:∃x,l[i]?=some x:=⟨_,ai_ S⟩;obtain⟨xa,xb⟩:=ar_.1 Y;rw[bq_ xa,xb,qG]at c;split at c
    ·subst c;cases h
    rename_i F cl Z;have T:=Ai (w0:=w0) (ρ:=ρ) (s:=⟨N,vs,⟨jw,sh,ls⟩⟩) (kn:=j) (by simp only;omega) Z;have mH:F.length=ul:=by rw[jz Z,Q]
    simp only at T;rw[<-jq H Q,<-jq H mH]at T;refine gq jC ?_;refine og jC (ae.ind rfl rfl (aB (l:=l) X Y) (aA λ_=>rfl)) ?_;refine ad.op rfl (ae.iA T rfl (aq_ rfl) (dJ (by decide)) (oq) (dJ (by decide)) (s8 (by decide) .v) .v) ?_;obtain⟨u,y,G,z⟩:∃u y G,m9 N sh m d cl F j=some (u,y,G):=by
     cases z:m9 N sh m d cl F j with
     |none=>rw[z]at c;simp only at c;subst c;cases h
     |some w=>exact⟨w.1,w.2.1,w.2.2,rfl⟩
    rw[z]at c;obtain⟨k3,l3,p3⟩:=Bt m z R;have c2:aG Tryz.prog w0 198 [.pt 0 6 0 0,iv cl,.mp 7] (aq (gB ρ nl ul N vs F sh ls j d) 8) (DF u) (aq (gB ρ nl ul N vs y sh ls G d) 8):=ih mH R z;have vS:y.length=ul:=by omega
    refine gq jC ?_;refine ad.op rfl (ae.iA c2 rfl (aq_ rfl) (Es (by decide)) (Vk) (Es (by decide)) (Vl (by decide) .v) (Pure.bm (pv u))) ?_;cases u with
    |none =>
     simp only at c;subst c;simp only[oI_,pI_]at h;obtain⟨rfl,rfl,rfl⟩:=h;rw[DF];refine gq jC ?_;refine ad.bh ?_;refine gq jC ?_;exact Vj (zO.Yi J e D rfl) rfl ⟨[],.aC (Pure.bm (pv none)),NW,rfl⟩
    |some pq =>
     obtain⟨q3,q4⟩:=pq;obtain⟨⟨d1,d2⟩,d3,d4⟩:=p3 _ rfl;simp only at c d1 d2 d3 d4;rw[DF];refine gq jC ?_;refine ag jC λa1 dD=>?_;refine ig jC (ae.min (k:=.i64) (a:=a1) (b:=201) rfl rfl) λa2 eO=>?_;refine ag jC λa3 fc=>?_;refine ig jC (ae.max (k:=.i64) (a:=E) (b:=a3) rfl rfl) λa4 ha4=>?_;refine ig jC (ae.min (k:=.i64) (a:=a4) (b:=21) rfl rfl) λa5 NY=>?_;refine ag jC λi3 de=>?_;have e1:a2=min (P+q3) 201:=by omega
     have e2:a5=min (max E (q4+1)) 21:=by omega
     refine ad.az (σ:=Int × List Nat × KN × (Int × Int)) (i3,y,G,(a2,a5)) [] ⟨i+1,by simp only;omega,by omega,vS,k3,⟨⟨by simp only;omega,by simp only;omega⟩,by simp only;omega,by simp only;omega⟩,by rw[e1,e2];exact c⟩ ?_ (by exact⟨sq,rfl,afN,rfl,rfl,rfl⟩);simp only;omega
   ·have S:i=l.length:=by omega
    rw[S,aA_ (ac_ _),qG]at c;subst c;simp only[oI_,pI_]at h;obtain⟨rfl,rfl,rfl⟩:=h;refine gq jC ?_;refine ad.ao ?_;refine gq jC ?_;refine ad.K0 (ρ:=ρ) (f:=E9) (kv:=j) (v:=(P,E)) rfl rfl rfl rfl rfl (λHk U=>?_);rw[<-U];refine gq jC ?_;exact Vj (zO.Yi J e D rfl) rfl ⟨[],.aC (Pure.bm (pv (some (P,E)))),NW,rfl⟩
  ·rw[K]at h;simp only[oI_,pI_]at h;obtain⟨rfl,rfl,rfl⟩:=h;refine gq jC ?_;refine ad.K0 (ρ:=ρ) (f:=E9) (kv:=kn) (v:=((1:Int),(1:Int))) rfl rfl rfl rfl rfl (λHk U=>?_);rw[<-U];refine gq jC ?_;exact Vj (zO.Yi J e D rfl) rfl ⟨[],.aC (Pure.bm (pv (some (1,1)))),NW,rfl⟩
end
end
section
attribute [local irreducible] ah aG ae ad
def ajw:FQ 234 Tryz.f234:=aF Tryz.func234 Tryz.call234
def xK:List Nat:=[8,0,5,4,7,9,1,16]
def ajx:FQ 193 Tryz.f193:=aF Tryz.func193 Tryz.call193
def Yj:List Nat:=[4,0,1]
def ajy:FQ 194 Tryz.f194:=aF Tryz.func194 Tryz.call194
def afQ:List Nat:=[2,0,1]
def ajz:FQ 134 Tryz.f134:=aF Tryz.func134 Tryz.call134
def afR:List Nat:=[2,0]
section
variable {w0:World}{ρ:Hd}
theorem afS (p:Tm->Bool) (l:List Tm) (gid:FuncId) (fs cs:List AV) (o:l.length<=1099511627776) (q:Pure (.fn (.func gid) fs cs)) (h:∀x ∈ l,JH Tryz.prog w0 (.fn (.func gid) fs cs) [tm ρ x] (p x)):ah Tryz.prog w0 234 [tl ρ l,.fn (.func gid) fs cs] (iv (ew p l 0)):=by
 obtain⟨R,c⟩:∃R,R=ew p l 0:=⟨_,rfl⟩;rw[<-c];refine st ajw xK .v ?_
 repeat' (first
  |refine lg xK λm r=>?_
  )
 refine ad.aK (σ:=Int) 0 0 [] (λi=>[(0,tl ρ l),(1,.fn (.func gid) fs cs),(7,.v (.int .i64 m)),(8,.v (.int .i64 i))]) [] (λ_=>[])
  (λi=>∃k:Nat,i=k/\k<=l.length/\R=ew p (l.drop k) k) (λi=>l.length - i.toNat) 0 ⟨0,rfl,by simp,by grind⟩ rfl cz ?_
 rintro i ⟨k,f,s,a⟩;clear c;refine gq xK ?_;by_cases g:k < l.length
 ·obtain⟨x,d,j⟩:=aD g;rw[j,ew]at a;have n:=h x (bM d)
  repeat' (first
   |refine og xK (ae.ind rfl rfl (cC (l:=l) f d) cD) ?_
   |refine bg xK (ae.fnB rfl rfl n) (λ_=>?_) λ_=>?_
   |refine cg xK (λb=>?_) λb=>?_
   |refine ag xK λ_ _=>?_
   |refine ad.ao ?_;refine gq xK ?_
   |refine ad.bh ?_;refine gq xK ?_
   |(refine fq ?_))
  all_goals first
   |rw[if_pos (by grind)]at a;refine dP ?_;omega
   |(rw[if_neg (by grind)]at a
     refine ad.az (σ:=Int) _ [] ?_ ?_ cz
     ·grind
     ·omega)
   |exfalso;omega
 ·skip
  repeat' (first
   |refine cg xK (λb=>?_) λb=>?_
   |refine ad.ao ?_;refine gq xK ?_
   |(refine fq ?_))
  all_goals first
   |exfalso;omega
   |rw[a,ak_ (by omega)];exact dP rfl
theorem afT (p:Tm->Bool) (l:List Tm) (gid:FuncId) (fs cs:List AV) (c:l.length<=1099511627776) (d:Pure (.fn (.func gid) fs cs)) (h:∀x ∈ l,JH Tryz.prog w0 (.fn (.func gid) fs cs) [tm ρ x] (p x)):ah Tryz.prog w0 193 [tl ρ l,.fn (.func gid) fs cs] (.v (.bool (l.any p))):=by
 have a:=afS (w0:=w0) (ρ:=ρ) p l gid fs cs c d h;have b:=w_ p l 0;obtain⟨j,e⟩:∃j,j=ew p l 0:=⟨_,rfl⟩;rw[<-e]at a b;refine st ajx Yj .v ?_
 repeat' (first
  |refine ig Yj (pl a) λ_ _=>?_
  |refine cg Yj (λf=>?_) λf=>?_
  |(refine fq ?_))
 all_goals (subst_vars;refine bY ?_;rw[<-b];simp_all)
theorem afU {f:FuncId}:Wk (.v (.func (.func f) #[] #[])) (.fn (.func f) [] []):=λg w x b=>by
 obtain rfl:=b_ b;exact .fn rfl rfl (λi a y h=>by grind) (λi a y h=>by grind)
theorem Vn (x:Tm) (a:x.ok):ah Tryz.prog w0 194 [tm ρ x] (.v (.bool (!(cd x)))):=by
 have h:=abI (w0:=w0) (ρ:=ρ) x a;obtain⟨R,b⟩:∃R,R=cd x:=⟨_,rfl⟩;rw[<-b]at h ⊢;refine st ajy afQ .v ?_
 repeat' (first
  |refine bg afQ (pl h) (λ_=>?_) λ_=>?_
  |(refine fq ?_))
 all_goals (refine bY ?_;simp_all)
theorem acm (x:Tm) (a:x.ok):JH Tryz.prog w0 (.fn (.func 194) [] []) [tm ρ x] (!(cd x)):=⟨_,_,rfl,⟨bQ x,trivial⟩,Vn x a⟩
theorem NZ (l:List Tm) (c:l.length<=1099511627776) (d:∀x ∈ l,x.ok):ah Tryz.prog w0 134 [tl ρ l] (.v (.bool (!(l.any λx=>!(cd x))))):=by
 obtain⟨R,e⟩:∃R,R=(l.any λx=>!(cd x)):=⟨_,rfl⟩;have b:=afT (w0:=w0) (ρ:=ρ) (λx=>!(cd x)) l 194 [] [] c (.fn (λa h=>by grind) (λa h=>by grind)) (λx f=>acm x (d x f));rw[<-e]at b ⊢;refine st ajz afR .v ?_
 repeat' (first
  |refine bg afR (ae.oZ rfl b ⟨cG _,.fn (λa h=>by grind) (λa h=>by grind),trivial⟩ ⟨.refl _,afU,trivial⟩) (λ_=>?_) λ_=>?_
  |(refine fq ?_))
 all_goals (refine bY ?_;simp_all)
end
end
section
open Go.RowKit Go.Maps Go.Sort Go.Shelf
theorem N0 {H:Type}(x:Lit × DataW H):∀l,(DataW.insert x l).Perm (x::l)
 |[]=>.refl _
 |y::r=>by
  rw[DataW.insert];split
  ·exact .refl _
  ·exact ((N0 x r).cons y).trans (.swap x y r)
theorem DG {H:Type}:∀l:List (Lit × DataW H),(l.foldr DataW.insert []).Perm l
 |[]=>.refl _
 |x::l=>by rw[List.foldr_cons];exact (N0 x _).trans ((DG l).cons x)
def N4:Value->Option (DataW Unit × List MemPlace):=λ_=>some (.nil,[])
theorem afV {w:World}{b:Nat}{c:TypeId}{entries:Array MapEntry}{ks:List Int}(k:P.underlying c=some (.int .i64)) (h1:w.heap[b]?=some (.map entries entries.size)) (l:entries.size=ks.length)
  (m:∀(i:Nat) (x:Int),ks[i]?=some x->∃e:MapEntry,entries[i]?=some e/\e.key=encZ x) (u:∀(i:Nat) (e:MapEntry),entries[i]?=some e->e.born=i) (y:ks.Nodup) (n:∀x ∈ ks,(Lit.int .i64 x).wf=true) (A:ks.length<=maxLen) :
  ∃D:DataW Unit,w.ownsMap P c N4 b ks.length D/\(intKeys D).Perm ks/\Maps.size D=ks.length:=by
 have h:entries.toList.map (·.key)=ks.map encZ:=by
  apply dd_;intro i;rw[aS_,aS_,bd_];cases a:ks[i]? with
  |none =>
   have:entries[i]?=none:=by grind
   rw[this];rfl
  |some x =>
   obtain⟨e,d,f⟩:=m i x a;rw[d,aE_,aE_,f]
 have o:entries.toList.map (·.born)=List.range entries.size:=by
  apply dd_;intro i;rw[aS_,bd_];by_cases B:i < entries.size
  ·grind
  ·grind
 have j:∀x ∈ entries.toList,∃z,x.key=encZ z/\z ∈ ks:=λx a=>by
  have:x.key ∈ entries.toList.map (·.key):=av_.2 ⟨x,a,rfl⟩;rw[h]at this;obtain⟨z,g,e⟩:=av_.1 this;exact⟨z,e.symm,g⟩
 have q:∀x ∈ entries.toList,∀z,x.key=encZ z->WideElems.rd P c N4 x=some (.int .i64 z,.nil):=λx a z g=>by
  obtain⟨r,d,f⟩:=j x a;obtain rfl:z=r:=encZ_inj (by grind);unfold WideElems.rd;rw[g,keyOf_int_mk k (n z f)]
  rfl
 have s:WideElems.Fit P c N4 entries entries.size:=by
  refine⟨by omega,⟨λx a=>?_,?_,?_⟩,λx a=>?_⟩
  ·have:x.born ∈ entries.toList.map (·.born):=av_.2 ⟨x,a,rfl⟩;rw[o]at this;exact aI_.1 this
  ·grind
  ·grind
  ·grind
 refine⟨_,⟨entries,entries.size,h1,s,by omega,rfl⟩,?_,?_⟩
 ·show (((entries.toList.map (WideElems.rg P c N4)).foldr DataW.insert []).map λp=>Go.intOf p.1).Perm ks;refine ((DG _).map _).trans ?_;rw[bl_];have:entries.toList.map ((λp=>Go.intOf p.1) ∘ WideElems.rg P c N4)=ks:=by
   have t:entries.toList.map ((λp=>Go.intOf p.1) ∘ WideElems.rg P c N4)=(entries.toList.map (·.key)).map λv=>match v with|.int _ z=>z|_=>0:=by
    rw[bl_];refine aF_ λx a=>?_;obtain⟨z,d,f⟩:=j x a;simp only[Function.comp];unfold WideElems.rg;rw[q x a z d,d]
    rfl
   rw[t,h,bl_];conv=>rhs;rw[<-List.map_id ks]
   exact aF_ λx _=>rfl
  rw[this]
 ·show ((entries.toList.map (WideElems.rg P c N4)).foldr DataW.insert []).length=ks.length;rw[(DG _).length_eq,aU_,bh_,l]
theorem vD:∀{l:List Int},l.Pairwise (λa b=>a<=b)->l.Nodup->tv l
 |[],_,_=>trivial
 |x::l,h,c=>by
  rw[bP_]at h;rw[bu_]at c;refine⟨λy d=>?_,vD h.2 c.2⟩;have:=h.1 y d;have:x ≠ y:=λe=>c.1 (by grind);omega
theorem Yl {d ks:List Int}(e:d.Perm ks) (f:ks.Nodup) (g:tv L) (j:∀v,v ∈ L ↔ v ∈ ks):d.mergeSort (λx y=>decide (x<=y))=L:=by
 have i:=(dA_ d (λx y=>decide (x<=y))).trans e;refine FD (vD ?_ (i.nodup_iff.2 f)) g λx=>?_
 ·have:=dB_ (le:=λx y:Int=>decide (x<=y)) (λa b c k l=>by grind) (λa b=>by grind) d;exact this.imp λh=>by grind
 ·grind
section
variable {w0:World}{ρ:Hd}
theorem afW (m:Nat):AnyZI.SortsIn Tryz.prog Tryz.Fe Fence.wide m :=
 ⟨λyb off cap a W b c d=>callsIn_wide.2 (AnyM.slices_Sort_int Tryz.aaD yb off cap a W b c d),
  λp cap W=>callsIn_wide.2 (AnyM.slices_Sort_int_none Tryz.aaD p cap W)⟩
theorem Ym {kb km:Nat}(Z:S.get kb=some (.arr 1 [[.mp km]] 0 ex)) (s:S.get km=some (bZ ρ vs)) (U:(vs.map (·.1)).Nodup) (hr:∀x ∈ vs.map (·.1),0<=x/\x<=1099511627776) (hl:vs.length<=1000000000000) (hL:tv L) (hm:∀v,v ∈ L ↔ v ∈ vs.map (·.1)) :
  aG Tryz.prog w0 199 [.fn (.func 237) [] [.pt kb 1 0 0]] S (aR ρ aI false L) S:=by
 refine⟨Tryz.call199,λF m A g d w hF t hA=>?_⟩;obtain⟨v0,u,Qv⟩:∃v0,d=#[v0]/\aN g w (.fn (.func 237) [] [.pt kb 1 0 0]) v0:=by
  obtain⟨f,k⟩:=hA;have y:d.size=1:=f;refine⟨d[0],?_,k 0 _ _ rfl (aG_ (by omega))⟩;apply Array.ext (by grind);intro i hi B;have:i=0:=by omega
  subst this
  rfl
 obtain⟨V,C,rfl,jO,uB⟩:=Cm Qv;obtain rfl:V=#[]:=Array.eq_empty_of_size_eq_zero jO.1;obtain⟨p,hp,yG⟩:∃p,C=#[p]/\aN g w (.pt kb 1 0 0) p:=by
  obtain⟨f,k⟩:=uB;have y:C.size=1:=f;refine⟨C[0],?_,k 0 _ _ rfl (aG_ (by omega))⟩;apply Array.ext (by grind);intro i hi B;have:i=0:=by omega
  subst this
  rfl
 subst hp u;obtain⟨rfl,aT⟩:p=.pointer (some ⟨g.ob kb,0*1+0,none⟩)/\g.al kb:=by cases yG with|pt hk=>exact⟨rfl,hk⟩
 obtain⟨bA,E,V,ty,b1,b2,b3,b4,b5,b6,b7⟩:=t.cT kb _ Z aT;obtain⟨x,G,fm⟩:=(b5 0 _ rfl).2 0 _ rfl;obtain⟨rfl,H⟩:=sI fm;obtain⟨mA,mlt,I⟩:=t.cT km _ s H;obtain⟨entries,m1,m2,W,m4⟩:=I;rw[ρ.eq]at m2 W;have hlen:entries.size=(vs.map (·.1)).length:=by grind[dW]
 obtain⟨D,J,K,K2⟩:=afV (ks:=vs.map (·.1)) Tryz.underlying3 m1 hlen (λi z r=>by
   rw[aS_,ba_]at r;obtain⟨q,hq,rfl⟩:=r;obtain⟨e,k,y,_⟩:=W i (c_ q.1) (iv q.2) (by grind[dW]);exact⟨e,k,y⟩) m4 U (λz r=>by
   have:=hr z r;have e1:IntKind.i64.min=-9223372036854775808:=by decide
   have e2:IntKind.i64.max=9223372036854775807:=by decide
   simp only[Lit.wf,e1,e2,al_,decide_eq_true_eq]
   omega) (by rw[aU_];have:maxLen=9223372036854775807:=by decide
              omega)
 have pF:w.cell? ⟨g.ob kb,0,none⟩=some (.map (some (g.ob km))):=by
  simp only[World.cell?,b1];simpa using G
 have M:SeqGives Fence.wide 2 Tryz.prog 237 #[.pointer (some ⟨g.ob kb,0,none⟩)] encZ (λN=>N.Perm (intKeys D)) (Maps.size D) w :=
  AnyZI.keys_gives (ρ:=Tryz.Ke) { Tryz.ajB with } Fence.wide _ trivial rfl (by omega) (g.ob kb) (g.ob km) _ D w E pF J
 have arI:maxLen=9223372036854775807:=by decide
 have cS:=AnyZI.sorted_in Tryz.acn Fence.wide 5 trivial trivial trivial trivial rfl (by omega) (afW _) (enters_of Tryz.func236 (by kernel_rfl) rfl) 237 #[.pointer (some ⟨g.ob kb,0,none⟩)] trivial (enters_of Tryz.func237 (by kernel_rfl) rfl) _ (Maps.size D) (by grind) (by grind) w M;refine CallsIn.Yn hF ((callsIn_wide.1 cS).mono ?_);rintro e O ⟨v,N,rfl,P,Q,wV,hb⟩;obtain⟨hE,eC⟩:=t.below hb;have l:=Yl (P.trans K) U hL hm;rw[l]at Q;have uO:N.length=L.length:=by rw[<-l,dC_]
 rw[uO]at Q;refine⟨v,_,rfl,?_,eC,hE⟩;rw[bX];rcases Q.2 with ⟨rfl,h0⟩|⟨X,cap,R,rfl,q1,q2,q3,q4,q5,q6⟩
 ·obtain rfl:L=[]:=List.eq_nil_of_length_eq_zero h0;exact .nil (λh=>by grind)
 ·by_cases dm:L=[]
  ·grind
  ·have T:L.map aI ≠ []:=by grind
   have eZ:∀i (h:i < L.length),O.cell? ⟨X,i,none⟩=some (.int .i64 L[i]):=λi h=>by
    simp only[World.cell?,q2];have f:(R.toList.take (L.length*1))[i]?=(L.map encZ)[i]?:=by grind
    rw[List.getElem?_take_of_lt (by omega),bd_,aS_,ai_ h,aE_]at f;rw[f]
    rfl
   have:=aN.sl (g:=⟨g.ob,g.cp,g.al,λb q=>g.fz b q\/(w.heap.size<=b/\b < O.heap.size),g.fo⟩) (w:=O) (ex:=false) (rows:=L.map aI) (b:=X) (o:=0) (sz:=1) (c:=cap) (val:=λi j=>.int .i64 (L.getD i 0)) T (λh=>by grind) (by grind) ?_ ?_ ?_
   ·grind
   ·intro i row n;simp only[aS_,ba_]at n;obtain⟨x,_,rfl⟩:=n
    rfl
   ·grind[aI]
   ·intro i j row a n Y;simp only[aS_,ba_]at n;obtain⟨x,G,rfl⟩:=n;have B:j=0:=by grind[aI]
    subst B;simp only[aI,cw_,oI_]at Y;subst Y;rw[List.getD_eq_getElem?_getD,G];exact .v
end
end
section
attribute [local irreducible] ah aG ae ad
def ajC:FQ 204 Tryz.f204:=aF Tryz.func204 Tryz.call204
def afX:List Nat:=[4,5,0,1,2,3]
def ajD:FQ 145 Tryz.f145:=aF Tryz.func145 Tryz.call145
def Yo:List Nat:=[6,4,0,1,2,3]
theorem Et (x:Tm) :Wk (.sl ex [je ρ x]) (tl ρ [x]):=by grind[tl,bX,pM,Wk.sl]
section
variable {w0:World}{ρ:Hd}
theorem uh {l r:List Tm}{cc:Int}(a:Pure (.aL [.sl ex rows,iv cc])) (h:aG Tryz.prog w0 79 [tl ρ l,tl ρ r] (aq [] 0) (.aL [.sl ex rows,iv cc]) (aq [] 0)):ah Tryz.prog w0 79 [tl ρ l,tl ρ r] (.aL [.sl ex rows,iv cc]) :=
 ah.zM (S':=aq [] 0) h (.refl _) a
theorem aco {a b:Tm}{cc:Int}(c:Pure (.aL [.sl ex rows,iv cc])) (h:ah Tryz.prog w0 79 [tl ρ [a],tl ρ [b]] (.aL [.sl ex rows,iv cc])):ah Tryz.prog w0 204 [tm ρ a,tm ρ b] (.aL [.sl ex rows,iv cc]):=by
 refine st ajC afX c ?_;refine og afX (ae.oZ rfl h ⟨cG _,cG _,trivial⟩ ⟨Et a,Et b,trivial⟩) ?_;refine fq ?_;exact .refl _
theorem Pt {a b:Tm}{cc:Int}(h:ah Tryz.prog w0 204 [tm ρ a,tm ρ b] (.aL [.sl ex rows,iv cc])):ah Tryz.prog w0 145 [tm ρ a,tm ρ b] (.v (.bool (decide (cc=0\/cc=6)))):=by
 obtain⟨R,c⟩:∃R,R=decide (cc=0\/cc=6):=⟨_,rfl⟩;rw[<-c];refine st ajD Yo .v ?_;apply bK Yo h
 repeat' (first
  |refine cg Yo (λd=>?_) λd=>?_
  |(refine fq ?_))
 all_goals (refine bY ?_;rw[c];simp_all)
end
end
section
attribute [local irreducible] ah aG ae ad
def ajE:FQ 161 Tryz.f161:=aF Tryz.func161 Tryz.call161
def rf:List Nat:=[5,0,4,12,1,34]
def ajF:FQ 162 Tryz.f162:=aF Tryz.func162 Tryz.call162
def zp:List Nat:=[6,0,5,4,13,1,51]
def pw (ρ:Hd) (x:Tm × List Nat):List AV:=[iv x.1.k,iv x.1.i,.v (.string x.1.n),aR ρ c8 false x.2]
def ij (ρ:Hd) (N:aS):Ob:=.arr 4 (ρ.h (List.map (pw ρ)) N) 0 false
def yO (i j nl ul:Nat):Ob:=.arr 2 [[.gr i 4 nl,.gr j 1 ul]] 0 true
def rO (nl ul:Nat):Ob:=.arr 2 [[.gr 1 4 nl,.gr 2 1 ul]] 0 true
def rX (ρ:Hd) (nl ul:Nat) (N:aS) (cl:List Nat):List (Nat × Ob):=[(0,rO nl ul),(1,ij ρ N),(2,cI ρ cl)]
section
variable {ρ:Hd}{B:Nat}
theorem sw (h:2 < B):h_ B (rO nl ul):=λrow c a b=>by
 obtain rfl:=ae_.1 c;simp only[ad_,as_,or_false]at b;rcases b with rfl|rfl
 ·exact .gr (by omega)
 ·exact .gr (by omega)
theorem F9 (x:Tm × List Nat):∀a ∈ pw ρ x,Pure a:=by
 intro a b;simp only[pw,ad_,as_,or_false]at b;rcases b with rfl|rfl|rfl|rfl
 ·exact .v
 ·exact .v
 ·exact .v
 ·exact dT λx _ a b=>by
   obtain rfl:=ae_.1 b;exact .v
theorem Bu (N:aS):∀row ∈ ρ.h (List.map (pw ρ)) N,∀a ∈ row,Pure a:=by
 rw[ρ.eq];intro row b a c;obtain⟨x,_,rfl⟩:=av_.1 b;exact F9 x a c
theorem nj (N:aS):h_ B (ij ρ N):=λrow b a c=>Pure.bm (Bu N row b a c)
theorem gz (h:2 < B):zm (rX ρ nl ul N cl) B:=⟨λj o a=>by
 unfold rX at a;have:=fp a;simp only[ad_,pI_,as_,or_false]at this;rcases this with ⟨rfl,rfl⟩|⟨rfl,rfl⟩|⟨rfl,rfl⟩
 ·grind[sw,rO]
 ·grind[nj,ij]
 ·exact⟨by omega,fy _,λJ=>by simp[cI]⟩⟩
theorem Q2:∀p ∈ rX ρ nl ul N cl,fb (rX ρ nl ul N cl) p.1=some p.2:=by
 intro p a;unfold rX at a ⊢;simp only[ad_,as_,or_false]at a;rcases a with rfl|rfl|rfl<;>rfl
theorem xL (h0:T.get 0=some (rO nl ul):=by rfl) (h1:T.get 1=some (ij ρ N):=by rfl) (h2:T.get 2=some (cI ρ cl):=by rfl):iC T (rX ρ nl ul N cl):=by
 intro p a;unfold rX at a;simp only[ad_,as_,or_false]at a;rcases a with rfl|rfl|rfl<;>assumption
theorem Ak (h0:T.get 0=some (rO nl ul):=by rfl) (h1:T.get 1=some (ij ρ N):=by rfl) (h2:T.get 2=some (cI ρ cl):=by rfl):∀j o,fb (rX ρ nl ul N cl) j=some o->T.get j=some o:=λj o a=>xL (h0:=h0) (h1:=h1) (h2:=h2) (j,o) (fp a)
theorem rC {M N:Nat}(a:2 < M:=by decide) (h0:S.get (eM M (aU []) 0)=some (rO nl ul):=by rfl) (h1:S.get (eM M (aU []) 1)=some (ij ρ Nd):=by rfl) (h2:S.get (eM M (aU []) 2)=some (cI ρ cl):=by rfl):fO M [] N S (rX ρ nl ul Nd cl) :=
 ⟨.inl ⟨_,h0,.same (sw a)⟩,.inl ⟨_,h1,.same (nj _)⟩,.inl ⟨_,h2,.same (fy _)⟩,trivial⟩
end
theorem qy {N:Nat}(h:0 < N) (d:Pure a):∀b ∈ [AV.pt 0 2 0 0,a],ec N b:=by
 intro b c;simp only[ad_,as_,or_false]at c;rcases c with rfl|rfl
 ·exact .pt h
 ·exact Pure.bm d
theorem afY {c:AV}{N:Nat}(h:0 < N) (e:Pure a) (f:Pure c):∀b ∈ [AV.pt 0 2 0 0,a,c],ec N b:=by
 intro b d;simp only[ad_,as_,or_false]at d;rcases d with rfl|rfl|rfl
 ·exact .pt h
 ·exact Pure.bm e
 ·exact Pure.bm f
theorem HT:∀j,j < 3->∃o,fb (rX ρ nl ul N cl) j=some o:=λj a=>by
 rcases (show j=0\/j=1\/j=2 by omega) with rfl|rfl|rfl<;>exact⟨_,rfl⟩
def tG:Option Nat->Int
 |none=>-1
 |some s=>s
theorem tc {t:Tm}{l:List Nat}(h:N[i]?=some (t,l)):tn N i=t/\ks N i=l:=by grind[tn,ks]
theorem kV {z:Nat}(h:cl[i]?=some z):bT cl i=z:=by grind[bT]
theorem wo (h:i < n):(List.range n).drop i=i::(List.range n).drop (i+1):=by
 have a:(List.range n)[i]?=some i:=List.getElem?_range h;obtain⟨b,c⟩:=ar_.1 a;rw[bq_ b,c]
section
variable {w0:World}{ρ:Hd}
theorem Al (C:Nat) (D:nl=N.length) (E:ul=nl) (F:cl.length=ul) (G:nl<=1099511627776) :
  aG Tryz.prog w0 161 [.pt 0 2 0 0,iv C] (aq (rX ρ nl ul N cl) 3) (iv (tG (cM N cl C))) (aq (rX ρ nl ul N cl) 3):=by
 obtain⟨r,d⟩:∃r,r=tG (cM N cl C):=⟨_,rfl⟩;rw[<-d];unfold cM at d;obtain⟨g,j⟩:∃g:Int,g=C:=⟨_,rfl⟩;rw[<-j];refine sc 3 3 ajE ?_;unfold rX;refine gq rf ?_
 refine ad.aK (σ:=Int) 3 3 [] (λp=>[(0,.pt 0 2 0 0),(1,iv g),(5,iv p)]) [] (λp=>[(0,rO nl ul),(1,ij ρ N),(2,cI ρ cl)])
  (λp=>∃i:Nat,p=i/\i<=nl/\r=tG (((List.range nl).drop i).find? λi=>decide (bT cl i=C) && decide ((tn N i).k ≠ 1))) (λp=>nl - p.toNat) 0 ⟨0,rfl,by simp,by grind⟩ rfl cz ?_
 rintro ii ⟨i,k,H,a⟩;clear d;refine gq rf ?_;refine ig rf (ae.iz rfl) λe I=>?_;refine cn (λv=>?_) λv=>?_
 ·have b:i < nl:=by omega
  have w:i < ul:=by omega
  obtain⟨z,o⟩:∃z,cl[i]?=some z:=⟨_,ai_ (by omega)⟩;obtain⟨⟨t,J⟩,q⟩:∃x,N[i]?=some x:=⟨_,ai_ (by omega)⟩;have c:=bW (ρ:=ρ) (f:=pw ρ) q;rw[pw]at c;simp only at c;rw[wo b,df_,kV o,(tc q).1]at a;obtain⟨K,L,M,O⟩:=t;simp only at a c;obtain⟨s,y⟩:∃s:Int,s=z:=⟨_,rfl⟩;have u:=bW (ρ:=ρ) (f:=c8) o;rw[c8,<-y]at u;refine gq rf ?_;refine ad.op rfl (ae.dg rfl rfl k w) ?_;refine og rf (ae.fk rfl rfl u rfl) ?_;refine cn (λA=>?_) λA=>?_
  ·rw[decide_eq_true (show z=C by omega),aL_]at a;refine gq rf ?_;refine ad.op rfl (ae.dg rfl rfl k b) ?_;refine ad.op rfl (ae.quiet rfl) ?_;refine og rf (ae.fk rfl rfl c rfl) ?_;refine cn (λl=>?_) λl=>?_
   ·rw[decide_eq_true l]at a;simp only[tG]at a;subst a;rw[<-k];refine gq rf ?_;refine ad.bh ?_;refine gq rf ?_;refine fq ?_;exact⟨[],.aC .v,rC,rfl⟩
   ·rw[decide_eq_false (λh=>h l)]at a;simp only at a;refine gq rf ?_;refine ag rf λm B=>?_;refine ad.az (σ:=Int) m [] ⟨i+1,by omega,by omega,a⟩ ?_ cz;omega
  ·rw[decide_eq_false (show ¬ z=C by omega),bv_]at a;simp only at a;refine gq rf ?_;refine ag rf λm B=>?_;refine ad.az (σ:=Int) m [] ⟨i+1,by omega,by omega,a⟩ ?_ cz;omega
 ·have b:i=nl:=by omega
  rw[b,aA_ (by grind),List.find?_nil,tG]at a;subst a;refine gq rf ?_;refine ad.ao ?_;refine gq rf ?_;refine fq ?_;exact⟨[],.aC .v,rC,rfl⟩
theorem Q3 (C:Nat) (s:nl=N.length) (B:ul=nl) (D:cl.length=ul) (k:nl<=1099511627776) :
  aG Tryz.prog w0 162 [.pt 0 2 0 0,iv C] (aq (rX ρ nl ul N cl) 3) (iv (eX N cl C)) (aq (rX ρ nl ul N cl) 3):=by
 obtain⟨r,b⟩:∃r,r=eX N cl C:=⟨_,rfl⟩;rw[<-b];unfold eX at b;rw[<-s]at b;obtain⟨g,h⟩:∃g:Int,g=C:=⟨_,rfl⟩;rw[<-h];refine sc 3 3 ajF ?_;unfold rX;refine gq zp ?_
 refine ad.aK (σ:=Int × Int) 3 3 [] (λp=>[(0,.pt 0 2 0 0),(1,iv g),(5,iv p.2),(6,iv p.1)]) [] (λp=>[(0,rO nl ul),(1,ij ρ N),(2,cI ρ cl)])
  (λp=>∃i:Nat,p.1=i/\i<=nl/\r=Ag N cl C ((List.range nl).drop i) p.2) (λp=>nl - p.1.toNat) (0,-1) ⟨0,rfl,by simp,by grind⟩ rfl cz ?_
 rintro⟨ii,v⟩ ⟨i,j,E,a⟩;simp only at j a;clear b;refine gq zp ?_;refine ig zp (ae.iz rfl) λe F=>?_;refine cn (λu=>?_) λu=>?_
 ·have c:i < nl:=by omega
  have w:i < ul:=by omega
  obtain⟨z,m⟩:∃z,cl[i]?=some z:=⟨_,ai_ (by omega)⟩;obtain⟨⟨t,G⟩,n⟩:∃x,N[i]?=some x:=⟨_,ai_ (by omega)⟩;have d:=bW (ρ:=ρ) (f:=pw ρ) n;rw[pw]at d;simp only at d;rw[wo c,Ag,kV m,(tc n).1]at a;obtain⟨H,y,I,J⟩:=t;simp only at a d;obtain⟨o,A⟩:∃o:Int,o=z:=⟨_,rfl⟩;have q:=bW (ρ:=ρ) (f:=c8) m;rw[c8,<-A]at q;refine gq zp ?_
  repeat' (first
   |(refine ad.op rfl (ae.dg rfl rfl j w) ?_;refine og zp (ae.fk rfl rfl q rfl) ?_)
   |(refine ad.op rfl (ae.dg rfl rfl j c) ?_;refine ad.op rfl (ae.quiet rfl) ?_;refine og zp (ae.fk rfl rfl d rfl) ?_)
   |refine cg zp (λk=>?_) λk=>?_
   |refine ag zp λ_ _=>?_
   )
  all_goals first
   |(rw[if_pos (by refine⟨by omega,by grind,?_⟩;first|exact .inl (by grind)|exact .inr (by grind))]at a
     refine ad.az (σ:=Int × Int) (_,y) [] ?_ ?_ cz
     ·grind
     ·simp only;omega)
   |(rw[if_neg (by grind)]at a
     refine ad.az (σ:=Int × Int) (_,v) [] ?_ ?_ cz
     ·grind
     ·simp only;omega)
 ·have c:i=nl:=by omega
  rw[c,aA_ (by grind),Ag]at a;subst a;refine gq zp ?_;refine ad.ao ?_;refine gq zp ?_;refine fq ?_;exact⟨[],.aC .v,rC,rfl⟩
end
end
section
attribute [local irreducible] ah aG ae ad
structure Frm where
 g:Gl
 id:Int
 occ:Int
def frR (ρ:Hd) (x:Frm):List AV:=[iv x.g.op,.v (.string x.g.n),tl ρ x.g.a,iv x.id,iv x.occ]
def Ug (ρ:Hd) (l:List Frm):AV:=aR ρ (frR ρ) false l
end
section
set_option maxHeartbeats 4000000
attribute [local irreducible] ah aG ae ad
noncomputable instance:FN 270:=⟨_,aF Tryz.func270 Tryz.call270⟩
noncomputable instance:FN 255:=⟨_,aF Tryz.func255 Tryz.call255⟩
noncomputable instance:FN 287:=⟨_,aF Tryz.func287 Tryz.call287⟩
noncomputable instance:FN 272:=⟨_,aF Tryz.func272 Tryz.call272⟩
noncomputable instance:FN 271:=⟨_,aF Tryz.func271 Tryz.call271⟩
noncomputable instance:FN 288:=⟨_,aF Tryz.func288 Tryz.call288⟩
noncomputable instance:FN 253:=⟨_,aF Tryz.func253 Tryz.call253⟩
noncomputable instance:FN 302:=⟨_,aF Tryz.func302 Tryz.call302⟩
noncomputable instance:FN 252:=⟨_,aF Tryz.func252 Tryz.call252⟩
section
variable {w0:World}
theorem acp (A:Option Addr) (c:Nat):ah Tryz.prog w0 253 [.v (.slice A 0 c)] (.sl true []):=by cases A<;>exact px
theorem QU (b:Bool):ah Tryz.prog w0 253 [.sl b []] (.sl true []):=ah.emp acp
theorem X6:ah Tryz.prog w0 302 [.sl true [],iv 0,.sl true [gG .plain ⟨0,vr 0⟩]] (eg .plain [⟨0,vr 0⟩]):=px
theorem ajk:ah Tryz.prog w0 252 [.sl true [],prs .plain [(vr 0,vr 0)]] (.aL [eg .plain [⟨0,vr 0⟩],.v (.bool true)]):=px
end
end
end Go.Proofs.YtbpabjmnhggajaaGreat
