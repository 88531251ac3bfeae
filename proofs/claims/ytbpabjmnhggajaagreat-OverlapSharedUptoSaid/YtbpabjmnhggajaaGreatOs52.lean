import Derived.Test.YtbpabjmnhggajaaGreatOs51
namespace Go.Proofs.YtbpabjmnhggajaaGreat
set_option linter.unusedVariables false
set_option linter.unusedSimpArgs false
open Go.RowKit
section
set_option maxRecDepth 100000
attribute [local irreducible] ah aC af ad
section
variable {w0:World}{ρ:Hd}
theorem Uv (n:Nat):∀ x:Tm,dk x<=n->ah Tryz.prog w0 244 [tm ρ x] (nj (pR x)):=by
 induction n with
 |zero=>intro x h;have:=mq x;omega
 |succ m ih =>
  intro x hn;rw[mq] at hn;have ho:=abD (w0:=w0) (ρ:=ρ) x;have hi:=Kc (w0:=w0) (ρ:=ρ) x.i;obtain⟨R,hR⟩:∃ R,R=pR x:=⟨_,rfl⟩;rw[<-hR];obtain⟨k,i,n,a⟩:=x;rw[pR] at hR;simp only at hn ho hi;obtain⟨I,hI⟩:∃ I,I=gD i:=⟨_,rfl⟩;rw[<-hI] at hi hR;by_cases hc:k=2/\a.length=2/\eL n=true;rotate_left
  ·rw[show (decide (k=2) && decide (a.length=2) && eL n)=false by
    cases h:(decide (k=2) && decide (a.length=2) && eL n) with
    |false=>rfl
    |true=>rw[Bool.and_eq_true,Bool.and_eq_true,decide_eq_true_eq,decide_eq_true_eq] at h;exact absurd ⟨h.1.1,h.1.2,h.2⟩ hc] at ho
   have hR2:R=if k=1 then (0,17) else if k=0 then (if I=true then (i,0) else (0,5)) else (0,11):=by rw[hR,if_neg hc]
   clear ih hn hR hc;refine st V6 fI ((lR _)) ?_
   repeat' (first
    |(refine bg fI (af.pd rfl hi ⟨bp _,trivial⟩ ⟨OC i,trivial⟩) (fun hb=>?_) fun hb=>?_)
    |(refine og fI (af.aw rfl ho ⟨aT ⟨k,i,n,a⟩,trivial⟩) ?_)
    |refine cg fI (fun hb=>?_) fun hb=>?_
    |(refine fq ?_))
   all_goals clear hi ho
   all_goals (refine kg ?_;rw[hR2];simp_all;done)
  obtain⟨rfl,hl,bl⟩:=hc;rw[if_neg (by omega),if_neg (by omega),if_pos ⟨rfl,hl,bl⟩] at hR
  match a,hl with
  |[x,y],_ =>
  rw[bl] at ho;simp only[bP] at hn;have hx:=ih x (by omega);have hy:=ih y (by omega);have ot:=fun p q=>XQ (w0:=w0) n p q bl;clear ih hn hI bl;simp only[Z6] at hR;obtain⟨⟨u,e⟩,hP⟩:∃ P,P=pR x:=⟨_,rfl⟩;obtain⟨⟨v,f⟩,hQ⟩:∃ Q,Q=pR y:=⟨_,rfl⟩;rw[<-hP] at hx hR;rw[<-hQ] at hy hR;simp only at hR;have ot:=ot u v;obtain⟨⟨g,h⟩,hV⟩:∃ V,V=Vu n u v:=⟨_,rfl⟩;rw[<-hV] at ot hR;rw[nj] at hx hy ot;simp only at hx hy ot;clear hP hQ hV;refine st V6 fI ((lR _)) ?_
  repeat' (first
   |(refine og fI (af.aw rfl ho (by exact⟨aT ⟨2,i,n,[x,y]⟩,trivial⟩)) ?_)
   |exact absurd hb (by decide)
   |refine cg fI (fun hb=>?_) fun hb=>?_
   )
  all_goals first
   |skip
  refine ad.bu (σ:=Int × Int × Int) 2 2 [] (fun p=>[(1,.pt 0 4 0 0),(4,.pt 1 2 0 0),(32,.v (.int .i64 p.1))]) [] (fun p=>[(0,.arr 4 [iL ρ ⟨2,i,n,[x,y]⟩] 0 true),(1,.arr 2 [[iv p.2.1,iv p.2.2]] 0 true)])
   (fun p=>p.1=0\/(p.1=1/\p.2.1=u/\e=0)\/(p.1=2/\p.2.1=u/\p.2.2=v/\e=0/\f=0)) (fun p=>2 - p.1.toNat) (0,0,0) (.inl rfl) rfl (by exact⟨sq,rfl,⟨.inl ⟨_,rfl,.arr (by exact⟨kq,trivial⟩)⟩,⟨.inl ⟨_,rfl,.arr (by exact⟨kq,trivial⟩)⟩,trivial⟩⟩,rfl,rfl,rfl⟩) ?_
  rintro⟨j,c0,c1⟩ hj;simp only at hj;rcases hj with hj|⟨hj,u0,he⟩|⟨hj,u0,iw,he,hf⟩
  ·skip;refine gq fI ?_;refine cn (fun b8=>?_) fun b8=>?_;rotate_left
   ·exfalso;omega
   refine gq fI ?_;refine og fI (af.ind rfl rfl (fm (l:=[x,y]) (k:=0) (by omega) rfl) fp) ?_;refine og fI (af.aw rfl hx ⟨aT _,trivial⟩) ?_;refine cn (fun cy=>?_) fun cy=>?_
   ·refine gq fI ?_
    repeat (refine ad.cP ?_;refine gq fI ?_)
    refine fq ?_;refine kg ?_;rw[hR];simp_all
   refine gq fI ?_;refine og fI (af.Hn (m:=0) rfl rfl (by omega) (by decide)) ?_;refine ag fI fun i3 iC=>?_;refine ad.aO (σ:=Int × Int × Int) (i3,u,c1) [] ?_ ?_ (by exact⟨sq,rfl,⟨.inl ⟨_,rfl,.arr (by exact⟨kq,trivial⟩)⟩,⟨.inl ⟨_,rfl,.arr (by exact⟨kq,trivial⟩)⟩,trivial⟩⟩,rfl,rfl,rfl⟩)
   ·exact .inr (.inl ⟨by simp only;omega,rfl,cy⟩)
   ·simp only;omega
  ·skip;refine gq fI ?_;refine cn (fun b8=>?_) fun b8=>?_;rotate_left
   ·exfalso;omega
   refine gq fI ?_;refine og fI (af.ind rfl rfl (fm (l:=[x,y]) (k:=1) (by omega) rfl) fp) ?_;refine og fI (af.aw rfl hy ⟨aT _,trivial⟩) ?_;refine cn (fun cy=>?_) fun cy=>?_
   ·refine gq fI ?_
    repeat (refine ad.cP ?_;refine gq fI ?_)
    refine fq ?_;refine kg ?_;rw[hR];simp_all
   refine gq fI ?_;refine og fI (af.Hn (m:=1) rfl rfl (by omega) (by decide)) ?_;refine ag fI fun i3 iC=>?_;refine ad.aO (σ:=Int × Int × Int) (i3,c0,v) [] ?_ ?_ (by exact⟨sq,rfl,⟨.inl ⟨_,rfl,.arr (by exact⟨kq,trivial⟩)⟩,⟨.inl ⟨_,rfl,.arr (by exact⟨kq,trivial⟩)⟩,trivial⟩⟩,rfl,rfl,rfl⟩)
   ·exact .inr (.inr ⟨by simp only;omega,u0,rfl,he,cy⟩)
   ·simp only;omega
  ·skip;refine gq fI ?_;refine cn (fun b8=>?_) fun b8=>?_
   ·exfalso;omega
   refine gq fI ?_;refine ad.aH ?_;subst u0 iw;refine gq fI ?_
   repeat' (first
    |refine og fI (af.Hn (m:=0) rfl rfl rfl (by decide)) ?_
    |refine og fI (af.Hn (m:=1) rfl rfl rfl (by decide)) ?_
    |(refine og fI (af.aw rfl ot ⟨.v,.v,.v,trivial⟩) ?_)
    |(refine fq ?_))
   all_goals (refine kg ?_;rw[hR];simp_all)
theorem Mo (x:Tm):ah Tryz.prog w0 244 [tm ρ x] (nj (pR x)):=Uv _ x (Nat.le_refl _)
end
end
section
set_option maxRecDepth 100000
attribute [local irreducible] ah aC af ad
def ae4:FQ 205 Tryz.f205:=a_ Tryz.func205 Tryz.call205
def xP:List Nat:=[2,3,4,5,6,0,1,9,18,7,8]
def ae5:FQ 146 Tryz.f146:=a_ Tryz.func146 Tryz.call146
def OD:List Nat:=[7,8,20,9,6,1,2,4,5,18,0,21,27,33]
def ae6:FQ 141 Tryz.f141:=a_ Tryz.func141 Tryz.call141
def Uw:List Nat:=[1,2,0]
def Ux:FQ 84 Tryz.f84:=a_ Tryz.func84 Tryz.call84
def pb:List Nat:=[1,3,21,35,4,2,0,7,22,26,31,34,41,50]
def sS (a b:Tm):Int × Int × Int:=if !qA a || !qA b then (0,0,2) else if !tU a || !tU b then (0,0,0) else ((pR a).1,(pR b).1,pS (decide ((pR a).2=0) && decide ((pR b).2=0)))
def OE (p:Int × Int × Int):AV:=.aG [iv p.1,iv p.2.1,iv p.2.2]
theorem Rp (p:Int × Int × Int):Pure (OE p):=.aG (EB .v .v .v)
theorem XV {S:ae}{a b c:Int}{p:Int × Int × Int}(h:p=(a,b,c)):aR S (.aG [.v (.int .i64 a),.v (.int .i64 b),.v (.int .i64 c)]) (OE p):=by
 subst h;exact .refl _
theorem OF (op:Int) (a b:Tm):A1 op a b=if (sS a b).2.2=1 then pS (Tc op (sS a b).1 (sS a b).2.1) else (sS a b).2.2:=by grind[A1,sS,pR,pS]
section
variable {w0:World}{ρ:Hd}
theorem Rq (a b:Tm) (ha:GU a) (hb:GU b):ah Tryz.prog w0 205 [tm ρ a,tm ρ b] (OE (sS a b)):=by
 have uq:=Kq (w0:=w0) (ρ:=ρ) a;have CT:=Kq (w0:=w0) (ρ:=ρ) b;have hga:=CE (w0:=w0) (ρ:=ρ) a ha;have hgb:=CE (w0:=w0) (ρ:=ρ) b hb;have Rr:=Mo (w0:=w0) (ρ:=ρ) a;have Rs:=Mo (w0:=w0) (ρ:=ρ) b;obtain⟨R,hR⟩:∃ R,R=sS a b:=⟨_,rfl⟩;rw[<-hR];unfold sS at hR;obtain⟨NA,hNA⟩:∃ x,x=qA a:=⟨_,rfl⟩;obtain⟨NB,IN⟩:∃ x,x=qA b:=⟨_,rfl⟩;obtain⟨GA,hGA⟩:∃ x,x=tU a:=⟨_,rfl⟩;obtain⟨GB,hGB⟩:∃ x,x=tU b:=⟨_,rfl⟩;obtain⟨⟨p,e⟩,hEA⟩:∃ x,x=pR a:=⟨_,rfl⟩;obtain⟨⟨q,f⟩,hEB⟩:∃ x,x=pR b:=⟨_,rfl⟩;rw[<-hNA] at uq hR;rw[<-IN] at CT hR;rw[<-hGA] at hga hR;rw[<-hGB] at hgb hR;rw[<-hEA] at Rr hR;rw[<-hEB] at Rs hR;rw[nj] at Rr Rs;simp only at Rr Rs hR;clear hNA IN hGA hGB hEA hEB ha hb;refine st ae4 xP ((Rp _)) ?_
 repeat' (first
  |refine bg xP (af.aw rfl uq ⟨aT _,trivial⟩) (fun _=>?_) fun _=>?_
  |refine bg xP (af.aw rfl CT ⟨aT _,trivial⟩) (fun _=>?_) fun _=>?_
  |refine bg xP (af.aw rfl hga ⟨aT _,trivial⟩) (fun _=>?_) fun _=>?_
  |refine bg xP (af.aw rfl hgb ⟨aT _,trivial⟩) (fun _=>?_) fun _=>?_
  |(refine og xP (af.aw rfl Rr ⟨aT _,trivial⟩) ?_)
  |(refine og xP (af.aw rfl Rs ⟨aT _,trivial⟩) ?_)
  |(refine og xP (af.aw rfl (rC _) ⟨.v,trivial⟩) ?_)
  |refine cg xP (fun hb=>?_) fun hb=>?_
  |(refine fq ?_))
 all_goals clear uq CT hga hgb Rr Rs
 all_goals (refine XV ?_;rw[hR];simp_all[pS];done)
theorem OG (op:Int) (a b:Tm) (ha:GU a) (hb:GU b):ah Tryz.prog w0 146 [iv op,tm ρ a,tm ρ b] (iv (A1 op a b)):=by
 have hv:=Rq (w0:=w0) (ρ:=ρ) a b ha hb;obtain⟨R,hR⟩:∃ R,R=A1 op a b:=⟨_,rfl⟩;rw[<-hR];rw[OF] at hR;obtain⟨⟨x,y,s⟩,hV⟩:∃ V,V=sS a b:=⟨_,rfl⟩;rw[<-hV] at hv hR;rw[OE] at hv;simp only at hv hR;clear hV ha hb;unfold Tc at hR;refine st ae5 OD .v ?_
 repeat' (first
  |(refine og OD (af.aw rfl hv ⟨aT _,aT _,trivial⟩) ?_)
  |(refine og OD (af.aw rfl (rC _) ⟨.v,trivial⟩) ?_)
  |refine cg OD (fun hb=>?_) fun hb=>?_
  |(refine fq ?_))
 all_goals clear hv
 all_goals (refine jD ?_;rw[hR];simp_all[pS];done)
theorem Fo (g:Gl) (hg:pY 100000000000 g):ah Tryz.prog w0 141 [gl ρ g] (.v (.bool (qQ g))):=by
 have hr:=vX (w0:=w0) (ρ:=ρ) g (hg.ok (by decide)) hg.2.2;obtain⟨R,hR⟩:∃ R,R=qQ g:=⟨_,rfl⟩;rw[<-hR];unfold qQ sN at hR;obtain⟨G,hG⟩:∃ G,G=ft g:=⟨_,rfl⟩;rw[<-hG] at hr hR;obtain⟨o,n,a⟩:=g;simp only at hR;clear hg hG;refine st ae6 Uw .v ?_
 repeat' (first
  |refine bg Uw (af.aw rfl hr ⟨gV ⟨o,n,a⟩,trivial⟩) (fun _=>?_) fun _=>?_
  |refine cg Uw (fun hb=>?_) fun hb=>?_
  |(refine fq ?_))
 all_goals clear hr
 all_goals (refine eA ?_;rw[hR];simp_all<;>omega)
theorem abM (g:Gl) (hg:pY 100000000000 g) (ht:qQ g=false):ah Tryz.prog w0 84 [gl ρ g] (iv (qB g)):=by
 have hi:=Fo (w0:=w0) (ρ:=ρ) g hg;have hr:=vX (w0:=w0) (ρ:=ρ) g (hg.ok (by decide)) hg.2.2;obtain⟨R,hR⟩:∃ R,R=qB g:=⟨_,rfl⟩;rw[<-hR];unfold qB at hR;rw[if_neg (by grind)] at hR;rw[ht] at hi;obtain⟨G,hG⟩:∃ G,G=ft g:=⟨_,rfl⟩;rw[<-hG] at hr hR;obtain⟨o,n,a⟩:=g;simp only at hR;clear hg hG ht;refine st Ux pb .v ?_
 repeat' (first
  |(refine og pb (af.aw rfl hi ⟨gV ⟨o,n,a⟩,trivial⟩) ?_)
  |refine bg pb (af.aw rfl hr ⟨gV ⟨o,n,a⟩,trivial⟩) (fun _=>?_) fun _=>?_
  |(refine og pb (af.aw rfl (rC _) ⟨.v,trivial⟩) ?_)
  |refine cg pb (fun hb=>?_) fun hb=>?_
  |(refine fq ?_))
 all_goals clear hi hr
 all_goals (refine jD ?_;rw[hR];simp_all[pS];done)
theorem abN (op:Int) (n:ByteArray) (x:Tm) (hg:pY 100000000000 ⟨op,n,[x]⟩) (ht:qQ ⟨op,n,[x]⟩=true) (ho:op=11\/op=12):ah Tryz.prog w0 84 [gl ρ ⟨op,n,[x]⟩] (iv (qB ⟨op,n,[x]⟩)):=by
 have hi:=Fo (w0:=w0) (ρ:=ρ) _ hg;have hx:GU x:=⟨hg.1.mem x (by simp),by have:=hg.2.1;simp only[bP] at this;omega⟩;have hgr:=CE (w0:=w0) (ρ:=ρ) x hx;obtain⟨R,hR⟩:∃ R,R=qB ⟨op,n,[x]⟩:=⟨_,rfl⟩;rw[<-hR];unfold qB at hR;rw[if_pos ht] at hR;simp only[Td] at hR;rw[ht] at hi;obtain⟨G,hG⟩:∃ G,G=tU x:=⟨_,rfl⟩;rw[<-hG] at hgr hR;obtain⟨xk,xi,xn,xa⟩:=x;simp only at hR;clear hg hG ht hx;refine st Ux pb .v ?_
 repeat' (first
  |(refine og pb (af.aw rfl hi ⟨gV (ρ:=ρ) ⟨op,n,[⟨xk,xi,xn,xa⟩]⟩,trivial⟩) ?_)
  |refine og pb (af.ind rfl rfl (fm (l:=[⟨xk,xi,xn,xa⟩]) (k:=0) rfl rfl) fp) ?_
  |refine bg pb (af.aw rfl hgr ⟨aT ⟨xk,xi,xn,xa⟩,trivial⟩) (fun _=>?_) fun _=>?_
  |(refine og pb (af.aw rfl (rC _) ⟨.v,trivial⟩) ?_)
  |refine cg pb (fun hb=>?_) fun hb=>?_
  |(refine fq ?_))
 all_goals clear hi hgr
 all_goals first
  |exfalso;omega
  |refine jD ?_;rw[hR];simp_all[pS];done
theorem abP (op:Int) (n:ByteArray) (x y:Tm) (hg:pY 100000000000 ⟨op,n,[x,y]⟩) (ht:qQ ⟨op,n,[x,y]⟩=true) (ho:op ≠ 11/\op ≠ 12):ah Tryz.prog w0 84 [gl ρ ⟨op,n,[x,y]⟩] (iv (qB ⟨op,n,[x,y]⟩)):=by
 have hi:=Fo (w0:=w0) (ρ:=ρ) _ hg;have qY:=hg.2.1;simp only[bP] at qY;have hx:GU x:=⟨hg.1.mem x (by simp),by omega⟩;have hy:GU y:=⟨hg.1.mem y (by simp),by omega⟩;have hsm:=YR (w0:=w0) (ρ:=ρ) x y hx.1 hy.1;have L0:=J6 (w0:=w0) (ρ:=ρ) (a:=x) (b:=y) hx.1 hy.1;have hrg:ft ⟨op,n,[x,y]⟩=true:=by grind[qQ]
 rw[Oh (BQ hrg x (by simp)) (BQ hrg y (by simp))] at L0;have nM:=OG (w0:=w0) (ρ:=ρ) op x y hx hy;obtain⟨R,hR⟩:∃ R,R=qB ⟨op,n,[x,y]⟩:=⟨_,rfl⟩;rw[<-hR];unfold qB at hR;rw[if_pos ht] at hR;simp only[Td] at hR;rw[if_neg ho.1,if_neg ho.2] at hR;rw[ht] at hi;obtain⟨U,hU⟩:∃ U,U=Z7 x y:=⟨_,rfl⟩;rw[<-hU] at hR;rw[show decide ((lX lz [(x,y)]).2=0\/(lX lz [(x,y)]).2=6)=U from hU.symm] at L0;obtain⟨V,hV⟩:∃ V,V=A1 op x y:=⟨_,rfl⟩;rw[<-hV] at nM hR;obtain⟨c,hc⟩:∃ c,c=(wU x y == 0):=⟨_,rfl⟩;rw[<-hc] at hsm;have c_:(wU x y=0) ↔ c=true:=by grind
 simp only[c_] at hR;clear hg hU hV hc c_ ht hx hy hrg;obtain⟨xk,xi,xn,xa⟩:=x;obtain⟨yk,yi,yn,ya⟩:=y;refine st Ux pb .v ?_
 repeat' (first
  |(refine og pb (af.aw rfl hi ⟨gV ⟨op,n,[⟨xk,xi,xn,xa⟩,⟨yk,yi,yn,ya⟩]⟩,trivial⟩) ?_)
  |refine og pb (af.ind rfl rfl (fm (l:=[⟨xk,xi,xn,xa⟩,⟨yk,yi,yn,ya⟩]) (k:=0) rfl rfl) fp) ?_
  |refine og pb (af.ind rfl rfl (fm (l:=[⟨xk,xi,xn,xa⟩,⟨yk,yi,yn,ya⟩]) (k:=1) rfl rfl) fp) ?_
  |refine bg pb (af.aw rfl hsm ⟨aT ⟨xk,xi,xn,xa⟩,aT ⟨yk,yi,yn,ya⟩,trivial⟩) (fun _=>?_) fun _=>?_
  |refine bg pb (af.aw rfl L0 ⟨aT ⟨xk,xi,xn,xa⟩,aT ⟨yk,yi,yn,ya⟩,trivial⟩) (fun _=>?_) fun _=>?_
  |(refine og pb (af.aw rfl nM ⟨.v,aT ⟨xk,xi,xn,xa⟩,aT ⟨yk,yi,yn,ya⟩,trivial⟩) ?_)
  |(refine og pb (af.aw rfl (rC _) ⟨.v,trivial⟩) ?_)
  |refine cg pb (fun hb=>?_) fun hb=>?_
  |(refine fq ?_))
 all_goals clear hi hsm L0 nM
 all_goals first
  |exfalso;omega
  |refine jD ?_;rw[hR];simp_all[pS];done
theorem XW (g:Gl) (hg:pY 100000000000 g):ah Tryz.prog w0 84 [gl ρ g] (iv (qB g)):=by
 cases ht:qQ g with
 |false=>exact abM g hg ht
 |true =>
  have fS:=ht;unfold qQ sN at fS;rw[Bool.and_eq_true,Bool.and_eq_true,decide_eq_true_eq,decide_eq_true_eq] at fS;have hl:=Oi fS.2 (by omega);obtain⟨op,n,a⟩:=g;simp only at hl fS;unfold arity at hl;by_cases ho:op=11\/op=12
  ·rw[if_neg (by omega),if_pos ho] at hl
   match a,hl with
   |[x],_=>exact abN op n x hg ht ho
  ·rw[if_neg (by omega),if_neg ho,if_pos (by omega)] at hl
   match a,hl with
   |[x,y],_=>exact abP op n x y hg ht ⟨fun h=>ho (.inl h),fun h=>ho (.inr h)⟩
end
end
section
set_option maxRecDepth 100000
attribute [local irreducible] ah aC af ad
def ajk:FQ 47 Tryz.f47:=a_ Tryz.func47 Tryz.call47
def ow:List Nat:=[8,4,18,5,2,29,6,0,17,19,16,1,27,30,32]
def OH (ρ:Hd) (r:List Gl × Bool × Int):AV:=.aG [cX ρ r.1,.v (.bool r.2.1),iv r.2.2]
section
variable {w0:World}{ρ:Hd}
theorem Uy (r:List Gl × Bool × Int):Pure (OH ρ r):=.aG (EB (cL _) .v .v)
theorem Rt {S:ae}{a:AV}{b:Bool}{e:Int}{r:List Gl × Bool × Int}(h:r=(r.1,b,e)) (ha:aR S a (cX ρ r.1)):aR S (.aG [a,.v (.bool b),.v (.int .i64 e)]) (OH ρ r):=by
 rw[h];refine .aG rfl fun i x x' h1 h2=>?_
 match i with
 |0 =>
  obtain rfl:=oJ_ h1;obtain rfl:=oJ_ h2;exact ha
 |1 =>
  obtain rfl:=oJ_ h1;obtain rfl:=oJ_ h2;exact .refl _
 |2 =>
  obtain rfl:=oJ_ h1;obtain rfl:=oJ_ h2;exact .refl _
 |i+3=>simp at h1
theorem Uz (p:Pg) (i j:Int) (a b:Rl) (f t:List At) (u:List Bd) (hu:u.length<=1099511627776) (jA:rU u) (Wd:oG 200 u) (hl:(a.guard++b.guard).length<=1000) (hg:∀ g ∈ a.guard++b.guard,pY 200 g) :
  ah Tryz.prog w0 47 [.agg (cA ρ p i j a b f t),kQ ρ u] (OH ρ (ue u (a.guard++b.guard) [] true)):=by
 have VE:=Rh (w0:=w0) (ρ:=ρ) a.guard b.guard (by omega);obtain⟨L,hL⟩:∃ L,L=a.guard++b.guard:=⟨_,rfl⟩;rw[<-hL] at hl hg VE ⊢;clear hL;obtain⟨R,hR⟩:∃ R,R=ue u L [] true:=⟨_,rfl⟩;rw[<-hR];have cw:=jQ (ρ:=ρ) p i j a b f t;obtain⟨ds,rs⟩:=p;obtain⟨an,ak,ar,ag,ab,av⟩:=a;obtain⟨bn,bk,br,bg,gL,bv⟩:=b;dsimp only at VE;unfold cA;refine st ajk ow ((Uy _)) ?_;refine ad.op rfl (af.aw rfl VE ⟨.sl fun r hr x hx=>by
  simp only[List.mem_cons,List.not_mem_nil,or_false] at hr;rcases hr with rfl|rfl<;>(obtain rfl:=List.mem_singleton.1 hx;exact cL _),trivial⟩) ?_
 refine gq ow ?_;refine cF fun m hm=>?_;rw[aE] at hm;refine gq ow ?_
 refine ad.bu (σ:=Int × (List Gl × Nat) × Bool) 1 2 [] (fun p=>[(1,kQ ρ u),(4,.gr 1 3 p.2.1.2),(5,.v (.bool p.2.2)),(16,cX ρ L),(17,.v (.int .i64 m)),(18,.v (.int .i64 p.1))]) [] (fun p=>[(1,.arr 3 (ρ.h (List.map (nJ ρ)) p.2.1.1) 0 false)])
  (fun p=>∃ z:Nat,p.1=z/\z<=L.length/\R=ue u (L.drop z) p.2.1.1 p.2.2/\p.2.1.2=p.2.1.1.length/\p.2.1.1.length<=z) (fun p=>L.length - p.1.toNat) (0,([],0),true) ⟨0,rfl,by omega,by grind,rfl,by simp⟩ rfl (by exact⟨sq,rfl,⟨.inr rfl,trivial⟩,rfl,rfl,rfl⟩) ?_
 rintro⟨i2,⟨k2,n2⟩,p2⟩ ⟨z,hz,zT,hp,jb,dP⟩;simp only at hz hp jb dP;clear hR;refine gq ow ?_;refine bq (fun b8=>?_) (fun b8=>?_)<;>(try simp only[bX] at b8)
 rotate_left
 ·rw[List.drop_of_length_le (by omega),ue] at hp;refine gq ow ?_;refine ad.aH ?_;refine gq ow ?_;refine fq ?_;refine Rt (by grind) ?_;rw[hp];exact aR.grow rfl jb
 obtain⟨x,hx,bK⟩:=bf (l:=L) (k:=z) (by omega);have yq:=hg x (List.mem_of_getElem? hx);have hyB:=yq.app Wd jA (by decide);have h1:=QU (w0:=w0) (ρ:=ρ) hu x (by have:=yq.2.1;omega);have h2:=vX (w0:=w0) (ρ:=ρ) (lT u x) (hyB.ok (by decide)) yq.2.2;have h3:=XW (w0:=w0) (ρ:=ρ) (lT u x) (hyB.mono (by decide));rw[bK,ue] at hp;obtain⟨y,hy⟩:∃ y,y=lT u x:=⟨_,rfl⟩;rw[<-hy] at h1 h2 h3 hp;obtain⟨c,hc⟩:∃ c,c=ft y:=⟨_,rfl⟩;obtain⟨d,hd⟩:∃ d,d=qB y:=⟨_,rfl⟩;rw[<-hc] at h2 hp;rw[<-hd] at h3 hp;clear hc hd hy hyB yq;obtain⟨xo,xn,xa⟩:=x;obtain⟨yo,yn,ya⟩:=y;refine gq ow ?_;refine ad.op rfl (af.ind rfl rfl (aY (l:=L) hz hx) (aZ fun _=>rfl)) ?_;refine gq ow ?_;refine ad.op rfl (af.aw rfl h1 ⟨cJ _,gV (ρ:=ρ) ⟨xo,xn,xa⟩,trivial⟩) ?_;refine gq ow ?_;refine ad.op rfl (af.aw rfl h2 ⟨gV (ρ:=ρ) ⟨yo,yn,ya⟩,trivial⟩) ?_;cases c with
 |false =>
  rw[if_neg (by decide)] at hp;refine gq ow ?_;refine ad.cP ?_;refine gq ow ?_;refine fq ?_;refine Rt (by grind) ?_;rw[hp,cX,bQ];exact aR.wk
 |true =>
 rw[if_pos rfl] at hp;refine gq ow ?_;refine ad.op rfl (af.aw rfl h3 ⟨gV (ρ:=ρ) ⟨yo,yn,ya⟩,trivial⟩) ?_;refine gq ow ?_;refine bq (fun cy=>?_) (fun cy=>?_)<;>(try simp only[bX] at cy)
 ·rw[if_pos cy] at hp;refine gq ow ?_;refine cz (fun i3 iC=>?_);refine gq ow ?_;refine ad.aO (σ:=Int × (List Gl × Nat) × Bool) (i3,(k2,n2),false) [] ⟨z+1,by grind,by omega,hp,jb,by grind⟩ ?_ (by exact⟨sq,rfl,⟨.inl ⟨_,rfl,.same (eO fun x _=>jC x)⟩,trivial⟩,rfl,rfl,rfl⟩);simp only;omega
 rw[if_neg cy] at hp;refine gq ow ?_;refine bq (fun jo=>?_) (fun jo=>?_)<;>(try simp only[bX] at jo)
 rotate_left
 ·rw[if_neg jo] at hp;refine gq ow ?_;refine cz (fun i3 iC=>?_);refine gq ow ?_;refine ad.aO (σ:=Int × (List Gl × Nat) × Bool) (i3,(k2,n2),p2) [] ⟨z+1,by grind,by omega,hp,jb,by grind⟩ ?_ (by exact⟨sq,rfl,⟨.inl ⟨_,rfl,.same (eO fun x _=>jC x)⟩,trivial⟩,rfl,rfl,rfl⟩);simp only;omega
 rw[if_pos jo] at hp;refine gq ow ?_;refine ad.app (x:=(⟨yo,yn,ya⟩:Gl)) (f:=nJ ρ) rfl rfl rfl jb (fun _=>rfl) rfl rfl rfl rfl (by omega) fun k3 n3 F6 yh=>?_;rw[<-F6] at hp;refine gq ow ?_;refine cz (fun i3 iC=>?_);refine gq ow ?_;refine ad.aO (σ:=Int × (List Gl × Nat) × Bool) (i3,(k3,n3),p2) [(1,3)] ⟨z+1,by grind,by omega,hp,yh,by grind⟩ ?_ (by exact⟨sq,rfl,⟨.inl ⟨_,rfl,.same (eO fun x _=>jC x)⟩,trivial⟩,rfl,rfl,rfl⟩);simp only;omega
end
end
mutual
def G6:Tm->Tm
 |⟨k,i,n,a⟩=>⟨k,i,if n.size<=HR then n else ⟨#[]⟩,CF a⟩
def CF:List Tm->List Tm
 |[]=>[]
 |x::l=>G6 x::CF l
end
mutual
theorem Kr (s:Int->Tm):∀ t:Tm,t.ok->eD (fun v=>G6 (s v)) t=G6 (eD s t)
 |⟨k,i,n,a⟩,h=>by
  rw[Tm.ok] at h;rw[eD,eD];split
  ·rfl
  ·rw[G6,if_pos h.2.1,Mp s a h.2.2]
theorem Mp (s:Int->Tm):∀ l:List Tm,eV l->gR (fun v=>G6 (s v)) l=CF (gR s l)
 |[],_=>by rw[gR,gR,CF]
 |x::l,h=>by
  rw[eV] at h;rw[gR,gR,CF,Kr s x h.1,Mp s l h.2]
end
mutual
theorem Wl (f:Int->Tm):∀ t:Tm,eE t->G6 t=eD f t->dk t<=200->t.ok
 |⟨k,i,n,a⟩,h,e,hz=>by
  rw[eE] at h;rw[dk] at hz;rw[Tm.ok];by_cases hk:k=1
  ·rw[if_pos hk] at h;obtain⟨rfl,rfl⟩:=h;exact⟨by simp,by simp[ByteArray.size],by rw[eV];trivial⟩
  ·rw[if_neg hk] at h;rw[G6,eD,if_neg hk] at e;injection e with _ _ e3 e4;have h1:=o9 a;refine⟨Nat.le_trans h1 (Nat.le_trans (by omega:bP a<=200) (by decide)),?_,Ru f a h.1 e4 (by omega)⟩;split at e3
   ·grind
   ·rw[<-e3];simp[ByteArray.size]
theorem Ru (f:Int->Tm):∀ l:List Tm,fE l->CF l=gR f l->bP l<=200->eV l
 |[],_,_,_=>by rw[eV];trivial
 |x::l,h,e,hz=>by
  rw[fE] at h;rw[bP] at hz;rw[CF,gR] at e;injection e with e1 e2;rw[eV];exact⟨Wl f x h.1 e1 (by omega),Ru f l h.2 e2 (by omega)⟩
end
def Rw (E:List (Tm × Tm)):List Int:=E.flatMap fun e=>lZ e.1++lZ e.2
theorem Mq:∀ (E:List (Tm × Tm)),(∀ e ∈ E,dk e.1<=200/\dk e.2<=200)->(Rw E).length<=400*E.length
 |[],_=>by simp[Rw]
 |e::E,h=>by
  have h1:=h e (by simp);have h2:=Mq E fun x hx=>h x (by grind);have h3:=Ai e.1;have h4:=Ai e.2;unfold Rw at h2 ⊢;rw[List.flatMap_cons,List.length_append,List.length_append,List.length_cons];omega
mutual
theorem Rx {f g:Int->Tm}:∀ t:Tm,(∀ w,kH w t->f w=g w)->eD f t=eD g t
 |⟨k,i,n,a⟩,h=>by
  rw[eD,eD];by_cases hk:k=1
  ·grind[kH]
  ·rw[if_neg hk,if_neg hk,Mr a fun w hw=>h w (by grind[kH])]
theorem Mr {f g:Int->Tm}:∀ l:List Tm,(∀ w,lW w l->f w=g w)->gR f l=gR g l
 |[],_=>by rw[gR,gR]
 |x::l,h=>by rw[gR,gR,Rx x fun w hw=>h w (by grind[lW]),Mr l fun w hw=>h w (by grind[lW])]
end
theorem XX {E:List (Tm × Tm)}{s:Int->Tm}(h:wV E s) (hw:∀ e ∈ E,eE e.1/\eE e.2) {v:Int}(hv:v ∉ Rw E):s v=vr v:=by
 have HD:∀ e ∈ E,¬ kH v e.1/\¬ kH v e.2:=fun e he=>by
  refine⟨fun ho=>hv ?_,fun ho=>hv ?_⟩
  ·exact List.mem_flatMap.2 ⟨e,he,List.mem_append.2 (.inl ((Ah _ (hw e he).1).1 ho))⟩
  ·exact List.mem_flatMap.2 ⟨e,he,List.mem_append.2 (.inr ((Ah _ (hw e he).2).1 ho))⟩
 have key:∀ t,¬ kH v t->eD (fun w=>if w=v then vr v else s w) t=eD s t:=fun t ht=>Rx t fun w hwt=>by grind
 have hg:=h.gen (fun w=>if w=v then vr v else s w) (fun e he=>by rw[key _ (HD e he).1,key _ (HD e he).2];exact h.FB e he) v;simp only[if_pos] at hg;obtain⟨w,hsw⟩:∃ w,s v=vr w:=by
  obtain⟨t,ht⟩:∃ t,t=s v:=⟨_,rfl⟩;rw[<-ht] at hg;obtain⟨k,i,n,a⟩:=t;rw[eD] at hg;by_cases hk:k=1
  ·exact⟨i,by rw[<-ht];exact C3 (by rw[ht];exact h.wf v) hk⟩
  ·grind[vr]
 rw[hsw,sV] at hg;have hi:=h.idem v w (by grind[vr,kH]);by_cases e:w=v
 ·grind
 ·grind
theorem Ry:∀ {l:List Int},uH l->l.Nodup
 |[],_=>.nil
 |x::l,h=>List.nodup_cons.2 ⟨fun hx=>by have:=h.1 x hx;omega,Ry h.2⟩
theorem UA {E:List (Tm × Tm)}(hE:∀ e ∈ E,(e.1.ok/\eE e.1/\dk e.1<=200)/\e.2.ok/\eE e.2/\dk e.2<=200):rU (lX lz E).1/\oG 200 (lX lz E).1/\(lX lz E).1.length<=400*E.length:=by
 have h0:rU ([]:List Bd)/\oG 200 []/\([]:List Bd).length<=400*E.length:=⟨fun b hb=>(by grind),fun b hb=>(by grind),Nat.zero_le _⟩;unfold lX;split;rotate_left
 ·grind
 rename_i hx;have ho:=hx.choose_spec;obtain⟨s,hs⟩:∃ s,s=hx.choose.1:=⟨_,rfl⟩;obtain⟨l,hl⟩:∃ l,l=hx.choose.2:=⟨_,rfl⟩;rw[<-hs,<-hl] at ho ⊢;clear hs hl;unfold HW;split
 ·grind
 rename_i hb;have hz:∀ v ∈ l,dk (s v)<=200:=fun v hv=>by grind[dk,lz]
 have hu:uG E fun v=>G6 (s v):=fun e he=>by
  have h1:=hE e he;rw[Kr s e.1 h1.1.1,Kr s e.2 h1.2.1,ho.c.FB e he]
 refine⟨fun b hb=>?_,fun b hb=>?_,?_⟩
 ·obtain⟨v,hv,rfl⟩:=List.mem_map.1 hb;exact Wl _ (s v) (ho.c.wf v) (ho.c.gen _ hu v) (hz v hv)
 ·grind
 ·rw[List.length_map];refine Nat.le_trans (J4 (Ry ho.a) (m:=Rw E) fun v hv=>?_) (Mq E fun e he=>⟨(hE e he).1.2.2,(hE e he).2.2.2⟩);exact Classical.byContradiction fun hn=>(ho.m v).1 hv (XX ho.c (fun e he=>⟨(hE e he).1.2.1,(hE e he).2.2.1⟩) hn)
theorem UB {l r:List Tm}(hl:∀ x ∈ l,x.ok) (hr:∀ x ∈ r,x.ok):rU (jk l r).1/\oG 200 (jk l r).1/\(jk l r).1.length<=400*l.length:=by
 have h0:rU ([]:List Bd)/\oG 200 []/\([]:List Bd).length<=400*l.length:=⟨fun b hb=>(by grind),fun b hb=>(by grind),Nat.zero_le _⟩;unfold jk;split
 ·grind
 rename_i h1;split
 ·grind
 rename_i h2;split;rotate_left
 ·grind
 rename_i h3;have hz:(l.zip r).length=l.length:=by grind
 rw[<-hz];refine UA fun e he=>?_;have e1:=List.of_mem_zip he;have k1:dO e.1=true:=Classical.byContradiction fun h=>h1 (List.any_eq_true.2 ⟨_,e1.1,by grind⟩);have k2:dO e.2=true:=Classical.byContradiction fun h=>h2 (List.any_eq_true.2 ⟨_,e1.2,by grind⟩);have q1:=uX k1 (hl _ e1.1);have q2:=uX k2 (hr _ e1.2);exact⟨⟨hl _ e1.1,q1.1,q1.2.2.2.2⟩,hr _ e1.2,q2.1,q2.2.2.2.2⟩
section
set_option maxRecDepth 100000
attribute [local irreducible] ah aC af ad
def ajl:FQ 19 Tryz.f19:=a_ Tryz.func19 Tryz.call19
def rD:List Nat:=[2,8,4,1,7,9,5,6,0,21,23,35,12,50,11,13,10]
def sA (ρ:Hd) (x:Pr):List AV:=[iv x.i,iv x.j,cX ρ x.st.goals,C0 ρ x.st.store,kQ ρ x.st.binds,O5 ρ x.st.U0,cX ρ x.st.known,iv x.st.next,iv x.st.fresh,.v (.bool x.st.failed),aX ρ aP false x.h0,aX ρ aP false x.h1]
def Rz (ρ:Hd) (x:Pr × Bool × Int):AV:=.aG [.agg (sA ρ x.1),.v (.bool x.2.1),iv x.2.2]
section
variable {w0:World}{ρ:Hd}
theorem qN (x:Pr):∀ a ∈ sA ρ x,Pure a:=by simp[sA,cL,qp,cJ,th,bp,Pure.v,iv]
theorem UC (x:Pr × Bool × Int):Pure (Rz ρ x):=.aG (EB (.agg (qN _)) .v .v)
theorem mw {S:ae}{T:Type}{f:T->List AV}:aR S (.sl true []) (aX ρ f false []):=by rw[bQ];exact aR.wk
theorem Ap {S:ae}{e:Int}:aR S (.aG [.agg [iv 0,iv 0,.sl true [],.sl true [],.sl true [],.sl true [],.sl true [],iv 0,iv 0,.v (.bool false),.sl true [],.sl true []],.v (.bool false),iv e]) (Rz ρ (Mi,false,e)):=by
 have H:eY S [iv 0,iv 0,.sl true [],.sl true [],.sl true [],.sl true [],.sl true [],iv 0,iv 0,.v (.bool false),.sl true [],.sl true []] (sA ρ Mi):=⟨.refl _,.refl _,mw,mw,mw,mw,mw,.refl _,.refl _,.refl _,mw,mw,trivial⟩;have K:eY S [.agg [iv 0,iv 0,.sl true [],.sl true [],.sl true [],.sl true [],.sl true [],iv 0,iv 0,.v (.bool false),.sl true [],.sl true []],.v (.bool false),iv e] [.agg (sA ρ Mi),.v (.bool false),iv e]:=⟨.agg H.len H.at,.refl _,.refl _,trivial⟩;exact .aG K.len K.at
theorem abT {S:ae}{i j n v n' v':Int}{I:List Im}{K:List Gl}{h0 h1:List Int}(hn:n=n') (hv:v=v'):aR S (.aG [.agg [iv i,iv j,.sl true [],C0 ρ I,.sl true [],.sl true [],cX ρ K,iv n,iv v,.v (.bool false),aX ρ aP false h0,aX ρ aP false h1],.v (.bool true),iv 0]) (Rz ρ (⟨i,j,⟨[],I,[],[],K,n',v',false⟩,h0,h1⟩,true,0)):=by
 subst hn hv;have H:eY S [iv i,iv j,.sl true [],C0 ρ I,.sl true [],.sl true [],cX ρ K,iv n,iv v,.v (.bool false),aX ρ aP false h0,aX ρ aP false h1] (sA ρ ⟨i,j,⟨[],I,[],[],K,n,v,false⟩,h0,h1⟩):=⟨.refl _,.refl _,mw,.refl _,mw,mw,.refl _,.refl _,.refl _,.refl _,.refl _,.refl _,trivial⟩;have J:eY S [.agg [iv i,iv j,.sl true [],C0 ρ I,.sl true [],.sl true [],cX ρ K,iv n,iv v,.v (.bool false),aX ρ aP false h0,aX ρ aP false h1],.v (.bool true),iv 0] [.agg (sA ρ ⟨i,j,⟨[],I,[],[],K,n,v,false⟩,h0,h1⟩),.v (.bool true),iv 0]:=⟨.agg H.len H.at,.refl _,.refl _,trivial⟩;exact .aG J.len J.at
theorem Ms:∀ {F:List At}{l:List Int},(∀ x ∈ F,su 200 x)->(lG F l).length<=200*F.length
 |[],_,_=>by simp[lG]
 |f::F,[],_=>by simp[lG]
 |f::F,m::l,h=>by
  have h1:=Ms (F:=F) (l:=l) fun x hx=>h x (by grind);have h2:=Nat.le_trans (o9 f.a) (h f (by simp)).2.1;rw[lG,List.length_append,List.length_cons];split
  ·grind
  ·omega
theorem OI (p:Pg) (i j:Int) (a b:Rl) (f t:List At) (l:List Int) (hf:f.length<=1000) (ht:t.length<=1000) (hn:l.length=f.length) (ho:wE t l) (zh:∀ x ∈ f,su 200 x) (yg:∀ x ∈ t,su 200 x) (hgl:(a.guard++b.guard).length<=1000) (hg:∀ g ∈ a.guard++b.guard,pY 200 g) (hv:(0<=a.vars/\a.vars<=1099511627776)/\0<=b.vars/\b.vars<=1099511627776) :
  ah Tryz.prog w0 19 [.agg (cA ρ p i j a b f t),aX ρ aP false l] (Rz ρ (ug ⟨i,j,a,b,f,t⟩ l)):=by
 have h1:=Rc (w0:=w0) (ρ:=ρ) p i j a b f t l hf hn ho zh yg;have Ks:=UB (l:=lG f l) (r:=nQ t l) (fun x hx=>by obtain⟨y,h1,h2⟩:=Fl hx;exact (zh y h1).1.mem x h2) (fun x hx=>by obtain⟨y,h1,h2⟩:=Fm hx;exact (yg y h1).1.mem x h2);have jX:(jk (lG f l) (nQ t l)).1.length<=1099511627776:=by grind[Ms]
 obtain⟨R,hR⟩:∃ R,R=ug ⟨i,j,a,b,f,t⟩ l:=⟨_,rfl⟩;rw[<-hR];unfold ug at hR;simp only at hR;obtain⟨⟨u,e⟩,hU⟩:∃ z,z=jk (lG f l) (nQ t l):=⟨_,rfl⟩;rw[<-hU] at h1 hR jX Ks;clear hU;simp only at hR jX Ks;have h2:=XP (w0:=w0) (ρ:=ρ) p i j a b f t l u hf ht (by omega) jX Ks.1 Ks.2.1 zh yg;have h3:=Uz (w0:=w0) (ρ:=ρ) p i j a b f t u jX Ks.1 Ks.2.1 hgl hg;unfold Ui at hR;obtain⟨z,hz⟩:∃ z,z=lH u l t 0 (nn u f ([],true)) []:=⟨_,rfl⟩;obtain⟨k,hk⟩:∃ k,k=ue u (a.guard++b.guard) [] true:=⟨_,rfl⟩;obtain⟨w,hw⟩:∃ w,w=upto f.length:=⟨_,rfl⟩;simp only at hR;have zT:z.1.1.length<=2000:=by
  obtain⟨_,_,_,h,_⟩:=xL (u:=u) (l:=l) t 0 (nn u f ([],true)) [];rw[CB] at h;simp only[List.length_nil] at h;rw[hz];omega
 rw[<-hz,<-hw] at h2;rw[<-hz,<-hw,<-hk] at hR;rw[<-hk] at h3;clear hz hk hw Ks jX;have cw:=jQ (ρ:=ρ) p i j a b f t;have wH:Pure (aX ρ aP false l):=bp l;obtain⟨⟨amm,ok⟩,hh⟩:=z;obtain⟨kn,ps,ge⟩:=k;obtain⟨ds,rs⟩:=p;obtain⟨an,ak,ar,ag,ab,av⟩:=a;obtain⟨bn,bk,br,bg,gL,bv⟩:=b;simp only at hR zT hv;unfold cA at cw h1 h2 h3 ⊢;unfold prA at h2;unfold OH at h3;unfold xD at h1;simp only at h1 h2 h3;refine st ajl rD ((UC _)) ?_;refine og rD (af.aw rfl h1 ⟨.agg cw,wH,trivial⟩) ?_;refine cn (fun b8=>?_) fun b8=>?_
 ·rw[if_neg b8] at hR;refine gq rD ?_;refine cn (fun cy=>?_) fun cy=>?_
  ·rw[if_pos cy] at hR;refine gq rD ?_;refine fq ?_;rw[hR];exact Ap
  ·rw[if_neg cy] at hR;refine gq rD ?_;refine fq ?_;rw[hR];exact Ap
 rw[if_pos b8] at hR;refine gq rD ?_;refine ad.op rfl (af.aw rfl h2 ⟨.agg cw,wH,cJ _,trivial⟩) ?_;cases ok with
 |false =>
  rw[if_neg (by decide)] at hR;refine gq rD ?_;refine cn (fun cy=>?_) fun cy=>?_;rotate_left
  ·grind
  refine gq rD ?_;refine fq ?_;rw[hR];exact Ap
 |true =>
 rw[if_pos rfl] at hR;refine gq rD ?_;refine cn (fun cy=>?_) fun cy=>?_
 ·grind
 refine gq rD ?_;refine og rD (af.aw rfl h3 ⟨.agg cw,cJ _,trivial⟩) ?_;refine cn (fun b8=>?_) fun b8=>?_
 ·rw[if_pos (.inl b8)] at hR;refine gq rD ?_;refine fq ?_;rw[hR];exact Ap
 cases ps with
 |false =>
  rw[if_pos (.inr rfl)] at hR;refine gq rD ?_;refine fq ?_;rw[hR,b8];exact Ap
 |true =>
 rw[if_neg (by grind)] at hR;refine gq rD ?_;refine cF fun m hm=>?_;rw[aE] at hm;refine gq rD ?_;refine cz (fun d hd=>?_);refine gq rD ?_;refine cz (fun d2 jq=>?_);refine gq rD ?_;refine fq ?_;rw[hR];exact abT (by omega) jq
end
end
section
set_option maxRecDepth 100000
attribute [local irreducible] ah aC af ad
def ajm:FQ 39 Tryz.f39:=a_ Tryz.func39 Tryz.call39
def g39:List Nat:=[1,2,0]
def ajn:FQ 16 Tryz.f16:=a_ Tryz.func16 Tryz.call16
def RA:List Nat:=[1,3,2,0]
section
variable {w0:World}{ρ:Hd}
theorem XY (r:Rl) (h:r.aU.length+r.rem.length<=549755813888):ah Tryz.prog w0 39 [rl ρ r] (iv ((r.aU.length+r.rem.length:Nat):Int)):=by
 obtain⟨n,ke,re,g,b,v⟩:=r;dsimp only at h ⊢;obtain⟨R,hR⟩:∃ R:Int,R=((ke.length+re.length:Nat):Int):=⟨_,rfl⟩;rw[<-hR];refine st ajm g39 .v ?_
 repeat' (first
  |refine lg g39 fun m hm=>?_
  |refine ag g39 fun _ _=>?_
  |(refine fq ?_))
 all_goals (subst_vars;exact jD (by omega))
theorem Kt (r:Rl) (h:r.aU.length+r.rem.length<=549755813888):ah Tryz.prog w0 16 [rl ρ r] (dy ρ (r.aU++r.rem)):=by
 have hC:=XY (w0:=w0) (ρ:=ρ) r h;have Qd:=nA (ρ:=ρ) r;obtain⟨n,ke,re,g,b,v⟩:=r;dsimp only at h hC ⊢;obtain⟨R,hR⟩:∃ R,R=ke++re:=⟨_,rfl⟩;rw[<-hR];obtain⟨N,hN⟩:∃ N,N=ke.length+re.length:=⟨_,rfl⟩;rw[<-hN] at hC;obtain⟨M,hM⟩:∃ M:Int,M=(N:Int):=⟨_,rfl⟩;rw[<-hM] at hC;refine st ajn RA ((b_ _)) ?_
 repeat' (first
  |refine og RA (af.aw rfl hC ⟨Qd,trivial⟩) ?_
  )
 refine ad.aiX (m:=N) ρ (atR ρ) rfl rfl rfl hM rfl (by omega) (by omega) fun acc jP=>?_;refine gq RA ?_;refine ad.abf (f:=atR ρ) (ys:=ke) rfl rfl rfl (by grind) rfl (fun _=>rfl) (fun _=>rfl) (by grind) fun vA xl al9 Du=>?_;refine gq RA ?_;refine ad.abf (f:=atR ρ) (ys:=re) rfl rfl rfl Du rfl (fun _=>rfl) (fun _=>rfl) (by grind) fun IF Nh Hj Dv=>?_;refine gq RA ?_;refine fq ?_;obtain rfl:IF=R:=by grind
 exact aR.aiY rfl Dv
end
end
section
set_option maxRecDepth 100000
attribute [local irreducible] ah aC af ad
def ajo:FQ 26 Tryz.f26:=a_ Tryz.func26 Tryz.call26
def vj:List Nat:=[0,4,3,2,7,11,22]
def ajp:FQ 10 Tryz.f10:=a_ Tryz.func10 Tryz.call10
def yr:List Nat:=[3,0,2,7,16]
def ajq:FQ 11 Tryz.f11:=a_ Tryz.func11 Tryz.call11
def vk:List Nat:=[0,5,4,1,9,13,22]
def xQ (l:List Tm):Bool:=decide (l.length<=8) && decide (bL l<=60)
theorem BS (a b:List Tm):bL (a++b)=bL a+bL b:=by
 induction a with
 |nil=>simp[bL]
 |cons x a ih=>rw[List.cons_append,bL,bL,ih];omega
section
variable {w0:World}{ρ:Hd}
theorem RB (l:List Tm) (hl:l.length<=1099511627776) (hz:bL l<=1099511627776):ah Tryz.prog w0 26 [tl ρ l] (.v (.bool (xQ l))):=by
 obtain⟨R,hR⟩:∃ R,R=xQ l:=⟨_,rfl⟩;rw[<-hR];unfold xQ at hR;refine st ajo vj .v ?_
 repeat' (first
  |refine cg vj (fun hb=>?_) fun hb=>?_
  |refine lg vj fun m hm=>?_
  |(refine fq ?_))
 ·grind[eA]
 rw[decide_eq_true (by omega),Bool.true_and] at hR;refine ad.bu (σ:=Int × Int) 0 0 [] (fun p=>[(0,tl ρ l),(3,.v (.int .i64 p.2)),(4,.v (.int .i64 p.1))]) [] (fun _=>[]) (fun p=>∃ k:Nat,p.1=k/\k<=l.length/\p.2=bL (l.take k)/\p.2<=60) (fun p=>l.length - p.1.toNat) (0,0) ⟨0,rfl,by simp,rfl,by simp⟩ rfl cq ?_;rintro⟨i,c⟩ ⟨k,hi,hk,hp,hc⟩;simp only at hi hp hc;refine gq vj ?_;by_cases aA:k < l.length
 ·obtain⟨x,hx,bK⟩:=bf aA;have ht:bL (l.take (k+1))=bL (l.take k)+dX x:=by grind[BS,bL]
  have hle:bL (l.take (k+1))<=bL l:=by
   have:=BS (l.take (k+1)) (l.drop (k+1));rw[List.take_append_drop] at this;omega
  have hS:=WJ (w0:=w0) (ρ:=ρ) _ x (Nat.le_refl _) (by omega);obtain⟨z,hz1⟩:∃ z,z=dX x:=⟨_,rfl⟩;rw[<-hz1] at ht hS;obtain⟨z1,LC⟩:∃ z:Int,z=(dX x:Nat):=⟨_,rfl⟩;clear bK;have LM:=aT (ρ:=ρ) x;obtain⟨xk,xi,xn,xa⟩:=x
  repeat' (first
   |refine og vj (af.ind rfl rfl (fm (l:=l) hi hx) fp) ?_
   |refine ig vj (af.aw rfl hS ⟨LM,trivial⟩) fun _ _=>?_
   |refine cg vj (fun hb=>?_) fun hb=>?_
   |refine lg vj fun m hm=>?_
   |refine ag vj fun _ _=>?_
   |refine ad.aH ?_;refine gq vj ?_
   |refine ad.cP ?_;refine gq vj ?_
   |(refine fq ?_))
  all_goals first
   |exfalso;omega
   |rw[hR,decide_eq_false (by omega)];exact eA rfl
   |(refine ad.aO (σ:=Int × Int) (_,_) [] ?_ ?_ cq
     ·grind
     ·simp only;omega)
 ·have ae7:l.take k=l:=List.take_of_length_le (by omega);rw[ae7] at hp
  repeat' (first
   |refine cg vj (fun hb=>?_) fun hb=>?_
   |refine lg vj fun m hm=>?_
   |refine ad.aH ?_;refine gq vj ?_
   |(refine fq ?_))
  all_goals first
   |exfalso;omega
   |rw[hR,decide_eq_true (by omega)];exact eA rfl
end
end
end Go.Proofs.YtbpabjmnhggajaaGreat
