import Derived.Test.YtbpabjmnhggajaaGreatOr39
namespace Go.Proofs.YtbpabjmnhggajaaGreat
set_option linter.all false
set_option maxRecDepth 100000
open Go.RowKit
variable {b dr ex:Bool}{Q:Exit->AA->af->Prop}{ρ:Hd}{ik:IntKind}{kn:KN}{ls vs:List (Int × Int)}{rows:List (List AV)}{z:List AV}{up:List Nat}{jP:List QO}{l r:List Tm}{K:List f_}{B N by_ i j m nl q sz ul:Nat}{o:Oper}{A:Option Addr}{a x:QO}{S:af}
section
variable {P:Program}{w0:World}{n B:Nat}{α:AA}{S:af}{dr:Bool}
theorem Ve {b:QO}{cp:Nat}(s:res P.toTables o.op=some (.append sz by_ a b)) (h:a.ev α.tm=.sl ex rows) (i:b.ev α.tm=.v (.slice A 0 cp)):a8 P w0 n o α S (.sl ex rows) S:=by
 obtain⟨c,t,t2,u,v,e,x,z,y,B,j,k,rfl,rfl,l,m,I,C,J,K,L⟩:=pG s;rw[aW]at h i;have j:c.argTypes=#[t,t2]:=by grind
 have k:c.args=#[u,v]:=by grind
 have l:P.underlying t=some (.slice e):=by grind[l9]
 have m:P.underlying t2=some (.slice x):=by grind[l9]
 refine a8.quiet λA g q w M p=>?_;have d:=p.ev u;have r:=p.ev v;rw[h]at d;rw[i]at r;have D:=b_ r;obtain⟨N,E,F,f,_⟩:=sR d;refine⟨q.eval u,?_,d⟩;have G:(execOp q.eval o).run P w=((Builtin.append_ #[t,t2] o.type #[q.eval u,q.eval v]).run P w).andThen λv H=>.ok (.value v) H:=by
  simp[execOp,y,resolve,B,j,k,invoke,builtin]
 rw[G,D,F,E2 l m C f]
 rfl
theorem acb {b:QO}(d:res P.toTables o.op=some (.append sz by_ a b)):a.ev (α.only (dH o)).tm=a.ev α.tm/\b.ev (α.only (dH o)).tm=b.ev α.tm/\∀c,o.op ≠ .defer c:=by
 obtain⟨c,t,t2,u,v,e,i,z,f,g,j,k,rfl,rfl,_⟩:=pG d
 have key:∀q ∈ [u,v],(α.only (dH o)).ev q=α.ev q:=λq l=>gm λt h=>gw (by
  rw[f,<-h];have:q ∈ c.args:=de_.1 (by grind);show q ∈ c.operands;simp[Call.operands,this,g])
 exact⟨by grind[aW],by grind[aW],λc e=>by grind⟩
theorem ae.HL {b:QO}{cp:Nat}(d:a.ev α.tm=.sl ex rows) (e:b.ev α.tm=.v (.slice A 0 cp)):ae P w0 false (.append sz by_ a b) α S (.sl ex rows) S:=λn o c=>(Ve c d e).ops (acb (α:=α) c).2.2
end
section
variable {P:Program}{w0:World}{n:Nat}{o:Oper}{α:AA}{S S':af}{r:AV}
theorem ae.anu {hi:QO}(K:x.ev α.tm=.sl true []) (y:hi.ev α.tm=.v (.int ik 0)):ae P w0 false (.slice (.sl m) x none (some hi) none) α S (.sl true []) S:=ae.run λn o L=>by
 obtain⟨t,u,z,C,D,M,rfl,d,E,f,⟨b,_⟩|⟨e,N,b,i,F⟩⟩:=QJ L
 ·grind
 ·injection b with b;subst b;have f:D=none:=by cases D with|none=>rfl|some _=>cases f
  subst f;have d:z=none:=by cases z with|none=>rfl|some _=>cases d
  subst d;obtain⟨a,rfl,rfl⟩:∃a,C=some a/\hi=qo a:=by
   cases C with
   |none=>cases E
   |some a=>exact⟨a,rfl,oJ_ E⟩
  rw[aW]at K y;refine a8.quiet λA g q w O j=>?_;have G:=j.ev u;rw[show α.ev u=_ from ‹α.ev u=_›]at G;obtain⟨B,c,H,_,Q⟩:=sR G;obtain rfl:c=0:=by grind
  have I:=j.ev a;rw[show α.ev a=_ from ‹α.ev a=_›]at I;have R:=b_ I;have p:=nU (P:=P) (isSl:=true) (len:=0) (cap:=0) (w:=w) (lo:=none) (hi:=some a) (l:=0) (h:=0) j rfl (by simp[mK,y]) (by omega) (by omega) (by omega);simp only[bj_,aE_,bV_]at p;have r:∃s,(Instr.slice t (q.eval u) (Option.map q.eval none) (Option.map q.eval (some a)) (Option.map q.eval none)).run P w=.ok (.slice s 0 0) w:=by
   cases B with
   |none=>exact⟨none,by simp[Instr.slice,H,run_underlying i,p,c6 F]⟩
   |some B=>exact⟨some B,by simp[Instr.slice,H,run_underlying i,p,c6 F]⟩
  obtain⟨s,r⟩:=r;have v:(execOp q.eval o).run P w=.ok (.value (.slice s 0 0)) w:=by
   simp only[execOp,M,Sem.run_bind,Bn i (λk e h=>by grind),r,Result.andThen_ok]
   rfl
  exact⟨_,v,.nil λ_=>rfl⟩
theorem ae.anv {k off len:Nat}{cx:Option Nat}{hi:QO}{j:Int}(a:x.ev α.tm=.ob k sz off len cx) (b:m=sz) (c:hi.ev α.tm=.v (.int ik j)) (h0:0<=j) (h1:j<=len):ae P w0 dr (.slice (.sl m) x none (some hi) none) α S (.ob k sz off j.toNat cx) S:=ae.afl λt h=>by
 rcases h with ⟨h,_⟩|⟨e,g,h,d,f⟩
 ·grind
 ·injection h with h;subst h b;simp only[a,bj_,aE_,c,r7,d,mK];exact⟨f,h0,h1,rfl,rfl⟩
end
section
variable {P:Program}{w0:World}{n:Nat}{α:AA}{S S':af}
theorem Cv.anw {t k:Nat}(u:S.get k=some (.arr sz rows 0 ex)) (q:α.tm t=.ob k sz 0 m none) (F:m<=rows.length):Cv w0 n α S ⟨bE α.tm t (.gr k sz m),α.df⟩ (S.set k (some (.arr sz (rows.take m) 0 false))):=by
 intro A g a w x b;refine⟨g,x.WE (ac_ _) λj r c G=>?_,⟨b.size,λs d=>?_,λs d=>?_,b.df,b.wK⟩,Ext.refl A g w⟩
 ·have c:bE S.get k (some (.arr sz (rows.take m) 0 false)) j=some r:=c;by_cases e:j=k
  ·subst e;rw[aJ]at c;obtain rfl:=oJ_ c;refine⟨_,u,λh=>?_,λJ h=>by cases h⟩;obtain⟨y,z,f,l,H,I,B,K,C⟩:=h;refine⟨y,z,f,l,by rw[aZ_];omega,(λh=>by cases h),λi row o=>?_,ax_ _,C⟩;rw[bG_]at o;split at o
   ·exact B i row o
   ·cases o
  ·rw[aO _ _ e]at c;exact⟨r,c,λh=>h,λJ h=>h⟩
 ·show aN g w (bE α.tm t _ s) _;by_cases e:s=t
  ·subst e;rw[aJ];have f:=b.tm s d;rw[q]at f;generalize a.tmps.getD s undef=v at f ⊢;cases f with
   |ob D L M E p =>
    rw[aW_];exact .gr D (by have:=E rfl;omega) p
  ·rw[aO _ _ e];exact b.tm s d
 ·show bE α.tm t _ s=.u;by_cases e:s=t
  ·subst e;have l:=b.out s d;rw[q]at l;cases l
  ·rw[aO _ _ e];exact b.out s d
theorem ae.K7 {len n:Nat}{i:QO}{k p:Nat}{j:Int}(h1:x.ev α.tm=.pt k sz p q) (h2:i.ev α.tm=.v (.int ik j)) (h3:j=m) (h4:m < len):ae P w0 dr (.GM len n x i) α S (.pt k sz p (q+m*n)) S:=by
 have:=ae.iu (P:=P) (w0:=w0) (α:=α) (S:=S) (dr:=dr) (len:=len) (n:=n) h1 h2 (by omega) (by omega);rw[show j.toNat=m by omega]at this;exact this
theorem ad.uc {σ T:Type}{a:List (Nat × AV)}{ds:List DE}{so:σ->List (Nat × Ob)}{I:List T->σ->Prop}{rest:List T}(so':List (Nat × Ob)) (m:List (Nat × Nat)) (b:Canon B N m α S [] [] so') (h:ad P w0 false n Q (.out .ret K) (jd a ds) (aq so' N)) :
  ad P w0 true n (RP P w0 n B N a ds so I Q K rest) (.out .ret []) α S:=⟨so',m,b,h⟩
end
section
attribute [local irreducible] ah aG ae ad
def qW (e:List Bd):Prop:=∀b ∈ e,b.t.ok
theorem qW.Kc {e:List Bd}(h:qW e) {v:Int}{u:Tm}(a:zh e v=some u):u.ok:=by
 unfold zh at a;cases c:e.find? λb=>b.v == v with
 |none=>rw[c]at a;cases a
 |some b=>rw[c]at a;obtain rfl:=oJ_ a;exact h b (cl_ c)
end
section
attribute [local irreducible] ah aG ae ad
end
section
attribute [local irreducible] ah aG ae ad
def ajm:FQ 238 Tryz.f238:=aF Tryz.func238 Tryz.call238
def anx:List Nat:=[2,0]
def aay:FQ 201 Tryz.f201:=aF Tryz.func201 Tryz.call201
def k_:List Nat:=[0,7,4,55,1,5,8,6,21,40,54,56,53,9,10]
theorem afA {v:Int}:aP S (.agg [.v (.int .i64 1),.v (.int .i64 v),.v (.string ⟨#[]⟩),.sl true []]) (tm ρ (vr v)):=by
 refine .agg rfl λi a d b c=>?_
 match i,b,c with
 |0,b,c=>obtain rfl:=oJ_ b;obtain rfl:=oJ_ c;exact .refl _
 |1,b,c=>obtain rfl:=oJ_ b;obtain rfl:=oJ_ c;exact .refl _
 |2,b,c=>obtain rfl:=oJ_ b;obtain rfl:=oJ_ c;exact .refl _
 |3,b,c =>
  obtain rfl:=oJ_ b;obtain rfl:=oJ_ c;rw[vr,tl,bX];exact aP.wk
def xH:Option Tm->List AV
 |none=>[iv 0,iv 0,.v (.string ⟨#[]⟩),.sl true []]
 |some x=>iN x
theorem acd (x:Option Tm):(xH x).length=4:=by cases x with|none=>rfl|some x=>exact ov x
theorem ace (l:List Tm):List.map xH (l.map some)=List.map iN l:=by rw[bl_];rfl
theorem gX7 {a:aS}{sh:List (Int × Int)}(h0:S.get 0=some (gO nl ul):=by rfl) (h1:S.get 1=some (fS ρ a):=by rfl) (h2:S.get 2=some (bZ ρ vs):=by rfl) (h3:S.get 3=some (cI ρ up):=by rfl)
  (h4:S.get 4=some (fT ρ sh):=by rfl) (h5:S.get 5=some (bZ ρ ls):=by rfl) (h6:S.get 6=some (fU ρ kn):=by rfl):fO 7 [] N S (gX ρ nl ul a vs up sh ls kn):=gC h0 h1 h2 h3 h4 h5 h6
theorem NK {f:Nat->List Nat->Option (Tm × List Nat)}(c:∀r u t d,f r u=some (t,d)->d.length=u.length):∀(l:List Nat) {up a:List Nat}{b:List Tm},zf f l up=some (b,a)->a.length=up.length/\b.length=l.length
 |[],up,a,b,h=>by grind[zf]
 |x::l,up,a,b,h=>by
  rw[zf]at h;split at h
  ·grind
  ·rename_i u r e;have k:=jz e;split at h
   ·grind
   ·rename_i t m g;have n:=c _ _ _ _ g;split at h
    ·grind
    ·rename_i i o j;obtain⟨p,q⟩:=NK c l j;simp only[oI_,pI_]at h;obtain⟨rfl,rfl⟩:=h;exact⟨by omega,by grind⟩
theorem Bs {N:aS}{sh ls:List (Int × Int)}:∀(m:Nat) (r:Nat) (up:List Nat) (t:Tm) (a:List Nat),zg N sh ls m r up=some (t,a)->a.length=up.length
 |0,_,_,_,_,h=>by cases h
 |m+1,r,up,t,a,h=>by
  rw[zg]at h;split at h
  ·grind
  ·split at h
   ·split at h
    ·grind
    ·split at h
     ·split at h
      ·grind
      ·split at h
       ·grind
       ·rename_i b;have:=(NK (Bs m) _ b).1;simp only[oI_,pI_]at h;obtain⟨rfl,rfl⟩:=h;exact this
     ·grind
   ·grind
theorem ad.xI {P:Program}{w0:World}{rd:Bool}{n:Nat}{α:AA}{id:Nat}{b:QC}(h:ad P w0 rd n Q (.out .normal (.seq b::K)) α S):ad P w0 rd n Q (.out (.exit id) (.yb id::.seq b::K)) α S:=by
 simp only[ad,dS,bp_]at h ⊢;exact h
theorem NL (x:Option Tm) :∀a ∈ xH x,ec B a:=by
 intro a b;cases x with
 |some x=>exact Pure.bm (wO x a b)
 |none =>
  simp only[xH,ad_,as_,or_false]at b;rcases b with rfl|rfl|rfl|rfl<;>first|exact .v|exact wz
theorem acf (b:List (Option Tm)) :h_ B (.arr 4 (ρ.h (List.map xH) b) 0 ex):=by
 show ∀row ∈ ρ.h (List.map xH) b,∀a ∈ row,ec B a;rw[ρ.eq];intro row c a d;obtain⟨x,_,rfl⟩:=av_.1 c;exact NL x a d
theorem afB {c:aS}{sh:List (Int × Int)}{t:Tm}{b:List (Option Tm)}(f:S.get 7=some (.arr 4 [xH none] 0 true):=by rfl) (g:S.get 8=some (.arr 4 [je ρ t] 0 true):=by rfl) (h:S.get 9=some (.arr 4 (ρ.h (List.map xH) b) 0 true):=by rfl) (h0:S.get 0=some (gO nl ul):=by rfl) (h1:S.get 1=some (fS ρ c):=by rfl) (h2:S.get 2=some (bZ ρ vs):=by rfl) (h3:S.get 3=some (cI ρ up):=by rfl)
  (h4:S.get 4=some (fT ρ sh):=by rfl) (h5:S.get 5=some (bZ ρ ls):=by rfl) (h6:S.get 6=some (fU ρ kn):=by rfl):fO 10 [] N S [(0,gO nl ul),(1,fS ρ c),(2,bZ ρ vs),(3,cI ρ up),(4,fT ρ sh),(5,bZ ρ ls),(6,fU ρ kn),(7,.arr 4 [xH none] 0 true),(8,.arr 4 [je ρ t] 0 true),(9,.arr 4 (ρ.h (List.map xH) b) 0 true)] :=
 ⟨.inl ⟨_,h0,.same (o6 (by omega))⟩,.inl ⟨_,h1,.same (mq _)⟩,.inl ⟨_,h2,.same (eK _)⟩,.inl ⟨_,h3,.same (fy _)⟩,.inl ⟨_,h4,.same (lQ _)⟩,.inl ⟨_,h5,.same (eK _)⟩,.inl ⟨_,h6,.same (lP _)⟩,.inl ⟨_,f,.same (λrow d a e=>by obtain rfl:=ae_.1 d;exact NL none a e)⟩,
  .inl ⟨_,g,.same (λrow d a e=>by grind[Pure.bm,wP])⟩,.inl ⟨_,h,.same (acf _)⟩,trivial⟩
section
variable {w0:World}{ρ:Hd}
theorem aaA (v:Int):ah Tryz.prog w0 238 [iv v] (tm ρ (vr v)):=by
 refine st ajm anx (bQ _) ?_
 repeat' (first
  |(refine fq ?_))
 exact afA
theorem NM {N:aS}{sh:List (Int × Int)}(hN:zW N) (Z:nl=N.length) (jx:ul<=1099511627776):∀(m:Nat) {r:Nat}{up C:List Nat}{t:Tm},up.length=ul->zg N sh ls m r up=some (t,C) ->
  aG Tryz.prog w0 201 [.pt 0 6 0 0,iv r] (aq (gX ρ nl ul N vs up sh ls kn) 7) (tm ρ t) (aq (gX ρ nl ul N vs C sh ls kn) 7):=by
 intro m
 induction m with
 |zero=>intro r up C t _ h;cases h
 |succ m ih =>
  intro r up C t hu h;rw[zg]at h;obtain⟨F,P6⟩:∃F:Int,F=r:=⟨_,rfl⟩;rw[<-P6]at h ⊢;split at h
  ·rename_i o;simp only[oI_,pI_]at h;obtain⟨rfl,rfl⟩:=h;refine sc 7 7 aay ?_;unfold gX;refine gq k_ ?_;refine ad.look (ρ:=ρ) (f:=iv) (kv:=sh) rfl rfl rfl rfl (λk w=>?_) (λw=>?_)
   ·grind
   obtain⟨c,z⟩:∃c,c=(aH ls F).getD 0:=⟨_,rfl⟩;rw[<-z];refine gq k_ ?_;refine ad.g_ (ρ:=ρ) (f:=iv) (kv:=ls) rfl rfl rfl rfl (λv G=>?_) (λG=>?_)
   ·rw[G]at z;obtain rfl:c=v:=z;refine gq k_ ?_;apply bK k_ (aaA (ρ:=ρ) c);refine fq ?_;exact⟨[],.aC (Pure.bm (bQ (vr c))),gX7,rfl⟩
   ·rw[G]at z;obtain rfl:c=0:=z;refine gq k_ ?_;apply bK k_ (aaA (ρ:=ρ) 0);refine fq ?_;exact⟨[],.aC (Pure.bm (bQ (vr 0))),gX7,rfl⟩
  ·rename_i k o;split at h;rotate_left
   ·grind
   rename_i h00;obtain⟨J8,C9⟩:∃n:Nat,n=k.toNat:=⟨_,rfl⟩;rw[<-C9]at h;split at h
   ·grind
   rename_i t0 l QZ;split at h;rotate_left
   ·grind
   rename_i H;have q2:k=(J8:Int):=by omega
   have g2:=hN _ _ _ QZ;have i2:J8 < nl:=by grind
   have D:=bW (ρ:=ρ) (f:=vQ ρ) QZ;obtain⟨I,J,K,L⟩:=t0;rw[vQ]at D;simp only at D H g2 h;have hpu:Pure (aR ρ c8 false l):=dT λx _ a ha=>by
    obtain rfl:=ae_.1 ha;exact .v
   refine sc 7 7 aay ?_;unfold gX;refine gq k_ ?_;refine ad.look (ρ:=ρ) (f:=iv) (kv:=sh) rfl rfl rfl rfl (λk2 w=>?_) (λw=>?_);rotate_left
   ·grind
   rw[o]at w;obtain rfl:=oJ_ w;refine gq k_ ?_;refine ad.op rfl (ae.dg rfl rfl q2 i2) ?_;refine ad.op rfl (ae.quiet rfl) ?_;refine og k_ (ae.fk rfl rfl D rfl) ?_;refine lg k_ λq1 tA=>?_;refine cn (λaZ=>?_) λaZ=>?_
   ·rw[if_pos (by omega)]at h;simp only[oI_,pI_]at h;obtain⟨rfl,rfl⟩:=h;refine gq k_ ?_;refine fq ?_;exact⟨[],.aC (Pure.bm (bQ ⟨I,J,K,L⟩)),gX7,rfl⟩
   rw[if_neg (by omega)]at h;split at h
   ·grind
   rename_i g u hex;simp only[oI_,pI_]at h;obtain⟨rfl,rfl⟩:=h;refine gq k_ ?_;refine lg k_ λq3 B1=>?_;obtain⟨j,M⟩:∃j,j=L.length:=⟨_,rfl⟩;rw[<-M]at B1;refine ad.Zx (m:=j) ρ xH none rfl rfl rfl B1 rfl (by omega) (by omega) λO P=>?_;refine gq k_ ?_;refine ad.op rfl (ae.dg rfl rfl q2 i2) ?_;refine ad.op rfl (ae.quiet rfl) ?_;refine og k_ (ae.fk rfl rfl D rfl) ?_;refine ad.int rfl (ae.len rfl) λq GJ=>?_;rw[au]at GJ;refine gq k_ ?_;have aT:j=l.length:=by omega
   rw[aT]at P
   refine ad.aK (σ:=Int × List Nat × List (Option Tm)) 10 10 [] (λp=>[(0,.pt 0 6 0 0),(4,.pt 7 4 0 0),(7,.pt 8 4 0 0),(8,.ob 9 4 0 j none),(53,aR ρ c8 false l),(54,iv q),(55,iv p.1)]) []
    (λp=>[(0,gO nl ul),(1,fS ρ N),(2,bZ ρ vs),(3,cI ρ p.2.1),(4,fT ρ sh),(5,bZ ρ ls),(6,fU ρ kn),(7,.arr 4 [xH none] 0 true),(8,.arr 4 [je ρ ⟨I,J,K,L⟩] 0 true),(9,.arr 4 (ρ.h (List.map xH) p.2.2) 0 true)])
    (λp=>∃i:Nat,p.1=i/\i<=l.length/\p.2.1.length=ul/\∃d rest:List Tm,d.length=i/\p.2.2=d.map some++List.replicate (l.length - i) none/\zf (zg N sh ls m) (l.drop i) p.2.1=some (rest,u)/\d++rest=g) (λp=>l.length - p.1.toNat)
    (0,up,O) ⟨0,rfl,by simp,hu,[],g,rfl,by grind,by grind,rfl⟩ rfl (by exact⟨sq,rfl,afB,rfl,rfl,rfl⟩) ?_
   rintro⟨ii,jw,A⟩ ⟨i,Q,vB,R,d,rest,hd,S,b,rL⟩;simp only at Q vB R S b;refine gq k_ ?_;refine cn (λbf=>?_) λbf=>?_
   ·have E:i < l.length:=by omega
    obtain⟨x,hx⟩:∃x,l[i]?=some x:=⟨_,ai_ E⟩;obtain⟨xa,xb⟩:=ar_.1 hx;rw[bq_ xa,xb,zf]at b;split at b
    ·grind
    rename_i u2 cl hr;split at b
    ·grind
    rename_i B u3 Vg;split at b
    ·grind
    rename_i T u4 iD;simp only[oI_,pI_]at b;obtain⟨rfl,rfl⟩:=b;have U:=Ai (w0:=w0) (ρ:=ρ) (s:=⟨N,vs,⟨jw,sh,ls⟩⟩) (kn:=kn) (by grind) hr;have mH:u2.length=ul:=by rw[jz hr,R]
    have vS:u3.length=ul:=by grind[Bs]
    simp only at U;rw[<-jq Z R,<-jq Z mH]at U;have c2:=ih mH Vg;have hml:A.length=l.length:=by grind
    refine gq k_ ?_;refine og k_ (ae.ind rfl rfl (aB (l:=l) Q hx) (aA λ_=>rfl)) ?_;refine og k_ (ae.iA U rfl (aq_ rfl) (dJ (by decide)) (oq) (dJ (by decide)) (s8 (by decide) .v) .v) ?_;refine og k_ (ae.iA c2 rfl (aq_ rfl) (dJ (by decide)) (oq) (dJ (by decide)) (s8 (by decide) .v) (Pure.bm (bQ B))) ?_;refine ad.op rfl (ae.Nm rfl rfl Q (by omega)) ?_;refine ad.Dj (f:=xH) (y:=some B) rfl rfl rfl (pM B).symm (by show (iN B).all dh=true;rw[pM (ρ:=ρ)];rfl) acd rfl (by omega) (λV W=>?_);refine gq k_ ?_;refine ag k_ λi3 de=>?_;refine ad.az (σ:=Int × List Nat × List (Option Tm)) (i3,u3,V) [] ⟨i+1,by grind,by omega,vS,d++[B],T,by grind,?_,iD,by grind⟩ ?_ (by exact⟨sq,rfl,afB,rfl,rfl,rfl⟩)
    ·have e:l.length - i=(l.length - (i+1))+1:=by omega
     simp only;rw[W,S,e,List.replicate_succ,bC_ _ _ (by grind)];simp[hd]
    ·grind
   ·have E:i=l.length:=by omega
    rw[E,aA_ (ac_ _),zf]at b;simp only[oI_,pI_]at b;obtain⟨rfl,rfl⟩:=b;rw[aB_]at rL;have X:ρ.h (List.map xH) A=ρ.h (List.map iN) g:=by
     rw[ρ.eq,ρ.eq,S,E,bk_,List.replicate_zero,aB_,ace,rL]
    have Y:j=(ρ.h (List.map iN) g).length:=by grind[au]
    refine gq k_ ?_;refine ad.ao ?_;refine ad.xI (ad.BS (Cv.freeze (t:=8) (k:=9) (rows:=ρ.h (List.map iN) g) (by rw[<-X];rfl) rfl (.inr ⟨_,rfl⟩) Y (ax_ _)) ?_);refine gq k_ ?_;refine fq ?_;exact⟨[],.aC (Pure.bm (bQ ⟨I,J,K,g⟩)),gX7,rfl⟩
end
end
section
variable {P:Program}{w0:World}{n:Nat}{o:Oper}{α:AA}{S S':af}{r:AV}
theorem HN (w:World) (t t2 ty e:TypeId) (i:TypeInfo) (z:Value) {kk k:IntKind}(l:P.underlying t=some (.slice e)) (m:P.underlying t2=some (.int kk)) (hi:P.info? e=some i) (o:i.zero=some z) (B:Option Addr) (n:Nat) (x:0 < i.size)
  (h0:0 < n) (p:(n:Int)<=9223372036854775807) (q:n*i.bytes<=281474976710656) :
  (Builtin.append_ #[t,t2] ty #[.slice B 0 0,.int k n]).run P w =
   .ok (.slice (some ⟨w.heap.size,0,none⟩) n (grownCap w n 0 e)) (w.drew.alloc (.cells (Builtin.zeroCells z.cells n++Builtin.zeroCells z.cells (grownCap w n 0 e - n)) e)):=by
 have r:n ≠ 0:=by omega
 have a:i.size ≠ 0:=by omega
 have c:¬ (9223372036854775807 < (n:Int)):=by omega
 have d:¬ (281474976710656 < Builtin.nextslicecap n 0*i.bytes):=by rw[nextslicecap_zero h0];omega
 have s:IntKind.i64.wrap (n:Int)=n:=by rw[IntKind.wrap_i64];omega
 have f:¬ (n:Int) < 0:=by omega
 have g:¬ (281474976710656 < (n:Int)*i.bytes):=by grind
 have u:∀w:World,(Builtin.firstCells i.size 0 (.slice B 0 0)).run P w=.ok #[] w:=λw=>by
  cases B with
  |none=>simp[Builtin.firstCells]
  |some b=>simpa using run_firstCells_some (P:=P) (w:=w) i.size 0 b 0 0 [] (by simp) (λj v h=>by grind)
 simp[Builtin.append_,run_underlying l,run_underlying m,sizeOf,typeInfo,zeroValue,hi,o,asInt,asIntOf,s,f,g,r,a,c,d,Question.forced,u,newRow,grownCap];intro h;rcases Nat.mul_eq_zero.1 h with h|h
 ·omega
 ·omega
theorem X_ {b:QO}{o:Op}(h:res P.toTables o=some (.Ya z by_ a b)):∃c t t2 u v e kk f sz,o=.call c/\c.callee=.builtin .append/\c.argTypes=#[t,t2]/\c.args=#[u,v]/\a=qo u/\b=qo v/\P.underlying t=some (.slice e)/\P.underlying t2=some (.int kk)/\d_ P e=some f /\
  ep P e=some sz/\ku P e=some by_/\f.cells.size=sz/\0 < by_/\z=f.cells.toList.map cK:=by
 have d:∀{g:Type}{x y:g}{l:Array g},l.toList=[x,y]->l=#[x,y]:=λ{g x y l} h=>by grind
 cases o<;>simp only[res,cF,fX,oa,ky,nc]at h<;>(repeat' split at h)<;>(try cases h)
 rename_i i;simp only[al_]at i;exact⟨_,_,_,_,_,_,_,_,_,rfl,by grind,d (by assumption),d (by grind),rfl,rfl,yA (by assumption),by assumption,by grind,by grind,by grind,aH_ i.1,lk i.2,rfl⟩
theorem ae.ajp {b:QO}{k:IntKind}{m:Int}(h1:a.ev α.tm=.sl true []) (h2:b.ev α.tm=.v (.int k m)) (h0:0 < m) (h4:m*by_<=35184372088832) (N:0 < z.length) :
  ae P w0 false (.Ya z by_ a b) α S (.ob S.nx z.length 0 m.toNat none) (S.new (.arr z.length (List.replicate m.toNat z) 0 false)):=ae.run λn o l=>by
 obtain⟨c,t,t2,u,v,e,kk,f,sz,O,Q,R,T,rfl,rfl,U,V,W,X,pe,r,Y,rfl⟩:=X_ l;have D:(f.cells.toList.map cK).length=sz:=by grind
 rw[D]at N ⊢;rw[aW]at h1 h2;intro A g q w E F;have G:=F.ev u;have H:=F.ev v;rw[h1]at G;rw[h2]at H;obtain⟨B,cc,Z,_,kH⟩:=sR G;have xh:cc=0:=by grind
 subst xh;have e2:=b_ H;obtain⟨i,hi,bO⟩:=o7 X;have uH:i.zero=some f:=by grind[d_]
 have BY:i.bytes=by_:=by grind[ku]
 obtain⟨d,rfl⟩:∃d:Nat,m=d:=⟨m.toNat,by omega⟩;have xy:0 < d:=by omega
 have s:d*by_<=35184372088832:=by grind
 have hmul:d<=35184372088832:=ay_ (cV_ _ Y) s;have dF:=HN (P:=P) w t t2 o.type e i f (k:=k) U V hi uH B d (by omega) xy (by omega) (by grind);have MT:=grownCap_ge w d 0 e;obtain⟨x,UC⟩:=E.drew;have xw:∀q,¬ g.fz w.heap.size q:=λq hf=>absurd (E.dw _ _ hf) (bK_ _);obtain⟨hE,eC⟩:=UC.new (.cells (Builtin.zeroCells f.cells d++Builtin.zeroCells f.cells (grownCap w d 0 e - d)) e) (.arr sz (List.replicate d (f.cells.toList.map cK)) 0 false) (grownCap w d 0 e) (λJ=>by simp) (λhL=>by
  refine⟨_,e,dZ,?_,by grind,λh=>by grind,λp row l=>?_,ax_ _,λq=>⟨λh=>absurd h (xw q),λh=>by grind⟩⟩
  ·simp only[Array.size_append,size_zeroCells,r];rw[<-aJ_];congr 1;omega
  ·obtain⟨I,rfl⟩:=ar_.1 l;simp only[bH_]at I;simp only[cX_];refine⟨D,λj b' K=>?_⟩;simp only[aS_,ba_]at K;obtain⟨y,hy,rfl⟩:=K;have L:j < sz:=by grind
   refine⟨y,?_,rE y⟩;have aw:p*sz+j < d*sz:=o3 I L;have M:j < f.cells.size:=by omega
   have e3:(p*sz+j) % f.cells.size=j:=by
    rw[r,cs_,ct_];exact cu_ L
   rw[ca_ (by rw[size_zeroCells,r];exact aw)];unfold Builtin.zeroCells;rw[bZ_,cr_,if_pos (by grind)];simp only[aE_,e3];rw[getElem!_pos f.cells j M,<-hy,bd_,aG_ M])
 have C:(execOp q.eval o).run P w=.ok (.value (.slice (some ⟨w.heap.size,0,none⟩) d (grownCap w d 0 e))) (w.drew.alloc (.cells (Builtin.zeroCells f.cells d++Builtin.zeroCells f.cells (grownCap w d 0 e - d)) e)):=by
  have C:(execOp q.eval o).run P w=((Builtin.append_ #[t,t2] o.type #[q.eval u,q.eval v]).run P w).andThen λv w'=>.ok (.value v) w':=by
   simp[execOp,O,resolve,Q,R,T,invoke,builtin]
  rw[C,Z,e2];simp only[aN_];rw[dF]
  rfl
 refine⟨_,_,_,.inl C,?_,eC,x.trans hE⟩
 have:=aN.ob (g:=g.new S.nx w.drew.heap.size (grownCap w d 0 e)) (w:=w.drew.alloc (.cells (Builtin.zeroCells f.cells d++Builtin.zeroCells f.cells (grownCap w d 0 e - d)) e))
  (k:=S.nx) (sz:=sz) (off:=0) (len:=d) (c:=grownCap w d 0 e) (cx:=none) (.inr rfl) (λm h=>by grind) (by rw[aD_];exact bN_ (aJ _ _ _).symm) (λ_=>by rw[aD_];exact (aJ _ _ _).symm) MT
 rw[show (g.new S.nx w.drew.heap.size (grownCap w d 0 e)).ob S.nx=w.heap.size from aJ _ _ _,aW_]at this;exact this
theorem acg {o:Op}(h:res P.toTables o=some (.cap a)):∃c t u e,o=.call c/\c.callee=.builtin .cap/\c.argTypes=#[t]/\c.args=#[u]/\a=qo u/\P.underlying t=some (.slice e):=by
 cases o<;>simp only[res,cF]at h<;>(repeat' split at h)<;>(try cases h)
 exact⟨_,_,_,_,rfl,by grind,toList_one (by assumption),toList_one (by grind),rfl,by assumption⟩
def afD:AV->Option Nat
 |.sl true rows=>some rows.length
 |.ob _ _ _ _ (some c)=>some c
 |_=>none
theorem ae.cap (a:afD (x.ev α.tm)=some m):ae P w0 false (.cap x) α S (.v (.int .i64 m)) S:=ae.run λn o b=>by
 obtain⟨c,t,u,e,d,f,h,i,rfl,j⟩:=acg b;rw[aW]at a;refine a8.quiet λA g q w r k=>?_;have s:=k.ev u;have key:∃B l,q.eval u=.slice B l m:=by
  unfold afD at a;split at a
  ·grind[sR]
  ·grind[nt]
  ·grind
 obtain⟨B,l,p⟩:=key;refine⟨_,?_,.v⟩;simp[execOp,d,resolve,f,h,i,invoke,builtin,p,Builtin.cap_,run_underlying j,goInt]
end
abbrev Fb:=Nat × List Nat
def afE:List Nat->Nat->Bool
 |[],_=>false
 |a::l,k=>match Nat.beq a k with|true=>true|false=>afE l k
def inK (l:Fb) (k:Nat):Bool:=match Nat.blt k l.1 with|true=>true|false=>afE l.2 k
section
variable {P:Program}{w0:World}{n B:Nat}{α aE:AA}{S S':af}{r:AV}{ops:Array Oper}{D:Nat->Dt × Option Fb}
def GSX (P:Program) (w0:World) (n:Nat) (ops:Array Oper) (B:Nat) (i:Nat) (d:Dt × Option Fb) (α:AA) (S:af) (α1:AA) (S1:af):Prop:=match d.2 with
 |none=>uX P w0 n ops B i d.1 α S α1 S1
 |some l=>∃o,ops[i]?=some o/\(match o.dst with|some d=>Nat.blt d n|none=>true)=true/\F7 ops i=false/\B<=S.nx/\S.nx<=S1.nx/\(∀k,inK l k=true->S1.get k=S.get k) /\
   (o.guard=none\/∃j want,o.guard=some (j,want)/\uG ops α j=some (some want))/\∃r,α1=α.put o.dst r/\iY P w0 n o (α.only (dH o)) S r S1
def rdr (x:List Nat × List Nat × Bool) (l:Fb):Bool:=match x with
 |(F,[],false)=>F.all (inK l ·)
 |_=>false
def Kc (d:Dt × Option Fb):List Nat × List Nat × Bool:=match d.2 with
 |none=>d.1.ns
 |some l=>(l.1::l.2,[],true)
def isX (x:List Nat × List Nat × Bool):Option Fb:=match x with
 |(a::u,[],true)=>some (a,u)
 |_=>none
inductive F8 (P:Program) (w0:World) (n:Nat) (ops:Array Oper) (B:Nat) (D:Nat->Dt × Option Fb):List Nat->AA->af->AA->af->Prop where
 |nil (α:AA) (S:af):F8 P w0 n ops B D [] α S α S
 |cons {i:Nat}{rest:List Nat}{α α1 aE:AA}{S S1 S':af}(h:GSX P w0 n ops B i (D i) α S α1 S1) (t:F8 P w0 n ops B D rest α1 S1 aE S'):F8 P w0 n ops B D (i::rest) α S aE S'
end
def qK (T:Tables) (n:Nat):Code->Option QC
 |.skip=>some .skip
 |.label _=>some .skip
 |.region _ ops dr=>match qX T n ops.toList ops.toList with
  |some l=>match dr with
   |false=>some (.bc false l)
   |true=>match Er ops with
    |true=>some (.j6 (HO ops) l)
    |false=>none
  |none=>none
 |.seq a b=>match qK T n a,qK T n b with
  |some d,some e=>some (.seq d e)
  |_,_=>none
 |.cond c a b=>match qK T n a,qK T n b with
  |some d,some e=>some (.cond (qo c) d e)
  |_,_=>none
 |.block id a=>match qK T n a with
  |some d=>some (.block id d)
  |none=>none
 |.scope a=>match qK T n a with
  |some d=>some (.scope d)
  |none=>none
 |.loop a=>match qK T n a with
  |some d=>some (.loop d)
  |none=>none
 |.exit id=>some (.exit id)
 |.ret=>some .ret
 |.rangeFunc f g a b=>match qK T n a,qK T n b with
  |some d,some e=>some (.RQ (qo f) g.toList d e)
  |_,_=>none
 |c=>some (.raw c)
def okE (x y:List Nat × List Nat × Bool):Bool:=match isX x,isX y with
 |none,none=>dj x y
 |some l,none=>rdr y l
 |none,some l=>rdr x l
 |some _,some _=>false
def anF (V:List (Nat × Nat)) (lg:List (List Nat × List Nat × Bool)):Bool:=V.all λp=>okE (I7 lg p.1) (I7 lg p.2)
def Dt.ok (d:Dt):Prop:=isX d.ns=none
section
variable (P:Program) (w0:World) (rd:Bool) (n:Nat)
def QWx (b:QC) (Q:Exit->AA->af->Prop) (α:AA) (S:af):Prop:=∀c,qK P.toTables n c=some b->fP P c=true->Wp P w0 rd n c Q α S
def po (Q:Exit->AA->af->Prop):List f_->Exit->AA->af->Prop
 |[]=>Q
 |.seq b::K=>λex α S=>match ex with|.normal=>QWx P w0 rd n b (po Q K) α S|e=>po Q K e α S
 |.yb id::K=>λex α S=>match ex with|.exit j=>(match Nat.beq j id with|true=>po Q K .normal α S|false=>po Q K (.exit j) α S)|e=>po Q K e α S
 |.LG::K=>λex α S=>match ex with|.goto _=>False|e=>po Q K e α S
def SU (B:Nat) (V:List (Nat × Nat)) (lg:List (List Nat × List Nat × Bool)) (l:List QI) (Q:AA->af->Prop) (α:AA) (S:af):Prop :=
 ∀ops:List Oper,qX P.toTables n ops (ops.drop lg.length)=some l->HO ops.toArray=V->∃(D:Nat->Dt × Option Fb) (aE:AA) (S':af),F8 P w0 n ops.toArray B D (List.range' lg.length l.length) α S aE S' /\
  anF V (lg++(List.range' lg.length l.length).map λi=>Kc (D i))=true/\(∀i ∈ List.range' lg.length l.length,(D i).2=none->(D i).1.ok)/\Q aE S'
def wpX (Q:Exit->AA->af->Prop):QF->AA->af->Prop
 |.run c K,α,S=>QWx P w0 rd n c (po P w0 rd n Q K) α S
 |.out ex K,α,S=>po P w0 rd n Q K ex α S
 |.bc dr l K,α,S=>match dr with
  |false=>jB P w0 n false l (λα S=>po P w0 rd n Q K .normal α S) (λa α S=>po P w0 rd n Q K (.panic a) α S) α S
  |true=>False
 |.j6 B V lg b l K,α,S=>(∀k ∈ b,k < B)->B<=S.nx->SU P w0 n B V lg l (λα S=>po P w0 rd n Q K .normal α S) α S
end
section
variable {P:Program}{w0:World}{rd:Bool}{n:Nat}{α aE:AA}{S S':af}{Q Q':Exit->AA->af->Prop}{ex:Exit}{r:AV}{i:QI}{l:List QI}{R:AA->af->Prop}
variable {K:List f_}
theorem wpX.op (a:bG α.tm i.g=some true) (h:ae P w0 false i.q α S r S') (k:wpX P w0 rd n Q (.bc false l K) (bP i.d α r) S'):wpX P w0 rd n Q (.bc false (i::l) K) α S:=by
 show jB P w0 n false (i::l) _ _ α S;exact jB.op a h k
theorem F8.congr {ops:Array Oper}{D a:Nat->Dt × Option Fb}:∀{L:List Nat}{α aE:AA}{S S':af},(∀i ∈ L,D i=a i)->F8 P w0 n ops B D L α S aE S'->F8 P w0 n ops B a L α S aE S'
 |[],_,_,_,_,_,.nil ..=>.nil ..
 |i::rest,_,_,_,_,b,.cons h t=>.cons (by grind) (t.congr λj c=>b j (by grind))
theorem SU.step {V:List (Nat × Nat)}{lg:List (List Nat × List Nat × Bool)}{d:Dt × Option Fb}{α1:AA}{S1:af}(m:d.2=none->d.1.ok)
  (p:∀ops o rest,ops.drop lg.length=o::rest->qE n o.dst=true->o.dst=i.d->res P.toTables o.op=some i.q->(∀b,bG α.tm i.g=some b->kU ops α o=some b)->GSX P w0 n ops.toArray B lg.length d α S α1 S1)
  (k:SU P w0 n B V (lg++[Kc d]) l R α1 S1):SU P w0 n B V lg (i::l) R α S:=by
 intro ops g h;obtain⟨o,rest,j,q,r,s,t,u⟩:=rM (α:=α) g;obtain⟨v,w⟩:=yN j;obtain⟨D,aE,S',c,a,k4,k3⟩:=k ops (by grind) h;simp only[af_,bi_]at c a k4;refine⟨λi=>if i=lg.length then d else D i,aE,S',?_,?_,?_,k3⟩
 ·rw[aw_,cC_];refine .cons (by grind) (c.congr λi f=>?_);have:=(List.mem_range'_1.1 f).1;rw[if_neg (by omega)]
 ·rw[aw_,cC_,aC_];simp only[if_pos];have e:((List.range' (lg.length+1) l.length).map λi=>Kc (if i=lg.length then d else D i))=(List.range' (lg.length+1) l.length).map λi=>Kc (D i):=aF_ λi f=>by grind
  rw[e];rw[bc_]at a;exact a
 ·grind
structure QFx (P:Program) (f:FuncId) (q:QC × List QR) (n:Nat):Prop where
 out:∃fn c,P.funcs[f]?=some fn/\fn.body=some c/\fn.ntmps=n/\xJ P.toTables fn.results.toList=some q.2/\qK P.toTables n c=some q.1/\fP P c=true/\∀(xs:Array Value) (w:World),(callFunc f xs).run P w=.ok (.enter f xs) w
def aaB (T:Tables) (fn:Func):Option (QC × List QR):=match fn.body with
 |some c=>match qK T fn.ntmps c,xJ T fn.results.toList with
  |some q,some a=>some (q,a)
  |_,_=>none
 |none=>none
theorem QFx.of {f:FuncId}{q:QC × List QR}{fn:Func}{T:Tables}(e:P.funcs[f]?=some fn) (a:aaB T fn=some q) (g:P.toTables=T) (h:fn.ntmps=n) (b:GU P fn=true)
  (i:∀(xs:Array Value) (w:World),(callFunc f xs).run P w=.ok (.enter f xs) w):QFx P f q n:=by
 subst g;unfold aaB at a;unfold GU at b;cases d:fn.body with
 |none=>rw[d]at a;cases a
 |some c =>
  rw[d]at a b;simp only at a;split at a
  ·rename_i q1 k l j;obtain rfl:=oJ_ a;exact⟨⟨fn,c,e,d,h,j,by grind,b,i⟩⟩
  ·grind
end
section
attribute [local irreducible] ah aG ae ad
def SV:FQ 79 Tryz.f79:=aF Tryz.func79 Tryz.call79
def lM:List Nat:=[0,6,1,26,7,4,5,8,17,25,27,45]
def gN (ρ:Hd):List (Nat × Option Ob):=[(0,some (gO 0 0)),(1,some (fS ρ [])),(2,some (bZ ρ [])),(3,some (cI ρ [])),(4,some (fT ρ [])),(5,some (bZ ρ [])),(6,some (fU ρ []))]
theorem gNB:gT (dz (aU []) 0 0) (gS ρ ⟨[],[],⟨[],[],[]⟩⟩ []) (gN ρ) :=
 ⟨⟨0,_,rfl,rfl,.row ⟨.gr rfl,.mp rfl,.gr rfl,.mp rfl,.mp rfl,.mp rfl,trivial⟩⟩,⟨1,_,rfl,rfl,.pure (ud _)⟩,⟨2,_,rfl,rfl,.mb (fw kK _)⟩,⟨3,_,rfl,rfl,.pure (nS _)⟩,⟨4,_,rfl,rfl,.mp (fw kK _)⟩,⟨5,_,rfl,rfl,.mb (fw kK _)⟩,⟨6,_,rfl,rfl,.mp (fw xF _)⟩,trivial⟩
def gP (ρ:Hd) (i j q nl ul x y:Nat) (N:aS) (vs:List (Int × Int)) (up:List Nat) (sh ls:List (Int × Int)) (kn:KN):List (Nat × Ob):=[(0,uW i j nl ul),(i,fS ρ N),(2,bZ ρ vs),(j,cI ρ up),(4,fT ρ sh),(5,bZ ρ ls),(6,fU ρ kn),(q,.arr 2 [ue (x,y)] 0 false)]
theorem afH {x y:Nat}{N:aS}{sh:List (Int × Int)}{T:af}(h0:T.get 0=some (uW i j nl ul):=by rfl) (h1:T.get i=some (fS ρ N):=by rfl) (h2:T.get 2=some (bZ ρ vs):=by rfl) (h3:T.get j=some (cI ρ up):=by rfl) (h4:T.get 4=some (fT ρ sh):=by rfl) (h5:T.get 5=some (bZ ρ ls):=by rfl) (h6:T.get 6=some (fU ρ kn):=by rfl) (b:T.get q=some (.arr 2 [ue (x,y)] 0 false):=by rfl):iC T (gP ρ i j q nl ul x y N vs up sh ls kn):=by
 intro p a;unfold gP at a;simp only[ad_,as_,or_false]at a;rcases a with rfl|rfl|rfl|rfl|rfl|rfl|rfl|rfl<;>assumption
theorem gPN {x y:Nat}{N:aS}{sh:List (Int × Int)}{T:af}(h:iC T (gP ρ i j q nl ul x y N vs up sh ls kn)):jF (aU [(1,i),(3,j),(7,q)]) 8 T (gX ρ nl ul N vs up sh ls kn++[(7,Dl ρ [(x,y)])]):=by
 have c:T.get 0=some (uW i j nl ul):=h (0,uW i j nl ul) (by simp[gP]);have d:T.get i=some (fS ρ N):=h (i,fS ρ N) (by simp[gP]);have e:T.get 2=some (bZ ρ vs):=h (2,bZ ρ vs) (by simp[gP]);have f:T.get j=some (cI ρ up):=h (j,cI ρ up) (by simp[gP]);have g:T.get 4=some (fT ρ sh):=h (4,fT ρ sh) (by simp[gP]);have k:T.get 5=some (bZ ρ ls):=h (5,bZ ρ ls) (by simp[gP]);have l:T.get 6=some (fU ρ kn):=h (6,fU ρ kn) (by simp[gP]);have m:T.get q=some (.arr 2 [ue (x,y)] 0 false):=h (q,.arr 2 [ue (x,y)] 0 false) (by simp[gP]);have n:Dl ρ [(x,y)]=.arr 2 [ue (x,y)] 0 false:=by unfold Dl;rw[ρ.eq];rfl
 rw[n]
 exact⟨⟨_,c,.row ⟨.gr rfl rfl,.mp rfl rfl,.gr rfl rfl,.mp rfl rfl,.mp rfl rfl,.mp rfl rfl,trivial⟩⟩,⟨_,d,.pure (ud _)⟩,⟨_,e,.mb (fw kK _)⟩,⟨_,f,.pure (nS _)⟩,
  ⟨_,g,.mp (fw kK _)⟩,⟨_,k,.mb (fw kK _)⟩,⟨_,l,.mp (fw xF _)⟩,⟨_,m,.pure (λrow o a b=>by
   obtain rfl:=ae_.1 o;simp only[ue,ad_,as_,or_false]at b;rcases b with rfl|rfl<;>exact .v)⟩,trivial⟩
def gWj (ρ:Hd) (a i j q nl ul:Nat) (N:aS) (vs:List (Int × Int)) (up:List Nat) (sh ls:List (Int × Int)) (kn:KN):List (Nat × Option Ob):=[(0,some (uW i j nl ul)),(i,some (fS ρ N)),(2,some (bZ ρ vs)),(j,some (cI ρ up)),(4,some (fT ρ sh)),(5,some (bZ ρ ls)),(6,some (fU ρ kn)),(q,none),
 (a,none),(a+1,none),(a+2,none),(a+3,none),(a+4,none),(a+5,none),(a+6,none),(a+7,none)]
theorem anG {a:Nat}{N:aS}{sh:List (Int × Int)}:gT (dz (aU [(1,i),(3,j),(7,q)]) 8 a) (gX ρ nl ul N vs up sh ls kn) (gWj ρ a i j q nl ul N vs up sh ls kn) :=
 ⟨⟨0,_,rfl,rfl,.row ⟨.gr rfl,.mp rfl,.gr rfl,.mp rfl,.mp rfl,.mp rfl,trivial⟩⟩,⟨1,_,rfl,rfl,.pure (ud _)⟩,⟨2,_,rfl,rfl,.mb (fw kK _)⟩,⟨3,_,rfl,rfl,.pure (nS _)⟩,⟨4,_,rfl,rfl,.mp (fw kK _)⟩,⟨5,_,rfl,rfl,.mb (fw kK _)⟩,⟨6,_,rfl,rfl,.mp (fw xF _)⟩,trivial⟩
theorem DC {α:Type}{l:List α}{x:α}(h:l[m]?=some x):l.drop m=x::l.drop (m+1):=by
 obtain⟨a,b⟩:=ar_.1 h;rw[bq_ a,b]
section
variable {w0:World}{ρ:Hd}
theorem SW {t:PS}{cc:Int}(hl:l.length<=100000000000) (lr:ah Tryz.prog w0 134 [tl ρ l] (.v (.bool true))) (uY:ah Tryz.prog w0 134 [tl ρ r] (.v (.bool true))) (tE:∀x ∈ l,eh x/\jy x) (tF:∀x ∈ r,eh x/\jy x)
  (hlen:l.length=r.length) (hB:xt (l.zip r)<=100000000000) (hA:sL (l.zip r) ⟨[],[],⟨[],[],[]⟩⟩ b t) (hpo:Pure (.sl ex rows)) (hb:b=false->(ex=true/\rows=[])/\cc=13)
  (X:b=true->aG Tryz.prog w0 138 [.pt 0 6 0 0] (aq (gS ρ t []) 7) (.aL [.sl ex rows,iv cc]) (aq [] 7)) :
  aG Tryz.prog w0 79 [tl ρ l,tl ρ r] (aq [] 0) (.aL [.sl ex rows,iv cc]) (aq [] 0):=by
 have Y:Pure (.aL [.sl ex rows,iv cc]):=.aL λa ha=>by
  simp only[ad_,as_,or_false]at ha;rcases ha with rfl|rfl
  ·grind
  ·exact .v
 refine sc 0 0 SV ?_;refine gq lM ?_;refine ad.op rfl (pl lr) ?_;refine gq lM ?_;refine ad.op rfl (pl uY) ?_;refine gq lM ?_;refine bS λq1 tA=>?_;rw[au]at tA;refine gq lM ?_;refine bS λq2 uR=>?_;rw[au]at uR;refine gq lM ?_;refine bq (λaZ=>?_) (λaZ=>?_)<;>(try simp only[bL]at aZ)
 ·grind
 refine gq lM ?_;refine ad.op rfl (ae.jK [] (gN ρ) SM rfl trivial (.pt rfl) trivial gNB) ?_;refine gq lM ?_;refine bS λq3 B1=>?_;rw[au]at B1;refine gq lM ?_
 refine ad.aK (σ:=Int × PS × Nat × Nat) 7 9 [(7,1),(8,3)] (λp=>[(0,tl ρ l),(1,tl ρ r),(4,.sl true []),(5,iv 0),(6,.pt 0 6 0 0),(25,iv q3),(26,iv p.1)]) []
  (λp=>[(0,uW 7 8 p.2.2.1 p.2.2.2),(2,bZ ρ p.2.1.vs),(4,fT ρ p.2.1.js.sh),(5,bZ ρ p.2.1.js.ls),(6,fU ρ []),(7,fS ρ p.2.1.N),(8,cI ρ p.2.1.js.up)])
  (λp=>∃m:Nat,p.1=m/\m<=l.length/\GI p.2.1/\p.2.1.N.length+xt ((l.zip r).drop m)<=100000000000/\sL ((l.zip r).drop m) p.2.1 b t/\p.2.2.1=p.2.1.N.length/\p.2.2.2=p.2.1.js.up.length) (λp=>l.length - p.1.toNat)
  (0,⟨[],[],⟨[],[],[]⟩⟩,0,0) ⟨0,rfl,by simp,.nil,by grind,by grind,rfl,rfl⟩ rfl cz ?_
 rintro⟨mi,⟨c,d,⟨e,f,g⟩⟩,n1,u1⟩ ⟨m,Z,Bo,E,P,u,dC,j8⟩;simp only at Z Bo E P u dC j8;refine gq lM ?_;refine bq (λbf=>?_) (λbf=>?_)<;>(try simp only[bL]at bf)
 ·have dK:m < l.length:=by omega
  obtain⟨x,hx⟩:∃x,l[m]?=some x:=⟨_,ai_ dK⟩;obtain⟨y,hy⟩:∃y,r[m]?=some y:=⟨_,ai_ (by omega)⟩;have hd:=DC (ch_ (z:=(x,y)) |>.2 ⟨hx,hy⟩);rw[hd]at P u;rw[xt]at P;simp only at P;obtain⟨wx,ax⟩:=tE x (aa_ hx);obtain⟨wy,ay⟩:=tF y (aa_ hy);obtain⟨v,z2⟩:=E.add wx ax;have Q:=aav (w0:=w0) (ρ:=ρ) (cR x) _ x [] (ac_ _) E.V E.F wx ax E.A (by grind);obtain⟨⟨⟨w,F,⟨A,G,H⟩⟩,rx⟩,cV⟩:∃p,p=bU ⟨c,d,⟨e,f,g⟩⟩ x:=⟨_,rfl⟩
  have I:(∃B j,iS (bU (bU ⟨c,d,⟨e,f,g⟩⟩ x).1 y).1.N B [((bU ⟨c,d,⟨e,f,g⟩⟩ x).2,(bU (bU ⟨c,d,⟨e,f,g⟩⟩ x).1 y).2)] (bU (bU ⟨c,d,⟨e,f,g⟩⟩ x).1 y).1.js=some (false,j)/\b=false) \/
    (∃B j,iS (bU (bU ⟨c,d,⟨e,f,g⟩⟩ x).1 y).1.N B [((bU ⟨c,d,⟨e,f,g⟩⟩ x).2,(bU (bU ⟨c,d,⟨e,f,g⟩⟩ x).1 y).2)] (bU (bU ⟨c,d,⟨e,f,g⟩⟩ x).1 y).1.js=some (true,j)/\sL ((l.zip r).drop (m+1)) ⟨(bU (bU ⟨c,d,⟨e,f,g⟩⟩ x).1 y).1.N,(bU (bU ⟨c,d,⟨e,f,g⟩⟩ x).1 y).1.vs,j⟩ b t):=by
   cases u with
   |no h=>exact .inl ⟨_,_,h,rfl⟩
   |go h k=>exact .inr ⟨_,_,h,k⟩
  rw[<-cV]at Q v z2 I;simp only at v z2 I;obtain⟨g3,z3⟩:=v.add wy ay;have R:=aav (w0:=w0) (ρ:=ρ) (cR y) _ y [] (ac_ _) v.V v.F wy ay v.A (by grind);obtain⟨⟨⟨i,o,⟨J,S,U⟩⟩,ry⟩,K⟩:∃p,p=bU ⟨w,F,⟨A,G,H⟩⟩ y:=⟨_,rfl⟩;rw[<-K]at R g3 z3 I;simp only at g3 z3 I;clear cV K u;obtain⟨C,cZ⟩:∃C,C=w.length:=⟨_,rfl⟩;obtain⟨D,mH⟩:∃D,D=A.length:=⟨_,rfl⟩;obtain⟨q,V⟩:∃q,q=i.length:=⟨_,rfl⟩;obtain⟨n,vS⟩:∃n,n=J.length:=⟨_,rfl⟩;rw[<-jq dC j8.symm]at Q;rw[<-jq cZ mH.symm]at R;have k1':aG Tryz.prog w0 137 [.pt 0 6 0 0,tm ρ x] (aq (gX ρ n1 u1 c d e f g []) 7) (iv (rx:Nat)) (aq (U8 ρ C D w F A G H []) 9):=by rw[cZ,mH];exact Q
  have k2':aG Tryz.prog w0 137 [.pt 0 6 0 0,tm ρ y] (aq (gX ρ C D w F A G H []) 7) (iv (ry:Nat)) (aq (U8 ρ q n i o J S U []) 9):=by rw[V,vS];exact R
  obtain⟨W,B,⟨s,L,M⟩,hj,BY⟩:∃W B j,iS i B [(rx,ry)] ⟨J,S,U⟩=some (W,j)/\((W=false/\b=false)\/(W=true/\sL ((l.zip r).drop (m+1)) ⟨i,o,j⟩ b t)):=by grind
  have g4:=g3.join hj;have N:s.length=n:=by have:=rK hj;simp only at this;omega
  have k3:=afp (w0:=w0) (ρ:=ρ) (vs:=o) (kn:=[]) (zW.of g3.G g3.A) (by have:=g3.V.up;simp only at this z3 z2 ⊢;omega) hj;rw[<-jq V vS.symm,<-jq V N]at k3;clear Q R I;refine gq lM ?_;refine ad.cP rfl (λT=>ae.ind rfl rfl (cC (l:=l) Z hx) cD) ?_;refine gq lM ?_;refine ad.eW rfl (a_.jK [(1,7),(3,8)] (gZ ρ 7 8 n1 u1 c d e f g []) (gW ρ 9 7 8 C D w F A G H []) k1' rfl ⟨.pt rfl rfl,.pure (bQ x),trivial⟩ (.pure .v) Ds (λT O=>U7 O) gWB) ?_;refine gq lM ?_;refine ad.cP rfl (λT=>ae.ind rfl rfl (cC (l:=r) Z hy) cD) ?_;refine gq lM ?_;refine ad.eW rfl (a_.jK [(1,16),(3,17)] (gZ ρ 16 17 C D w F A G H []) (gW ρ 25 16 17 q n i o J S U []) k2' rfl ⟨.pt rfl rfl,.pure (bQ y),trivial⟩ (.pure .v) Ds (λT O=>U7 O) gWB) ?_;refine ad.cP rfl (λT=>ae.quiet rfl) ?_;refine ad.eW rfl (a_.ai0 rfl) ?_;refine gq lM ?_;refine ad.eW rfl (a_.jK [(1,32),(3,33),(7,41)] (gP ρ 32 33 41 q n rx ry i o J S U []) (gWj ρ 42 32 33 41 q n i o s L M []) k3 rfl ⟨.pt rfl rfl,.gr rfl rfl,trivial⟩ (.pure .v) afH (λT O=>gPN O) anG) ?_;rcases BY with ⟨rfl,hbf⟩|⟨rfl,hk⟩
  ·obtain⟨⟨rfl,rfl⟩,rfl⟩:=hb hbf;refine gq lM ?_;refine ad.bh ?_;refine gq lM ?_;refine fq ?_;exact⟨[],.aC (Pure.bm Y),trivial,rfl⟩
  ·refine gq lM ?_;refine cw (λm2 eI=>?_);refine gq lM ?_;refine ad.az (σ:=Int × PS × Nat × Nat) (m2,⟨i,o,⟨s,L,M⟩⟩,q,n) [(7,32),(8,33)] ⟨m+1,by grind,by omega,g4,by grind,hk,V,N.symm⟩ ?_ cz;simp only;omega
 ·have dK:m=l.length:=by omega
  rw[dK,aA_ (by grind)]at u;obtain⟨rfl,rfl⟩:b=true/\t=⟨c,d,⟨e,f,g⟩⟩:=by cases u;exact⟨rfl,rfl⟩
  have k:=X rfl;rw[<-jq dC j8.symm]at k;refine gq lM ?_;refine ad.ao ?_;refine gq lM ?_;refine ad.op rfl (ae.jK [(1,7),(3,8)] [(0,none),(7,none),(2,none),(8,none),(4,none),(5,none),(6,none),(9,none),(10,none),(11,none),(12,none),(13,none),(14,none),(15,none)] k rfl ⟨.pt rfl rfl,trivial⟩ (.pure Y) (U7 Ds) trivial) ?_;refine gq lM ?_;refine fq ?_;exact⟨[],.aC (Pure.bm Y),trivial,rfl⟩
end
end
theorem gK (c:Int):Pure (.aL [.sl true [],iv c]):=.aL λa b=>by
 simp only[ad_,as_,or_false]at b;rcases b with rfl|rfl
 ·exact .sl λr d=>by grind
 ·exact .v
section
variable {w0:World}{ρ:Hd}
theorem Yb (a:ah Tryz.prog w0 134 [tl ρ l] (.v (.bool false))):aG Tryz.prog w0 79 [tl ρ l,tl ρ r] (aq [] 0) (.aL [.sl true [],iv 2]) (aq [] 0):=by
 refine sc 0 0 SV ?_;refine gq lM ?_;apply bK lM a;refine fq ?_;exact⟨[],.aC (Pure.bm (gK 2)),trivial,rfl⟩
theorem Yc (a:ah Tryz.prog w0 134 [tl ρ l] (.v (.bool true))) (b:ah Tryz.prog w0 134 [tl ρ r] (.v (.bool false))):aG Tryz.prog w0 79 [tl ρ l,tl ρ r] (aq [] 0) (.aL [.sl true [],iv 2]) (aq [] 0):=by
 refine sc 0 0 SV ?_;refine gq lM ?_;apply bK lM a;apply bK lM b;refine fq ?_;exact⟨[],.aC (Pure.bm (gK 2)),trivial,rfl⟩
theorem Yd (a:ah Tryz.prog w0 134 [tl ρ l] (.v (.bool true))) (b:ah Tryz.prog w0 134 [tl ρ r] (.v (.bool true))) (hlen:l.length ≠ r.length):aG Tryz.prog w0 79 [tl ρ l,tl ρ r] (aq [] 0) (.aL [.sl true [],iv 9]) (aq [] 0):=by
 refine sc 0 0 SV ?_;refine gq lM ?_;apply bK lM a;apply bK lM b;refine lg lM λq1 d=>?_;refine lg lM λe f=>?_;refine cn (λc=>?_) λc=>?_;rotate_left
 ·grind
 refine gq lM ?_;refine fq ?_;exact⟨[],.aC (Pure.bm (gK 9)),trivial,rfl⟩
end
section
variable {ι:Nat->Nat}
theorem Rb.yl {k:Nat}(h:k=ι j):Rb ι (.yl j) (.yl k):=λgc g w x a c=>by
 subst h;cases c with
 |yl b=>rw[<-a.ob j b];exact .yl (a.al j b)
theorem Rb.fn {f:Fn}{l m n o:List AV}(h:PL ι l m) (k:PL ι n o):Rb ι (.fn f l n) (.fn f m o):=λgc g w x p q=>by
 cases q with
 |fn r s t u =>
  refine .fn (r.trans h.at.1) (s.trans k.at.1) (λi b y c d=>?_) (λi b y c d=>?_)
  ·obtain⟨a,e,j⟩:=h.at.2 i b c;exact j gc g w y p (t i a y e d)
  ·obtain⟨a,e,j⟩:=k.at.2 i b c;exact j gc g w y p (u i a y e d)
end
section
variable {P:Program}{w0:World}{N N' B n:Nat}{so so':List (Nat × Ob)}{S T:af}{α:AA}{f:FuncId}{args args₀:List AV}{r r₀:AV}{m:List (Nat × Nat)}{to:List (Nat × Option Ob)}
def Hy (w0:World) (T:af) (args₀:List AV) (N:Nat) (m:List (Nat × Nat)):Prop:=∀(A:Nat->Prop) (g:Gh) (w:World) (a:Array Value),St w0 A g T w->mj g w args₀ a->∀k J,T.get k=some (.fo J)->g.al k->∃j,j < N/\aU m j=k
theorem ach {g:Gh}{w:World}{args':Array Value}{k a b:Nat}(h:mj g w args₀ args') (hi:args₀[i]?=some (.pt k sz a b)):g.al k:=by
 have d:i < args'.size:=by rw[h.1];exact (ar_.1 hi).1
 have c:=h.2 i _ _ hi (aG_ d);generalize args'[i]=v at c;cases c with
 |pt e=>exact e
theorem Hy.cell {k a b k0 sz' fz j0:Nat}{row:List AV}{J:fG}(hi:args₀[i]?=some (.pt k sz a b)) (e:T.get k=some (.arr sz' [row] fz ex)) (f:row[q]?=some (.yl k0)) (h0:T.get k0=some (.fo J)) (j:j0 < N) (l:aU m j0=k0):Hy w0 T args₀ N m:=by
 intro A g w c d n v y o p;have r:=ach n hi;obtain⟨_,_,z,B,C,D,E,F,s,_⟩:=d.cT k _ e r;obtain⟨x,G,t⟩:=(s 0 row rfl).2 q _ f;have u:g.al k0:=by
  cases t with
  |yl h=>exact h
 exact⟨j0,j,l.trans (d.oW _ _ _ _ h0 o u p)⟩
theorem aG.SX (h:aG P w0 f args (aq so N) r (aq so' N')) (D:wM (aU m) N args₀ args) (E:Rb (dz (aU m) N T.nx) r r₀) (hi:vj (aU m) (List.range N)=true) (t:(List.range N).all (λj=>Nat.blt (aU m j) T.nx)=true) (u:jF (aU m) N T so) (l:so.all (λp=>Nat.blt p.1 N)=true)
  (G:gT (dz (aU m) N T.nx) so' to) (M:(List.range N).all (λj=>(to.map (·.1)).contains (aU m j))=true) (O:(List.range N').all (λj=>(to.map (·.1)).contains (T.nx+j))=true) (Q:Hy w0 T args₀ N m) {e:Nat}(he:N'<=e):aG P w0 f args₀ T r₀ ⟨er T.get to,T.nx+e⟩:=by
 obtain⟨n,H⟩:∃n:af,n=⟨λk=>if k < T.nx then T.get k else none,T.nx⟩:=⟨_,rfl⟩;have get':∀k o,n.get k=some o->k < T.nx/\T.get k=some o:=λk o l=>by
  rw[H]at l;have l:(if k < T.nx then T.get k else none)=some o:=l;split at l
  ·grind
  ·grind
 have x:n.nx=T.nx:=by grind
 have y:∀k o,T.get k=some o->k < T.nx->n.get k=some o:=λk o h l=>by
  rw[H];show (if k < T.nx then T.get k else none)=some o;rw[if_pos l];exact h
 rw[<-x]at E t G;have R:∀j,j < N->aU m j < T.nx:=λj d=>by
  have:=lk (aP_.1 t j (aI_.2 d))
  rwa [x]at this
 have z:=LF (N':=N') hi t (u.sub y R l) G M (by simp) (λk o l=>by grind);have I:=h.ac8 z D.at.1 (λi a b q s=>by
  obtain⟨a',B,S⟩:=D.at.2 i b s;rw[B]at q;rw[<-oJ_ q];exact S) E (λA g w c K U k J V W=>Q A g w c (K.forget (by grind) λj p d C=>y j p d (by have:=K.al j C;rwa [x]at this)) U k J (get' k _ V).2 W)
 refine⟨I.1,λF X A g c w z u Y=>(I.2 F X A g c w z (u.forget (by grind) λj p d _=>(get' j p d).2) Y).mono ?_⟩;rintro e' w' ⟨v,Z,rfl,q,s,B⟩;refine⟨v,Z,rfl,q,s.forget (by grind) λj p d C=>?_,B⟩;have oA:j < n.nx+N':=s.al j C;have d:er T.get to j=some p:=d;show er n.get to j=some p;by_cases L:j ∈ to.map (·.1)
 ·grind[I1]
 ·rw[nV L]at d ⊢;refine y j p d ?_;by_cases h5:j < T.nx
  ·grind
  ·exfalso;refine L ?_;have:=aP_.1 O (j - T.nx) (aI_.2 (by omega));rw[show T.nx+(j - T.nx)=j by omega]at this;simpa using this
theorem ae.s9 {fq:QO}(m:List (Nat × Nat)) (to:List (Nat × Option Ob)) (a:aG P w0 f args (aq so N) r (aq so' N')) (h:eV (fq.ev α.tm) (jP.map (·.ev α.tm))=some (f,args₀)) (b:wM (aU m) N args₀ args) (c:Rb (dz (aU m) N T.nx) r r₀) (d:jF (aU m) N T so) (g:gT (dz (aU m) N T.nx) so' to) (i:Hy w0 T args₀ N m)
  (hi:vj (aU m) (List.range N)=true:=by rfl) (k:(List.range N).all (λj=>Nat.blt (aU m j) T.nx)=true:=by rfl) (l:so.all (λp=>Nat.blt p.1 N)=true:=by rfl) (n:(List.range N).all (λj=>(to.map (·.1)).contains (aU m j))=true:=by rfl) (o:(List.range N').all (λj=>(to.map (·.1)).contains (T.nx+j))=true:=by rfl) :
  ae P w0 false (.call fq jP) α T r₀ ⟨er T.get to,T.nx+N'⟩:=ae.call h (a.SX b c hi k d l g n o i (ac_ _)) λe=>by grind
theorem a_.s9 {fq:QO}(m:List (Nat × Nat)) (F:List (Nat × Ob)) (to:List (Nat × Option Ob)) (w:aG P w0 f args (aq so N) r (aq so' N')) (h:eV (fq.ev α.tm) (jP.map (·.ev α.tm))=some (f,args₀)) (x:wM (aU m) N args₀ args) (b:Rb (dz (aU m) N S.nx) r r₀) (y:iC S F) (z:∀T,iC T F->jF (aU m) N T so) (d:gT (dz (aU m) N S.nx) so' to) (A:∀T,iC T F->Hy w0 T args₀ N m)
  (hi:vj (aU m) (List.range N)=true:=by rfl) (g:(List.range N).all (λj=>Nat.blt (aU m j) S.nx)=true:=by rfl) (C:so.all (λp=>Nat.blt p.1 N)=true:=by rfl) (D:(List.range N).all (λj=>(to.map (·.1)).contains (aU m j))=true:=by rfl) (i:(List.range N').all (λj=>(to.map (·.1)).contains (S.nx+j))=true:=by rfl) (E:Nat.ble N' (F3 to true)=true:=by rfl) :
  a_ P w0 B (.call fq jP) α S r₀ ⟨F,to,true⟩:=by
 intro n o k;obtain⟨c,u,K,l,G,a⟩:=lV k;refine⟨λL=>(by grind[ql,oQ]),y,λT M s H=>?_⟩;have e:T.nx=S.nx:=H rfl;have v:∀q ∈ (.call c:Op).operands,(α.only (dH o)).ev q=α.ev q:=λq I=>gm λt O=>gw (by grind);have J:eV (fq.ev (α.only (dH o)).tm) (jP.map (·.ev (α.only (dH o)).tm))=some (f,args₀):=by
  rw[<-h,G,a,aW,aW,jt,jt,v u (show u ∈ c.operands by simp[Call.operands,l])];congr 1;exact aF_ λq I=>v q (show q ∈ c.operands by simp[Call.operands,l];exact .inr (by grind))
 rw[<-e]at b d g i;rw[gj];exact (ae.call (dr:=false) J (w.SX x b hi g (z T s) C d D i (A T s) (aq_ E)) (λe=>by grind)) n o k
end
section
variable {P:Program}{w0:World}{α:AA}{S:af}
theorem Vh {v:Value}(h:lift v=.v .nilFunc):v=.nilFunc:=by
 have a:∀v,cK v=.v .nilFunc->v=.nilFunc:=by
  intro v h;unfold cK at h;split at h
  ·grind
  ·grind
 cases v with
 |agg b=>cases h
 |_=>exact a _ h
theorem aci {u:Operand}(h:.c (.v .nilFunc)=qo u):u=.const .nilFunc:=by
 cases u with
 |const v =>
  injection h with h;rw[Vh h.symm]
 |_=>cases h
theorem NP {o:Op}{op:BinOp}(h:res P.toTables o=some (.bin op .f x (.c (.v .nilFunc)))):∃t u s a b c,o=.binOp op t u (.const .nilFunc) s/\x=qo u/\P.underlying t=some (.func a b c):=by
 cases o with
 |binOp d t u v s =>
  simp only[res,cF]at h;split at h
  ·grind
  ·grind
  ·rename_i a b c e;simp only[oI_,mz.bin.injEq]at h;obtain⟨rfl,_,rfl,f⟩:=h;rw[aci f.symm];exact⟨_,_,_,_,_,_,rfl,rfl,e⟩
  ·grind
  ·grind
  ·grind
 |_ =>
  simp only[res]at h
  repeat' split at h
  all_goals cases h
def I8:AV->Option Bool
 |.fn ..=>some false
 |.v (.func ..)=>some false
 |.v .nilFunc=>some true
 |_=>none
theorem Ye {g:Gh}{w:World}{a:AV}{x:Value}(h:I8 a=some b) (c:aN g w a x):(b=true/\x=.nilFunc)\/(b=false/\∃f p q,x=.func f p q):=by
 unfold I8 at h;split at h
 ·cases c with
  |fn=>obtain rfl:=oJ_ h;exact .inr ⟨rfl,_,_,_,rfl⟩
 ·cases c with
  |v=>obtain rfl:=oJ_ h;exact .inr ⟨rfl,_,_,_,rfl⟩
 ·cases c with
  |v=>obtain rfl:=oJ_ h;exact .inl ⟨rfl,rfl⟩
 ·grind
theorem s_ (w:World) (d:Nat) {t:TypeId}{a b c}(h:P.underlying t=some (.func a b c)):(Op.equalIn (d+1) t .nilFunc .nilFunc).run P w=.ok true w/\∀f p q,(Op.equalIn (d+1) t (.func f p q) .nilFunc).run P w=.ok false w:=by
 refine⟨?_,λf p q=>?_⟩<;>simp[Op.equalIn,run_underlying h]
theorem DD (w:World) {t:TypeId}{a b c}(h:P.underlying t=some (.func a b c)) (x:Value):(x=.nilFunc->(Op.equal t x .nilFunc).run P w=.ok true w)/\∀f p q,x=.func f p q->(Op.equal t x .nilFunc).run P w=.ok false w :=
 ⟨λe=>by subst e;exact (s_ w 9999 h).1,λf p q e=>by subst e;exact (s_ w 9999 h).2 f p q⟩
theorem NQ {op:BinOp}{d:Bool}{n:Nat}(m:res P.toTables o.op=some (.bin op .f x (.c (.v .nilFunc)))) (β:AA) (i:I8 (x.ev β.tm)=some b) (j:Sz op b=some d):iY P w0 n o β S (.v (.bool d)) S:=by
 obtain⟨t,u,s,y,z,B,k,rfl,r⟩:=NP m;rw[aW]at i;refine a8.ops (a8.quiet λA g c w C v=>⟨.bool d,?_,.v⟩) λc e=>by grind
 have l:c.eval (.const .nilFunc)=.nilFunc:=rfl;have a:=DD w r (c.eval u);rcases Ye i (v.ev u) with ⟨rfl,h⟩|⟨rfl,f,p,q,h⟩
 ·have a:=a.1 h;rw[h]at a;cases op<;>cases j<;>simp[execOp,k,h,eqGuard,l,binOp,a]
 ·have a:=a.2 f p q h;rw[h]at a;cases op<;>cases j<;>simp[execOp,k,h,eqGuard,l,binOp,a]
theorem ae.NR {op:BinOp}{d:Bool}(g:I8 (x.ev α.tm)=some b) (c:Sz op b=some d):ae P w0 dr (.bin op .f x (.c (.v .nilFunc))) α S (.v (.bool d)) S:=by
 cases dr with
 |false=>exactλn o a=>NQ a α g c
 |true =>
  intro n o a;obtain⟨t,u,s,_,_,_,h,i,_⟩:=NP a;have key:∀z ∈ o.op.operands,(α.only (dH o)).ev z=α.ev z:=λz j=>gm λt e=>gw (by grind);have k:(α.only (dH o)).ev u=α.ev u:=key u (by rw[h];simp[Op.operands]);have f:∀T,iY P w0 n o (α.only (dH o)) T (.v (.bool d)) T:=λT=>NQ a _ (by grind[aW]) c;exact⟨f S,λ_=>⟨rfl,f⟩,λ_=>rfl⟩
end
theorem Q0 {G:Nat->Option Ob}:∀{W:List (Nat × Option Ob)},(∀p ∈ W,G p.1=p.2)->er G W=G
 |[],_=>rfl
 |p::W,h=>by
  rw[er,Q0 λq a=>h q (by grind)];funext j;by_cases e:j=p.1
  ·grind[aJ]
  ·rw[aO _ _ e]
section
variable {P:Program}{w0:World}{α:AA}{S:af}{f:FuncId}{args:List AV}{so:List (Nat × Ob)}{N B:Nat}{r:AV}
theorem a_.K8 {fq:QO}(x:aG P w0 f args (aq so N) r (aq so N)) (h:eV (fq.ev α.tm) (jP.map (·.ev α.tm))=some (f,args)) (y:N<=B) (g:zm so N) (z:iC S so) (A:∀j,j < N->∃o,fb so j=some o) (C:∀a ∈ args,ec N a) (D:ec N r) :
  a_ P w0 B (.call fq jP) α S r ⟨so,[],false⟩:=by
 intro n o i;obtain⟨c,u,I,l,E,b⟩:=lV i;refine⟨λm=>(by grind[ql,oQ]),z,λT F s J=>?_⟩;have v:∀q ∈ (.call c:Op).operands,(α.only (dH o)).ev q=α.ev q:=λq G=>gm λt K=>gw (by grind);have H:eV (fq.ev (α.only (dH o)).tm) (jP.map (·.ev (α.only (dH o)).tm))=some (f,args):=by
  rw[<-h,E,b,aW,aW,jt,jt,v u (show u ∈ c.operands by simp[Call.operands,l])];congr 1;exact aF_ λq G=>v q (show q ∈ c.operands by simp[Call.operands,l];exact .inr (by grind))
 have k:=(ae.call (dr:=false) H (x.here (T:=T) (ay_ y F) g (λj o d=>s (j,o) (fp d)) g C D false) (λe=>by grind)) n o i;have e:eP T (wl so N) false=T:=by
  rw[gj,Q0]
  ·rw[wj];rfl
  ·intro p m;obtain⟨j,d,rfl⟩:=av_.1 m;obtain⟨ob,w⟩:=A j (aI_.1 d);simp only;rw[w];exact s (j,ob) (fp w)
 rw[e]at k;rw[gj];exact k
end
section
attribute [local irreducible] ah aG ae ad
def ajq:FQ 105 Tryz.f105:=aF Tryz.func105 Tryz.call105
def qY:List Nat:=[5,0,1,4,10,14,26]
end
end Go.Proofs.YtbpabjmnhggajaaGreat
