import Derived.Test.YtbpabjmnhggajaaGreatOr27
import Derived.Test.YtbpabjmnhggajaaGreatOr31
namespace Go.Proofs.YtbpabjmnhggajaaGreat
set_option linter.all false
open Go.RowKit
variable {s:List Dc}{g:Option (Nat × Bool)}{d:Option Nat}
section
set_option maxRecDepth 100000
attribute [local irreducible] ah aG ae ad
def am5:FQ 32 Tryz.f32:=aF Tryz.func32 Tryz.call32
def g32:List Nat:=[4,0,1,3,2]
def am6:FQ 29 Tryz.f29:=aF Tryz.func29 Tryz.call29
def qx:List Nat:=[3,0,13,1,12,14,11]
def am7:FQ 14 Tryz.f14:=aF Tryz.func14 Tryz.call14
def Aa:List Nat:=[1,15,4,5,6,2,3,0,10,14,16,27]
def sW (d a:Dc):Bool:=d.n.toList == a.n.toList && d.ar == a.ar
def uQ (s:List Dc):List Dc->Int
 |[]=>0
 |d::l=>bj (cH (mC d.n) 7) (bj (cH (decide (0<=d.ar) && decide (d.ar<=6)) 9) (bj (cH (!s.any (sW d)) 8) (uQ (s++[d]) l)))
def tW (p:Pg):Int:=bj (cH (decide (p.ds.length<=30)) 6) (bj (uQ [] p.ds) (cH (decide (p.rs.length<=40)) 6))
def sX (ds:List Dc):List Rl->Nat->Int × Int
 |[],_=>(0,0)
 |r::l,k=>if nO ds r=0 then sX ds l (k+1) else (k,nO ds r)
def fM (p:Pg):Int × Int:=if tW p=0 then sX p.ds p.rs 0 else (-1,tW p)
structure Ac (p:Pg):Prop where
 ds:p.ds.length<=1099511627776
 rs:p.rs.length<=1099511627776
 dn:∀d ∈ p.ds,d.n.size<=1099511627776
 rr:∀r ∈ p.rs,z_ r
def MY (d:Dc):Value:=.agg #[.string d.n,.int .i64 d.ar]
def sY (l:List Dc):List (Value × AV):=l.map λd=>(MY d,.v (.bool true))
def E5 (d:Dc) (k:Value):Bool:=match k with
 |.agg a=>match a.toList with
  |[.string n,.int _ i]=>d.n.toList == n.toList && d.ar == i
  |_=>false
 |_=>false
theorem XQ (d:Dc) (s:List Dc):(pb (E5 d) (sY s)=none/\s.any (sW d)=false)\/(lC (E5 d) (sY s)=some (.v (.bool true))/\s.any (sW d)=true):=by
 induction s with
 |nil=>exact .inl ⟨rfl,rfl⟩
 |cons x s c =>
  have e:pb (E5 d) (sY (x::s))=if sW d x=true then some 0 else (pb (E5 d) (sY s)).map (·+1):=rfl
  rw[lC,e,bS_];by_cases h:sW d x=true
  ·rw[if_pos h,h];exact .inr ⟨rfl,rfl⟩
  ·rw[if_neg h,dg_.2 h];rcases c with ⟨a,f⟩|⟨a,f⟩
   ·grind
   ·right;rw[lC]at a;refine⟨?_,by grind⟩;cases b:pb (E5 d) (sY s) with
    |none=>rw[b]at a;cases a
    |some j=>rw[b]at a;exact a
theorem Sx {X:Result Bool}{e:Bool}{w:World}(h:(X.andThen λb w'=>Result.ok (Value.bool b) w')=.ok (.bool e) w):X=.ok e w:=by
 cases X with
 |ok b w' =>
  simp only[Result.andThen,Result.ok.injEq,Value.bool.injEq]at h;rw[h.1,h.2]
 |_=>cases h
theorem Qw (d:Dc) (s:List Dc):IK Tryz.prog 54 (MY d) (sY s) (E5 d):=by
 obtain⟨n,i⟩:=d;have a:Tryz.prog.underlying 54=some (.struct (Tryz.prog.fieldsOf 54)):=by kernel_rfl
 have c:=Tryz.underlying3;have e:=Tryz.underlying9;have f:=Tryz.isAgg3;have g:=Tryz.isAgg9;refine⟨λb w=>?_,⟨_,a⟩,λp j w=>?_⟩
 ·have key:∀q:Nat,(Instr.checkKey b (q+1+1) 54 (MY ⟨n,i⟩)).run Tryz.prog w=.ok () w:=by
   intro q;have k:∀w,(Instr.checkKey b (q+1) 9 (.string n)).run Tryz.prog w=.ok () w:=λw=>by
    rw[Instr.checkKey];simp only[Sem.run_bind,run_underlying e,Result.andThen_ok,Sem.run_pure]
   have l:∀w,(Instr.checkKey b (q+1) 3 (.int .i64 i)).run Tryz.prog w=.ok () w:=λw=>by
    rw[Instr.checkKey];simp only[Sem.run_bind,run_underlying c,Result.andThen_ok,Sem.run_pure]
   rw[Instr.checkKey];simp only[Sem.run_bind,run_underlying a,Result.andThen_ok,MY];simp only[Program.fieldsOf,Tryz.underlying54];simp[part,f,g,k,l]
  exact key 9998
 ·obtain⟨m,_,rfl⟩:=av_.1 j;obtain⟨o,r⟩:=m;have h:=(Qf n o i r).2.2 w;rw[run_eql_struct]at h;exact Sx h
section
variable {P:Program}{w0:World}{rd:Bool}{n:Nat}{α:AA}{S:af}{Q:Exit->AA->af->Prop}{l:List QI}{K:List f_}{ρ:Hd}
theorem Qx {B:Nat}:h_ B (.mp (ρ.h sY s)):=by
 rw[ρ.eq];intro e a;obtain⟨p,_,rfl⟩:=av_.1 a;exact .v
theorem ad.ae8 (ρ:Hd) (a:bG α.tm g=some true) (b:∀s:List Dc,s=[]->ad P w0 rd n Q (.bc false l K) (bP d α (.mp S.nx)) (S.new (.mp (ρ.h sY s)))):ad P w0 rd n Q (.bc false (⟨d,g,.kQ none⟩::l) K) α S:=by
 have h:=b [] rfl;rw[ρ.eq]at h;exact ad.op (i:=⟨d,g,.kQ none⟩) a ae.kQ h
theorem ad.aiS {z:AV}{x i:QO}{k:Nat}{v:Dc}(c:bG α.tm g=some true) (e:x.ev α.tm=.mp k) (f:S.get k=some (.mp (ρ.h sY s))) (hi:toV (i.ev α.tm)=some (MY v))
  (o:s.any (sW v)=true->ad Tryz.prog w0 rd n Q (.bc false l K) (bP d α (.v (.bool true))) S) (j:pb (E5 v) (sY s)=none->s.any (sW v)=false->ad Tryz.prog w0 rd n Q (.bc false l K) (bP d α z) S) :
  ad Tryz.prog w0 rd n Q (.bc false (⟨d,g,.lC 54 z false x i⟩::l) K) α S:=by
 have h:=ae.lC (P:=Tryz.prog) (w0:=w0) (z:=z) (cm:=false) e f hi (by rw[ρ.eq];exact Qw v s);rw[ρ.eq]at h;refine ad.op (i:=⟨d,g,.lC 54 z false x i⟩) c h ?_;rcases XQ v s with ⟨a,b⟩|⟨a,b⟩
 ·have m:lC (E5 v) (sY s)=none:=by rw[lC,a]
  rw[m];exact j a b
 ·grind
theorem ad.aiT {x i b:QO}{k:Nat}{v:Dc}(f:bG α.tm g=some true) (j:x.ev α.tm=.mp k) (m:S.get k=some (.mp (ρ.h sY s))) (hi:toV (i.ev α.tm)=some (MY v)) (o:pb (E5 v) (sY s)=none) (p:b.ev α.tm=.v (.bool true))
  (q:∀a,a=s++[v]->ad Tryz.prog w0 rd n Q (.bc false l K) (bP d α (.v undef)) (S.set k (some (.mp (ρ.h sY a))))):ad Tryz.prog w0 rd n Q (.bc false (⟨d,g,.yq 54 x i b⟩::l) K) α S:=by
 have h:=ae.yq (P:=Tryz.prog) (w0:=w0) (c:=E5 v) j m hi (by rw[ρ.eq];exact Qw v s) (by rw[ρ.eq];exact o) p;have e:ρ.h sY s++[(MY v,.v (.bool true))]=ρ.h sY (s++[v]):=by rw[ρ.eq,ρ.eq,sY,sY,aM_];rfl
 rw[e]at h;exact ad.op (i:=⟨d,g,.yq 54 x i b⟩) f h (q _ rfl)
end
section
variable {w0:World}{ρ:Hd}
theorem Qy {g:FuncId}{fs cs:List AV}{E:Int}(a:kc (fs++cs)) (h:Ba w0 g (fs++cs) E):ah Tryz.prog w0 28 [.fn (.func g) fs cs] (iv E):=by
 have b:=XH a h;by_cases e:E=0
 ·grind
 ·grind
theorem Pl (ds:List Dc) (r:Rl) (k:ds.length<=1099511627776) (l:z_ r):ah Tryz.prog w0 32 [ft ρ ds,rl ρ r] (iv (nO ds r)):=by
 have m:Pure (.ip (iE ρ r)):=.ip (tM r);have c:Pure (.ip [ft ρ ds]):=.ip λa e=>by grind[fW]
 have f:=Qy (fs:=[]) (cs:=[.ip (iE ρ r),.ip [ft ρ ds]]) ⟨m,c,trivial⟩ (ae0 (w0:=w0) (ρ:=ρ) ds r k l);have o:Pure (.fn (.func 67) [] [.ip (iE ρ r),.ip [ft ρ ds]]):=.fn (λa e=>by grind) λa e=>by grind
 obtain⟨E,p⟩:∃E,E=nO ds r:=⟨_,rfl⟩;rw[<-p]at f ⊢;obtain⟨n,i,j,g,b,v⟩:=r;refine st am5 g32 .v ?_
 repeat' (first
  |refine og g32 (ae.Eg rfl f ⟨o,trivial⟩ .v ⟨aP.fns trivial ⟨aP.box (cs:=iE ρ ⟨n,i,j,g,b,v⟩) (cs':=iE ρ ⟨n,i,j,g,b,v⟩) rfl ⟨.refl _,.refl _,.refl _,.refl _,.refl _,.refl _,trivial⟩,aP.box (cs:=[ft ρ ds]) (cs':=[ft ρ ds]) rfl ⟨.refl _,trivial⟩,trivial⟩,trivial⟩) ?_
  |(refine fq ?_))
 exact dP rfl
theorem XT (p:Pg) (A:Ac p):Ba w0 29 [.ip (od ρ p)] (tW p):=by
 have J:Pure (.ip (od ρ p)):=.ip (o5 p);obtain⟨e,n⟩:=p;obtain⟨B,C,t,_⟩:=A;dsimp only at B C t;obtain⟨E,a⟩:∃E,E=tW ⟨e,n⟩:=⟨_,rfl⟩;rw[<-a];rw[tW]at a;dsimp only at a;obtain⟨T,u⟩:∃T,T=cH (decide (n.length<=40)) 6:=⟨_,rfl⟩;rw[<-u]at a;refine K1 am6.2 (by simp[Tryz.ntmps29]) ?_;refine gq qx ?_
 repeat' (first
  |refine ad.qp rfl rfl (λc=>?_) (λc=>?_)<;>(try simp only[bL]at c)<;>(first|exact absurd c (by decide)|refine gq qx ?_)
  |refine nM rfl (by first|rfl ) ?_
  |refine cg qx (λc=>?_) λc=>?_
  |refine lg qx λm j=>?_
  )
 all_goals first
  |rw[decide_eq_false (by omega)]at a;exact a
  |skip
 rw[decide_eq_true (by omega),show cH true 6=0 from rfl,bD rfl]at a;refine ad.ae8 ρ rfl λs0 o=>?_;refine gq qx ?_;refine ad.int rfl (ae.len rfl) λm j=>?_;rw[au]at j;refine gq qx ?_;refine ad.aK (σ:=Int × List Dc) 1 1 [] (λq=>[(0,.ip (od ρ ⟨e,n⟩)),(1,.mp 0),(11,ft ρ e),(12,.v (.int .i64 m)),(13,.v (.int .i64 q.1))]) [] (λq=>[(0,.mp (ρ.h sY q.2))]) (λq=>∃k:Nat,q.1=k/\k<=e.length/\E=bj (uQ q.2 (e.drop k)) T) (λq=>e.length - q.1.toNat) (0,s0) ⟨0,rfl,by simp,by rw[o];simpa using a⟩ rfl (by exact⟨sq,rfl,⟨.inl ⟨_,rfl,.same Qx⟩,trivial⟩,rfl,rfl,rfl⟩) ?_;rintro⟨i,s⟩ ⟨k,w,K,a⟩;simp only at w a;refine gq qx ?_;by_cases F:k < e.length
 ·obtain⟨x,y,G⟩:=aD F;rw[G,uQ,cB,cB,cB]at a;have f:=t x (aa_ y);have r:=zz (w0:=w0) x.n f;obtain⟨g,d⟩:=x;dsimp only at a f r;obtain⟨h,z⟩:∃b,b=mC g:=⟨_,rfl⟩;rw[<-z]at a r;clear z
  repeat' (first
   |refine og qx (ae.ind rfl rfl (aB (l:=e) w y) (aA λ_=>rfl)) ?_
   |refine bg qx (pl r) (λ_=>?_) λ_=>?_
   |(refine ad.aiS (v:=⟨g,d⟩) rfl rfl rfl rfl (λH=>?_) (λL H=>?_)<;>refine gq qx ?_)
   |(refine ad.aiT (v:=⟨g,d⟩) rfl rfl rfl rfl (by assumption) rfl (λI M=>?_);refine gq qx ?_)
   |refine ad.qp rfl rfl (λc=>?_) (λc=>?_)<;>(try simp only[bL]at c)<;>(first|exact absurd c (by decide)|refine gq qx ?_)
   |refine ad.vt ?_;refine gq qx ?_
   |refine FR rfl (by conv=>lhs;cbv) ?_
   |refine nM rfl (by first|rfl ) ?_
   |refine cg qx (λc=>?_) λc=>?_
   |refine lg qx λm j=>?_
   |refine ag qx λ_ _=>?_
   |refine ad.ao ?_;refine gq qx ?_
   )
  all_goals first
   |exfalso;omega
   |(rw[show h=true by assumption,show cH true 7=0 from rfl,bD rfl,decide_eq_true (show 0<=d by omega),decide_eq_true (show d<=6 by omega),show cH (true && true) 9=0 from rfl,bD rfl,show s.any (sW ⟨g,d⟩)=false by assumption,show cH (!false) 8=0 from rfl,bD rfl]at a
     refine ad.az (σ:=Int × List Dc) (_,I) [] ?_ ?_ (by exact⟨sq,rfl,⟨.inl ⟨_,rfl,.same Qx⟩,trivial⟩,rfl,rfl,rfl⟩)
     ·exact⟨k+1,by grind,by omega,by grind⟩
     ·simp only;omega)
   |(rw[show h=true by assumption,show cH true 7=0 from rfl,bD rfl,decide_eq_true (show 0<=d by omega),decide_eq_true (show d<=6 by omega),show cH (true && true) 9=0 from rfl,bD rfl,show s.any (sW ⟨g,d⟩)=true by assumption]at a
     exact a)
   |(rw[show h=true by assumption,show cH true 7=0 from rfl,bD rfl,decide_eq_false (show ¬ 0<=d by omega)]at a
     exact a)
   |(rw[show h=true by assumption,show cH true 7=0 from rfl,bD rfl,decide_eq_true (show 0<=d by omega),decide_eq_false (show ¬ d<=6 by omega)]at a
     exact a)
   |(rw[show h=false by assumption]at a
     exact a)
 ·rw[ak_ (by omega),uQ,bD rfl,u]at a
  repeat' (first
   |refine ad.qp rfl rfl (λc=>?_) (λc=>?_)<;>(try simp only[bL]at c)<;>(first|exact absurd c (by decide)|refine gq qx ?_)
   |refine FR rfl (by conv=>lhs;cbv) ?_
   |refine nM rfl (by first|rfl ) ?_
   |refine cg qx (λc=>?_) λc=>?_
   |refine lg qx λm j=>?_
   |refine ad.ao ?_;refine gq qx ?_
   )
  all_goals first
   |exfalso;omega
   |rw[decide_eq_true (by omega)]at a;exact a
   |rw[decide_eq_false (by omega)]at a;exact a
theorem IY (p:Pg) (r:Ac p):ah Tryz.prog w0 14 [pg ρ p] (.aL [iv (fM p).1,iv (fM p).2]):=by
 have s:Pure (.ip (od ρ p)):=.ip (o5 p);have B:Pure (.fn (.func 29) [] [.ip (od ρ p)]):=.fn (λa j=>by cases j) λa j=>by obtain rfl:=ae_.1 j;exact s
 have t:=Qy (fs:=[]) (cs:=[.ip (od ρ p)]) ⟨s,trivial⟩ (XT (w0:=w0) (ρ:=ρ) p r);obtain⟨f,c⟩:=p;obtain⟨u,D,G,w⟩:=r;dsimp only at u D G w;obtain⟨R,e⟩:∃R,R=fM ⟨f,c⟩:=⟨_,rfl⟩;rw[<-e];rw[fM]at e;obtain⟨E,H⟩:∃E,E=tW ⟨f,c⟩:=⟨_,rfl⟩;rw[<-H]at e t;dsimp only at e;refine st am7 Aa ((.aL λa j=>by simp only[ad_,as_,or_false]at j;rcases j with rfl|rfl<;>exact .v)) ?_
 repeat' (first
  |(refine ig Aa (ae.Eg rfl t ⟨B,trivial⟩ .v ⟨aP.fns trivial ⟨aP.box (cs:=od ρ ⟨f,c⟩) (cs':=od ρ ⟨f,c⟩) rfl ⟨.refl _,.refl _,trivial⟩,trivial⟩,trivial⟩) λd q=>?_)
  |refine cg Aa (λo=>?_) λo=>?_
  |refine lg Aa λm P=>?_
  |(refine fq ?_))
 ·rw[if_neg (by omega)]at e;rw[e,q];exact aP.of_eq rfl
 rw[if_pos (by omega)]at e;refine ad.aK (σ:=Int) 1 1 [] (λi=>[(1,.pt 0 2 0 0),(14,.v (.int .i64 m)),(15,.v (.int .i64 i))]) [] (λ_=>[(0,.arr 2 [od ρ ⟨f,c⟩] 0 true)]) (λi=>∃k:Nat,i=k/\k<=c.length/\R=sX f (c.drop k) k) (λi=>c.length - i.toNat) 0 ⟨0,rfl,by simp,by simpa using e⟩ rfl cz ?_;rintro i ⟨k,y,Q,h⟩;clear e;refine gq Aa ?_;by_cases K:k < c.length
 ·obtain⟨x,z,L⟩:=aD K;rw[L,sX]at h;have A:=Pl (w0:=w0) (ρ:=ρ) f x u (w x (aa_ z));obtain⟨F,M⟩:∃F,F=nO f x:=⟨_,rfl⟩;rw[<-M]at h A;have S:=fQ (ρ:=ρ) x;obtain⟨n,T,U,g,b,v⟩:=x
  repeat' (first
   |refine og Aa (ae.ind rfl rfl (aB (l:=c) y z) (aA λ_=>rfl)) ?_
   |(refine ig Aa (pl A) λd2 N=>?_)
   |refine cg Aa (λo=>?_) λo=>?_
   |refine ag Aa λ_ _=>?_
   |refine ad.ao ?_;refine gq Aa ?_
   |refine ad.bh ?_;refine gq Aa ?_
   |(refine fq ?_))
  all_goals first
   |exfalso;omega
   |rw[if_pos (show F=0 by omega)]at h;(refine ad.az (σ:=Int) _ [] ?_ ?_ cz<;>first|omega|exact⟨k+1,by omega,by omega,h⟩)
   |rw[if_neg (show ¬ F=0 by omega)]at h;subst N;rw[h,<-y];exact aP.of_eq rfl
 ·rw[ak_ (by omega),sX]at h
  repeat' (first
   |refine cg Aa (λo=>?_) λo=>?_
   |refine ad.ao ?_;refine gq Aa ?_
   |(refine fq ?_))
  all_goals first
   |exfalso;omega
   |rw[h];exact aP.of_eq rfl
end
end
end Go.Proofs.YtbpabjmnhggajaaGreat
