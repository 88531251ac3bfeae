import Derived.Test.YtbpabjmnhggajaaGreatOs52
namespace Go.Proofs.YtbpabjmnhggajaaGreat
set_option linter.unusedVariables false
set_option linter.unusedSimpArgs false
open Go.RowKit
section
set_option maxRecDepth 100000
attribute [local irreducible] ah aC af ad
def qf7:FQ 7 Tryz.f7:=a_ Tryz.func7 Tryz.call7
def g7:List Nat:=[10,3,1,6,7,2,11,12,15,0,9,38,69,70,74,83,14,85,13]
structure Wm (r:Rl):Prop where
 hn:(r.aU++r.rem).length<=4
 ha:∀ x ∈ r.aU++r.rem,su 200 x
 gn:r.guard.length<=12
 ga:∀ g ∈ r.guard,pY 200 g
 bn:r.body.length<=12
 ba:∀ g ∈ r.body,bP g.a<=200
 v:0<=r.vars/\r.vars<=1099511627776
theorem Ei {ds:List Dc}{r:Rl}(h:nF ds r=0) (ho:BF r):Wm r:=by
 obtain⟨⟨h1,h2,h3,h4,h5⟩,⟨n,h6,h7,h8⟩,_⟩:=QW h;unfold DA at h1;simp only[Bool.and_eq_true,decide_eq_true_eq] at h1;have ha:=ho.av;have hg:=ho.gv;rw[List.length_append] at h8;exact⟨by grind,fun x hx=>by
   rcases List.mem_append.1 hx with hx|hx
   ·exact⟨(ho.kx x hx).1.1,(xG (h2 x hx) (ho.kx x hx).1.1).2.2.2.2,(ho.kx x hx).2⟩
   ·exact⟨(ho.rx x hx).1.1,(xG (h3 x hx) (ho.rx x hx).1.1).2.2.2.2,(ho.rx x hx).2⟩,
  by omega,fun g hg=>⟨(ho.gx g hg).1.1,(D9 (h4 g hg) (ho.gx g hg).1.1).2.2.2.2,(ho.gx g hg).2⟩,
  by omega,fun g hg=>(D9 (h5 g hg) (ho.bx g hg).1.1).2.2.2.2,by omega,by omega⟩
mutual
theorem abV (k:Int):∀ t:Tm,dk (sv k t)=dk t/\(t.ok->(sv k t).ok)
 |⟨kd,i,n,a⟩=>by
  have ih:=wI k a;rw[sv];split
  ·grind[dk,Tm.ok]
  ·grind[dk,Tm.ok,qK]
theorem wI (k:Int):∀ l:List Tm,bP (xH k l)=bP l/\(eV l->eV (xH k l))
 |[]=>by grind[xH]
 |x::l=>by
  have h1:=abV k x;have h2:=wI k l;rw[xH,bP,bP,eV,eV];exact⟨by grind,fun h=>⟨h1.2 h.1,h2.2 h.2⟩⟩
end
theorem Wm.sh {r:Rl}(h:Wm r) (k:Int):Wm (vI k r):=by
 have hA:∀ x,su 200 x->su 200 (wD k x):=fun x hx=>by
  have:=wI k x.a;rw[qK] at this;exact⟨this.2 hx.1,by rw[wD,this.1];exact hx.2.1,hx.2.2⟩
 have hG:∀ x,pY 200 x->pY 200 (vh k x):=fun x hx=>by
  have:=wI k x.a;rw[qK] at this;exact⟨this.2 hx.1,by rw[vh,this.1];exact hx.2.1,hx.2.2⟩
 have hn:=h.hn;unfold vI;refine⟨by grind,fun x hx=>?_,by simpa using h.gn,fun g hg=>?_,by simpa using h.bn,fun g hg=>?_,h.v⟩
 ·simp only[<-List.map_append] at hx;obtain⟨y,hy,rfl⟩:=List.mem_map.1 hx;exact hA y (h.ha y hy)
 ·obtain⟨y,hy,rfl⟩:=List.mem_map.1 hg;exact hG y (h.ga y hy)
 ·obtain⟨y,hy,rfl⟩:=List.mem_map.1 hg;have:=wI k y.a;rw[qK] at this;rw[vh,this.1];exact h.ba y hy
theorem Mt {f:At}{G:List Int->List (List Int)}{l:List Int}{B:Nat}(hG:∀ x,(G x).length<=B):∀ (t:List At) (k:Nat),(sw f G l t k).length<=t.length*B
 |[],k=>by simp[sw]
 |h::t,k=>by
  have ih:=Mt (f:=f) (l:=l) hG t (k+1);rw[sw,List.length_append,List.length_cons,Nat.add_mul,Nat.one_mul];split
  ·grind
  ·grind
theorem xR {T:List At}(hT:T.length<=4):∀ (fs:List At) (l:List Int),(kK T fs l).length<=5 ^ fs.length
 |[],l=>by rw[kK];simp
 |f::fs,l=>by
  have h1:=xR hT fs (l++[-1]);have h2:=Mt (f:=f) (l:=l) (xR hT fs) T 0;have h3:=Nat.mul_le_mul_right (5 ^ fs.length) hT;rw[kK,List.length_append,List.length_cons,Nat.pow_succ];omega
def RC (ρ:Hd) (l:List Pr):AV:=aX ρ (sA ρ) false l
def Mu (ρ:Hd) (x:List Pr × Int):AV:=.aG [RC ρ x.1,iv x.2]
section
variable {w0:World}{ρ:Hd}
theorem Ku (l:List Pr):Pure (RC ρ l):=eR fun x _ a ha=>qN x a ha
theorem Kv (x:List Pr × Int):Pure (Mu ρ x):=.aG (wP (Ku _) .v)
theorem Kw {S:ae}{a:AV}{l:List Pr}{e:Int}(h:aR S a (RC ρ l)):aR S (.aG [a,iv e]) (Mu ρ (l,e)):=by
 have H:eY S [a,iv e] [RC ρ l,iv e]:=⟨h,.refl _,trivial⟩;exact .aG H.len H.at
theorem UD {p:Pg}{i j:Int}(h:¬ ((lB p).2=0/\0<=i/\i<=j/\j < p.rs.length)):uh p i j=([],2):=by grind[uh]
theorem RD (p:Pg) (i j:Int) (nc:DB p) (h:¬ ((lB p).2=0/\0<=i/\i<=j/\j < p.rs.length)):ah Tryz.prog w0 7 [pg ρ p,iv i,iv j] (Mu ρ ([],2)):=by
 have Mv:=LL (w0:=w0) (ρ:=ρ) p nc;obtain⟨⟨c1,c2⟩,hc⟩:∃ c,c=lB p:=⟨_,rfl⟩;rw[<-hc] at Mv h;have xZ:=sU (ρ:=ρ) p;clear hc nc;obtain⟨ds,rs⟩:=p;simp only at h Mv;refine st qf7 g7 ((Kv _)) ?_
 repeat' (first
  |refine og g7 (af.aw rfl Mv ⟨xZ,trivial⟩) ?_
  |refine cg g7 (fun hb=>?_) fun hb=>?_
  |refine lg g7 fun m hm=>?_
  |(refine fq ?_))
 all_goals first
  |exact Kw mw
  |exfalso;omega
theorem OJ (p:Pg) (i j:Nat) (i' j':Int) (hi:i'=i) (hj:j'=j) (nc:DB p) (hc:(lB p).2=0) (hij:i<=j) (a b:Rl) (Gd:p.rs[i]?=some a) (RE:p.rs[j]?=some b) :
  ah Tryz.prog w0 7 [pg ρ p,iv i',iv j'] (Mu ρ (lI (lJ i' j' a b) (kK (lJ i' j' a b).T (lJ i' j' a b).F []) [])):=by
 have Mv:=LL (w0:=w0) (ρ:=ρ) p nc;have hA:=Ei (sR hc a (List.mem_of_getElem? Gd)) (nc.rr a (List.mem_of_getElem? Gd));have Ej:=Ei (sR hc b (List.mem_of_getElem? RE)) (nc.rr b (List.mem_of_getElem? RE));have hB:=Ej.sh a.vars;have hjl:j < p.rs.length:=(List.getElem?_eq_some_iff.1 RE).1;obtain⟨⟨c1,c2⟩,nH⟩:∃ c,c=lB p:=⟨_,rfl⟩;rw[<-nH] at Mv hc;simp only at hc;subst hc;clear nH nc;have Vs:=Ej.hn;rw[List.length_append] at Vs
 have hS:=KV (w0:=w0) (ρ:=ρ) a.vars b (by omega) (by omega) (by have:=Ej.gn;omega) (by have:=Ej.bn;omega)
  (fun x hx=>by have:=(Ej.ha x (by grind)).2.1;omega) (fun x hx=>by have:=(Ej.ha x (by grind)).2.1;omega) (fun x hx=>by have:=(Ej.ga x hx).2.1;omega) (fun x hx=>by have:=Ej.ba x hx;omega)
 unfold lJ;simp only;clear Ej Vs;obtain⟨b',Bm⟩:∃ b',b'=vI a.vars b:=⟨_,rfl⟩;rw[<-Bm] at hS hB ⊢;clear Bm;have kT:=hA.hn;have jb:=hB.hn;have hH1:=Kt (w0:=w0) (ρ:=ρ) a (by grind);have hH2:=Kt (w0:=w0) (ρ:=ρ) b' (by grind);have K7:(a.guard++b'.guard).length<=1000:=by have:=hA.gn;have:=hB.gn;rw[List.length_append];omega
 have hgg:∀ g ∈ a.guard++b'.guard,pY 200 g:=fun g hg=>(List.mem_append.1 hg).elim (hA.ga g) (hB.ga g);have nM:=hA.v;have tY:=hB.v;have hfa:=hA.ha;have hfb:=hB.ha;clear hA hB;obtain⟨F,hF⟩:∃ F,F=a.aU++a.rem:=⟨_,rfl⟩;obtain⟨T,hT⟩:∃ T,T=b'.aU++b'.rem:=⟨_,rfl⟩;rw[<-hF] at hH1 kT hfa ⊢;rw[<-hT] at hH2 jb hfb ⊢;clear hF hT;have hL:=Uo (w0:=w0) (ρ:=ρ) p i' j' a b' F T;have hI:=Un (w0:=w0) (ρ:=ρ) p i' j' a b' F T (by omega) (by omega);have hO:=fun l hl=>OB (w0:=w0) (ρ:=ρ) p i' j' a b' F T l hl;have hC:=fun l hn ho=>OI (w0:=w0) (ρ:=ρ) p i' j' a b' F T l (by omega) (by omega) hn ho hfa hfb K7 hgg ⟨nM,tY⟩;have cw:=jQ (ρ:=ρ) p i' j' a b' F T;have xZ:=sU (ρ:=ρ) p;have Qd:=nA (ρ:=ρ) a;have ajr:=nA (ρ:=ρ) b;have ajs:=nA (ρ:=ρ) b';have jA:∀ l ∈ kK T F [],wE T l/\l.length=F.length:=fun l hl=>by
  have:=A9 _ _ _ ⟨fun m hm=>(by grind),by simp⟩ hl;exact⟨this.1,by grind⟩
 have o3:(kK T F []).length<=625:=Nat.le_trans (xR jb F []) (Nat.le_trans (Nat.pow_le_pow_right (by decide) kT) (by decide));obtain⟨L,hL0⟩:∃ L,L=kK T F []:=⟨_,rfl⟩;rw[<-hL0] at hI jA o3 ⊢;clear hL0 hgg K7 hfa hfb;obtain⟨R,hR⟩:∃ R,R=lI ⟨i',j',a,b',F,T⟩ L []:=⟨_,rfl⟩;rw[<-hR];obtain⟨ds,rs⟩:=p;simp only at Gd RE hjl;unfold ld at hI;obtain⟨an,ak,ar,ag,ab,av⟩:=a;obtain⟨bn,bk,br,bg,bb,bv⟩:=b;obtain⟨cn,ck,cr,cg,cb,cv⟩:=b';refine st qf7 g7 ((Kv _)) ?_
 repeat' (first
  |refine ad.op rfl (af.aw rfl Mv ⟨xZ,trivial⟩) ?_;refine gq g7 ?_
  |refine bq (fun hb=>?_) (fun hb=>?_)<;>(try simp only[bX] at hb)<;>(first|exact absurd hb (by decide)|refine gq g7 ?_)
  |refine cF fun m hm=>?_;(try rw[aE] at hm);refine gq g7 ?_
  |(refine fq ?_))
 all_goals first
  |exfalso;omega
  |skip
 refine ad.fe rfl (fun T=>af.ind rfl rfl (aY (l:=rs) hi Gd) (aZ fun _=>rfl)) ?_;refine gq g7 ?_;refine ad.fe rfl (fun T=>af.ind rfl rfl (aY (l:=rs) hj RE) (aZ fun _=>rfl)) ?_;refine gq g7 ?_;refine ad.fe rfl (fun T=>af.ind rfl rfl (aY (l:=rs) hi Gd) (aZ fun _=>rfl)) ?_;refine gq g7 ?_;refine ad.fe rfl (fun T=>af.aw rfl hS ⟨ajr,.v,trivial⟩) ?_;refine gq g7 ?_;refine ad.op rfl (af.aw rfl hH1 ⟨Qd,trivial⟩) ?_;refine gq g7 ?_;refine ad.op rfl (af.aw rfl hH2 ⟨ajs,trivial⟩) ?_;refine gq g7 ?_;refine ad.op rfl (af.aw rfl hL ⟨.agg cw,trivial⟩) ?_;refine gq g7 ?_;have k1:fR 6 (.arr 1 [[.sl true []]] 0 true):=eG fun a ha=>by obtain rfl:=List.mem_singleton.1 ha;exact .sl fun r h=>by grind
 have k2:fR 6 (.arr 1 [[.v (.int .i64 0)]] 0 true):=eG fun a ha=>by obtain rfl:=List.mem_singleton.1 ha;exact .v
 have k3:fR 6 (.arr 18 [(cA ρ ⟨ds,rs⟩ i' j' ⟨an,ak,ar,ag,ab,av⟩ ⟨cn,ck,cr,cg,cb,cv⟩ F T)] 0 true):=eG cw
 refine ad.range (σ:=List Pr × Nat) (fun l:List Int=>[aX ρ aP false l]) L 6 7 [] [(6,.pt 1 1 0 0),(7,.pt 2 1 0 0),(10,.pt 3 18 0 0),(11,.pt 4 1 0 0)]
  (fun s=>[(1,.arr 1 [[.sl true []]] 0 true),(2,.arr 1 [[.v (.int .i64 0)]] 0 true),(3,.arr 18 [(cA ρ ⟨ds,rs⟩ i' j' ⟨an,ak,ar,ag,ab,av⟩ ⟨cn,ck,cr,cg,cb,cv⟩ F T)] 0 true),(4,.arr 1 [[.gr 6 12 s.2]] 0 true),(5,.df),(6,.arr 12 (ρ.h (List.map (sA ρ)) s.1) 0 false)])
  (fun rest s=>(∀ l ∈ rest,wE T l/\l.length=F.length)/\R=lI ⟨i',j',⟨an,ak,ar,ag,ab,av⟩,⟨cn,ck,cr,cg,cb,cv⟩,F,T⟩ rest s.1/\s.2=s.1.length/\s.1.length+rest.length<=625) ([],0) rfl (fun a ha=>by grind) (fun a ha=>by obtain rfl:=List.mem_singleton.1 ha;exact .ip cw) hI rfl ⟨jA,hR,rfl,by grind⟩ rfl
  (by intro p hp;simp only[List.mem_cons,List.not_mem_nil,or_false] at hp;rcases hp with rfl|rfl|rfl|rfl<;>exact .pt (by decide)) rfl (fun x=>⟨rfl,fun a ha=>by grind[bp]⟩)
  ⟨⟨.ao rfl (.pt (by decide)),.ao rfl (.pt (by decide)),.ao rfl (.pt (by decide)),.ao rfl (.pt (by decide)),trivial⟩,rfl,⟨.inl ⟨_,rfl,.same k1⟩,.inl ⟨_,rfl,.same k2⟩,.inl ⟨_,rfl,.same k3⟩,.inl ⟨_,rfl,.arr (by exact⟨kq,trivial⟩)⟩,.inl ⟨_,rfl,.same trivial⟩,.inr rfl,trivial⟩,rfl,rfl,rfl⟩ ?_ ?_
 ·rintro l rest ⟨out,n⟩ ⟨h1,h2,h3,h4⟩;have hl:=h1 l (by simp);have hO:=hO l (by omega);have hC:=hC l hl.2 hl.1;have h1:∀ y ∈ rest,wE T y/\y.length=F.length:=fun y hy=>h1 y (by grind);rw[lI] at h2;simp only at hO hC h2 h3;simp only[List.length_cons] at h4;obtain⟨o,ho⟩:∃ o,o=Ki i' j' ak.length ck.length l:=⟨_,rfl⟩;rw[<-ho] at hO h2;obtain⟨⟨x,ok,e⟩,hx⟩:∃ z,z=ug ⟨i',j',⟨an,ak,ar,ag,ab,av⟩,⟨cn,ck,cr,cg,cb,cv⟩,F,T⟩ l:=⟨_,rfl⟩;rw[<-hx] at hC h2;clear ho hx hl;obtain⟨xi,xj,⟨sg,ss,sb,sf,sk,sn,sr,sx⟩,x0,x1⟩:=x;unfold cA at cw hO hC ⊢;unfold Rz sA at hC;simp only at hC h2;refine gq g7 ?_;refine ad.op rfl (af.aw rfl hO ⟨.agg cw,bp _,trivial⟩) ?_;cases o with
  |false =>
   rw[if_neg (by decide)] at h2;refine gq g7 ?_;exact ad.H_ (out,n) [] ⟨h1,h2,h3,by grind⟩ ⟨trivial,rfl,⟨.inl ⟨_,rfl,.same k1⟩,.inl ⟨_,rfl,.same k2⟩,.inl ⟨_,rfl,.same k3⟩,.inl ⟨_,rfl,.arr (by exact⟨kq,trivial⟩)⟩,.inl ⟨_,rfl,.same trivial⟩,.inl ⟨_,rfl,.same (eO fun x _=>qN x)⟩,trivial⟩,rfl,rfl,rfl⟩
  |true =>
  rw[if_pos rfl] at h2;refine gq g7 ?_;refine ad.op rfl (af.aw rfl hC ⟨.agg cw,bp _,trivial⟩) ?_;refine gq g7 ?_;refine bq (fun b8=>?_) (fun b8=>?_)<;>(try simp only[bX] at b8)
  ·rw[if_pos b8] at h2;refine gq g7 ?_;refine ad.ag_ [(1,.arr 1 [[.sl true []]] 0 true),(2,.arr 1 [[iv e]] 0 true),(5,.df)] [] ⟨trivial,rfl,⟨.inl ⟨_,rfl,.same k1⟩,.inl ⟨_,rfl,.same (eG fun a ha=>by obtain rfl:=List.mem_singleton.1 ha;exact .v)⟩,.inl ⟨_,rfl,.same trivial⟩,trivial⟩,rfl,rfl,rfl⟩ ?_;refine gq g7 ?_;refine fq ?_;rw[h2];exact Kw mw
  rw[if_neg (by grind)] at h2;cases ok with
  |false =>
   rw[if_neg (by decide)] at h2;refine gq g7 ?_;exact ad.H_ (out,n) [] ⟨h1,h2,h3,by grind⟩ ⟨trivial,rfl,⟨.inl ⟨_,rfl,.same k1⟩,.inl ⟨_,rfl,.same k2⟩,.inl ⟨_,rfl,.same k3⟩,.inl ⟨_,rfl,.arr (by exact⟨kq,trivial⟩)⟩,.inl ⟨_,rfl,.same trivial⟩,.inl ⟨_,rfl,.same (eO fun x _=>qN x)⟩,trivial⟩,rfl,rfl,rfl⟩
  |true =>
  rw[if_pos rfl] at h2;refine gq g7 ?_;refine ad.app (x:=(⟨xi,xj,⟨sg,ss,sb,sf,sk,sn,sr,sx⟩,x0,x1⟩:Pr)) (f:=sA ρ) rfl rfl rfl h3 (fun _=>rfl) rfl rfl rfl rfl (by omega) fun ajt n' h5 h6=>?_;rw[<-h5] at h2;refine gq g7 ?_;exact ad.H_ (ajt,n') [(6,8)] ⟨h1,h2,h6,by grind⟩ ⟨trivial,rfl,⟨.inl ⟨_,rfl,.same k1⟩,.inl ⟨_,rfl,.same k2⟩,.inl ⟨_,rfl,.same k3⟩,.inl ⟨_,rfl,.arr (by exact⟨kq,trivial⟩)⟩,.inl ⟨_,rfl,.same trivial⟩,.inl ⟨_,rfl,.same (eO fun x _=>qN x)⟩,trivial⟩,rfl,rfl,rfl⟩
 ·rintro⟨out,n⟩ ⟨h1,h2,h3,h4⟩;simp only at h2 h3;rw[lI] at h2;unfold cA;refine gq g7 ?_;refine fq ?_;rw[h2];exact Kw (aR.grow rfl h3)
theorem XZ (p:Pg) (i j:Int) (nc:DB p):ah Tryz.prog w0 7 [pg ρ p,iv i,iv j] (Mu ρ (uh p i j)):=by grind[lB,uh,OJ,UD,RD]
end
end
section
set_option maxRecDepth 100000
attribute [local irreducible] ah aC af ad
def qf5:FQ 5 Tryz.f5:=a_ Tryz.func5 Tryz.call5
def g5:List Nat:=[4,1,3,2,0,14,19,58,80]
def vl (x:At):Bool:=xQ x.a
def xS (x:Gl):Bool:=xQ x.a
section
variable {w0:World}{ρ:Hd}
theorem Mw (l:List At) (hl:l.length<=1099511627776) (DF:∀ x ∈ l,vU x.a):ah Tryz.prog w0 10 [dy ρ l] (.v (.bool (l.all vl))):=by
 obtain⟨R,hR⟩:∃ R,R=l.all vl:=⟨_,rfl⟩;rw[<-hR];refine st ajp yr .v ?_;refine ad.bu (σ:=Int) 0 0 [] (fun i=>[(0,dy ρ l),(3,.v (.int .i64 i))]) [] (fun _=>[]) (fun i=>∃ k:Nat,i=k/\k<=l.length/\R=(l.drop k).all vl) (fun i=>l.length - i.toNat) 0 ⟨0,rfl,by simp,by grind⟩ rfl cq ?_;rintro i ⟨k,hi,hk,hp⟩;clear hR;refine gq yr ?_;by_cases aA:k < l.length
 ·obtain⟨x,hx,bK⟩:=bf aA;have pZ:=DF x (eU hx);have hT:=RB (w0:=w0) (ρ:=ρ) x.a pZ.len pZ.2;rw[bK,List.all_cons,vl] at hp;obtain⟨B,hB⟩:∃ B,B=xQ x.a:=⟨_,rfl⟩;rw[<-hB] at hp hT;obtain⟨xn,xa⟩:=x
  repeat' (first
   |refine og yr (af.ind rfl rfl (aY (l:=l) hi hx) (aZ fun _=>rfl)) ?_
   |refine bg yr (af.aw rfl hT ⟨aS _,trivial⟩) (fun _=>?_) fun _=>?_
   |refine cg yr (fun hb=>?_) fun hb=>?_
   |refine lg yr fun m hm=>?_
   |refine ag yr fun _ _=>?_
   |refine ad.aH ?_;refine gq yr ?_
   |refine ad.cP ?_;refine gq yr ?_
   |(refine fq ?_))
  all_goals first
   |exfalso;omega
   |rw[hp,show B=false by grind];exact eA rfl
   |rw[show B=true by grind,Bool.true_and] at hp;(refine ad.aO (σ:=Int) _ [] ?_ ?_ cq<;>first|omega|exact⟨k+1,by omega,by omega,hp⟩)
 ·skip
  repeat' (first
   |refine cg yr (fun hb=>?_) fun hb=>?_
   |refine lg yr fun m hm=>?_
   |refine ad.aH ?_;refine gq yr ?_
   |(refine fq ?_))
  all_goals first
   |exfalso;omega
   |rw[hp,List.drop_eq_nil_of_le (by omega)];exact eA rfl
theorem Kx (l:List Gl) (n:Int) (hl:l.length<=1099511627776) (DF:∀ x ∈ l,vU x.a):ah Tryz.prog w0 11 [cX ρ l,iv n] (.v (.bool (decide ((l.length:Int)<=n) && l.all xS))):=by
 obtain⟨R,hR⟩:∃ R,R=(decide ((l.length:Int)<=n) && l.all xS):=⟨_,rfl⟩;rw[<-hR];refine st ajq vk .v ?_
 repeat' (first
  |refine cg vk (fun hb=>?_) fun hb=>?_
  |refine lg vk fun m hm=>?_
  |(refine fq ?_))
 ·grind[eA]
 rw[decide_eq_true (by omega),Bool.true_and] at hR;refine ad.bu (σ:=Int) 0 0 [] (fun i=>[(0,cX ρ l),(5,.v (.int .i64 i))]) [] (fun _=>[]) (fun i=>∃ k:Nat,i=k/\k<=l.length/\R=(l.drop k).all xS) (fun i=>l.length - i.toNat) 0 ⟨0,rfl,by simp,by grind⟩ rfl cq ?_;rintro i ⟨k,hi,hk,hp⟩;clear hR;refine gq vk ?_;by_cases aA:k < l.length
 ·obtain⟨x,hx,bK⟩:=bf aA;have pZ:=DF x (eU hx);have hT:=RB (w0:=w0) (ρ:=ρ) x.a pZ.len pZ.2;rw[bK,List.all_cons,xS] at hp;obtain⟨B,hB⟩:∃ B,B=xQ x.a:=⟨_,rfl⟩;rw[<-hB] at hp hT;obtain⟨xo,xn,xa⟩:=x
  repeat' (first
   |refine og vk (af.ind rfl rfl (aY (l:=l) hi hx) (aZ fun _=>rfl)) ?_
   |refine bg vk (af.aw rfl hT ⟨aS _,trivial⟩) (fun _=>?_) fun _=>?_
   |refine cg vk (fun hb=>?_) fun hb=>?_
   |refine lg vk fun m hm=>?_
   |refine ag vk fun _ _=>?_
   |refine ad.aH ?_;refine gq vk ?_
   |refine ad.cP ?_;refine gq vk ?_
   |(refine fq ?_))
  all_goals first
   |exfalso;omega
   |rw[hp,show B=false by grind];exact eA rfl
   |rw[show B=true by grind,Bool.true_and] at hp;(refine ad.aO (σ:=Int) _ [] ?_ ?_ cq<;>first|omega|exact⟨k+1,by omega,by omega,hp⟩)
 ·skip
  repeat' (first
   |refine cg vk (fun hb=>?_) fun hb=>?_
   |refine lg vk fun m hm=>?_
   |refine ad.aH ?_;refine gq vk ?_
   |(refine fq ?_))
  all_goals first
   |exfalso;omega
   |rw[hp,List.drop_eq_nil_of_le (by omega)];exact eA rfl
end
end
end Go.Proofs.YtbpabjmnhggajaaGreat
