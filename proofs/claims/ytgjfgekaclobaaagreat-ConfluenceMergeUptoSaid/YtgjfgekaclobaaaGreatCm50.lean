import Derived.Test.YtgjfgekaclobaaaGreatCm48
namespace Go.Proofs.YtgjfgekaclobaaaGreat
set_option linter.unusedVariables false
set_option linter.unusedSimpArgs false
open Go.RowKit
section
variable {P:Program}{w0:World}{n:Nat}{α:AA}{S:aa}
theorem yj {F:Fence}{m:Nat}{A:Nat->Prop}{g:Gh}{a:Act}{w:World}{ops:Array Oper}{Q:Exit->Act->World->Prop}{i:Nat}{rest:List Nat}{o:Oper}{r:AV}{S':aa}(hF:fZ F) (hS:St w0 A g S w) (hA:bf g w n α a) (hi:ops[i]?=some o) (hg:o.guard=none) (hd:(match o.dst with|some d=>Nat.blt d n|none=>true)=true) (h:de P w0 n o α S r S')
  (k:∀ (a':Act) (w':World) (g':Gh),St w0 A g' S' w'->bf g' w' n (α.put o.dst r) a'->Ext A g w g' w'->wpOpsIn F m P ops Q rest a' w'):wpOpsIn F m P ops Q (i::rest) a w:=by
 simp only [wpOpsIn,hi]
 rw [if_pos (by simp [Region.wanted,hg])]
 exact⟨fun f _=>hF.1 f,h F m A g a w _ Q hF hS hA fun v w' g' hr dO hE=>k _ _ _ dO (gV (hA.later hE.toLater) hd hr) hE⟩
theorem Kk {o:Oper}{x:QO}(hr:res P.toTables o.op=some (.mv x)):de P w0 n o α S (x.ev α.tm) S:=by
 have h:ad P w0 false (.mv x) α S (x.ev α.tm) S:=ad.quiet rfl
 exact h n o hr
theorem ab.TN {Q:Exit->AA->aa->Prop}{K:List ig}{id:Nat}{o o1 o2:Oper}{q1 q2:QO}{d1 d2:Nat}{c:Call}{x i:Operand}{k:Nat}{m:Int}{mt kt et:TypeId}{kk:IntKind}(g1:o1.guard=none) (g2:o2.guard=none) (e1:o1.dst=some d1) (e2:o2.dst=some d2) (b1:Nat.blt d1 n=true) (b2:Nat.blt d2 n=true) (r1:res P.toTables o1.op=some (.mv q1)) (r2:res P.toTables o2.op=some (.mv q2))
  (ho:o.op=.defer c) (hc:c.callee=.builtin .delete) (hat:c.argTypes[0]?=some mt) (hu:P.underlying mt=some (.map kt et)) (hk:P.underlying kt=some (.int kk))
  (ha:c.args=#[x,i]) (hg:o.guard=none) (hd:o.dst=none) {kF:AA}(tZ:kF=(α.put (some d1) (q1.ev α.tm)).put (some d2) (q2.ev (α.put (some d1) (q1.ev α.tm)).tm)) (hx:(qo x).ev kF.tm=.mp k) (hi:(qo i).ev kF.tm=.v (.int .i64 m))
  (h:∀ t,Fl P t->ab P w0 false n Q (.out .normal K) ⟨kF.tm,.del t k m::kF.df⟩ S):ab P w0 false n Q (.run (.raw (.region id #[o1,o2,o] false)) K) α S:=by
 intro c0 vG _
 obtain rfl:=KJ vG
 rw [aD] at hx hi
 obtain⟨cs,vn⟩:∃ cs:Array Bool,(c.args.map fun|.const _=>true|_=>false)=cs:=⟨_,rfl⟩
 refine⟨.normal,_,S,fun F mm A g0 a0 ND hF hR JV hA0=>?_,h (.builtin .delete c.argTypes o.type cs) ⟨_,_,_,mt,kt,et,kk,rfl,hat,hu,hk⟩⟩
 have jv:F.round=none:=by
  cases hr:F.round with
  |none=>rfl
  |some l=>rw [hr] at hR;cases hR
 refine wpIn_region ?_
 rw [show (List.range (#[o1,o2,o]:Array Oper).size)=[0,1,2] from rfl]
 refine yj hF JV hA0 (o:=o1) rfl g1 (by rw [e1];exact b1) (Kk r1) fun a1 w1 gh1 er tc ld=>?_
 rw [e1] at tc
 refine yj hF er tc (o:=o2) rfl g2 (by rw [e2];exact b2) (Kk r2) fun a w g hS hA yd=>?_
 rw [e2,<-tZ] at hA
 have hE:=ld.trans yd
 have h1:=hA.ev x
 have h2:=hA.ev i
 rw [hx] at h1
 rw [hi] at h2
 obtain⟨e1',aH⟩:=kX h1
 have Zt:=bg h2
 have ga:(resolve a.eval c o.type).run P w=.ok { target:=.builtin .delete c.argTypes o.type cs,args:=#[.map (some (g.ob k)),.int .i64 m] } w:=by
  rw [<-vn]
  simp [resolve,hc,ha,e1',Zt]
  cases x<;>cases i<;>exact⟨rfl,rfl⟩
 have NB:bf g w n ⟨kF.tm,.del (.builtin .delete c.argTypes o.type cs) k m::kF.df⟩ { a with defers:=({ target:=.builtin .delete c.argTypes o.type cs,args:=#[.map (some (g.ob k)),.int .i64 m] }:Deferred)::a.defers }:=by
  refine⟨hA.size,hA.tm,hA.out,?_,fun d hd=>?_⟩
  ·show _=({ target:=.builtin .delete c.argTypes o.type cs,args:=#[.map (some (g.ob k)),.int .i64 m] }:Deferred)::_
   rw [<-hA.df]
  ·rcases List.mem_cons.1 hd with rfl|hd
   ·exact aH
   ·exact hA.oN d hd
 have ho0:(#[o1,o2,o]:Array Oper)[2]?=some o:=rfl
 simp only [wpOpsIn,ho0]
 rw [if_pos (by simp [Region.wanted,hg])]
 refine⟨fun f _=>hF.1 f,?_⟩
 have abK:(o.semAt F.round a.eval).run P w=.ok (.defer { target:=.builtin .delete c.argTypes o.type cs,args:=#[.map (some (g.ob k)),.int .i64 m] }) w:=by
  rw [jv]
  simp [Oper.semAt,execOp,ho,Sem.run_bind,ga]
 rw [abK]
 simp [Oper.uponIn,hd]
 exact⟨rfl,g,hS,NB,hE⟩
end
section
set_option maxRecDepth 100000
attribute [local irreducible] av aE ad ab
def OZ:CF Tryz.f372:=⟨_,by conv=>lhs;cbv⟩
theorem XF:bQ Tryz.prog 372 OZ.1 Tryz.f372.ntmps:=fh Tryz.func372 OZ.2 Tryz.call372
def eH:List Nat:=[0,1,10,6,2,56,15,7,9,26,8,30,12,46,11,55,57,54,14,16,70]
def ub (_:Unit):AV:=.v (.bool true)
def sB (ρ:Hd) (busy:List (Int × Unit)):Ob:=.mp (ρ.h (cu ub) busy)
def uu:Option (Int × Int)->AV
 |some q=>.aC [vL q,.v (.bool true)]
 |none=>.aC [vL (0,0),.v (.bool false)]
theorem C0 {T:Type}{f:T->AV}:∀ {l:List (Int × T)}{i:Int}{v:T},ao l i=none->fJ (cu f (l++[(i,v)])) i=some l.length
 |[],i,v,_=>by simp [cu,fJ,bC]
 |p::l,i,v,h=>by
  rw [ao] at h
  by_cases e:p.1=i
  ·rw [if_pos e] at h;cases h
  ·rw [if_neg e] at h
   have ih:=C0 (f:=f) (v:=v) h
   have e2:cu f (p::l++[(i,v)])=(bC p.1,f p.2)::cu f (l++[(i,v)]):=rfl
   rw [e2,fJ,ih]
   simp [bC,e]
theorem M0 {T:Type}{f:T->AV}{l:List (Int × T)}{i:Int}{v:T}(h:ao l i=none):yv (cu f (l++[(i,v)])) i=cu f l:=by
 unfold yv
 rw [C0 h]
 have:cu f (l++[(i,v)])=cu f l++[(bC i,f v)]:=by simp [cu]
 rw [this,show l.length=(cu f l).length by simp [cu]]
 show (cu f l++[(bC i,f v)]).eraseIdx (cu f l).length=cu f l
 rw [List.eraseIdx_append_of_length_le (Nat.le_refl _),Nat.sub_self]
 simp
theorem Kl {P:Program}{w0:World}{rd:Bool}{n:Nat}{qs:List QR}{R:AV->aa->Prop}{α:AA}{S S':aa}{r:AV}(hL:qK P S α.df S') (hr:(match jJ α.tm S' qs with|some [a]=>some a|some l=>some (.aC l)|none=>none)=some r) (k:R r S'):ab P w0 rd n (Lx P qs R) (.out .ret []) α S:=by
 simp only [ab,iJ]
 exact⟨rfl,S',r,hL,hr,k⟩
theorem qK.M1 {P:Program}{ρ:Hd}{S:aa}{t:Target}{k:Nat}{i:Int}{busy bz:List (Int × Unit)}(ht:Fl P t) (hb:ao busy i=none) (ym:bz=ee busy i ()) (hk:S.get k=some (.mp (ρ.h (cu ub) bz))):qK P S [.del t k i] (S.set k (some (sB ρ busy))):=by
 subst ym
 have e:yv (ρ.h (cu ub) (ee busy i ())) i=ρ.h (cu ub) busy:=by rw [ρ.eq,ρ.eq,nv hb,M0 hb]
 refine .del ht hk (by rw [ρ.eq];exact lS) ?_
 rw [e]
 exact .nil
def qn (kn:KN):Prop:=∀ C p,ao kn C=some p->(0<=p.1/\p.1<=201)/\0<=p.2/\p.2<=21
theorem qn.ins {kn:KN}{r:Int}{q:Int × Int}(h:qn kn) (hq:(0<=q.1/\q.1<=201)/\0<=q.2/\q.2<=21):qn (ee kn r q):=fun C p hp=>by
 rw [bo] at hp
 split at hp
 ·obtain rfl:=Option.some.inj hp;exact hq
 ·exact h C p hp
theorem r9 {N:aU}{sh:List (Int × Int)}:∀ (m:Nat) {busy:List (Int × Unit)}{r:Nat}{up cw:List Nat}{kn db:KN}{o:Option (Int × Int)},iu N sh m busy r up kn=some (o,cw,db)->qn kn->qn db/\cw.length=up.length/\∀ q,o=some q->(0<=q.1/\q.1<=201)/\0<=q.2/\q.2<=21
 |0,_,_,_,_,_,_,_,h,_=>by cases h
 |m+1,busy,r,up,cw,kn,db,o,h,hk=>by
  have key:∀ (l:List Nat) {busy:List (Int × Unit)}{up cw:List Nat}{kn db:KN}{q:Int × Int}{o:Option (Int × Int)},lA (iu N sh m busy) l up kn q=some (o,cw,db)->qn kn->((0<=q.1/\q.1<=201)/\0<=q.2/\q.2<=21)->qn db/\cw.length=up.length/\∀ q,o=some q->(0<=q.1/\q.1<=201)/\0<=q.2/\q.2<=21:=by
   intro l
   induction l with
   |nil =>
    intro busy up cw kn db q o h hk hq
    simp only [lA,Option.some.injEq,Prod.mk.injEq] at h
    obtain⟨rfl,rfl,rfl⟩:=h
    exact⟨hk,rfl,fun q' e=>by obtain rfl:=Option.some.inj e;exact hq⟩
   |cons x l ih =>
    intro busy up cw kn db q o h hk hq
    rw [lA] at h
    split at h
    ·cases h
    ·rename_i u c hr
     have e1:=eG hr
     split at h
     ·cases h
     ·rename_i u' ke hm
      obtain⟨k1,k2,_⟩:=r9 m hm hk
      simp only [Option.some.injEq,Prod.mk.injEq] at h
      obtain⟨rfl,rfl,rfl⟩:=h
      exact⟨k1,by omega,fun q' e=>by cases e⟩
     ·rename_i p u' ke hm
      obtain⟨k1,k2,k3⟩:=r9 m hm hk
      have k4:=k3 p rfl
      obtain⟨j1,j2,j3⟩:=ih h k1 ⟨⟨by simp only;omega,by simp only;omega⟩,by simp only;omega,by simp only;omega⟩
      exact⟨j1,by omega,j3⟩
  rw [iu] at h
  split at h
  ·rename_i q hq
   simp only [Option.some.injEq,Prod.mk.injEq] at h
   obtain⟨rfl,rfl,rfl⟩:=h
   exact⟨hk,rfl,fun q' e=>by obtain rfl:=Option.some.inj e;exact hk _ _ hq⟩
  ·split at h
   ·simp only [Option.some.injEq,Prod.mk.injEq] at h
    obtain⟨rfl,rfl,rfl⟩:=h
    exact⟨hk,rfl,fun q' e=>by cases e⟩
   ·split at h
    ·simp only [Option.some.injEq,Prod.mk.injEq] at h
     obtain⟨rfl,rfl,rfl⟩:=h
     exact⟨hk.ins (by decide),rfl,fun q' e=>by obtain rfl:=Option.some.inj e;decide⟩
    ·split at h
     ·split at h
      ·cases h
      ·split at h
       ·cases h
       ·rename_i u ke hm
        obtain⟨j1,j2,j3⟩:=key _ hm hk (by decide)
        simp only [Option.some.injEq,Prod.mk.injEq] at h
        obtain⟨rfl,rfl,rfl⟩:=h
        exact⟨j1,j2,fun q' e=>by cases e⟩
       ·rename_i q u ke hm
        obtain⟨j1,j2,j3⟩:=key _ hm hk (by decide)
        simp only [Option.some.injEq,Prod.mk.injEq] at h
        obtain⟨rfl,rfl,rfl⟩:=h
        exact⟨j1.ins (j3 q rfl),j2,fun q' e=>by obtain rfl:=Option.some.inj e;exact j3 q rfl⟩
     ·cases h
theorem C3 {N:Nat}{ρ:Hd}{S:aa}{nl ul:Nat}{Nd:aU}{vs sh ls:List (Int × Int)}{up:List Nat}{kn:KN}{busy:List (Int × Unit)}(h7:S.get 7=some (sB ρ busy):=by rfl) (h0:S.get 0=some (gO nl ul):=by rfl) (h1:S.get 1=some (cN ρ Nd):=by rfl) (h2:S.get 2=some (aY ρ vs):=by rfl) (h3:S.get 3=some (cO ρ up):=by rfl)
  (h4:S.get 4=some (cP ρ sh):=by rfl) (h5:S.get 5=some (aY ρ ls):=by rfl) (h6:S.get 6=some (cQ ρ kn):=by rfl):eI 8 [] N S (gX ρ nl ul Nd vs up sh ls kn++[(7,sB ρ busy)]) :=
 ⟨.inl ⟨_,h0,.same (lq (by omega))⟩,.inl ⟨_,h1,.same (gv _)⟩,.inl ⟨_,h2,.same (bY _)⟩,.inl ⟨_,h3,.same (fD _)⟩,.inl ⟨_,h4,.same (fE _)⟩,.inl ⟨_,h5,.same (bY _)⟩,.inl ⟨_,h6,.same (fF _)⟩,.inl ⟨_,h7,.same (fun e he=>Pure.bT (cU (fun _=>.v) busy e he))⟩,trivial⟩
def gB (ρ:Hd) (nl ul:Nat) (N:aU) (vs:List (Int × Int)) (up:List Nat) (sh ls:List (Int × Int)) (kn:KN) (busy:List (Int × Unit)):List (Nat × Ob):=gX ρ nl ul N vs up sh ls kn++[(7,sB ρ busy)]
theorem u6 {ρ:Hd}{nl ul:Nat}{N:aU}{vs:List (Int × Int)}{up:List Nat}{sh ls:List (Int × Int)}{kn:KN}{busy:List (Int × Unit)}{B:Nat}(h:7 < B):uh (gB ρ nl ul N vs up sh ls kn busy) B:=⟨fun j o hj=>by
 have hm:=dY hj
 unfold gB at hm
 rcases List.mem_append.1 hm with hm|hm
 ·have h1:cM (gX ρ nl ul N vs up sh ls kn) j=some o:=by
   have:=zc (ρ:=ρ) (nl:=nl) (ul:=ul) (N:=N) (vs:=vs) (up:=up) (sh:=sh) (ls:=ls) (kn:=kn) (j,o) hm
   exact this
  exact (bW (by omega)).get j o h1
 ·simp only [List.mem_cons,Prod.mk.injEq,List.not_mem_nil,or_false] at hm
  obtain⟨rfl,rfl⟩:=hm
  exact⟨h,(fun e he=>Pure.bT (cU (fun _=>.v) busy e he)),fun J=>by simp [sB]⟩⟩
theorem Km {ρ:Hd}{nl ul:Nat}{N:aU}{vs:List (Int × Int)}{up:List Nat}{sh ls:List (Int × Int)}{kn:KN}{busy:List (Int × Unit)}{T:aa}(h7:T.get 7=some (sB ρ busy):=by rfl) (h0:T.get 0=some (gO nl ul):=by rfl) (h1:T.get 1=some (cN ρ N):=by rfl) (h2:T.get 2=some (aY ρ vs):=by rfl) (h3:T.get 3=some (cO ρ up):=by rfl) (h4:T.get 4=some (cP ρ sh):=by rfl) (h5:T.get 5=some (aY ρ ls):=by rfl) (h6:T.get 6=some (cQ ρ kn):=by rfl):∀ j o,cM (gB ρ nl ul N vs up sh ls kn busy) j=some o->T.get j=some o:=fun j o hj=>by
 have hm:=dY hj
 unfold gB at hm
 rcases List.mem_append.1 hm with hm|hm
 ·exact ye (h0:=h0) (h1:=h1) (h2:=h2) (h3:=h3) (h4:=h4) (h5:=h5) (h6:=h6) (j,o) hm
 ·simp only [List.mem_cons,Prod.mk.injEq,List.not_mem_nil,or_false] at hm
  obtain⟨rfl,rfl⟩:=hm
  exact h7
theorem Kn {a:AV}{N:Nat}(h:7 < N) (ha:Pure a):∀ b ∈ [AV.pt 0 6 0 0,a,.mp 7],cC N b:=by
 intro b hb
 simp only [List.mem_cons,List.not_mem_nil,or_false] at hb
 rcases hb with rfl|rfl|rfl
 ·exact .pt (by omega)
 ·exact Pure.bT ha
 ·exact .mp h
theorem EM {B:Nat}{a b:Int}:kH B (.arr 2 [[iv a,iv b]] 0 true):=fun row hr x hx=>by
 obtain rfl:=List.mem_singleton.1 hr
 simp only [List.mem_cons,List.not_mem_nil,or_false] at hx
 rcases hx with rfl|rfl<;>exact .v
theorem TO {N:Nat}{ρ:Hd}{S:aa}{nl ul:Nat}{Nd:aU}{vs sh ls:List (Int × Int)}{up:List Nat}{kn:KN}{busy:List (Int × Unit)}{a b:Int}(h8:S.get 8=some (.arr 2 [[iv 0,iv 0]] 0 true):=by rfl) (DL:S.get 10=some (.arr 2 [[iv a,iv b]] 0 true):=by rfl) (h7:S.get 7=some (sB ρ busy):=by rfl) (h0:S.get 0=some (gO nl ul):=by rfl) (h1:S.get 1=some (cN ρ Nd):=by rfl) (h2:S.get 2=some (aY ρ vs):=by rfl) (h3:S.get 3=some (cO ρ up):=by rfl)
  (h4:S.get 4=some (cP ρ sh):=by rfl) (h5:S.get 5=some (aY ρ ls):=by rfl) (h6:S.get 6=some (cQ ρ kn):=by rfl):eI 11 [] N S [(0,gO nl ul),(1,cN ρ Nd),(2,aY ρ vs),(3,cO ρ up),(4,cP ρ sh),(5,aY ρ ls),(6,cQ ρ kn),(7,sB ρ busy),(8,.arr 2 [[iv 0,iv 0]] 0 true),(10,.arr 2 [[iv a,iv b]] 0 true)] :=
 ⟨.inl ⟨_,h0,.same (lq (by omega))⟩,.inl ⟨_,h1,.same (gv _)⟩,.inl ⟨_,h2,.same (bY _)⟩,.inl ⟨_,h3,.same (fD _)⟩,.inl ⟨_,h4,.same (fE _)⟩,.inl ⟨_,h5,.same (bY _)⟩,.inl ⟨_,h6,.same (fF _)⟩,.inl ⟨_,h7,.same (fun e he=>Pure.bT (cU (fun _=>.v) busy e he))⟩,.inl ⟨_,h8,.same EM⟩,.inl ⟨_,DL,.same EM⟩,trivial⟩
theorem kp (o:Option (Int × Int)):Pure (uu o):=by
 cases o<;>(refine .aC fun a ha=>?_)<;>simp only [List.mem_cons,List.not_mem_nil,or_false] at ha<;>rcases ha with rfl|rfl<;>first|exact o_ _|exact .v
section
variable {w0:World}{ρ:Hd}
theorem TP {N:aU}{vs sh ls:List (Int × Int)}{nl ul:Nat}(hN:zY N) (dz:nl=N.length) (jy:ul<=1099511627776):∀ (m:Nat) {busy:List (Int × Unit)}{r:Nat}{up cw:List Nat}{kn db:KN}{o:Option (Int × Int)},up.length=ul->qn kn->iu N sh m busy r up kn=some (o,cw,db) ->
  aE Tryz.prog w0 372 [.pt 0 6 0 0,iv r,.mp 7] (au (gX ρ nl ul N vs up sh ls kn++[(7,sB ρ busy)]) 8) (uu o) (au (gX ρ nl ul N vs cw sh ls db++[(7,sB ρ busy)]) 8):=by
 intro m
 induction m with
 |zero=>intro busy r up cw kn db o _ _ h;cases h
 |succ m ih =>
  intro busy r up cw kn db o hu hk h
  rw [iu] at h
  obtain⟨ri,Ej⟩:∃ ri:Int,ri=r:=⟨_,rfl⟩
  rw [<-Ej] at h ⊢
  refine bQ.U2 8 8 _ XF (by simp [Tryz.ntmps372]) rfl rfl ?_
  unfold gX
  refine gq eH ?_
  refine ab.look (ρ:=ρ) (f:=vL) (kv:=kn) rfl rfl rfl rfl (fun q hq=>?_) (fun hq=>?_)
  ·rw [hq] at h
   simp only [Option.some.injEq,Prod.mk.injEq] at h
   obtain⟨rfl,rfl,rfl⟩:=h
   refine gq eH ?_
   exact Kl .nil rfl ⟨[],.aJ (Pure.bT (kp (some q))),C3,rfl⟩
  rw [hq] at h
  simp only at h
  refine gq eH ?_
  refine ab.look (ρ:=ρ) (f:=ub) (kv:=busy) rfl rfl rfl rfl (fun b hb=>?_) (fun hb=>?_)
  ·rw [hb] at h
   simp only [Option.some.injEq,Prod.mk.injEq] at h
   obtain⟨rfl,rfl,rfl⟩:=h
   refine gq eH ?_
   exact Kl .nil rfl ⟨[],.aJ (Pure.bT (kp none)),C3,rfl⟩
  rw [hb] at h
  simp only at h
  refine gq eH ?_
  refine ab.gQ (ρ:=ρ) (f:=ub) (kv:=busy) (v:=()) rfl rfl rfl rfl rfl (fun bz ym=>?_)
  refine gq eH ?_
  refine ab.TN rfl rfl rfl rfl rfl rfl rfl rfl rfl rfl rfl rfl rfl rfl rfl rfl rfl rfl rfl (fun t ht=>?_)
  refine gq eH ?_
  refine ab.look (ρ:=ρ) (f:=iv) (kv:=sh) rfl rfl rfl rfl (fun k yf=>?_) (fun yf=>?_)
  ·rw [yf] at h
   simp only at h
   split at h
   rotate_left
   ·cases h
   rename_i ZW
   obtain⟨Av,z6⟩:∃ n:Nat,n=k.toNat:=⟨_,rfl⟩
   rw [<-z6] at h
   split at h
   ·cases h
   rename_i t0 l xY
   have q2:k=(Av:Int):=by omega
   have g2:=hN _ _ _ xY
   have i2:Av < nl:=by rw [dz];exact (List.getElem?_eq_some_iff.1 xY).1
   have r2:=h_ (ρ:=ρ) (f:=od ρ) xY
   rw [od] at r2
   simp only at r2
   have ZY:Pure (dw ρ fP false l):=eR fun x _ a ha=>by
    obtain rfl:=List.mem_singleton.1 ha
    exact .v
   rw [<-ym] at h
   obtain⟨TQ,TR⟩:∃ TQ,TQ=lA (iu N sh m bz) l up kn (1,1):=⟨_,rfl⟩
   rw [<-TR] at h
   refine gq eH ?_
   refine ab.op rfl (ad.lK rfl rfl q2 i2) ?_
   refine ab.op rfl (ad.quiet rfl) ?_
   refine ab.op rfl (ad.o8 rfl rfl r2 rfl) ?_
   refine gq eH ?_
   refine ab.int rfl (ad.len rfl) fun q po=>?_
   rw [aF] at po
   refine gq eH ?_
   refine ab.iK (σ:=Int × List Nat × KN × (Int × Int)) 11 11 [] (fun p=>[(0,.pt 0 6 0 0),(1,iv ri),(2,.mp 7),(6,.pt 8 2 0 0),(7,.v (.bool false)),(10,.pt 10 2 0 0),(54,dw ρ fP false l),(55,iv q),(56,iv p.1)]) [.del t 7 ri]
    (fun p=>[(0,gO nl ul),(1,cN ρ N),(2,aY ρ vs),(3,cO ρ p.2.1),(4,cP ρ sh),(5,aY ρ ls),(6,cQ ρ p.2.2.1),(7,sB ρ bz),(8,.arr 2 [[iv 0,iv 0]] 0 true),(10,.arr 2 [[iv p.2.2.2.1,iv p.2.2.2.2]] 0 true)])
    (fun p=>∃ i:Nat,p.1=i/\i<=l.length/\p.2.1.length=ul/\qn p.2.2.1/\((0<=p.2.2.2.1/\p.2.2.2.1<=201)/\0<=p.2.2.2.2/\p.2.2.2.2<=21)/\lA (iu N sh m bz) (l.drop i) p.2.1 p.2.2.1 p.2.2.2=TQ) (fun p=>l.length - p.1.toNat)
    (0,up,kn,(1,1)) ⟨0,rfl,by simp,hu,hk,by simp only;decide,by simpa using TR.symm⟩ rfl (by exact⟨sq,rfl,TO,rfl,rfl,rfl⟩) ?_
   rintro⟨ii,eF,ke,⟨p1,p2⟩⟩ ⟨i,sA,wX,fG,dL,⟨⟨b1,b2⟩,b3,b4⟩,hm⟩
   simp only at sA wX fG dL b1 b2 b3 b4 hm
   refine gq eH ?_
   refine bq (fun dF=>?_) (fun dF=>?_)<;>(try simp only [bS] at dF)
   ·have lf:i < l.length:=by omega
    obtain⟨x,hx⟩:∃ x,l[i]?=some x:=⟨_,List.getElem?_eq_getElem lf⟩
    obtain⟨xa,xb⟩:=List.getElem?_eq_some_iff.1 hx
    rw [List.drop_eq_getElem_cons xa,xb,lA] at hm
    split at hm
    ·subst hm
     cases h
    rename_i u2 cl hr
    have c1:=qU (w0:=w0) (ρ:=ρ) (s:=⟨N,vs,⟨eF,sh,ls⟩⟩) (kn:=ke) (by simp only;omega) hr
    have gu:u2.length=ul:=by rw [eG hr,fG]
    simp only at c1
    rw [<-eD dz fG,<-eD dz gu] at c1
    refine gq eH ?_
    refine ab.op rfl (ad.ind rfl rfl (ky (l:=l) sA hx) (kz fun _=>rfl)) ?_
    refine gq eH ?_
    refine ab.op rfl (ad.iz c1 rfl (Nat.le_of_ble_eq_true rfl) (bW (by decide)) (jB) (bW (by decide)) (mB (by decide) .v) .v) ?_
    obtain⟨ro,u3,qH,qT⟩:∃ ro u3 qH,iu N sh m bz cl u2 ke=some (ro,u3,qH):=by
     cases qT:iu N sh m bz cl u2 ke with
     |none=>rw [qT] at hm;simp only at hm;subst hm;cases h
     |some w=>exact⟨w.1,w.2.1,w.2.2,rfl⟩
    rw [qT] at hm
    obtain⟨k3,l3,p3⟩:=r9 m qT dL
    have c2:aE Tryz.prog w0 372 [.pt 0 6 0 0,iv cl,.mp 7] (au (gB ρ nl ul N vs u2 sh ls ke bz) 8) (uu ro) (au (gB ρ nl ul N vs u3 sh ls qH bz) 8):=ih gu dL qT
    have oe:u3.length=ul:=by omega
    refine gq eH ?_
    refine ab.op rfl (ad.iz c2 rfl (Nat.le_of_ble_eq_true rfl) (u6 (by decide)) (Km) (u6 (by decide)) (Kn (by decide) .v) (Pure.bT (kp ro))) ?_
    cases ro with
    |none =>
     simp only at hm
     subst hm
     simp only [Option.some.injEq,Prod.mk.injEq] at h
     obtain⟨rfl,rfl,rfl⟩:=h
     rw [uu]
     refine gq eH ?_
     refine ab.bO ?_
     refine gq eH ?_
     exact Kl (qK.M1 ht hb ym rfl) rfl ⟨[],.aJ (Pure.bT (kp none)),C3,rfl⟩
    |some pq =>
     obtain⟨q3,q4⟩:=pq
     obtain⟨⟨d1,d2⟩,d3,d4⟩:=p3 _ rfl
     simp only at hm d1 d2 d3 d4
     rw [uu]
     refine gq eH ?_
     refine bH (fun a1 fU=>?_)
     refine gq eH ?_
     refine ab.int rfl (ad.min (k:=.i64) (a:=a1) (b:=201) rfl rfl) fun a2 k_=>?_
     refine gq eH ?_
     refine bH (fun a3 n_=>?_)
     refine gq eH ?_
     refine ab.int rfl (ad.max (k:=.i64) (a:=p2) (b:=a3) rfl rfl) fun a4 ha4=>?_
     refine gq eH ?_
     refine ab.int rfl (ad.min (k:=.i64) (a:=a4) (b:=21) rfl rfl) fun a5 ha5=>?_
     refine gq eH ?_
     refine bH (fun i3 Ki=>?_)
     refine gq eH ?_
     have e1:a2=min (p1+q3) 201:=by omega
     have e2:a5=min (max p2 (q4+1)) 21:=by omega
     refine ab.d_ (σ:=Int × List Nat × KN × (Int × Int)) (i3,u3,qH,(a2,a5)) [] ⟨i+1,by simp only;omega,by omega,oe,k3,⟨⟨by simp only;omega,by simp only;omega⟩,by simp only;omega,by simp only;omega⟩,by rw [e1,e2];exact hm⟩ ?_ (by exact⟨sq,rfl,TO,rfl,rfl,rfl⟩)
     simp only;omega
   ·have lf:i=l.length:=by omega
    rw [lf,List.drop_of_length_le (Nat.le_refl _),lA] at hm
    subst hm
    simp only [Option.some.injEq,Prod.mk.injEq] at h
    obtain⟨rfl,rfl,rfl⟩:=h
    refine gq eH ?_
    refine ab.bh ?_
    refine gq eH ?_
    refine ab.xQ (ρ:=ρ) (f:=vL) (kv:=ke) (v:=(p1,p2)) rfl rfl rfl rfl rfl (fun BP M3=>?_)
    rw [<-M3]
    refine gq eH ?_
    exact Kl (qK.M1 ht hb ym rfl) rfl ⟨[],.aJ (Pure.bT (kp (some (p1,p2)))),C3,rfl⟩
  ·rw [yf] at h
   simp only [Option.some.injEq,Prod.mk.injEq] at h
   obtain⟨rfl,rfl,rfl⟩:=h
   refine gq eH ?_
   refine ab.xQ (ρ:=ρ) (f:=vL) (kv:=kn) (v:=((1:Int),(1:Int))) rfl rfl rfl rfl rfl (fun BP M3=>?_)
   rw [<-M3]
   refine gq eH ?_
   exact Kl (qK.M1 ht hb ym rfl) rfl ⟨[],.aJ (Pure.bT (kp (some (1,1)))),C3,rfl⟩
end
end
section
set_option maxRecDepth 100000
attribute [local irreducible] av aE ad ab
def O0:CF Tryz.f403:=⟨_,by conv=>lhs;cbv⟩
theorem XG:bQ Tryz.prog 403 O0.1 Tryz.f403.ntmps:=fh Tryz.func403 O0.2 Tryz.call403
def fR:List Nat:=[8,0,5,4,7,9,1,16]
def O1:CF Tryz.f367:=⟨_,by conv=>lhs;cbv⟩
theorem XH:bQ Tryz.prog 367 O1.1 Tryz.f367.ntmps:=fh Tryz.func367 O1.2 Tryz.call367
def r_:List Nat:=[4,0,1]
def O2:CF Tryz.f368:=⟨_,by conv=>lhs;cbv⟩
theorem XI:bQ Tryz.prog 368 O2.1 Tryz.f368.ntmps:=fh Tryz.func368 O2.2 Tryz.call368
def sc:List Nat:=[2,0,1]
def O3:CF Tryz.f336:=⟨_,by conv=>lhs;cbv⟩
theorem XJ:bQ Tryz.prog 336 O3.1 Tryz.f336.ntmps:=fh Tryz.func336 O3.2 Tryz.call336
def sd:List Nat:=[2,0]
section
variable {w0:World}{ρ:Hd}
theorem TS (p:Tm->Bool) (l:List Tm) (gid:FuncId) (fs cs:List AV) (hl:l.length<=1099511627776) (hF:Pure (.fn (.func gid) fs cs)) (h:∀ x ∈ l,Od Tryz.prog w0 (.fn (.func gid) fs cs) [tm ρ x] (p x)):av Tryz.prog w0 403 [tl ρ l,.fn (.func gid) fs cs] (iv (nN p l 0)):=by
 obtain⟨R,hR⟩:∃ R,R=nN p l 0:=⟨_,rfl⟩
 rw [<-hR]
 refine XG.eQ (by simp [Tryz.ntmps403]) (.v) ?_
 refine gq fR ?_
 repeat' (first
  |(refine bq (fun hb=>?_) (fun hb=>?_)<;>(try simp only [bS] at hb)<;>(first|exact absurd hb (by decide)|refine gq fR ?_))
  |(refine bK fun m hm=>?_;(try rw [aF] at hm);refine gq fR ?_)
  |(refine bH fun _ _=>?_;refine gq fR ?_)
  |(refine dx fun _ _=>?_;refine gq fR ?_)
  |(refine ab.str rfl (ad.cat rfl rfl (by assumption)) fun _ _=>?_;refine gq fR ?_)
  |(refine ab.bh ?_;refine gq fR ?_)
  |(refine ab.bO ?_;refine gq fR ?_)
  |(refine fq ?_))
 refine ab.iK (σ:=Int) 0 0 [] (fun i=>[(0,tl ρ l),(1,.fn (.func gid) fs cs),(7,.v (.int .i64 m)),(8,.v (.int .i64 i))]) [] (fun _=>[])
  (fun i=>∃ k:Nat,i=k/\k<=l.length/\R=nN p (l.drop k) k) (fun i=>l.length - i.toNat) 0 ⟨0,rfl,by simp,by simpa using hR⟩ rfl ⟨⟨.aJ rfl (Pure.bT (cy _)),.aJ rfl (Pure.bT hF),.aJ rfl .v,.aJ rfl .v,trivial⟩,rfl,trivial,rfl,rfl,rfl⟩ ?_
 rintro i ⟨k,hi,hk,hp⟩
 clear hR
 refine gq fR ?_
 by_cases aB:k < l.length
 ·obtain⟨x,hx,iN⟩:=oA aB
  rw [iN,nN] at hp
  have hf:=h x (BF hx)
  repeat' (first
   |(refine ab.op rfl (ad.ind rfl rfl (qA (l:=l) hi hx) qB) ?_;refine gq fR ?_)
   |(refine ab.bif rfl (ad.fnB rfl rfl hf) (fun _=>?_) (fun _=>?_)<;>refine gq fR ?_)
   |(refine bq (fun hb=>?_) (fun hb=>?_)<;>(try simp only [bS] at hb)<;>(first|exact absurd hb (by decide)|refine gq fR ?_))
   |(refine bK fun m hm=>?_;(try rw [aF] at hm);refine gq fR ?_)
   |(refine bH fun _ _=>?_;refine gq fR ?_)
   |(refine dx fun _ _=>?_;refine gq fR ?_)
   |(refine ab.str rfl (ad.cat rfl rfl (by assumption)) fun _ _=>?_;refine gq fR ?_)
   |(refine ab.bh ?_;refine gq fR ?_)
   |(refine ab.bO ?_;refine gq fR ?_)
   |(refine fq ?_))
  all_goals first
   |(rw [if_pos (by assumption)] at hp;refine vw ?_;omega)
   |(rw [if_neg (by simp_all)] at hp
     refine ab.d_ (σ:=Int) _ [] ?_ ?_ ⟨⟨.aJ rfl (Pure.bT (cy _)),.aJ rfl (Pure.bT hF),.aJ rfl .v,.aJ rfl .v,trivial⟩,rfl,trivial,rfl,rfl,rfl⟩
     ·exact⟨k+1,by omega,by omega,hp⟩
     ·omega)
   |(exfalso;omega)
 ·skip
  repeat' (first
   |(refine bq (fun hb=>?_) (fun hb=>?_)<;>(try simp only [bS] at hb)<;>(first|exact absurd hb (by decide)|refine gq fR ?_))
   |(refine bK fun m hm=>?_;(try rw [aF] at hm);refine gq fR ?_)
   |(refine bH fun _ _=>?_;refine gq fR ?_)
   |(refine dx fun _ _=>?_;refine gq fR ?_)
   |(refine ab.str rfl (ad.cat rfl rfl (by assumption)) fun _ _=>?_;refine gq fR ?_)
   |(refine ab.bh ?_;refine gq fR ?_)
   |(refine ab.bO ?_;refine gq fR ?_)
   |(refine fq ?_))
  all_goals first
   |(exfalso;omega)
   |(rw [hp,List.drop_eq_nil_of_le (by omega)];exact vw rfl)
theorem TT (p:Tm->Bool) (l:List Tm) (gid:FuncId) (fs cs:List AV) (hl:l.length<=1099511627776) (hF:Pure (.fn (.func gid) fs cs)) (h:∀ x ∈ l,Od Tryz.prog w0 (.fn (.func gid) fs cs) [tm ρ x] (p x)):av Tryz.prog w0 367 [tl ρ l,.fn (.func gid) fs cs] (.v (.bool (l.any p))):=by
 have hI:=TS (w0:=w0) (ρ:=ρ) p l gid fs cs hl hF h
 have TU:=BS p l 0
 obtain⟨j,hj⟩:∃ j,j=nN p l 0:=⟨_,rfl⟩
 rw [<-hj] at hI TU
 refine XH.eQ (by simp [Tryz.ntmps367]) (.v) ?_
 refine gq r_ ?_
 repeat' (first
  |(refine ab.int rfl (ad.b9 rfl hI ⟨cy _,hF,trivial⟩) fun _ _=>?_;refine gq r_ ?_)
  |(refine bq (fun hb=>?_) (fun hb=>?_)<;>(try simp only [bS] at hb)<;>(first|exact absurd hb (by decide)|refine gq r_ ?_))
  |(refine bK fun m hm=>?_;(try rw [aF] at hm);refine gq r_ ?_)
  |(refine bH fun _ _=>?_;refine gq r_ ?_)
  |(refine dx fun _ _=>?_;refine gq r_ ?_)
  |(refine ab.str rfl (ad.cat rfl rfl (by assumption)) fun _ _=>?_;refine gq r_ ?_)
  |(refine ab.bh ?_;refine gq r_ ?_)
  |(refine ab.bO ?_;refine gq r_ ?_)
  |(refine fq ?_))
 all_goals (subst_vars;refine su ?_;rw [<-TU];simp_all)
theorem TV {f:FuncId}:Wk (.v (.func (.func f) #[] #[])) (.fn (.func f) [] []):=fun g w x hr=>by
 obtain rfl:=bg hr
 exact .fn rfl rfl (fun i a y h=>by simp at h) (fun i a y h=>by simp at h)
theorem Ko (x:Tm) (hx:x.ok):av Tryz.prog w0 368 [tm ρ x] (.v (.bool (!(eM x)))):=by
 have h:=QW (w0:=w0) (ρ:=ρ) x hx
 obtain⟨R,hR⟩:∃ R,R=eM x:=⟨_,rfl⟩
 rw [<-hR] at h ⊢
 refine XI.eQ (by simp [Tryz.ntmps368]) (.v) ?_
 refine gq sc ?_
 repeat' (first
  |(refine ab.bif rfl (ad.b9 rfl h ⟨dN x,trivial⟩) (fun _=>?_) (fun _=>?_)<;>refine gq sc ?_)
  |(refine bq (fun hb=>?_) (fun hb=>?_)<;>(try simp only [bS] at hb)<;>(first|exact absurd hb (by decide)|refine gq sc ?_))
  |(refine bK fun m hm=>?_;(try rw [aF] at hm);refine gq sc ?_)
  |(refine bH fun _ _=>?_;refine gq sc ?_)
  |(refine dx fun _ _=>?_;refine gq sc ?_)
  |(refine ab.str rfl (ad.cat rfl rfl (by assumption)) fun _ _=>?_;refine gq sc ?_)
  |(refine ab.bh ?_;refine gq sc ?_)
  |(refine ab.bO ?_;refine gq sc ?_)
  |(refine fq ?_))
 all_goals (refine su ?_;simp_all)
theorem Rx (x:Tm) (hx:x.ok):Od Tryz.prog w0 (.fn (.func 368) [] []) [tm ρ x] (!(eM x)):=⟨_,_,rfl,⟨dN x,trivial⟩,Ko x hx⟩
theorem C4 (l:List Tm) (hl:l.length<=1099511627776) (mD:∀ x ∈ l,x.ok):av Tryz.prog w0 336 [tl ρ l] (.v (.bool (!(l.any fun x=>!(eM x))))):=by
 obtain⟨R,hR⟩:∃ R,R=(l.any fun x=>!(eM x)):=⟨_,rfl⟩
 have hc:=TT (w0:=w0) (ρ:=ρ) (fun x=>!(eM x)) l 368 [] [] hl (.fn (fun a h=>by cases h) (fun a h=>by cases h)) (fun x hx=>Rx x (mD x hx))
 rw [<-hR] at hc ⊢
 refine XJ.eQ (by simp [Tryz.ntmps336]) (.v) ?_
 refine gq sd ?_
 repeat' (first
  |(refine ab.bif rfl (ad.Bb rfl hc ⟨cy _,.fn (fun a h=>by cases h) (fun a h=>by cases h),trivial⟩ ⟨.refl _,TV,trivial⟩) (fun _=>?_) (fun _=>?_)<;>refine gq sd ?_)
  |(refine bq (fun hb=>?_) (fun hb=>?_)<;>(try simp only [bS] at hb)<;>(first|exact absurd hb (by decide)|refine gq sd ?_))
  |(refine bK fun m hm=>?_;(try rw [aF] at hm);refine gq sd ?_)
  |(refine bH fun _ _=>?_;refine gq sd ?_)
  |(refine dx fun _ _=>?_;refine gq sd ?_)
  |(refine ab.str rfl (ad.cat rfl rfl (by assumption)) fun _ _=>?_;refine gq sd ?_)
  |(refine ab.bh ?_;refine gq sd ?_)
  |(refine ab.bO ?_;refine gq sd ?_)
  |(refine fq ?_))
 all_goals (refine su ?_;simp_all)
end
end
section
set_option maxRecDepth 100000
attribute [local irreducible] av aE ad ab
def O4:CF Tryz.f337:=⟨_,by conv=>lhs;cbv⟩
theorem XK:bQ Tryz.prog 337 O4.1 Tryz.f337.ntmps:=fh Tryz.func337 O4.2 Tryz.call337
def C5:List Nat:=[0]
section
variable {w0:World}{ρ:Hd}
theorem IB:aE Tryz.prog w0 337 [] (au [] 0) (.pt 0 6 0 0) (au (gS ρ ⟨[],[],⟨[],[],[]⟩⟩ []) 7):=by
 refine bQ.jl 0 7 _ XK (by simp [Tryz.ntmps337]) rfl rfl ?_
 refine gq C5 ?_
 refine ab.xO ρ iv rfl (fun k1 h1=>?_)
 refine gq C5 ?_
 refine ab.ft ρ iv rfl (fun k2 h2=>?_)
 refine gq C5 ?_
 refine ab.xO ρ iv rfl (fun k3 h3=>?_)
 refine gq C5 ?_
 refine ab.ft ρ vL rfl (fun k4 h4=>?_)
 refine gq C5 ?_
 refine fq ?_
 subst h1 h2 h3 h4
 exact⟨[(0,4),(1,5),(2,0),(3,6),(4,1),(5,2),(6,3)],.kR rfl rfl,⟨.inl ⟨_,rfl,.arr (by exact⟨⟨.ia,.nJ rfl rfl,.ia,.nJ rfl rfl,.nJ rfl rfl,.nJ rfl rfl,trivial⟩,trivial⟩)⟩,.inr rfl,.inl ⟨_,rfl,.same (bY _)⟩,.inr rfl,.inl ⟨_,rfl,.same (fE _)⟩,.inl ⟨_,rfl,.same (bY _)⟩,.inl ⟨_,rfl,.same (fF _)⟩,trivial⟩,rfl⟩
end
structure GI (s:PS):Prop where
 V:kU s
 F:EK s
 A:nA s.N
 G:gI s.N
theorem GI.add {s:PS}{t:Tm}(h:GI s) (hw:dP t) (ha:iy t):GI (a6 s t).1/\(a6 s t).1.N.length<=s.N.length+gp t:=by
 obtain⟨h1,h2,h3,h4⟩:=lT s t h.V hw
 obtain⟨k1,k2⟩:=uY s.N t h.A ha
 obtain⟨x1,_,_⟩:=uN s.N t h.G hw
 rw [<-h1] at k1 k2 x1
 exact⟨⟨h3,fun C hC=>by rw [h4.tv C hC];exact h.F C (Nat.le_trans h4.le hC),k1,x1.g⟩,k2⟩
theorem yn {ls:List (Int × Int)}{a b L:Nat}(ha:a < L) (h:∀ C:Nat,L<=C->ao ls (C:Int)=none):∀ C:Nat,L<=C->ao (fV ls a b) (C:Int)=none:=by
 intro C hC
 have key:∀ v,ao (ee ls (a:Int) v) (C:Int)=none:=fun v=>by rw [bo,if_neg (by omega)];exact h C hC
 unfold fV
 split
 ·split
  ·split
   ·exact key _
   ·exact h C hC
  ·exact key _
 ·exact h C hC
theorem pU {N:aU}:∀ {m:Nat}{ps:List (Nat × Nat)}{s s':JS}{b:Bool},ec N m ps s=some (b,s')->∀ {L:Nat},s.up.length=L->(∀ C:Nat,L<=C->ao s.ls (C:Int)=none)->∀ C:Nat,L<=C->ao s'.ls (C:Int)=none
 |0,_,_,_,_,h,_,_,_=>by cases h
 |m+1,ps,s,s',b,h,L,hL,hf=>by
  rw [ec] at h
  split at h
  ·cases h
  ·split at h
   ·simp only [Option.some.injEq,Prod.mk.injEq] at h;rw [<-h.2];exact hf
   ·split at h
    ·cases h
    ·rename_i u1 a h1
     split at h
     ·cases h
     ·rename_i u2 b2 h2
      have e1:=eG h1
      have e2:=eG h2
      have ea:a < L:=by have:=CO h1;omega
      split at h
      ·exact pU h (by simp only;omega) hf
      ·split at h
       ·split at h
        ·split at h
         ·split at h
          ·split at h
           ·exact pU h (by simp only [List.length_set];omega) (yn ea hf)
           ·cases h
          ·simp only [Option.some.injEq,Prod.mk.injEq] at h;rw [<-h.2];exact hf
         ·cases h
        ·cases h
       ·exact pU h (by simp only [List.length_set];omega) (yn ea hf)
theorem GI.join {s:PS}{m:Nat}{ps:List (Nat × Nat)}{j:JS}{b:Bool}(h:GI s) (hj:ec s.N m ps s.js=some (b,j)):GI ⟨s.N,s.vs,j⟩ :=
 ⟨⟨h.V.vs,by rw [lW hj];exact h.V.up,h.V.nd⟩,fun C hC=>pU hj h.V.up h.F C hC,h.A,h.G⟩
theorem GI.nil:GI ⟨[],[],⟨[],[],[]⟩⟩:=⟨⟨fun v=>rfl,rfl,List.nodup_nil⟩,fun C _=>rfl,fun i hi=>(by cases hi),zZ⟩
end
end Go.Proofs.YtgjfgekaclobaaaGreat
