import Derived.Test.YtbofilglphfceaaGreatQ48
namespace Go.Proofs.YtbofilglphfceaaGreat
set_option linter.unusedVariables false
set_option linter.unusedSimpArgs false
open Go.RowKit
section
set_option maxRecDepth 100000
attribute [local irreducible] ah bc ad ab
def VS:CF Tryz.f56:=⟨_,by conv=>lhs;cbv⟩
theorem acL:aH Tryz.prog 56 VS.1 Tryz.f56.ntmps:=aQ Tryz.func56 VS.2 Tryz.call56
def jD:List Nat:=[1,5,4,6,7,2,3,0,11,16,24,29,38,51,56,68]
def By (s:List Dc) (d:Dc):Int:=if gk d.n then (if decide (0<=d.ar) && decide (d.ar<=6) then (if ef s d.n d.ar then 8 else 0) else 9) else 7
def nf (ds:List Dc):List Dc->Nat->Int
 |[],_=>0
 |d::l,k=>bh (By (ds.take k) d) (nf ds l (k+1))
def qM (ds:List Dc):List Rl->Nat->Int × Int
 |[],_=>(0,0)
 |r::l,k=>if rI ds r=0 then qM ds l (k+1) else (k,rI ds r)
def ng (p:Pg):Int × Int:=if p.ds.length<=30 then (if nf p.ds p.ds 0=0 then (if p.rs.length<=40 then qM p.ds p.rs 0 else (-1,6)) else (-1,nf p.ds p.ds 0)) else (-1,6)
section
variable {w0:World}{ρ:Hd}
set_option maxHeartbeats 1000000 in
theorem MQ (p:Pg) (lx:xK p) (hs:∀ r ∈ p.rs,Ah r):ah Tryz.prog w0 56 [pg ρ p] (.bg [iv (ng p).1,iv (ng p).2]):=by
 obtain⟨R,hR⟩:∃ R,R=ng p:=⟨_,rfl⟩
 rw [<-hR]
 unfold ng at hR
 obtain⟨ds,rs⟩:=p
 obtain⟨hd,hr,uV,AM⟩:=lx
 dsimp only at hd hr uV AM hR hs
 refine acL.aG (by simp [Tryz.ntmps56]) ((.bg fun a ha=>by simp only [List.mem_cons,List.not_mem_nil,or_false] at ha;rcases ha with rfl|rfl<;>exact .v)) ?_
 refine gq jD ?_
 repeat' (first
  |(refine bq (fun hb=>?_) (fun hb=>?_)<;>(try simp only [aq] at hb)<;>(first|refine gq jD ?_))
  |(refine aB fun m hm=>?_;(try rw [af] at hm);refine gq jD ?_)
  |(refine fq ?_))
 ·rw [if_neg (by omega)] at hR
  rw [hR];exact aU.of_eq rfl
 rw [if_pos (by omega)] at hR
 obtain⟨D,hD⟩:∃ D,D=nf ds ds 0:=⟨_,rfl⟩
 rw [<-hD] at hR
 refine ab.aP (σ:=Int) 1 1 [] (fun q=>[(1,.pt 0 2 0 0),(4,.v (.int .i64 q))]) [] (fun _=>[(0,.arr 2 [lO ρ ⟨ds,rs⟩] 0 true)]) (fun q=>∃ k:Nat,q=k/\k<=ds.length/\D=nf ds (ds.drop k) k) (fun q=>ds.length - q.toNat) 0 ⟨0,rfl,by simp,by simpa using hD⟩ rfl (by exact⟨sq,rfl,⟨.inl ⟨_,rfl,.arr (by exact⟨kq,trivial⟩)⟩,trivial⟩,rfl,rfl,rfl⟩) ?_
 rintro q ⟨k,hi,hk,hp⟩
 clear hD
 refine gq jD ?_
 by_cases au:k < ds.length
 ·obtain⟨x,hx,aO⟩:=az au
  rw [aO,nf] at hp
  have hN:=s4 (w0:=w0) x.n (uV x (List.mem_of_getElem? hx))
  have Qb:=po (w0:=w0) (ρ:=ρ) (ds.take k) x.n x.ar (by rw [List.length_take];omega)
  obtain⟨F,hF⟩:∃ F,F=By (ds.take k) x:=⟨_,rfl⟩
  rw [<-hF] at hp
  unfold By at hF
  obtain⟨NB,yD⟩:∃ b,b=gk x.n:=⟨_,rfl⟩
  obtain⟨DB,hDB⟩:∃ b,b=ef (ds.take k) x.n x.ar:=⟨_,rfl⟩
  rw [<-yD] at hN hF
  rw [<-hDB] at Qb hF
  clear yD hDB
  obtain⟨tk,yG⟩:∃ l,l=ds.take k:=⟨_,rfl⟩
  rw [<-yG] at Qb
  obtain⟨xn,xa⟩:=x
  dsimp only at hN Qb hF
  repeat' (first
   |(refine ab.op rfl (ad.ind rfl rfl (ay (l:=ds) hi hx) (aw fun _=>rfl)) ?_;refine gq jD ?_)
   |(refine ab.a_ rfl (ad.ag rfl hN ⟨.v,trivial⟩) (fun _=>?_) (fun _=>?_)<;>refine gq jD ?_)
   |(refine ab.gen (dG ρ) rfl (ad.LV rfl rfl rfl (fun _=>rfl) (by decide) (by omega) (by omega)) (fun q2 CY=>?_);obtain rfl:q2=tk:=(by rw [CY,yG,Int.toNat_zero,List.drop_zero];try (congr 1;omega));refine gq jD ?_)
   |(refine ab.a_ rfl (ad.ag rfl Qb ⟨bU _,.v,.v,trivial⟩) (fun _=>?_) (fun _=>?_)<;>refine gq jD ?_)
   |(refine bq (fun hb=>?_) (fun hb=>?_)<;>(try simp only [aq] at hb)<;>(first|refine gq jD ?_))
   |(refine aB fun m hm=>?_;(try rw [af] at hm);refine gq jD ?_)
   |(refine aS fun _ _=>?_;refine gq jD ?_)
   |(refine ab.ao ?_;refine gq jD ?_)
   |(refine ab.bJ ?_;refine gq jD ?_)
   |(refine fq ?_))
  all_goals first
   |(exfalso;omega)
   |(have e:F=7:=by (rw [hF,show NB=false by assumption];rfl)
     rw [cE (by omega)] at hp;rw [if_neg (show ¬ D=0 by omega)] at hR;rw [hR,hp,e];exact aU.of_eq rfl)
   |(have e:F=9:=by (rw [hF,show NB=true by assumption,decide_eq_false (show ¬ 0<=xa by omega)];rfl)
     rw [cE (by omega)] at hp;rw [if_neg (show ¬ D=0 by omega)] at hR;rw [hR,hp,e];exact aU.of_eq rfl)
   |(have e:F=9:=by (rw [hF,show NB=true by assumption,decide_eq_true (show 0<=xa by omega),decide_eq_false (show ¬ xa<=6 by omega)];rfl)
     rw [cE (by omega)] at hp;rw [if_neg (show ¬ D=0 by omega)] at hR;rw [hR,hp,e];exact aU.of_eq rfl)
   |(have e:F=8:=by (rw [hF,show NB=true by assumption,decide_eq_true (show 0<=xa by omega),decide_eq_true (show xa<=6 by omega),show DB=true by assumption];rfl)
     rw [cE (by omega)] at hp;rw [if_neg (show ¬ D=0 by omega)] at hR;rw [hR,hp,e];exact aU.of_eq rfl)
   |(have e:F=0:=by (rw [hF,show NB=true by assumption,decide_eq_true (show 0<=xa by omega),decide_eq_true (show xa<=6 by omega),show DB=false by assumption];rfl)
     rw [bu e] at hp
     refine ab.aL (σ:=Int) _ [] ?_ ?_ (by exact⟨sq,rfl,⟨.inl ⟨_,rfl,.arr (by exact⟨kq,trivial⟩)⟩,trivial⟩,rfl,rfl,rfl⟩)<;>first|omega|exact⟨k+1,by omega,by omega,hp⟩)
 rw [List.drop_eq_nil_of_le (by omega),nf] at hp
 rw [if_pos hp] at hR
 clear hp
 repeat' (first
  |(refine bq (fun hb=>?_) (fun hb=>?_)<;>(try simp only [aq] at hb)<;>(first|refine gq jD ?_))
  |(refine aB fun m hm=>?_;(try rw [af] at hm);refine gq jD ?_)
  |(refine ab.ao ?_;refine gq jD ?_)
  |(refine fq ?_))
 all_goals first
  |(exfalso;omega)
  |(rw [if_neg (by omega)] at hR;rw [hR];exact aU.of_eq rfl)
  |skip
 rw [if_pos (by omega)] at hR
 refine ab.aP (σ:=Int) 1 1 [] (fun q=>[(1,.pt 0 2 0 0),(6,.v (.int .i64 q))]) [] (fun _=>[(0,.arr 2 [lO ρ ⟨ds,rs⟩] 0 true)]) (fun q=>∃ k:Nat,q=k/\k<=rs.length/\R=qM ds (rs.drop k) k) (fun q=>rs.length - q.toNat) 0 ⟨0,rfl,by simp,by simpa using hR⟩ rfl (by exact⟨sq,rfl,⟨.inl ⟨_,rfl,.arr (by exact⟨kq,trivial⟩)⟩,trivial⟩,rfl,rfl,rfl⟩) ?_
 rintro q2 ⟨k2,mi,dS,hp⟩
 clear hR
 refine gq jD ?_
 by_cases gu:k2 < rs.length
 ·obtain⟨x,hx,aO⟩:=az gu
  rw [aO,qM] at hp
  have hC:=RE (w0:=w0) (ρ:=ρ) ds x hd (AM x (List.mem_of_getElem? hx)) (hs x (List.mem_of_getElem? hx))
  obtain⟨F,tR⟩:∃ F,F=rI ds x:=⟨_,rfl⟩
  rw [<-tR] at hp hC
  have gn:=js (ρ:=ρ) x
  obtain⟨n,ke,re,g,b,v⟩:=x
  repeat' (first
   |(refine ab.op rfl (ad.ind rfl rfl (ay (l:=rs) mi hx) (aw fun _=>rfl)) ?_;refine gq jD ?_)
   |((refine ab.int rfl (ad.ag rfl hC ⟨bU _,gn,trivial⟩) fun d2 eK=>?_;refine gq jD ?_))
   |(refine bq (fun hb=>?_) (fun hb=>?_)<;>(try simp only [aq] at hb)<;>(first|refine gq jD ?_))
   |(refine aB fun m hm=>?_;(try rw [af] at hm);refine gq jD ?_)
   |(refine aS fun _ _=>?_;refine gq jD ?_)
   |(refine ab.ao ?_;refine gq jD ?_)
   |(refine ab.bJ ?_;refine gq jD ?_)
   |(refine fq ?_))
  all_goals first
   |(exfalso;omega)
   |(rw [if_pos (show F=0 by omega)] at hp
     refine ab.aL (σ:=Int) _ [] ?_ ?_ (by exact⟨sq,rfl,⟨.inl ⟨_,rfl,.arr (by exact⟨kq,trivial⟩)⟩,trivial⟩,rfl,rfl,rfl⟩)<;>first|omega|exact⟨k2+1,by omega,by omega,hp⟩)
   |(rw [if_neg (show ¬ F=0 by omega)] at hp;subst eK;rw [hp,<-mi];exact aU.of_eq rfl)
 rw [List.drop_eq_nil_of_le (by omega),qM] at hp
 repeat' (first
  |(refine bq (fun hb=>?_) (fun hb=>?_)<;>(try simp only [aq] at hb)<;>(first|refine gq jD ?_))
  |(refine aB fun m hm=>?_;(try rw [af] at hm);refine gq jD ?_)
  |(refine ab.ao ?_;refine gq jD ?_)
  |(refine fq ?_))
 all_goals first
  |(exfalso;omega)
  |(rw [hp];exact aU.of_eq rfl)
end
end
section
set_option maxRecDepth 100000
attribute [local irreducible] ah bc ad ab
section
variable {w0:World}{ρ:Hd}
theorem Kx {T:ae}{p:Pg}{s:dP}(h:T.get 3=some (Ka ρ p s)):aU T (.pt 3 11 0 0) (.ip (oF ρ p s)):=by
 refine .pt h rfl (by show 10+0<=11;omega) fun q a a' h1 h2=>?_
 have e:a=a':=by
  rw [Nat.zero_add] at h1
  unfold oF at h2
  match q,h1,h2 with
  |0,h1,h2=>exact Option.some.inj (h1.symm.trans h2)
  |1,h1,h2=>exact Option.some.inj (h1.symm.trans h2)
  |2,h1,h2=>exact Option.some.inj (h1.symm.trans h2)
  |3,h1,h2=>exact Option.some.inj (h1.symm.trans h2)
  |4,h1,h2=>exact Option.some.inj (h1.symm.trans h2)
  |5,h1,h2=>exact Option.some.inj (h1.symm.trans h2)
  |6,h1,h2=>exact Option.some.inj (h1.symm.trans h2)
  |7,h1,h2=>exact Option.some.inj (h1.symm.trans h2)
  |8,h1,h2=>exact Option.some.inj (h1.symm.trans h2)
  |9,h1,h2=>exact Option.some.inj (h1.symm.trans h2)
  |q+10,h1,h2=>cases h2
 rw [e]
 exact .refl _
set_option maxHeartbeats 4000000 in
theorem KO (p:Pg) (s:dP) (hp:xK p) (hs:v8 s):ah Tryz.prog w0 12 [pg ρ p,r5 ρ s] (.v (.bool (r9 p s))):=by
 have hC:=Rk (w0:=w0) (ρ:=ρ) p hp
 have dg:=JA (w0:=w0) (ρ:=ρ) s.store hs.st hs.sx
 have Qc:=J8 (w0:=w0) (ρ:=ρ) s.binds hs.bl hs.bx
 have Qd:=J5 (w0:=w0) (ρ:=ρ) s.cg hs.fl hs.fx
 have nq:=nF (ρ:=ρ) p
 have hG:∀ bs:List Int,(∀ v,bs.contains v=e7 s.binds v)->_:=fun bs kS=>Jz (w0:=w0) (ρ:=ρ) (m_ (ρ:=ρ) (N:=2) (by decide) p s) (na (ρ:=ρ) (N:=2) (eX bs)) (ru p s) s.goals 48 [.pt 0 11 0 0] [] hs.gl (.fn (fun a ha=>by obtain rfl:=List.mem_singleton.1 ha;exact .pt (by decide)) fun a ha=>by cases ha) fun x hx=>⟨_,_,rfl,fun a ha=>by simp only [List.mem_cons,List.nil_append,List.append_nil,List.cons_append,List.not_mem_nil,or_false] at ha;rcases ha with rfl|rfl;exact .pt (by decide);exact (dy x).b_,UW p s bs kS hp.ds x (hs.gx x hx)⟩
 have hM:∀ bs:List Int,(∀ v,bs.contains v=e7 s.binds v)->_:=fun bs kS=>T5 (w0:=w0) (ρ:=ρ) (m_ (ρ:=ρ) (N:=2) (by decide) p s) (na (ρ:=ρ) (N:=2) (eX bs)) (ry p s) s.store 50 [.pt 0 11 0 0] [] hs.st (.fn (fun a ha=>by obtain rfl:=List.mem_singleton.1 ha;exact .pt (by decide)) fun a ha=>by cases ha) fun x hx=>⟨_,_,rfl,fun a ha=>by simp only [List.mem_cons,List.nil_append,List.append_nil,List.cons_append,List.not_mem_nil,or_false] at ha;rcases ha with rfl|rfl;exact .pt (by decide);exact (nH x).b_,UX p s bs kS hp.ds x (hs.sx x hx)⟩
 have hK:∀ bs:List Int,(∀ v,bs.contains v=e7 s.binds v)->_:=fun bs kS=>Jz (w0:=w0) (ρ:=ρ) (m_ (ρ:=ρ) (N:=2) (by decide) p s) (na (ρ:=ρ) (N:=2) (eX bs)) (oG s) s.known 51 [.pt 0 11 0 0] [] hs.kl (.fn (fun a ha=>by obtain rfl:=List.mem_singleton.1 ha;exact .pt (by decide)) fun a ha=>by cases ha) fun x hx=>⟨_,_,rfl,fun a ha=>by simp only [List.mem_cons,List.nil_append,List.append_nil,List.cons_append,List.not_mem_nil,or_false] at ha;rcases ha with rfl|rfl;exact .pt (by decide);exact (dy x).b_,Rr p s bs kS x (hs.kx x hx)⟩
 have VT:Pure (.ip (oF ρ p s)):=.ip (xm p s)
 have Qe:∀ f:FuncId,Pure (.fn (.func f) [.ip (oF ρ p s)] []):=fun f=>.fn (fun a ha=>by obtain rfl:=List.mem_singleton.1 ha;exact VT) fun a ha=>by cases ha
 have hF:gW s.cg=true->_:=fun h=>Xm (w0:=w0) (ρ:=ρ) (rq p s) s.cg 53 [.ip (oF ρ p s)] [] hs.fl (Qe _) fun x hx=>⟨_,_,rfl,⟨VT,eu x,trivial⟩,UT p s x (uZ h x hx) (hs.fx x hx) hp.rs (fun r hr=>⟨(hp.rr r hr).ke,(hp.rr r hr).re⟩) hs.st⟩
 have hB:=Xn (w0:=w0) (ρ:=ρ) (tq s) s.binds 55 [.ip (oF ρ p s)] [] hs.bl (Qe _) fun x hx=>⟨_,_,rfl,⟨VT,pH x,trivial⟩,UR p s x (hs.bx x hx)⟩
 have sJ:=hs.bl
 have DN:=hs.gl
 have J7:=hs.kl
 obtain⟨R,hR⟩:∃ R,R=r9 p s:=⟨_,rfl⟩
 rw [<-hR]
 unfold r9 at hR
 obtain⟨⟨c1,c2⟩,hc⟩:∃ c,c=oE p:=⟨_,rfl⟩
 rw [<-hc] at hC hR
 dsimp only at hC hR
 obtain⟨A,C0⟩:∃ b,b=jy s.store:=⟨_,rfl⟩
 obtain⟨U,C9⟩:∃ b,b=iO s.binds:=⟨_,rfl⟩
 obtain⟨H,VU⟩:∃ b,b=gW s.cg:=⟨_,rfl⟩
 obtain⟨XG,VV⟩:∃ b,b=s.goals.all (ru p s):=⟨_,rfl⟩
 obtain⟨XM,VW⟩:∃ b,b=s.store.all (ry p s):=⟨_,rfl⟩
 obtain⟨XK,VX⟩:∃ b,b=s.known.all (oG s):=⟨_,rfl⟩
 obtain⟨XF,VY⟩:∃ b,b=s.cg.all (rq p s):=⟨_,rfl⟩
 obtain⟨XB,VZ⟩:∃ b,b=s.binds.all (tq s):=⟨_,rfl⟩
 rw [<-C0,<-C9,<-VU,<-VV,<-VW,<-VX,<-VY,<-VZ] at hR
 rw [<-C0] at dg
 rw [<-C9] at Qc
 rw [<-VU] at Qd hF
 simp only [<-VV] at hG
 simp only [<-VW] at hM
 simp only [<-VX] at hK
 simp only [<-VY] at hF
 rw [<-VZ] at hB
 clear C0 C9 VU VV VW VX VY VZ hc hs hp
 obtain⟨SZ,FC⟩:∃ b,b=yI s:=⟨_,rfl⟩
 rw [<-FC] at hR
 unfold yI at FC
 obtain⟨ds,rs⟩:=p
 obtain⟨goals,store,binds,cg,known,next,fresh,failed⟩:=s
 dsimp only at dg Qc Qd hG hM hK hF hB sJ DN J7 FC
 refine abZ.aG (by simp [Tryz.ntmps12]) (.v) ?_
 refine gq lF ?_
 repeat' (first
  |(refine ab.op rfl (ad.ag rfl hC ⟨nq,trivial⟩) ?_;refine gq lF ?_)
  |(refine ab.a_ rfl (ad.ag rfl dg ⟨cb _,trivial⟩) (fun _=>?_) (fun _=>?_)<;>refine gq lF ?_)
  |(refine ab.a_ rfl (ad.ag rfl Qc ⟨bT _,trivial⟩) (fun _=>?_) (fun _=>?_)<;>refine gq lF ?_)
  |(refine ab.a_ rfl (ad.ag rfl Qd ⟨cJ _,trivial⟩) (fun _=>?_) (fun _=>?_)<;>refine gq lF ?_)
  |(refine bq (fun hb=>?_) (fun hb=>?_)<;>(try simp only [aq] at hb)<;>(first|refine gq lF ?_))
  |(refine aB fun m hm=>?_;(try rw [af] at hm);refine gq lF ?_)
  |(refine fq ?_))
 all_goals first
  |(refine aC ?_;rw [hR,decide_eq_false (show ¬ c2=0 by omega)];rfl)
  |(refine aC ?_;rw [hR,show A=false by assumption];simp;done)
  |(refine aC ?_;rw [hR,show U=false by assumption];simp;done)
  |(refine aC ?_;rw [hR,show H=false by assumption];simp;done)
  |(refine aC ?_;rw [hR,show SZ=false by (rw [FC];simp;intros;omega)];simp;done)
  |skip
 rw [decide_eq_true (show c2=0 by omega),show SZ=true by (rw [FC];simp;omega),show A=true by assumption,show U=true by assumption,show H=true by assumption,Bool.true_and,Bool.true_and,Bool.true_and,Bool.true_and,Bool.true_and] at hR
 replace hF:=hF (by assumption)
 clear FC hC dg Qc Qd
 refine ab.fH ρ fB rfl fun UZ Da=>?_
 refine gq lF ?_
 refine ab.int rfl (ad.len rfl) fun m hm=>?_;rw [af] at hm
 refine gq lF ?_
 refine ab.aP (σ:=Int × List (Int × Bool)) 4 4 [] (fun q=>[(3,.pt 1 8 0 0),(7,.pt 3 11 0 0),(69,eJ ρ binds),(70,.v (.int .i64 m)),(71,.v (.int .i64 q.1))]) [] (fun q=>[(1,.arr 8 [BG ρ ⟨goals,store,binds,cg,known,next,fresh,failed⟩] 0 true),(2,.mp (ρ.h (ku fB) q.2)),(3,Ka ρ ⟨ds,rs⟩ ⟨goals,store,binds,cg,known,next,fresh,failed⟩)])
  (fun q=>∃ k:Nat,q.1=k/\k<=binds.length/\∃ bs,q.2=eX bs/\∀ v,bs.contains v=e7 (binds.take k) v) (fun q=>binds.length - q.1.toNat) (0,UZ) ⟨0,rfl,by simp,[],Da,fun v=>rfl⟩ rfl (by exact⟨sq,rfl,⟨.inl ⟨_,rfl,.arr (by exact⟨kq,trivial⟩)⟩,⟨.inl ⟨_,rfl,.same pJ⟩,⟨.inl ⟨_,rfl,.arr (by exact⟨kq,trivial⟩)⟩,trivial⟩⟩⟩,rfl,rfl,rfl⟩) ?_
 rintro⟨i,kv⟩ ⟨k,hi,hk,bs,jj,kS⟩
 simp only at hi jj
 unfold Ka
 refine gq lF ?_
 by_cases au:k < binds.length
 ·obtain⟨x,hx,aO⟩:=az au
  have yG:∀ v,(e7 (binds.take k) v || x.v == v)=e7 (binds.take (k+1)) v:=fun v=>by
   unfold e7
   rw [List.take_add_one,hx]
   simp
  obtain⟨xv,xk,xi,xn,xa⟩:=x
  dsimp only at yG
  repeat' (first
   |(refine ab.op rfl (ad.ind rfl rfl (ay (l:=binds) hi hx) (aw fun _=>rfl)) ?_;refine gq lF ?_)
   |((refine ab.Bs (v:=true) rfl rfl rfl rfl rfl (fun sd uF=>?_);refine gq lF ?_))
   |(refine bq (fun hb=>?_) (fun hb=>?_)<;>(try simp only [aq] at hb)<;>(first|refine gq lF ?_))
   |(refine aS fun _ _=>?_;refine gq lF ?_)
   |(refine ab.ao ?_;refine gq lF ?_)
   )
  all_goals first
   |(exfalso;omega)
   |(refine ab.aL (σ:=Int × List (Int × Bool)) (_,sd) [] ?_ ?_ (by exact⟨sq,rfl,⟨.inl ⟨_,rfl,.arr (by exact⟨kq,trivial⟩)⟩,⟨.inl ⟨_,rfl,.same pJ⟩,⟨.inl ⟨_,rfl,.arr (by exact⟨kq,trivial⟩)⟩,trivial⟩⟩⟩,rfl,rfl,rfl⟩)
     ·exact⟨k+1,by simp only;omega,by omega,Db bs xv,by rw [uF,jj,Md],fun v=>by rw [Me,kS,yG]⟩
     ·simp only;omega)
 have Ik:∀ v,bs.contains v=e7 binds v:=fun v=>by rw [kS,List.take_of_length_le (by omega)]
 have hG:=hG bs Ik
 have hM:=hM bs Ik
 have hK:=hK bs Ik
 rw [<-jj] at hG hM hK
 clear kS Ik jj Da
 repeat' (first
  |(refine ab.a_ rfl (ad.U1 hG (bw _) rfl rfl rfl rfl (by repeat (first|exact ep rfl|refine jt ?_ rfl))) (fun _=>?_) (fun _=>?_)<;>refine gq lF ?_)
  |(refine ab.a_ rfl (ad.U1 hM (cb _) rfl rfl rfl rfl (by repeat (first|exact ep rfl|refine jt ?_ rfl))) (fun _=>?_) (fun _=>?_)<;>refine gq lF ?_)
  |(refine ab.a_ rfl (ad.U1 hK (bw _) rfl rfl rfl rfl (by repeat (first|exact ep rfl|refine jt ?_ rfl))) (fun _=>?_) (fun _=>?_)<;>refine gq lF ?_)
  |(refine ab.a_ rfl (ad.pf rfl hF ⟨cJ _,Qe _,trivial⟩ .v ⟨.refl _,aU.fns ⟨Kx rfl,trivial⟩ trivial,trivial⟩) (fun _=>?_) (fun _=>?_)<;>refine gq lF ?_)
  |(refine ab.a_ rfl (ad.pf rfl hB ⟨bT _,Qe _,trivial⟩ .v ⟨.refl _,aU.fns ⟨Kx rfl,trivial⟩ trivial,trivial⟩) (fun _=>?_) (fun _=>?_)<;>refine gq lF ?_)
  |(refine bq (fun hb=>?_) (fun hb=>?_)<;>(try simp only [aq] at hb)<;>(first|refine gq lF ?_))
  |(refine ab.ao ?_;refine gq lF ?_)
  |(refine fq ?_))
 all_goals first
  |(exfalso;omega)
  |(refine aC ?_;rw [hR,show XG=false by assumption];rfl)
  |(refine aC ?_;rw [hR,show XM=false by assumption];simp;done)
  |(refine aC ?_;rw [hR,show XK=false by assumption];simp;done)
  |(refine aC ?_;rw [hR,show XF=false by assumption];simp;done)
  |(refine aC ?_;rw [hR,show XB=false by assumption];simp;done)
  |(refine aC ?_;rw [hR,show XG=true by assumption,show XM=true by assumption,show XK=true by assumption,show XF=true by assumption,show XB=true by assumption];rfl)
end
end
end Go.Proofs.YtbofilglphfceaaGreat
