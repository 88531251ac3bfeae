import Derived.Test.YtgjfgekaclobaaaGreatCa30
import Derived.Test.YtgjfgekaclobaaaGreatCa33
namespace Go.Proofs.YtgjfgekaclobaaaGreat
set_option linter.unusedVariables false
set_option linter.unusedSimpArgs false
open Go.RowKit
section
set_option maxRecDepth 100000
attribute [local irreducible] ah aK ae aa
def U2:CF Tryz.f135:=⟨_,by conv=>lhs;cbv⟩
theorem ad4:aT Tryz.prog 135 U2.1 Tryz.f135.ntmps:=bX Tryz.func135 U2.2 Tryz.call135
def aaI:List Nat:=[4,0,1,3,2]
def U3:CF Tryz.f132:=⟨_,by conv=>lhs;cbv⟩
theorem ad5:aT Tryz.prog 132 U3.1 Tryz.f132.ntmps:=bX Tryz.func132 U3.2 Tryz.call132
def jQ:List Nat:=[3,0,13,1,12,14,11]
def aaJ:CF Tryz.f66:=⟨_,by conv=>lhs;cbv⟩
theorem aj5:aT Tryz.prog 66 aaJ.1 Tryz.f66.ntmps:=bX Tryz.func66 aaJ.2 Tryz.call66
def uu:List Nat:=[1,15,4,5,6,2,3,0,10,14,16,27]
def qW (d d':Dc):Bool:=d.n.toList == d'.n.toList && d.ar == d'.ar
def xI (s:List Dc):List Dc->Int
 |[]=>0
 |d::l=>cD (dW (mJ d.n) 7) (cD (dW (decide (0<=d.ar) && decide (d.ar<=6)) 9) (cD (dW (!s.any (qW d)) 8) (xI (s++[d]) l)))
def rq (p:Pg):Int:=cD (dW (decide (p.ds.length<=30)) 6) (cD (xI [] p.ds) (dW (decide (p.rs.length<=40)) 6))
def xJ (ds:List Dc):List Rl->Nat->Int × Int
 |[],_=>(0,0)
 |r::l,k=>if s6 ds r=0 then xJ ds l (k+1) else (k,s6 ds r)
def kA (p:Pg):Int × Int:=if rq p=0 then xJ p.ds p.rs 0 else (-1,rq p)
structure zE (p:Pg):Prop where
 ds:p.ds.length<=1099511627776
 rs:p.rs.length<=1099511627776
 dn:∀ d ∈ p.ds,d.n.size<=1099511627776
 rr:∀ r ∈ p.rs,BG r
def Gi (d:Dc):Value:=.agg #[.string d.n,.int .i64 d.ar]
def oI (l:List Dc):List (Value × AV):=l.map fun d=>(Gi d,.v (.bool true))
def zF (d:Dc) (k:Value):Bool:=match k with
 |.agg a=>match a.toList with
  |[.string n,.int _ i]=>d.n.toList == n.toList && d.ar == i
  |_=>false
 |_=>false
theorem RC (d:Dc) (s:List Dc):(lK (zF d) (oI s)=none/\s.any (qW d)=false)\/(fm (zF d) (oI s)=some (.v (.bool true))/\s.any (qW d)=true):=by
 induction s with
 |nil=>exact .inl ⟨rfl,rfl⟩
 |cons x s ih =>
  have e1:lK (zF d) (oI (x::s))=if qW d x=true then some 0 else (lK (zF d) (oI s)).map (·+1):=rfl
  rw [fm,e1,List.any_cons]
  by_cases h:qW d x=true
  ·rw [if_pos h,h];exact .inr ⟨rfl,rfl⟩
  ·rw [if_neg h,Bool.eq_false_iff.2 h]
   rcases ih with ⟨h1,h2⟩|⟨h1,h2⟩
   ·rw [h1,h2];exact .inl ⟨rfl,rfl⟩
   ·right
    rw [fm] at h1
    refine⟨?_,by rw [h2];rfl⟩
    cases hq:lK (zF d) (oI s) with
    |none=>rw [hq] at h1;cases h1
    |some j=>rw [hq] at h1;exact h1
theorem Kw {X:Result Bool}{e:Bool}{w:World}(h:(X.andThen fun b w'=>Result.ok (Value.bool b) w')=.ok (.bool e) w):X=.ok e w:=by
 cases X with
 |ok b w' =>
  simp only [Result.andThen,Result.ok.injEq,Value.bool.injEq] at h
  rw [h.1,h.2]
 |_=>cases h
theorem I5 (d:Dc) (s:List Dc):xl Tryz.prog 77 (Gi d) (oI s) (zF d):=by
 obtain⟨n,i⟩:=d
 have hS:Tryz.prog.underlying 77=some (.struct (Tryz.prog.fieldsOf 77)):=by kernel_rfl
 have u3:=Tryz.underlying3
 have u9:=Tryz.underlying9
 have a3:=Tryz.isAgg3
 have a9:=Tryz.isAgg9
 refine⟨fun b w=>?_,⟨_,hS⟩,fun p hp w=>?_⟩
 ·have key:∀ q:Nat,(Instr.checkKey b (q+1+1) 77 (Gi ⟨n,i⟩)).run Tryz.prog w=.ok () w:=by
   intro q
   have e1:∀ w,(Instr.checkKey b (q+1) 9 (.string n)).run Tryz.prog w=.ok () w:=fun w=>by
    rw [Instr.checkKey]
    simp only [Sem.run_bind,run_underlying u9,Result.andThen_ok,Sem.run_pure]
   have e2:∀ w,(Instr.checkKey b (q+1) 3 (.int .i64 i)).run Tryz.prog w=.ok () w:=fun w=>by
    rw [Instr.checkKey]
    simp only [Sem.run_bind,run_underlying u3,Result.andThen_ok,Sem.run_pure]
   rw [Instr.checkKey]
   simp only [Sem.run_bind,run_underlying hS,Result.andThen_ok,Gi]
   simp only [Program.fieldsOf,Tryz.underlying77]
   simp [part,a3,a9,e1,e2]
  exact key 9998
 ·obtain⟨d',_,rfl⟩:=List.mem_map.1 hp
  obtain⟨n',i'⟩:=d'
  have h:=(IW n n' i i').2.2 w
  rw [run_eql_struct] at h
  exact Kw h
section
variable {P:Program}{w0:World}{rd:Bool}{n:Nat}{α:AA}{S:ad}{Q:Exit->AA->ad->Prop}{l:List QI}{K:List fc}{ρ:Hd}
theorem I6 {B:Nat}{s:List Dc}:fV B (.mp (ρ.h oI s)):=by
 rw [ρ.eq]
 intro e he
 obtain⟨p,_,rfl⟩:=List.mem_map.1 he
 exact .v
theorem aa.aaK {d:Option Nat}{g:Option (Nat × Bool)}(ρ:Hd) (hw:bD α.tm g=some true) (k1:∀ s:List Dc,s=[]->aa P w0 rd n Q (.aU false l K) (bS d α (.mp S.nx)) (S.new (.mp (ρ.h oI s)))):aa P w0 rd n Q (.aU false (⟨d,g,.fk none⟩::l) K) α S:=by
 have h:=k1 [] rfl
 rw [ρ.eq] at h
 exact aa.op (i:=⟨d,g,.fk none⟩) hw ae.fk h
theorem aa.ad6 {d:Option Nat}{g:Option (Nat × Bool)}{z:AV}{x i:QO}{k:Nat}{s:List Dc}{v:Dc}(hw:bD α.tm g=some true) (hx:x.ev α.tm=.mp k) (hS:S.get k=some (.mp (ρ.h oI s))) (hi:toV (i.ev α.tm)=some (Gi v))
  (k1:s.any (qW v)=true->aa Tryz.prog w0 rd n Q (.aU false l K) (bS d α (.v (.bool true))) S) (k2:lK (zF v) (oI s)=none->s.any (qW v)=false->aa Tryz.prog w0 rd n Q (.aU false l K) (bS d α z) S) :
  aa Tryz.prog w0 rd n Q (.aU false (⟨d,g,.fm 77 z false x i⟩::l) K) α S:=by
 have h:=ae.fm (P:=Tryz.prog) (w0:=w0) (z:=z) (cm:=false) hx hS hi (by rw [ρ.eq];exact I5 v s)
 rw [ρ.eq] at h
 refine aa.op (i:=⟨d,g,.fm 77 z false x i⟩) hw h ?_
 rcases RC v s with ⟨h1,h2⟩|⟨h1,h2⟩
 ·have h3:fm (zF v) (oI s)=none:=by rw [fm,h1]
  rw [h3]
  exact k2 h1 h2
 ·rw [h1]
  exact k1 h2
theorem aa.ad7 {d:Option Nat}{g:Option (Nat × Bool)}{x i b:QO}{k:Nat}{s:List Dc}{v:Dc}(hw:bD α.tm g=some true) (hx:x.ev α.tm=.mp k) (hS:S.get k=some (.mp (ρ.h oI s))) (hi:toV (i.ev α.tm)=some (Gi v)) (hn:lK (zF v) (oI s)=none) (hb:b.ev α.tm=.v (.bool true))
  (k1:∀ s',s'=s++[v]->aa Tryz.prog w0 rd n Q (.aU false l K) (bS d α (.v undef)) (S.set k (some (.mp (ρ.h oI s'))))):aa Tryz.prog w0 rd n Q (.aU false (⟨d,g,.lS 77 x i b⟩::l) K) α S:=by
 have h:=ae.lS (P:=Tryz.prog) (w0:=w0) (c:=zF v) hx hS hi (by rw [ρ.eq];exact I5 v s) (by rw [ρ.eq];exact hn) hb
 have e:ρ.h oI s++[(Gi v,.v (.bool true))]=ρ.h oI (s++[v]):=by rw [ρ.eq,ρ.eq,oI,oI,List.map_append];rfl
 rw [e] at h
 exact aa.op (i:=⟨d,g,.lS 77 x i b⟩) hw h (k1 _ rfl)
end
section
variable {w0:World}{ρ:Hd}
theorem I7 {g:FuncId}{fs cs:List AV}{E:Int}(hp:dm (fs++cs)) (h:vw w0 g (fs++cs) E):ah Tryz.prog w0 131 [.fn (.func g) fs cs] (iv E):=by
 have h1:=Rz hp h
 by_cases e:E=0
 ·subst e;exact h1
 ·rw [decide_eq_false e] at h1;exact h1
theorem H5 (ds:List Dc) (r:Rl) (hd:ds.length<=1099511627776) (hr:BG r):ah Tryz.prog w0 135 [gI ρ ds,rl ρ r] (iv (s6 ds r)):=by
 have xG:Pure (.ip (ln ρ r)):=.ip (u_ r)
 have hpd:Pure (.ip [gI ρ ds]):=.ip fun a ha=>by obtain rfl:=List.mem_singleton.1 ha;exact dK ds
 have hc:=I7 (fs:=[]) (cs:=[.ip (ln ρ r),.ip [gI ρ ds]]) ⟨xG,hpd,trivial⟩ (aaA (w0:=w0) (ρ:=ρ) ds r hd hr)
 have hF:Pure (.fn (.func 203) [] [.ip (ln ρ r),.ip [gI ρ ds]]):=.fn (fun a ha=>by cases ha) fun a ha=>by simp only [List.mem_cons,List.not_mem_nil,or_false] at ha;rcases ha with rfl|rfl<;>assumption
 obtain⟨E,hE⟩:∃ E,E=s6 ds r:=⟨_,rfl⟩
 rw [<-hE] at hc ⊢
 obtain⟨n,ke,re,g,b,v⟩:=r
 refine ad4.bu (by simp [Tryz.ntmps135]) (.v) ?_
 refine gq aaI ?_
 repeat' (first
  |(refine aa.op rfl (ae.AZ rfl hc ⟨hF,trivial⟩ .v ⟨bp.fns trivial ⟨bp.box (cs:=ln ρ ⟨n,ke,re,g,b,v⟩) (cs':=ln ρ ⟨n,ke,re,g,b,v⟩) rfl ⟨.refl _,.refl _,.refl _,.refl _,.refl _,.refl _,trivial⟩,bp.box (cs:=[gI ρ ds]) (cs':=[gI ρ ds]) rfl ⟨.refl _,trivial⟩,trivial⟩,trivial⟩) ?_;refine gq aaI ?_)
  |(refine fq ?_))
 exact oU rfl
theorem RD (p:Pg) (jJ:zE p):vw w0 132 [.ip (mR ρ p)] (rq p):=by
 have jI:Pure (.ip (mR ρ p)):=.ip (pd p)
 obtain⟨ds,rs⟩:=p
 obtain⟨hd,hr,Ea,_⟩:=jJ
 dsimp only at hd hr Ea
 obtain⟨E,hp⟩:∃ E,E=rq ⟨ds,rs⟩:=⟨_,rfl⟩
 rw [<-hp]
 rw [rq] at hp
 dsimp only at hp
 obtain⟨T,hT⟩:∃ T,T=dW (decide (rs.length<=40)) 6:=⟨_,rfl⟩
 rw [<-hT] at hp
 refine EW ad5 (by simp [Tryz.ntmps132]) ?_
 refine gq jQ ?_
 repeat' (first
  |(refine aa.m_ rfl rfl (fun hb=>?_) (fun hb=>?_)<;>(try simp only [aM] at hb)<;>(first|exact absurd hb (by decide)|refine gq jQ ?_))
  |(refine kR rfl (by first|rfl ) ?_)
  |(refine bq (fun hb=>?_) (fun hb=>?_)<;>(try simp only [aM] at hb)<;>(first|refine gq jQ ?_))
  |(refine bL fun m hm=>?_;(try rw [aF] at hm);refine gq jQ ?_)
  )
 all_goals first
  |(rw [decide_eq_false (by omega)] at hp;exact hp)
  |skip
 rw [decide_eq_true (by omega),show dW true 6=0 from rfl,cH rfl] at hp
 refine aa.aaK ρ rfl fun s0 hs0=>?_
 refine gq jQ ?_
 refine aa.int rfl (ae.len rfl) fun m hm=>?_;rw [aF] at hm
 refine gq jQ ?_
 refine aa.bP (σ:=Int × List Dc) 1 1 [] (fun q=>[(0,.ip (mR ρ ⟨ds,rs⟩)),(1,.mp 0),(11,gI ρ ds),(12,.v (.int .i64 m)),(13,.v (.int .i64 q.1))]) [] (fun q=>[(0,.mp (ρ.h oI q.2))]) (fun q=>∃ k:Nat,q.1=k/\k<=ds.length/\E=cD (xI q.2 (ds.drop k)) T) (fun q=>ds.length - q.1.toNat) (0,s0) ⟨0,rfl,by simp,by rw [hs0];simpa using hp⟩ rfl (by exact⟨sq,rfl,⟨.inl ⟨_,rfl,.same I6⟩,trivial⟩,rfl,rfl,rfl⟩) ?_
 rintro⟨i,s⟩ ⟨k,hi,hk,hp⟩
 simp only at hi hp
 refine gq jQ ?_
 by_cases aA:k < ds.length
 ·obtain⟨x,hx,cg⟩:=cd aA
  rw [cg,xI,fb,fb,fb] at hp
  have hxn:=Ea x (List.mem_of_getElem? hx)
  have hR:=tY (w0:=w0) x.n hxn
  obtain⟨xn,xa⟩:=x
  dsimp only at hp hxn hR
  obtain⟨NB,U1⟩:∃ b,b=mJ xn:=⟨_,rfl⟩
  rw [<-U1] at hp hR
  clear U1
  repeat' (first
   |(refine aa.op rfl (ae.ind rfl rfl (bU (l:=ds) hi hx) (bV fun _=>rfl)) ?_;refine gq jQ ?_)
   |(refine aa.bif rfl (ae.aL rfl hR ⟨.v,trivial⟩) (fun _=>?_) (fun _=>?_)<;>refine gq jQ ?_)
   |((refine aa.ad6 (v:=⟨xn,xa⟩) rfl rfl rfl rfl (fun hy=>?_) (fun oV hy=>?_)<;>refine gq jQ ?_))
   |((refine aa.ad7 (v:=⟨xn,xa⟩) rfl rfl rfl rfl (by assumption) rfl (fun s' eD=>?_);refine gq jQ ?_))
   |(refine aa.m_ rfl rfl (fun hb=>?_) (fun hb=>?_)<;>(try simp only [aM] at hb)<;>(first|exact absurd hb (by decide)|refine gq jQ ?_))
   |(refine aa.qj ?_;refine gq jQ ?_)
   |(refine Au rfl (by conv=>lhs;cbv) ?_)
   |(refine kR rfl (by first|rfl ) ?_)
   |(refine bq (fun hb=>?_) (fun hb=>?_)<;>(try simp only [aM] at hb)<;>(first|refine gq jQ ?_))
   |(refine bL fun m hm=>?_;(try rw [aF] at hm);refine gq jQ ?_)
   |(refine cr fun _ _=>?_;refine gq jQ ?_)
   |(refine aa.aR ?_;refine gq jQ ?_)
   )
  all_goals first
   |(exfalso;omega)
   |(rw [show NB=true by assumption,show dW true 7=0 from rfl,cH rfl,decide_eq_true (show 0<=xa by omega),decide_eq_true (show xa<=6 by omega),show dW (true && true) 9=0 from rfl,cH rfl,show s.any (qW ⟨xn,xa⟩)=false by assumption,show dW (!false) 8=0 from rfl,cH rfl] at hp
     refine aa.bm (σ:=Int × List Dc) (_,s') [] ?_ ?_ (by exact⟨sq,rfl,⟨.inl ⟨_,rfl,.same I6⟩,trivial⟩,rfl,rfl,rfl⟩)
     ·exact⟨k+1,by simp only;omega,by omega,by rw [eD];exact hp⟩
     ·simp only;omega)
   |(rw [show NB=true by assumption,show dW true 7=0 from rfl,cH rfl,decide_eq_true (show 0<=xa by omega),decide_eq_true (show xa<=6 by omega),show dW (true && true) 9=0 from rfl,cH rfl,show s.any (qW ⟨xn,xa⟩)=true by assumption] at hp
     exact hp)
   |(rw [show NB=true by assumption,show dW true 7=0 from rfl,cH rfl,decide_eq_false (show ¬ 0<=xa by omega)] at hp
     exact hp)
   |(rw [show NB=true by assumption,show dW true 7=0 from rfl,cH rfl,decide_eq_true (show 0<=xa by omega),decide_eq_false (show ¬ xa<=6 by omega)] at hp
     exact hp)
   |(rw [show NB=false by assumption] at hp
     exact hp)
 ·rw [List.drop_eq_nil_of_le (by omega),xI,cH rfl,hT] at hp
  repeat' (first
   |(refine aa.m_ rfl rfl (fun hb=>?_) (fun hb=>?_)<;>(try simp only [aM] at hb)<;>(first|exact absurd hb (by decide)|refine gq jQ ?_))
   |(refine Au rfl (by conv=>lhs;cbv) ?_)
   |(refine kR rfl (by first|rfl ) ?_)
   |(refine bq (fun hb=>?_) (fun hb=>?_)<;>(try simp only [aM] at hb)<;>(first|refine gq jQ ?_))
   |(refine bL fun m hm=>?_;(try rw [aF] at hm);refine gq jQ ?_)
   |(refine aa.aR ?_;refine gq jQ ?_)
   )
  all_goals first
   |(exfalso;omega)
   |(rw [decide_eq_true (by omega)] at hp;exact hp)
   |(rw [decide_eq_false (by omega)] at hp;exact hp)
theorem CZ (p:Pg) (jJ:zE p):ah Tryz.prog w0 66 [pg ρ p] (.aE [iv (kA p).1,iv (kA p).2]):=by
 have jI:Pure (.ip (mR ρ p)):=.ip (pd p)
 have hF:Pure (.fn (.func 132) [] [.ip (mR ρ p)]):=.fn (fun a ha=>by cases ha) fun a ha=>by obtain rfl:=List.mem_singleton.1 ha;exact jI
 have hc:=I7 (fs:=[]) (cs:=[.ip (mR ρ p)]) ⟨jI,trivial⟩ (RD (w0:=w0) (ρ:=ρ) p jJ)
 obtain⟨ds,rs⟩:=p
 obtain⟨hd,hr,Ea,O6⟩:=jJ
 dsimp only at hd hr Ea O6
 obtain⟨R,hR⟩:∃ R,R=kA ⟨ds,rs⟩:=⟨_,rfl⟩
 rw [<-hR]
 rw [kA] at hR
 obtain⟨E,hE⟩:∃ E,E=rq ⟨ds,rs⟩:=⟨_,rfl⟩
 rw [<-hE] at hR hc
 dsimp only at hR
 refine aj5.bu (by simp [Tryz.ntmps66]) ((.aE fun a ha=>by simp only [List.mem_cons,List.not_mem_nil,or_false] at ha;rcases ha with rfl|rfl<;>exact .v)) ?_
 refine gq uu ?_
 repeat' (first
  |((refine aa.int rfl (ae.AZ rfl hc ⟨hF,trivial⟩ .v ⟨bp.fns trivial ⟨bp.box (cs:=mR ρ ⟨ds,rs⟩) (cs':=mR ρ ⟨ds,rs⟩) rfl ⟨.refl _,.refl _,trivial⟩,trivial⟩,trivial⟩) fun d hdE=>?_;refine gq uu ?_))
  |(refine bq (fun hb=>?_) (fun hb=>?_)<;>(try simp only [aM] at hb)<;>(first|refine gq uu ?_))
  |(refine bL fun m hm=>?_;(try rw [aF] at hm);refine gq uu ?_)
  |(refine fq ?_))
 ·rw [if_neg (by omega)] at hR
  rw [hR,hdE]
  exact bp.of_eq rfl
 rw [if_pos (by omega)] at hR
 refine aa.bP (σ:=Int) 1 1 [] (fun i=>[(1,.pt 0 2 0 0),(14,.v (.int .i64 m)),(15,.v (.int .i64 i))]) [] (fun _=>[(0,.arr 2 [mR ρ ⟨ds,rs⟩] 0 true)]) (fun i=>∃ k:Nat,i=k/\k<=rs.length/\R=xJ ds (rs.drop k) k) (fun i=>rs.length - i.toNat) 0 ⟨0,rfl,by simp,by simpa using hR⟩ rfl (by exact⟨sq,rfl,⟨.inl ⟨_,rfl,.arr (by exact⟨kq,trivial⟩)⟩,trivial⟩,rfl,rfl,rfl⟩) ?_
 rintro i ⟨k,hi,hk,hp⟩
 clear hR
 refine gq uu ?_
 by_cases aA:k < rs.length
 ·obtain⟨x,hx,cg⟩:=cd aA
  rw [cg,xJ] at hp
  have hC:=H5 (w0:=w0) (ρ:=ρ) ds x hd (O6 x (List.mem_of_getElem? hx))
  obtain⟨F,BI⟩:∃ F,F=s6 ds x:=⟨_,rfl⟩
  rw [<-BI] at hp hC
  have hxp:=nW (ρ:=ρ) x
  obtain⟨n,ke,re,g,b,v⟩:=x
  repeat' (first
   |(refine aa.op rfl (ae.ind rfl rfl (bU (l:=rs) hi hx) (bV fun _=>rfl)) ?_;refine gq uu ?_)
   |((refine aa.int rfl (ae.aL rfl hC ⟨dK _,hxp,trivial⟩) fun d2 gK=>?_;refine gq uu ?_))
   |(refine bq (fun hb=>?_) (fun hb=>?_)<;>(try simp only [aM] at hb)<;>(first|refine gq uu ?_))
   |(refine cr fun _ _=>?_;refine gq uu ?_)
   |(refine aa.aR ?_;refine gq uu ?_)
   |(refine aa.iB ?_;refine gq uu ?_)
   |(refine fq ?_))
  all_goals first
   |(exfalso;omega)
   |(rw [if_pos (show F=0 by omega)] at hp;(refine aa.bm (σ:=Int) _ [] ?_ ?_ (by exact⟨sq,rfl,⟨.inl ⟨_,rfl,.arr (by exact⟨kq,trivial⟩)⟩,trivial⟩,rfl,rfl,rfl⟩)<;>first|omega|exact⟨k+1,by omega,by omega,hp⟩))
   |(rw [if_neg (show ¬ F=0 by omega)] at hp;subst gK;rw [hp,<-hi];exact bp.of_eq rfl)
 ·rw [List.drop_eq_nil_of_le (by omega),xJ] at hp
  repeat' (first
   |(refine bq (fun hb=>?_) (fun hb=>?_)<;>(try simp only [aM] at hb)<;>(first|refine gq uu ?_))
   |(refine aa.aR ?_;refine gq uu ?_)
   |(refine fq ?_))
  all_goals first
   |(exfalso;omega)
   |(rw [hp];exact bp.of_eq rfl)
end
end
end Go.Proofs.YtgjfgekaclobaaaGreat
