import Derived.Test.YtgphljokbodciaaGreatS32
import Derived.Test.YtgphljokbodciaaGreatS33
namespace Go.Proofs.YtgphljokbodciaaGreat
set_option linter.unusedVariables false
set_option linter.unusedSimpArgs false
open Go.RowKit
section
set_option maxRecDepth 100000
attribute [local irreducible] ah aV ad ab
def RK:CF Tryz.f156:=⟨_,by conv=>lhs;cbv⟩
theorem abr:aD Tryz.prog 156 RK.1 Tryz.f156.ntmps:=aO Tryz.func156 RK.2 Tryz.call156
def W5:List Nat:=[4,0,1,3,2]
def RL:CF Tryz.f153:=⟨_,by conv=>lhs;cbv⟩
theorem abt:aD Tryz.prog 153 RL.1 Tryz.f153.ntmps:=aO Tryz.func153 RL.2 Tryz.call153
def jD:List Nat:=[3,0,13,1,12,14,11]
def W6:CF Tryz.f71:=⟨_,by conv=>lhs;cbv⟩
theorem af2:aD Tryz.prog 71 W6.1 Tryz.f71.ntmps:=aO Tryz.func71 W6.2 Tryz.call71
def tz:List Nat:=[1,15,4,5,6,2,3,0,10,14,16,27]
def nN (d d':Dc):Bool:=d.n.toList == d'.n.toList && d.ar == d'.ar
def pb (s:List Dc):List Dc->Int
 |[]=>0
 |d::l=>bh (bW (gJ d.n) 7) (bh (bW (decide (0<=d.ar) && decide (d.ar<=6)) 9) (bh (bW (!s.any (nN d)) 8) (pb (s++[d]) l)))
def oK (p:Pg):Int:=bh (bW (decide (p.ds.length<=30)) 6) (bh (pb [] p.ds) (bW (decide (p.rs.length<=40)) 6))
def rE (ds:List Dc):List Rl->Nat->Int × Int
 |[],_=>(0,0)
 |r::l,k=>if oY ds r=0 then rE ds l (k+1) else (k,oY ds r)
def pc (p:Pg):Int × Int:=if oK p=0 then rE p.ds p.rs 0 else (-1,oK p)
structure zE (p:Pg):Prop where
 ds:p.ds.length<=1099511627776
 rs:p.rs.length<=1099511627776
 dn:∀ d ∈ p.ds,d.n.size<=1099511627776
 rr:∀ r ∈ p.rs,vS r
def Eb (d:Dc):Value:=.agg #[.string d.n,.int .i64 d.ar]
def nO (l:List Dc):List (Value × AV):=l.map fun d=>(Eb d,.v (.bool true))
def xu (d:Dc) (k:Value):Bool:=match k with
 |.agg a=>match a.toList with
  |[.string n,.int _ i]=>d.n.toList == n.toList && d.ar == i
  |_=>false
 |_=>false
theorem N4 (d:Dc) (s:List Dc):(kQ (xu d) (nO s)=none/\s.any (nN d)=false)\/(eU (xu d) (nO s)=some (.v (.bool true))/\s.any (nN d)=true):=by
 induction s with
 |nil=>exact .inl ⟨rfl,rfl⟩
 |cons x s ih =>
  have e1:kQ (xu d) (nO (x::s))=if nN d x=true then some 0 else (kQ (xu d) (nO s)).map (·+1):=rfl
  rw [eU,e1,List.any_cons]
  by_cases h:nN d x=true
  ·rw [if_pos h,h];exact .inr ⟨rfl,rfl⟩
  ·rw [if_neg h,Bool.eq_false_iff.2 h]
   rcases ih with ⟨h1,h2⟩|⟨h1,h2⟩
   ·rw [h1,h2];exact .inl ⟨rfl,rfl⟩
   ·right
    rw [eU] at h1
    refine⟨?_,by rw [h2];rfl⟩
    cases hq:kQ (xu d) (nO s) with
    |none=>rw [hq] at h1;cases h1
    |some j=>rw [hq] at h1;exact h1
theorem IA {X:Result Bool}{e:Bool}{w:World}(h:(X.andThen fun b w'=>Result.ok (Value.bool b) w')=.ok (.bool e) w):X=.ok e w:=by
 cases X with
 |ok b w' =>
  simp only [Result.andThen,Result.ok.injEq,Value.bool.injEq] at h
  rw [h.1,h.2]
 |_=>cases h
theorem Ge (d:Dc) (s:List Dc):vo Tryz.prog 108 (Eb d) (nO s) (xu d):=by
 obtain⟨n,i⟩:=d
 have hS:Tryz.prog.underlying 108=some (.struct (Tryz.prog.fieldsOf 108)):=by kernel_rfl
 have u3:=Tryz.underlying3
 have u9:=Tryz.underlying9
 have a3:=Tryz.isAgg3
 have a9:=Tryz.isAgg9
 refine⟨fun b w=>?_,⟨_,hS⟩,fun p hp w=>?_⟩
 ·have key:∀ q:Nat,(Instr.checkKey b (q+1+1) 108 (Eb ⟨n,i⟩)).run Tryz.prog w=.ok () w:=by
   intro q
   have e1:∀ w,(Instr.checkKey b (q+1) 9 (.string n)).run Tryz.prog w=.ok () w:=fun w=>by
    rw [Instr.checkKey]
    simp only [Sem.run_bind,run_underlying u9,Result.andThen_ok,Sem.run_pure]
   have e2:∀ w,(Instr.checkKey b (q+1) 3 (.int .i64 i)).run Tryz.prog w=.ok () w:=fun w=>by
    rw [Instr.checkKey]
    simp only [Sem.run_bind,run_underlying u3,Result.andThen_ok,Sem.run_pure]
   rw [Instr.checkKey]
   simp only [Sem.run_bind,run_underlying hS,Result.andThen_ok,Eb]
   simp only [Program.fieldsOf,Tryz.underlying108]
   simp [part,a3,a9,e1,e2]
  exact key 9998
 ·obtain⟨d',_,rfl⟩:=List.mem_map.1 hp
  obtain⟨n',i'⟩:=d'
  have h:=(FH n n' i i').2.2 w
  rw [run_eql_struct] at h
  exact IA h
section
variable {P:Program}{w0:World}{rd:Bool}{n:Nat}{α:AA}{S:ae}{Q:Exit->AA->ae->Prop}{l:List QI}{K:List iq}{ρ:Hd}
theorem Gf {B:Nat}{s:List Dc}:jF B (.mp (ρ.h nO s)):=by
 rw [ρ.eq]
 intro e he
 obtain⟨p,_,rfl⟩:=List.mem_map.1 he
 exact .v
theorem ab.W7 {d:Option Nat}{g:Option (Nat × Bool)}(ρ:Hd) (hw:cb α.tm g=some true) (k1:∀ s:List Dc,s=[]->ab P w0 rd n Q (.bz false l K) (cG d α (.mp S.nx)) (S.new (.mp (ρ.h nO s)))):ab P w0 rd n Q (.bz false (⟨d,g,.eZ none⟩::l) K) α S:=by
 have h:=k1 [] rfl
 rw [ρ.eq] at h
 exact ab.op (i:=⟨d,g,.eZ none⟩) hw ad.eZ h
theorem ab.abu {d:Option Nat}{g:Option (Nat × Bool)}{z:AV}{x i:QO}{k:Nat}{s:List Dc}{v:Dc}(hw:cb α.tm g=some true) (hx:x.ev α.tm=.mp k) (hS:S.get k=some (.mp (ρ.h nO s))) (hi:toV (i.ev α.tm)=some (Eb v))
  (k1:s.any (nN v)=true->ab Tryz.prog w0 rd n Q (.bz false l K) (cG d α (.v (.bool true))) S) (k2:kQ (xu v) (nO s)=none->s.any (nN v)=false->ab Tryz.prog w0 rd n Q (.bz false l K) (cG d α z) S) :
  ab Tryz.prog w0 rd n Q (.bz false (⟨d,g,.eU 108 z false x i⟩::l) K) α S:=by
 have h:=ad.eU (P:=Tryz.prog) (w0:=w0) (z:=z) (cm:=false) hx hS hi (by rw [ρ.eq];exact Ge v s)
 rw [ρ.eq] at h
 refine ab.op (i:=⟨d,g,.eU 108 z false x i⟩) hw h ?_
 rcases N4 v s with ⟨h1,h2⟩|⟨h1,h2⟩
 ·have h3:eU (xu v) (nO s)=none:=by rw [eU,h1]
  rw [h3]
  exact k2 h1 h2
 ·rw [h1]
  exact k1 h2
theorem ab.abv {d:Option Nat}{g:Option (Nat × Bool)}{x i b:QO}{k:Nat}{s:List Dc}{v:Dc}(hw:cb α.tm g=some true) (hx:x.ev α.tm=.mp k) (hS:S.get k=some (.mp (ρ.h nO s))) (hi:toV (i.ev α.tm)=some (Eb v)) (hn:kQ (xu v) (nO s)=none) (hb:b.ev α.tm=.v (.bool true))
  (k1:∀ s',s'=s++[v]->ab Tryz.prog w0 rd n Q (.bz false l K) (cG d α (.v undef)) (S.set k (some (.mp (ρ.h nO s'))))):ab Tryz.prog w0 rd n Q (.bz false (⟨d,g,.k_ 108 x i b⟩::l) K) α S:=by
 have h:=ad.k_ (P:=Tryz.prog) (w0:=w0) (c:=xu v) hx hS hi (by rw [ρ.eq];exact Ge v s) (by rw [ρ.eq];exact hn) hb
 have e:ρ.h nO s++[(Eb v,.v (.bool true))]=ρ.h nO (s++[v]):=by rw [ρ.eq,ρ.eq,nO,nO,List.map_append];rfl
 rw [e] at h
 exact ab.op (i:=⟨d,g,.k_ 108 x i b⟩) hw h (k1 _ rfl)
end
section
variable {w0:World}{ρ:Hd}
theorem Gg {g:FuncId}{fs cs:List AV}{E:Int}(hp:c_ (fs++cs)) (h:ui w0 g (fs++cs) E):ah Tryz.prog w0 152 [.fn (.func g) fs cs] (iv E):=by
 have h1:=NO hp h
 by_cases e:E=0
 ·subst e;exact h1
 ·rw [decide_eq_false e] at h1;exact h1
theorem E9 (ds:List Dc) (r:Rl) (hd:ds.length<=1099511627776) (hr:vS r):ah Tryz.prog w0 156 [dP ρ ds,rl ρ r] (iv (oY ds r)):=by
 have ju:Pure (.ip (fW ρ r)):=.ip (tM r)
 have hpd:Pure (.ip [dP ρ ds]):=.ip fun a ha=>by obtain rfl:=List.mem_singleton.1 ha;exact cg ds
 have hc:=Gg (fs:=[]) (cs:=[.ip (fW ρ r),.ip [dP ρ ds]]) ⟨ju,hpd,trivial⟩ (WO (w0:=w0) (ρ:=ρ) ds r hd hr)
 have hF:Pure (.fn (.func 283) [] [.ip (fW ρ r),.ip [dP ρ ds]]):=.fn (fun a ha=>by cases ha) fun a ha=>by simp only [List.mem_cons,List.not_mem_nil,or_false] at ha;rcases ha with rfl|rfl<;>assumption
 obtain⟨E,hE⟩:∃ E,E=oY ds r:=⟨_,rfl⟩
 rw [<-hE] at hc ⊢
 obtain⟨n,ke,re,g,b,v⟩:=r
 refine abr.aH (by simp [Tryz.ntmps156]) (.v) ?_
 refine gq W5 ?_
 repeat' (first
  |(refine ab.op rfl (ad.wv rfl hc ⟨hF,trivial⟩ .v ⟨aX.fns trivial ⟨aX.box (cs:=fW ρ ⟨n,ke,re,g,b,v⟩) (cs':=fW ρ ⟨n,ke,re,g,b,v⟩) rfl ⟨.refl _,.refl _,.refl _,.refl _,.refl _,.refl _,trivial⟩,aX.box (cs:=[dP ρ ds]) (cs':=[dP ρ ds]) rfl ⟨.refl _,trivial⟩,trivial⟩,trivial⟩) ?_;refine gq W5 ?_)
  |(refine fq ?_))
 exact dK rfl
theorem N5 (p:Pg) (lI:zE p):ui w0 153 [.ip (iY ρ p)] (oK p):=by
 have lq:Pure (.ip (iY ρ p)):=.ip (j7 p)
 obtain⟨ds,rs⟩:=p
 obtain⟨hd,hr,vI,_⟩:=lI
 dsimp only at hd hr vI
 obtain⟨E,hp⟩:∃ E,E=oK ⟨ds,rs⟩:=⟨_,rfl⟩
 rw [<-hp]
 rw [oK] at hp
 dsimp only at hp
 obtain⟨T,hT⟩:∃ T,T=bW (decide (rs.length<=40)) 6:=⟨_,rfl⟩
 rw [<-hT] at hp
 refine Cp abt (by simp [Tryz.ntmps153]) ?_
 refine gq jD ?_
 repeat' (first
  |(refine ab.mc rfl rfl (fun hb=>?_) (fun hb=>?_)<;>(try simp only [aq] at hb)<;>(first|exact absurd hb (by decide)|refine gq jD ?_))
  |(refine ky rfl (by first|rfl ) ?_)
  |(refine bq (fun hb=>?_) (fun hb=>?_)<;>(try simp only [aq] at hb)<;>(first|refine gq jD ?_))
  |(refine az fun m hm=>?_;(try rw [af] at hm);refine gq jD ?_)
  )
 all_goals first
  |(rw [decide_eq_false (by omega)] at hp;exact hp)
  |skip
 rw [decide_eq_true (by omega),show bW true 6=0 from rfl,bw rfl] at hp
 refine ab.W7 ρ rfl fun s0 QX=>?_
 refine gq jD ?_
 refine ab.int rfl (ad.len rfl) fun m hm=>?_;rw [af] at hm
 refine gq jD ?_
 refine ab.aP (σ:=Int × List Dc) 1 1 [] (fun q=>[(0,.ip (iY ρ ⟨ds,rs⟩)),(1,.mp 0),(11,dP ρ ds),(12,.v (.int .i64 m)),(13,.v (.int .i64 q.1))]) [] (fun q=>[(0,.mp (ρ.h nO q.2))]) (fun q=>∃ k:Nat,q.1=k/\k<=ds.length/\E=bh (pb q.2 (ds.drop k)) T) (fun q=>ds.length - q.1.toNat) (0,s0) ⟨0,rfl,by simp,by rw [QX];simpa using hp⟩ rfl (by exact⟨sq,rfl,⟨.inl ⟨_,rfl,.same Gf⟩,trivial⟩,rfl,rfl,rfl⟩) ?_
 rintro⟨i,s⟩ ⟨k,hi,hk,hp⟩
 simp only at hi hp
 refine gq jD ?_
 by_cases au:k < ds.length
 ·obtain⟨x,hx,aQ⟩:=aA au
  rw [aQ,pb,bT,bT,bT] at hp
  have hxn:=vI x (List.mem_of_getElem? hx)
  have hR:=s6 (w0:=w0) x.n hxn
  obtain⟨xn,xa⟩:=x
  dsimp only at hp hxn hR
  obtain⟨NB,zr⟩:∃ b,b=gJ xn:=⟨_,rfl⟩
  rw [<-zr] at hp hR
  clear zr
  repeat' (first
   |(refine ab.op rfl (ad.ind rfl rfl (ay (l:=ds) hi hx) (aw fun _=>rfl)) ?_;refine gq jD ?_)
   |(refine ab.bif rfl (ad.ag rfl hR ⟨.v,trivial⟩) (fun _=>?_) (fun _=>?_)<;>refine gq jD ?_)
   |((refine ab.abu (v:=⟨xn,xa⟩) rfl rfl rfl rfl (fun hy=>?_) (fun eC hy=>?_)<;>refine gq jD ?_))
   |((refine ab.abv (v:=⟨xn,xa⟩) rfl rfl rfl rfl (by assumption) rfl (fun s' iK=>?_);refine gq jD ?_))
   |(refine ab.mc rfl rfl (fun hb=>?_) (fun hb=>?_)<;>(try simp only [aq] at hb)<;>(first|exact absurd hb (by decide)|refine gq jD ?_))
   |(refine ab.pz ?_;refine gq jD ?_)
   |(refine yd rfl (by conv=>lhs;cbv) ?_)
   |(refine ky rfl (by first|rfl ) ?_)
   |(refine bq (fun hb=>?_) (fun hb=>?_)<;>(try simp only [aq] at hb)<;>(first|refine gq jD ?_))
   |(refine az fun m hm=>?_;(try rw [af] at hm);refine gq jD ?_)
   |(refine aS fun _ _=>?_;refine gq jD ?_)
   |(refine ab.ao ?_;refine gq jD ?_)
   )
  all_goals first
   |(exfalso;omega)
   |(rw [show NB=true by assumption,show bW true 7=0 from rfl,bw rfl,decide_eq_true (show 0<=xa by omega),decide_eq_true (show xa<=6 by omega),show bW (true && true) 9=0 from rfl,bw rfl,show s.any (nN ⟨xn,xa⟩)=false by assumption,show bW (!false) 8=0 from rfl,bw rfl] at hp
     refine ab.aK (σ:=Int × List Dc) (_,s') [] ?_ ?_ (by exact⟨sq,rfl,⟨.inl ⟨_,rfl,.same Gf⟩,trivial⟩,rfl,rfl,rfl⟩)
     ·exact⟨k+1,by simp only;omega,by omega,by rw [iK];exact hp⟩
     ·simp only;omega)
   |(rw [show NB=true by assumption,show bW true 7=0 from rfl,bw rfl,decide_eq_true (show 0<=xa by omega),decide_eq_true (show xa<=6 by omega),show bW (true && true) 9=0 from rfl,bw rfl,show s.any (nN ⟨xn,xa⟩)=true by assumption] at hp
     exact hp)
   |(rw [show NB=true by assumption,show bW true 7=0 from rfl,bw rfl,decide_eq_false (show ¬ 0<=xa by omega)] at hp
     exact hp)
   |(rw [show NB=true by assumption,show bW true 7=0 from rfl,bw rfl,decide_eq_true (show 0<=xa by omega),decide_eq_false (show ¬ xa<=6 by omega)] at hp
     exact hp)
   |(rw [show NB=false by assumption] at hp
     exact hp)
 ·rw [List.drop_eq_nil_of_le (by omega),pb,bw rfl,hT] at hp
  repeat' (first
   |(refine ab.mc rfl rfl (fun hb=>?_) (fun hb=>?_)<;>(try simp only [aq] at hb)<;>(first|exact absurd hb (by decide)|refine gq jD ?_))
   |(refine yd rfl (by conv=>lhs;cbv) ?_)
   |(refine ky rfl (by first|rfl ) ?_)
   |(refine bq (fun hb=>?_) (fun hb=>?_)<;>(try simp only [aq] at hb)<;>(first|refine gq jD ?_))
   |(refine az fun m hm=>?_;(try rw [af] at hm);refine gq jD ?_)
   |(refine ab.ao ?_;refine gq jD ?_)
   )
  all_goals first
   |(exfalso;omega)
   |(rw [decide_eq_true (by omega)] at hp;exact hp)
   |(rw [decide_eq_false (by omega)] at hp;exact hp)
theorem Uj (p:Pg) (lI:zE p):ah Tryz.prog w0 71 [pg ρ p] (.bc [iv (pc p).1,iv (pc p).2]):=by
 have lq:Pure (.ip (iY ρ p)):=.ip (j7 p)
 have hF:Pure (.fn (.func 153) [] [.ip (iY ρ p)]):=.fn (fun a ha=>by cases ha) fun a ha=>by obtain rfl:=List.mem_singleton.1 ha;exact lq
 have hc:=Gg (fs:=[]) (cs:=[.ip (iY ρ p)]) ⟨lq,trivial⟩ (N5 (w0:=w0) (ρ:=ρ) p lI)
 obtain⟨ds,rs⟩:=p
 obtain⟨hd,hr,vI,BN⟩:=lI
 dsimp only at hd hr vI BN
 obtain⟨R,hR⟩:∃ R,R=pc ⟨ds,rs⟩:=⟨_,rfl⟩
 rw [<-hR]
 rw [pc] at hR
 obtain⟨E,hE⟩:∃ E,E=oK ⟨ds,rs⟩:=⟨_,rfl⟩
 rw [<-hE] at hR hc
 dsimp only at hR
 refine af2.aH (by simp [Tryz.ntmps71]) ((.bc fun a ha=>by simp only [List.mem_cons,List.not_mem_nil,or_false] at ha;rcases ha with rfl|rfl<;>exact .v)) ?_
 refine gq tz ?_
 repeat' (first
  |((refine ab.int rfl (ad.wv rfl hc ⟨hF,trivial⟩ .v ⟨aX.fns trivial ⟨aX.box (cs:=iY ρ ⟨ds,rs⟩) (cs':=iY ρ ⟨ds,rs⟩) rfl ⟨.refl _,.refl _,trivial⟩,trivial⟩,trivial⟩) fun d hdE=>?_;refine gq tz ?_))
  |(refine bq (fun hb=>?_) (fun hb=>?_)<;>(try simp only [aq] at hb)<;>(first|refine gq tz ?_))
  |(refine az fun m hm=>?_;(try rw [af] at hm);refine gq tz ?_)
  |(refine fq ?_))
 ·rw [if_neg (by omega)] at hR
  rw [hR,hdE]
  exact aX.of_eq rfl
 rw [if_pos (by omega)] at hR
 refine ab.aP (σ:=Int) 1 1 [] (fun i=>[(1,.pt 0 2 0 0),(14,.v (.int .i64 m)),(15,.v (.int .i64 i))]) [] (fun _=>[(0,.arr 2 [iY ρ ⟨ds,rs⟩] 0 true)]) (fun i=>∃ k:Nat,i=k/\k<=rs.length/\R=rE ds (rs.drop k) k) (fun i=>rs.length - i.toNat) 0 ⟨0,rfl,by simp,by simpa using hR⟩ rfl (by exact⟨sq,rfl,⟨.inl ⟨_,rfl,.arr (by exact⟨kq,trivial⟩)⟩,trivial⟩,rfl,rfl,rfl⟩) ?_
 rintro i ⟨k,hi,hk,hp⟩
 clear hR
 refine gq tz ?_
 by_cases au:k < rs.length
 ·obtain⟨x,hx,aQ⟩:=aA au
  rw [aQ,rE] at hp
  have hC:=E9 (w0:=w0) (ρ:=ρ) ds x hd (BN x (List.mem_of_getElem? hx))
  obtain⟨F,mq⟩:∃ F,F=oY ds x:=⟨_,rfl⟩
  rw [<-mq] at hp hC
  have jb:=iz (ρ:=ρ) x
  obtain⟨n,ke,re,g,b,v⟩:=x
  repeat' (first
   |(refine ab.op rfl (ad.ind rfl rfl (ay (l:=rs) hi hx) (aw fun _=>rfl)) ?_;refine gq tz ?_)
   |((refine ab.int rfl (ad.ag rfl hC ⟨cg _,jb,trivial⟩) fun d2 ey=>?_;refine gq tz ?_))
   |(refine bq (fun hb=>?_) (fun hb=>?_)<;>(try simp only [aq] at hb)<;>(first|refine gq tz ?_))
   |(refine aS fun _ _=>?_;refine gq tz ?_)
   |(refine ab.ao ?_;refine gq tz ?_)
   |(refine ab.bK ?_;refine gq tz ?_)
   |(refine fq ?_))
  all_goals first
   |(exfalso;omega)
   |(rw [if_pos (show F=0 by omega)] at hp;(refine ab.aK (σ:=Int) _ [] ?_ ?_ (by exact⟨sq,rfl,⟨.inl ⟨_,rfl,.arr (by exact⟨kq,trivial⟩)⟩,trivial⟩,rfl,rfl,rfl⟩)<;>first|omega|exact⟨k+1,by omega,by omega,hp⟩))
   |(rw [if_neg (show ¬ F=0 by omega)] at hp;subst ey;rw [hp,<-hi];exact aX.of_eq rfl)
 ·rw [List.drop_eq_nil_of_le (by omega),rE] at hp
  repeat' (first
   |(refine bq (fun hb=>?_) (fun hb=>?_)<;>(try simp only [aq] at hb)<;>(first|refine gq tz ?_))
   |(refine ab.ao ?_;refine gq tz ?_)
   |(refine fq ?_))
  all_goals first
   |(exfalso;omega)
   |(rw [hp];exact aX.of_eq rfl)
end
end
end Go.Proofs.YtgphljokbodciaaGreat
