import Derived.Test.YtbofilglphfceaaGreatQ33
import Derived.Test.YtbofilglphfceaaGreatQ34
namespace Go.Proofs.YtbofilglphfceaaGreat
set_option linter.unusedVariables false
set_option linter.unusedSimpArgs false
open Go.RowKit
section
set_option maxRecDepth 100000
attribute [local irreducible] ah bc ad ab
def Py:CF Tryz.f104:=⟨_,by conv=>lhs;cbv⟩
theorem Yq:aH Tryz.prog 104 Py.1 Tryz.f104.ntmps:=aQ Tryz.func104 Py.2 Tryz.call104
def UD:List Nat:=[4,0,1,3,2]
def Pz:CF Tryz.f101:=⟨_,by conv=>lhs;cbv⟩
theorem Yr:aH Tryz.prog 101 Pz.1 Tryz.f101.ntmps:=aQ Tryz.func101 Pz.2 Tryz.call101
def jd:List Nat:=[3,0,13,1,12,14,11]
def UE:CF Tryz.f43:=⟨_,by conv=>lhs;cbv⟩
theorem abT:aH Tryz.prog 43 UE.1 Tryz.f43.ntmps:=aQ Tryz.func43 UE.2 Tryz.call43
def sE:List Nat:=[1,15,4,5,6,2,3,0,10,14,16,27]
def m8 (d d':Dc):Bool:=d.n.toList == d'.n.toList && d.ar == d'.ar
def oD (s:List Dc):List Dc->Int
 |[]=>0
 |d::l=>bh (bW (gk d.n) 7) (bh (bW (decide (0<=d.ar) && decide (d.ar<=6)) 9) (bh (bW (!s.any (m8 d)) 8) (oD (s++[d]) l)))
def nW (p:Pg):Int:=bh (bW (decide (p.ds.length<=30)) 6) (bh (oD [] p.ds) (bW (decide (p.rs.length<=40)) 6))
def qA (ds:List Dc):List Rl->Nat->Int × Int
 |[],_=>(0,0)
 |r::l,k=>if oo ds r=0 then qA ds l (k+1) else (k,oo ds r)
def oE (p:Pg):Int × Int:=if nW p=0 then qA p.ds p.rs 0 else (-1,nW p)
structure xK (p:Pg):Prop where
 ds:p.ds.length<=1099511627776
 rs:p.rs.length<=1099511627776
 dn:∀ d ∈ p.ds,d.n.size<=1099511627776
 rr:∀ r ∈ p.rs,tV r
def C4 (d:Dc):Value:=.agg #[.string d.n,.int .i64 d.ar]
def m9 (l:List Dc):List (Value × AV):=l.map fun d=>(C4 d,.v (.bool true))
def wz (d:Dc) (k:Value):Bool:=match k with
 |.agg a=>match a.toList with
  |[.string n,.int _ i]=>d.n.toList == n.toList && d.ar == i
  |_=>false
 |_=>false
theorem Ma (d:Dc) (s:List Dc):(kh (wz d) (m9 s)=none/\s.any (m8 d)=false)\/(eM (wz d) (m9 s)=some (.v (.bool true))/\s.any (m8 d)=true):=by
 induction s with
 |nil=>exact .inl ⟨rfl,rfl⟩
 |cons x s ih =>
  have e1:kh (wz d) (m9 (x::s))=if m8 d x=true then some 0 else (kh (wz d) (m9 s)).map (·+1):=rfl
  rw [eM,e1,List.any_cons]
  by_cases h:m8 d x=true
  ·rw [if_pos h,h];exact .inr ⟨rfl,rfl⟩
  ·rw [if_neg h,Bool.eq_false_iff.2 h]
   rcases ih with ⟨h1,h2⟩|⟨h1,h2⟩
   ·rw [h1,h2];exact .inl ⟨rfl,rfl⟩
   ·right
    rw [eM] at h1
    refine⟨?_,by rw [h2];rfl⟩
    cases hq:kh (wz d) (m9 s) with
    |none=>rw [hq] at h1;cases h1
    |some j=>rw [hq] at h1;exact h1
theorem GF {X:Result Bool}{e:Bool}{w:World}(h:(X.andThen fun b w'=>Result.ok (Value.bool b) w')=.ok (.bool e) w):X=.ok e w:=by
 cases X with
 |ok b w' =>
  simp only [Result.andThen,Result.ok.injEq,Value.bool.injEq] at h
  rw [h.1,h.2]
 |_=>cases h
theorem Ff (d:Dc) (s:List Dc):uI Tryz.prog 104 (C4 d) (m9 s) (wz d):=by
 obtain⟨n,i⟩:=d
 have hS:Tryz.prog.underlying 104=some (.struct (Tryz.prog.fieldsOf 104)):=by kernel_rfl
 have u3:=Tryz.underlying3
 have u9:=Tryz.underlying9
 have a3:=Tryz.isAgg3
 have a9:=Tryz.isAgg9
 refine⟨fun b w=>?_,⟨_,hS⟩,fun p hp w=>?_⟩
 ·have key:∀ q:Nat,(Instr.checkKey b (q+1+1) 104 (C4 ⟨n,i⟩)).run Tryz.prog w=.ok () w:=by
   intro q
   have e1:∀ w,(Instr.checkKey b (q+1) 9 (.string n)).run Tryz.prog w=.ok () w:=fun w=>by
    rw [Instr.checkKey]
    simp only [Sem.run_bind,run_underlying u9,Result.andThen_ok,Sem.run_pure]
   have e2:∀ w,(Instr.checkKey b (q+1) 3 (.int .i64 i)).run Tryz.prog w=.ok () w:=fun w=>by
    rw [Instr.checkKey]
    simp only [Sem.run_bind,run_underlying u3,Result.andThen_ok,Sem.run_pure]
   rw [Instr.checkKey]
   simp only [Sem.run_bind,run_underlying hS,Result.andThen_ok,C4]
   simp only [Program.fieldsOf,Tryz.underlying104]
   simp [part,a3,a9,e1,e2]
  exact key 9998
 ·obtain⟨d',_,rfl⟩:=List.mem_map.1 hp
  obtain⟨n',i'⟩:=d'
  have h:=(E1 n n' i i').2.2 w
  rw [run_eql_struct] at h
  exact GF h
section
variable {P:Program}{w0:World}{rd:Bool}{n:Nat}{α:AA}{S:ae}{Q:Exit->AA->ae->Prop}{l:List QI}{K:List iC}{ρ:Hd}
theorem Fg {B:Nat}{s:List Dc}:oy B (.mp (ρ.h m9 s)):=by
 rw [ρ.eq]
 intro e he
 obtain⟨p,_,rfl⟩:=List.mem_map.1 he
 exact .v
theorem ab.UF {d:Option Nat}{g:Option (Nat × Bool)}(ρ:Hd) (hw:cj α.tm g=some true) (k1:∀ s:List Dc,s=[]->ab P w0 rd n Q (.bD false l K) (cD d α (.mp S.nx)) (S.new (.mp (ρ.h m9 s)))):ab P w0 rd n Q (.bD false (⟨d,g,.fH none⟩::l) K) α S:=by
 have h:=k1 [] rfl
 rw [ρ.eq] at h
 exact ab.op (i:=⟨d,g,.fH none⟩) hw ad.fH h
theorem ab.Yt {d:Option Nat}{g:Option (Nat × Bool)}{z:AV}{x i:QO}{k:Nat}{s:List Dc}{v:Dc}(hw:cj α.tm g=some true) (hx:x.ev α.tm=.mp k) (hS:S.get k=some (.mp (ρ.h m9 s))) (hi:toV (i.ev α.tm)=some (C4 v))
  (k1:s.any (m8 v)=true->ab Tryz.prog w0 rd n Q (.bD false l K) (cD d α (.v (.bool true))) S) (k2:kh (wz v) (m9 s)=none->s.any (m8 v)=false->ab Tryz.prog w0 rd n Q (.bD false l K) (cD d α z) S) :
  ab Tryz.prog w0 rd n Q (.bD false (⟨d,g,.eM 104 z false x i⟩::l) K) α S:=by
 have h:=ad.eM (P:=Tryz.prog) (w0:=w0) (z:=z) (cm:=false) hx hS hi (by rw [ρ.eq];exact Ff v s)
 rw [ρ.eq] at h
 refine ab.op (i:=⟨d,g,.eM 104 z false x i⟩) hw h ?_
 rcases Ma v s with ⟨h1,h2⟩|⟨h1,h2⟩
 ·have h3:eM (wz v) (m9 s)=none:=by rw [eM,h1]
  rw [h3]
  exact k2 h1 h2
 ·rw [h1]
  exact k1 h2
theorem ab.Yu {d:Option Nat}{g:Option (Nat × Bool)}{x i b:QO}{k:Nat}{s:List Dc}{v:Dc}(hw:cj α.tm g=some true) (hx:x.ev α.tm=.mp k) (hS:S.get k=some (.mp (ρ.h m9 s))) (hi:toV (i.ev α.tm)=some (C4 v)) (hn:kh (wz v) (m9 s)=none) (hb:b.ev α.tm=.v (.bool true))
  (k1:∀ s',s'=s++[v]->ab Tryz.prog w0 rd n Q (.bD false l K) (cD d α (.v undef)) (S.set k (some (.mp (ρ.h m9 s'))))):ab Tryz.prog w0 rd n Q (.bD false (⟨d,g,.ky 104 x i b⟩::l) K) α S:=by
 have h:=ad.ky (P:=Tryz.prog) (w0:=w0) (c:=wz v) hx hS hi (by rw [ρ.eq];exact Ff v s) (by rw [ρ.eq];exact hn) hb
 have e:ρ.h m9 s++[(C4 v,.v (.bool true))]=ρ.h m9 (s++[v]):=by rw [ρ.eq,ρ.eq,m9,m9,List.map_append];rfl
 rw [e] at h
 exact ab.op (i:=⟨d,g,.ky 104 x i b⟩) hw h (k1 _ rfl)
end
section
variable {w0:World}{ρ:Hd}
theorem Fh {g:FuncId}{fs cs:List AV}{E:Int}(hp:db (fs++cs)) (h:tn w0 g (fs++cs) E):ah Tryz.prog w0 100 [.fn (.func g) fs cs] (iv E):=by
 have h1:=L8 hp h
 by_cases e:E=0
 ·subst e;exact h1
 ·rw [decide_eq_false e] at h1;exact h1
theorem Ea (ds:List Dc) (r:Rl) (hd:ds.length<=1099511627776) (hr:tV r):ah Tryz.prog w0 104 [dG ρ ds,rl ρ r] (iv (oo ds r)):=by
 have mY:Pure (.ip (fZ ρ r)):=.ip (sV r)
 have hpd:Pure (.ip [dG ρ ds]):=.ip fun a ha=>by obtain rfl:=List.mem_singleton.1 ha;exact bU ds
 have hc:=Fh (fs:=[]) (cs:=[.ip (fZ ρ r),.ip [dG ρ ds]]) ⟨mY,hpd,trivial⟩ (Ux (w0:=w0) (ρ:=ρ) ds r hd hr)
 have hF:Pure (.fn (.func 185) [] [.ip (fZ ρ r),.ip [dG ρ ds]]):=.fn (fun a ha=>by cases ha) fun a ha=>by simp only [List.mem_cons,List.not_mem_nil,or_false] at ha;rcases ha with rfl|rfl<;>assumption
 obtain⟨E,hE⟩:∃ E,E=oo ds r:=⟨_,rfl⟩
 rw [<-hE] at hc ⊢
 obtain⟨n,ke,re,g,b,v⟩:=r
 refine Yq.aG (by simp [Tryz.ntmps104]) (.v) ?_
 refine gq UD ?_
 repeat' (first
  |(refine ab.op rfl (ad.pf rfl hc ⟨hF,trivial⟩ .v ⟨aU.fns trivial ⟨aU.box (cs:=fZ ρ ⟨n,ke,re,g,b,v⟩) (cs':=fZ ρ ⟨n,ke,re,g,b,v⟩) rfl ⟨.refl _,.refl _,.refl _,.refl _,.refl _,.refl _,trivial⟩,aU.box (cs:=[dG ρ ds]) (cs':=[dG ρ ds]) rfl ⟨.refl _,trivial⟩,trivial⟩,trivial⟩) ?_;refine gq UD ?_)
  |(refine fq ?_))
 exact dI rfl
theorem Mb (p:Pg) (lx:xK p):tn w0 101 [.ip (lO ρ p)] (nW p):=by
 have nq:Pure (.ip (lO ρ p)):=.ip (wU p)
 obtain⟨ds,rs⟩:=p
 obtain⟨hd,hr,uV,_⟩:=lx
 dsimp only at hd hr uV
 obtain⟨E,hp⟩:∃ E,E=nW ⟨ds,rs⟩:=⟨_,rfl⟩
 rw [<-hp]
 rw [nW] at hp
 dsimp only at hp
 obtain⟨T,hT⟩:∃ T,T=bW (decide (rs.length<=40)) 6:=⟨_,rfl⟩
 rw [<-hT] at hp
 refine Bt Yr (by simp [Tryz.ntmps101]) ?_
 refine gq jd ?_
 repeat' (first
  |(refine ab.lM rfl rfl (fun hb=>?_) (fun hb=>?_)<;>(try simp only [aq] at hb)<;>(first|exact absurd hb (by decide)|refine gq jd ?_))
  |(refine jZ rfl (by first|rfl ) ?_)
  |(refine bq (fun hb=>?_) (fun hb=>?_)<;>(try simp only [aq] at hb)<;>(first|refine gq jd ?_))
  |(refine aB fun m hm=>?_;(try rw [af] at hm);refine gq jd ?_)
  )
 all_goals first
  |(rw [decide_eq_false (by omega)] at hp;exact hp)
  |skip
 rw [decide_eq_true (by omega),show bW true 6=0 from rfl,bu rfl] at hp
 refine ab.UF ρ rfl fun s0 UG=>?_
 refine gq jd ?_
 refine ab.int rfl (ad.len rfl) fun m hm=>?_;rw [af] at hm
 refine gq jd ?_
 refine ab.aP (σ:=Int × List Dc) 1 1 [] (fun q=>[(0,.ip (lO ρ ⟨ds,rs⟩)),(1,.mp 0),(11,dG ρ ds),(12,.v (.int .i64 m)),(13,.v (.int .i64 q.1))]) [] (fun q=>[(0,.mp (ρ.h m9 q.2))]) (fun q=>∃ k:Nat,q.1=k/\k<=ds.length/\E=bh (oD q.2 (ds.drop k)) T) (fun q=>ds.length - q.1.toNat) (0,s0) ⟨0,rfl,by simp,by rw [UG];simpa using hp⟩ rfl (by exact⟨sq,rfl,⟨.inl ⟨_,rfl,.same Fg⟩,trivial⟩,rfl,rfl,rfl⟩) ?_
 rintro⟨i,s⟩ ⟨k,hi,hk,hp⟩
 simp only at hi hp
 refine gq jd ?_
 by_cases au:k < ds.length
 ·obtain⟨x,hx,aO⟩:=az au
  rw [aO,oD,bS,bS,bS] at hp
  have hxn:=uV x (List.mem_of_getElem? hx)
  have hR:=sh (w0:=w0) x.n hxn
  obtain⟨xn,xa⟩:=x
  dsimp only at hp hxn hR
  obtain⟨NB,yD⟩:∃ b,b=gk xn:=⟨_,rfl⟩
  rw [<-yD] at hp hR
  clear yD
  repeat' (first
   |(refine ab.op rfl (ad.ind rfl rfl (ay (l:=ds) hi hx) (aw fun _=>rfl)) ?_;refine gq jd ?_)
   |(refine ab.a_ rfl (ad.ag rfl hR ⟨.v,trivial⟩) (fun _=>?_) (fun _=>?_)<;>refine gq jd ?_)
   |((refine ab.Yt (v:=⟨xn,xa⟩) rfl rfl rfl rfl (fun hy=>?_) (fun fP hy=>?_)<;>refine gq jd ?_))
   |((refine ab.Yu (v:=⟨xn,xa⟩) rfl rfl rfl rfl (by assumption) rfl (fun s' mV=>?_);refine gq jd ?_))
   |(refine ab.lM rfl rfl (fun hb=>?_) (fun hb=>?_)<;>(try simp only [aq] at hb)<;>(first|exact absurd hb (by decide)|refine gq jd ?_))
   |(refine ab.oR ?_;refine gq jd ?_)
   |(refine xl rfl (by conv=>lhs;cbv) ?_)
   |(refine jZ rfl (by first|rfl ) ?_)
   |(refine bq (fun hb=>?_) (fun hb=>?_)<;>(try simp only [aq] at hb)<;>(first|refine gq jd ?_))
   |(refine aB fun m hm=>?_;(try rw [af] at hm);refine gq jd ?_)
   |(refine aS fun _ _=>?_;refine gq jd ?_)
   |(refine ab.ao ?_;refine gq jd ?_)
   )
  all_goals first
   |(exfalso;omega)
   |(rw [show NB=true by assumption,show bW true 7=0 from rfl,bu rfl,decide_eq_true (show 0<=xa by omega),decide_eq_true (show xa<=6 by omega),show bW (true && true) 9=0 from rfl,bu rfl,show s.any (m8 ⟨xn,xa⟩)=false by assumption,show bW (!false) 8=0 from rfl,bu rfl] at hp
     refine ab.aL (σ:=Int × List Dc) (_,s') [] ?_ ?_ (by exact⟨sq,rfl,⟨.inl ⟨_,rfl,.same Fg⟩,trivial⟩,rfl,rfl,rfl⟩)
     ·exact⟨k+1,by simp only;omega,by omega,by rw [mV];exact hp⟩
     ·simp only;omega)
   |(rw [show NB=true by assumption,show bW true 7=0 from rfl,bu rfl,decide_eq_true (show 0<=xa by omega),decide_eq_true (show xa<=6 by omega),show bW (true && true) 9=0 from rfl,bu rfl,show s.any (m8 ⟨xn,xa⟩)=true by assumption] at hp
     exact hp)
   |(rw [show NB=true by assumption,show bW true 7=0 from rfl,bu rfl,decide_eq_false (show ¬ 0<=xa by omega)] at hp
     exact hp)
   |(rw [show NB=true by assumption,show bW true 7=0 from rfl,bu rfl,decide_eq_true (show 0<=xa by omega),decide_eq_false (show ¬ xa<=6 by omega)] at hp
     exact hp)
   |(rw [show NB=false by assumption] at hp
     exact hp)
 ·rw [List.drop_eq_nil_of_le (by omega),oD,bu rfl,hT] at hp
  repeat' (first
   |(refine ab.lM rfl rfl (fun hb=>?_) (fun hb=>?_)<;>(try simp only [aq] at hb)<;>(first|exact absurd hb (by decide)|refine gq jd ?_))
   |(refine xl rfl (by conv=>lhs;cbv) ?_)
   |(refine jZ rfl (by first|rfl ) ?_)
   |(refine bq (fun hb=>?_) (fun hb=>?_)<;>(try simp only [aq] at hb)<;>(first|refine gq jd ?_))
   |(refine aB fun m hm=>?_;(try rw [af] at hm);refine gq jd ?_)
   |(refine ab.ao ?_;refine gq jd ?_)
   )
  all_goals first
   |(exfalso;omega)
   |(rw [decide_eq_true (by omega)] at hp;exact hp)
   |(rw [decide_eq_false (by omega)] at hp;exact hp)
theorem Rk (p:Pg) (lx:xK p):ah Tryz.prog w0 43 [pg ρ p] (.bg [iv (oE p).1,iv (oE p).2]):=by
 have nq:Pure (.ip (lO ρ p)):=.ip (wU p)
 have hF:Pure (.fn (.func 101) [] [.ip (lO ρ p)]):=.fn (fun a ha=>by cases ha) fun a ha=>by obtain rfl:=List.mem_singleton.1 ha;exact nq
 have hc:=Fh (fs:=[]) (cs:=[.ip (lO ρ p)]) ⟨nq,trivial⟩ (Mb (w0:=w0) (ρ:=ρ) p lx)
 obtain⟨ds,rs⟩:=p
 obtain⟨hd,hr,uV,AM⟩:=lx
 dsimp only at hd hr uV AM
 obtain⟨R,hR⟩:∃ R,R=oE ⟨ds,rs⟩:=⟨_,rfl⟩
 rw [<-hR]
 rw [oE] at hR
 obtain⟨E,hE⟩:∃ E,E=nW ⟨ds,rs⟩:=⟨_,rfl⟩
 rw [<-hE] at hR hc
 dsimp only at hR
 refine abT.aG (by simp [Tryz.ntmps43]) ((.bg fun a ha=>by simp only [List.mem_cons,List.not_mem_nil,or_false] at ha;rcases ha with rfl|rfl<;>exact .v)) ?_
 refine gq sE ?_
 repeat' (first
  |((refine ab.int rfl (ad.pf rfl hc ⟨hF,trivial⟩ .v ⟨aU.fns trivial ⟨aU.box (cs:=lO ρ ⟨ds,rs⟩) (cs':=lO ρ ⟨ds,rs⟩) rfl ⟨.refl _,.refl _,trivial⟩,trivial⟩,trivial⟩) fun d hdE=>?_;refine gq sE ?_))
  |(refine bq (fun hb=>?_) (fun hb=>?_)<;>(try simp only [aq] at hb)<;>(first|refine gq sE ?_))
  |(refine aB fun m hm=>?_;(try rw [af] at hm);refine gq sE ?_)
  |(refine fq ?_))
 ·rw [if_neg (by omega)] at hR
  rw [hR,hdE]
  exact aU.of_eq rfl
 rw [if_pos (by omega)] at hR
 refine ab.aP (σ:=Int) 1 1 [] (fun i=>[(1,.pt 0 2 0 0),(14,.v (.int .i64 m)),(15,.v (.int .i64 i))]) [] (fun _=>[(0,.arr 2 [lO ρ ⟨ds,rs⟩] 0 true)]) (fun i=>∃ k:Nat,i=k/\k<=rs.length/\R=qA ds (rs.drop k) k) (fun i=>rs.length - i.toNat) 0 ⟨0,rfl,by simp,by simpa using hR⟩ rfl (by exact⟨sq,rfl,⟨.inl ⟨_,rfl,.arr (by exact⟨kq,trivial⟩)⟩,trivial⟩,rfl,rfl,rfl⟩) ?_
 rintro i ⟨k,hi,hk,hp⟩
 clear hR
 refine gq sE ?_
 by_cases au:k < rs.length
 ·obtain⟨x,hx,aO⟩:=az au
  rw [aO,qA] at hp
  have hC:=Ea (w0:=w0) (ρ:=ρ) ds x hd (AM x (List.mem_of_getElem? hx))
  obtain⟨F,tR⟩:∃ F,F=oo ds x:=⟨_,rfl⟩
  rw [<-tR] at hp hC
  have gn:=js (ρ:=ρ) x
  obtain⟨n,ke,re,g,b,v⟩:=x
  repeat' (first
   |(refine ab.op rfl (ad.ind rfl rfl (ay (l:=rs) hi hx) (aw fun _=>rfl)) ?_;refine gq sE ?_)
   |((refine ab.int rfl (ad.ag rfl hC ⟨bU _,gn,trivial⟩) fun d2 eK=>?_;refine gq sE ?_))
   |(refine bq (fun hb=>?_) (fun hb=>?_)<;>(try simp only [aq] at hb)<;>(first|refine gq sE ?_))
   |(refine aS fun _ _=>?_;refine gq sE ?_)
   |(refine ab.ao ?_;refine gq sE ?_)
   |(refine ab.bJ ?_;refine gq sE ?_)
   |(refine fq ?_))
  all_goals first
   |(exfalso;omega)
   |(rw [if_pos (show F=0 by omega)] at hp;(refine ab.aL (σ:=Int) _ [] ?_ ?_ (by exact⟨sq,rfl,⟨.inl ⟨_,rfl,.arr (by exact⟨kq,trivial⟩)⟩,trivial⟩,rfl,rfl,rfl⟩)<;>first|omega|exact⟨k+1,by omega,by omega,hp⟩))
   |(rw [if_neg (show ¬ F=0 by omega)] at hp;subst eK;rw [hp,<-hi];exact aU.of_eq rfl)
 ·rw [List.drop_eq_nil_of_le (by omega),qA] at hp
  repeat' (first
   |(refine bq (fun hb=>?_) (fun hb=>?_)<;>(try simp only [aq] at hb)<;>(first|refine gq sE ?_))
   |(refine ab.ao ?_;refine gq sE ?_)
   |(refine fq ?_))
  all_goals first
   |(exfalso;omega)
   |(rw [hp];exact aU.of_eq rfl)
end
end
end Go.Proofs.YtbofilglphfceaaGreat
