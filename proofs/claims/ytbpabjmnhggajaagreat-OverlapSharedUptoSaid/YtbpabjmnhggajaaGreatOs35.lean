import Derived.Test.YtbpabjmnhggajaaGreatOs30
import Derived.Test.YtbpabjmnhggajaaGreatOs34
namespace Go.Proofs.YtbpabjmnhggajaaGreat
set_option linter.unusedVariables false
set_option linter.unusedSimpArgs false
open Go.RowKit
section
set_option maxRecDepth 100000
attribute [local irreducible] ah aC af ad
def ahx:FQ 32 Tryz.f32:=a_ Tryz.func32 Tryz.call32
def g32:List Nat:=[4,0,1,3,2]
def ahy:FQ 29 Tryz.f29:=a_ Tryz.func29 Tryz.call29
def od:List Nat:=[3,0,13,1,12,14,11]
def ahz:FQ 14 Tryz.f14:=a_ Tryz.func14 Tryz.call14
def wg:List Nat:=[1,15,4,5,6,2,3,0,10,14,16,27]
def sO (d d':Dc):Bool:=d.n.toList == d'.n.toList && d.ar == d'.ar
def zB (s:List Dc):List Dc->Int
 |[]=>0
 |d::l=>cH (dQ (qO d.n) 7) (cH (dQ (decide (0<=d.ar) && decide (d.ar<=6)) 9) (cH (dQ (!s.any (sO d)) 8) (zB (s++[d]) l)))
def sZ (p:Pg):Int:=cH (dQ (decide (p.ds.length<=30)) 6) (cH (zB [] p.ds) (dQ (decide (p.rs.length<=40)) 6))
def tS (ds:List Dc):List Rl->Nat->Int × Int
 |[],_=>(0,0)
 |r::l,k=>if nF ds r=0 then tS ds l (k+1) else (k,nF ds r)
def lB (p:Pg):Int × Int:=if sZ p=0 then tS p.ds p.rs 0 else (-1,sZ p)
structure DB (p:Pg):Prop where
 ds:p.ds.length<=1099511627776
 rs:p.rs.length<=1099511627776
 dn:∀ d ∈ p.ds,d.n.size<=1099511627776
 rr:∀ r ∈ p.rs,BF r
def IS (d:Dc):Value:=.agg #[.string d.n,.int .i64 d.ar]
def pO (l:List Dc):List (Value × AV):=l.map fun d=>(IS d,.v (.bool true))
def BH (d:Dc) (k:Value):Bool:=match k with
 |.agg a=>match a.toList with
  |[.string n,.int _ i]=>d.n.toList == n.toList && d.ar == i
  |_=>false
 |_=>false
theorem S_ (d:Dc) (s:List Dc):(mG (BH d) (pO s)=none/\s.any (sO d)=false)\/(fP (BH d) (pO s)=some (.v (.bool true))/\s.any (sO d)=true):=by
 induction s with
 |nil=>exact .inl ⟨rfl,rfl⟩
 |cons x s ih =>
  have e1:mG (BH d) (pO (x::s))=if sO d x=true then some 0 else (mG (BH d) (pO s)).map (·+1):=rfl
  rw[fP,e1,List.any_cons];by_cases h:sO d x=true
  ·rw[if_pos h,h];exact .inr ⟨rfl,rfl⟩
  ·rw[if_neg h,Bool.eq_false_iff.2 h];rcases ih with ⟨h1,h2⟩|⟨h1,h2⟩
   ·grind
   ·right;rw[fP] at h1;refine⟨?_,by grind⟩;cases hq:mG (BH d) (pO s) with
    |none=>rw[hq] at h1;cases h1
    |some j=>rw[hq] at h1;exact h1
theorem No {X:Result Bool}{e:Bool}{w:World}(h:(X.andThen fun b w'=>Result.ok (Value.bool b) w')=.ok (.bool e) w):X=.ok e w:=by
 cases X with
 |ok b w' =>
  simp only[Result.andThen,Result.ok.injEq,Value.bool.injEq] at h;rw[h.1,h.2]
 |_=>cases h
theorem LG (d:Dc) (s:List Dc):zg Tryz.prog 54 (IS d) (pO s) (BH d):=by
 obtain⟨n,i⟩:=d;have hS:Tryz.prog.underlying 54=some (.struct (Tryz.prog.fieldsOf 54)):=by kernel_rfl
 have u3:=Tryz.underlying3;have u9:=Tryz.underlying9;have a3:=Tryz.isAgg3;have a9:=Tryz.isAgg9;refine⟨fun b w=>?_,⟨_,hS⟩,fun p hp w=>?_⟩
 ·have key:∀ q:Nat,(Instr.checkKey b (q+1+1) 54 (IS ⟨n,i⟩)).run Tryz.prog w=.ok () w:=by
   intro q;have e1:∀ w,(Instr.checkKey b (q+1) 9 (.string n)).run Tryz.prog w=.ok () w:=fun w=>by
    rw[Instr.checkKey];simp only[Sem.run_bind,run_underlying u9,Result.andThen_ok,Sem.run_pure]
   have e2:∀ w,(Instr.checkKey b (q+1) 3 (.int .i64 i)).run Tryz.prog w=.ok () w:=fun w=>by
    rw[Instr.checkKey];simp only[Sem.run_bind,run_underlying u3,Result.andThen_ok,Sem.run_pure]
   rw[Instr.checkKey];simp only[Sem.run_bind,run_underlying hS,Result.andThen_ok,IS];simp only[Program.fieldsOf,Tryz.underlying54];simp[part,a3,a9,e1,e2]
  exact key 9998
 ·obtain⟨d',_,rfl⟩:=List.mem_map.1 hp;obtain⟨n',i'⟩:=d';have h:=(Lv n n' i i').2.2 w;rw[run_eql_struct] at h;exact No h
section
variable {P:Program}{w0:World}{rd:Bool}{n:Nat}{α:AA}{S:ae}{Q:Exit->AA->ae->Prop}{l:List QI}{K:List ff}{ρ:Hd}
theorem LH {B:Nat}{s:List Dc}:fR B (.mp (ρ.h pO s)):=by
 rw[ρ.eq];intro e he;obtain⟨p,_,rfl⟩:=List.mem_map.1 he;exact .v
theorem ad.Z0 {d:Option Nat}{g:Option (Nat × Bool)}(ρ:Hd) (hw:bm α.tm g=some true) (k1:∀ s:List Dc,s=[]->ad P w0 rd n Q (.aN false l K) (bC d α (.mp S.nx)) (S.new (.mp (ρ.h pO s)))):ad P w0 rd n Q (.aN false (⟨d,g,.gj none⟩::l) K) α S:=by
 have h:=k1 [] rfl;rw[ρ.eq] at h;exact ad.op (i:=⟨d,g,.gj none⟩) hw af.gj h
theorem ad.ac9 {d:Option Nat}{g:Option (Nat × Bool)}{z:AV}{x i:QO}{k:Nat}{s:List Dc}{v:Dc}(hw:bm α.tm g=some true) (hx:x.ev α.tm=.mp k) (hS:S.get k=some (.mp (ρ.h pO s))) (hi:toV (i.ev α.tm)=some (IS v))
  (k1:s.any (sO v)=true->ad Tryz.prog w0 rd n Q (.aN false l K) (bC d α (.v (.bool true))) S) (k2:mG (BH v) (pO s)=none->s.any (sO v)=false->ad Tryz.prog w0 rd n Q (.aN false l K) (bC d α z) S) :
  ad Tryz.prog w0 rd n Q (.aN false (⟨d,g,.fP 54 z false x i⟩::l) K) α S:=by
 have h:=af.fP (P:=Tryz.prog) (w0:=w0) (z:=z) (cm:=false) hx hS hi (by rw[ρ.eq];exact LG v s);rw[ρ.eq] at h;refine ad.op (i:=⟨d,g,.fP 54 z false x i⟩) hw h ?_;rcases S_ v s with ⟨h1,h2⟩|⟨h1,h2⟩
 ·have h3:fP (BH v) (pO s)=none:=by rw[fP,h1]
  rw[h3];exact k2 h1 h2
 ·grind
theorem ad.ac_ {d:Option Nat}{g:Option (Nat × Bool)}{x i b:QO}{k:Nat}{s:List Dc}{v:Dc}(hw:bm α.tm g=some true) (hx:x.ev α.tm=.mp k) (hS:S.get k=some (.mp (ρ.h pO s))) (hi:toV (i.ev α.tm)=some (IS v)) (hn:mG (BH v) (pO s)=none) (hb:b.ev α.tm=.v (.bool true))
  (k1:∀ s',s'=s++[v]->ad Tryz.prog w0 rd n Q (.aN false l K) (bC d α (.v undef)) (S.set k (some (.mp (ρ.h pO s'))))):ad Tryz.prog w0 rd n Q (.aN false (⟨d,g,.oD 54 x i b⟩::l) K) α S:=by
 have h:=af.oD (P:=Tryz.prog) (w0:=w0) (c:=BH v) hx hS hi (by rw[ρ.eq];exact LG v s) (by rw[ρ.eq];exact hn) hb;have e:ρ.h pO s++[(IS v,.v (.bool true))]=ρ.h pO (s++[v]):=by rw[ρ.eq,ρ.eq,pO,pO,List.map_append];rfl
 rw[e] at h;exact ad.op (i:=⟨d,g,.oD 54 x i b⟩) hw h (k1 _ rfl)
end
section
variable {w0:World}{ρ:Hd}
theorem LI {g:FuncId}{fs cs:List AV}{E:Int}(hp:dK (fs++cs)) (h:xh w0 g (fs++cs) E):ah Tryz.prog w0 28 [.fn (.func g) fs cs] (iv E):=by
 have h1:=S0 hp h;by_cases e:E=0
 ·grind
 ·grind
theorem KP (ds:List Dc) (r:Rl) (hd:ds.length<=1099511627776) (hr:BF r):ah Tryz.prog w0 32 [gk ρ ds,rl ρ r] (iv (nF ds r)):=by
 have IJ:Pure (.ip (lu ρ r)):=.ip (wR r);have hpd:Pure (.ip [gk ρ ds]):=.ip fun a ha=>by grind[dU]
 have hc:=LI (fs:=[]) (cs:=[.ip (lu ρ r),.ip [gk ρ ds]]) ⟨IJ,hpd,trivial⟩ (ZT (w0:=w0) (ρ:=ρ) ds r hd hr);have hF:Pure (.fn (.func 67) [] [.ip (lu ρ r),.ip [gk ρ ds]]):=.fn (fun a ha=>by grind) fun a ha=>by grind
 obtain⟨E,hE⟩:∃ E,E=nF ds r:=⟨_,rfl⟩;rw[<-hE] at hc ⊢;obtain⟨n,ke,re,g,b,v⟩:=r;refine st ahx g32 .v ?_
 repeat' (first
  |refine og g32 (af.Az rfl hc ⟨hF,trivial⟩ .v ⟨aR.fns trivial ⟨aR.box (cs:=lu ρ ⟨n,ke,re,g,b,v⟩) (cs':=lu ρ ⟨n,ke,re,g,b,v⟩) rfl ⟨.refl _,.refl _,.refl _,.refl _,.refl _,.refl _,trivial⟩,aR.box (cs:=[gk ρ ds]) (cs':=[gk ρ ds]) rfl ⟨.refl _,trivial⟩,trivial⟩,trivial⟩) ?_
  |(refine fq ?_))
 exact jD rfl
theorem Ta (p:Pg) (nc:DB p):xh w0 29 [.ip (tg ρ p)] (sZ p):=by
 have xZ:Pure (.ip (tg ρ p)):=.ip (wS p);obtain⟨ds,rs⟩:=p;obtain⟨hd,hr,Gf,_⟩:=nc;dsimp only at hd hr Gf;obtain⟨E,hp⟩:∃ E,E=sZ ⟨ds,rs⟩:=⟨_,rfl⟩;rw[<-hp];rw[sZ] at hp;dsimp only at hp;obtain⟨T,hT⟩:∃ T,T=dQ (decide (rs.length<=40)) 6:=⟨_,rfl⟩;rw[<-hT] at hp;refine Hh ahy.2 (by simp[Tryz.ntmps29]) ?_;refine gq od ?_
 repeat' (first
  |refine ad.nX rfl rfl (fun hb=>?_) (fun hb=>?_)<;>(try simp only[bX] at hb)<;>(first|exact absurd hb (by decide)|refine gq od ?_)
  |refine l6 rfl (by first|rfl ) ?_
  |refine cg od (fun hb=>?_) fun hb=>?_
  |refine lg od fun m hm=>?_
  )
 all_goals first
  |rw[decide_eq_false (by omega)] at hp;exact hp
  |skip
 rw[decide_eq_true (by omega),show dQ true 6=0 from rfl,cR rfl] at hp;refine ad.Z0 ρ rfl fun s0 Zt=>?_;refine gq od ?_;refine ad.int rfl (af.len rfl) fun m hm=>?_;rw[aE] at hm;refine gq od ?_;refine ad.bu (σ:=Int × List Dc) 1 1 [] (fun q=>[(0,.ip (tg ρ ⟨ds,rs⟩)),(1,.mp 0),(11,gk ρ ds),(12,.v (.int .i64 m)),(13,.v (.int .i64 q.1))]) [] (fun q=>[(0,.mp (ρ.h pO q.2))]) (fun q=>∃ k:Nat,q.1=k/\k<=ds.length/\E=cH (zB q.2 (ds.drop k)) T) (fun q=>ds.length - q.1.toNat) (0,s0) ⟨0,rfl,by simp,by rw[Zt];simpa using hp⟩ rfl (by exact⟨sq,rfl,⟨.inl ⟨_,rfl,.same LH⟩,trivial⟩,rfl,rfl,rfl⟩) ?_;rintro⟨i,s⟩ ⟨k,hi,hk,hp⟩;simp only at hi hp;refine gq od ?_;by_cases aA:k < ds.length
 ·obtain⟨x,hx,bK⟩:=bf aA;rw[bK,zB,fA,fA,fA] at hp;have hxn:=Gf x (List.mem_of_getElem? hx);have hR:=vS (w0:=w0) x.n hxn;obtain⟨xn,xa⟩:=x;dsimp only at hp hxn hR;obtain⟨NB,IN⟩:∃ b,b=qO xn:=⟨_,rfl⟩;rw[<-IN] at hp hR;clear IN
  repeat' (first
   |refine og od (af.ind rfl rfl (aY (l:=ds) hi hx) (aZ fun _=>rfl)) ?_
   |refine bg od (af.aw rfl hR ⟨.v,trivial⟩) (fun _=>?_) fun _=>?_
   |(refine ad.ac9 (v:=⟨xn,xa⟩) rfl rfl rfl rfl (fun hy=>?_) (fun qg hy=>?_)<;>refine gq od ?_)
   |(refine ad.ac_ (v:=⟨xn,xa⟩) rfl rfl rfl rfl (by assumption) rfl (fun s' iG=>?_);refine gq od ?_)
   |refine ad.nX rfl rfl (fun hb=>?_) (fun hb=>?_)<;>(try simp only[bX] at hb)<;>(first|exact absurd hb (by decide)|refine gq od ?_)
   |refine ad.rM ?_;refine gq od ?_
   |refine Cj rfl (by conv=>lhs;cbv) ?_
   |refine l6 rfl (by first|rfl ) ?_
   |refine cg od (fun hb=>?_) fun hb=>?_
   |refine lg od fun m hm=>?_
   |refine ag od fun _ _=>?_
   |refine ad.aH ?_;refine gq od ?_
   )
  all_goals first
   |exfalso;omega
   |(rw[show NB=true by assumption,show dQ true 7=0 from rfl,cR rfl,decide_eq_true (show 0<=xa by omega),decide_eq_true (show xa<=6 by omega),show dQ (true && true) 9=0 from rfl,cR rfl,show s.any (sO ⟨xn,xa⟩)=false by assumption,show dQ (!false) 8=0 from rfl,cR rfl] at hp
     refine ad.aO (σ:=Int × List Dc) (_,s') [] ?_ ?_ (by exact⟨sq,rfl,⟨.inl ⟨_,rfl,.same LH⟩,trivial⟩,rfl,rfl,rfl⟩)
     ·exact⟨k+1,by grind,by omega,by grind⟩
     ·simp only;omega)
   |(rw[show NB=true by assumption,show dQ true 7=0 from rfl,cR rfl,decide_eq_true (show 0<=xa by omega),decide_eq_true (show xa<=6 by omega),show dQ (true && true) 9=0 from rfl,cR rfl,show s.any (sO ⟨xn,xa⟩)=true by assumption] at hp
     exact hp)
   |(rw[show NB=true by assumption,show dQ true 7=0 from rfl,cR rfl,decide_eq_false (show ¬ 0<=xa by omega)] at hp
     exact hp)
   |(rw[show NB=true by assumption,show dQ true 7=0 from rfl,cR rfl,decide_eq_true (show 0<=xa by omega),decide_eq_false (show ¬ xa<=6 by omega)] at hp
     exact hp)
   |(rw[show NB=false by assumption] at hp
     exact hp)
 ·rw[List.drop_eq_nil_of_le (by omega),zB,cR rfl,hT] at hp
  repeat' (first
   |refine ad.nX rfl rfl (fun hb=>?_) (fun hb=>?_)<;>(try simp only[bX] at hb)<;>(first|exact absurd hb (by decide)|refine gq od ?_)
   |refine Cj rfl (by conv=>lhs;cbv) ?_
   |refine l6 rfl (by first|rfl ) ?_
   |refine cg od (fun hb=>?_) fun hb=>?_
   |refine lg od fun m hm=>?_
   |refine ad.aH ?_;refine gq od ?_
   )
  all_goals first
   |exfalso;omega
   |rw[decide_eq_true (by omega)] at hp;exact hp
   |rw[decide_eq_false (by omega)] at hp;exact hp
theorem LL (p:Pg) (nc:DB p):ah Tryz.prog w0 14 [pg ρ p] (.aG [iv (lB p).1,iv (lB p).2]):=by
 have xZ:Pure (.ip (tg ρ p)):=.ip (wS p);have hF:Pure (.fn (.func 29) [] [.ip (tg ρ p)]):=.fn (fun a ha=>by cases ha) fun a ha=>by obtain rfl:=List.mem_singleton.1 ha;exact xZ
 have hc:=LI (fs:=[]) (cs:=[.ip (tg ρ p)]) ⟨xZ,trivial⟩ (Ta (w0:=w0) (ρ:=ρ) p nc);obtain⟨ds,rs⟩:=p;obtain⟨hd,hr,Gf,P1⟩:=nc;dsimp only at hd hr Gf P1;obtain⟨R,hR⟩:∃ R,R=lB ⟨ds,rs⟩:=⟨_,rfl⟩;rw[<-hR];rw[lB] at hR;obtain⟨E,hE⟩:∃ E,E=sZ ⟨ds,rs⟩:=⟨_,rfl⟩;rw[<-hE] at hR hc;dsimp only at hR;refine st ahz wg ((.aG fun a ha=>by simp only[List.mem_cons,List.not_mem_nil,or_false] at ha;rcases ha with rfl|rfl<;>exact .v)) ?_
 repeat' (first
  |(refine ig wg (af.Az rfl hc ⟨hF,trivial⟩ .v ⟨aR.fns trivial ⟨aR.box (cs:=tg ρ ⟨ds,rs⟩) (cs':=tg ρ ⟨ds,rs⟩) rfl ⟨.refl _,.refl _,trivial⟩,trivial⟩,trivial⟩) fun d hdE=>?_)
  |refine cg wg (fun hb=>?_) fun hb=>?_
  |refine lg wg fun m hm=>?_
  |(refine fq ?_))
 ·rw[if_neg (by omega)] at hR;rw[hR,hdE];exact aR.of_eq rfl
 rw[if_pos (by omega)] at hR;refine ad.bu (σ:=Int) 1 1 [] (fun i=>[(1,.pt 0 2 0 0),(14,.v (.int .i64 m)),(15,.v (.int .i64 i))]) [] (fun _=>[(0,.arr 2 [tg ρ ⟨ds,rs⟩] 0 true)]) (fun i=>∃ k:Nat,i=k/\k<=rs.length/\R=tS ds (rs.drop k) k) (fun i=>rs.length - i.toNat) 0 ⟨0,rfl,by simp,by simpa using hR⟩ rfl (by exact⟨sq,rfl,⟨.inl ⟨_,rfl,.arr (by exact⟨kq,trivial⟩)⟩,trivial⟩,rfl,rfl,rfl⟩) ?_;rintro i ⟨k,hi,hk,hp⟩;clear hR;refine gq wg ?_;by_cases aA:k < rs.length
 ·obtain⟨x,hx,bK⟩:=bf aA;rw[bK,tS] at hp;have hC:=KP (w0:=w0) (ρ:=ρ) ds x hd (P1 x (List.mem_of_getElem? hx));obtain⟨F,IP⟩:∃ F,F=nF ds x:=⟨_,rfl⟩;rw[<-IP] at hp hC;have LM:=nA (ρ:=ρ) x;obtain⟨n,ke,re,g,b,v⟩:=x
  repeat' (first
   |refine og wg (af.ind rfl rfl (aY (l:=rs) hi hx) (aZ fun _=>rfl)) ?_
   |(refine ig wg (af.aw rfl hC ⟨dU _,LM,trivial⟩) fun d2 jq=>?_)
   |refine cg wg (fun hb=>?_) fun hb=>?_
   |refine ag wg fun _ _=>?_
   |refine ad.aH ?_;refine gq wg ?_
   |refine ad.cP ?_;refine gq wg ?_
   |(refine fq ?_))
  all_goals first
   |exfalso;omega
   |rw[if_pos (show F=0 by omega)] at hp;(refine ad.aO (σ:=Int) _ [] ?_ ?_ (by exact⟨sq,rfl,⟨.inl ⟨_,rfl,.arr (by exact⟨kq,trivial⟩)⟩,trivial⟩,rfl,rfl,rfl⟩)<;>first|omega|exact⟨k+1,by omega,by omega,hp⟩)
   |rw[if_neg (show ¬ F=0 by omega)] at hp;subst jq;rw[hp,<-hi];exact aR.of_eq rfl
 ·rw[List.drop_eq_nil_of_le (by omega),tS] at hp
  repeat' (first
   |refine cg wg (fun hb=>?_) fun hb=>?_
   |refine ad.aH ?_;refine gq wg ?_
   |(refine fq ?_))
  all_goals first
   |exfalso;omega
   |rw[hp];exact aR.of_eq rfl
end
end
end Go.Proofs.YtbpabjmnhggajaaGreat
