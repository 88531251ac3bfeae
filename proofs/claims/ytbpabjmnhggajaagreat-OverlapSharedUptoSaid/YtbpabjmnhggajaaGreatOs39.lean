import Derived.Shelf.SlIterI.Collect
import Derived.Shelf.SlIterI.Sorted
import Derived.Shelf.SortM.Plain
import Derived.Shelf.SortM.SortNone
import Derived.Test.YtbpabjmnhggajaaGreatOs38
namespace Go.Proofs.YtbpabjmnhggajaaGreat
set_option linter.unusedVariables false
set_option linter.unusedSimpArgs false
open Go.RowKit
section
set_option maxRecDepth 100000
attribute [local irreducible] ah aC af ad
def adm:FQ 196 Tryz.f196:=a_ Tryz.func196 Tryz.call196
def Ja:List Nat:=[7,8,0,6,1,2]
def adn:FQ 197 Tryz.f197:=a_ Tryz.func197 Tryz.call197
def fH:List Nat:=[0,1,2,10,7,30,9,41,6,11,57,13,12,73]
section
variable {w0:World}{ρ:Hd}
theorem Xh {s:PS}{kn:KN}{i k:Nat}{t t':Tm}{l l':List Nat}(hi:s.N[i]?=some (t,l)) (hk:s.N[k]?=some (t',l')) (h1:t.n.size<=1099511627776) (h2:t'.n.size<=1099511627776) (h3:t.a.length<=1099511627776) (h4:t'.a.length<=1099511627776) :
  aC Tryz.prog w0 196 [.pt 0 6 0 0,iv i,iv k] (aq (gS ρ s kn) 7) (.v (.bool (py t t'))) (aq (gS ρ s kn) 7):=by
 obtain⟨N,vs,up,sh,ls⟩:=s;dsimp only at hi hk;have mX:=(List.getElem?_eq_some_iff.1 hi).1;have dV:=(List.getElem?_eq_some_iff.1 hk).1;have kM:=fN (ρ:=ρ) (f:=r_ ρ) hi;have dP:=fN (ρ:=ρ) (f:=r_ ρ) hk;obtain⟨k1,k2,k3,k4⟩:=t;obtain⟨j1,j2,j3,j4⟩:=t';simp only[r_] at kM dP;obtain⟨R,hR⟩:∃ R,R=py ⟨k1,k2,k3,k4⟩ ⟨j1,j2,j3,j4⟩:=⟨_,rfl⟩;rw[<-hR];have hRt:R=true ↔ k1=j1/\k2=j2/\k3.toList=j3.toList/\(k4.length:Int)=j4.length:=by
  rw[hR];unfold py;simp only[Bool.and_eq_true,beq_iff_eq,decide_eq_true_eq,and_assoc];exact and_congr Iff.rfl (and_congr Iff.rfl (and_congr Iff.rfl (by omega)))
 clear hR;obtain⟨ul,rP⟩:∃ ul,ul=up.length:=⟨_,rfl⟩;obtain⟨nl,fj⟩:∃ nl,nl=N.length:=⟨_,rfl⟩;rw[<-fj] at mX dV;simp only[gS,<-rP,<-fj];refine sc 7 7 adm ?_;refine gq Ja ?_;refine ad.fe rfl (fun T=>af.jM rfl rfl rfl mX) ?_;refine ad.fe rfl (fun T=>af.quiet rfl) ?_;refine ad.iJ rfl (a6.pP rfl rfl kM rfl) ?_;refine gq Ja ?_;refine ad.fe rfl (fun T=>af.jM rfl rfl rfl dV) ?_;refine ad.fe rfl (fun T=>af.quiet rfl) ?_;refine ad.iJ rfl (a6.pP rfl rfl dP rfl) ?_;refine gq Ja ?_
 repeat' (first
  |refine cg Ja (fun hb=>?_) fun hb=>?_
  |refine lg Ja fun m hm=>?_
  |(refine fq ?_))
 all_goals first
  |(have e:R=true:=hRt.2 ⟨by assumption,by assumption,by assumption,by omega⟩
    rw[e];exact⟨[],.ao .v,gC,rfl⟩)
  |(have e:R=false:=by
      rw[Bool.eq_false_iff];intro h;obtain⟨a,b,c,d⟩:=hRt.1 h
      first|exact hb a|exact hb b|exact hb c|omega
    rw[e];exact⟨[],.ao .v,gC,rfl⟩)
theorem Xi {s:PS}{kn:KN}{a b:Nat}(hb:b < s.js.up.length) :
  aC Tryz.prog w0 197 [.pt 0 6 0 0,iv a,iv b] (aq (gS ρ s kn) 7) (.aG []) (aq (gS ρ ⟨s.N,s.vs,⟨s.js.up.set b a,jE s.js.sh a b,iZ s.js.ls a b⟩⟩ kn) 7):=by
 obtain⟨N,vs,up,sh,ls⟩:=s;dsimp only at hb;obtain⟨SH,rh⟩:∃ SH,SH=jE sh a b:=⟨_,rfl⟩;obtain⟨LS,fD⟩:∃ LS,LS=iZ ls a b:=⟨_,rfl⟩;obtain⟨ul,rP⟩:∃ ul,ul=up.length:=⟨_,rfl⟩;obtain⟨nl,fj⟩:∃ nl,nl=N.length:=⟨_,rfl⟩;have cy:b < ul:=by omega
 simp only[gS,List.length_set,<-rP,<-fj,<-rh,<-fD];unfold jE at rh;unfold iZ at fD;obtain⟨ai,mV⟩:∃ ai:Int,ai=a:=⟨_,rfl⟩;obtain⟨bi,hbi⟩:∃ bi:Int,bi=b:=⟨_,rfl⟩;rw[<-mV,<-hbi] at rh fD ⊢;refine sc 7 7 adn ?_;refine gq fH ?_;refine ad.op rfl (af.jM rfl rfl hbi cy) ?_;refine ad.IU (f:=iW) (y:=a) rfl rfl rfl (by rw[iW,<-mV];rfl) rfl (fun _=>rfl) rfl hb (fun u hu=>?_);rw[<-hu];clear mV hbi rP fj hu hb cy;refine gq fH ?_;refine ad.look (ρ:=ρ) (f:=iv) (kv:=sh) rfl rfl rfl rfl (fun k hk=>?_) (fun hk=>?_)
 ·rw[hk] at rh;refine gq fH ?_;refine ad.look (ρ:=ρ) (f:=iv) (kv:=sh) rfl rfl rfl rfl (fun i hi=>?_) (fun hi=>?_)
  ·rw[hi] at rh;refine gq fH ?_;simp only at rh;obtain rfl:=rh;refine ad.iM (ρ:=ρ) (f:=iv) (kv:=ls) rfl rfl rfl rfl (fun v hv=>?_) (fun hv=>?_)<;>rw[hv] at fD<;>simp only at fD
   ·refine gq fH ?_;refine ad.iM (ρ:=ρ) (f:=iv) (kv:=ls) rfl rfl rfl rfl (fun w hw=>?_) (fun hw=>?_)<;>rw[hw] at fD<;>simp only at fD
    ·refine gq fH ?_;refine cn (fun hb=>?_) fun hb=>?_
     ·rw[if_pos hb] at fD;refine gq fH ?_;refine ad.uO (ρ:=ρ) (f:=iv) (kv:=ls) (v:=v) rfl rfl rfl rfl rfl (fun kv mn=>?_);rw[<-mn] at fD;obtain rfl:=fD;refine gq fH ?_;refine fq ?_;exact⟨[],.ao (.aG fun _ h=>by grind),gC,rfl⟩
     ·rw[if_neg hb] at fD;obtain rfl:=fD;refine gq fH ?_;refine fq ?_;exact⟨[],.ao (.aG fun _ h=>by grind),gC,rfl⟩
    ·refine gq fH ?_;refine ad.uO (ρ:=ρ) (f:=iv) (kv:=ls) (v:=v) rfl rfl rfl rfl rfl (fun kv mn=>?_);rw[<-mn] at fD;obtain rfl:=fD;refine gq fH ?_;refine fq ?_;exact⟨[],.ao (.aG fun _ h=>by grind),gC,rfl⟩
   ·obtain rfl:=fD;refine gq fH ?_;refine fq ?_;exact⟨[],.ao (.aG fun _ h=>by grind),gC,rfl⟩
  ·rw[hi] at rh;refine gq fH ?_;refine ad.j7 (ρ:=ρ) (f:=iv) (kv:=sh) (v:=k) rfl rfl rfl rfl rfl (fun kv mn=>?_);simp only at rh;rw[<-mn] at rh;obtain rfl:=rh;refine gq fH ?_;refine ad.iM (ρ:=ρ) (f:=iv) (kv:=ls) rfl rfl rfl rfl (fun v hv=>?_) (fun hv=>?_)<;>rw[hv] at fD<;>simp only at fD
   ·refine gq fH ?_;refine ad.iM (ρ:=ρ) (f:=iv) (kv:=ls) rfl rfl rfl rfl (fun w hw=>?_) (fun hw=>?_)<;>rw[hw] at fD<;>simp only at fD
    ·refine gq fH ?_;refine cn (fun hb=>?_) fun hb=>?_
     ·rw[if_pos hb] at fD;refine gq fH ?_;refine ad.uO (ρ:=ρ) (f:=iv) (kv:=ls) (v:=v) rfl rfl rfl rfl rfl (fun kv mn=>?_);rw[<-mn] at fD;obtain rfl:=fD;refine gq fH ?_;refine fq ?_;exact⟨[],.ao (.aG fun _ h=>by grind),gC,rfl⟩
     ·rw[if_neg hb] at fD;obtain rfl:=fD;refine gq fH ?_;refine fq ?_;exact⟨[],.ao (.aG fun _ h=>by grind),gC,rfl⟩
    ·refine gq fH ?_;refine ad.uO (ρ:=ρ) (f:=iv) (kv:=ls) (v:=v) rfl rfl rfl rfl rfl (fun kv mn=>?_);rw[<-mn] at fD;obtain rfl:=fD;refine gq fH ?_;refine fq ?_;exact⟨[],.ao (.aG fun _ h=>by grind),gC,rfl⟩
   ·obtain rfl:=fD;refine gq fH ?_;refine fq ?_;exact⟨[],.ao (.aG fun _ h=>by grind),gC,rfl⟩
 ·rw[hk] at rh;refine gq fH ?_;simp only at rh;obtain rfl:=rh;refine ad.iM (ρ:=ρ) (f:=iv) (kv:=ls) rfl rfl rfl rfl (fun v hv=>?_) (fun hv=>?_)<;>rw[hv] at fD<;>simp only at fD
  ·refine gq fH ?_;refine ad.iM (ρ:=ρ) (f:=iv) (kv:=ls) rfl rfl rfl rfl (fun w hw=>?_) (fun hw=>?_)<;>rw[hw] at fD<;>simp only at fD
   ·refine gq fH ?_;refine cn (fun hb=>?_) fun hb=>?_
    ·rw[if_pos hb] at fD;refine gq fH ?_;refine ad.uO (ρ:=ρ) (f:=iv) (kv:=ls) (v:=v) rfl rfl rfl rfl rfl (fun kv mn=>?_);rw[<-mn] at fD;obtain rfl:=fD;refine gq fH ?_;refine fq ?_;exact⟨[],.ao (.aG fun _ h=>by grind),gC,rfl⟩
    ·rw[if_neg hb] at fD;obtain rfl:=fD;refine gq fH ?_;refine fq ?_;exact⟨[],.ao (.aG fun _ h=>by grind),gC,rfl⟩
   ·refine gq fH ?_;refine ad.uO (ρ:=ρ) (f:=iv) (kv:=ls) (v:=v) rfl rfl rfl rfl rfl (fun kv mn=>?_);rw[<-mn] at fD;obtain rfl:=fD;refine gq fH ?_;refine fq ?_;exact⟨[],.ao (.aG fun _ h=>by grind),gC,rfl⟩
  ·obtain rfl:=fD;refine gq fH ?_;refine fq ?_;exact⟨[],.ao (.aG fun _ h=>by grind),gC,rfl⟩
end
end
section
set_option maxRecDepth 100000
attribute [local irreducible] ah aC af ad
def ado:FQ 136 Tryz.f136:=a_ Tryz.func136 Tryz.call136
def ew:List Nat:=[0,1,76,5,6,7,8,10,4,16,39,9,11,61,66,75,77,74,13,12]
def qF (p:Nat × Nat):List AV:=[iv p.1,iv p.2]
def zM (ρ:Hd) (ps:List (Nat × Nat)):Ob:=.arr 2 (ρ.h (List.map qF) ps) 0 false
theorem LU {ρ:Hd}{B:Nat}(ps:List (Nat × Nat)):fR B (zM ρ ps):=by
 show ∀ row ∈ ρ.h (List.map qF) ps,∀ a ∈ row,dz B a;rw[ρ.eq];intro row hr a ha;obtain⟨x,_,rfl⟩:=List.mem_map.1 hr;simp only[qF,List.mem_cons,List.not_mem_nil,or_false] at ha;rcases ha with rfl|rfl<;>exact .v
def gX (ρ:Hd) (nl ul:Nat) (N:bB) (vs:List (Int × Int)) (up:List Nat) (sh ls:List (Int × Int)) (kn:KN):List (Nat × Ob):=[(0,gO nl ul),(1,dY ρ N),(2,bD ρ vs),(3,dZ ρ up),(4,d_ ρ sh),(5,bD ρ ls),(6,ec ρ kn)]
theorem gE {ρ:Hd}{nl ul:Nat}{N:bB}{vs:List (Int × Int)}{up:List Nat}{sh ls:List (Int × Int)}{kn:KN}(fj:nl=N.length) (jX:up.length=ul):gX ρ nl ul N vs up sh ls kn=gS ρ ⟨N,vs,⟨up,sh,ls⟩⟩ kn:=by subst fj;subst jX;rfl
theorem cW {ρ:Hd}{nl ul:Nat}{N:bB}{vs:List (Int × Int)}{up:List Nat}{sh ls:List (Int × Int)}{kn:KN}{B:Nat}(h:6 < B):zK (gX ρ nl ul N vs up sh ls kn) B:=⟨fun j o hj=>by
 unfold gX at hj;have:=fg hj;simp only[List.mem_cons,pI_,List.not_mem_nil,or_false] at this;rcases this with ⟨rfl,rfl⟩|⟨rfl,rfl⟩|⟨rfl,rfl⟩|⟨rfl,rfl⟩|⟨rfl,rfl⟩|⟨rfl,rfl⟩|⟨rfl,rfl⟩
 ·exact⟨by omega,oh h,fun J=>by simp[gO]⟩
 ·exact⟨by omega,jv _,fun J=>by simp[dY]⟩
 ·exact⟨by omega,db _,fun J=>by simp[bD]⟩
 ·exact⟨by omega,iN _,fun J=>by simp[dZ]⟩
 ·exact⟨by omega,iO _,fun J=>by simp[d_]⟩
 ·exact⟨by omega,db _,fun J=>by simp[bD]⟩
 ·exact⟨by omega,iP _,fun J=>by simp[ec]⟩⟩
theorem E6 {ρ:Hd}{nl ul:Nat}{N:bB}{vs:List (Int × Int)}{up:List Nat}{sh ls:List (Int × Int)}{kn:KN}:∀ p ∈ gX ρ nl ul N vs up sh ls kn,dL (gX ρ nl ul N vs up sh ls kn) p.1=some p.2:=by
 intro p hp;unfold gX at hp ⊢;simp only[List.mem_cons,List.not_mem_nil,or_false] at hp;rcases hp with rfl|rfl|rfl|rfl|rfl|rfl|rfl<;>rfl
theorem DM {ρ:Hd}{nl ul:Nat}{N:bB}{vs:List (Int × Int)}{up:List Nat}{sh ls:List (Int × Int)}{kn:KN}{T:ae}(h0:T.get 0=some (gO nl ul):=by rfl) (h1:T.get 1=some (dY ρ N):=by rfl) (h2:T.get 2=some (bD ρ vs):=by rfl) (h3:T.get 3=some (dZ ρ up):=by rfl) (h4:T.get 4=some (d_ ρ sh):=by rfl) (h5:T.get 5=some (bD ρ ls):=by rfl) (h6:T.get 6=some (ec ρ kn):=by rfl):fC T (gX ρ nl ul N vs up sh ls kn):=by
 intro p hp;unfold gX at hp;simp only[List.mem_cons,List.not_mem_nil,or_false] at hp;rcases hp with rfl|rfl|rfl|rfl|rfl|rfl|rfl<;>assumption
theorem mu {ρ:Hd}{nl ul:Nat}{N:bB}{vs:List (Int × Int)}{up:List Nat}{sh ls:List (Int × Int)}{kn:KN}{T:ae}(h0:T.get 0=some (gO nl ul):=by rfl) (h1:T.get 1=some (dY ρ N):=by rfl) (h2:T.get 2=some (bD ρ vs):=by rfl) (h3:T.get 3=some (dZ ρ up):=by rfl) (h4:T.get 4=some (d_ ρ sh):=by rfl) (h5:T.get 5=some (bD ρ ls):=by rfl) (h6:T.get 6=some (ec ρ kn):=by rfl):∀ j o,dL (gX ρ nl ul N vs up sh ls kn) j=some o->T.get j=some o:=fun j o hj=>DM (h0:=h0) (h1:=h1) (h2:=h2) (h3:=h3) (h4:=h4) (h5:=h5) (h6:=h6) (j,o) (fg hj)
theorem pT {a:AV}{N:Nat}(h:0 < N) (ha:Pure a):∀ b ∈ [AV.pt 0 6 0 0,a],dz N b:=by
 intro b hb;simp only[List.mem_cons,List.not_mem_nil,or_false] at hb;rcases hb with rfl|rfl
 ·exact .pt h
 ·exact Pure.aV ha
theorem zN {a c:AV}{N:Nat}(h:0 < N) (ha:Pure a) (hc:Pure c):∀ b ∈ [AV.pt 0 6 0 0,a,c],dz N b:=by
 intro b hb;simp only[List.mem_cons,List.not_mem_nil,or_false] at hb;rcases hb with rfl|rfl|rfl
 ·exact .pt h
 ·exact Pure.aV ha
 ·exact Pure.aV hc
section
variable {P:Program}{w0:World}{rd dr:Bool}{n:Nat}{Q:Exit->AA->ae->Prop}{α:AA}{S:ae}{l:List QI}{K:List ff}{T:Type}{ρ:Hd}{f:T->List AV}
theorem ad.ahE {d:Option Nat}{g:Option (Nat × Bool)}{sz k len h:Nat}{x hi:QO}{ik:IntKind}{j:Int}{ex:Bool}{xs xs0:List T}(hw:bm α.tm g=some true) (hx:x.ev α.tm=.gr k sz len) (hk:S.get k=some (.arr sz (ρ.h (List.map f) xs) 0 ex)) (hn:len=xs.length) (hj:hi.ev α.tm=.v (.int ik j)) (hh:j=h) (aA:h < len) (h0:xs.take h=xs0)
  (kk:ad P w0 rd n Q (.aN false l K) (bC d α (.gr k sz h)) (S.set k (some (.arr sz (ρ.h (List.map f) xs0) 0 false)))):ad P w0 rd n Q (.aN false (⟨d,g,.slice (.sl sz) x none (some hi) none⟩::l) K) α S:=by
 have e:(ρ.h (List.map f) xs).take h=ρ.h (List.map f) xs0:=by rw[ρ.eq,ρ.eq,<-List.map_take,h0]
 refine ad.op (i:=⟨d,g,.slice (.sl sz) x none (some hi) none⟩) hw (af.adk hx hk (by rw[ρ.eq,List.length_map];exact hn) hj hh aA) ?_;rw[e];exact kk
end
theorem gC8 {m:List (Nat × Nat)}{N:Nat}{ρ:Hd}{S:ae}{nl ul:Nat}{Nd:bB}{vs sh ls:List (Int × Int)}{up:List Nat}{kn:KN}(h0:S.get 0=some (gO nl ul):=by rfl) (h1:S.get 1=some (dY ρ Nd):=by rfl) (h2:S.get 2=some (bD ρ vs):=by rfl) (h3:S.get 3=some (dZ ρ up):=by rfl)
  (h4:S.get 4=some (d_ ρ sh):=by rfl) (h5:S.get 5=some (bD ρ ls):=by rfl) (h6:S.get 6=some (ec ρ kn):=by rfl):fY 8 m N S [(0,gO nl ul),(1,dY ρ Nd),(2,bD ρ vs),(3,dZ ρ up),(4,d_ ρ sh),(5,bD ρ ls),(6,ec ρ kn)] :=
 ⟨.inl ⟨_,h0,.same (oh (by omega))⟩,.inl ⟨_,h1,.same (jv _)⟩,.inl ⟨_,h2,.same (db _)⟩,.inl ⟨_,h3,.same (iN _)⟩,.inl ⟨_,h4,.same (iO _)⟩,.inl ⟨_,h5,.same (db _)⟩,.inl ⟨_,h6,.same (iP _)⟩,trivial⟩
theorem LV {j N:Nat}{ρ:Hd}{S:ae}{nl ul:Nat}{Nd:bB}{vs sh ls:List (Int × Int)}{up:List Nat}{kn:KN}{ps:List (Nat × Nat)}(h8:S.get j=some (zM ρ ps):=by rfl) (h0:S.get 0=some (gO nl ul):=by rfl) (h1:S.get 1=some (dY ρ Nd):=by rfl) (h2:S.get 2=some (bD ρ vs):=by rfl) (h3:S.get 3=some (dZ ρ up):=by rfl)
  (h4:S.get 4=some (d_ ρ sh):=by rfl) (h5:S.get 5=some (bD ρ ls):=by rfl) (h6:S.get 6=some (ec ρ kn):=by rfl):fY 8 [(8,j)] N S [(0,gO nl ul),(1,dY ρ Nd),(2,bD ρ vs),(3,dZ ρ up),(4,d_ ρ sh),(5,bD ρ ls),(6,ec ρ kn),(8,zM ρ ps)] :=
 ⟨.inl ⟨_,h0,.same (oh (by omega))⟩,.inl ⟨_,h1,.same (jv _)⟩,.inl ⟨_,h2,.same (db _)⟩,.inl ⟨_,h3,.same (iN _)⟩,.inl ⟨_,h4,.same (iO _)⟩,.inl ⟨_,h5,.same (db _)⟩,.inl ⟨_,h6,.same (iP _)⟩,.inl ⟨_,h8,.same (LU _)⟩,trivial⟩
theorem aal {j N:Nat}{ρ:Hd}{S:ae}{nl ul:Nat}{Nd:bB}{vs sh ls:List (Int × Int)}{up:List Nat}{kn:KN}{ps:List (Nat × Nat)}(h8:S.get j=some (zM ρ ps):=by rfl) (h0:S.get 0=some (gO nl ul):=by rfl) (h1:S.get 1=some (dY ρ Nd):=by rfl) (h2:S.get 2=some (bD ρ vs):=by rfl) (h3:S.get 3=some (dZ ρ up):=by rfl)
  (h4:S.get 4=some (d_ ρ sh):=by rfl) (h5:S.get 5=some (bD ρ ls):=by rfl) (h6:S.get 6=some (ec ρ kn):=by rfl):fY 9 [(9,j)] N S [(0,gO nl ul),(1,dY ρ Nd),(2,bD ρ vs),(3,dZ ρ up),(4,d_ ρ sh),(5,bD ρ ls),(6,ec ρ kn),(9,zM ρ ps)] :=
 ⟨.inl ⟨_,h0,.same (oh (by omega))⟩,.inl ⟨_,h1,.same (jv _)⟩,.inl ⟨_,h2,.same (db _)⟩,.inl ⟨_,h3,.same (iN _)⟩,.inl ⟨_,h4,.same (iO _)⟩,.inl ⟨_,h5,.same (db _)⟩,.inl ⟨_,h6,.same (iP _)⟩,.inl ⟨_,h8,.same (LU _)⟩,trivial⟩
theorem Gk:∀ {m:Nat}{up u:List Nat}{k r:Nat},gp m up k=some (u,r)->u.length=up.length
 |0,_,_,_,_,h=>by cases h
 |m+1,up,u,k,r,h=>by
  rw[gp] at h;split at h
  ·cases h
  ·split at h
   ·simp only[oI_,pI_] at h;rw[h.1]
   ·split at h
    ·cases h
    ·have:=Gk h;rwa [List.length_set] at this
theorem gK {up u:List Nat}{k r:Nat}(h:iq up k=some (u,r)):u.length=up.length:=let ⟨_,h⟩:=wX h;Gk h
theorem Jb:∀ {m:Nat}{up u:List Nat}{k r:Nat},gp m up k=some (u,r)->r < up.length
 |0,_,_,_,_,h=>by cases h
 |m+1,up,u,k,r,h=>by
  rw[gp] at h;split at h
  ·cases h
  ·rename_i p hp;split at h
   ·simp only[oI_,pI_] at h;rw[<-h.2];exact (List.getElem?_eq_some_iff.1 hp).1
   ·split at h
    ·cases h
    ·have:=Jb h;rwa [List.length_set] at this
theorem Jd {up u:List Nat}{k r:Nat}(h:iq up k=some (u,r)):r < up.length:=let ⟨_,h⟩:=wX h;Jb h
theorem o6 {N:bB}:∀ {m:Nat}{ps:List (Nat × Nat)}{s s':JS}{b:Bool},fO N m ps s=some (b,s')->s'.up.length=s.up.length
 |0,_,_,_,_,h=>by cases h
 |m+1,ps,s,s',b,h=>by
  rw[fO] at h;split at h
  ·cases h
  ·split at h
   ·simp only[oI_,pI_] at h;rw[<-h.2]
   ·split at h
    ·cases h
    ·rename_i u1 a h1;split at h
     ·cases h
     ·rename_i u2 b2 h2;have e1:=gK h1;have e2:=gK h2;split at h
      ·have:=o6 h;simp only at this;omega
      ·split at h
       ·split at h
        ·split at h
         ·split at h
          ·split at h
           ·have:=o6 h;simp only[List.length_set] at this;omega
           ·cases h
          ·simp only[oI_,pI_] at h;rw[<-h.2];simp only;omega
         ·cases h
        ·cases h
       ·have:=o6 h;simp only[List.length_set] at this;omega
section
variable {w0:World}{ρ:Hd}
theorem aam {N:bB}{vs:List (Int × Int)}{kn:KN}{m:Nat}{ps:List (Nat × Nat)}{s s':JS}{b:Bool}(hN:Gb N) (hl:s.up.length<=1099511627776) (h:fO N m ps s=some (b,s')) :
  aC Tryz.prog w0 136 [.pt 0 6 0 0,.gr 7 2 ps.length] (aq (gS ρ ⟨N,vs,s⟩ kn++[(7,zM ρ ps)]) 8) (.v (.bool b)) (aq (gS ρ ⟨N,vs,s'⟩ kn) 8):=by
 obtain⟨nl,fj⟩:∃ nl,nl=N.length:=⟨_,rfl⟩;obtain⟨ul,jX⟩:∃ ul,ul=s.up.length:=⟨_,rfl⟩;have Y8:s'.up.length=ul:=by rw[o6 h,jX]
 obtain⟨Vz,sh0,ls0⟩:=s';obtain⟨up,sh,ls⟩:=s;dsimp only at hl jX Y8;obtain⟨pl,y6⟩:∃ pl,pl=ps.length:=⟨_,rfl⟩;simp only[gS,<-fj,<-jX,Y8,<-y6,List.cons_append,List.nil_append];refine sc 8 8 ado ?_;refine gq ew ?_
 refine ad.bu (σ:=List (Nat × Nat) × Nat × JS × Nat) 8 9 [(8,7)] (fun p=>[(0,.pt 0 6 0 0),(1,.gr 8 2 p.2.1),(4,.v (.bool false))]) [] (fun p=>[(0,gO nl ul),(1,dY ρ N),(2,bD ρ vs),(3,dZ ρ p.2.2.1.up),(4,d_ ρ p.2.2.1.sh),(5,bD ρ p.2.2.1.ls),(6,ec ρ kn),(8,zM ρ p.1)])
  (fun p=>p.2.1=p.1.length/\p.2.2.1.up.length=ul/\fO N p.2.2.2 p.1 p.2.2.1=some (b,⟨Vz,sh0,ls0⟩)) (fun p=>p.2.2.2) (ps,pl,⟨up,sh,ls⟩,m) ⟨y6,jX.symm,h⟩ rfl (by exact⟨sq,rfl,LV,rfl,rfl,rfl⟩) ?_
 have ame:ul<=1099511627776:=by omega
 clear h y6 jX;rintro⟨ps,pl,⟨up,sh,ls⟩,m⟩ ⟨y6,jX,h⟩;simp only at y6 jX h;cases m with
 |zero=>cases h
 |succ m =>
  rw[fO] at h;split at h
  ·cases h
  rename_i CR;rcases yY ps with rfl|⟨p0,⟨x,y⟩,rfl⟩
  ·simp only[List.getLast?_nil,oI_,pI_,JS.mk.injEq] at h;obtain⟨rfl,rfl,rfl,rfl⟩:=h;obtain rfl:pl=0:=y6;refine gq ew ?_;refine ig ew (af.pE rfl) fun e he=>?_;refine cn (fun hb=>?_) fun hb=>?_
   ·omega
   ·refine gq ew ?_;refine ad.aH ?_;refine gq ew ?_;refine fq ?_;exact⟨[],.ao .v,gC8,rfl⟩
  ·simp only[List.getLast?_concat,List.dropLast_concat] at h CR;split at h
   ·cases h
   rename_i u1 a h1;split at h
   ·cases h
   rename_i u2 c h2;have hlen:pl=p0.length+1:=by rw[y6];simp
   have amf:p0.length < 1099511627776:=by rw[List.length_append,List.length_singleton] at CR;omega
   have hq:(p0++[(x,y)])[p0.length]?=some (x,y):=by simp
   have sd:=fN (ρ:=ρ) (f:=qF) hq;have pK:(p0++[(x,y)]).take p0.length=p0:=by simp
   obtain⟨r0,DN⟩:∃ r0,r0=p0++[(x,y)]:=⟨_,rfl⟩;rw[<-DN] at sd pK y6 ⊢;have ic:u1.length=ul:=by rw[gK h1,jX]
   have jN:u2.length=ul:=by rw[gK h2,ic]
   have c1:=wi (w0:=w0) (ρ:=ρ) (s:=⟨N,vs,⟨up,sh,ls⟩⟩) (kn:=kn) (by simp only;omega) h1;have c2:=wi (w0:=w0) (ρ:=ρ) (s:=⟨N,vs,⟨u1,sh,ls⟩⟩) (kn:=kn) (by simp only;omega) h2;simp only at c1 c2;rw[<-gE fj jX,<-gE fj ic] at c1;rw[<-gE fj ic,<-gE fj jN] at c2;refine gq ew ?_;refine ig ew (af.pE rfl) fun e he=>?_;refine cn (fun hb=>?_) fun hb=>?_;rotate_left
   ·exfalso;omega
   refine gq ew ?_;refine ig ew (af.pE rfl) fun e2 Gm=>?_;obtain⟨xi,hxi⟩:∃ xi:Int,xi=x:=⟨_,rfl⟩;obtain⟨yi,hyi⟩:∃ yi:Int,yi=y:=⟨_,rfl⟩;obtain⟨ai,mV⟩:∃ ai:Int,ai=a:=⟨_,rfl⟩;obtain⟨ci,Je⟩:∃ ci:Int,ci=c:=⟨_,rfl⟩;rw[qF] at sd;simp only at sd;rw[<-hxi,<-hyi] at sd;rw[<-hxi,<-mV] at c1;rw[<-hyi,<-Je] at c2;refine ag ew fun e3 he3=>?_;obtain⟨pn,LW⟩:∃ pn,pn=p0.length:=⟨_,rfl⟩;rw[<-LW] at sd pK hlen;have lQ:e3=((pn:Nat):Int):=by omega
   have bK:pn < pl:=by omega
   refine ad.fe rfl (fun T=>af.jM rfl rfl lQ bK) ?_;refine ad.fe rfl (fun T=>af.k_ rfl rfl (by decide) (by decide)) ?_;refine ad.iJ rfl (a6.pP rfl rfl sd rfl) ?_;refine ad.iJ rfl (a6.kA false c1 rfl (.inl (by decide)) (cW (by decide)) (DM) E6 (cW (by decide)) (pT (by decide) .v) .v) ?_;refine gq ew ?_;refine ad.fe rfl (fun T=>af.jM rfl rfl lQ bK) ?_;refine ad.fe rfl (fun T=>af.k_ rfl rfl (by decide) (by decide)) ?_;refine ad.iJ rfl (a6.pP rfl rfl sd rfl) ?_;refine ad.iJ rfl (a6.kA false c2 rfl (.inl (by decide)) (cW (by decide)) (DM) E6 (cW (by decide)) (pT (by decide) .v) .v) ?_;refine gq ew ?_;refine ad.ahE (f:=qF) (xs0:=p0) rfl rfl rfl y6 rfl lQ bK pK ?_;refine gq ew ?_;refine cn (fun cy=>?_) fun cy=>?_
   ·rw[if_pos (by omega)] at h;refine gq ew ?_;refine ad.aO (σ:=List (Nat × Nat) × Nat × JS × Nat) (p0,pn,⟨u2,sh,ls⟩,m) [(8,8)] ⟨LW,jN,h⟩ ?_ (by exact⟨sq,rfl,LV,rfl,rfl,rfl⟩);exact Nat.lt_succ_self _
   rw[if_neg (by omega),<-mV,<-Je] at h;have c3:=Xi (w0:=w0) (ρ:=ρ) (s:=⟨N,vs,⟨u2,sh,ls⟩⟩) (kn:=kn) (a:=a) (b:=c) (by have:=Jd h2;simp only;omega);simp only at c3;rw[<-gE fj jN,<-gE fj (by rw[List.length_set,jN]),<-mV,<-Je] at c3;obtain⟨U,hU⟩:∃ U,U=u2.set c a:=⟨_,rfl⟩;obtain⟨SH,rh⟩:∃ SH,SH=jE sh a c:=⟨_,rfl⟩;obtain⟨LS,fD⟩:∃ LS,LS=iZ ls a c:=⟨_,rfl⟩;have VA:U.length=ul:=by rw[hU,List.length_set,jN]
   rw[<-hU,<-rh,<-fD] at c3 h;clear hU rh fD;refine gq ew ?_;refine ad.look (ρ:=ρ) (f:=iv) (kv:=sh) rfl rfl rfl rfl (fun si Jf=>?_) (fun Jf=>?_)
   ·refine gq ew ?_;refine ad.look (ρ:=ρ) (f:=iv) (kv:=sh) rfl rfl rfl rfl (fun sk DO=>?_) (fun DO=>?_)
    ·rw[Jf,DO] at h;simp only at h;split at h;rotate_left
     ·cases h
     rename_i t l t' l' Gj zF;split at h;rotate_left
     ·cases h
     rename_i h00;obtain⟨sn,ZN⟩:∃ sn:Nat,sn=si.toNat:=⟨_,rfl⟩;obtain⟨Gn,zz⟩:∃ n:Nat,n=sk.toNat:=⟨_,rfl⟩;rw[<-ZN] at Gj;rw[<-zz] at zF;have q1:si=(sn:Int):=by omega
     have q2:sk=(Gn:Int):=by omega
     have g1:=hN _ _ _ Gj;have g2:=hN _ _ _ zF;have c4:=Xh (w0:=w0) (ρ:=ρ) (s:=⟨N,vs,⟨u2,sh,ls⟩⟩) (kn:=kn) Gj zF g1.2.2 g2.2.2 (by omega) (by omega);rw[<-gE fj jN,<-q1,<-q2] at c4;obtain⟨al,aK⟩:∃ al,al=py t t':=⟨_,rfl⟩;rw[<-aK] at c4 h;clear aK;refine gq ew ?_;refine ad.op rfl (af.kA c4 rfl (Nat.le_of_ble_eq_true rfl) (cW (by decide)) (mu) (cW (by decide)) (zN (by decide) .v .v) .v) ?_;cases al with
     |false =>
      rw[if_neg (by decide)] at h;simp only[oI_,pI_,JS.mk.injEq] at h;obtain⟨rfl,rfl,rfl,rfl⟩:=h;refine gq ew ?_;refine ad.cP ?_;refine gq ew ?_;refine fq ?_;exact⟨[],.ao .v,gC8,rfl⟩
     |true =>
      rw[if_pos rfl] at h;split at h;rotate_left
      ·cases h
      rename_i hll;have Vm:Pure (aX ρ iW false l):=eR fun x _ a ha=>by
       obtain rfl:=List.mem_singleton.1 ha;exact .v
      have i1:sn < nl:=by rw[fj];exact (List.getElem?_eq_some_iff.1 Gj).1
      have i2:Gn < nl:=by rw[fj];exact (List.getElem?_eq_some_iff.1 zF).1
      have r1:=fN (ρ:=ρ) (f:=r_ ρ) Gj;have r2:=fN (ρ:=ρ) (f:=r_ ρ) zF;rw[r_] at r1 r2;simp only at r1 r2;refine gq ew ?_;refine ad.op rfl (af.jM rfl rfl q1 i1) ?_;refine ad.op rfl (af.quiet rfl) ?_;refine og ew (af.pP rfl rfl r1 rfl) ?_;refine ad.int rfl (af.len rfl) fun q CV=>?_;rw[aE] at CV;refine gq ew ?_
      refine ad.bu (σ:=Int × List (Nat × Nat) × Nat) 9 10 [(9,8)] (fun p=>[(0,.pt 0 6 0 0),(1,.gr 9 2 p.2.2),(4,.v (.bool false)),(6,iv ai),(7,iv ci),(10,iv sk),(74,aX ρ iW false l),(75,iv q),(76,iv p.1)]) [] (fun p=>[(0,gO nl ul),(1,dY ρ N),(2,bD ρ vs),(3,dZ ρ u2),(4,d_ ρ sh),(5,bD ρ ls),(6,ec ρ kn),(9,zM ρ p.2.1)])
       (fun p=>∃ k:Nat,p.1=k/\k<=l.length/\p.2.1=p0++(l.zip l').take k/\p.2.2=p.2.1.length) (fun p=>l.length - p.1.toNat) (0,p0,pn) ⟨0,rfl,by simp,by simp,LW⟩ rfl (by exact⟨sq,rfl,aal,rfl,rfl,rfl⟩) ?_
      rintro⟨ki,pk,kl⟩ ⟨k,hki,hk,VB,uZ⟩;simp only at hki hk VB uZ;have amg:kl<=pn+6:=by
       rw[uZ,VB,List.length_append,List.length_take,List.length_zip];omega
      refine gq ew ?_;refine cn (fun jo=>?_) fun jo=>?_
      ·have dV:k < l.length:=by omega
       obtain⟨u,hu⟩:∃ u,l[k]?=some u:=⟨_,List.getElem?_eq_getElem dV⟩;obtain⟨v,hv⟩:∃ v,l'[k]?=some v:=⟨_,List.getElem?_eq_getElem (by omega)⟩;refine gq ew ?_;refine og ew (af.ind rfl rfl (aY (l:=l) hki hu) (aZ fun _=>rfl)) ?_;refine ad.op rfl (af.jM rfl rfl q2 i2) ?_;refine ad.op rfl (af.quiet rfl) ?_;refine og ew (af.pP rfl rfl r2 rfl) ?_;refine og ew (af.ind rfl rfl (aY (l:=l') hki hv) (aZ fun _=>rfl)) ?_;refine ad.app (x:=(u,v)) (f:=qF) rfl rfl rfl uZ (fun _=>rfl) rfl rfl rfl rfl (by omega) fun s' eK iG xc=>?_;refine gq ew ?_;refine ag ew fun k2 dP=>?_;refine ad.aO (σ:=Int × List (Nat × Nat) × Nat) (k2,s',eK) [(9,10)] ⟨k+1,by simp only;omega,by omega,?_,xc⟩ ?_ (by exact⟨sq,rfl,aal,rfl,rfl,rfl⟩)
       ·simp only;rw[iG,VB,List.append_assoc,List.take_add_one,List.getElem?_zip_eq_some (z:=(u,v)) |>.2 ⟨hu,hv⟩]
        rfl
       ·simp only;omega
      ·have dV:k=l.length:=by omega
       have ahF:pk=p0++l.zip l':=by
        rw[VB,List.take_of_length_le (by rw[List.length_zip];omega)]
       rw[<-ahF] at h;refine gq ew ?_;refine ad.aH ?_;refine gq ew ?_;refine og ew (af.kA c3 rfl (Nat.le_of_ble_eq_true rfl) (cW (by decide)) (mu) (cW (by decide)) (zN (by decide) .v .v) (.aG fun _ h=>by cases h)) ?_;refine ad.aO (σ:=List (Nat × Nat) × Nat × JS × Nat) (pk,kl,⟨U,SH,LS⟩,m) [(8,9)] ⟨uZ,VA,h⟩ ?_ (by exact⟨sq,rfl,LV,rfl,rfl,rfl⟩);exact Nat.lt_succ_self _
    ·rw[Jf,DO] at h;simp only at h;refine gq ew ?_;refine og ew (af.kA c3 rfl (Nat.le_of_ble_eq_true rfl) (cW (by decide)) (mu) (cW (by decide)) (zN (by decide) .v .v) (.aG fun _ h=>by cases h)) ?_;refine ad.aO (σ:=List (Nat × Nat) × Nat × JS × Nat) (p0,pn,⟨U,SH,LS⟩,m) [(8,8)] ⟨LW,VA,h⟩ ?_ (by exact⟨sq,rfl,LV,rfl,rfl,rfl⟩);exact Nat.lt_succ_self _
   ·rw[Jf] at h;simp only at h;refine gq ew ?_;refine ad.look (ρ:=ρ) (f:=iv) (kv:=sh) rfl rfl rfl rfl (fun sk DO=>?_) (fun DO=>?_)
    ·refine gq ew ?_;refine og ew (af.kA c3 rfl (Nat.le_of_ble_eq_true rfl) (cW (by decide)) (mu) (cW (by decide)) (zN (by decide) .v .v) (.aG fun _ h=>by cases h)) ?_;refine ad.aO (σ:=List (Nat × Nat) × Nat × JS × Nat) (p0,pn,⟨U,SH,LS⟩,m) [(8,8)] ⟨LW,VA,h⟩ ?_ (by exact⟨sq,rfl,LV,rfl,rfl,rfl⟩);exact Nat.lt_succ_self _
    ·refine gq ew ?_;refine og ew (af.kA c3 rfl (Nat.le_of_ble_eq_true rfl) (cW (by decide)) (mu) (cW (by decide)) (zN (by decide) .v .v) (.aG fun _ h=>by cases h)) ?_;refine ad.aO (σ:=List (Nat × Nat) × Nat × JS × Nat) (p0,pn,⟨U,SH,LS⟩,m) [(8,8)] ⟨LW,VA,h⟩ ?_ (by exact⟨sq,rfl,LV,rfl,rfl,rfl⟩);exact Nat.lt_succ_self _
end
end
section
set_option maxRecDepth 100000
open Go.RowKit Go.Maps Go.Sort Go.Shelf
theorem Jg {H:Type}(x:Lit × DataW H):∀ l,(DataW.insert x l).Perm (x::l)
 |[]=>.refl _
 |y::r=>by
  rw[DataW.insert];split
  ·exact .refl _
  ·exact ((Jg x r).cons y).trans (.swap x y r)
theorem zO {H:Type}:∀ l:List (Lit × DataW H),(l.foldr DataW.insert []).Perm l
 |[]=>.refl _
 |x::l=>by rw[List.foldr_cons];exact (Jg x _).trans ((zO l).cons x)
def Jh:Value->Option (DataW Unit × List MemPlace):=fun _=>some (.nil,[])
theorem aao {P:Program}{w:World}{b:Nat}{kt:TypeId}{entries:Array MapEntry}{ks:List Int}(hk:P.underlying kt=some (.int .i64)) (h1:w.heap[b]?=some (.map entries entries.size)) (hs:entries.size=ks.length)
  (Tq:∀ (i:Nat) (x:Int),ks[i]?=some x->∃ e:MapEntry,entries[i]?=some e/\e.key=encZ x) (hb:∀ (i:Nat) (e:MapEntry),entries[i]?=some e->e.born=i) (DC:ks.Nodup) (hr:∀ x ∈ ks,(Lit.int .i64 x).wf=true) (hl:ks.length<=maxLen) :
  ∃ D:DataW Unit,w.ownsMap P kt Jh b ks.length D/\(intKeys D).Perm ks/\Maps.size D=ks.length:=by
 have e1:entries.toList.map (·.key)=ks.map encZ:=by
  apply List.ext_getElem?;intro i;rw[List.getElem?_map,List.getElem?_map,Array.getElem?_toList];cases hx:ks[i]? with
  |none =>
   have:entries[i]?=none:=by grind
   rw[this];rfl
  |some x =>
   obtain⟨e,h2,h3⟩:=Tq i x hx;rw[h2,Option.map_some,Option.map_some,h3]
 have e2:entries.toList.map (·.born)=List.range entries.size:=by
  apply List.ext_getElem?;intro i;rw[List.getElem?_map,Array.getElem?_toList];by_cases hi:i < entries.size
  ·grind
  ·grind
 have e3:∀ x ∈ entries.toList,∃ z,x.key=encZ z/\z ∈ ks:=fun x hx=>by
  have:x.key ∈ entries.toList.map (·.key):=List.mem_map.2 ⟨x,hx,rfl⟩;rw[e1] at this;obtain⟨z,hz,e⟩:=List.mem_map.1 this;exact⟨z,e.symm,hz⟩
 have e4:∀ x ∈ entries.toList,∀ z,x.key=encZ z->WideElems.rd P kt Jh x=some (.int .i64 z,.nil):=fun x hx z hz=>by
  obtain⟨z',h2,h3⟩:=e3 x hx;obtain rfl:z=z':=encZ_inj (by grind);unfold WideElems.rd;rw[hz,keyOf_int_mk hk (hr z h3)]
  rfl
 have hF:WideElems.Fit P kt Jh entries entries.size:=by
  refine⟨by omega,⟨fun x hx=>?_,?_,?_⟩,fun x hx=>?_⟩
  ·have:x.born ∈ entries.toList.map (·.born):=List.mem_map.2 ⟨x,hx,rfl⟩;rw[e2] at this;exact List.mem_range.1 this
  ·grind
  ·grind
  ·grind
 refine⟨_,⟨entries,entries.size,h1,hF,by omega,rfl⟩,?_,?_⟩
 ·show (((entries.toList.map (WideElems.rg P kt Jh)).foldr DataW.insert []).map fun p=>Go.intOf p.1).Perm ks;refine ((zO _).map _).trans ?_;rw[List.map_map];have:entries.toList.map ((fun p=>Go.intOf p.1) ∘ WideElems.rg P kt Jh)=ks:=by
   have h5:entries.toList.map ((fun p=>Go.intOf p.1) ∘ WideElems.rg P kt Jh)=(entries.toList.map (·.key)).map fun v=>match v with|.int _ z=>z|_=>0:=by
    rw[List.map_map];refine List.map_congr_left fun x hx=>?_;obtain⟨z,h2,h3⟩:=e3 x hx;simp only[Function.comp];unfold WideElems.rg;rw[e4 x hx z h2,h2]
    rfl
   rw[h5,e1,List.map_map];conv=>rhs;rw[<-List.map_id ks]
   exact List.map_congr_left fun x _=>rfl
  rw[this]
 ·show ((entries.toList.map (WideElems.rg P kt Jh)).foldr DataW.insert []).length=ks.length;rw[(zO _).length_eq,List.length_map,Array.length_toList,hs]
theorem rQ:∀ {l:List Int},l.Pairwise (fun a b=>a<=b)->l.Nodup->uH l
 |[],_,_=>trivial
 |x::l,h,hn=>by
  rw[List.pairwise_cons] at h;rw[List.nodup_cons] at hn;refine⟨fun y hy=>?_,rQ h.2 hn.2⟩;have:=h.1 y hy;have:x ≠ y:=fun e=>hn.1 (by grind);omega
theorem Ts {ss ks L:List Int}(hp:ss.Perm ks) (DC:ks.Nodup) (hL:uH L) (hm:∀ v,v ∈ L ↔ v ∈ ks):ss.mergeSort (fun x y=>decide (x<=y))=L:=by
 have fU:=(List.mergeSort_perm ss (fun x y=>decide (x<=y))).trans hp;refine Ca (rQ ?_ (fU.nodup_iff.2 DC)) hL fun x=>?_
 ·have:=List.pairwise_mergeSort (le:=fun x y:Int=>decide (x<=y)) (fun a b c h1 h2=>by grind) (fun a b=>by grind) ss;exact this.imp fun h=>by grind
 ·grind
section
variable {w0:World}{ρ:Hd}
theorem aap (m:Nat):AnyZI.SortsIn Tryz.prog Tryz.Bo Fence.wide m :=
 ⟨fun qe off cap ss W hH yG bS=>callsIn_wide.2 (AnyM.slices_Sort_int Tryz.U8 qe off cap ss W hH yG bS),
  fun p cap W=>callsIn_wide.2 (AnyM.slices_Sort_int_none Tryz.U8 p cap W)⟩
theorem Tt {S:ae}{kb km:Nat}{ex:Bool}{vs:List (Int × Int)}{L:List Int}(hbx:S.get kb=some (.arr 1 [[.mp km]] 0 ex)) (hmp:S.get km=some (bD ρ vs)) (DC:(vs.map (·.1)).Nodup) (hr:∀ x ∈ vs.map (·.1),0<=x/\x<=1099511627776) (hl:vs.length<=1000000000000) (hL:uH L) (hm:∀ v,v ∈ L ↔ v ∈ vs.map (·.1)) :
  aC Tryz.prog w0 199 [.fn (.func 237) [] [.pt kb 1 0 0]] S (aX ρ aP false L) S:=by
 refine⟨Tryz.call199,fun F m A g args' w hF hS hA=>?_⟩;obtain⟨v0,hv0,DN⟩:∃ v0,args'=#[v0]/\aF g w (.fn (.func 237) [] [.pt kb 1 0 0]) v0:=by
  obtain⟨h1,h2⟩:=hA;have h3:args'.size=1:=h1;refine⟨args'[0],?_,h2 0 _ _ rfl (Array.getElem?_eq_getElem (by omega))⟩;apply Array.ext (by grind);intro i hi hj;have:i=0:=by omega
  subst this
  rfl
 obtain⟨cs,ds,rfl,iw,eQ⟩:=vN DN;obtain rfl:cs=#[]:=Array.eq_empty_of_size_eq_zero iw.1;obtain⟨p,hp,Qd⟩:∃ p,ds=#[p]/\aF g w (.pt kb 1 0 0) p:=by
  obtain⟨h1,h2⟩:=eQ;have h3:ds.size=1:=h1;refine⟨ds[0],?_,h2 0 _ _ rfl (Array.getElem?_eq_getElem (by omega))⟩;apply Array.ext (by grind);intro i hi hj;have:i=0:=by omega
  subst this
  rfl
 subst hp hv0;obtain⟨rfl,aK⟩:p=.pointer (some ⟨g.ob kb,0*1+0,none⟩)/\g.al kb:=by cases Qd with|pt hk=>exact⟨rfl,hk⟩
 obtain⟨bA,blt,cs,ty,b1,b2,b3,b4,b5,b6,b7⟩:=hS.bT kb _ hbx aK;obtain⟨x,hx,dR⟩:=(b5 0 _ rfl).2 0 _ rfl;obtain⟨rfl,ahG⟩:=n0 dR;obtain⟨mA,mlt,hmb⟩:=hS.bT km _ hmp ahG;obtain⟨entries,m1,m2,m3,m4⟩:=hmb;rw[ρ.eq] at m2 m3;have hlen:entries.size=(vs.map (·.1)).length:=by grind[dh]
 obtain⟨D,ahH,adp,Hg⟩:=aao (ks:=vs.map (·.1)) Tryz.underlying3 m1 hlen (fun i z hz=>by
   rw[List.getElem?_map,Option.map_eq_some_iff] at hz;obtain⟨q,hq,rfl⟩:=hz;obtain⟨e,h2,h3,_⟩:=m3 i (cE q.1) (iv q.2) (by grind[dh]);exact⟨e,h2,h3⟩) m4 DC (fun z hz=>by
   have:=hr z hz;have e1:IntKind.i64.min=-9223372036854775808:=by decide
   have e2:IntKind.i64.max=9223372036854775807:=by decide
   simp only[Lit.wf,e1,e2,Bool.and_eq_true,decide_eq_true_eq]
   omega) (by rw[List.length_map];have:maxLen=9223372036854775807:=by decide
              omega)
 have lS:w.cell? ⟨g.ob kb,0,none⟩=some (.map (some (g.ob km))):=by
  simp only[World.cell?,b1];simpa using hx
 have ahI:SeqGives Fence.wide 2 Tryz.prog 237 #[.pointer (some ⟨g.ob kb,0,none⟩)] encZ (fun ss=>ss.Perm (intKeys D)) (Maps.size D) w :=
  AnyZI.keys_gives (ρ:=Tryz.FL) { Tryz.acu with } Fence.wide _ trivial rfl (by omega) (g.ob kb) (g.ob km) _ D w blt lS ahH
 have amh:maxLen=9223372036854775807:=by decide
 have cS:=AnyZI.sorted_in Tryz.WB Fence.wide 5 trivial trivial trivial trivial rfl (by omega) (aap _) (enters_of Tryz.func236 (by kernel_rfl) rfl) 237 #[.pointer (some ⟨g.ob kb,0,none⟩)] trivial (enters_of Tryz.func237 (by kernel_rfl) rfl) _ (Maps.size D) (by grind) (by grind) w ahI;refine CallsIn.RO hF ((callsIn_wide.1 cS).mono ?_);rintro e w' ⟨v,ss,rfl,hss,je,tt,hb⟩;obtain⟨hE,cZ⟩:=hS.below hb;have VC:=Ts (hss.trans adp) DC hL hm;rw[VC] at je;have IM:ss.length=L.length:=by rw[<-VC,List.length_mergeSort]
 rw[IM] at je;refine⟨v,_,rfl,?_,cZ,hE⟩;rw[bQ];rcases je.2 with ⟨rfl,h0⟩|⟨gb,cap,cur,rfl,q1,q2,q3,q4,q5,q6⟩
 ·obtain rfl:L=[]:=List.eq_nil_of_length_eq_zero h0;exact .nil (fun h=>by grind)
 ·by_cases bU:L=[]
  ·grind
  ·have ahJ:L.map aP ≠ []:=by grind
   have jz:∀ i (h:i < L.length),w'.cell? ⟨gb,i,none⟩=some (.int .i64 L[i]):=fun i h=>by
    simp only[World.cell?,q2];have h1:(cur.toList.take (L.length*1))[i]?=(L.map encZ)[i]?:=by grind
    rw[List.getElem?_take_of_lt (by omega),Array.getElem?_toList,List.getElem?_map,List.getElem?_eq_getElem h,Option.map_some] at h1;rw[h1]
    rfl
   have:=aF.sl (g:=⟨g.ob,g.cp,g.al,fun b q=>g.fz b q\/(w.heap.size<=b/\b < w'.heap.size),g.fo⟩) (w:=w') (ex:=false) (rows:=L.map aP) (b:=gb) (o:=0) (sz:=1) (c:=cap) (val:=fun i j=>.int .i64 (L.getD i 0)) ahJ (fun h=>by grind) (by grind) ?_ ?_ ?_
   ·grind
   ·intro i row Ji;simp only[List.getElem?_map,Option.map_eq_some_iff] at Ji;obtain⟨x,_,rfl⟩:=Ji
    rfl
   ·grind[aP]
   ·intro i j row a Ji ha;simp only[List.getElem?_map,Option.map_eq_some_iff] at Ji;obtain⟨x,hx,rfl⟩:=Ji;have hj:j=0:=by grind[aP]
    subst hj;simp only[aP,List.getElem?_cons_zero,oI_] at ha;subst ha;rw[List.getD_eq_getElem?_getD,hx];exact .v
end
end
end Go.Proofs.YtbpabjmnhggajaaGreat
