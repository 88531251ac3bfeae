import Derived.RecoverIn
import Derived.TacticsIn
import Derived.TacticsInMore
import Derived.Test.YtbpabjmnhggajaaGreatProg
import Derived.Test.YtbpabjmnhggajaaGreatOs44
namespace Go.Proofs.YtbpabjmnhggajaaGreat
set_option linter.unusedVariables false
set_option linter.unusedSimpArgs false
open Go.RowKit
section
set_option maxRecDepth 100000
attribute [local irreducible] ah aC af ad
def rU (e:List Bd):Prop:=∀ b ∈ e,b.t.ok
theorem rU.u_ {e:List Bd}(h:rU e) {v:Int}{u:Tm}(hu:xp e v=some u):u.ok:=by
 unfold xp at hu;cases hf:e.find? fun b=>b.v == v with
 |none=>rw[hf] at hu;cases hu
 |some b=>rw[hf] at hu;obtain rfl:=oJ_ hu;exact h b (List.mem_of_find?_eq_some hf)
end
section
set_option maxRecDepth 100000
attribute [local irreducible] ah aC af ad
end
section
set_option maxRecDepth 100000
attribute [local irreducible] ah aC af ad
def adu:FQ 238 Tryz.f238:=a_ Tryz.func238 Tryz.call238
def ahZ:List Nat:=[2,0]
def VV:FQ 201 Tryz.f201:=a_ Tryz.func201 Tryz.call201
def iY:List Nat:=[0,7,4,55,1,5,8,6,21,40,54,56,53,9,10]
theorem aaS {S:ae}{ρ:Hd}{v:Int}:aR S (.agg [.v (.int .i64 1),.v (.int .i64 v),.v (.string ⟨#[]⟩),.sl true []]) (tm ρ (vr v)):=by
 refine .agg rfl fun i a a' h1 h2=>?_
 match i,h1,h2 with
 |0,h1,h2=>obtain rfl:=oJ_ h1;obtain rfl:=oJ_ h2;exact .refl _
 |1,h1,h2=>obtain rfl:=oJ_ h1;obtain rfl:=oJ_ h2;exact .refl _
 |2,h1,h2=>obtain rfl:=oJ_ h1;obtain rfl:=oJ_ h2;exact .refl _
 |3,h1,h2 =>
  obtain rfl:=oJ_ h1;obtain rfl:=oJ_ h2;rw[vr,tl,bQ];exact aR.wk
def uc:Option Tm->List AV
 |none=>[iv 0,iv 0,.v (.string ⟨#[]⟩),.sl true []]
 |some x=>lr x
theorem Xt (x:Option Tm):(uc x).length=4:=by cases x with|none=>rfl|some x=>exact AJ x
theorem Xu (l:List Tm):List.map uc (l.map some)=List.map lr l:=by rw[List.map_map];rfl
theorem VW {N:Nat}{ρ:Hd}{S:ae}{nl ul:Nat}{Nd:bB}{vs sh ls:List (Int × Int)}{up:List Nat}{kn:KN}(h0:S.get 0=some (gO nl ul):=by rfl) (h1:S.get 1=some (dY ρ Nd):=by rfl) (h2:S.get 2=some (bD ρ vs):=by rfl) (h3:S.get 3=some (dZ ρ up):=by rfl)
  (h4:S.get 4=some (d_ ρ sh):=by rfl) (h5:S.get 5=some (bD ρ ls):=by rfl) (h6:S.get 6=some (ec ρ kn):=by rfl):fY 7 [] N S (gX ρ nl ul Nd vs up sh ls kn):=gC h0 h1 h2 h3 h4 h5 h6
theorem JP {f:Nat->List Nat->Option (Tm × List Nat)}(hf:∀ r u t u',f r u=some (t,u')->u'.length=u.length):∀ (l:List Nat) {up dA:List Nat}{ts:List Tm},vx f l up=some (ts,dA)->dA.length=up.length/\ts.length=l.length
 |[],up,dA,ts,h=>by grind[vx]
 |x::l,up,dA,ts,h=>by
  rw[vx] at h;split at h
  ·grind
  ·rename_i u r hr;have e1:=gK hr;split at h
   ·grind
   ·rename_i t u1 ht;have e2:=hf _ _ _ _ ht;split at h
    ·grind
    ·rename_i ts1 u2 hl;obtain⟨e3,e4⟩:=JP hf l hl;simp only[oI_,pI_] at h;obtain⟨rfl,rfl⟩:=h;exact⟨by omega,by grind⟩
theorem xA {N:bB}{sh ls:List (Int × Int)}:∀ (m:Nat) (r:Nat) (up:List Nat) (t:Tm) (dA:List Nat),vz N sh ls m r up=some (t,dA)->dA.length=up.length
 |0,_,_,_,_,h=>by cases h
 |m+1,r,up,t,dA,h=>by
  rw[vz] at h;split at h
  ·grind
  ·split at h
   ·split at h
    ·grind
    ·split at h
     ·split at h
      ·grind
      ·split at h
       ·grind
       ·rename_i hl;have:=(JP (xA m) _ hl).1;simp only[oI_,pI_] at h;obtain⟨rfl,rfl⟩:=h;exact this
     ·grind
   ·grind
theorem ad.aaT {P:Program}{w0:World}{rd:Bool}{n:Nat}{Q:Exit->AA->ae->Prop}{α:AA}{S:ae}{id:Nat}{b:QC}{K:List ff}(h:ad P w0 rd n Q (.out .normal (.seq b::K)) α S):ad P w0 rd n Q (.out (.exit id) (.qe id::.seq b::K)) α S:=by
 simp only[ad,dx,Nat.beq_refl] at h ⊢;exact h
theorem JQ (x:Option Tm) {B:Nat}:∀ a ∈ uc x,dz B a:=by
 intro a ha;cases x with
 |some x=>exact Pure.aV (wO x a ha)
 |none =>
  simp only[uc,List.mem_cons,List.not_mem_nil,or_false] at ha;rcases ha with rfl|rfl|rfl|rfl<;>first|exact .v|exact AF
theorem Xv {B:Nat}{ρ:Hd}(met:List (Option Tm)) {ex:Bool}:fR B (.arr 4 (ρ.h (List.map uc) met) 0 ex):=by
 show ∀ row ∈ ρ.h (List.map uc) met,∀ a ∈ row,dz B a;rw[ρ.eq];intro row hr a ha;obtain⟨x,_,rfl⟩:=List.mem_map.1 hr;exact JQ x a ha
theorem aaU {N:Nat}{ρ:Hd}{S:ae}{nl ul:Nat}{Nd:bB}{vs sh ls:List (Int × Int)}{up:List Nat}{kn:KN}{t:Tm}{met:List (Option Tm)}(h7:S.get 7=some (.arr 4 [uc none] 0 true):=by rfl) (h8:S.get 8=some (.arr 4 [iL ρ t] 0 true):=by rfl) (h9:S.get 9=some (.arr 4 (ρ.h (List.map uc) met) 0 true):=by rfl) (h0:S.get 0=some (gO nl ul):=by rfl) (h1:S.get 1=some (dY ρ Nd):=by rfl) (h2:S.get 2=some (bD ρ vs):=by rfl) (h3:S.get 3=some (dZ ρ up):=by rfl)
  (h4:S.get 4=some (d_ ρ sh):=by rfl) (h5:S.get 5=some (bD ρ ls):=by rfl) (h6:S.get 6=some (ec ρ kn):=by rfl):fY 10 [] N S [(0,gO nl ul),(1,dY ρ Nd),(2,bD ρ vs),(3,dZ ρ up),(4,d_ ρ sh),(5,bD ρ ls),(6,ec ρ kn),(7,.arr 4 [uc none] 0 true),(8,.arr 4 [iL ρ t] 0 true),(9,.arr 4 (ρ.h (List.map uc) met) 0 true)] :=
 ⟨.inl ⟨_,h0,.same (oh (by omega))⟩,.inl ⟨_,h1,.same (jv _)⟩,.inl ⟨_,h2,.same (db _)⟩,.inl ⟨_,h3,.same (iN _)⟩,.inl ⟨_,h4,.same (iO _)⟩,.inl ⟨_,h5,.same (db _)⟩,.inl ⟨_,h6,.same (iP _)⟩,.inl ⟨_,h7,.same (fun row hr a ha=>by obtain rfl:=List.mem_singleton.1 hr;exact JQ none a ha)⟩,
  .inl ⟨_,h8,.same (fun row hr a ha=>by grind[Pure.aV,qn])⟩,.inl ⟨_,h9,.same (Xv _)⟩,trivial⟩
section
variable {w0:World}{ρ:Hd}
theorem VX (v:Int):ah Tryz.prog w0 238 [iv v] (tm ρ (vr v)):=by
 refine st adu ahZ (aT _) ?_
 repeat' (first
  |(refine fq ?_))
 exact aaS
theorem JR {N:bB}{vs sh ls:List (Int × Int)}{kn:KN}{nl ul:Nat}(hN:Gb N) (fj:nl=N.length) (jX:ul<=1099511627776):∀ (m:Nat) {r:Nat}{up dA:List Nat}{t:Tm},up.length=ul->vz N sh ls m r up=some (t,dA) ->
  aC Tryz.prog w0 201 [.pt 0 6 0 0,iv r] (aq (gX ρ nl ul N vs up sh ls kn) 7) (tm ρ t) (aq (gX ρ nl ul N vs dA sh ls kn) 7):=by
 intro m
 induction m with
 |zero=>intro r up dA t _ h;cases h
 |succ m ih =>
  intro r up dA t hu h;rw[vz] at h;obtain⟨ri,Lm⟩:∃ ri:Int,ri=r:=⟨_,rfl⟩;rw[<-Lm] at h ⊢;split at h
  ·rename_i hsh;simp only[oI_,pI_] at h;obtain⟨rfl,rfl⟩:=h;refine sc 7 7 VV ?_;unfold gX;refine gq iY ?_;refine ad.look (ρ:=ρ) (f:=iv) (kv:=sh) rfl rfl rfl rfl (fun k hk=>?_) (fun hk=>?_)
   ·grind
   obtain⟨vv,Qz⟩:∃ vv,vv=(aB ls ri).getD 0:=⟨_,rfl⟩;rw[<-Qz];refine gq iY ?_;refine ad.iM (ρ:=ρ) (f:=iv) (kv:=ls) rfl rfl rfl rfl (fun v hv=>?_) (fun hv=>?_)
   ·rw[hv] at Qz;obtain rfl:vv=v:=Qz;refine gq iY ?_;refine og iY (af.aw rfl (VX (ρ:=ρ) vv) ⟨.v,trivial⟩) ?_;refine fq ?_;exact⟨[],.ao (Pure.aV (aT (vr vv))),VW,rfl⟩
   ·rw[hv] at Qz;obtain rfl:vv=0:=Qz;refine gq iY ?_;refine og iY (af.aw rfl (VX (ρ:=ρ) 0) ⟨.v,trivial⟩) ?_;refine fq ?_;exact⟨[],.ao (Pure.aV (aT (vr 0))),VW,rfl⟩
  ·rename_i k hsh;split at h;rotate_left
   ·grind
   rename_i h00;obtain⟨Gn,zz⟩:∃ n:Nat,n=k.toNat:=⟨_,rfl⟩;rw[<-zz] at h;split at h
   ·grind
   rename_i t0 l Gx;split at h;rotate_left
   ·grind
   rename_i hla;have q2:k=(Gn:Int):=by omega
   have g2:=hN _ _ _ Gx;have i2:Gn < nl:=by grind
   have r2:=fN (ρ:=ρ) (f:=r_ ρ) Gx;obtain⟨tk,ti,tn0,ta⟩:=t0;rw[r_] at r2;simp only at r2 hla g2 h;have Vm:Pure (aX ρ iW false l):=eR fun x _ a ha=>by
    obtain rfl:=List.mem_singleton.1 ha;exact .v
   refine sc 7 7 VV ?_;unfold gX;refine gq iY ?_;refine ad.look (ρ:=ρ) (f:=iv) (kv:=sh) rfl rfl rfl rfl (fun k2 hk=>?_) (fun hk=>?_);rotate_left
   ·grind
   rw[hsh] at hk;obtain rfl:=oJ_ hk;refine gq iY ?_;refine ad.op rfl (af.jM rfl rfl q2 i2) ?_;refine ad.op rfl (af.quiet rfl) ?_;refine og iY (af.pP rfl rfl r2 rfl) ?_;refine lg iY fun q1 x9=>?_;refine cn (fun b8=>?_) fun b8=>?_
   ·rw[if_pos (by omega)] at h;simp only[oI_,pI_] at h;obtain⟨rfl,rfl⟩:=h;refine gq iY ?_;refine fq ?_;exact⟨[],.ao (Pure.aV (aT ⟨tk,ti,tn0,ta⟩)),VW,rfl⟩
   rw[if_neg (by omega)] at h;split at h
   ·grind
   rename_i ts u hex;simp only[oI_,pI_] at h;obtain⟨rfl,rfl⟩:=h;refine gq iY ?_;refine lg iY fun q3 Ge=>?_;obtain⟨an,han⟩:∃ an,an=ta.length:=⟨_,rfl⟩;rw[<-han] at Ge;refine ad.UO (m:=an) ρ uc none rfl rfl rfl Ge rfl (by omega) (by omega) fun ah0 adv=>?_;refine gq iY ?_;refine ad.op rfl (af.jM rfl rfl q2 i2) ?_;refine ad.op rfl (af.quiet rfl) ?_;refine og iY (af.pP rfl rfl r2 rfl) ?_;refine ad.int rfl (af.len rfl) fun q CV=>?_;rw[aE] at CV;refine gq iY ?_;have aK:an=l.length:=by omega
   rw[aK] at adv
   refine ad.bu (σ:=Int × List Nat × List (Option Tm)) 10 10 [] (fun p=>[(0,.pt 0 6 0 0),(4,.pt 7 4 0 0),(7,.pt 8 4 0 0),(8,.ob 9 4 0 an none),(53,aX ρ iW false l),(54,iv q),(55,iv p.1)]) []
    (fun p=>[(0,gO nl ul),(1,dY ρ N),(2,bD ρ vs),(3,dZ ρ p.2.1),(4,d_ ρ sh),(5,bD ρ ls),(6,ec ρ kn),(7,.arr 4 [uc none] 0 true),(8,.arr 4 [iL ρ ⟨tk,ti,tn0,ta⟩] 0 true),(9,.arr 4 (ρ.h (List.map uc) p.2.2) 0 true)])
    (fun p=>∃ i:Nat,p.1=i/\i<=l.length/\p.2.1.length=ul/\∃ d rest:List Tm,d.length=i/\p.2.2=d.map some++List.replicate (l.length - i) none/\vx (vz N sh ls m) (l.drop i) p.2.1=some (rest,u)/\d++rest=ts) (fun p=>l.length - p.1.toNat)
    (0,up,ah0) ⟨0,rfl,by simp,hu,[],ts,rfl,by grind,by grind,rfl⟩ rfl (by exact⟨sq,rfl,aaU,rfl,rfl,rfl⟩) ?_
   rintro⟨ii,gJ,met⟩ ⟨i,ym,Cy,ic,d,rest,hd,Nx,hm,yg⟩;simp only at ym Cy ic Nx hm;refine gq iY ?_;refine cn (fun cy=>?_) fun cy=>?_
   ·have mX:i < l.length:=by omega
    obtain⟨x,hx⟩:∃ x,l[i]?=some x:=⟨_,List.getElem?_eq_getElem mX⟩;obtain⟨xa,xb⟩:=List.getElem?_eq_some_iff.1 hx;rw[List.drop_eq_getElem_cons xa,xb,vx] at hm;split at hm
    ·grind
    rename_i u2 cl hr;split at hm
    ·grind
    rename_i tx u3 QA;split at hm
    ·grind
    rename_i ts1 u4 qd;simp only[oI_,pI_] at hm;obtain⟨rfl,rfl⟩:=hm;have c1:=wi (w0:=w0) (ρ:=ρ) (s:=⟨N,vs,⟨gJ,sh,ls⟩⟩) (kn:=kn) (by grind) hr;have jN:u2.length=ul:=by rw[gK hr,ic]
    have se:u3.length=ul:=by grind[xA]
    simp only at c1;rw[<-gE fj ic,<-gE fj jN] at c1;have c2:=ih jN QA;have hml:met.length=l.length:=by grind
    refine gq iY ?_;refine og iY (af.ind rfl rfl (aY (l:=l) ym hx) (aZ fun _=>rfl)) ?_;refine og iY (af.kA c1 rfl (Nat.le_of_ble_eq_true rfl) (cW (by decide)) (mu) (cW (by decide)) (pT (by decide) .v) .v) ?_;refine og iY (af.kA c2 rfl (Nat.le_of_ble_eq_true rfl) (cW (by decide)) (mu) (cW (by decide)) (pT (by decide) .v) (Pure.aV (aT tx))) ?_;refine ad.op rfl (af.ahA rfl rfl ym (by omega)) ?_;refine ad.IU (f:=uc) (y:=some tx) rfl rfl rfl (pv tx).symm (by show (lr tx).all bO=true;rw[pv (ρ:=ρ)];rfl) Xt rfl (by omega) (fun ah1 adw=>?_);refine gq iY ?_;refine ag iY fun i3 iC=>?_;refine ad.aO (σ:=Int × List Nat × List (Option Tm)) (i3,u3,ah1) [] ⟨i+1,by grind,by omega,se,d++[tx],ts1,by grind,?_,qd,by grind⟩ ?_ (by exact⟨sq,rfl,aaU,rfl,rfl,rfl⟩)
    ·have e:l.length - i=(l.length - (i+1))+1:=by omega
     simp only;rw[adw,Nx,e,List.replicate_succ,List.set_append_right _ _ (by grind)];simp[hd]
    ·grind
   ·have mX:i=l.length:=by omega
    rw[mX,List.drop_of_length_le (Nat.le_refl _),vx] at hm;simp only[oI_,pI_] at hm;obtain⟨rfl,rfl⟩:=hm;rw[List.append_nil] at yg;have hme:ρ.h (List.map uc) met=ρ.h (List.map lr) ts:=by
     rw[ρ.eq,ρ.eq,Nx,mX,Nat.sub_self,List.replicate_zero,List.append_nil,Xu,yg]
    have hmn:an=(ρ.h (List.map lr) ts).length:=by grind[aE]
    refine gq iY ?_;refine ad.aH ?_;refine ad.aaT (ad.Yw (Cv.freeze (t:=8) (k:=9) (rows:=ρ.h (List.map lr) ts) (by rw[<-hme];rfl) rfl (.inr ⟨_,rfl⟩) hmn (Nat.zero_le _)) ?_);refine gq iY ?_;refine fq ?_;exact⟨[],.ao (Pure.aV (aT ⟨tk,ti,tn0,ts⟩)),VW,rfl⟩
end
end
section
variable {P:Program}{w0:World}{n:Nat}{α:AA}{S:ae}
theorem D7 {F:Fence}{m:Nat}{A:Nat->Prop}{g:Gh}{a:Act}{w:World}{ops:Array Oper}{Q:Exit->Act->World->Prop}{i:Nat}{rest:List Nat}{o:Oper}{r:AV}{S':ae}(hF:ir F) (hS:St w0 A g S w) (hA:bR g w n α a) (hi:ops[i]?=some o) (hg:o.guard=none) (hd:(match o.dst with|some d=>Nat.blt d n|none=>true)=true) (h:ez P w0 n o α S r S')
  (k:∀ (a':Act) (w':World) (g':Gh),St w0 A g' S' w'->bR g' w' n (α.put o.dst r) a'->Ext A g w g' w'->wpOpsIn F m P ops Q rest a' w'):wpOpsIn F m P ops Q (i::rest) a w:=by
 simp only[wpOpsIn,hi];rw[if_pos (by simp[Region.wanted,hg])];exact⟨fun f _=>hF.1 f,h F m A g a w _ Q hF hS hA fun v w' g' hr fk hE=>k _ _ _ fk (lE (hA.later hE.toLater) hd hr) hE⟩
theorem QB {o:Oper}{x:QO}(hr:res P.toTables o.op=some (.mv x)):ez P w0 n o α S (x.ev α.tm) S:=by
 have h:af P w0 false (.mv x) α S (x.ev α.tm) S:=af.quiet rfl;exact h n o hr
theorem ad.aaX {Q:Exit->AA->ae->Prop}{K:List ff}{id:Nat}{o o1 o2:Oper}{q1 q2:QO}{d1 d2:Nat}{c:Call}{x i:Operand}{k:Nat}{m:Int}{mt kt et:TypeId}{kk:IntKind}(g1:o1.guard=none) (g2:o2.guard=none) (e1:o1.dst=some d1) (e2:o2.dst=some d2) (b1:Nat.blt d1 n=true) (b2:Nat.blt d2 n=true) (r1:res P.toTables o1.op=some (.mv q1)) (r2:res P.toTables o2.op=some (.mv q2))
  (ho:o.op=.defer c) (hc:c.callee=.builtin .delete) (hat:c.argTypes[0]?=some mt) (hu:P.underlying mt=some (.map kt et)) (hk:P.underlying kt=some (.int kk))
  (ha:c.args=#[x,i]) (hg:o.guard=none) (hd:o.dst=none) {nO:AA}(BP:nO=(α.put (some d1) (q1.ev α.tm)).put (some d2) (q2.ev (α.put (some d1) (q1.ev α.tm)).tm)) (hx:(qo x).ev nO.tm=.mp k) (hi:(qo i).ev nO.tm=.v (.int .i64 m))
  (h:∀ t,M6 P t->ad P w0 false n Q (.out .normal K) ⟨nO.tm,.del t k m::nO.df⟩ S):ad P w0 false n Q (.run (.raw (.region id #[o1,o2,o] false)) K) α S:=by
 intro c0 u0 _;obtain rfl:=TN u0;rw[aI] at hx hi;obtain⟨cs,Bg⟩:∃ cs:Array Bool,(c.args.map fun|.const _=>true|_=>false)=cs:=⟨_,rfl⟩;refine⟨.normal,_,S,fun F mm A g0 a0 UY hF hR Qe P0=>?_,h (.builtin .delete c.argTypes o.type cs) ⟨_,_,_,mt,kt,et,kk,rfl,hat,hu,hk⟩⟩;have kO:F.round=none:=by
  cases hr:F.round with
  |none=>rfl
  |some l=>rw[hr] at hR;cases hR
 refine wpIn_region ?_;rw[show (List.range (#[o1,o2,o]:Array Oper).size)=[0,1,2] from rfl];refine D7 hF Qe P0 (o:=o1) rfl g1 (by grind) (QB r1) fun a1 w1 gh1 fJ yI lq=>?_;rw[e1] at yI;refine D7 hF fJ yI (o:=o2) rfl g2 (by grind) (QB r2) fun a w g hS hA rb=>?_;rw[e2,<-BP] at hA;have hE:=lq.trans rb;have h1:=hA.ev x;have h2:=hA.ev i;rw[hx] at h1;rw[hi] at h2;obtain⟨e1',aK⟩:=n0 h1;have e2':=bI h2;have jd:(resolve a.eval c o.type).run P w=.ok { target:=.builtin .delete c.argTypes o.type cs,args:=#[.map (some (g.ob k)),.int .i64 m] } w:=by
  rw[<-Bg];simp[resolve,hc,ha,e1',e2'];cases x<;>cases i<;>exact⟨rfl,rfl⟩
 have UU:bR g w n ⟨nO.tm,.del (.builtin .delete c.argTypes o.type cs) k m::nO.df⟩ { a with defers:=({ target:=.builtin .delete c.argTypes o.type cs,args:=#[.map (some (g.ob k)),.int .i64 m] }:Deferred)::a.defers }:=by
  refine⟨hA.size,hA.tm,hA.out,?_,fun d hd=>?_⟩
  ·show _=({ target:=.builtin .delete c.argTypes o.type cs,args:=#[.map (some (g.ob k)),.int .i64 m] }:Deferred)::_;rw[<-hA.df]
  ·rcases List.mem_cons.1 hd with rfl|hd
   ·exact aK
   ·exact hA.rY d hd
 have ho0:(#[o1,o2,o]:Array Oper)[2]?=some o:=rfl;simp only[wpOpsIn,ho0];rw[if_pos (by simp[Region.wanted,hg])];refine⟨fun f _=>hF.1 f,?_⟩;have ah2:(o.semAt F.round a.eval).run P w=.ok (.defer { target:=.builtin .delete c.argTypes o.type cs,args:=#[.map (some (g.ob k)),.int .i64 m] }) w:=by
  rw[kO];simp[Oper.semAt,execOp,ho,Sem.run_bind,jd]
 rw[ah2];simp[Oper.uponIn,hd];exact⟨rfl,g,hS,UU,hE⟩
end
section
set_option maxRecDepth 100000
theorem kJ (c:Int):Pure (.aG [.sl true [],iv c]):=.aG fun a ha=>by
 simp only[List.mem_cons,List.not_mem_nil,or_false] at ha;rcases ha with rfl|rfl
 ·exact .sl fun r hr=>by grind
 ·exact .v
section
variable {w0:World}{ρ:Hd}
theorem TO {l r:List Tm}(nM:ah Tryz.prog w0 134 [tl ρ l] (.v (.bool false))):aC Tryz.prog w0 79 [tl ρ l,tl ρ r] (aq [] 0) (.aG [.sl true [],iv 2]) (aq [] 0):=by
 refine sc 0 0 NI ?_;refine gq jr ?_;refine og jr (af.aw rfl nM ⟨aS _,trivial⟩) ?_;refine fq ?_;exact⟨[],.ao (Pure.aV (kJ 2)),trivial,rfl⟩
theorem TP {l r:List Tm}(nM:ah Tryz.prog w0 134 [tl ρ l] (.v (.bool true))) (tY:ah Tryz.prog w0 134 [tl ρ r] (.v (.bool false))):aC Tryz.prog w0 79 [tl ρ l,tl ρ r] (aq [] 0) (.aG [.sl true [],iv 2]) (aq [] 0):=by
 refine sc 0 0 NI ?_;refine gq jr ?_;refine og jr (af.aw rfl nM ⟨aS _,trivial⟩) ?_;refine og jr (af.aw rfl tY ⟨aS _,trivial⟩) ?_;refine fq ?_;exact⟨[],.ao (Pure.aV (kJ 2)),trivial,rfl⟩
theorem TQ {l r:List Tm}(nM:ah Tryz.prog w0 134 [tl ρ l] (.v (.bool true))) (tY:ah Tryz.prog w0 134 [tl ρ r] (.v (.bool true))) (hlen:l.length ≠ r.length):aC Tryz.prog w0 79 [tl ρ l,tl ρ r] (aq [] 0) (.aG [.sl true [],iv 9]) (aq [] 0):=by
 refine sc 0 0 NI ?_;refine gq jr ?_;refine og jr (af.aw rfl nM ⟨aS _,trivial⟩) ?_;refine og jr (af.aw rfl tY ⟨aS _,trivial⟩) ?_;refine lg jr fun q1 x9=>?_;refine lg jr fun q2 sd=>?_;refine cn (fun b8=>?_) fun b8=>?_;rotate_left
 ·grind
 refine gq jr ?_;refine fq ?_;exact⟨[],.ao (Pure.aV (kJ 9)),trivial,rfl⟩
end
end
section
set_option maxRecDepth 100000
attribute [local irreducible] ah aC af ad
def adx:FQ 204 Tryz.f204:=a_ Tryz.func204 Tryz.call204
def aaY:List Nat:=[4,5,0,1,2,3]
def ady:FQ 145 Tryz.f145:=a_ Tryz.func145 Tryz.call145
def TR:List Nat:=[6,4,0,1,2,3]
theorem L_ {ρ:Hd}(x:Tm) {ex:Bool}:Wk (.sl ex [iL ρ x]) (tl ρ [x]):=by grind[tl,bQ,pv,Wk.sl]
section
variable {w0:World}{ρ:Hd}
theorem qI {l r:List Tm}{ex:Bool}{rows:List (List AV)}{cc:Int}(hp:Pure (.aG [.sl ex rows,iv cc])) (h:aC Tryz.prog w0 79 [tl ρ l,tl ρ r] (aq [] 0) (.aG [.sl ex rows,iv cc]) (aq [] 0)):ah Tryz.prog w0 79 [tl ρ l,tl ρ r] (.aG [.sl ex rows,iv cc]) :=
 ah.Df (S':=aq [] 0) h (.refl _) hp
theorem Xw {a b:Tm}{ex:Bool}{rows:List (List AV)}{cc:Int}(hp:Pure (.aG [.sl ex rows,iv cc])) (h:ah Tryz.prog w0 79 [tl ρ [a],tl ρ [b]] (.aG [.sl ex rows,iv cc])):ah Tryz.prog w0 204 [tm ρ a,tm ρ b] (.aG [.sl ex rows,iv cc]):=by
 refine st adx aaY hp ?_;refine og aaY (af.pd rfl h ⟨aS _,aS _,trivial⟩ ⟨L_ a,L_ b,trivial⟩) ?_;refine fq ?_;exact .refl _
theorem KU {a b:Tm}{ex:Bool}{rows:List (List AV)}{cc:Int}(h:ah Tryz.prog w0 204 [tm ρ a,tm ρ b] (.aG [.sl ex rows,iv cc])):ah Tryz.prog w0 145 [tm ρ a,tm ρ b] (.v (.bool (decide (cc=0\/cc=6)))):=by
 obtain⟨R,hR⟩:∃ R,R=decide (cc=0\/cc=6):=⟨_,rfl⟩;rw[<-hR];refine st ady TR .v ?_;refine og TR (af.aw rfl h ⟨aT _,aT _,trivial⟩) ?_
 repeat' (first
  |refine cg TR (fun hb=>?_) fun hb=>?_
  |(refine fq ?_))
 all_goals (refine eA ?_;rw[hR];simp_all)
end
end
section
variable {ι:Nat->Nat}
theorem Rb.yl {j k:Nat}(h:k=ι j):Rb ι (.yl j) (.yl k):=fun gc g w x hB hr=>by
 subst h;cases hr with
 |yl hk=>rw[<-hB.ob j hk];exact .yl (hB.al j hk)
theorem Rb.fn {f:Fn}{l m l' m':List AV}(h:Lb ι l m) (k:Lb ι l' m'):Rb ι (.fn f l l') (.fn f m m'):=fun gc g w x hB hr=>by
 cases hr with
 |fn h1 h2 h3 h4 =>
  refine .fn (h1.trans h.at.1) (h2.trans k.at.1) (fun i b y hb hy=>?_) (fun i b y hb hy=>?_)
  ·obtain⟨a,e1,e2⟩:=h.at.2 i b hb;exact e2 gc g w y hB (h3 i a y e1 hy)
  ·obtain⟨a,e1,e2⟩:=k.at.2 i b hb;exact e2 gc g w y hB (h4 i a y e1 hy)
end
section
variable {P:Program}{w0:World}{N N' B n:Nat}{so so':List (Nat × Ob)}{S T:ae}{α:AA}{f:FuncId}{args args₀:List AV}{r r₀:AV}{m:List (Nat × Nat)}{to:List (Nat × Option Ob)}
def Hy (w0:World) (T:ae) (args₀:List AV) (N:Nat) (m:List (Nat × Nat)):Prop:=∀ (A:Nat->Prop) (g:Gh) (w:World) (args':Array Value),St w0 A g T w->jc g w args₀ args'->∀ k J,T.get k=some (.fo J)->g.al k->∃ j,j < N/\aJ m j=k
theorem Xx {g:Gh}{w:World}{args':Array Value}{i k sz a b:Nat}(h:jc g w args₀ args') (hi:args₀[i]?=some (.pt k sz a b)):g.al k:=by
 have hl:i < args'.size:=by rw[h.1];exact (List.getElem?_eq_some_iff.1 hi).1
 have hr:=h.2 i _ _ hi (Array.getElem?_eq_getElem hl);generalize args'[i]=v at hr;cases hr with
 |pt hk=>exact hk
theorem Hy.cell {i k sz a b k0 q sz' fz j0:Nat}{row:List AV}{ex:Bool}{J:eP}(hi:args₀[i]?=some (.pt k sz a b)) (hk:T.get k=some (.arr sz' [row] fz ex)) (hq:row[q]?=some (.yl k0)) (h0:T.get k0=some (.fo J)) (hj:j0 < N) (he:aJ m j0=k0):Hy w0 T args₀ N m:=by
 intro A g w args' hS hA k1 J1 dV ia;have aK:=Xx hA hi;obtain⟨_,_,cs,ty,p1,p2,p3,p4,p5,_⟩:=hS.bT k _ hk aK;obtain⟨x,hx,hr⟩:=(p5 0 row rfl).2 q _ hq;have MJ:g.al k0:=by
  cases hr with
  |yl h=>exact h
 exact⟨j0,hj,he.trans (hS.mQ _ _ _ _ h0 dV MJ ia)⟩
theorem aC.Oa (h:aC P w0 f args (aq so N) r (aq so' N')) (ha:r6 (aJ m) N args₀ args) (hr:Rb (cT (aJ m) N T.nx) r r₀) (hi:rJ (aJ m) (List.range N)=true) (aA:(List.range N).all (fun j=>Nat.blt (aJ m j) T.nx)=true) (hS:im (aJ m) N T so) (hk:so.all (fun p=>Nat.blt p.1 N)=true)
  (hT:fu (cT (aJ m) N T.nx) so' to) (hc:(List.range N).all (fun j=>(to.map (·.1)).contains (aJ m j))=true) (c_:(List.range N').all (fun j=>(to.map (·.1)).contains (T.nx+j))=true) (hy:Hy w0 T args₀ N m) {e:Nat}(he:N'<=e):aC P w0 f args₀ T r₀ ⟨dC T.get to,T.nx+e⟩:=by
 obtain⟨T',zj⟩:∃ T':ae,T'=⟨fun k=>if k < T.nx then T.get k else none,T.nx⟩:=⟨_,rfl⟩;have get':∀ k o,T'.get k=some o->k < T.nx/\T.get k=some o:=fun k o hk=>by
  rw[zj] at hk;have hk:(if k < T.nx then T.get k else none)=some o:=hk;split at hk
  ·grind
  ·grind
 have Bz:T'.nx=T.nx:=by grind
 have tH:∀ k o,T.get k=some o->k < T.nx->T'.get k=some o:=fun k o h hk=>by
  rw[zj];show (if k < T.nx then T.get k else none)=some o;rw[if_pos hk];exact h
 rw[<-Bz] at hr aA hT;have hM:∀ j,j < N->aJ m j < T.nx:=fun j hj=>by
  have:=dM (List.all_eq_true.1 aA j (List.mem_range.2 hj))
  rwa [Bz] at this
 have hF:=HO (N':=N') hi aA (hS.sub tH hM hk) hT hc (by simp) (fun k o hk=>by grind);have bH:=h.Ya hF ha.at.1 (fun i a b h1 h2=>by
  obtain⟨a',h3,h4⟩:=ha.at.2 i b h2;rw[h3] at h1;rw[<-oJ_ h1];exact h4) hr (fun A g w args' mM CZ k J dP kN=>hy A g w args' (mM.forget (by grind) fun j p hj aK=>tH j p hj (by have:=mM.al j aK;rwa [Bz] at this)) CZ k J (get' k _ dP).2 kN)
 refine⟨bH.1,fun F m' A g args' w hF hS hA=>(bH.2 F m' A g args' w hF (hS.forget (by grind) fun j p hj _=>(get' j p hj).2) hA).mono ?_⟩;rintro e' w' ⟨v,g',rfl,h1,h2,h3⟩;refine⟨v,g',rfl,h1,h2.forget (by grind) fun j p hj aK=>?_,h3⟩;have Ew:j < T'.nx+N':=h2.al j aK;have hj:dC T.get to j=some p:=hj;show dC T'.get to j=some p;by_cases iH:j ∈ to.map (·.1)
 ·grind[E5]
 ·rw[l7 iH] at hj ⊢;refine tH j p hj ?_;by_cases h5:j < T.nx
  ·grind
  ·exfalso;refine iH ?_;have:=List.all_eq_true.1 c_ (j - T.nx) (List.mem_range.2 (by omega));rw[show T.nx+(j - T.nx)=j by omega] at this;simpa using this
theorem af.qT {fq:QO}{fM:List QO}(m:List (Nat × Nat)) (to:List (Nat × Option Ob)) (bH:aC P w0 f args (aq so N) r (aq so' N')) (h:dW (fq.ev α.tm) (fM.map (·.ev α.tm))=some (f,args₀)) (ha:r6 (aJ m) N args₀ args) (hr:Rb (cT (aJ m) N T.nx) r r₀) (hS:im (aJ m) N T so) (hT:fu (cT (aJ m) N T.nx) so' to) (hy:Hy w0 T args₀ N m)
  (hi:rJ (aJ m) (List.range N)=true:=by rfl) (aA:(List.range N).all (fun j=>Nat.blt (aJ m j) T.nx)=true:=by rfl) (hk:so.all (fun p=>Nat.blt p.1 N)=true:=by rfl) (hc:(List.range N).all (fun j=>(to.map (·.1)).contains (aJ m j))=true:=by rfl) (c_:(List.range N').all (fun j=>(to.map (·.1)).contains (T.nx+j))=true:=by rfl) :
  af P w0 false (.call fq fM) α T r₀ ⟨dC T.get to,T.nx+N'⟩:=af.call h (bH.Oa ha hr hi aA hS hk hT hc c_ hy (Nat.le_refl _)) fun e=>by grind
theorem a6.qT {fq:QO}{fM:List QO}(m:List (Nat × Nat)) (F:List (Nat × Ob)) (to:List (Nat × Option Ob)) (bH:aC P w0 f args (aq so N) r (aq so' N')) (h:dW (fq.ev α.tm) (fM.map (·.ev α.tm))=some (f,args₀)) (ha:r6 (aJ m) N args₀ args) (hr:Rb (cT (aJ m) N S.nx) r r₀) (hF:fC S F) (hS:∀ T,fC T F->im (aJ m) N T so) (hT:fu (cT (aJ m) N S.nx) so' to) (hy:∀ T,fC T F->Hy w0 T args₀ N m)
  (hi:rJ (aJ m) (List.range N)=true:=by rfl) (aA:(List.range N).all (fun j=>Nat.blt (aJ m j) S.nx)=true:=by rfl) (hk:so.all (fun p=>Nat.blt p.1 N)=true:=by rfl) (hc:(List.range N).all (fun j=>(to.map (·.1)).contains (aJ m j))=true:=by rfl) (c_:(List.range N').all (fun j=>(to.map (·.1)).contains (S.nx+j))=true:=by rfl) (he:Nat.ble N' (Cp to true)=true:=by rfl) :
  a6 P w0 B (.call fq fM) α S r₀ ⟨F,to,true⟩:=by
 intro n o f_;obtain⟨c,u,ho,hu,Ib,has⟩:=kF f_;refine⟨fun hp=>(by grind[oP,m_]),hF,fun T hB Vy hm=>?_⟩;have e:T.nx=S.nx:=hm rfl;have eo:∀ q ∈ (.call c:Op).operands,(α.only (cG o)).ev q=α.ev q:=fun q hq=>eH fun t ht=>en (by grind);have h':dW (fq.ev (α.only (cG o)).tm) (fM.map (·.ev (α.only (cG o)).tm))=some (f,args₀):=by
  rw[<-h,Ib,has,aI,aI,iF,iF,eo u (show u ∈ c.operands by simp[Call.operands,hu])];congr 1;exact List.map_congr_left fun q hq=>eo q (show q ∈ c.operands by simp[Call.operands,hu];exact .inr (by grind))
 rw[<-e] at hr hT aA c_;rw[dT];exact (af.call (dr:=false) h' (bH.Oa ha hr hi aA (hS T Vy) hk hT hc c_ (hy T Vy) (Nat.le_of_ble_eq_true he)) (fun e=>by grind)) n o f_
end
section
set_option maxRecDepth 100000
theorem VY {a b:Int}(hb:b ≠ 0):a.fdiv b=if a.tmod b ≠ 0/\(decide (a < 0) ≠ decide (b < 0)) then a.tdiv b - 1 else a.tdiv b:=by
 rw[Int.fdiv_eq_tdiv];by_cases h:b ∣ a
 ·rw[if_pos h,if_neg (fun k=>k.1 (Int.tmod_eq_zero_of_dvd h))];omega
 ·have h2:a.tmod b ≠ 0:=fun k=>h (Int.dvd_of_tmod_eq_zero k);rw[if_neg h];have ha:a ≠ 0:=fun e=>h (by rw[e];exact Int.dvd_zero b);by_cases h3:a < 0
  ·grind
  ·grind
theorem QD {a b:Int}(h1:-2147483650<=a) (h2:a<=2147483650) (h3:-2147483650<=b) (h4:b<=2147483650):-4611686027017322500<=a*b/\a*b<=4611686027017322500:=by
 have h:=Int.natAbs_mul a b;have:a.natAbs*b.natAbs<=2147483650*2147483650:=Nat.mul_le_mul (by omega) (by omega);omega
theorem wv {n:Int}:gD n=true ↔ -2147483648<=n/\n<=2147483648:=by grind[gD]
section
variable {P:Program}{w0:World}{α:AA}{S:ae}{dr:Bool}
theorem af.adz {isB:BK}{x y:QO}{a b:Int}(h1:x.ev α.tm=.v (.int .i64 a)) (h2:y.ev α.tm=.v (.int .i64 b)) (hb:b ≠ 0) (hl:-9223372036854775808<=a.tdiv b) (hh:a.tdiv b<=9223372036854775807):af P w0 false (.bin .quo isB x y) α S (.v (.int .i64 (a.tdiv b))) S:=by
 have:=af.quo (P:=P) (w0:=w0) (S:=S) (isB:=isB) h1 h2 hb;rw[MC (by omega) (by omega)] at this;exact this
theorem af.ah3 {isB:BK}{x y:QO}{a b:Int}(h1:x.ev α.tm=.v (.int .i64 a)) (h2:y.ev α.tm=.v (.int .i64 b)) (hb:b ≠ 0) (hl:-4294967300<=a) (hh:a<=4294967300):af P w0 false (.bin .quo isB x y) α S (.v (.int .i64 (a.tdiv b))) S:=by
 have h:=Int.natAbs_tdiv_le_natAbs a b;exact af.adz h1 h2 hb (by omega) (by omega)
theorem af.ah4 {isB:BK}{x y:QO}{a b:Int}(h1:x.ev α.tm=.v (.int .i64 a)) (h2:y.ev α.tm=.v (.int .i64 b)) (hb:b ≠ 0):af P w0 false (.bin .rem isB x y) α S (.v (.int .i64 (a.tmod b))) S:=af.rem h1 h2 hb
theorem af.aaZ {isB:BK}{x y:QO}{a b:Int}(h1:x.ev α.tm=.v (.int .i64 a)) (h2:y.ev α.tm=.v (.int .i64 b)) (hl:-2147483650<=a) (hh:a<=2147483650) (lj:-2147483650<=b) (hh2:b<=2147483650):af P w0 dr (.bin .mul isB x y) α S (.v (.int .i64 (a*b))) S:=by
 have h:=QD hl hh lj hh2;exact af.wJ h1 h2 rfl (by omega) (by omega)
end
theorem Xy {a b:Int}(h1:-2147483648<=a) (h2:a<=2147483648):-2147483648<=a.tdiv b/\a.tdiv b<=2147483648:=by
 have h:=Int.natAbs_tdiv_le_natAbs a b;omega
theorem qbd {q a b:Int}(hq:q=a.tdiv b) (hl:-4294967300<=a) (hh:a<=4294967300):-4294967300<=q/\q<=4294967300:=by
 have h:=Int.natAbs_tdiv_le_natAbs a b;omega
theorem mbd {q a b:Int}(hq:q=a*b) (h1:-2147483650<=a) (h2:a<=2147483650) (h3:-2147483650<=b) (h4:b<=2147483650):-4611686027017322500<=q/\q<=4611686027017322500:=by
 rw[hq];exact QD h1 h2 h3 h4
theorem VZ (b:UInt8):(⟨⟨[b]⟩⟩:ByteArray).toList=[b]:=by
 unfold ByteArray.toList;unfold ByteArray.toList.loop;unfold ByteArray.toList.loop;simp[ByteArray.size,ByteArray.get!]
theorem Xz {a b:Int}(hb:b ≠ 0) (h1:-2147483648<=a) (h2:a<=2147483648):-2147483649<=a.fdiv b/\a.fdiv b<=2147483648:=by
 have h:=Xy (b:=b) h1 h2;rw[VY hb];split<;>omega
end
section
set_option maxRecDepth 100000
attribute [local irreducible] ah aC af ad
def nj (p:Int × Int):AV:=.aG [iv p.1,iv p.2]
theorem lR (p:Int × Int):Pure (nj p):=.aG (wP .v .v)
theorem kg {S:ae}{a b:Int}{p:Int × Int}(h:p=(a,b)):aR S (.aG [.v (.int .i64 a),.v (.int .i64 b)]) (nj p):=by
 subst h;exact .refl _
end
section
set_option maxRecDepth 100000
end
section
set_option maxRecDepth 100000
attribute [local irreducible] ah aC af ad
end
section
set_option maxRecDepth 100000
attribute [local irreducible] ah aC af ad
end
section
set_option maxRecDepth 100000
def V0:List UInt8->List UInt8->Bool
 |[],[]=>true
 |a::l,b::m=>match Nat.beq a.toNat b.toNat with|true=>V0 l m|false=>false
 |_,_=>false
theorem QE:∀ {a b:List UInt8},V0 a b=(a == b)
 |[],[]=>rfl
 |[],_::_=>rfl
 |_::_,[]=>rfl
 |a::l,b::m=>by
  simp only[V0,List.cons_beq_cons];rw[QE (a:=l)];cases h:Nat.beq a.toNat b.toNat with
  |true =>
   have:a=b:=UInt8.toNat_inj.1 (Nat.eq_of_beq_eq_true h);simp[this]
  |false =>
   have:¬ a=b:=fun e=>by rw[e,Nat.beq_refl] at h;cases h
   simp[this]
def JT (m n:ByteArray) (i j:Int):Bool:=match V0 m.data.toList n.data.toList with|true=>decide (i=j)|false=>false
theorem XA {m n:ByteArray}{i j:Int}:JT m n i j=(m.toList == n.toList && i == j):=by
 unfold JT;rw[QE,<-ByteArray.toList_eq,<-ByteArray.toList_eq];cases m.toList == n.toList with
 |true=>by_cases h:i=j<;>simp[h]
 |false=>rfl
def xB:Value->Option (ByteArray × Int)
 |.agg a=>match a.toList with
  |[.string m,.int .i64 i]=>some (m,i)
  |_=>none
 |_=>none
theorem A6 {v:Value}{p:ByteArray × Int}(h:xB v=some p):v=.agg #[.string p.1,.int .i64 p.2]:=by
 unfold xB at h;split at h
 ·rename_i a;split at h
  ·rename_i m i e;obtain rfl:=oJ_ h;rw[<-Array.toArray_toList (xs:=a),e]
  ·grind
 ·grind
def TS (kt:Nat) (v:Value):Bool:=match Nat.beq kt 54,xB v with
 |true,some _=>true
 |_,_=>false
def aa0 (v w:Value):Bool:=match xB v,xB w with
 |some p,some q=>JT p.1 q.1 p.2 q.2
 |_,_=>false
def TT (t:Nat) (v w:Value):Option Bool:=match Nat.beq t 54,xB v,xB w with
 |true,some p,some q=>some (JT p.1 q.1 p.2 q.2)
 |_,_,_=>none
section
variable {w0:World}
theorem JU (n n':ByteArray) (i i':Int):Pu Tryz.prog 54 (.agg #[.string n,.int .i64 i]) (.agg #[.string n',.int .i64 i']) (JT n n' i i'):=by
 rw[XA];refine⟨⟨_,_,rfl,rfl⟩,by kernel_rfl,fun w=>?_⟩;have hS:Tryz.prog.underlying 54=some (.struct (Tryz.prog.fieldsOf 54)):=by kernel_rfl
 have hp:Tryz.prog.stoodInHeld 54=false:=by kernel_rfl
 have u3:=Tryz.underlying3;have u9:=Tryz.underlying9;have a3:=Tryz.isAgg3;have a9:=Tryz.isAgg9;rw[run_eql_struct,show (10000:Nat)=9998+1+1 from rfl,run_equalIn_agg w _ 54 _ _ hS hp];simp only[Program.fieldsOf,Tryz.underlying54];have e1:∀ w,(Op.equalIn (9998+1) 9 (.string n) (.string n')).run Tryz.prog w=.ok (n.toList == n'.toList) w:=fun w=>run_equalIn_string w _ _ _ _ u9;have e2:∀ w,(Op.equalIn (9998+1) 3 (.int .i64 i) (.int .i64 i')).run Tryz.prog w=.ok (i == i') w:=fun w=>run_equalIn_int w _ _ _ _ _ _ u3;cases h1:(n.toList == n'.toList)<;>cases h2:(i == i')<;>simp[Op.eqFields,part,a3,a9,e1,e2,h1,h2]
theorem XB {X:Result Bool}{e:Bool}{w:World}(h:(X.andThen fun b w'=>Result.ok (Value.bool b) w')=.ok (.bool e) w):X=.ok e w:=by
 cases X with
 |ok b w' =>
  simp only[Result.andThen,Result.ok.injEq,Value.bool.injEq] at h;rw[h.1,h.2]
 |_=>cases h
theorem QG (n:ByteArray) (i:Int) (es:List (Value × AV)) (hes:∀ p ∈ es,∃ q,xB p.1=some q):zg Tryz.prog 54 (.agg #[.string n,.int .i64 i]) es (aa0 (.agg #[.string n,.int .i64 i])):=by
 have hS:Tryz.prog.underlying 54=some (.struct (Tryz.prog.fieldsOf 54)):=by kernel_rfl
 have u3:=Tryz.underlying3;have u9:=Tryz.underlying9;have a3:=Tryz.isAgg3;have a9:=Tryz.isAgg9;refine⟨fun b w=>?_,⟨_,hS⟩,fun p hp w=>?_⟩
 ·have key:∀ q:Nat,(Instr.checkKey b (q+1+1) 54 (.agg #[.string n,.int .i64 i])).run Tryz.prog w=.ok () w:=by
   intro q;have e1:∀ w,(Instr.checkKey b (q+1) 9 (.string n)).run Tryz.prog w=.ok () w:=fun w=>by
    rw[Instr.checkKey];simp only[Sem.run_bind,run_underlying u9,Result.andThen_ok,Sem.run_pure]
   have e2:∀ w,(Instr.checkKey b (q+1) 3 (.int .i64 i)).run Tryz.prog w=.ok () w:=fun w=>by
    rw[Instr.checkKey];simp only[Sem.run_bind,run_underlying u3,Result.andThen_ok,Sem.run_pure]
   rw[Instr.checkKey];simp only[Sem.run_bind,run_underlying hS,Result.andThen_ok];simp only[Program.fieldsOf,Tryz.underlying54];simp[part,a3,a9,e1,e2]
  exact key 9998
 ·obtain⟨⟨n',i'⟩,hq⟩:=hes p hp;have e:=A6 hq;have h:=(JU n n' i i').2.2 w;rw[run_eql_struct] at h;have h2:=XB h;rw[e];exact h2
theorem XC {F:Fence}(hF:ir F) (n:Nat) (p:Addr) (w:World):CallsDIn F.plain n Tryz.prog 64 #[.pointer (some p)] .returning w fun e u' w'=>e=.returned (.tuple #[])/\u'=.returning/\w'=w:=by
 refine callsDIn_of_wpSIn Tryz.func64 rfl (hF.1 _) fun Nc cs hu=>?_;simp only[Tryz.ntmps64,List.size_toArray,List.length_cons,List.length_nil,Nat.reduceAdd,Nat.reduceSub,Array.replicate_succ,Array.replicate_zero,List.push_toArray,List.append_toArray,List.nil_append,List.cons_append];apply wpSIn_seq;apply wpSIn_region;simp[wpOpsSIn,go_sem,recoverD,hu,Exit.thenS,hF.1];refine wpSIn_of_wpIn rfl ?_;refine wpIn_block (wpIn_seq (wpIn_region ?_));simp[wpOpsIn,go_sem];refine wpIn_cond (t:=true) (by simp[Act.eval]) ?_;simp only[if_true];refine wpIn_region ?_;simp[wpOpsIn,go_sem,bodyPostS,results,Tryz.results64,Exit.inBlock];cases Nc;simp_all
def aa1 (a e:Int):ae:=(jF ae.none_ [AV.v (.int .i64 a)]).2.set 0 (some (.arr 1 [[AV.v (.int .i64 e)]] 0 true))
theorem QH {A:Nat->Prop}{g2:Gh}{S:ae}{w2:World}{a e:Int}{b:Nat}(mM:St w0 A g2 S w2) (h0:S.get 0=some (.arr 1 [[AV.v (.int .i64 a)]] 0 true)) (hk:g2.al 0) (jm:g2.ob 0=b) :
  w2.cell? ⟨b,0,none⟩=some (.int .i64 a)/\w2.frozen? ⟨b,0,none⟩=false/\b < w2.heap.size/\Ext A g2 w2 g2 (w2.setCell ⟨b,0,none⟩ (.int .i64 e))/\St w0 A g2 (S.set 0 (some (.arr 1 [[AV.v (.int .i64 e)]] 0 true))) (w2.setCell ⟨b,0,none⟩ (.int .i64 e)):=by
 obtain⟨k2,k3,cells,ty,p1,p2,p3,p4,p5,p6,p7⟩:=mM.bT 0 _ h0 hk;rw[jm] at k2 k3 p1;obtain⟨x,lQ,bK⟩:=(p5 0 _ rfl).2 0 _ rfl;have bK:=bI bK;subst bK;have hc:w2.cell? ⟨b,0,none⟩=some (.int .i64 a):=by rw[cell_of_row w2 b _ cells ty (0,0) p1];simpa using lQ
 have hz:w2.frozen? ⟨b,0,none⟩=false:=by simp[World.frozen?,p1]
 have mj:ml Tryz.prog S 29 (AV.v (.int .i64 e)) (.pt 0 1 0 0)=some (S.set 0 (some (.arr 1 [[AV.v (.int .i64 e)]] 0 true))):=by
  have:cY Tryz.prog 29=some 1:=by kernel_rfl
  simp only[ml,h0,this]
  rfl
 have pK:aF g2 w2 (.pt 0 1 0 0) (.pointer (some ⟨b,0,none⟩)):=by
  have:=aF.pt (g:=g2) (w:=w2) (k:=0) (sz:=1) (i:=0) (j:=0) hk;rw[jm] at this;exact this
 obtain⟨c,o,w',e1,e2,_,e4,e5⟩:=tw mM mj pK (x:=.int .i64 e) .v;simp only[Value.pointer.injEq,oI_,Addr.mk.injEq,and_true] at e1;obtain⟨rfl,rfl⟩:=e1;have bZ:(storeVar 29 ⟨b,0,none⟩ (.int .i64 e)).run Tryz.prog w2=.ok () (w2.setCell ⟨b,0,none⟩ (.int .i64 e)):=by simp[go_sem,hc,hz]
 rw[bZ] at e2;injection e2 with _ e2;subst e2;exact⟨hc,hz,k3,e4,e5⟩
theorem TU {g:FuncId}{fs cs:List AV}(hp:dK (fs++cs)) (h:ah Tryz.prog w0 g (fs++cs) (.aG [])):ah Tryz.prog w0 28 [.fn (.func g) fs cs] (AV.v (.int .i64 0)):=by
 refine⟨.v,aa1 0 0,Tryz.call28,fun F m A gh args' w hF hS hA=>?_⟩;obtain⟨bS,Bh⟩:=hA;obtain⟨fv,rfl⟩:∃ fv,args'=#[fv]:=by
  obtain⟨l⟩:=args'
  match l,bS with
  |[x],_=>exact⟨x,rfl⟩
 obtain⟨us,bs,rfl,ia,kN⟩:=vN (Bh 0 _ _ rfl rfl);clear Bh bS;have zt:=wa (w0:=w0) (A:=A) (cs:=[AV.v (.int .i64 0)]) (cells:=#[.int .i64 0]) (ty:=29) hS ⟨rfl,fun i a x h1 h2=>by
  match i,h1,h2 with
  |0,h1,h2=>obtain rfl:=oJ_ h1;obtain rfl:=oJ_ h2;exact .v⟩
 obtain⟨w1,vO⟩:∃ w1:World,w1=w.alloc (.cells #[.int .i64 0] 29):=⟨_,rfl⟩;rw[<-vO] at zt;obtain⟨g1,F5,fJ,lq⟩:=zt;have qh:jc g1 w1 (fs++cs) (us++bs):=by
  have:=il ia kN;exact⟨this.1,fun i a x h1 h2=>(this.2 i a x h1 h2).later lq.toLater⟩
 have bH:=(h.BX hp (jF ae.none_ [AV.v (.int .i64 0)]).2).2 F.plain (m - 1) A g1 (us++bs) w1 hF.plain fJ qh;have key:CallsIn F.plain m Tryz.prog 28 #[.func (.func g) us bs] w fun e w'=>∃ v g',e=.returned v/\aF g' w' (AV.v (.int .i64 0)) v/\St w0 A g' (aa1 0 0) w'/\Ext A gh w g' w':=by
  refine callsIn_of_wp_defers Tryz.func28 rfl (hF.1 _) ?_ rfl;simp only[Tryz.ntmps28,List.size_toArray,List.length_cons,List.length_nil,Nat.reduceAdd,Nat.reduceSub,Array.replicate_succ,Array.replicate_zero,List.push_toArray,List.append_toArray,List.nil_append,List.cons_append];refine wpIn_seq (wpIn_region ?_);simp[wpOpsIn,go_sem];rw[<-vO];have tN:∀ (fn:Fn) (first cap:Array Value) (w:World),(Instr.makeFunc fn first cap).run Tryz.prog w=.ok (.func fn first cap) w:=fun _ _ _ _=>rfl;refine wpIn_seq (wpIn_region ?_);simp[wpOpsIn,go_sem,tN];refine wpIn_seq (wpIn_region ?_);simp[wpOpsIn,go_sem];refine⟨hF.1 g,?_⟩;rw[(h.BX hp ae.none_).1 (us++bs) w1,Oper.uponIn_enter];refine⟨fun hd=>(by rw[show F.plain.depth=F.depth from rfl,hF.2.1] at hd;cases hd),bH.mono ?_⟩;rintro e w2 ⟨v,g2,rfl,_,mM,rb⟩;simp only;obtain⟨dV,lf⟩:g1.al 0/\g1.ob 0=w.heap.size:=by
   generalize hv:Value.pointer (some ⟨w.heap.size,0,none⟩)=y at F5;cases F5 with
   |pt hk=>simp[jF,ae.none_] at hv;exact⟨hk,hv.symm⟩
  have dP:=rb.al 0 dV;have zu:g2.ob 0=w.heap.size:=(rb.ob 0 dV).trans lf;obtain⟨hc,hz,aA,rZ,tf⟩:=QH (e:=0) mM rfl dP zu;refine wpIn_seq (wpIn_region ?_);simp[wpOpsIn,go_sem,hc,hz];refine wpIn_ret ?_;refine leavesIn_cons (f:=64) (args:=#[.pointer (some ⟨w.heap.size,0,none⟩)]) (by simp) (fun hd=>(by rw[show F.plain.depth=F.depth from rfl,hF.2.1] at hd;cases hd)) (by simp[go_sem]) (fun g hg=>hF.1 g) ?_;refine (XC hF _ _ _).mono ?_;rintro e u' kR ⟨rfl,rfl,rfl⟩;have CU:(w2.setCell ⟨w.heap.size,0,none⟩ (.int .i64 0)).cell? ⟨w.heap.size,0,none⟩=some (.int .i64 0):=(QH (e:=0) tf rfl dP zu).1;simp[LeavesIn,settle,results,Tryz.results28,go_sem,CU];exact⟨g2,.v,tf,(lq.trans rb).trans rZ⟩
 exact key
def JV (cl:List Nat) (g:Nat) (l:List AV):Option AV:=match lC g cl with
 |true=>match l with
  |[.sl _ []]=>some (.sl true [])
  |_=>none
 |false=>none
def mkE (t:Tr ((QC × List QR) × Nat)) (cl wm:List Nat):Env:=⟨fun g=>gz t g,
 JV cl,
 fun _ _=>none,fun g=>match Nat.beq g 28 with|true=>some (.v (.int .i64 0))|false=>none,fun g=>lC g wm,TS,aa0,TT,fun _=>none,fun _=>false⟩
theorem ud {t:Tr ((QC × List QR) × Nat)}{cl wm:List Nat}(ht:∀ g c n,gz t g=some (c,n)->wu Tryz.prog g c n) (hc:∀ g,lC g cl=true->∀ A c,ah Tryz.prog w0 g [.v (.slice A 0 c)] (.sl true [])):jj Tryz.prog w0 (mkE t cl wm) where
 seq:=fun t a b e h=>by
  have h:TT t a b=some e:=h;unfold TT at h;split at h
  ·rename_i p q ht ha hb;rw[A6 ha,A6 hb,Nat.eq_of_beq_eq_true ht,<-oJ_ h];exact JU _ _ _ _
  ·grind
 key:=fun kt v es h he=>by
  have key:∀ kt v,TS kt v=true->kt=54/\∃ q,xB v=some q:=fun kt v h=>by
   unfold TS at h;split at h
   ·rename_i p ht hv;exact⟨Nat.eq_of_beq_eq_true ht,_,hv⟩
   ·grind
  obtain⟨rfl,p,hp⟩:=key kt v h;rw[A6 hp];exact QG _ _ _ fun q hq=>(key _ _ (he q hq)).2
 JD:=fun g v h hh first cap hp hk=>by
  have h:(match Nat.beq g 28 with|true=>some (AV.v (.int .i64 0))|false=>none)=some v:=h;split at h
  ·rename_i e;obtain rfl:=oJ_ h;rw[Nat.eq_of_beq_eq_true e];exact TU hp hk
  ·grind
 z7:=ht
 ext:=fun g l r h=>by
  have h:JV cl g l=some r:=h;unfold JV at h;split at h
  ·rename_i hm;split at h
   ·obtain rfl:=oJ_ h;exact⟨ah.emp (hc g hm),.sl (fun row h=>by grind),trivial⟩
   ·grind
  ·grind
 nat:=fun g l v h=>by cases h
end
end
section
set_option maxRecDepth 100000
structure Xf where
 n:Nat
 c:QC × List QR
 m:Nat
 h:wu Tryz.prog n c m
noncomputable def zx {n:Nat}{f:Func}{q:QC × List QR}(hf:Tryz.prog.funcs[n]?=some f) (hc:∀ (xs:Array Value) (w:World),(callFunc n xs).run Tryz.prog w=.ok (.enter n xs) w) (hq:NS Tryz.progTables f=some q:=by conv=>lhs;cbv) (hT:Tryz.prog.toTables=Tryz.progTables:=by rfl) (hd:AD Tryz.prog f=true:=by kernel_rfl):Xf:=⟨n,q,f.ntmps,wu.of hf hq hT rfl hd hc⟩
noncomputable def Oc:List Xf->Tr ((QC × List QR) × Nat)
 |[]=>.nil
 |x::l=>put (Oc l) x.n (x.c,x.m)
theorem JW {g:Nat}{c:QC × List QR}{n:Nat}:∀ {l:List Xf},gz (Oc l) g=some (c,n)->wu Tryz.prog g c n
 |[],h=>by cases h
 |x::l,h=>by
  rw[Oc,lO] at h;split at h
  ·rename_i e;injection h with h;injection h with h1 h2;subst e h1 h2;exact x.h
  ·exact JW h
end
section
set_option maxRecDepth 100000
noncomputable def xp6:=zx Tryz.func6 Tryz.call6
noncomputable def ah5:=zx Tryz.func12 Tryz.call12
noncomputable def ah6:=zx Tryz.func15 Tryz.call15
noncomputable def ah7:=zx Tryz.func18 Tryz.call18
noncomputable def ah8:=zx Tryz.func27 Tryz.call27
noncomputable def ah9:=zx Tryz.func31 Tryz.call31
noncomputable def ah_:=zx Tryz.func34 Tryz.call34
noncomputable def aia:=zx Tryz.func37 Tryz.call37
noncomputable def aib:=zx Tryz.func40 Tryz.call40
noncomputable def aic:=zx Tryz.func43 Tryz.call43
noncomputable def aid:=zx Tryz.func46 Tryz.call46
noncomputable def aie:=zx Tryz.func61 Tryz.call61
noncomputable def aif:=zx Tryz.func65 Tryz.call65
noncomputable def aih:=zx Tryz.func68 Tryz.call68
noncomputable def aii:=zx Tryz.func71 Tryz.call71
noncomputable def aij:=zx Tryz.func74 Tryz.call74
noncomputable def aik:=zx Tryz.func77 Tryz.call77
noncomputable def ail:=zx Tryz.func80 Tryz.call80
noncomputable def adA:=zx Tryz.func105 Tryz.call105
noncomputable def adB:=zx Tryz.func108 Tryz.call108
noncomputable def adC:=zx Tryz.func112 Tryz.call112
noncomputable def adD:=zx Tryz.func116 Tryz.call116
noncomputable def adE:=zx Tryz.func122 Tryz.call122
noncomputable def adF:=zx Tryz.func125 Tryz.call125
noncomputable def adG:=zx Tryz.func129 Tryz.call129
noncomputable def adH:=zx Tryz.func132 Tryz.call132
noncomputable def adI:=zx Tryz.func140 Tryz.call140
noncomputable def adJ:=zx Tryz.func177 Tryz.call177
noncomputable def adK:=zx Tryz.func183 Tryz.call183
noncomputable def adL:=zx Tryz.func186 Tryz.call186
noncomputable def adM:=zx Tryz.func189 Tryz.call189
noncomputable def adN:=zx Tryz.func192 Tryz.call192
noncomputable def adO:=zx Tryz.func214 Tryz.call214
noncomputable def adP:=zx Tryz.func218 Tryz.call218
noncomputable def adQ:=zx Tryz.func227 Tryz.call227
noncomputable def adR:=zx Tryz.func231 Tryz.call231
noncomputable def adS:=zx Tryz.func239 Tryz.call239
noncomputable def adT:=zx Tryz.func254 Tryz.call254
noncomputable def adU:=zx Tryz.func264 Tryz.call264
noncomputable def adV:=zx Tryz.func272 Tryz.call272
noncomputable def adW:=zx Tryz.func288 Tryz.call288
end
section
set_option maxRecDepth 100000
noncomputable def xp7:=zx Tryz.func7 Tryz.call7
noncomputable def aim:=zx Tryz.func13 Tryz.call13
noncomputable def ain:=zx Tryz.func16 Tryz.call16
noncomputable def aio:=zx Tryz.func19 Tryz.call19
noncomputable def aip:=zx Tryz.func29 Tryz.call29
noncomputable def aiq:=zx Tryz.func32 Tryz.call32
noncomputable def air:=zx Tryz.func35 Tryz.call35
noncomputable def ais:=zx Tryz.func38 Tryz.call38
noncomputable def ait:=zx Tryz.func41 Tryz.call41
noncomputable def aiu:=zx Tryz.func44 Tryz.call44
noncomputable def aiv:=zx Tryz.func47 Tryz.call47
noncomputable def aiw:=zx Tryz.func62 Tryz.call62
noncomputable def aix:=zx Tryz.func66 Tryz.call66
noncomputable def aiy:=zx Tryz.func69 Tryz.call69
noncomputable def aiz:=zx Tryz.func72 Tryz.call72
noncomputable def aiA:=zx Tryz.func75 Tryz.call75
noncomputable def aiB:=zx Tryz.func78 Tryz.call78
noncomputable def aiC:=zx Tryz.func81 Tryz.call81
noncomputable def adX:=zx Tryz.func106 Tryz.call106
noncomputable def adY:=zx Tryz.func110 Tryz.call110
noncomputable def adZ:=zx Tryz.func113 Tryz.call113
noncomputable def ad0:=zx Tryz.func118 Tryz.call118
noncomputable def ad1:=zx Tryz.func123 Tryz.call123
noncomputable def ad2:=zx Tryz.func126 Tryz.call126
noncomputable def ad3:=zx Tryz.func130 Tryz.call130
noncomputable def ad4:=zx Tryz.func133 Tryz.call133
noncomputable def ad5:=zx Tryz.func168 Tryz.call168
noncomputable def ad6:=zx Tryz.func179 Tryz.call179
noncomputable def ad7:=zx Tryz.func184 Tryz.call184
noncomputable def ad8:=zx Tryz.func187 Tryz.call187
noncomputable def ad9:=zx Tryz.func190 Tryz.call190
noncomputable def ad_:=zx Tryz.func202 Tryz.call202
noncomputable def aea:=zx Tryz.func215 Tryz.call215
noncomputable def aeb:=zx Tryz.func223 Tryz.call223
noncomputable def aec:=zx Tryz.func228 Tryz.call228
noncomputable def aed:=zx Tryz.func232 Tryz.call232
noncomputable def aee:=zx Tryz.func252 Tryz.call252
noncomputable def aef:=zx Tryz.func255 Tryz.call255
noncomputable def aeg:=zx Tryz.func270 Tryz.call270
noncomputable def aeh:=zx Tryz.func273 Tryz.call273
noncomputable def aei:=zx Tryz.func302 Tryz.call302
end
section
set_option maxRecDepth 100000
noncomputable def xp9:=zx Tryz.func9 Tryz.call9
noncomputable def aiD:=zx Tryz.func14 Tryz.call14
noncomputable def aiE:=zx Tryz.func17 Tryz.call17
noncomputable def aiF:=zx Tryz.func25 Tryz.call25
noncomputable def aiG:=zx Tryz.func30 Tryz.call30
noncomputable def aiH:=zx Tryz.func33 Tryz.call33
noncomputable def aiI:=zx Tryz.func36 Tryz.call36
noncomputable def aiJ:=zx Tryz.func39 Tryz.call39
noncomputable def aiK:=zx Tryz.func42 Tryz.call42
noncomputable def aiL:=zx Tryz.func45 Tryz.call45
noncomputable def aiM:=zx Tryz.func59 Tryz.call59
noncomputable def aiN:=zx Tryz.func63 Tryz.call63
noncomputable def aiO:=zx Tryz.func67 Tryz.call67
noncomputable def aiP:=zx Tryz.func70 Tryz.call70
noncomputable def aiQ:=zx Tryz.func73 Tryz.call73
noncomputable def aiR:=zx Tryz.func76 Tryz.call76
noncomputable def aiS:=zx Tryz.func79 Tryz.call79
noncomputable def aiT:=zx Tryz.func82 Tryz.call82
noncomputable def aej:=zx Tryz.func107 Tryz.call107
noncomputable def aek:=zx Tryz.func111 Tryz.call111
noncomputable def ael:=zx Tryz.func115 Tryz.call115
noncomputable def aem:=zx Tryz.func120 Tryz.call120
noncomputable def aen:=zx Tryz.func124 Tryz.call124
noncomputable def aeo:=zx Tryz.func128 Tryz.call128
noncomputable def aep:=zx Tryz.func131 Tryz.call131
noncomputable def aeq:=zx Tryz.func139 Tryz.call139
noncomputable def aer:=zx Tryz.func171 Tryz.call171
noncomputable def aes:=zx Tryz.func181 Tryz.call181
noncomputable def aet:=zx Tryz.func185 Tryz.call185
noncomputable def aeu:=zx Tryz.func188 Tryz.call188
noncomputable def aev:=zx Tryz.func191 Tryz.call191
noncomputable def aew:=zx Tryz.func213 Tryz.call213
noncomputable def aex:=zx Tryz.func216 Tryz.call216
noncomputable def aey:=zx Tryz.func226 Tryz.call226
noncomputable def aez:=zx Tryz.func229 Tryz.call229
noncomputable def aeA:=zx Tryz.func233 Tryz.call233
noncomputable def aeB:=zx Tryz.func253 Tryz.call253
noncomputable def aeC:=zx Tryz.func263 Tryz.call263
noncomputable def aeD:=zx Tryz.func271 Tryz.call271
noncomputable def aeE:=zx Tryz.func287 Tryz.call287
end
section
set_option maxRecDepth 100000
noncomputable def xt:Tr ((QC × List QR) × Nat):=Oc [xp6,xp7,xp9,ah5,aim,aiD,ah6,ain,aiE,ah7,aio,aiF,ah8,aip,aiG,ah9,aiq,aiH,ah_,air,aiI,aia,ais,aiJ,aib,ait,aiK,aic,aiu,aiL,aid,aiv,aiM,aie,aiw,aiN,aif,aix,aiO,aih,aiy,aiP,aii,aiz,aiQ,aij,aiA,aiR,aik,aiB,aiS,ail,aiC,aiT,adA,adX,aej,adB,adY,aek,adC,adZ,ael,adD,ad0,aem,adE,ad1,aen,adF,ad2,aeo,adG,ad3,aep,adH,ad4,aeq,adI,ad5,aer,adJ,ad6,aes,adK,ad7,aet,adL,ad8,aeu,adM,ad9,aev,adN,ad_,aew,adO,aea,aex,adP,aeb,aey,adQ,aec,aez,adR,aed,aeA,adS,aee,aeB,adT,aef,aeC,adU,aeg,aeD,adV,aeh,aeE,adW,aei]
theorem QJ {g:Nat}{c:QC × List QR}{n:Nat}(h:gz xt g=some (c,n)):wu Tryz.prog g c n:=JW h
end
section
set_option maxRecDepth 100000
def uA:AV:=.sl false [[.v (.int .i64 1),.v (.int .i64 0),.v (.string ⟨#[]⟩),.sl false []]]
def uB:AV:=.sl false [[.v (.int .i64 1),.v (.int .i64 1),.v (.string ⟨#[]⟩),.sl false []]]
def uR:AV:=.aG [.sl false [[.v (.int .i64 1),.v (.int .i64 1),.v (.int .i64 0),.v (.string ⟨#[]⟩),.sl false []]],.v (.int .i64 0)]
theorem Ma:Pure uA/\Pure uB:=by
 have:∀ i,Pure (.sl false [[.v (.int .i64 1),.v (.int .i64 i),.v (.string ⟨#[]⟩),.sl false []]]):=fun i=>by
  refine .sl fun row hr a ha=>?_;obtain rfl:=List.mem_singleton.1 hr;simp only[List.mem_cons,List.not_mem_nil,or_false] at ha;rcases ha with rfl|rfl|rfl|rfl
  ·exact .v
  ·exact .v
  ·exact .v
  ·exact .sl fun row h=>by cases h
 exact⟨this _,this _⟩
def TV (g:Nat) (l:List AV):Option AV:=match Nat.beq g 79,l with
 |true,[a,b]=>match Cs 9 a uA,Cs 9 b uB with
  |true,true=>some uR
  |_,_=>none
 |_,_=>none
def mkU (t:Tr ((QC × List QR) × Nat)) (cl wm:List Nat):Env:={ mkE t cl wm with
 ext:=fun g l=>match JV cl g l with|some r=>some r|none=>TV g l
 fx:=fun g=>Nat.beq g 79 }
section
variable {w0:World}
theorem aa3 {t:Tr ((QC × List QR) × Nat)}{cl wm:List Nat}(ht:∀ g c n,gz t g=some (c,n)->wu Tryz.prog g c n) (hc:∀ g,lC g cl=true->∀ A c,ah Tryz.prog w0 g [.v (.slice A 0 c)] (.sl true [])) (hu:ah Tryz.prog w0 79 [uA,uB] uR):jj Tryz.prog w0 (mkU t cl wm) where
 seq:=(ud (wm:=wm) ht hc).seq
 key:=(ud (wm:=wm) ht hc).key
 JD:=(ud (wm:=wm) ht hc).JD
 z7:=(ud (wm:=wm) ht hc).z7
 nat:=(ud (wm:=wm) ht hc).nat
 ext:=fun g l r h=>by
  have h:(match JV cl g l with|some r=>some r|none=>TV g l)=some r:=h;split at h
  ·rename_i r' he;obtain rfl:=oJ_ h;exact (ud (wm:=wm) ht hc).ext g l r' he
  ·unfold TV at h;split at h
   ·rename_i hg a b;split at h
    ·rename_i ha hb;obtain rfl:=oJ_ h;have hg:=Nat.eq_of_beq_eq_true (by assumption);rw[hg,wq _ _ ha,wq _ _ hb];exact⟨hu,Ma.1,Ma.2,trivial⟩
    ·cases h
   ·cases h
end
end
end Go.Proofs.YtbpabjmnhggajaaGreat
