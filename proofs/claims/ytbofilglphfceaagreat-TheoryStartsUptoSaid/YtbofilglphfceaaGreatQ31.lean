import Derived.JoinedCond
import Derived.ProofKit
import Derived.RecoverIn
import Derived.TacticsIn
import Derived.TacticsInMore
import Derived.Test.YtbofilglphfceaaGreatRows
import Derived.Test.YtbofilglphfceaaGreatQ22
import Derived.Test.YtbofilglphfceaaGreatQ29
import Derived.Test.YtbofilglphfceaaGreatQ30
namespace Go.Proofs.YtbofilglphfceaaGreat
set_option linter.unusedVariables false
set_option linter.unusedSimpArgs false
open Go.RowKit
section
variable {P:Program}{w0:World}{S:ae}{r:AV}
theorem St.start (w:World):St w (fun b=>w.heap.size<=b) ⟨fun _=>0,fun _=>0,fun _=>False,fun b _=>b < w.heap.size,fun _ _=>False⟩ ae.none_ w :=
 have e0:∀ k o,¬ ae.none_.get k=some o:=fun k o h=>by simp [ae.none_] at h
 ⟨Below.refl _ _,fun _ h=>h,fun _ h=>h,fun k hk=>hk.elim,fun k o hk=>absurd hk (e0 k o),fun j k o p hj=>absurd hj (e0 j o),fun b q h=>h,fun b q h=>h,fun k J hk=>absurd hk (e0 k _),fun k J j o hk=>absurd hk (e0 k _),fun j k J J' hj=>absurd hj (e0 j _)⟩
theorem ah.calls {f:FuncId}{args:List AV}{x:Value}{bL:Array Value}{w:World}(h:ah P w f args (.v x)) (hA:jm ⟨fun _=>0,fun _=>0,fun _=>False,fun b _=>b < w.heap.size,fun _ _=>False⟩ w args bL) :
  Calls P f bL w fun e w'=>e=.returned x/\Below w.heap.size w w':=by
 obtain⟨_,S',_,h⟩:=h
 refine (callsIn_wide (n:=0).1 (h Fence.wide 0 _ _ bL w g7.wide (St.start w) hA)).mono ?_
 rintro e w' ⟨v,g',rfl,hr,hS,hE⟩
 obtain rfl:=ca hr
 exact⟨rfl,hS.base⟩
end
section
set_option maxRecDepth 100000
open Go.ChangeShapes Go.WideShapes Go.ChangeAt Go.RowKit
theorem laidOut:laidOutB Tryz.prog=true:=by kernel_rfl
theorem DY:mapsRowed Tryz.prog=true:=by kernel_rfl
theorem Qz:Tryz.prog.stopsHeard=true:=by kernel_rfl
theorem QA:Tryz.prog.mayEnter=true:=by kernel_rfl
theorem dB {a b:Bool}(h:a=true) (k:b=true):(a && b)=true:=by rw [h,k];rfl
end
section
set_option maxRecDepth 100000
attribute [local irreducible] ah bc ad ab
def Ph:CF Tryz.f207:=⟨_,by conv=>lhs;cbv⟩
theorem Ya:aH Tryz.prog 207 Ph.1 Tryz.f207.ntmps:=aQ Tryz.func207 Ph.2 Tryz.call207
def LZ:List Nat:=[1,2,0]
def Pj:CF Tryz.f208:=⟨_,by conv=>lhs;cbv⟩
theorem Yb:aH Tryz.prog 208 Pj.1 Tryz.f208.ntmps:=aQ Tryz.func208 Pj.2 Tryz.call208
def L0:List Nat:=[1,2,0]
def Pk:CF Tryz.f130:=⟨_,by conv=>lhs;cbv⟩
theorem Yc:aH Tryz.prog 130 Pk.1 Tryz.f130.ntmps:=aQ Tryz.func130 Pk.2 Tryz.call130
def L4:List Nat:=[3,1,2,0]
def Pl:CF Tryz.f282:=⟨_,by conv=>lhs;cbv⟩
theorem Yd:aH Tryz.prog 282 Pl.1 Tryz.f282.ntmps:=aQ Tryz.func282 Pl.2 Tryz.call282
def nT:List Nat:=[5,4,3,2,0,1,11]
def Pm:CF Tryz.f209:=⟨_,by conv=>lhs;cbv⟩
theorem Ye:aH Tryz.prog 209 Pm.1 Tryz.f209.ntmps:=aQ Tryz.func209 Pm.2 Tryz.call209
def gK:List Nat:=[5,3,7,1,4,6,2,0,13,28]
section
variable {w0:World}{ρ:Hd}
theorem vQ (r:Rl) (h:r.aV.length+r.rem.length<=549755813888):ah Tryz.prog w0 207 [rl ρ r] (eO ρ (r.aV++r.rem)):=by
 obtain⟨n,ke,re,g,b,v⟩:=r
 dsimp only at h ⊢
 obtain⟨R,hR⟩:∃ R,R=ke++re:=⟨_,rfl⟩
 rw [<-hR]
 refine Ya.aG (by simp [Tryz.ntmps207]) ((gy _)) ?_
 refine gq LZ ?_
 refine ab.OL (f:=atR ρ) (ys:=ke) rfl rfl rfl (fun _=>rfl) (by omega) fun acc len rM hlen=>?_
 refine gq LZ ?_
 refine ab.Ga (f:=atR ρ) (ys:=re) rfl rfl rfl hlen (fun _=>rfl) rfl (fun _=>rfl) (fun _=>rfl) (by rw [hlen,rM];omega) fun dE i_ yt py=>?_
 refine gq LZ ?_
 refine ab.fin (by conv=>lhs;cbv) ?_
 obtain rfl:dE=R:=by rw [yt,rM,hR]
 exact aU.grow rfl py
theorem zO (r:Rl) (h:r.guard.length+r.body.length<=549755813888):ah Tryz.prog w0 208 [rl ρ r] (cO ρ (r.guard++r.body)):=by
 obtain⟨n,ke,re,g,b,v⟩:=r
 dsimp only at h ⊢
 obtain⟨R,hR⟩:∃ R,R=g++b:=⟨_,rfl⟩
 rw [<-hR]
 refine Yb.aG (by simp [Tryz.ntmps208]) ((bw _)) ?_
 refine gq L0 ?_
 refine ab.OL (f:=BF ρ) (ys:=g) rfl rfl rfl (fun _=>rfl) (by omega) fun acc len rM hlen=>?_
 refine gq L0 ?_
 refine ab.Ga (f:=BF ρ) (ys:=b) rfl rfl rfl hlen (fun _=>rfl) rfl (fun _=>rfl) (fun _=>rfl) (by rw [hlen,rM];omega) fun dE i_ yt py=>?_
 refine gq L0 ?_
 refine ab.fin (by conv=>lhs;cbv) ?_
 obtain rfl:dE=R:=by rw [yt,rM,hR]
 exact aU.grow rfl py
theorem JS (r:Rl) (h:r.aV.length+r.rem.length<=549755813888):ah Tryz.prog w0 130 [rl ρ r] (eO ρ (r.aV++r.rem)):=by
 obtain⟨n,ke,re,g,b,v⟩:=r
 dsimp only at h ⊢
 obtain⟨R,hR⟩:∃ R,R=ke++re:=⟨_,rfl⟩
 rw [<-hR]
 refine Yc.aG (by simp [Tryz.ntmps130]) ((gy _)) ?_
 refine gq L4 ?_
 refine ab.Nb (f:=atR ρ) (ys:=ke) rfl rfl rfl (fun _=>rfl) (by omega) fun acc len rM hlen=>?_
 refine gq L4 ?_
 refine ab.F_ (f:=atR ρ) (ys:=re) rfl rfl rfl hlen (fun _=>rfl) rfl (fun _=>rfl) (fun _=>rfl) (by rw [hlen,rM];omega) fun dE i_ yt py=>?_
 refine gq L4 ?_
 refine ab.fin (by conv=>lhs;cbv) ?_
 obtain rfl:dE=R:=by rw [yt,rM,hR]
 exact aU.grow rfl py
end
end
section
set_option maxRecDepth 100000
attribute [local irreducible] ah bc ad ab
def Pn:CF Tryz.f102:=⟨_,by conv=>lhs;cbv⟩
theorem Yf:aH Tryz.prog 102 Pn.1 Tryz.f102.ntmps:=aQ Tryz.func102 Pn.2 Tryz.call102
def Gq:List Nat:=[0,5,1]
def Gr (e:Int):Value:=.iface 221 (.agg #[.int .i64 e])
def lr (e:Int):List PanicEntry:=[{ v:=Gr e,recovered:=false }]
section
variable {w0:World}{ρ:Hd}
theorem Ul (b:Bool) (e:Int):Bm Tryz.prog w0 102 [.v (.bool b),iv e] b (.bg []) (lr e):=by
 refine aH.Nl Yf (by simp [Tryz.ntmps102]) (.bg fun a ha=>by cases ha) ?_
 cases b
 ·refine gq Gq ?_
  refine ab.op rfl (ad.zp rfl (by kernel_rfl)) ?_
  refine gq Gq ?_
  refine ab.ug rfl (pS.ug rfl) ?_
  refine gq Gq ?_
  exact ab.Sr rfl ⟨rfl,rfl⟩
 ·refine gq Gq ?_
  exact ab.ui rfl (by conv=>lhs;cbv) ⟨rfl,aU.of_eq rfl⟩
end
end
section
set_option maxRecDepth 100000
attribute [local irreducible] ah bc ad ab
def tn (w0:World) (f:FuncId) (args:List AV) (E:Int):Prop:=Bm Tryz.prog w0 f args (decide (E=0)) (.bg []) (lr E)
section
variable {w0:World}{ρ:Hd}{rd:Bool}{n:Nat}{α:AA}{S S':ae}{Q:Exit->AA->ae->Prop}{l:List QI}{K:List iC}{r:AV}{ex:Exit}
theorem Bt {f:FuncId}{q:QC × List QR}{args:List AV}{E:Int}(F:aH Tryz.prog f q n) (bA:args.length<=n) (h:ab Tryz.prog w0 false n (uh q.2 (fun r' S=>decide (E=0)=true/\aU S r' (.bg [])) (fun wa S=>decide (E=0)=false/\wa=lr E)) (.run q.1 []) ⟨kg args,[]⟩ ae.none_):tn w0 f args E :=
 aH.Nl F bA (.bg fun a ha=>by cases ha) h
theorem xl {qs:List QR}{E:Int}(he:Bl ex=true) (h:sU qs ex α S=some (.bg [],S')) (k:E=0):ab Tryz.prog w0 rd n (uh qs (fun r' S=>decide (E=0)=true/\aU S r' (.bg [])) (fun wa S=>decide (E=0)=false/\wa=lr E)) (.out ex []) α S :=
 ab.ui he h ⟨decide_eq_true k,.refl _⟩
theorem jZ {qs:List QR}{E e:Int}(hd:α.df=[]) (hz:decide (e=0)=false) (k:E=e):ab Tryz.prog w0 rd n (uh qs (fun r' S=>decide (E=0)=true/\aU S r' (.bg [])) (fun wa S=>decide (E=0)=false/\wa=lr E)) (.out (.panic (lr e)) []) α S :=
 ab.Sr hd ⟨by rw [k];exact hz,by rw [k]⟩
theorem ab.lM {b:Bool}{e:Int}{d:Option Nat}{gd:Option (Nat × Bool)}{f:QO}{kz:List QO}(hw:cj α.tm gd=some true) (h:eL (f.ev α.tm) (kz.map (·.ev α.tm))=some (102,[.v (.bool b),.v (.int .i64 e)]))
  (k1:b=true->ab Tryz.prog w0 rd n Q (.bD false l K) (cD d α (.bg [])) S) (k2:b=false->ab Tryz.prog w0 rd n Q (.out (.panic (lr e)) K) α S):ab Tryz.prog w0 rd n Q (.bD false (⟨d,gd,.call f kz⟩::l) K) α S :=
 ab.vD hw h (Ul b e) ⟨.v,.v,trivial⟩ (.bg fun a ha=>by cases ha) (ff.refl _ _) k1 k2
theorem ab.lZ {E:Int}{d:Option Nat}{gd:Option (Nat × Bool)}{f:QO}{kz:List QO}{g:FuncId}{args:List AV}(hw:cj α.tm gd=some true) (h:eL (f.ev α.tm) (kz.map (·.ev α.tm))=some (g,args)) (hc:tn w0 g args E) (hp:db args)
  (k1:E=0->ab Tryz.prog w0 rd n Q (.bD false l K) (cD d α (.bg [])) S) (k2:¬ E=0->ab Tryz.prog w0 rd n Q (.out (.panic (lr E)) K) α S):ab Tryz.prog w0 rd n Q (.bD false (⟨d,gd,.call f kz⟩::l) K) α S :=
 ab.vD hw h hc hp (.bg fun a ha=>by cases ha) (ff.refl _ _) (fun h=>k1 (of_decide_eq_true h)) (fun h=>k2 (of_decide_eq_false h))
end
def Po:CF Tryz.f190:=⟨_,by conv=>lhs;cbv⟩
theorem Yg:aH Tryz.prog 190 Po.1 Tryz.f190.ntmps:=aQ Tryz.func190 Po.2 Tryz.call190
def Um:List Nat:=[0,2]
def Pp:CF Tryz.f271:=⟨_,by conv=>lhs;cbv⟩
theorem Yh:aH Tryz.prog 271 Pp.1 Tryz.f271.ntmps:=aQ Tryz.func271 Pp.2 Tryz.call271
def Un:List Nat:=[3,0,2,1]
def Pq:CF Tryz.f188:=⟨_,by conv=>lhs;cbv⟩
theorem Yi:aH Tryz.prog 188 Pq.1 Tryz.f188.ntmps:=aQ Tryz.func188 Pq.2 Tryz.call188
def Gs:List Nat:=[0,4,1,6,2]
def Pr:CF Tryz.f189:=⟨_,by conv=>lhs;cbv⟩
theorem Yj:aH Tryz.prog 189 Pr.1 Tryz.f189.ntmps:=aQ Tryz.func189 Pr.2 Tryz.call189
def oU:List Nat:=[8,5,1,7,9,6,14,0]
def lu (o:Int):Bool:=decide (5<=o) && decide (o<=12)
def named (n:ByteArray) (d:Dc):Bool:=d.n.toList == n.toList
def kC (ds:List Dc) (n:ByteArray) (a:Int):Int:=if ds.any (named n) then (if ef ds n a then 0 else 9) else 7
def lZ (ds:List Dc) (g:Gl):Int:=if g.op=0 then kC ds g.n g.a.length else 0
def bh (e k:Int):Int:=if e=0 then k else e
theorem bu {e k:Int}(h:e=0):bh e k=k:=by rw [bh,if_pos h]
theorem cE {e k:Int}(h:¬ e=0):bh e k=e:=by rw [bh,if_neg h]
def fX (ds:List Dc):List Gl->Int
 |[]=>0
 |g::l=>bh (lZ ds g) (fX ds l)
section
variable {w0:World}{ρ:Hd}
theorem JT (o:Int):ah Tryz.prog w0 190 [iv o] (.v (.bool (lu o))):=by
 refine Yg.aG (by simp [Tryz.ntmps190]) (.v) ?_
 refine gq Um ?_
 repeat' (first
  |(refine bq (fun hb=>?_) (fun hb=>?_)<;>(try simp only [aq] at hb)<;>(first|refine gq Um ?_))
  |(refine fq ?_))
 all_goals (subst_vars;refine aC ?_;rw [lu,Bool.eq_iff_iff];simp;omega)
theorem Rj (d:Dc) (n:ByteArray):ah Tryz.prog w0 271 [dc d,.ip [.v (.string n)]] (.v (.bool (named n d))):=by
 obtain⟨dn,da⟩:=d
 refine Yh.aG (by simp [Tryz.ntmps271]) (.v) ?_
 refine gq Un ?_
 repeat' (first
  |(refine bq (fun hb=>?_) (fun hb=>?_)<;>(try simp only [aq] at hb)<;>(first|refine gq Un ?_))
  |(refine fq ?_))
 all_goals (subst_vars;refine aC ?_;unfold named;simp_all)
theorem zP (ds:List Dc) (n:ByteArray) (a:Int) (hd:ds.length<=1099511627776):tn w0 188 [dG ρ ds,.v (.string n),iv a] (kC ds n a):=by
 have hF:Pure (.fn (.func 271) [] [.ip [.v (.string n)]]):=.fn (fun a ha=>by cases ha) fun a ha=>by obtain rfl:=List.mem_singleton.1 ha;exact .ip fun b hb=>by obtain rfl:=List.mem_singleton.1 hb;exact .v
 have h1:=TH (w0:=w0) (ρ:=ρ) (named n) ds _ [] _ hd hF (fun x _=>⟨_,_,rfl,⟨zD x,.ip fun b hb=>by obtain rfl:=List.mem_singleton.1 hb;exact .v,trivial⟩,Rj x n⟩)
 have h2:=te (w0:=w0) (ρ:=ρ) ds n a hd
 unfold kC
 obtain⟨b1,e1⟩:∃ b,b=ds.any (named n):=⟨_,rfl⟩
 obtain⟨b2,e2⟩:∃ b,b=ef ds n a:=⟨_,rfl⟩
 rw [<-e1] at h1
 rw [<-e2] at h2
 rw [<-e1,<-e2]
 clear e1 e2
 refine Bt Yi (by simp [Tryz.ntmps188]) ?_
 refine gq Gs ?_
 repeat' (first
  |(refine ab.op rfl (ad.pf rfl h1 ⟨bU _,hF,trivial⟩ .v ⟨.refl _,aU.fns trivial ⟨aU.box (cs:=[.v (.string n)]) (cs':=[.v (.string n)]) rfl ⟨.refl _,trivial⟩,trivial⟩,trivial⟩) ?_;refine gq Gs ?_)
  |(refine ab.op rfl (ad.ag rfl h2 ⟨bU _,.v,.v,trivial⟩) ?_;refine gq Gs ?_)
  |(refine ab.lM rfl rfl (fun hb=>?_) (fun hb=>?_)<;>(try simp only [aq] at hb)<;>(first|refine gq Gs ?_))
  |(refine xl rfl (by conv=>lhs;cbv) ?_)
  |(refine jZ rfl (by first|rfl ) ?_)
  )
 all_goals (subst_vars;simp)
theorem E_ (ds:List Dc) (l:List Gl) (hd:ds.length<=1099511627776) (hl:l.length<=1099511627776) (hz:∀ g ∈ l,g.a.length<=1099511627776):tn w0 189 [dG ρ ds,cO ρ l] (fX ds l):=by
 obtain⟨R,hR⟩:∃ R,R=fX ds l:=⟨_,rfl⟩
 rw [<-hR]
 refine Bt Yj (by simp [Tryz.ntmps189]) ?_
 refine gq oU ?_
 repeat' (first
  |(refine aB fun m hm=>?_;(try rw [af] at hm);refine gq oU ?_)
  )
 refine ab.aP (σ:=Int) 0 0 [] (fun i=>[(0,dG ρ ds),(6,cO ρ l),(7,.v (.int .i64 m)),(8,.v (.int .i64 i))]) [] (fun _=>[]) (fun i=>∃ k:Nat,i=k/\k<=l.length/\R=fX ds (l.drop k)) (fun i=>l.length - i.toNat) 0 ⟨0,rfl,by simp,by simpa using hR⟩ rfl cq ?_
 rintro i ⟨k,hi,hk,hp⟩
 clear hR
 refine gq oU ?_
 by_cases au:k < l.length
 ·obtain⟨x,hx,aO⟩:=az au
  rw [aO,fX] at hp
  have jG:=hz x (List.mem_of_getElem? hx)
  obtain⟨o,n,a⟩:=x
  dsimp only at jG
  have hD:=zP (w0:=w0) (ρ:=ρ) ds n a.length hd
  have hC:lZ ds ⟨o,n,a⟩=if o=0 then kC ds n a.length else 0:=rfl
  obtain⟨D,JU⟩:∃ D,D=kC ds n a.length:=⟨_,rfl⟩
  rw [<-JU] at hC hD
  obtain⟨C,wv⟩:∃ C,C=lZ ds ⟨o,n,a⟩:=⟨_,rfl⟩
  rw [<-wv] at hC hp
  obtain⟨q,hq⟩:∃ q:Int,q=a.length:=⟨_,rfl⟩
  rw [<-hq] at hD
  clear JU wv
  repeat' (first
   |(refine ab.op rfl (ad.ind rfl rfl (ay (l:=l) hi hx) (aw fun _=>rfl)) ?_;refine gq oU ?_)
   |(refine ab.int rfl (ad.len rfl) fun m hm=>?_;rw [af] at hm;obtain rfl:m=q:=(by omega);refine gq oU ?_)
   |(refine ab.lZ rfl rfl (hD) (by repeat' (first|exact trivial|(refine⟨?_,?_⟩;(first|exact .v|exact bU _ )))) (fun he=>?_) (fun he=>?_)<;>refine gq oU ?_)
   |(refine ab.oR ?_;refine gq oU ?_)
   |(refine xl rfl (by conv=>lhs;cbv) ?_)
   |(refine jZ rfl (by first|exact decide_eq_false (by assumption)) ?_)
   |(refine bq (fun hb=>?_) (fun hb=>?_)<;>(try simp only [aq] at hb)<;>(first|refine gq oU ?_))
   |(refine aS fun _ _=>?_;refine gq oU ?_)
   |(refine ab.ao ?_;refine gq oU ?_)
   )
  all_goals first
   |(exfalso;omega)
   |(have e:C=0:=by (rw [hC];simp_all)
     rw [bu e] at hp;(refine ab.aL (σ:=Int) _ [] ?_ ?_ cq<;>first|omega|exact⟨k+1,by omega,by omega,hp⟩))
   |(have e:C=D:=by (rw [hC];simp_all)
     rw [cE (by omega)] at hp;rw [hp,e])
 ·skip
  repeat' (first
   |(refine xl rfl (by conv=>lhs;cbv) ?_)
   |(refine bq (fun hb=>?_) (fun hb=>?_)<;>(try simp only [aq] at hb)<;>(first|refine gq oU ?_))
   |(refine ab.ao ?_;refine gq oU ?_)
   )
  all_goals first
   |(exfalso;omega)
   |(rw [hp,List.drop_eq_nil_of_le (by omega)];rfl)
end
end
def L5 (n:Nat) (s:XS) (a b:AV):Option XS:=match a with
 |.pt k sz i j=>match (ez s).get k with
  |some (.arr sz' rows 0 ex)=>match Nat.beq sz sz' && fD cn (aZ b) && Nat.beq n (aZ b).length with
   |true=>match rows[i]? with
    |some row=>match Nat.ble (j+(aZ b).length) row.length with
     |true=>some (lD s k (some (.arr sz (rows.set i (nK row j (aZ b))) 0 ex)))
     |false=>none
    |none=>none
   |false=>none
  |_=>none
 |_=>none
def Gt (sz by_:Nat) (s:XS) (a b:AV):Option (AV × XS):=match dh (ez s) b with
 |none=>none
 |some more=>match dZ s.yk s.nx with
  |true=>none
  |false=>match a with
   |.sl true rows=>match more with
    |[]=>some (.sl true rows,s)
    |x::more=>match jB sz rows && jB sz (x::more) && Nat.ble ((rows.length+(x::more).length)*by_) 35184372088832 with
     |true=>some (.ob s.nx sz 0 (rows.length+(x::more).length) none,j5 s (.arr sz (rows++x::more) 0 false))
     |false=>none
   |.ob k sz' off len cx=>match (ez s).get k with
    |some (.arr fO rows fz ex)=>match more with
     |[]=>match off,cx,Nat.beq fO sz' with
      |0,none,true=>some (.ob k sz' 0 len none,s)
      |_,_,_=>none
     |x::more=>match Nat.beq fO sz && Nat.beq sz' sz && jB sz (x::more) && qq cn (x::more) && Nat.ble ((len+(x::more).length)*by_) 35184372088832 && Nat.ble fz len && Nat.ble (off+len) rows.length with
      |true=>match cx with
       |none=>match off with
        |0=>some (.ob s.nx sz 0 (len+(x::more).length) none,j5 (lD s k none) (.arr sz (rows.take len++x::more) fz false))
        |_=>none
       |some c=>match Nat.beq c len with
        |true=>some (.ob s.nx sz 0 (len+(x::more).length) none,j5 s (.arr sz ((rows.drop off).take len++x::more) 0 false))
        |false=>none
      |false=>none
    |_=>none
   |_=>none
def yu:List (Value × AV)->Bool
 |[]=>true
 |(.int .i64 _,_)::l=>yu l
 |_=>false
def qy (dr:Bool) (q:dm) (f:Nat->AV) (s:XS):Option (AV × XS) :=
 match q with
 |.load k x=>match kQ k (ez s) (x.ev f) with
  |some a=>some (a,s)
  |none=>none
 |.alloc cs=>match dZ s.yk s.nx with
  |false=>some (.pt s.nx cs.length 0 0,j5 s (.arr cs.length [cs] 0 true))
  |true=>none
 |.box x=>match dZ s.yk s.nx,fD cn (aZ (x.ev f)) with
  |false,true=>some (.pt s.nx (aZ (x.ev f)).length 0 0,j5 s (.arr (aZ (x.ev f)).length [aZ (x.ev f)] 0 true))
  |_,_=>none
 |.store n x b=>match L5 n s (x.ev f) (b.ev f) with
  |some s'=>some (.v undef,s')
  |none=>none
 |.append sz by_ a b=>Gt sz by_ s (a.ev f) (b.ev f)
 |.j8 z by_ l c=>match l.ev f,c.ev f with
  |.v (.int _ i),.v (.int _ j)=>match decide (0<=i/\i=j/\i*by_<=35184372088832/\i<=9223372036854775807) && !dZ s.yk s.nx with
   |true=>some (.ob s.nx z.length 0 i.toNat none,j5 s (.arr z.length (List.replicate i.toNat z) 0 true))
   |false=>none
  |_,_=>none
 |.fH x=>match dr,dZ s.yk s.nx,x with
  |false,false,none=>some (.mp s.nx,j5 s (.mp []))
  |false,false,some x=>match x.ev f with
   |.v (.int _ _)=>some (.mp s.nx,j5 s (.mp []))
   |_=>none
  |_,_,_=>none
 |.look z c x i=>match dr,x.ev f,i.ev f with
  |false,.mp k,.v (.int .i64 m)=>match (ez s).get k with
   |some (.mp es)=>match yu es with
    |true=>some ((match vC es m with|some a=>(if c then .bg [a,.v (.bool true)] else a)|none=>(if c then .bg [z,.v (.bool false)] else z)),s)
    |false=>none
   |_=>none
  |_,_,_=>none
 |.jL x i b=>match x.ev f,i.ev f with
  |.mp k,.v (.int .i64 m)=>match (ez s).get k with
   |some (.mp es)=>match yu es with
    |true=>some (.v undef,lD s k (some (.mp (wP es m (b.ev f)))))
    |false=>none
   |_=>none
  |_,_=>none
 |.uP x=>match x.ev f,dZ s.yk s.nx with
  |.v (.string z),false=>some (.pt s.nx 0 0 0,j5 s (.si z 0))
  |_,_=>none
 |.pz x=>match x.ev f with
  |.pt k _ 0 0=>match (ez s).get k with
   |some (.si z pos)=>match Nat.blt pos z.size with
    |true=>some (.bg [.v (.bool true),.v (.int .i64 pos),.v (.int .i32 (Utf8.decode z pos).1)],lD s k (some (.si z (pos+(Utf8.decode z pos).2))))
    |false=>some (.bg [.v (.bool false)],s)
   |_=>none
  |_=>none
 |q=>match qx dr q f with
  |some r=>some (r,s)
  |none=>none
section
variable {P:Program}{w0:World}{o:Op}{α:AA}{S S':ae}{r:AV}{dr:Bool}
theorem Fa {F:AV->Bool}:∀ {l:List AV},fD F l=true->l.all F=true:=fun h=>List.all_eq_true.2 (dF h)
theorem ad.sto {n:Nat}{x b:QO}{k sz i j:Nat}{ex:Bool}{rows:List (List AV)}{row:List AV}(hx:x.ev α.tm=.pt k sz i j) (hk:S.get k=some (.arr sz rows 0 ex)) (hc:(aZ (b.ev α.tm)).all cn=true) (hn:n=(aZ (b.ev α.tm)).length) (hi:rows[i]?=some row)
  (hj:j+(aZ (b.ev α.tm)).length<=row.length):ad P w0 dr (.store n x b) α S (.v undef) (S.set k (some (.arr sz (rows.set i (nK row j (aZ (b.ev α.tm)))) 0 ex))):=by
 refine ad.of rfl fun o hr=>?_
 cases o<;>simp only [res,dY] at hr<;>(repeat' split at hr)<;>(try cases hr)
 rename_i hs
 rw [aR] at hx hc hn hj ⊢
 simp only [bo,hx]
 refine bm.mk (a:=_) ?_ ⟨rfl,rfl⟩
 simp only [kI,hk,hs,hc,hn,Nat.beq_refl,Bool.and_self,hi,Nat.ble_eq_true_of_le hj]
theorem ad.abO {sz by_ k fz off len c:Nat}{ex:Bool}{a b:QO}{rows more:List (List AV)}{x:List AV}(h1:a.ev α.tm=.ob k sz off len (some c)) (hk:S.get k=some (.arr sz rows fz ex)) (hm:dh S (b.ev α.tm)=some (x::more)) (h0:c=len) (h2:off+len<=rows.length)
  (h3:∀ row ∈ x::more,row.length=sz) (h4:(len+(x::more).length)*by_<=35184372088832) :
  ad P w0 dr (.append sz by_ a b) α S (.ob S.nx sz 0 (len+(x::more).length) none) (S.new (.arr sz ((rows.drop off).take len++x::more) 0 false)):=by
 refine ad.append (cZ hm).1 (cZ hm).2 fun e z hz hs hb hp=>?_
 rw [h1]
 simp only [iM]
 refine bm.mk (p_ hk) ?_
 simp only [hs,hb,hp,Nat.beq_refl,Bool.and_self,Bool.true_and]
 exact⟨h0,h2,h3,h4,rfl,rfl⟩
theorem uQ:∀ {es:List (Value × AV)},yu es=true->rN es:=by
 intro es
 induction es with
 |nil=>intro h;intro p hp;cases hp
 |cons p es ih =>
  intro h
  obtain⟨v,a⟩:=p
  intro p hp
  unfold yu at h
  split at h
  ·cases ‹_::_=[]›
  ·rename_i e
   injection e with e1 e2
   injection e1 with e3 e4
   subst e2 e3 e4
   rcases List.mem_cons.1 hp with rfl|hp
   ·exact⟨_,rfl⟩
   ·exact ih h p hp
  ·cases h
section
variable {J:FJ}{s:XS}
theorem yw {k:LK}{a r:AV}(h:kQ k (ez s) a=some r):kQ k (den J s) a=some r:=by
 unfold kQ at h ⊢
 split at h
 ·exact h
 ·split at h
  ·rename_i hk
   rw [(du (J:=J) hk).1]
   exact h
  ·cases h
 ·cases h
theorem gL {b:AV}{l:List (List AV)}(h:dh (ez s) b=some l):dh (den J s) b=some l:=by
 obtain⟨h1,h2⟩:=cZ h
 have key:rowsOf (den J s) b=some l:=by
  unfold rowsOf at h1 ⊢
  split at h1
  ·exact h1
  ·split at h1
   ·rename_i hk
    rw [(du (J:=J) hk).1]
    exact h1
   ·cases h1
  all_goals first|exact h1|cases h1
 unfold dh
 rw [key,h2]
 simp only [Nat.beq_refl]
end
theorem Gu {n:Nat}{x b:QO}{f:Nat->AV}{df:List Nat}{s s':XS}(h:L5 n s (x.ev f) (b.ev f)=some s'):(∀ J,ad P w0 dr (.store n x b) ⟨f,df⟩ (den J s) (.v undef) (den J s'))/\dU s s'/\s'.lg=s.lg:=by
 unfold L5 at h
 split at h
 ·rename_i k sz i j hx
  split at h
  ·rename_i sz' rows ex hk
   split at h
   ·rename_i hc
    simp only [Bool.and_eq_true] at hc
    obtain⟨⟨h1,h2⟩,h3⟩:=hc
    have h1:=Nat.eq_of_beq_eq_true h1
    have h3:=Nat.eq_of_beq_eq_true h3
    subst h1
    split at h
    ·rename_i row hi
     split at h
     ·rename_i hj
      have hj:=Nat.le_of_ble_eq_true hj
      obtain rfl:=Option.some.inj h
      refine⟨fun J=>?_,.wr,rfl⟩
      obtain⟨iV,dS⟩:=du (J:=J) hk
      rw [j6 dS]
      exact ad.sto hx iV (Fa h2) h3 hi hj
     ·cases h
    ·cases h
   ·cases h
  ·cases h
 ·cases h
theorem yx {sz by_:Nat}{a b:QO}{f:Nat->AV}{df:List Nat}{s s':XS}(h:Gt sz by_ s (a.ev f) (b.ev f)=some (r,s')):(∀ J,ad P w0 dr (.append sz by_ a b) ⟨f,df⟩ (den J s) r (den J s'))/\dU s s'/\s'.lg=s.lg:=by
 unfold Gt at h
 split at h
 ·cases h
 ·rename_i more hm
  split at h
  ·cases h
  ·rename_i Uo
   split at h
   ·rename_i rows ha
    split at h
    ·simp only [Option.some.injEq,Prod.mk.injEq] at h
     obtain⟨rfl,rfl⟩:=h
     exact⟨fun J=>ad.Cz ha (gL hm),.refl _,rfl⟩
    ·rename_i x more
     split at h
     ·rename_i hc
      simp only [Bool.and_eq_true] at hc
      obtain⟨⟨h1,h2⟩,h3⟩:=hc
      simp only [Option.some.injEq,Prod.mk.injEq] at h
      obtain⟨rfl,rfl⟩:=h
      refine⟨fun J=>?_,.nw,rfl⟩
      rw [iq Uo]
      exact ad.zn ha (gL hm) (e8 h1) (e8 h2) (Nat.le_of_ble_eq_true h3)
     ·cases h
   ·rename_i k sz' off len cx ha
    split at h
    ·rename_i fO rows fz ex hk
     split at h
     ·split at h
      ·rename_i hb
       have hb:=Nat.eq_of_beq_eq_true hb
       subst hb
       simp only [Option.some.injEq,Prod.mk.injEq] at h
       obtain⟨rfl,rfl⟩:=h
       exact⟨fun J=>ad.Br ha (du (J:=J) hk).1 (gL hm),.refl _,rfl⟩
      ·cases h
     ·rename_i x more
      split at h
      ·rename_i hc
       simp only [Bool.and_eq_true] at hc
       obtain⟨⟨⟨⟨⟨⟨h1,h2⟩,h3⟩,h4⟩,h5⟩,h6⟩,h7⟩:=hc
       have h1:=Nat.eq_of_beq_eq_true h1
       have h2:=Nat.eq_of_beq_eq_true h2
       have h3:=e8 h3
       have h4:=jX h4
       have h5:=Nat.le_of_ble_eq_true h5
       have h6:=Nat.le_of_ble_eq_true h6
       have h7:=Nat.le_of_ble_eq_true h7
       subst h1 h2
       split at h
       ·split at h
        ·simp only [Option.some.injEq,Prod.mk.injEq] at h
         obtain⟨rfl,rfl⟩:=h
         refine⟨fun J=>?_,dU.wr.trans .nw,rfl⟩
         obtain⟨iV,dS⟩:=du (J:=J) hk
         rw [iq (s:=lD s k none) Uo,j6 dS]
         exact ad.FO ha iV (gL hm) h6 (by omega) (fun row hr=>⟨h3 row hr,List.all_eq_true.2 (h4 row hr)⟩) h5
        ·cases h
       ·split at h
        ·rename_i hc
         have hc:=Nat.eq_of_beq_eq_true hc
         simp only [Option.some.injEq,Prod.mk.injEq] at h
         obtain⟨rfl,rfl⟩:=h
         refine⟨fun J=>?_,.nw,rfl⟩
         rw [iq Uo]
         exact ad.abO ha (du (J:=J) hk).1 (gL hm) hc h7 h3 h5
        ·cases h
      ·cases h
    ·cases h
   ·cases h
theorem JV {q:dm}{f:Nat->AV}{df:List Nat}{s s':XS}(h:qy dr q f s=some (r,s')):(∀ J,ad P w0 dr q ⟨f,df⟩ (den J s) r (den J s'))/\dU s s'/\s'.lg=s.lg:=by
 have pure:∀ {q:dm},(match qx dr q f with|some r=>some (r,s)|none=>none)=some (r,s')->(∀ J,ad P w0 dr q ⟨f,df⟩ (den J s) r (den J s'))/\dU s s'/\s'.lg=s.lg:=fun {q} h=>by
  split at h
  ·rename_i r' hq
   simp only [Option.some.injEq,Prod.mk.injEq] at h
   obtain⟨rfl,rfl⟩:=h
   exact⟨fun J=>AI hq,.refl _,rfl⟩
  ·cases h
 cases q with
 |load k x =>
  simp only [qy] at h
  split at h
  ·rename_i a ha
   simp only [Option.some.injEq,Prod.mk.injEq] at h
   obtain⟨rfl,rfl⟩:=h
   exact⟨fun J=>ad.quiet (by simp only [gU,yw ha]),.refl _,rfl⟩
  ·cases h
 |alloc cs =>
  simp only [qy] at h
  split at h
  ·rename_i hy
   simp only [Option.some.injEq,Prod.mk.injEq] at h
   obtain⟨rfl,rfl⟩:=h
   refine⟨fun J=>ad.quiet ?_,.nw,rfl⟩
   rw [iq hy]
   simp only [gU,nU]
   rfl
  ·cases h
 |box x =>
  simp only [qy] at h
  split at h
  ·rename_i hy hc
   simp only [Option.some.injEq,Prod.mk.injEq] at h
   obtain⟨rfl,rfl⟩:=h
   refine⟨fun J=>ad.quiet ?_,.nw,rfl⟩
   rw [iq hy]
   simp only [gU,nU,Fa hc]
   rfl
  ·cases h
 |store n x b =>
  simp only [qy] at h
  split at h
  ·rename_i s1 hs
   simp only [Option.some.injEq,Prod.mk.injEq] at h
   obtain⟨rfl,rfl⟩:=h
   exact Gu hs
  ·cases h
 |append sz by_ a b=>exact yx h
 |j8 z by_ l c =>
  simp only [qy] at h
  split at h
  ·rename_i k1 i k2 j hl hc
   split at h
   ·rename_i hd
    simp only [Bool.and_eq_true,Bool.not_eq_true'] at hd
    have d_:=of_decide_eq_true hd.1
    simp only [Option.some.injEq,Prod.mk.injEq] at h
    obtain⟨rfl,rfl⟩:=h
    refine⟨fun J=>?_,.nw,rfl⟩
    rw [iq hd.2]
    exact ad.mks hl hc d_.1 d_.2.1 d_.2.2.1 d_.2.2.2
   ·cases h
  ·cases h
 |fH x =>
  simp only [qy] at h
  split at h
  ·rename_i hy
   simp only [Option.some.injEq,Prod.mk.injEq] at h
   obtain⟨rfl,rfl⟩:=h
   refine⟨fun J=>?_,.nw,rfl⟩
   rw [iq hy]
   exact ad.fH
  ·rename_i y hy
   split at h
   ·rename_i hx
    simp only [Option.some.injEq,Prod.mk.injEq] at h
    obtain⟨rfl,rfl⟩:=h
    refine⟨fun J=>?_,.nw,rfl⟩
    rw [iq hy]
    exact ad.xP hx
   ·cases h
  ·cases h
 |look z c x i =>
  simp only [qy] at h
  split at h
  ·rename_i k m hx hi
   split at h
   ·rename_i es hk
    split at h
    ·rename_i he
     simp only [Option.some.injEq,Prod.mk.injEq] at h
     obtain⟨rfl,rfl⟩:=h
     exact⟨fun J=>ad.look hx (du (J:=J) hk).1 (uQ he) hi,.refl _,rfl⟩
    ·cases h
   ·cases h
  ·cases h
 |jL x i b =>
  simp only [qy] at h
  split at h
  ·rename_i k m hx hi
   split at h
   ·rename_i es hk
    split at h
    ·rename_i he
     simp only [Option.some.injEq,Prod.mk.injEq] at h
     obtain⟨rfl,rfl⟩:=h
     refine⟨fun J=>?_,.wr,rfl⟩
     obtain⟨iV,dS⟩:=du (J:=J) hk
     rw [j6 dS]
     cases dr with
     |false=>exact ad.jL hx iV (uQ he) hi rfl
     |true=>exact ad.Bs hx iV (uQ he) hi rfl
    ·cases h
   ·cases h
  ·cases h
 |uP x =>
  simp only [qy] at h
  split at h
  ·rename_i z hx hy
   simp only [Option.some.injEq,Prod.mk.injEq] at h
   obtain⟨rfl,rfl⟩:=h
   refine⟨fun J=>?_,.nw,rfl⟩
   rw [iq hy]
   exact ad.SY hx
  ·cases h
 |pz x =>
  simp only [qy] at h
  split at h
  ·rename_i k sz hx
   split at h
   ·rename_i z pos hk
    split at h
    ·rename_i hp
     simp only [Option.some.injEq,Prod.mk.injEq] at h
     obtain⟨rfl,rfl⟩:=h
     refine⟨fun J=>?_,.wr,rfl⟩
     obtain⟨iV,dS⟩:=du (J:=J) hk
     rw [j6 dS]
     exact ad.F0 hx iV (dR hp)
    ·rename_i hp
     simp only [Option.some.injEq,Prod.mk.injEq] at h
     obtain⟨rfl,rfl⟩:=h
     refine⟨fun J=>ad.Up hx (du (J:=J) hk).1 ?_,.refl _,rfl⟩
     rcases Nat.lt_or_ge pos z.size with h1|h1
     ·have:Nat.blt pos z.size=true:=Nat.ble_eq_true_of_le h1
      rw [this] at hp;cases hp
     ·exact h1
   ·cases h
  ·cases h
 |_=>exact pure h
end
end Go.Proofs.YtbofilglphfceaaGreat
