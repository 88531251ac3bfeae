import Derived.Shelf.SlIterI.Collect
import Derived.Shelf.SlIterI.Sorted
import Derived.Shelf.SortM.Plain
import Derived.Shelf.SortM.SortNone
import Derived.Test.YtgjfgekaclobaaaGreatCa45
namespace Go.Proofs.YtgjfgekaclobaaaGreat
set_option linter.unusedVariables false
set_option linter.unusedSimpArgs false
open Go.RowKit
section
set_option maxRecDepth 100000
attribute [local irreducible] ah aK ae aa
end

theorem Hs (t:Tm):fX t=1+cN t.a:=by obtain⟨k,i,n,a⟩:=t;rw [fX];simp only;omega
mutual
def zN:Tm->Prop
 |⟨k,i,n,a⟩=>(k=1->0<=i/\i<=1099511627776)/\vK a
def vK:List Tm->Prop
 |[]=>True
 |x::l=>zN x/\vK l
end
section
set_option maxRecDepth 100000
attribute [local irreducible] ah aK ae aa
end
section
set_option maxRecDepth 100000
attribute [local irreducible] ah aK ae aa
end
section
set_option maxRecDepth 100000
attribute [local irreducible] ah aK ae aa
end
section
set_option maxRecDepth 100000
attribute [local irreducible] ah aK ae aa
structure Frm where
 g:Gl
 id:Int
 occ:Int
def frR (ρ:Hd) (x:Frm):List AV:=[iv x.g.op,.v (.string x.g.n),tl ρ x.g.a,iv x.id,iv x.occ]
def Oq (ρ:Hd) (l:List Frm):AV:=cE ρ (frR ρ) false l
end
section
set_option maxRecDepth 100000
attribute [local irreducible] ah aK ae aa
def abQ:CF Tryz.f57:=⟨_,by conv=>lhs;cbv⟩
theorem ak9:aT Tryz.prog 57 abQ.1 Tryz.f57.ntmps:=bX Tryz.func57 abQ.2 Tryz.call57
def th:List Nat:=[0,4,3,2,7,11,22]
def abR:CF Tryz.f56:=⟨_,by conv=>lhs;cbv⟩
theorem ak_:aT Tryz.prog 56 abR.1 Tryz.f56.ntmps:=bX Tryz.func56 abR.2 Tryz.call56
def wg:List Nat:=[3,0,2,7,16]
def abS:CF Tryz.f28:=⟨_,by conv=>lhs;cbv⟩
theorem ala:aT Tryz.prog 28 abS.1 Tryz.f28.ntmps:=bX Tryz.func28 abS.2 Tryz.call28
def tj:List Nat:=[0,5,4,1,9,13,22]
def vL (l:List Tm):Bool:=decide (l.length<=8) && decide (bw l<=60)
theorem zO (a b:List Tm):bw (a++b)=bw a+bw b:=by
 induction a with
 |nil=>simp [bw]
 |cons x a ih=>rw [List.cons_append,bw,bw,ih];omega
section
variable {w0:World}{ρ:Hd}
theorem PL (l:List Tm) (hl:l.length<=1099511627776) (hz:bw l<=1099511627776):ah Tryz.prog w0 57 [tl ρ l] (.v (.bool (vL l))):=by
 obtain⟨R,hR⟩:∃ R,R=vL l:=⟨_,rfl⟩
 rw [<-hR]
 unfold vL at hR
 refine ak9.bu (by simp [Tryz.ntmps57]) (.v) ?_
 refine gq th ?_
 repeat' (first
  |(refine bq (fun hb=>?_) (fun hb=>?_)<;>(try simp only [aM] at hb)<;>(first|refine gq th ?_))
  |(refine bL fun m hm=>?_;(try rw [aF] at hm);refine gq th ?_)
  |(refine fq ?_))
 ·rw [hR,decide_eq_false (by omega)];exact eQ rfl
 rw [decide_eq_true (by omega),Bool.true_and] at hR
 refine aa.bP (σ:=Int × Int) 0 0 [] (fun p=>[(0,tl ρ l),(3,.v (.int .i64 p.2)),(4,.v (.int .i64 p.1))]) [] (fun _=>[]) (fun p=>∃ k:Nat,p.1=k/\k<=l.length/\p.2=bw (l.take k)/\p.2<=60) (fun p=>l.length - p.1.toNat) (0,0) ⟨0,rfl,by simp,rfl,by simp⟩ rfl cq ?_
 rintro⟨i,c⟩ ⟨k,hi,hk,hp,hc⟩
 simp only at hi hp hc
 refine gq th ?_
 by_cases aA:k < l.length
 ·obtain⟨x,hx,cg⟩:=cd aA
  have ht:bw (l.take (k+1))=bw (l.take k)+dG x:=by
   rw [List.take_add_one,hx,zO]
   simp [bw]
  have hle:bw (l.take (k+1))<=bw l:=by
   have:=zO (l.take (k+1)) (l.drop (k+1))
   rw [List.take_append_drop] at this
   omega
  have hS:=XW (w0:=w0) (ρ:=ρ) _ x (Nat.le_refl _) (by omega)
  obtain⟨z,hz1⟩:∃ z,z=dG x:=⟨_,rfl⟩
  rw [<-hz1] at ht hS
  obtain⟨z1,hz2⟩:∃ z:Int,z=(dG x:Nat):=⟨_,rfl⟩
  clear cg
  have hxp:=cK (ρ:=ρ) x
  obtain⟨xk,xi,xn,xa⟩:=x
  repeat' (first
   |(refine aa.op rfl (ae.ind rfl rfl (lj (l:=l) hi hx) ll) ?_;refine gq th ?_)
   |(refine aa.int rfl (ae.aL rfl hS ⟨hxp,trivial⟩) fun _ _=>?_;refine gq th ?_)
   |(refine bq (fun hb=>?_) (fun hb=>?_)<;>(try simp only [aM] at hb)<;>(first|refine gq th ?_))
   |(refine bL fun m hm=>?_;(try rw [aF] at hm);refine gq th ?_)
   |(refine cr fun _ _=>?_;refine gq th ?_)
   |(refine aa.aR ?_;refine gq th ?_)
   |(refine aa.iB ?_;refine gq th ?_)
   |(refine fq ?_))
  all_goals first
   |(exfalso;omega)
   |(rw [hR,decide_eq_false (by omega)];exact eQ rfl)
   |(refine aa.bm (σ:=Int × Int) (_,_) [] ?_ ?_ cq
     ·exact⟨k+1,by simp only;omega,by omega,by simp only;omega,by simp only;omega⟩
     ·simp only;omega)
 ·have agH:l.take k=l:=List.take_of_length_le (by omega)
  rw [agH] at hp
  repeat' (first
   |(refine bq (fun hb=>?_) (fun hb=>?_)<;>(try simp only [aM] at hb)<;>(first|refine gq th ?_))
   |(refine bL fun m hm=>?_;(try rw [aF] at hm);refine gq th ?_)
   |(refine aa.aR ?_;refine gq th ?_)
   |(refine fq ?_))
  all_goals first
   |(exfalso;omega)
   |(rw [hR,decide_eq_true (by omega)];exact eQ rfl)
end
end
section
set_option maxRecDepth 100000
section
variable {w0:World}
theorem YI:∀ g,jS g [83,220,288,297,310]=true->∀ A c,ah Tryz.prog w0 g [.v (.slice A 0 c)] (.sl true []):=by
 have h0:fR Tryz.prog w0 (mkE xt [] []):=sj (fun _ _ _=>PK) fun g h=>by cases h
 intro g hg A c
 have hg:=AK hg
 simp only [List.mem_cons,List.not_mem_nil,or_false] at hg
 rcases hg with rfl|rfl|rfl|rfl|rfl<;>cases A<;>exact Env.bu h0 8 (by kernel_rfl)
noncomputable def xE:Env:=mkU xt [83,220,288,297,310] [83,84,137,220,255,288,297,310,366,388,393]
theorem bf (hu:ah Tryz.prog w0 292 [uA,uB] uR):fR Tryz.prog w0 xE:=abK (fun _ _ _=>PK) YI hu
end
end
section
set_option maxRecDepth 100000
def ix (n:Int):AV:=.v (.int .i64 n)
def bx (b:Bool):AV:=.v (.bool b)
def sx (l:List UInt8):AV:=.v (.string ⟨l.toArray⟩)
def S6:Bool->Bool->Bool
 |true,true=>true
 |false,false=>true
 |_,_=>false
theorem Ju:∀ {a b:Bool},S6 a b=true->a=b
 |true,true,_=>rfl
 |false,false,_=>rfl
def S7:Value->Value->Bool
 |.int .i64 a,.int .i64 b=>decide (a=b)
 |.bool a,.bool b=>S6 a b
 |.string a,.string b=>PG a.data.toList b.data.toList
 |_,_=>false
theorem YJ {a b:Value}(h:S7 a b=true):a=b:=by
 unfold S7 at h
 split at h
 ·rw [of_decide_eq_true h]
 ·rw [Ju h]
 ·rename_i a b
  rw [Hn,beq_iff_eq] at h
  congr 1
  cases a;cases b
  simp only [ByteArray.mk.injEq]
  exact Array.toList_inj.1 h
 ·cases h
def Dl (f:AV->AV->Bool):List AV->List AV->Bool
 |[],[]=>true
 |a::l,b::m=>match f a b with|true=>Dl f l m|false=>false
 |_,_=>false
theorem y4 {f:AV->AV->Bool}(hf:∀ a b,f a b=true->a=b):∀ {l m:List AV},Dl f l m=true->l=m
 |[],[],_=>rfl
 |a::l,b::m,h=>by
  unfold Dl at h
  split at h
  ·rename_i e;rw [hf _ _ e,y4 hf h]
  ·cases h
def Ns (f:AV->AV->Bool):List (List AV)->List (List AV)->Bool
 |[],[]=>true
 |a::l,b::m=>match Dl f a b with|true=>Ns f l m|false=>false
 |_,_=>false
theorem Jv {f:AV->AV->Bool}(hf:∀ a b,f a b=true->a=b):∀ {l m:List (List AV)},Ns f l m=true->l=m
 |[],[],_=>rfl
 |a::l,b::m,h=>by
  unfold Ns at h
  split at h
  ·rename_i e;rw [y4 hf e,Jv hf h]
  ·cases h
def PM:Nat->AV->AV->Bool
 |0,_,_=>false
 |n+1,a,b=>match a,b with
  |.v x,.v y=>S7 x y
  |.agg l,.agg m=>Dl (PM n) l m
  |.sl e l,.sl e' m=>match S6 e e' with|true=>Ns (PM n) l m|false=>false
  |_,_=>false
theorem Ht:∀ {n:Nat}{a b:AV},PM n a b=true->a=b
 |0,_,_,h=>by cases h
 |n+1,a,b,h=>by
  unfold PM at h
  split at h
  ·rw [YJ h]
  ·rw [y4 (fun a b=>Ht) h]
  ·split at h
   ·rename_i e;rw [Ju e,Jv (fun a b=>Ht) h]
   ·cases h
  ·cases h
abbrev Fa:=Nat × List AV × AV
def Dm (g:Nat) (az:List AV):List Fa->Option AV
 |[]=>none
 |f::fs=>match Nat.beq f.1 g with
  |true=>match Dl (PM 30) f.2.1 az with|true=>some f.2.2|false=>Dm g az fs
  |false=>Dm g az fs
section
variable {w0:World}
def aI (w0:World) (fs:List Fa):Prop:=∀ f ∈ fs,ah Tryz.prog w0 f.1 f.2.1 f.2.2/\dm f.2.1
theorem Dn {g:Nat}{az:List AV}{r:AV}:∀ {fs:List Fa},aI w0 fs->Dm g az fs=some r->ah Tryz.prog w0 g az r/\dm az
 |[],_,h=>by cases h
 |f::fs,hf,h=>by
  have hf2:aI w0 fs:=fun x hx=>hf x (List.mem_cons_of_mem _ hx)
  unfold Dm at h
  split at h
  ·rename_i e
   split at h
   ·rename_i e2
    obtain rfl:=oJ_ h
    rw [<-Nat.eq_of_beq_eq_true e,<-y4 (fun a b=>Ht) e2]
    exact hf f List.mem_cons_self
   ·exact Dn hf2 h
  ·exact Dn hf2 h
def Hu (E:Env) (fs:List Fa):Env:={ E with ext:=fun g az=>match E.ext g az with|some r=>some r|none=>Dm g az fs }
theorem y5 {E:Env}(h:fR Tryz.prog w0 E) {fs:List Fa}(hf:aI w0 fs):fR Tryz.prog w0 (Hu E fs) where
 seq:=h.seq
 key:=h.key
 B_:=h.B_
 uI:=h.uI
 nat:=h.nat
 ext:=fun g az r e=>by
  have e:(match E.ext g az with|some r=>some r|none=>Dm g az fs)=some r:=e
  split at e
  ·rename_i e2
   obtain rfl:=oJ_ e
   exact h.ext _ _ _ e2
  ·exact Dn hf e
theorem aI.nil:aI w0 []:=fun _ h=>by cases h
theorem aI.cons {E:Env}(h:fR Tryz.prog w0 E) {fs:List Fa}(hf:aI w0 fs) {f:Fa}(e:Dh (Hu E fs) (Hf (Hu E fs) 60) f.1 f.2.1=some f.2.2):aI w0 (f::fs):=by
 intro x hx
 rcases List.mem_cons.1 hx with rfl|hx
 ·exact qX (y5 h hf) (qY (y5 h hf) 60) e
 ·exact hf x hx
theorem aI.last {E:Env}(h:fR Tryz.prog w0 E) {fs:List Fa}(hf:aI w0 fs) {g:Nat}{r:AV}(e:Dh (Hu E fs) (Hf (Hu E fs) 60) g []=some r):ah Tryz.prog w0 g [] r :=
 (qX (y5 h hf) (qY (y5 h hf) 60) e).1
end
end
section
set_option maxRecDepth 100000
attribute [local irreducible] ah aK ae aa
def VD:CF Tryz.f291:=⟨_,by conv=>lhs;cbv⟩
theorem agI:aT Tryz.prog 291 VD.1 Tryz.f291.ntmps:=bX Tryz.func291 VD.2 Tryz.call291
def alb:List Nat:=[2,0]
def VE:CF Tryz.f375:=⟨_,by conv=>lhs;cbv⟩
theorem VF:aT Tryz.prog 375 VE.1 Tryz.f375.ntmps:=bX Tryz.func375 VE.2 Tryz.call375
def iH:List Nat:=[0,7,4,55,1,5,8,6,21,40,54,56,53,9,10]
theorem abT {S:ad}{ρ:Hd}{v:Int}:bp S (.agg [.v (.int .i64 1),.v (.int .i64 v),.v (.string ⟨#[]⟩),.sl true []]) (tm ρ (vr v)):=by
 refine .agg rfl fun i a a' h1 h2=>?_
 match i,h1,h2 with
 |0,h1,h2=>obtain rfl:=oJ_ h1;obtain rfl:=oJ_ h2;exact .refl _
 |1,h1,h2=>obtain rfl:=oJ_ h1;obtain rfl:=oJ_ h2;exact .refl _
 |2,h1,h2=>obtain rfl:=oJ_ h1;obtain rfl:=oJ_ h2;exact .refl _
 |3,h1,h2 =>
  obtain rfl:=oJ_ h1
  obtain rfl:=oJ_ h2
  rw [vr,tl,cO]
  exact bp.wk
def su:Option Tm->List AV
 |none=>[iv 0,iv 0,.v (.string ⟨#[]⟩),.sl true []]
 |some x=>ov x
theorem YK (x:Option Tm):(su x).length=4:=by cases x with|none=>rfl|some x=>exact IC x
theorem YL (l:List Tm):List.map su (l.map some)=List.map ov l:=by rw [List.map_map];rfl
theorem VG {N:Nat}{ρ:Hd}{S:ad}{nl ul:Nat}{Nd:bj}{vs sh ls:List (Int × Int)}{up:List Nat}{kn:KN}(h0:S.get 0=some (gO nl ul):=by rfl) (h1:S.get 1=some (dO ρ Nd):=by rfl) (h2:S.get 2=some (bB ρ vs):=by rfl) (h3:S.get 3=some (dP ρ up):=by rfl)
  (h4:S.get 4=some (dQ ρ sh):=by rfl) (h5:S.get 5=some (bB ρ ls):=by rfl) (h6:S.get 6=some (dR ρ kn):=by rfl):gj 7 [] N S (gX ρ nl ul Nd vs up sh ls kn):=gC h0 h1 h2 h3 h4 h5 h6
theorem Hv {f:Nat->List Nat->Option (Tm × List Nat)}(hf:∀ r u t u',f r u=some (t,u')->u'.length=u.length):∀ (l:List Nat) {up de:List Nat}{ts:List Tm},tH f l up=some (ts,de)->de.length=up.length/\ts.length=l.length
 |[],up,de,ts,h=>by
  simp only [tH,oI_,pI_] at h
  obtain⟨rfl,rfl⟩:=h
  exact⟨rfl,rfl⟩
 |x::l,up,de,ts,h=>by
  rw [tH] at h
  split at h
  ·cases h
  ·rename_i u r hr
   have e1:=f_ hr
   split at h
   ·cases h
   ·rename_i t u1 ht
    have e2:=hf _ _ _ _ ht
    split at h
    ·cases h
    ·rename_i ts1 u2 hl
     obtain⟨e3,e4⟩:=Hv hf l hl
     simp only [oI_,pI_] at h
     obtain⟨rfl,rfl⟩:=h
     exact⟨by omega,by simp only [List.length_cons];omega⟩
theorem vM {N:bj}{sh ls:List (Int × Int)}:∀ (m:Nat) (r:Nat) (up:List Nat) (t:Tm) (de:List Nat),tI N sh ls m r up=some (t,de)->de.length=up.length
 |0,_,_,_,_,h=>by cases h
 |m+1,r,up,t,de,h=>by
  rw [tI] at h
  split at h
  ·simp only [oI_,pI_] at h
   obtain⟨rfl,rfl⟩:=h
   rfl
  ·split at h
   ·split at h
    ·cases h
    ·split at h
     ·split at h
      ·simp only [oI_,pI_] at h
       obtain⟨rfl,rfl⟩:=h
       rfl
      ·split at h
       ·cases h
       ·rename_i hl
        have:=(Hv (vM m) _ hl).1
        simp only [oI_,pI_] at h
        obtain⟨rfl,rfl⟩:=h
        exact this
     ·cases h
   ·cases h
theorem aa.abU {P:Program}{w0:World}{rd:Bool}{n:Nat}{Q:Exit->AA->ad->Prop}{α:AA}{S:ad}{id:Nat}{b:QC}{K:List fc}(h:aa P w0 rd n Q (.out .normal (.seq b::K)) α S):aa P w0 rd n Q (.out (.exit id) (.oS id::.seq b::K)) α S:=by
 simp only [aa,db,Nat.beq_refl] at h ⊢
 exact h
theorem Hw (x:Option Tm) {B:Nat}:∀ a ∈ su x,dg B a:=by
 intro a ha
 cases x with
 |some x=>exact Pure.b9 (Ae x a ha)
 |none =>
  simp only [su,List.mem_cons,List.not_mem_nil,or_false] at ha
  rcases ha with rfl|rfl|rfl|rfl<;>first|exact .v|exact jB
theorem YM {B:Nat}{ρ:Hd}(met:List (Option Tm)) {ex:Bool}:fV B (.arr 4 (ρ.h (List.map su) met) 0 ex):=by
 show ∀ row ∈ ρ.h (List.map su) met,∀ a ∈ row,dg B a
 rw [ρ.eq]
 intro row hr a ha
 obtain⟨x,_,rfl⟩:=List.mem_map.1 hr
 exact Hw x a ha
theorem abV {N:Nat}{ρ:Hd}{S:ad}{nl ul:Nat}{Nd:bj}{vs sh ls:List (Int × Int)}{up:List Nat}{kn:KN}{t:Tm}{met:List (Option Tm)}(h7:S.get 7=some (.arr 4 [su none] 0 true):=by rfl) (h8:S.get 8=some (.arr 4 [lh ρ t] 0 true):=by rfl) (h9:S.get 9=some (.arr 4 (ρ.h (List.map su) met) 0 true):=by rfl) (h0:S.get 0=some (gO nl ul):=by rfl) (h1:S.get 1=some (dO ρ Nd):=by rfl) (h2:S.get 2=some (bB ρ vs):=by rfl) (h3:S.get 3=some (dP ρ up):=by rfl)
  (h4:S.get 4=some (dQ ρ sh):=by rfl) (h5:S.get 5=some (bB ρ ls):=by rfl) (h6:S.get 6=some (dR ρ kn):=by rfl):gj 10 [] N S [(0,gO nl ul),(1,dO ρ Nd),(2,bB ρ vs),(3,dP ρ up),(4,dQ ρ sh),(5,bB ρ ls),(6,dR ρ kn),(7,.arr 4 [su none] 0 true),(8,.arr 4 [lh ρ t] 0 true),(9,.arr 4 (ρ.h (List.map su) met) 0 true)] :=
 ⟨.inl ⟨_,h0,.same (nr (by omega))⟩,.inl ⟨_,h1,.same (i_ _)⟩,.inl ⟨_,h2,.same (cR _)⟩,.inl ⟨_,h3,.same (iu _)⟩,.inl ⟨_,h4,.same (iw _)⟩,.inl ⟨_,h5,.same (cR _)⟩,.inl ⟨_,h6,.same (iy _)⟩,.inl ⟨_,h7,.same (fun row hr a ha=>by obtain rfl:=List.mem_singleton.1 hr;exact Hw none a ha)⟩,
  .inl ⟨_,h8,.same (fun row hr a ha=>by obtain rfl:=List.mem_singleton.1 hr;exact Pure.b9 (pb t a ha))⟩,.inl ⟨_,h9,.same (YM _)⟩,trivial⟩
section
variable {w0:World}{ρ:Hd}
theorem VH (v:Int):ah Tryz.prog w0 291 [iv v] (tm ρ (vr v)):=by
 refine agI.bu (by simp [Tryz.ntmps291]) (cK _) ?_
 refine gq alb ?_
 repeat' (first
  |(refine fq ?_))
 exact abT
theorem Hx {N:bj}{vs sh ls:List (Int × Int)}{kn:KN}{nl ul:Nat}(hN:Ee N) (eF:nl=N.length) (lz:ul<=1099511627776):∀ (m:Nat) {r:Nat}{up de:List Nat}{t:Tm},up.length=ul->tI N sh ls m r up=some (t,de) ->
  aK Tryz.prog w0 375 [.pt 0 6 0 0,iv r] (au (gX ρ nl ul N vs up sh ls kn) 7) (tm ρ t) (au (gX ρ nl ul N vs de sh ls kn) 7):=by
 intro m
 induction m with
 |zero=>intro r up de t _ h;cases h
 |succ m ih =>
  intro r up de t hu h
  rw [tI] at h
  obtain⟨ri,IM⟩:∃ ri:Int,ri=r:=⟨_,rfl⟩
  rw [<-IM] at h ⊢
  split at h
  ·rename_i VI
   simp only [oI_,pI_] at h
   obtain⟨rfl,rfl⟩:=h
   refine aT.fM 7 7 _ VF (by simp [Tryz.ntmps375]) rfl rfl ?_
   unfold gX
   refine gq iH ?_
   refine aa.look (ρ:=ρ) (f:=iv) (kv:=sh) rfl rfl rfl rfl (fun k hk=>?_) (fun hk=>?_)
   ·rw [VI] at hk;cases hk
   obtain⟨vv,PN⟩:∃ vv,vv=(aD ls ri).getD 0:=⟨_,rfl⟩
   rw [<-PN]
   refine gq iH ?_
   refine aa.oC (ρ:=ρ) (f:=iv) (kv:=ls) rfl rfl rfl rfl (fun v hv=>?_) (fun hv=>?_)
   ·rw [hv] at PN
    obtain rfl:vv=v:=PN
    refine gq iH ?_
    refine aa.op rfl (ae.aL rfl (VH (ρ:=ρ) vv) ⟨.v,trivial⟩) ?_
    refine gq iH ?_
    refine fq ?_
    exact⟨[],.aB (Pure.b9 (cK (vr vv))),VG,rfl⟩
   ·rw [hv] at PN
    obtain rfl:vv=0:=PN
    refine gq iH ?_
    refine aa.op rfl (ae.aL rfl (VH (ρ:=ρ) 0) ⟨.v,trivial⟩) ?_
    refine gq iH ?_
    refine fq ?_
    exact⟨[],.aB (Pure.b9 (cK (vr 0))),VG,rfl⟩
  ·rename_i k VI
   split at h
   rotate_left
   ·cases h
   rename_i h00
   obtain⟨Em,xH⟩:∃ n:Nat,n=k.toNat:=⟨_,rfl⟩
   rw [<-xH] at h
   split at h
   ·cases h
   rename_i t0 l B5
   split at h
   rotate_left
   ·cases h
   rename_i hla
   have q2:k=(Em:Int):=by omega
   have g2:=hN _ _ _ B5
   have i2:Em < nl:=by rw [eF];exact (List.getElem?_eq_some_iff.1 B5).1
   have r2:=fU (ρ:=ρ) (f:=qD ρ) B5
   obtain⟨tk,ti,tn0,ta⟩:=t0
   rw [qD] at r2
   simp only at r2 hla g2 h
   have UR:Pure (cE ρ iG false l):=fg fun x _ a ha=>by
    obtain rfl:=List.mem_singleton.1 ha
    exact .v
   refine aT.fM 7 7 _ VF (by simp [Tryz.ntmps375]) rfl rfl ?_
   unfold gX
   refine gq iH ?_
   refine aa.look (ρ:=ρ) (f:=iv) (kv:=sh) rfl rfl rfl rfl (fun k2 hk=>?_) (fun hk=>?_)
   rotate_left
   ·rw [VI] at hk;cases hk
   rw [VI] at hk
   obtain rfl:=oJ_ hk
   refine gq iH ?_
   refine aa.op rfl (ae.jU rfl rfl q2 i2) ?_
   refine aa.op rfl (ae.quiet rfl) ?_
   refine aa.op rfl (ae.oX rfl rfl r2 rfl) ?_
   refine gq iH ?_
   refine bL fun q1 BP=>?_
   rw [aF] at BP
   refine gq iH ?_
   refine bq (fun eB=>?_) (fun eB=>?_)<;>(try simp only [aM] at eB)
   ·rw [if_pos (by omega)] at h
    simp only [oI_,pI_] at h
    obtain⟨rfl,rfl⟩:=h
    refine gq iH ?_
    refine fq ?_
    exact⟨[],.aB (Pure.b9 (cK ⟨tk,ti,tn0,ta⟩)),VG,rfl⟩
   rw [if_neg (by omega)] at h
   split at h
   ·cases h
   rename_i ts u hex
   simp only [oI_,pI_] at h
   obtain⟨rfl,rfl⟩:=h
   refine gq iH ?_
   refine bL fun q3 BH=>?_
   rw [aF] at BH
   refine gq iH ?_
   obtain⟨an,han⟩:∃ an,an=ta.length:=⟨_,rfl⟩
   rw [<-han] at BH
   refine aa.TJ (m:=an) ρ su none rfl rfl rfl BH rfl (by omega) (by omega) fun alc VJ=>?_
   refine gq iH ?_
   refine aa.op rfl (ae.jU rfl rfl q2 i2) ?_
   refine aa.op rfl (ae.quiet rfl) ?_
   refine aa.op rfl (ae.oX rfl rfl r2 rfl) ?_
   refine gq iH ?_
   refine aa.int rfl (ae.len rfl) fun q sG=>?_
   rw [aF] at sG
   refine gq iH ?_
   have aO:an=l.length:=by omega
   rw [aO] at VJ
   refine aa.bP (σ:=Int × List Nat × List (Option Tm)) 10 10 [] (fun p=>[(0,.pt 0 6 0 0),(4,.pt 7 4 0 0),(7,.pt 8 4 0 0),(8,.ob 9 4 0 an none),(53,cE ρ iG false l),(54,iv q),(55,iv p.1)]) []
    (fun p=>[(0,gO nl ul),(1,dO ρ N),(2,bB ρ vs),(3,dP ρ p.2.1),(4,dQ ρ sh),(5,bB ρ ls),(6,dR ρ kn),(7,.arr 4 [su none] 0 true),(8,.arr 4 [lh ρ ⟨tk,ti,tn0,ta⟩] 0 true),(9,.arr 4 (ρ.h (List.map su) p.2.2) 0 true)])
    (fun p=>∃ i:Nat,p.1=i/\i<=l.length/\p.2.1.length=ul/\∃ d rest:List Tm,d.length=i/\p.2.2=d.map some++List.replicate (l.length - i) none/\tH (tI N sh ls m) (l.drop i) p.2.1=some (rest,u)/\d++rest=ts) (fun p=>l.length - p.1.toNat)
    (0,up,alc) ⟨0,rfl,by simp,hu,[],ts,rfl,by simpa using VJ,by simpa using hex,rfl⟩ rfl (by exact⟨sq,rfl,abV,rfl,rfl,rfl⟩) ?_
   rintro⟨ii,fZ,met⟩ ⟨i,we,AJ,gL,d,rest,hd,xV,hm,I1⟩
   simp only at we AJ gL xV hm
   refine gq iH ?_
   refine bq (fun eg=>?_) (fun eg=>?_)<;>(try simp only [aM] at eg)
   ·have lQ:i < l.length:=by omega
    obtain⟨x,hx⟩:∃ x,l[i]?=some x:=⟨_,List.getElem?_eq_getElem lQ⟩
    obtain⟨xa,xb⟩:=List.getElem?_eq_some_iff.1 hx
    rw [List.drop_eq_getElem_cons xa,xb,tH] at hm
    split at hm
    ·cases hm
    rename_i u2 cl hr
    split at hm
    ·cases hm
    rename_i tx u3 EF
    split at hm
    ·cases hm
    rename_i ts1 u4 vX
    simp only [oI_,pI_] at hm
    obtain⟨rfl,rfl⟩:=hm
    have c1:=uz (w0:=w0) (ρ:=ρ) (s:=⟨N,vs,⟨fZ,sh,ls⟩⟩) (kn:=kn) (by simp only;omega) hr
    have iX:u2.length=ul:=by rw [f_ hr,gL]
    have qE:u3.length=ul:=by rw [vM m _ _ _ _ EF,iX]
    simp only at c1
    rw [<-fQ eF gL,<-fQ eF iX] at c1
    have c2:=ih iX EF
    have hml:met.length=l.length:=by rw [xV,List.length_append,List.length_map,List.length_replicate];omega
    refine gq iH ?_
    refine aa.op rfl (ae.ind rfl rfl (bU (l:=l) we hx) (bV fun _=>rfl)) ?_
    refine gq iH ?_
    refine aa.op rfl (ae.jN c1 rfl (Nat.le_of_ble_eq_true rfl) (cL (by decide)) (lA) (cL (by decide)) (oL (by decide) .v) .v) ?_
    refine gq iH ?_
    refine aa.op rfl (ae.jN c2 rfl (Nat.le_of_ble_eq_true rfl) (cL (by decide)) (lA) (cL (by decide)) (oL (by decide) .v) (Pure.b9 (cK tx))) ?_
    refine gq iH ?_
    refine aa.op rfl (ae.aj6 rfl rfl we (by omega)) ?_
    refine aa.Kx (f:=su) (y:=some tx) rfl rfl rfl (sP tx).symm (by show (ov tx).all bQ=true;rw [sP (ρ:=ρ)];rfl) YK rfl (by omega) (fun ald agJ=>?_)
    refine gq iH ?_
    refine cr (fun i3 td=>?_)
    refine gq iH ?_
    refine aa.bm (σ:=Int × List Nat × List (Option Tm)) (i3,u3,ald) [] ⟨i+1,by simp only;omega,by omega,qE,d++[tx],ts1,by simp [hd],?_,vX,by rw [List.append_assoc];exact I1⟩ ?_ (by exact⟨sq,rfl,abV,rfl,rfl,rfl⟩)
    ·have e:l.length - i=(l.length - (i+1))+1:=by omega
     simp only
     rw [agJ,xV,e,List.replicate_succ,List.set_append_right _ _ (by simp [hd])]
     simp [hd]
    ·simp only;omega
   ·have lQ:i=l.length:=by omega
    rw [lQ,List.drop_of_length_le (Nat.le_refl _),tH] at hm
    simp only [oI_,pI_] at hm
    obtain⟨rfl,rfl⟩:=hm
    rw [List.append_nil] at I1
    have hme:ρ.h (List.map su) met=ρ.h (List.map ov) ts:=by
     rw [ρ.eq,ρ.eq,xV,lQ,Nat.sub_self,List.replicate_zero,List.append_nil,YL,I1]
    have hmn:an=(ρ.h (List.map ov) ts).length:=by rw [aF,<-I1];omega
    refine gq iH ?_
    refine aa.aR ?_
    refine aa.abU (aa.Zn (Cv.freeze (t:=8) (k:=9) (rows:=ρ.h (List.map ov) ts) (by rw [<-hme];rfl) rfl (.inr ⟨_,rfl⟩) hmn (Nat.zero_le _)) ?_)
    refine gq iH ?_
    refine fq ?_
    exact⟨[],.aB (Pure.b9 (cK ⟨tk,ti,tn0,ts⟩)),VG,rfl⟩
end
end
section
set_option maxRecDepth 100000
open Go.RowKit Go.Maps Go.Sort Go.Shelf
theorem Hz {H:Type}(x:Lit × DataW H):∀ l,(DataW.insert x l).Perm (x::l)
 |[]=>.refl _
 |y::r=>by
  rw [DataW.insert]
  split
  ·exact .refl _
  ·exact ((Hz x r).cons y).trans (.swap x y r)
theorem ym {H:Type}:∀ l:List (Lit × DataW H),(l.foldr DataW.insert []).Perm l
 |[]=>.refl _
 |x::l=>by rw [List.foldr_cons];exact (Hz x _).trans ((ym l).cons x)
def HA:Value->Option (DataW Unit × List MemPlace):=fun _=>some (.nil,[])
theorem abX {P:Program}{w:World}{b:Nat}{kt:TypeId}{entries:Array MapEntry}{ks:List Int}(hk:P.underlying kt=some (.int .i64)) (h1:w.heap[b]?=some (.map entries entries.size)) (hs:entries.size=ks.length)
  (Nt:∀ (i:Nat) (x:Int),ks[i]?=some x->∃ e:MapEntry,entries[i]?=some e/\e.key=encZ x) (hb:∀ (i:Nat) (e:MapEntry),entries[i]?=some e->e.born=i) (zy:ks.Nodup) (hr:∀ x ∈ ks,(Lit.int .i64 x).wf=true) (hl:ks.length<=maxLen) :
  ∃ D:DataW Unit,w.ownsMap P kt HA b ks.length D/\(intKeys D).Perm ks/\Maps.size D=ks.length:=by
 have e1:entries.toList.map (·.key)=ks.map encZ:=by
  apply List.ext_getElem?
  intro i
  rw [List.getElem?_map,List.getElem?_map,Array.getElem?_toList]
  cases hx:ks[i]? with
  |none =>
   have:entries[i]?=none:=by
    rw [List.getElem?_eq_none_iff] at hx
    rw [Array.getElem?_eq_none_iff]
    omega
   rw [this];rfl
  |some x =>
   obtain⟨e,h2,h3⟩:=Nt i x hx
   rw [h2,Option.map_some,Option.map_some,h3]
 have e2:entries.toList.map (·.born)=List.range entries.size:=by
  apply List.ext_getElem?
  intro i
  rw [List.getElem?_map,Array.getElem?_toList]
  by_cases hi:i < entries.size
  ·rw [List.getElem?_range hi,Array.getElem?_eq_getElem hi,Option.map_some,hb i _ (Array.getElem?_eq_getElem hi)]
  ·rw [Array.getElem?_eq_none (by omega),List.getElem?_eq_none (by simpa using hi)];rfl
 have e3:∀ x ∈ entries.toList,∃ z,x.key=encZ z/\z ∈ ks:=fun x hx=>by
  have:x.key ∈ entries.toList.map (·.key):=List.mem_map.2 ⟨x,hx,rfl⟩
  rw [e1] at this
  obtain⟨z,hz,e⟩:=List.mem_map.1 this
  exact⟨z,e.symm,hz⟩
 have e4:∀ x ∈ entries.toList,∀ z,x.key=encZ z->WideElems.rd P kt HA x=some (.int .i64 z,.nil):=fun x hx z hz=>by
  obtain⟨z',h2,h3⟩:=e3 x hx
  obtain rfl:z=z':=encZ_inj (by rw [<-hz,<-h2])
  unfold WideElems.rd
  rw [hz,keyOf_int_mk hk (hr z h3)]
  rfl
 have hF:WideElems.Fit P kt HA entries entries.size:=by
  refine⟨by omega,⟨fun x hx=>?_,?_,?_⟩,fun x hx=>?_⟩
  ·have:x.born ∈ entries.toList.map (·.born):=List.mem_map.2 ⟨x,hx,rfl⟩
   rw [e2] at this
   exact List.mem_range.1 this
  ·rw [e2];exact List.nodup_range
  ·rw [e1]
   exact List.pairwise_map.2 (zy.imp fun h e=>h (encZ_inj e))
  ·obtain⟨z,h2,h3⟩:=e3 x hx
   exact⟨_,e4 x hx z h2⟩
 refine⟨_,⟨entries,entries.size,h1,hF,by omega,rfl⟩,?_,?_⟩
 ·show (((entries.toList.map (WideElems.rg P kt HA)).foldr DataW.insert []).map fun p=>Go.intOf p.1).Perm ks
  refine ((ym _).map _).trans ?_
  rw [List.map_map]
  have:entries.toList.map ((fun p=>Go.intOf p.1) ∘ WideElems.rg P kt HA)=ks:=by
   have h5:entries.toList.map ((fun p=>Go.intOf p.1) ∘ WideElems.rg P kt HA)=(entries.toList.map (·.key)).map fun v=>match v with|.int _ z=>z|_=>0:=by
    rw [List.map_map]
    refine List.map_congr_left fun x hx=>?_
    obtain⟨z,h2,h3⟩:=e3 x hx
    simp only [Function.comp]
    unfold WideElems.rg
    rw [e4 x hx z h2,h2]
    rfl
   rw [h5,e1,List.map_map]
   conv=>rhs;rw [<-List.map_id ks]
   exact List.map_congr_left fun x _=>rfl
  rw [this]
 ·show ((entries.toList.map (WideElems.rg P kt HA)).foldr DataW.insert []).length=ks.length
  rw [(ym _).length_eq,List.length_map,Array.length_toList,hs]
theorem qt:∀ {l:List Int},l.Pairwise (fun a b=>a<=b)->l.Nodup->tV l
 |[],_,_=>trivial
 |x::l,h,hn=>by
  rw [List.pairwise_cons] at h
  rw [List.nodup_cons] at hn
  refine⟨fun y hy=>?_,qt h.2 hn.2⟩
  have:=h.1 y hy
  have:x ≠ y:=fun e=>hn.1 (by rw [e];exact hy)
  omega
theorem S8 {ss ks L:List Int}(hp:ss.Perm ks) (zy:ks.Nodup) (hL:tV L) (hm:∀ v,v ∈ L ↔ v ∈ ks):ss.mergeSort (fun x y=>decide (x<=y))=L:=by
 have iN:=(List.mergeSort_perm ss (fun x y=>decide (x<=y))).trans hp
 refine Ai (qt ?_ (iN.nodup_iff.2 zy)) hL fun x=>?_
 ·have:=List.pairwise_mergeSort (le:=fun x y:Int=>decide (x<=y)) (fun a b c h1 h2=>by simp only [decide_eq_true_eq] at *;omega) (fun a b=>by simp only [Bool.or_eq_true,decide_eq_true_eq];omega) ss
  exact this.imp fun h=>by simpa using h
 ·rw [iN.mem_iff,hm]
section
variable {w0:World}{ρ:Hd}
theorem abY (m:Nat):AnyZI.SortsIn Tryz.prog Tryz.zi Fence.wide m :=
 ⟨fun oS off cap ss W hH wM bh=>callsIn_wide.2 (AnyM.slices_Sort_int Tryz.TI oS off cap ss W hH wM bh),
  fun p cap W=>callsIn_wide.2 (AnyM.slices_Sort_int_none Tryz.TI p cap W)⟩
theorem S9 {S:ad}{kb km:Nat}{ex:Bool}{vs:List (Int × Int)}{L:List Int}(hbx:S.get kb=some (.arr 1 [[.mp km]] 0 ex)) (hmp:S.get km=some (bB ρ vs)) (zy:(vs.map (·.1)).Nodup) (hr:∀ x ∈ vs.map (·.1),0<=x/\x<=1099511627776) (hl:vs.length<=1000000000000) (hL:tV L) (hm:∀ v,v ∈ L ↔ v ∈ vs.map (·.1)) :
  aK Tryz.prog w0 373 [.fn (.func 406) [] [.pt kb 1 0 0]] S (cE ρ cM false L) S:=by
 refine⟨Tryz.call373,fun F m A g aQ w hF hS hA=>?_⟩
 obtain⟨v0,hv0,lB⟩:∃ v0,aQ=#[v0]/\aH g w (.fn (.func 406) [] [.pt kb 1 0 0]) v0:=by
  obtain⟨h1,h2⟩:=hA
  have h3:aQ.size=1:=h1
  refine⟨aQ[0],?_,h2 0 _ _ rfl (Array.getElem?_eq_getElem (by omega))⟩
  apply Array.ext (by simp [h3])
  intro i hi hj
  have:i=0:=by omega
  subst this
  rfl
 obtain⟨cs,ds,rfl,fW,eu⟩:=tS lB
 obtain rfl:cs=#[]:=Array.eq_empty_of_size_eq_zero fW.1
 obtain⟨p,hp,Jw⟩:∃ p,ds=#[p]/\aH g w (.pt kb 1 0 0) p:=by
  obtain⟨h1,h2⟩:=eu
  have h3:ds.size=1:=h1
  refine⟨ds[0],?_,h2 0 _ _ rfl (Array.getElem?_eq_getElem (by omega))⟩
  apply Array.ext (by simp [h3])
  intro i hi hj
  have:i=0:=by omega
  subst this
  rfl
 subst hp hv0
 obtain⟨rfl,aO⟩:p=.pointer (some ⟨g.ob kb,0*1+0,none⟩)/\g.al kb:=by cases Jw with|pt hk=>exact⟨rfl,hk⟩
 obtain⟨bA,blt,cs,ty,b1,b2,b3,b4,b5,b6,b7⟩:=hS.bR kb _ hbx aO
 obtain⟨x,hx,dH⟩:=(b5 0 _ rfl).2 0 _ rfl
 obtain⟨rfl,ale⟩:=ng dH
 obtain⟨mA,mlt,hmb⟩:=hS.bR km _ hmp ale
 obtain⟨entries,m1,m2,m3,m4⟩:=hmb
 rw [ρ.eq] at m2 m3
 have hlen:entries.size=(vs.map (·.1)).length:=by rw [m2,cX,List.length_map,List.length_map]
 obtain⟨D,alf,agK,yU⟩:=abX (ks:=vs.map (·.1)) Tryz.underlying3 m1 hlen (fun i z hz=>by
   rw [List.getElem?_map,Option.map_eq_some_iff] at hz
   obtain⟨q,hq,rfl⟩:=hz
   obtain⟨e,h2,h3,_⟩:=m3 i (cn q.1) (iv q.2) (by rw [cX,List.getElem?_map,hq];rfl)
   exact⟨e,h2,h3⟩) m4 zy (fun z hz=>by
   have:=hr z hz
   have e1:IntKind.i64.min=-9223372036854775808:=by decide
   have e2:IntKind.i64.max=9223372036854775807:=by decide
   simp only [Lit.wf,e1,e2,Bool.and_eq_true,decide_eq_true_eq]
   omega) (by rw [List.length_map];have:maxLen=9223372036854775807:=by decide
              omega)
 have kI:w.cell? ⟨g.ob kb,0,none⟩=some (.map (some (g.ob km))):=by
  simp only [World.cell?,b1]
  simpa using hx
 have alg:SeqGives Fence.wide 2 Tryz.prog 406 #[.pointer (some ⟨g.ob kb,0,none⟩)] encZ (fun ss=>ss.Perm (intKeys D)) (Maps.size D) w :=
  AnyZI.keys_gives (ρ:=Tryz.DB) { Tryz.acY with } Fence.wide _ trivial rfl (by omega) (g.ob kb) (g.ob km) _ D w blt kI alf
 have an7:maxLen=9223372036854775807:=by decide
 have cS:=AnyZI.sorted_in Tryz.XJ Fence.wide 5 trivial trivial trivial trivial rfl (by omega) (abY _) (enters_of Tryz.func405 (by kernel_rfl) rfl) 406 #[.pointer (some ⟨g.ob kb,0,none⟩)] trivial (enters_of Tryz.func406 (by kernel_rfl) rfl) _ (Maps.size D) (by rw [yU,List.length_map];omega) (by rw [yU,List.length_map];omega) w alg
 refine CallsIn.Qp hF ((callsIn_wide.1 cS).mono ?_)
 rintro e w' ⟨v,ss,rfl,hss,gA,vf,hb⟩
 obtain⟨hE,cQ⟩:=hS.below hb
 have VK:=S8 (hss.trans agK) zy hL hm
 rw [VK] at gA
 have Gg:ss.length=L.length:=by rw [<-VK,List.length_mergeSort]
 rw [Gg] at gA
 refine⟨v,_,rfl,?_,cQ,hE⟩
 rw [cO]
 rcases gA.2 with ⟨rfl,h0⟩|⟨gb,cap,cur,rfl,q1,q2,q3,q4,q5,q6⟩
 ·obtain rfl:L=[]:=List.eq_nil_of_length_eq_zero h0
  exact .nil (fun h=>by cases h)
 ·by_cases a_:L=[]
  ·subst a_
   exact .nil (fun h=>by cases h)
  ·have alh:L.map cM ≠ []:=by simpa using a_
   have lf:∀ i (h:i < L.length),w'.cell? ⟨gb,i,none⟩=some (.int .i64 L[i]):=fun i h=>by
    simp only [World.cell?,q2]
    have h1:(cur.toList.take (L.length*1))[i]?=(L.map encZ)[i]?:=by rw [q6]
    rw [List.getElem?_take_of_lt (by omega),Array.getElem?_toList,List.getElem?_map,List.getElem?_eq_getElem h,Option.map_some] at h1
    rw [h1]
    rfl
   have:=aH.sl (g:=⟨g.ob,g.cp,g.al,fun b q=>g.fz b q\/(w.heap.size<=b/\b < w'.heap.size),g.fo⟩) (w:=w') (ex:=false) (rows:=L.map cM) (b:=gb) (o:=0) (sz:=1) (c:=cap) (val:=fun i j=>.int .i64 (L.getD i 0)) alh (fun h=>by cases h) (by simpa using q3) ?_ ?_ ?_
   ·simpa using this
   ·intro i row zP
    simp only [List.getElem?_map,Option.map_eq_some_iff] at zP
    obtain⟨x,_,rfl⟩:=zP
    rfl
   ·intro i j row a zP ha
    simp only [List.getElem?_map,Option.map_eq_some_iff] at zP
    obtain⟨x,hx,rfl⟩:=zP
    have hj:j=0:=by
     cases j with
     |zero=>rfl
     |succ j=>simp [cM] at ha
    subst hj
    obtain⟨hi,he⟩:=List.getElem?_eq_some_iff.1 hx
    refine⟨.inr ⟨q1,(Array.getElem?_eq_some_iff.1 q2).1⟩,?_⟩
    rw [Nat.mul_one,Nat.add_zero,Nat.zero_add,lf i hi,List.getD_eq_getElem?_getD,hx,he]
    rfl
   ·intro i j row a zP ha
    simp only [List.getElem?_map,Option.map_eq_some_iff] at zP
    obtain⟨x,hx,rfl⟩:=zP
    have hj:j=0:=by
     cases j with
     |zero=>rfl
     |succ j=>simp [cM] at ha
    subst hj
    simp only [cM,List.getElem?_cons_zero,oI_] at ha
    subst ha
    rw [List.getD_eq_getElem?_getD,hx]
    exact .v
end
end
section
set_option maxRecDepth 100000
attribute [local irreducible] ah aK ae aa
section
variable {w0:World}{ρ:Hd}
theorem pz {l r:List Tm}{ex:Bool}{rows:List (List AV)}{cc:Int}(hp:Pure (.aE [.sl ex rows,iv cc])) (h:aK Tryz.prog w0 292 [tl ρ l,tl ρ r] (au [] 0) (.aE [.sl ex rows,iv cc]) (au [] 0)):ah Tryz.prog w0 292 [tl ρ l,tl ρ r] (.aE [.sl ex rows,iv cc]) :=
 ah.xm (S':=au [] 0) h (.refl _) hp
end
end
mutual
def Dp:Tm->Prop
 |⟨k,i,n,a⟩=>(k=1->0<=i)/\vN a
def vN:List Tm->Prop
 |[]=>True
 |x::l=>Dp x/\vN l
end
end Go.Proofs.YtgjfgekaclobaaaGreat
