import Derived.Test.YtgjfgekaclobaaaGreatCa18
namespace Go.Proofs.YtgjfgekaclobaaaGreat
set_option linter.unusedVariables false
set_option linter.unusedSimpArgs false
open Go.RowKit
section
set_option maxRecDepth 100000
attribute [local irreducible] ah aK ae aa
def Ub:CF Tryz.f119:=⟨_,by conv=>lhs;cbv⟩
theorem adl:aT Tryz.prog 119 Ub.1 Tryz.f119.ntmps:=bX Tryz.func119 Ub.2 Tryz.call119
def ZR:List Nat:=[1,2,0,5]
def Uc:CF Tryz.f330:=⟨_,by conv=>lhs;cbv⟩
theorem adm:aT Tryz.prog 330 Uc.1 Tryz.f330.ntmps:=bX Tryz.func330 Uc.2 Tryz.call330
def ZS:List Nat:=[1,2,0,5]
def ZT:CF Tryz.f58:=⟨_,by conv=>lhs;cbv⟩
theorem ajN:aT Tryz.prog 58 ZT.1 Tryz.f58.ntmps:=bX Tryz.func58 ZT.2 Tryz.call58
def vY:List Nat:=[5,4,3,2,0,1,11]
def m9 (x:Tm):List Tm:=if x.k=2 then x.a else []
mutual
def dG:Tm->Nat
 |⟨k,i,n,a⟩=>if k=2 then 1+bw a else 1
def bw:List Tm->Nat
 |[]=>0
 |x::l=>dG x+bw l
end
mutual
def nK:Tm->Nat
 |⟨k,i,n,a⟩=>if k=2 then 1+j7 a else 1
def j7:List Tm->Nat
 |[]=>0
 |x::l=>max (nK x) (j7 l)
end
theorem Al (x:Tm):dG x=1+bw (m9 x):=by
 obtain⟨k,i,n,a⟩:=x
 rw [dG,m9]
 split<;>rfl
theorem IK (x:Tm):nK x=1+j7 (m9 x):=by
 obtain⟨k,i,n,a⟩:=x
 rw [nK,m9]
 split<;>rfl
theorem sV (x:Tm):1<=dG x:=by rw [Al];omega
theorem zo:∀ (l:List Tm) (k:Nat),bw (l.drop k)<=bw l
 |[],k=>by simp
 |x::l,0=>by simp
 |x::l,k+1=>by
  rw [List.drop_succ_cons,bw]
  have:=zo l k
  omega
theorem vg:∀ l:List Tm,l.length<=bw l
 |[]=>Nat.le_refl 0
 |x::l=>by
  have:=vg l
  have:=sV x
  rw [bw,List.length_cons]
  omega
section
variable {w0:World}{ρ:Hd}
theorem XV (x:Tm):ah Tryz.prog w0 119 [tm ρ x] (tl ρ (m9 x)):=by
 obtain⟨k,i,n,a⟩:=x
 refine adl.bu (by simp [Tryz.ntmps119]) ((bl _)) ?_
 refine gq ZR ?_
 repeat' (first
  |(refine bq (fun hb=>?_) (fun hb=>?_)<;>(try simp only [aM] at hb)<;>(first|refine gq ZR ?_))
  |(refine fq ?_))
 ·rw [m9,if_pos hb];exact bp.of_eq rfl
 ·rw [m9,if_neg hb,tl,cO];exact bp.wk
theorem ZU (x:Tm):ah Tryz.prog w0 330 [tm ρ x] (tl ρ (m9 x)):=by
 obtain⟨k,i,n,a⟩:=x
 refine adm.bu (by simp [Tryz.ntmps330]) ((bl _)) ?_
 refine gq ZS ?_
 repeat' (first
  |(refine bq (fun hb=>?_) (fun hb=>?_)<;>(try simp only [aM] at hb)<;>(first|refine gq ZS ?_))
  |(refine fq ?_))
 ·rw [m9,if_pos hb];exact bp.of_eq rfl
 ·rw [m9,if_neg hb,tl,cO];exact bp.wk
theorem XW (n:Nat):∀ x:Tm,dG x<=n->n<=1099511627776->ah Tryz.prog w0 58 [tm ρ x] (iv (dG x)):=by
 induction n with
 |zero=>intro x h;have:=sV x;omega
 |succ n ih =>
  intro x hx hn
  have hs:=Al x
  have hl:=vg (m9 x)
  obtain⟨A,hA⟩:∃ A,A=m9 x:=⟨_,rfl⟩
  rw [<-hA] at hs hl
  have ha:ah Tryz.prog w0 119 [tm ρ x] (tl ρ A):=by rw [hA];exact XV x
  refine ajN.bu (by simp [Tryz.ntmps58]) (.v) ?_
  refine gq vY ?_
  repeat' (first
   |((refine aa.op rfl (ae.aL rfl ha ⟨cK _,trivial⟩) ?_;refine gq vY ?_))
   )
  refine aa.bP (σ:=Int × Int) 1 1 [] (fun p=>[(3,.v (.int .i64 p.2)),(4,tl ρ A),(5,.v (.int .i64 p.1))]) [] (fun _=>[])
   (fun p=>∃ k:Nat,p.1=k/\k<=A.length/\0<=p.2/\p.2+bw (A.drop k)=dG x) (fun p=>A.length - p.1.toNat) (0,1) ⟨0,rfl,by simp,by simp,by simp;omega⟩ rfl cq ?_
  rintro⟨i,c⟩ ⟨k,hi,hk,h0,hp⟩
  simp only at hi h0 hp
  refine gq vY ?_
  by_cases aA:k < A.length
  ·obtain⟨y,hy,tZ⟩:=cd aA
   have hd:=zo A k
   rw [tZ,bw] at hp hd
   have Zp:=sV y
   repeat' (first
    |(refine aa.op rfl (ae.ind rfl rfl (lj (l:=A) hi hy) ll) ?_;refine gq vY ?_)
    |(refine aa.int rfl (ae.aL rfl (ih y (by omega) (by omega)) ⟨cK _,trivial⟩) fun _ _=>?_;refine gq vY ?_)
    |(refine bq (fun hb=>?_) (fun hb=>?_)<;>(try simp only [aM] at hb)<;>(first|refine gq vY ?_))
    |(refine bL fun m hm=>?_;(try rw [aF] at hm);refine gq vY ?_)
    |(refine cr fun _ _=>?_;refine gq vY ?_)
    |(refine aa.aR ?_;refine gq vY ?_)
    |(refine fq ?_))
   all_goals first
    |(exfalso;omega)
    |(refine aa.bm (σ:=Int × Int) (_,_) [] ?_ ?_ cq
      ·exact⟨k+1,by simp only;omega,by omega,by simp only;omega,by simp only;omega⟩
      ·simp only;omega)
  ·skip
   repeat' (first
    |(refine bq (fun hb=>?_) (fun hb=>?_)<;>(try simp only [aM] at hb)<;>(first|refine gq vY ?_))
    |(refine bL fun m hm=>?_;(try rw [aF] at hm);refine gq vY ?_)
    |(refine aa.aR ?_;refine gq vY ?_)
    |(refine fq ?_))
   all_goals first
    |(exfalso;omega)
    |(rw [List.drop_eq_nil_of_le (by omega),bw] at hp;exact oU (by omega))
end
end
section
set_option maxRecDepth 100000
attribute [local irreducible] ah aK ae aa
def ju (s:ByteArray):Bool:=s.toList == ((⟨#[43]⟩:ByteArray)).toList || s.toList == ((⟨#[45]⟩:ByteArray)).toList || s.toList == ((⟨#[42]⟩:ByteArray)).toList || s.toList == ((⟨#[47]⟩:ByteArray)).toList || s.toList == ((⟨#[37]⟩:ByteArray)).toList
def tC (n:ByteArray) (a:List Tm):Bool:=n.toList == (⟨#[]⟩:ByteArray).toList && a.isEmpty
mutual
def nB:Tm->Bool
 |⟨k,i,n,a⟩=>if k=0 then decide (-2147483648<=i) && decide (i<=2147483648) && tC n a else if k=1 then decide (0<=i) && decide (i<=1048576) && tC n a
  else if k=2 then i == 0 && (ju n && a.length == 2 || mJ n && decide (a.length<=6)) && mK a else false
def mK:List Tm->Bool
 |[]=>true
 |x::l=>nB x && mK l
end
def eY (x:Tm):Bool:=nB x && decide (dG x<=200) && decide (nK x<=20)
def yM (l:List Tm):Bool:=l.all eY && decide (bw l<=200)
theorem pf {B sz fz:Nat}{row:List AV}{ex:Bool}(h:∀ a ∈ row,Pure a):fV B (.arr sz [row] fz ex):=fun r hr a ha=>by
 obtain rfl:=List.mem_singleton.1 hr
 exact (h a ha).b9
end
section
set_option maxRecDepth 100000
attribute [local irreducible] ah aK ae aa
def t_ (l:List Tm):Prop:=mc l/\bw l<=1099511627776
theorem t_.len {l:List Tm}(h:t_ l):l.length<=1099511627776:=Nat.le_trans (vg l) h.2
def pO (x:At):Bool:=mJ x.n && decide (x.a.length<=6) && yM x.a
def arity (o:Int):Int:=if o=1\/o=2 then 0 else if o=11\/o=12 then 1 else if o > 2/\o < 11 then 2 else -1
def ua (x:Gl):Bool:=if x.op=0 then pO ⟨x.n,x.a⟩ else x.n.toList == (⟨#[]⟩:ByteArray).toList && decide (arity x.op=x.a.length) && yM x.a
end
section
variable {P:Program}{w0:World}{n:Nat}{S S':ad}{f:FuncId}{args:List AV}{r r':AV}{B N:Nat}{m:List (Nat × Nat)}{so:List (Nat × Ob)}
theorem aK.canon (h:aK P w0 f args S r S') (hn:Nat.ble S.nx B=true) (hr:il B m N r r') (ho:gj B m N S' so) (hd:nz B m (so.map (·.1))=true) (hb:Nat.ble B N=true):aK P w0 f args S r' (au so N):=by
 refine⟨h.1,fun F mm A g aQ w hF hS hA=>(h.2 F mm A g aQ w hF hS hA).mono ?_⟩
 rintro e w' ⟨v,g',rfl,h3,h4,h5⟩
 have hC:Canon B N m ⟨fun _=>.u,[]⟩ S' [] [] so:=⟨trivial,rfl,ho,hd,hb,rfl⟩
 have hN:=Nat.le_of_ble_eq_true hb
 exact⟨v,g'.fI B N (aN m),rfl,il.rep hN hr h3,hC.st h4,h5.fI hN fun k hk=>Nat.lt_of_lt_of_le (hS.al k hk) (Nat.le_of_ble_eq_true hn)⟩
theorem aT.fM {q:QC × List QR}(B N:Nat) (so:List (Nat × Ob)) (F:aT P f q n) (aY:args.length<=n) (hn:Nat.ble S.nx B=true) (hb:Nat.ble B N=true)
  (h:aa P w0 false n (og q.2 fun r S'=>∃ m,il B m N r r'/\gj B m N S' so/\nz B m (so.map (·.1))=true) (.run q.1 []) ⟨j_ args,[]⟩ S):aK P w0 f args S r' (au so N):=by
 obtain⟨r,S',h1,m,h2,h3,h4⟩:=aT.A3 F aY h
 exact h1.canon hn h2 h3 h4 hb
end
section
variable {P:Program}{w0:World}{α:AA}{S:ad}
theorem ae.ext {f:QO}{aZ9:List QO}{g:FuncId}{xs:List Value}{v:Value}(h:f.ev α.tm=.v (.func (.func g) #[] #[])) (ha:aZ9.map (·.ev α.tm)=xs.map .v) (hx:∀ w:World,(callFunc g xs.toArray).run P w=.ok (.value v) w):ae P w0 false (.call f aZ9) α S (.v v) S:=by
 refine ae.run fun n o hr=>?_
 obtain⟨c,u,ho,hu,rfl,rfl⟩:=jP hr
 rw [ij] at ha
 rw [aJ] at h
 refine aS.quiet fun A g' q w hS hA=>?_
 have e1:=hA.ev u
 rw [h] at e1
 have e2:=bO e1
 have key:∀ (l:List Operand) (xs:List Value),l.map α.ev=xs.map AV.v->l.map q.eval=xs:=by
  intro l
  induction l with
  |nil =>
   intro xs h
   cases xs with
   |nil=>rfl
   |cons x xs=>cases h
  |cons y l ih =>
   intro xs h
   cases xs with
   |nil=>cases h
   |cons x xs =>
    rw [List.map_cons,List.map_cons] at h
    injection h with h1 h2
    have e5:=hA.ev y
    rw [h1] at e5
    rw [List.map_cons,bO e5,ih xs h2]
 have e3:c.args.map q.eval=xs.toArray:=by
  apply Array.toList_inj.1
  rw [Array.toList_map,key _ _ ha]
 refine⟨v,?_,.v⟩
 have ZV:=hx w
 simp [execOp,ho,hu,e2,e3,ZV,resolve,invoke,Deferred.ofValue]
end
def w9 (P:Program) (w0:World) (f:FuncId) (args:List AV) (S:ad) (ch:List PanicEntry) (S':ad):Prop :=
 (∀ (xs:Array Value) (w:World),(callFunc f xs).run P w=.ok (.enter f xs) w) /\
 ∀ (F:Fence) (m:Nat) (A:Nat->Prop) (g:Gh) (aQ:Array Value) (w:World),gU F->St w0 A g S w->iP g w args aQ ->
  CallsIn F m P f aQ w fun e w'=>∃ g',e=.panicked ch/\St w0 A g' S' w'/\Ext A g w g' w'
def qO (P:Program) (w0:World) (f:FuncId) (args:List AV) (ch:List PanicEntry):Prop:=∃ S',w9 P w0 f args ad.none_ ch S'
section
variable {P:Program}{w0:World}{rd:Bool}{n:Nat}{α aw:AA}{S S':ad}{Q:Exit->AA->ad->Prop}{ex:Exit}{r:AV}{i:QI}{l:List QI}{K:List fc}{ch:List PanicEntry}
theorem qO.QU {f:FuncId}{args ec:List AV}(h:qO P w0 f args ch) (hp:∀ a ∈ args,Pure a) (S:ad) (hl:ec.length=args.length) (hf:∀ (i:Nat) (a0 a:AV),ec[i]?=some a0->args[i]?=some a->bp S a0 a):w9 P w0 f ec S ch S:=by
 obtain⟨S1,h1,h2⟩:=h
 refine⟨h1,fun F m A g aQ w hF hS hA=>?_⟩
 have aA:∀ b q,(g.still S).fz b q->b < w.heap.size:=by
  rintro b q (hq|⟨k,sz,rows,fz,ex,hk,aO,rfl,hq⟩)
  ·exact hS.cC b q hq
  ·exact (hS.bR k _ hk aO).2.1
 refine (h2 F m _ _ aQ w hF (hS.inner (g.still S).fz (fun _ _ h=>.inl h) aA) ⟨hA.1.trans hl,fun i a x ha hx=>?_⟩).mono ?_
 ·have hi:i < ec.length:=by rw [hl];exact (List.getElem?_eq_some_iff.1 ha).1
  have FO:=List.getElem?_eq_getElem hi
  exact aH.pure (g:=g.still S) (g':=⟨g.ob,g.cp,fun _=>False,(g.still S).fz,g.fo⟩) (fun _ _ h=>h) (fun _ _ _=>rfl) ((hf i _ a FO ha).rep hS (hA.2 i _ x FO hx)) (hp a (List.mem_of_getElem? ha))
 ·rintro e w' ⟨g1,rfl,h4,h5⟩
  obtain⟨hE,cQ⟩:=hS.outer (fun _ _ h=>.inl h) aA h4 h5
  exact⟨_,rfl,cQ,hE⟩
theorem qO.Ff {f:FuncId}{args ec:List AV}(h:qO P w0 f args ch) (hp:dm args) {S:ad}(hf:fH S ec args):w9 P w0 f ec S ch S:=h.QU hp.all S hf.len hf.at
theorem QV {o:Oper}{c:Call}{f:Operand}{gf:FuncId}{args:List AV}(ho:o.op=.call c) (hc:c.callee=.value f)
  (hf:∀ (A:Nat->Prop) (g:Gh) (a:Act) (w:World),St w0 A g S w->bN g w n α a->∃ first cap,a.eval f=.func (.func gf) first cap/\iP g w args (first++c.args.map a.eval++cap)) (h:w9 P w0 gf args S ch S'):OpP P w0 n o α S ch S':=by
 intro F m A g a w next Q hF hS hA nC
 rw [Oper.semAt_eq _ _ _ (fun c' e=>by rw [ho] at e;cases e)]
 obtain⟨first,cap,he,hr⟩:=hf A g a w hS hA
 have bY:(execOp a.eval o).run P w=.ok (.enter gf (first++c.args.map a.eval++cap)) w:=by
  simp only [execOp,ho,resolve,hc,he,Deferred.ofValue,Sem.run_bind,Sem.run_pure,Result.andThen_ok,invoke]
  exact h.1 _ w
 rw [bY,Oper.uponIn_enter]
 refine⟨fun hd=>(by rw [hF.2.1] at hd;cases hd),(h.2 F (m - 1) A g _ w hF hS hr).mono ?_⟩
 rintro e w' ⟨g',rfl,h2,h3⟩
 exact nC w' g' h2 h3
theorem rD.call {f:QO}{aZ9:List QO}{g:FuncId}{args:List AV}(h:dM (f.ev α.tm) (aZ9.map (·.ev α.tm))=some (g,args)) (hc:w9 P w0 g args S ch S'):rD P w0 (.call f aZ9) α S ch S':=by
 intro n o hr
 obtain⟨c,u,ho,hu,rfl,rfl⟩:=jP hr
 rw [ij,aJ] at h
 unfold dM at h
 refine QV ho hu (fun A g' a w hS hA=>?_) hc
 have h1:=hA.ev u
 split at h
 ·rename_i g2 x y he
  split at h
  ·rename_i e1 e2
   injection h with h;injection h with h3 h4
   subst h3 h4
   rw [he] at h1
   have e3:x=#[]:=by cases x;simp at e1;rw [e1]
   have e4:y=#[]:=by cases y;simp at e2;rw [e2]
   subst e3 e4
   refine⟨#[],#[],bO h1,?_⟩
   rw [Array.empty_append,Array.append_empty]
   exact nL hA c.args
  ·cases h
 ·rename_i g2 x y he
  injection h with h;injection h with h3 h4
  subst h3 h4
  rw [he] at h1
  obtain⟨cs,ds,h5,h6,h7⟩:=tS h1
  exact⟨cs,ds,h5,gM (gM h6 (nL hA c.args)) h7⟩
 ·cases h
theorem rD.aL {f:QO}{aZ9:List QO}{g:FuncId}{args ec:List AV}(h:dM (f.ev α.tm) (aZ9.map (·.ev α.tm))=some (g,ec)) (hc:qO P w0 g args ch) (hp:dm args) (hf:fH S ec args):rD P w0 (.call f aZ9) α S ch S:=rD.call h (hc.Ff hp hf)
theorem aa.wB (hw:bD α.tm i.g=some true) (h:rD P w0 i.q α S ch S') (k:aa P w0 rd n Q (.out (.panic ch) K) α S'):aa P w0 rd n Q (.aU false (i::l) K) α S:=eH.wB hw h k
def toV:AV->Option Value
 |.v x=>some x
 |.agg l=>match toVs l with|some cs=>some (.agg cs.toArray)|none=>none
 |_=>none
where toVs:List AV->Option (List Value)
 |[]=>some []
 |a::l=>match toV a,toVs l with|some x,some cs=>some (x::cs)|_,_=>none
theorem toVs_at:∀ {l:List AV}{cs:List Value},toV.toVs l=some cs->cs.length=l.length/\∀ (i:Nat) (a:AV),l[i]?=some a->∃ x,cs[i]?=some x/\toV a=some x
 |[],cs,h=>by
  simp only [toV.toVs,oI_] at h
  subst h
  exact⟨rfl,fun i a h=>by simp at h⟩
 |a::l,cs,h=>by
  simp only [toV.toVs] at h
  split at h
  ·rename_i x cs' h1 h2
   obtain rfl:=oJ_ h
   obtain⟨k1,k2⟩:=toVs_at h2
   refine⟨by simp [k1],fun i b hb=>?_⟩
   cases i with
   |zero=>simp at hb;subst hb;exact⟨x,rfl,h1⟩
   |succ i=>simp at hb;simpa using k2 i b hb
  ·cases h
theorem uc {g:Gh}{w:World}{a:AV}{y:Value}(hr:aH g w a y):∀ {x:Value},toV a=some x->y=x:=by
 induction hr with
 |v=>intro x h;simp only [toV,oI_] at h;exact h
 |@agg l cs hs h ih =>
  intro x hx
  simp only [toV] at hx
  split at hx
  ·rename_i cs' hc
   obtain rfl:=oJ_ hx
   obtain⟨k1,k2⟩:=toVs_at hc
   congr 1
   apply Array.ext
   ·simp [hs,k1]
   ·intro i h1 h2
    have hi:i < l.length:=by rw [<-hs];exact h1
    obtain⟨x,e1,e2⟩:=k2 i _ (List.getElem?_eq_getElem hi)
    have e3:=ih i _ _ (List.getElem?_eq_getElem hi) (Array.getElem?_eq_getElem h1) e2
    rw [e3]
    have:=(List.getElem?_eq_some_iff.1 e1)
    simp [<-this.2]
  ·cases hx
 |_=>intro x h;simp [toV] at h
theorem QW {o:Op}{t:Nat}{x:QO}(h:res P.toTables o=some (.CG t x)):∃ u,o=.makeInterface t u/\x=qo u:=by
 cases o with
 |makeInterface t' u =>
  simp only [res,oI_] at h
  injection h with h1 h2
  subst h1
  exact⟨u,rfl,h2.symm⟩
 |_ =>
  simp only [res] at h
  repeat' split at h
  all_goals cases h
def isIf (T:Tables) (t:TypeId):Bool:=match eG T t with|some (.interface _)=>true|some _=>false|none=>true
theorem ae.CG {t:Nat}{x:QO}{v:Value}(hx:toV (x.ev α.tm)=some v) (ht:isIf P.toTables t=false):ae P w0 false (.CG t x) α S (.v (.iface t v)) S:=by
 refine ae.run fun n o hr=>?_
 obtain⟨u,ho,rfl⟩:=QW hr
 rw [aJ] at hx
 refine aS.quiet fun A g a w hS hA=>⟨.iface t v,?_,.v⟩
 have e:=uc (hA.ev u) hx
 unfold isIf at ht
 rw [bF] at ht
 simp only [execOp,ho,e,Instr.makeInterface]
 cases hu:P.underlying t with
 |none=>rw [hu] at ht;cases ht
 |some d =>
  have ZW:(underlying t).run P w=.ok d w:=by simp [underlying,hu]
  rw [hu] at ht
  cases d<;>simp_all
theorem XX {o:Op}{x:QO}(h:res P.toTables o=some (.wB x)):∃ u,o=.panic u/\x=qo u:=by
 cases o with
 |panic u =>
  simp only [res,oI_] at h
  injection h with h1
  exact⟨u,rfl,h1.symm⟩
 |_ =>
  simp only [res] at h
  repeat' split at h
  all_goals cases h
theorem rD.wB {x:QO}{t:TypeId}{v:Value}(hx:x.ev α.tm=.v (.iface t v)):rD P w0 (.wB x) α S [{ v:=.iface t v,recovered:=false }] S:=by
 intro n o hr
 obtain⟨u,ho,rfl⟩:=XX hr
 rw [aJ] at hx
 intro F m A g a w next Q hF hS hA nC
 rw [Oper.semAt_eq _ _ _ (fun c' e=>by rw [ho] at e;cases e)]
 have e:=hA.ev u
 rw [hx] at e
 have e:=bO e
 have bY:(execOp a.eval o).run P w=.halt (.panic (.iface t v)) w:=by
  simp [execOp,ho,e,Instr.panic,goPanic]
 rw [bY,Oper.uponIn_panic]
 exact nC w g hS (Ext.refl ..)
def w_ (qs:List QR) (R:AV->ad->Prop) (E:List PanicEntry->ad->Prop) (ex:Exit) (α:AA) (S:ad):Prop:=match ex with
 |.panic ch=>α.df=[]/\E ch S
 |ex=>og qs R ex α S
theorem aa.xc {qs:List QR}{R:AV->ad->Prop}{E:List PanicEntry->ad->Prop}(he:A0 ex=true) (h:uV qs ex α S=some (r,S')) (k:R r S'):aa P w0 rd n (w_ qs R E) (.out ex []) α S:=by
 show w_ qs R E ex α S
 cases ex<;>first|exact⟨r,S',h,k⟩|cases he
theorem aa.ZX {qs:List QR}{R:AV->ad->Prop}{E:List PanicEntry->ad->Prop}(hd:α.df=[]) (k:E ch S):aa P w0 rd n (w_ qs R E) (.out (.panic ch) []) α S:=⟨hd,k⟩
theorem w9.ZY {f:FuncId}{fn:Func}{c:Code}{args:List AV}(hf:P.funcs[f]?=some fn) (hb:fn.body=some c) (hc:∀ (xs:Array Value) (w:World),(callFunc f xs).run P w=.ok (.enter f xs) w)
  (hn:fn.ntmps=n) (aY:args.length<=n) (hd:aw.df=[]) (h:cu P w0 false n c ⟨j_ args,[]⟩ S (.panic ch) aw S'):w9 P w0 f args S ch S':=by
 refine⟨hc,fun F m A g aQ w hF hS hA=>?_⟩
 have key:CallsIn F.plain m P f aQ w fun e w'=>∃ g',e=.panicked ch/\St w0 A g' S' w'/\Ext A g w g' w':=by
  refine callsIn_of_wp_marks hf hb (hF.1 f) ?_ rfl
  rw [hn]
  refine wpIn_mono (h F.plain m A g _ w hF.plain rfl hS (vh hA aY)) ?_
  rintro ex' a' w' ⟨rfl,g',h1,h2,h3⟩
  show LeavesInM F.plain m P fn a'.tmps _ a'.defers (.panicking ch) w'
  rw [h2.df,hd]
  exact⟨g',rfl,h1,h3⟩
 exact key
theorem aT.Ud {f:FuncId}{q:QC × List QR}{args:List AV}{b:Bool}(F:aT P f q n) (aY:args.length<=n) (hp:Pure r) (h:aa P w0 false n (w_ q.2 (fun r' S=>b=true/\bp S r' r) (fun zp S=>b=false/\zp=ch)) (.run q.1 []) ⟨j_ args,[]⟩ ad.none_) :
  (b=true->ah P w0 f args r)/\(b=false->qO P w0 f args ch):=by
 obtain⟨fn,c,hf,hb,hn,hr,hq,hd,hc⟩:=F.out
 obtain⟨ex,aw,S',h1,h2⟩:=h c hq hd
 have h2:w_ q.2 (fun r' S=>b=true/\bp S r' r) (fun zp S=>b=false/\zp=ch) ex aw S':=h2
 have nrm:og q.2 (fun r' S=>b=true/\bp S r' r) ex aw S'->(b=true->ah P w0 f args r)/\(b=false->qO P w0 f args ch):=fun h3=>by
  obtain⟨r',S1,h4,h5,h6⟩:=h3
  have h7:og q.2 (fun r' S=>bp S r' r) ex aw S':=⟨r',S1,h4,h6⟩
  exact⟨fun _=>ah.of_wp hf hb hc hn aY hp ⟨ex,aw,S',h1,wG hr h7⟩,fun e=>absurd (h5.symm.trans e) (by simp)⟩
 cases ex with
 |panic zp =>
  obtain⟨k1,k2,rfl⟩:=h2
  exact⟨fun e=>absurd (k2.symm.trans e) (by simp),fun _=>⟨S',w9.ZY hf hb hc hn aY k1 h1⟩⟩
 |_=>exact nrm h2
def EU (P:Program) (w0:World) (f:FuncId) (args:List AV) (b:Bool) (r:AV) (ch:List PanicEntry):Prop:=(b=true->ah P w0 f args r)/\(b=false->qO P w0 f args ch)
theorem aa.yN {b:Bool}{d:Option Nat}{gd:Option (Nat × Bool)}{f:QO}{aZ9:List QO}{g:FuncId}{args ec:List AV}(hw:bD α.tm gd=some true) (h:dM (f.ev α.tm) (aZ9.map (·.ev α.tm))=some (g,ec)) (hc:EU P w0 g args b r ch) (hp:dm args) (hs:rH r) (hf:fH S ec args)
  (k1:b=true->aa P w0 rd n Q (.aU false l K) (bS d α r) S) (k2:b=false->aa P w0 rd n Q (.out (.panic ch) K) α S):aa P w0 rd n Q (.aU false (⟨d,gd,.call f aZ9⟩::l) K) α S:=by
 cases b with
 |true=>exact aa.op hw (ae.AZ h (hc.1 rfl) hp hs hf) (k1 rfl)
 |false=>exact aa.wB hw (rD.aL h (hc.2 rfl) hp hf) (k2 rfl)
end
end Go.Proofs.YtgjfgekaclobaaaGreat
