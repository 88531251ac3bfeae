import Derived.Test.YtbpabjmnhggajaaGreatOs46
namespace Go.Proofs.YtbpabjmnhggajaaGreat
set_option linter.unusedVariables false
set_option linter.unusedSimpArgs false
open Go.RowKit
section
variable {P:Program}{w0:World}{n:Nat}{o:Oper}{α:AA}{S S':ae}{r:AV}
theorem af.aiV {m:Nat}{x hi:QO}{ik:IntKind}(hx:x.ev α.tm=.sl true []) (hh:hi.ev α.tm=.v (.int ik 0)):af P w0 false (.slice (.sl m) x none (some hi) none) α S (.sl true []) S:=af.run fun n o hr=>by
 obtain⟨t,u,l1,i1,m1,ho,rfl,qd,mX,dG,⟨hs,_⟩|⟨e,m',hs,hu,hz⟩⟩:=E0 hr
 ·grind
 ·injection hs with hs;subst hs;have dG:m1=none:=by cases m1 with|none=>rfl|some _=>cases dG
  subst dG;have qd:l1=none:=by cases l1 with|none=>rfl|some _=>cases qd
  subst qd;obtain⟨i2,rfl,rfl⟩:∃ i2,i1=some i2/\hi=qo i2:=by
   cases i1 with
   |none=>cases mX
   |some i2=>exact⟨i2,rfl,oJ_ mX⟩
  rw[aI] at hx hh;refine aQ.quiet fun A g q w hS hA=>?_;have h1:=hA.ev u;rw[show α.ev u=_ from ‹α.ev u=_›] at h1;obtain⟨B,c,e1,_,hc⟩:=om h1;obtain rfl:c=0:=by grind
  have h2:=hA.ev i2;rw[show α.ev i2=_ from ‹α.ev i2=_›] at h2;have e2:=bI h2;have hb:=kB (P:=P) (isSl:=true) (len:=0) (cap:=0) (w:=w) (lo:=none) (hi:=some i2) (l:=0) (h:=0) hA rfl (by simp[j6,hh]) (by omega) (by omega) (by omega);simp only[Option.map_none,Option.map_some,Int.toNat_zero] at hb;have jd:∃ A',(Instr.slice t (q.eval u) (Option.map q.eval none) (Option.map q.eval (some i2)) (Option.map q.eval none)).run P w=.ok (.slice A' 0 0) w:=by
   cases B with
   |none=>exact⟨none,by simp[Instr.slice,e1,run_underlying hu,hb,ct hz]⟩
   |some B=>exact⟨some B,by simp[Instr.slice,e1,run_underlying hu,hb,ct hz]⟩
  obtain⟨A',jd⟩:=jd;have NG:(execOp q.eval o).run P w=.ok (.value (.slice A' 0 0)) w:=by
   simp only[execOp,ho,Sem.run_bind,sP hu (fun k e h=>by grind),jd,Result.andThen_ok]
   rfl
  exact⟨_,NG,.nil fun _=>rfl⟩
theorem af.aiW {dr:Bool}{m k sz off len:Nat}{cx:Option Nat}{x hi:QO}{ik:IntKind}{j:Int}(hx:x.ev α.tm=.ob k sz off len cx) (hm:m=sz) (hh:hi.ev α.tm=.v (.int ik j)) (h0:0<=j) (h1:j<=len):af P w0 dr (.slice (.sl m) x none (some hi) none) α S (.ob k sz off j.toNat cx) S:=af.ZK fun t h=>by
 rcases h with ⟨h,_⟩|⟨e,m',h,hu,hz⟩
 ·grind
 ·injection h with h;subst h hm;simp only[hx,Option.map_none,Option.map_some,hh,ln,hu,j6];exact⟨hz,h0,h1,rfl,rfl⟩
end
def lF {T:Type}(f:T->List AV) (z:List AV) (m:Nat) (l:List T):List (List AV):=l.map f++List.replicate (m - l.length) z
section
variable {P:Program}{w0:World}{α:AA}{S:ae}{rd:Bool}{n:Nat}{Q:Exit->AA->ae->Prop}{l:List QI}{K:List ff}{ρ:Hd}{T:Type}{f:T->List AV}{z:List AV}{dd:Option Nat}{gg:Option (Nat × Bool)}{acc ys:List T}
theorem T6 {m:Nat}{l:List T}(h:l.length<=m):(lF f z m l).length=m:=by grind[lF]
theorem ad.aiX {by_:Nat}{a b:QO}{i:Int}{m sz:Nat}(ρ:Hd) (f:T->List AV) (hw:bm α.tm gg=some true) (h1:a.ev α.tm=.v (.int .i64 0)) (h2:b.ev α.tm=.v (.int .i64 i)) (hi:i=m) (hs:z.length=sz) (hy:m*by_<=35184372088832) (h6:m<=9223372036854775807)
  (kk:∀ acc:List T,acc=[]->ad P w0 rd n Q (.aN false l K) (bC dd α (.ob S.nx sz 0 0 none)) (S.new (.arr sz (ρ.h (lF f z m) acc) 0 true))):ad P w0 rd n Q (.aN false (⟨dd,gg,.iI z by_ a b⟩::l) K) α S:=by
 have h:=kk [] rfl;rw[ρ.eq] at h;subst hs hi;exact ad.op (i:=⟨dd,gg,.iI z by_ a b⟩) hw (by simpa[lF] using af.Zu (P:=P) (w0:=w0) (z:=z) (by_:=by_) (S:=S) h1 h2 (by omega) (by omega) (by omega) (by omega)) (by grind[lF])
theorem abe {α:Type}{g:Nat->α}{k:Nat}{o:α}(h:g k=o):a7 g k o=g:=by grind[az,aD]
theorem ad.abf {by_ sz k len m:Nat}{ex ex':Bool}{a b:QO}(hw:bm α.tm gg=some true) (h1:a.ev α.tm=.ob k sz 0 len none) (hk:S.get k=some (.arr sz (ρ.h (lF f z m) acc) 0 ex)) (hn:len=acc.length) (hb:b.ev α.tm=aX ρ f ex' ys) (hl:∀ x,(f x).length=sz) (hc:∀ x,(f x).all bO=true) (hm:acc.length+ys.length<=m)
  (kk:∀ dp eK,dp=acc++ys->eK=dp.length->ad P w0 rd n Q (.aN false l K) (bC dd α (.ob k sz 0 eK none)) (S.set k (some (.arr sz (ρ.h (lF f z m) dp) 0 ex)))):ad P w0 rd n Q (.aN false (⟨dd,gg,.append sz by_ a b⟩::l) K) α S:=by
 rw[bQ] at hb;have h:=kk _ _ rfl rfl;rw[ρ.eq] at h hk;cases ys with
 |nil =>
  rw[List.append_nil] at h;have e:S.set k (some (.arr sz (lF f z m acc) 0 ex))=S:=by
   cases S with
   |mk g x=>show (⟨a7 g k _,x⟩:ae)=⟨g,x⟩;rw[abe hk]
  rw[e] at h;subst hn;exact ad.op (i:=⟨dd,gg,.append sz by_ a b⟩) hw (af.CQ h1 hk (by rw[hb];exact fL)) h
 |cons y ys =>
  have hp:=T6 (f:=f) (z:=z) (show acc.length<=m by omega);have hlen:(f y::List.map f ys).length=(y::ys).length:=by simp
  have o:=af.Zv (P:=P) (w0:=w0) (by_:=by_) (x:=f y) (more:=List.map f ys) h1 hk (by rw[hb];exact fL) (Nat.zero_le _) (by grind) (fun row hr=>by grind);have e1:(lF f z m acc).take len=acc.map f:=by grind[lF]
  have e2:(lF f z m acc).drop (len+(f y::List.map f ys).length)=List.replicate (m - (acc++y::ys).length) z:=by
   rw[lF,hn,List.drop_append,List.drop_eq_nil_of_le (by simp),List.nil_append,List.drop_replicate];congr 1;simp;omega
  have e3:(lF f z m acc).take len++f y::List.map f ys++(lF f z m acc).drop (len+(f y::List.map f ys).length)=lF f z m (acc++y::ys):=by grind[lF]
  rw[e3] at o;have e4:len+(f y::List.map f ys).length=(acc++y::ys).length:=by grind
  rw[e4] at o;exact ad.op (i:=⟨dd,gg,.append sz by_ a b⟩) hw o h
theorem aR.aiY {k sz len m:Nat}{ex:Bool}(hk:S.get k=some (.arr sz (ρ.h (lF f z m) acc) 0 ex)) (hn:len=acc.length):aR S (.ob k sz 0 len none) (aX ρ f false acc):=by
 rw[bQ];rw[ρ.eq] at hk;have key:∀ i row,(acc.map f)[i]?=some row->(lF f z m acc)[i]?=some row:=fun i row h=>by
  unfold lF;rw[List.getElem?_append_left (List.getElem?_eq_some_iff.1 h).1];exact h
 refine .ob hk (by simp[lF];omega) (by grind) (fun i row bw h1 h2=>?_) (fun i j row bw a a' h1 h2 h3 h4=>?_)
 ·grind
 ·rw[Nat.zero_add,key i _ h2] at h1;rw[oJ_ h1,h3] at h4;rw[oJ_ h4];exact .refl _
end
section
variable {P:Program}{w0:World}{n:Nat}{α:AA}{S S':ae}
theorem Cv.aiZ {t k sz m:Nat}{rows:List (List AV)}{ex:Bool}(hk:S.get k=some (.arr sz rows 0 ex)) (ht:α.tm t=.ob k sz 0 m none) (hm:m<=rows.length):Cv w0 n α S ⟨a7 α.tm t (.gr k sz m),α.df⟩ (S.set k (some (.arr sz (rows.take m) 0 false))):=by
 intro A g a w hS hA;refine⟨g,hS.Eo (Nat.le_refl _) fun j o' hj ha=>?_,⟨hA.size,fun s hs=>?_,fun s hs=>?_,hA.df,hA.rY⟩,Ext.refl A g w⟩
 ·have hj:a7 S.get k (some (.arr sz (rows.take m) 0 false)) j=some o':=hj;by_cases e:j=k
  ·subst e;rw[az] at hj;obtain rfl:=oJ_ hj;refine⟨_,hk,fun h=>?_,fun J h=>by cases h⟩;obtain⟨cs,ty,h1,h2,h3,h4,h5,h6,h7⟩:=h;refine⟨cs,ty,h1,h2,by rw[List.length_take];omega,(fun h=>by cases h),fun i row hi=>?_,Nat.zero_le _,h7⟩;rw[List.getElem?_take] at hi;split at hi
   ·exact h5 i row hi
   ·cases hi
  ·rw[aD _ _ e] at hj;exact⟨o',hj,fun h=>h,fun J h=>h⟩
 ·show aF g w (a7 α.tm t _ s) _;by_cases e:s=t
  ·subst e;rw[az];have h1:=hA.tm s hs;rw[ht] at h1;generalize a.tmps.getD s undef=v at h1 ⊢;cases h1 with
   |ob gT hc hp hx hle =>
    rw[Nat.zero_mul];exact .gr gT (by have:=hx rfl;omega) hle
  ·rw[aD _ _ e];exact hA.tm s hs
 ·show a7 α.tm t _ s=.u;by_cases e:s=t
  ·subst e;have h2:=hA.out s hs;rw[ht] at h2;cases h2
  ·rw[aD _ _ e];exact hA.out s hs
theorem af.Hn {dr:Bool}{len n:Nat}{x i:QO}{k sz p q m:Nat}{ik:IntKind}{j:Int}(h1:x.ev α.tm=.pt k sz p q) (h2:i.ev α.tm=.v (.int ik j)) (h3:j=m) (h4:m < len):af P w0 dr (.ph len n x i) α S (.pt k sz p (q+m*n)) S:=by
 have:=af.k_ (P:=P) (w0:=w0) (α:=α) (S:=S) (dr:=dr) (len:=len) (n:=n) h1 h2 (by omega) (by omega);rw[show j.toNat=m by omega] at this;exact this
theorem ad.ai0 {σ T:Type}{B N:Nat}{Q:Exit->AA->ae->Prop}{K:List ff}{st0:List (Nat × AV)}{ds:List DE}{so:σ->List (Nat × Ob)}{I:List T->σ->Prop}{rest:List T}(so':List (Nat × Ob)) (m:List (Nat × Nat)) (hC:Canon B N m α S [] [] so') (h:ad P w0 false n Q (.out .ret K) (eJ st0 ds) (aq so' N)) :
  ad P w0 true n (ML P w0 n B N st0 ds so I Q K rest) (.out .ret []) α S:=⟨so',m,hC,h⟩
end
section
set_option maxRecDepth 100000
attribute [local irreducible] ah aC af ad
theorem T7 {ρ:Hd}(l:List Tm):aX ρ (iL ρ) false l=tl ρ l:=by
 rw[tl,bQ,bQ,show (iL ρ)=lr from funext fun x=>(pv x).symm]
theorem XF {S:ae}{ρ:Hd}:aR S (.sl true []) (tl ρ []):=by rw[tl,bQ];exact aR.wk
theorem xF:∀ l:List Tm,l.length<=bP l
 |[]=>Nat.zero_le _
 |x::l=>by rw[bP,List.length_cons];have:=xF l;have:=mq x;omega
end
section
set_option maxRecDepth 100000
attribute [local irreducible] ah aC af ad
theorem Cv.ai1 {w0:World}{n:Nat}{α:AA}{S:ae}{T:Type}{ρ:Hd}(f:T->List AV) {t k sz:Nat}{rows:List (List AV)}{ex:Bool}(hk:S.get k=some (.arr sz rows 0 ex)) (ht:α.tm t=.ob k sz 0 0 none):Cv w0 n α S ⟨a7 α.tm t (.gr k sz 0),α.df⟩ (S.set k (some (.arr sz (ρ.h (List.map f) []) 0 false))):=by
 have:=Cv.aiZ (w0:=w0) (n:=n) hk ht (Nat.zero_le _);rw[ρ.eq,List.map_nil];simpa using this
end
section
set_option maxRecDepth 100000
attribute [local irreducible] ah aC af ad
theorem QQ (b:List Bd) (v:Int):(iM b v).2=(xp b v).isSome/\∀ u,xp b v=some u->(iM b v).1=u:=by
 unfold iM xp;cases b.find? fun x=>x.v == v with
 |none=>exact⟨rfl,fun u h=>by grind⟩
 |some x=>exact⟨rfl,fun u h=>by grind⟩
end
section
set_option maxRecDepth 100000
attribute [local irreducible] ah aC af ad
def T8:FQ 76 Tryz.f76:=a_ Tryz.func76 Tryz.call76
def GO:List Nat:=[0,2,4]
def aeJ:FQ 264 Tryz.f264:=a_ Tryz.func264 Tryz.call264
def abg:List Nat:=[3,0,2,1]
def aeK:FQ 239 Tryz.f239:=a_ Tryz.func239 Tryz.call239
def Od:List Nat:=[4,0,6,5,1,3,11]
def aeL:FQ 202 Tryz.f202:=a_ Tryz.func202 Tryz.call202
def Oe:List Nat:=[3,4,8,0,1,9,6,18,5,20]
def V4:FQ 139 Tryz.f139:=a_ Tryz.func139 Tryz.call139
def gQ:List Nat:=[5,11,6,4,1,10,12,0]
def ai2:FQ 83 Tryz.f83:=a_ Tryz.func83 Tryz.call83
def g83:List Nat:=[3,4,1,0]
theorem wC {ρ:Hd}{B sz:Nat}{ex:Bool}(l:List Tm):fR B (.arr sz (ρ.h (List.map (iL ρ)) l) 0 ex):=eO fun x _ a ha=>qn x a ha
theorem J7 {ρ:Hd}(l:List Tm):∀ row ∈ ρ.h (List.map (iL ρ)) l,∀ a ∈ row,Pure a:=by
 rw[ρ.eq];intro row hr a ha;obtain⟨x,_,rfl⟩:=List.mem_map.1 hr;exact qn x a ha
section
variable {w0:World}{ρ:Hd}
theorem Of (A:Option Addr) (c:Nat):ah Tryz.prog w0 76 [.v (.slice A 0 c)] (.sl true []):=by
 cases A with
 |none =>
  refine st T8 GO ((.sl fun r h=>by grind)) ?_;refine ad.op rfl (af.nil (b:=true) rfl rfl) ?_;refine gq GO ?_;refine fq ?_;exact .refl _
 |some A =>
  refine st T8 GO ((.sl fun r h=>by grind)) ?_;refine ad.op rfl (af.nil (b:=false) rfl rfl) ?_;refine gq GO ?_;refine ad.op rfl (af.DR rfl rfl) ?_;refine gq GO ?_;refine fq ?_;exact .refl _
theorem J8:ah Tryz.prog w0 76 [tl ρ []] (tl ρ []):=by
 have h:ah Tryz.prog w0 76 [tl ρ []] (.sl true []):=by
  rw[tl,bQ];exact ah.emp Of
 exact ah.fz h (fun S=>XF) (aS _)
theorem J9 (x:Tm) (l:List Tm) (hl:(x::l).length<=100000000000):aC Tryz.prog w0 76 [tl ρ (x::l)] (aq [] 0) (.gr 0 4 (x::l).length) (aq [(0,.arr 4 (ρ.h (List.map (iL ρ)) (x::l)) 0 false)] 1):=by
 obtain⟨R,hR⟩:∃ R,R=x::l:=⟨_,rfl⟩;have tt:xd (aX ρ (iL ρ) false R)=some false:=by rw[hR,bQ];rfl
 rw[<-hR] at hl ⊢;rw[<-T7];refine sc 0 1 T8 ?_;refine gq GO ?_;refine og GO (af.nil tt rfl) ?_;refine ad.Hf (f:=iL ρ) (ys:=R) rfl rfl rfl (fun _=>rfl) (by omega) fun acc len jP hlen=>?_;have hlen:len=R.length:=by grind
 subst jP;rw[<-hlen];refine gq GO ?_;refine fq ?_;exact⟨[(0,0)],.iR rfl rfl,⟨.inl ⟨_,rfl,.same (wC _)⟩,trivial⟩,rfl⟩
theorem XG (x:Bd) (v:Int):ah Tryz.prog w0 264 [bd ρ x,.ip [iv v]] (.v (.bool (x.v == v))):=by
 obtain⟨i,k,j,n,a⟩:=x;refine st aeJ abg .v ?_
 repeat' (first
  |refine cg abg (fun hb=>?_) fun hb=>?_
  |(refine fq ?_))
 all_goals (refine eA ?_;simp_all)
theorem aeM (x:Bd) (v:Int):FR Tryz.prog w0 (.fn (.func 264) [] [.ip [iv v]]) [bd ρ x] (x.v == v):=⟨_,_,rfl,⟨AK x,.ip fun b hb=>by obtain rfl:=List.mem_singleton.1 hb;exact .v,trivial⟩,XG x v⟩
theorem XH (b:List Bd) (v:Int) (hl:b.length<=1099511627776):ah Tryz.prog w0 239 [kQ ρ b,iv v] (.aG [tm ρ (iM b v).1,.v (.bool (iM b v).2)]):=by
 have vf:Pure (.fn (.func 264) [] [.ip [iv v]]):=.fn (fun a ha=>by grind) fun a ha=>by obtain rfl:=List.mem_singleton.1 ha;exact .ip fun b hb=>by obtain rfl:=List.mem_singleton.1 hb;exact .v
 have hI:=Zf (w0:=w0) (ρ:=ρ) (fun x=>x.v == v) b _ [] _ hl vf (fun x _=>aeM x v);have hg:=Ie (fun x:Bd=>x.v == v) b 0;have HD:=Lu (fun x:Bd=>x.v == v) b 0;obtain⟨j,hj⟩:∃ j,j=du (fun x:Bd=>x.v == v) b 0:=⟨_,rfl⟩;rw[<-hj] at hI hg HD;obtain⟨R,hR⟩:∃ R,R=iM b v:=⟨_,rfl⟩;rw[<-hR];unfold iM at hR;clear hj;refine st aeK Od ((.aG fun a ha=>by simp only[List.mem_cons,List.not_mem_nil,or_false] at ha;rcases ha with rfl|rfl;exact aT _;exact .v)) ?_
 repeat' (first
  |refine ig Od (af.Az rfl hI ⟨cJ _,vf,trivial⟩ .v ⟨.refl _,aR.fns trivial ⟨aR.box (cs:=[iv v]) (cs':=[iv v]) rfl ⟨.refl _,trivial⟩,trivial⟩,trivial⟩) fun _ _=>?_
  |refine cg Od (fun hb=>?_) fun hb=>?_
  |(refine fq ?_))
 ·grind[WX,SO]
 ·obtain⟨q,⟨xv,xk,xi,xn,xa⟩,e1,e2,e3⟩:=hg (by omega);rw[e3] at hR;subst hR;refine og Od (af.ind rfl rfl (aY (l:=b) (k:=q) (by omega) e2) (aZ fun _=>rfl)) ?_;refine fq ?_;exact aR.of_eq rfl
theorem Ag {f:Tm->Tm}{env:List Bd}(a:List Tm) (hl:a.length<=100000000000) (ih:∀ x ∈ a,ah Tryz.prog w0 202 [kQ ρ env,tm ρ x] (tm ρ (f x))) :
  ah Tryz.prog w0 139 [kQ ρ env,tl ρ a] (tl ρ (a.map f)):=by
 cases a with
 |nil =>
  have hc:=J8 (w0:=w0) (ρ:=ρ);refine st V4 gQ ((aS _)) ?_
  repeat' (first
   |(refine ad.op rfl (af.aw rfl hc ⟨aS _,trivial⟩) ?_;refine gq gQ ?_)
   |refine bq (fun hb=>?_) (fun hb=>?_)<;>(try simp only[bX] at hb)<;>(first|exact absurd hb (by decide)|refine gq gQ ?_)
   |refine cF fun m hm=>?_;(try rw[aE] at hm);refine gq gQ ?_
   |refine cz fun _ _=>?_;refine gq gQ ?_
   |refine mg fun _ _=>?_;refine gq gQ ?_
   |refine ad.str rfl (af.cat rfl rfl (by assumption)) fun _ _=>?_;refine gq gQ ?_
   |refine ad.aH ?_;refine gq gQ ?_
   |refine ad.cP ?_;refine gq gQ ?_
   |(refine fq ?_))
  refine ad.bu (σ:=Int) 0 0 [] (fun p=>[(5,tl ρ []),(10,.v (.int .i64 m)),(11,.v (.int .i64 p))]) [] (fun _=>[]) (fun p=>p=0) (fun p=>0) 0 rfl rfl cq ?_;rintro i rfl;refine gq gQ ?_
  repeat' (first
   |refine bq (fun hb=>?_) (fun hb=>?_)<;>(try simp only[bX] at hb)<;>(first|exact absurd hb (by decide)|refine gq gQ ?_)
   |refine cF fun m hm=>?_;(try rw[aE] at hm);refine gq gQ ?_
   |refine cz fun _ _=>?_;refine gq gQ ?_
   |refine mg fun _ _=>?_;refine gq gQ ?_
   |refine ad.str rfl (af.cat rfl rfl (by assumption)) fun _ _=>?_;refine gq gQ ?_
   |refine ad.aH ?_;refine gq gQ ?_
   |refine ad.cP ?_;refine gq gQ ?_
   |(refine fq ?_))
  all_goals first
   |exfalso;simp only[List.length_nil] at hm;omega
   |exact .refl _
 |cons x0 l0 =>
 have hc:=J9 (w0:=w0) (ρ:=ρ) x0 l0 hl;obtain⟨a,ha⟩:∃ a,a=x0::l0:=⟨_,rfl⟩;rw[<-ha] at hc hl ih ⊢;clear ha;obtain⟨R,hR⟩:∃ R,R=a.map f:=⟨_,rfl⟩;rw[<-hR];obtain⟨al,aK⟩:∃ n,n=a.length:=⟨_,rfl⟩;rw[<-aK] at hc;refine st V4 gQ ((aS _)) ?_;refine ad.op rfl (af.kC [] [(0,some (.arr 4 (ρ.h (List.map (iL ρ)) a) 0 false))] hc rfl ⟨.pure (aS _),trivial⟩ (.gr rfl) trivial ⟨⟨0,_,rfl,rfl,.pure (J7 _)⟩,trivial⟩) ?_;refine gq gQ ?_;refine ad.int rfl (af.pE rfl) fun m hm=>?_;refine gq gQ ?_
 refine ad.bu (σ:=Int × List Tm) 1 1 [] (fun p=>[(0,kQ ρ env),(5,.gr 0 4 al),(10,.v (.int .i64 m)),(11,.v (.int .i64 p.1))]) [] (fun p=>[(0,.arr 4 (ρ.h (List.map (iL ρ)) p.2) 0 false)])
  (fun p=>∃ k:Nat,p.1=k/\k<=a.length/\p.2.length=a.length/\p.2=(a.take k).map f++a.drop k) (fun p=>a.length - p.1.toNat) (0,a) ⟨0,rfl,by simp,rfl,by simp⟩ rfl (by exact⟨sq,rfl,⟨.inl ⟨_,rfl,.same (wC _)⟩,trivial⟩,rfl,rfl,rfl⟩) ?_
 rintro⟨i,cur⟩ ⟨k,hi,hk,jz,hp⟩;simp only at hi jz hp;refine gq gQ ?_;refine bq (fun b8=>?_) (fun b8=>?_)<;>(try simp only[bX] at b8)
 rotate_left
 ·refine gq gQ ?_;refine ad.aH ?_;refine gq gQ ?_;refine ad.fin (by conv=>lhs;cbv) ?_;have h:R=cur:=by grind
  rw[h,<-T7];exact aR.grow rfl (by omega)
 obtain⟨x,hx,bK⟩:=bf (l:=a) (k:=k) (by omega);have i_:cur[k]?=some x:=by grind
 have uZ:k < a.length:=by omega
 have c_:=ih x (eU hx);obtain⟨X,hX⟩:∃ X,X=f x:=⟨_,rfl⟩;rw[<-hX] at c_;obtain⟨xk,xi,xn,xa⟩:=x;have rx:=fN (ρ:=ρ) (f:=iL ρ) i_;rw[iL] at rx;simp only at rx;refine gq gQ ?_;refine ad.op rfl (af.jM rfl rfl hi (by omega)) ?_;refine ad.op rfl (af.pP rfl rfl rx rfl) ?_;refine gq gQ ?_;refine ad.op rfl (af.aw rfl c_ ⟨cJ _,aT ⟨xk,xi,xn,xa⟩,trivial⟩) ?_;refine gq gQ ?_;refine ad.op rfl (af.jM rfl rfl hi (by omega)) ?_;refine ad.IU (f:=iL ρ) (y:=X) rfl rfl rfl rfl rfl (fun _=>rfl) rfl (by omega) (fun Cz sQ=>?_);refine gq gQ ?_;refine cz (fun i3 iC=>?_);refine gq gQ ?_;refine ad.aO (σ:=Int × List Tm) (i3,Cz) [] ⟨k+1,by grind,by omega,by grind,?_⟩ ?_ (by exact⟨sq,rfl,⟨.inl ⟨_,rfl,.same (wC _)⟩,trivial⟩,rfl,rfl,rfl⟩)
 ·simp only;have hl:((a.take k).map f).length=k:=by grind
  rw[sQ,hp,List.set_append_right _ _ (by omega),hl,Nat.sub_self,bK,List.set_cons_zero,List.take_add_one,hx,List.map_append,hX];simp
 ·grind
theorem QS {env:List Bd}(he:env.length<=1099511627776) (n:Nat):∀ x:Tm,dk x<=n->n<=100000000000->ah Tryz.prog w0 202 [kQ ρ env,tm ρ x] (tm ρ (iV env x)):=by
 induction n with
 |zero=>intro x h;have:=mq x;omega
 |succ n ih =>
  intro x hn jb;rw[mq] at hn;have aK:=xF x.a;have iH:=Ag (w0:=w0) (ρ:=ρ) (f:=iV env) (env:=env) x.a (by omega) fun y hy=>ih y (by have:=nB y hy;omega) (by omega);have QT:=XH (w0:=w0) (ρ:=ρ) env x.i he;obtain⟨qd,lj⟩:=QQ env x.i;obtain⟨R,hR⟩:∃ R,R=iV env x:=⟨_,rfl⟩;rw[<-hR];obtain⟨k,i,nm,a⟩:=x;rw[iV,o4] at hR;simp only at iH QT qd lj hR;clear ih hn jb aK;obtain⟨A,hA⟩:∃ A,A=a.map (iV env):=⟨_,rfl⟩;rw[<-hA] at iH hR;obtain⟨⟨⟨uk,ui,un,ua⟩,b⟩,hL⟩:∃ L,L=iM env i:=⟨_,rfl⟩;rw[<-hL] at QT qd lj;simp only at QT qd lj;refine st aeL Oe ((aT _)) ?_
  repeat' (first
   |(refine og Oe (af.aw rfl iH ⟨cJ _,aS _,trivial⟩) ?_)
   |(refine ad.op rfl (af.aw rfl QT ⟨cJ _,.v,trivial⟩) ?_;cases b<;>refine gq Oe ?_)
   |refine cg Oe (fun hb=>?_) fun hb=>?_
   |(refine fq ?_))
  all_goals clear iH QT
  all_goals first
   |(have h:R=⟨k,i,nm,A⟩:=by rw[hR,if_neg (by omega),if_pos (by omega)]
     rw[h];exact .refl _)
   |(have h:R=⟨k,i,nm,a⟩:=by rw[hR,if_neg (by omega),if_neg (by omega)]
     rw[h];exact .refl _)
   |(cases Gm:xp env i with
     |none =>
      have h:R=⟨k,i,nm,a⟩:=by rw[hR,if_pos (by omega),Gm]
      first
       |rw[h];exact .refl _
       |rw[Gm] at qd;cases qd
     |some u =>
      have h:R=u:=by rw[hR,if_pos (by omega),Gm]
      first
       |rw[h,<-lj u Gm];exact .refl _
       |(rw[Gm] at qd;cases qd))
theorem J_ {env:List Bd}(he:env.length<=1099511627776) (x:Tm) (hx:dk x<=100000000000):ah Tryz.prog w0 202 [kQ ρ env,tm ρ x] (tm ρ (iV env x)):=QS he _ x (Nat.le_refl _) hx
theorem QU {env:List Bd}(he:env.length<=1099511627776) (g:Gl) (hx:bP g.a<=100000000000):ah Tryz.prog w0 83 [kQ ρ env,gl ρ g] (gl ρ (lT env g)):=by
 have iH:=Ag (w0:=w0) (ρ:=ρ) (f:=iV env) (env:=env) g.a (by grind[xF]) fun y hy=>J_ he y (by have:=nB y hy;omega);rw[lT];obtain⟨o,n,a⟩:=g;simp only at iH ⊢;obtain⟨A,hA⟩:∃ A,A=a.map (iV env):=⟨_,rfl⟩;rw[<-hA] at iH ⊢;clear hA hx he;refine st ai2 g83 ((gV _)) ?_
 repeat' (first
  |(refine og g83 (af.aw rfl iH ⟨cJ _,aS _,trivial⟩) ?_)
  |(refine fq ?_))
 exact .refl _
end
end
theorem kE {e k:Int}(h:cH e k=0):e=0/\k=0:=by
 unfold cH at h;split at h
 ·exact⟨by assumption,h⟩
 ·exact absurd h (by assumption)
theorem qJ {b:Bool}{e:Int}(he:e ≠ 0) (h:dQ b e=0):b=true:=by
 unfold dQ at h;split at h
 ·assumption
 ·exact absurd h he
theorem QV:∀ (vs:List Int) (n:Int) (k:Int->Int),zA vs n k=0->∃ m,k m=0/\n<=m/\m<=n+vs.length
 |[],n,k,h=>⟨n,h,Int.le_refl _,by simp⟩
 |v::vs,n,k,h=>by
  rw[zA] at h;split at h
  ·obtain⟨m,h1,h2,h3⟩:=QV vs _ k h;refine⟨m,h1,?_,?_⟩
   ·split at h2<;>omega
   ·rw[List.length_cons];split at h3<;>omega
  ·cases h
mutual
theorem Ah {v:Int}:∀ t:Tm,eE t->(kH v t ↔ v ∈ lZ t)
 |⟨k,i,n,a⟩,h=>by
  rw[eE] at h;rw[kH,lZ];by_cases h1:k=1
  ·rw[if_pos h1,if_pos h1,List.mem_singleton];exact eq_comm
  ·rw[if_neg h1] at h;rw[if_neg h1,if_neg h1];by_cases h2:k=2
   ·rw[if_pos h2];exact D8 a h.1
   ·rw[if_neg h2,h.2.resolve_left h2,lW];simp
theorem D8 {v:Int}:∀ l:List Tm,fE l->(lW v l ↔ v ∈ cN l)
 |[],h=>by rw[lW,cN];simp
 |x::l,h=>by
  rw[fE] at h;rw[lW,cN,List.mem_append,Ah x h.1,D8 l h.2]
end
theorem xG {x:At}(h:jI x=true) (ho:eV x.a):fE x.a/\jg x.a/\qR x.a/\rN x.a/\bP x.a<=200:=by
 unfold jI at h;rw[Bool.and_eq_true] at h;exact DG h.2 ho
theorem D9 {x:Gl}(h:ft x=true) (ho:eV x.a):fE x.a/\jg x.a/\qR x.a/\rN x.a/\bP x.a<=200:=by
 unfold ft at h;split at h
 ·exact xG (x:=⟨x.n,x.a⟩) h ho
 ·rw[Bool.and_eq_true] at h;exact DG h.2 ho
theorem QW {ds:List Dc}{r:Rl}(h:nF ds r=0):(DA r=true/\(∀ x ∈ r.aU,jI x=true)/\(∀ x ∈ r.rem,jI x=true)/\(∀ g ∈ r.guard,ft g=true)/\∀ g ∈ r.body,ft g=true)/\(∃ n,r.vars=n/\0<=n/\n<=(yd r++Dx r).length)/\∀ v ∈ r9 [r.guard],v ∈ yd r:=by
 unfold nF Nn uV at h;obtain⟨h1,h⟩:=kE h;obtain⟨h2,h⟩:=kE h;obtain⟨h3,h⟩:=kE h;obtain⟨h4,h⟩:=kE h;obtain⟨h5,h⟩:=kE h;refine⟨⟨qJ (by decide) h1,fun x hx=>qJ (by decide) (nG h2 x hx),fun x hx=>qJ (by decide) (nG h3 x hx),fun x hx=>qJ (by decide) (nG h4 x hx),fun x hx=>qJ (by decide) (nG h5 x hx)⟩,?_⟩;unfold uU at h;obtain⟨m,h,h6,h7⟩:=QV _ _ _ h;obtain⟨h8,h⟩:=kE h;have h8:=qJ (by decide) h8;rw[decide_eq_true_eq] at h8;refine⟨⟨m,h8,h6,by omega⟩,fun v hv=>?_⟩;unfold Dz Hk uT Nm Dy at h;obtain⟨_,h⟩:=kE h;obtain⟨_,h⟩:=kE h;obtain⟨_,h⟩:=kE h;obtain⟨_,h⟩:=kE h;obtain⟨_,h⟩:=kE h;obtain⟨_,h⟩:=kE h;obtain⟨_,h⟩:=kE h;obtain⟨h9,_⟩:=kE h;have:=qJ (by decide) (nG h9 v hv);simpa using this
theorem D_ {ds:List Dc}:∀ (l:List Rl) (k:Nat),(tS ds l k).2=0->∀ r ∈ l,nF ds r=0
 |[],k,h,r,hr=>by cases hr
 |x::l,k,h,r,hr=>by
  rw[tS] at h;split at h
  ·rename_i h0;rcases List.mem_cons.1 hr with rfl|hr
   ·exact h0
   ·exact D_ l _ h r hr
  ·rename_i h0;exact absurd h h0
theorem sR {p:Pg}(h:(lB p).2=0):∀ r ∈ p.rs,nF p.ds r=0:=by
 unfold lB at h;split at h
 ·exact D_ _ _ h
 ·rename_i h0;exact absurd h h0
mutual
theorem Ai:∀ t:Tm,(lZ t).length<=dk t
 |⟨k,i,n,a⟩=>by
  rw[lZ,dk];have:=Ea a;split
  ·simp
  ·grind
theorem Ea:∀ l:List Tm,(cN l).length<=bP l
 |[]=>by rw[cN,bP];simp
 |x::l=>by rw[cN,bP,List.length_append];have:=Ai x;have:=Ea l;omega
end
theorem o9:∀ l:List Tm,l.length<=bP l
 |[]=>Nat.zero_le _
 |x::l=>by rw[bP,List.length_cons];have:=o9 l;have:=mq x;omega
def oG (M:Nat) (e:List Bd):Prop:=∀ b ∈ e,dk b.t<=M
theorem oG.u_ {M:Nat}{e:List Bd}(h:oG M e) {v:Int}{u:Tm}(hu:xp e v=some u):dk u<=M:=by
 unfold xp at hu;cases hf:e.find? fun b=>b.v == v with
 |none=>rw[hf] at hu;cases hu
 |some b=>rw[hf] at hu;obtain rfl:=oJ_ hu;exact h b (List.mem_of_find?_eq_some hf)
theorem Ka {s M x y:Nat}(h1:x<=s*M) (h2:1<=M) (h3:y=x+1):y<=(s+1)*M:=by grind
mutual
theorem T9 {M:Nat}{e:List Bd}(he:oG M e) (hM:1<=M):∀ t:Tm,dk (iV e t)<=dk t*M
 |⟨k,i,n,a⟩=>by
  have h1:∀ t:Tm,t.a=a->dk t<=dk ⟨k,i,n,a⟩*M:=fun t ht=>by
   rw[mq t,dk,ht];exact Ka (Nat.le_mul_of_pos_right _ hM) hM (by omega)
  rw[iV];split
  ·split
   ·rename_i u hu;have:=he.u_ hu;rw[dk];exact Nat.le_trans this (by grind)
   ·grind
  ·split
   ·rw[dk,dk];exact Ka (Aj he hM a) hM rfl
   ·grind
theorem Aj {M:Nat}{e:List Bd}(he:oG M e) (hM:1<=M):∀ l:List Tm,bP (pQ e l)<=bP l*M
 |[]=>by rw[pQ,bP];omega
 |x::l=>by
  rw[pQ,bP,bP,Nat.add_mul];have:=T9 he hM x;have:=Aj he hM l;omega
end
theorem Og {k i:Int}{n:ByteArray}{a:List Tm}(h1:a.length<=1099511627776) (h2:n.size<=1099511627776) (h3:eV a):(⟨k,i,n,a⟩:Tm).ok:=by rw[Tm.ok];exact⟨h1,h2,h3⟩
mutual
theorem abh {e:List Bd}(he:rU e):∀ t:Tm,t.ok->(iV e t).ok
 |⟨k,i,n,a⟩,h=>by
  rw[Tm.ok] at h;rw[iV];split
  ·split
   ·rename_i u hu;exact he.u_ hu
   ·exact Og h.1 h.2.1 h.2.2
  ·split
   ·exact Og (by rw[o4,List.length_map];exact h.1) h.2.1 (A8 he a h.2.2)
   ·exact Og h.1 h.2.1 h.2.2
theorem A8 {e:List Bd}(he:rU e):∀ l:List Tm,eV l->eV (pQ e l)
 |[],h=>by rw[pQ];exact h
 |x::l,h=>by
  rw[eV] at h;rw[pQ,eV];exact⟨abh he x h.1,A8 he l h.2⟩
end
def pY (M:Nat) (g:Gl):Prop:=eV g.a/\bP g.a<=M/\g.n.size<=1099511627776
def su (M:Nat) (x:At):Prop:=eV x.a/\bP x.a<=M/\x.n.size<=1099511627776
theorem su.ok {M:Nat}{x:At}(h:su M x) (hM:M<=1099511627776):x.ok:=⟨Nat.le_trans (o9 _) (Nat.le_trans h.2.1 hM),h.1⟩
theorem pY.ok {M:Nat}{g:Gl}(h:pY M g) (hM:M<=1099511627776):g.ok:=⟨Nat.le_trans (o9 _) (Nat.le_trans h.2.1 hM),h.1⟩
theorem pY.mono {M N:Nat}{g:Gl}(h:pY M g) (hM:M<=N):pY N g:=⟨h.1,Nat.le_trans h.2.1 hM,h.2.2⟩
theorem pY.app {M N:Nat}{e:List Bd}{g:Gl}(h:pY N g) (he:oG M e) (ho:rU e) (hM:1<=M):pY (N*M) (lT e g) :=
 ⟨by rw[lT,<-o4];exact A8 ho _ h.1,by rw[lT,<-o4];exact Nat.le_trans (Aj he hM _) (Nat.mul_le_mul_right _ h.2.1),h.2.2⟩
theorem Oh {a b:Tm}(ha:dO a=true) (hb:dO b=true):jk [a] [b]=lX lz [(a,b)]:=by
 unfold jk;simp[ha,hb]
theorem BQ {g:Gl}(h:ft g=true):∀ x ∈ g.a,dO x=true:=by grind[ft,jI,qv]
theorem Oi {g:Gl}(h:ft g=true) (ho:g.op ≠ 0):arity g.op=g.a.length:=by grind[ft]
section
set_option maxRecDepth 100000
attribute [local irreducible] ah aC af ad
def aeN:FQ 266 Tryz.f266:=a_ Tryz.func266 Tryz.call266
def vH:List Nat:=[7,4,2,0,6,8,5,16]
def aeO:FQ 295 Tryz.f295:=a_ Tryz.func295 Tryz.call295
def abi:List Nat:=[4,5,0,1]
def aeP:FQ 296 Tryz.f296:=a_ Tryz.func296 Tryz.call296
def abj:List Nat:=[4,5,0,1]
def aeQ:FQ 297 Tryz.f297:=a_ Tryz.func297 Tryz.call297
def abk:List Nat:=[4,5,0,1]
def aeR:FQ 300 Tryz.f300:=a_ Tryz.func300 Tryz.call300
def Oj:List Nat:=[0,1,4]
def aeS:FQ 299 Tryz.f299:=a_ Tryz.func299 Tryz.call299
def Kb:List Nat:=[0,1,5,4,19]
def aeT:FQ 308 Tryz.f308:=a_ Tryz.func308 Tryz.call308
def T_:List Nat:=[1,5,6,8,2,0]
def aeU:FQ 298 Tryz.f298:=a_ Tryz.func298 Tryz.call298
def ai3:List Nat:=[2,0,1]
def aeV:FQ 286 Tryz.f286:=a_ Tryz.func286 Tryz.call286
def Ol:List Nat:=[3,2,0,4,6,8,10,13]
def V5:FQ 268 Tryz.f268:=a_ Tryz.func268 Tryz.call268
def iD:List Nat:=[10,8,1,2,9,6,7,0,14,19,34,36]
def Om:FQ 267 Tryz.f267:=a_ Tryz.func267 Tryz.call267
def fQ:List Nat:=[1,2,0]
def V6:FQ 244 Tryz.f244:=a_ Tryz.func244 Tryz.call244
def fI:List Nat:=[1,32,4,5,7,2,3,0,8,12,24,28,33,45,6]
section
variable {w0:World}{ρ:Hd}
theorem GQ (l:List Int) (hl:l.length<=1099511627776):ah Tryz.prog w0 266 [aX ρ aP false l] (.v (.bool (l.all gD))):=by
 obtain⟨R,hR⟩:∃ R,R=l.all gD:=⟨_,rfl⟩;rw[<-hR];refine st aeN vH .v ?_
 repeat' (first
  |refine lg vH fun m hm=>?_
  )
 refine ad.bu (σ:=Int) 0 0 [] (fun i=>[(5,aX ρ aP false l),(6,.v (.int .i64 m)),(7,.v (.int .i64 i))]) [] (fun _=>[]) (fun i=>∃ k:Nat,i=k/\k<=l.length/\R=(l.drop k).all gD) (fun i=>l.length - i.toNat) 0 ⟨0,rfl,by simp,by simpa using hR⟩ rfl cq ?_;rintro i ⟨k,hi,hk,hp⟩;clear hR;refine gq vH ?_;by_cases aA:k < l.length
 ·obtain⟨x,hx,bK⟩:=bf aA;rw[bK,List.all_cons] at hp;obtain⟨RS,hRS⟩:∃ RS,RS=(l.drop (k+1)).all gD:=⟨_,rfl⟩;rw[<-hRS] at hp
  repeat' (first
   |refine og vH (af.ind rfl rfl (aY (l:=l) hi hx) (aZ fun _=>rfl)) ?_
   |refine cg vH (fun hb=>?_) fun hb=>?_
   |refine ag vH fun _ _=>?_
   |refine ad.aH ?_;refine gq vH ?_
   |refine ad.cP ?_;refine gq vH ?_
   |(refine fq ?_))
  all_goals first
   |refine eA ?_;rw[hp];unfold gD;simp_all;omega
   |exfalso;omega
   |(refine ad.aO (σ:=Int) _ [] ?_ ?_ cq<;>first|omega|exact⟨k+1,by omega,by omega,by rw[hp,<-hRS,wv.2 (by omega),Bool.true_and]⟩)
 ·skip
  repeat' (first
   |refine cg vH (fun hb=>?_) fun hb=>?_
   |refine ad.aH ?_;refine gq vH ?_
   |(refine fq ?_))
  all_goals first
   |exfalso;omega
   |rw[hp,List.drop_eq_nil_of_le (by omega)];exact eA rfl
theorem Kc (x:Int):ah Tryz.prog w0 266 [aX ρ aP false [x]] (.v (.bool (gD x))):=by
 have:=GQ (w0:=w0) (ρ:=ρ) [x] (by simp);simpa using this
theorem QX (x y:Int):ah Tryz.prog w0 266 [aX ρ aP false [x,y]] (.v (.bool (gD x && gD y))):=by
 have:=GQ (w0:=w0) (ρ:=ρ) [x,y] (by simp);simpa using this
theorem abl (a b:Int) (h1:-2147483648<=a) (h2:a<=2147483648) (h3:-2147483648<=b) (h4:b<=2147483648):ah Tryz.prog w0 295 [iv a,iv b] (nj (a+b,0)):=by
 refine st aeO abi ((lR _)) ?_
 repeat' (first
  |refine ag abi fun _ _=>?_
  |(refine fq ?_))
 all_goals (refine kg ?_;simp_all)
theorem XI (a b:Int) (h1:-2147483648<=a) (h2:a<=2147483648) (h3:-2147483648<=b) (h4:b<=2147483648):ah Tryz.prog w0 296 [iv a,iv b] (nj (a - b,0)):=by
 refine st aeP abj ((lR _)) ?_
 repeat' (first
  |refine ag abj fun _ _=>?_
  |(refine fq ?_))
 all_goals (refine kg ?_;simp_all)
theorem XJ (a b:Int) (h1:-2147483648<=a) (h2:a<=2147483648) (h3:-2147483648<=b) (h4:b<=2147483648):ah Tryz.prog w0 297 [iv a,iv b] (nj (a*b,0)):=by
 refine st aeQ abk ((lR _)) ?_
 repeat' (first
  |(refine ad.int rfl (af.aaZ rfl rfl (by omega) (by omega) (by omega) (by omega)) fun q hq=>?_;have U5:=mbd hq (by omega) (by omega) (by omega) (by omega);refine gq abk ?_)
  |(refine fq ?_))
 all_goals (refine kg ?_;simp_all)
theorem Eb (a b:Int) (iK:b ≠ 0) (h1:-2147483648<=a) (h2:a<=2147483648):ah Tryz.prog w0 299 [iv a,iv b] (iv (a.fdiv b)):=by
 obtain⟨R,hR⟩:∃ R,R=a.fdiv b:=⟨_,rfl⟩;rw[<-hR];rw[VY iK] at hR;have hd:(decide (a < 0) ≠ decide (b < 0)) ↔ (a < 0/\¬ b < 0\/¬ a < 0/\b < 0):=by by_cases h1:a < 0<;>by_cases h2:b < 0<;>simp[h1,h2]
 simp only[hd] at hR;clear hd;refine st aeS Kb .v ?_
 repeat' (first
  |(refine ad.int rfl (af.ah3 rfl rfl (by omega) (by omega) (by omega)) fun q hq=>?_;have U5:=qbd hq (by omega) (by omega);refine gq Kb ?_)
  |(refine ig Kb (af.ah4 rfl rfl (by omega)) fun r hr=>?_)
  |exact absurd hb (by decide)
  |refine cg Kb (fun hb=>?_) fun hb=>?_
  |refine ag Kb fun _ _=>?_
  |(refine fq ?_))
 all_goals (refine jD ?_;subst_vars;split<;>omega)
theorem aeW (a b:Int) (iK:b ≠ 0) (h1:-2147483648<=a) (h2:a<=2147483648) (h3:-2147483648<=b) (h4:b<=2147483648):ah Tryz.prog w0 300 [iv a,iv b] (iv (a - a.fdiv b*b)):=by
 have hq:=Eb (w0:=w0) a b iK h1 h2;have hF:=Xz iK h1 h2;obtain⟨F,BG⟩:∃ F,F=a.fdiv b:=⟨_,rfl⟩;rw[<-BG] at hq hF ⊢;refine st aeR Oj .v ?_
 repeat' (first
  |(refine og Oj (af.aw rfl hq ⟨.v,.v,trivial⟩) ?_)
  |(refine ad.int rfl (af.aaZ rfl rfl (by omega) (by omega) (by omega) (by omega)) fun q hq=>?_;have U5:=mbd hq (by omega) (by omega) (by omega) (by omega);refine gq Oj ?_)
  |refine ag Oj fun _ _=>?_
  |(refine fq ?_))
 all_goals (refine jD ?_;simp_all)
def vg (f:FuncId):AV:=.v (.func (.func f) #[] #[])
theorem GR (q:FuncId):ah Tryz.prog w0 298 [vg q] (.fn (.func 308) [] [.ip [vg q]]):=by
 refine st aeU ai3 ((.fn (fun a ha=>by cases ha) fun a ha=>by obtain rfl:=List.mem_singleton.1 ha;exact .ip fun b hb=>by obtain rfl:=List.mem_singleton.1 hb;exact .v)) ?_
 repeat' (first
  |(refine fq ?_))
 refine aR.fns ?_ ?_
 ·exact trivial
 ·exact⟨aR.box (cs:=[vg q]) (cs':=[vg q]) rfl ⟨.refl _,trivial⟩,trivial⟩
def Ec (n:ByteArray):AV:=if n.toList=(⟨⟨[43]⟩⟩:ByteArray).toList then vg 295 else if n.toList=(⟨⟨[45]⟩⟩:ByteArray).toList then vg 296 else if n.toList=(⟨⟨[42]⟩⟩:ByteArray).toList then vg 297 else
 if n.toList=(⟨⟨[47]⟩⟩:ByteArray).toList then .fn (.func 308) [] [.ip [vg 299]] else if n.toList=(⟨⟨[37]⟩⟩:ByteArray).toList then .fn (.func 308) [] [.ip [vg 300]] else .v .nilFunc
theorem Kd (n:ByteArray):Pure (Ec n):=by
 have h:∀ q,Pure (.fn (.func 308) [] [.ip [vg q]]):=fun q=>.fn (fun a ha=>by cases ha) fun a ha=>by obtain rfl:=List.mem_singleton.1 ha;exact .ip fun b hb=>by obtain rfl:=List.mem_singleton.1 hb;exact .v
 unfold Ec
 repeat' split
 all_goals first
  |exact h _
  |exact .v
theorem V7 (n:ByteArray):ah Tryz.prog w0 286 [.v (.string n)] (Ec n):=by
 have h1:=GR (w0:=w0) 299;have h2:=GR (w0:=w0) 300;have hp:=Kd n;obtain⟨R,hR⟩:∃ R,R=Ec n:=⟨_,rfl⟩;rw[<-hR] at hp ⊢;unfold Ec at hR;refine st aeV Ol hp ?_
 repeat' (first
  |(refine og Ol (af.aw rfl h1 ⟨.v,trivial⟩) ?_)
  |(refine og Ol (af.aw rfl h2 ⟨.v,trivial⟩) ?_)
  |refine cg Ol (fun hb=>?_) fun hb=>?_
  |(refine fq ?_))
 all_goals clear h1 h2 hp
 all_goals (refine aR.of_eq ?_;rw[hR];simp_all[vg];done)
theorem QY (q:FuncId) (a b r:Int) (hq:b ≠ 0->ah Tryz.prog w0 q [iv a,iv b] (iv r)):ah Tryz.prog w0 308 [iv a,iv b,.ip [vg q]] (nj (if b=0 then (0,12) else (r,0))):=by
 obtain⟨R,hR⟩:∃ R,R=(if b=0 then ((0:Int),(12:Int)) else (r,0)):=⟨_,rfl⟩;rw[<-hR];refine st aeT T_ ((lR _)) ?_
 repeat' (first
  |(refine og T_ (af.aw rfl (hq (by assumption)) ⟨.v,.v,trivial⟩) ?_)
  |refine cg T_ (fun hb=>?_) fun hb=>?_
  |(refine fq ?_))
 all_goals (refine kg ?_;rw[hR];simp_all)
end
end
section
set_option maxRecDepth 100000
attribute [local irreducible] ah aC af ad
end
section
set_option maxRecDepth 100000
attribute [local irreducible] ah aC af ad
end
section
set_option maxRecDepth 100000
attribute [local irreducible] ah aC af ad
end
section
set_option maxRecDepth 100000
attribute [local irreducible] ah aC af ad
end
section
set_option maxRecDepth 100000
attribute [local irreducible] ah aC af ad
end
section
set_option maxRecDepth 100000
attribute [local irreducible] ah aC af ad
def GU (t:Tm):Prop:=t.ok/\dk t<=100000000000
end
section
set_option maxRecDepth 100000
attribute [local irreducible] ah aC af ad
end
section
set_option maxRecDepth 100000
attribute [local irreducible] ah aC af ad
end
end Go.Proofs.YtbpabjmnhggajaaGreat
