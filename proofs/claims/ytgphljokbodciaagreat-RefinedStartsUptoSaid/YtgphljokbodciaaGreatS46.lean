import Derived.Test.YtgphljokbodciaaGreatS45
namespace Go.Proofs.YtgphljokbodciaaGreat
set_option linter.unusedVariables false
set_option linter.unusedSimpArgs false
open Go.RowKit
section
set_option maxRecDepth 100000
attribute [local irreducible] ah aV ad ab
def Sv:CF Tryz.f351:=⟨_,by conv=>lhs;cbv⟩
theorem ads:aD Tryz.prog 351 Sv.1 Tryz.f351.ntmps:=aO Tryz.func351 Sv.2 Tryz.call351
def pG:List Nat:=[3,1,8,0,18]
def Sw:CF Tryz.f237:=⟨_,by conv=>lhs;cbv⟩
theorem adt:aD Tryz.prog 237 Sw.1 Tryz.f237.ntmps:=aO Tryz.func237 Sw.2 Tryz.call237
def agj:List Nat:=[2,0,1]
def Sx:CF Tryz.f121:=⟨_,by conv=>lhs;cbv⟩
theorem adu:aD Tryz.prog 121 Sx.1 Tryz.f121.ntmps:=aO Tryz.func121 Sx.2 Tryz.call121
def rN:List Nat:=[5,0,1,4,20,22,7]
def XB:CF Tryz.f49:=⟨_,by conv=>lhs;cbv⟩
theorem agk:aD Tryz.prog 49 XB.1 Tryz.f49.ntmps:=aO Tryz.func49 XB.2 Tryz.call49
def XC:List Nat:=[4,5,1,0]
def XD:CF Tryz.f50:=⟨_,by conv=>lhs;cbv⟩
theorem agl:aD Tryz.prog 50 XD.1 Tryz.f50.ntmps:=aO Tryz.func50 XD.2 Tryz.call50
def ng:List Nat:=[6,4,1,0,5,8,13]
def jE (l:List Gl):Nat->List (Int × Gl)
 |0=>[]
 |m+1=>match l[m]? with|some x=>(m,x)::jE l m|none=>[]
def LY (ρ:Hd) (p:Int × Gl):List AV:=[iv p.1,gl ρ p.2]
def rO (p:Int × Gl):fX:=⟨p.2,0,0⟩
theorem mS {l:List Gl}:∀ {m},m<=l.length->(jE l m).length=m
 |0,_=>rfl
 |m+1,h=>by
  rw [jE,List.getElem?_eq_getElem (show m < l.length by omega)]
  simp only [List.length_cons]
  rw [mS (by omega)]
theorem EA {l:List Gl}:∀ {m:Nat}{p:Int × Gl},p ∈ jE l m->p.2 ∈ l
 |0,_,h=>by cases h
 |m+1,p,h=>by
  rw [jE] at h
  split at h
  ·rename_i x e
   rcases List.mem_cons.1 h with rfl|h
   ·exact List.mem_of_getElem? e
   ·exact EA h
  ·cases h
def fP (l:List Gl) (v:Int):eD:=⟨(jE l l.length).map rO,[],[],[],1,if v < 0 then 0 else v,false⟩
section
variable {w0:World}{ρ:Hd}
theorem XE (l:List Gl) (hl:l.length<=1099511627776):Iter Tryz.prog w0 351 [] [.ip [dC ρ l]] ((jE l l.length).map (LY ρ)):=by
 intro J b J' hy
 refine⟨.bc [],aE [(0,.fo J')] 1,?_,rfl⟩
 have hip:Pure (.ip [dC ρ l]):=.ip fun a ha=>by obtain rfl:=List.mem_singleton.1 ha;exact cV _
 refine aD.dw 1 1 _ ads (by simp [Tryz.ntmps351]) rfl rfl ?_
 refine gq pG ?_
 refine az fun m hm=>?_;rw [af] at hm
 refine gq pG ?_
 refine aS fun i0 KU=>?_
 refine gq pG ?_
 refine ab.aP (σ:=Int × iX) 1 1 [] (fun p=>[(0,.yl 0),(1,.ip [dC ρ l]),(3,.v (.int .i64 p.1))]) [] (fun p=>[(0,.fo p.2)])
  (fun p=>∃ k:Nat,p.1+1=k/\k<=l.length/\Ys Tryz.prog w0 p.2 ((jE l k).map (LY ρ)) b J') (fun p=>(p.1+1).toNat) (i0,J) ⟨l.length,by simp only;omega,Nat.le_refl _,hy⟩ rfl (by exact⟨sq,rfl,⟨.inl ⟨_,rfl,.same trivial⟩,trivial⟩,rfl,rfl,rfl⟩) ?_
 rintro⟨i,J⟩ ⟨k,hi,dD,hp⟩
 simp only at hi hp
 clear hy
 refine gq pG ?_
 by_cases au:0 < k
 ·obtain⟨m,rfl⟩:∃ m,k=m+1:=⟨k - 1,by omega⟩
  have him:i=(m:Int):=by omega
  obtain⟨y,eC⟩:∃ y,l[m]?=some y:=⟨_,List.getElem?_eq_getElem (by omega)⟩
  rw [jE,eC] at hp
  simp only [List.map_cons] at hp
  obtain⟨d,J1,h1,h2⟩:=hp.head
  have hyp:=eE (ρ:=ρ) y
  rw [LY,<-him] at h1
  obtain⟨yo,yn,ya⟩:=y
  rcases h2 with ⟨rfl,h2⟩|⟨rfl,rfl,rfl⟩
  all_goals
   repeat' (first
    |(refine ab.op rfl (ad.ind rfl rfl (ay (l:=l) him eC) (aw fun _=>rfl)) ?_;refine gq pG ?_)
    |((refine ab.op rfl (ad.yl rfl rfl (h1 _ 0 rfl)) ?_;refine gq pG ?_))
    |(refine bq (fun hb=>?_) (fun hb=>?_)<;>(try simp only [aq] at hb)<;>(first|refine gq pG ?_))
    |(refine aS fun _ _=>?_;refine gq pG ?_)
    |(refine ab.ao ?_;refine gq pG ?_)
    |(refine ab.bK ?_;refine gq pG ?_)
    |(refine fq ?_))
  all_goals first
   |(exfalso;omega)
   |exact⟨[],.aC (.bc fun a ha=>by cases ha),⟨.inl ⟨_,rfl,.same trivial⟩,trivial⟩,rfl⟩
   |(refine ab.aK (σ:=Int × iX) (_,J1) [] ?_ ?_ (by exact⟨sq,rfl,⟨.inl ⟨_,rfl,.same trivial⟩,trivial⟩,rfl,rfl,rfl⟩)
     ·exact⟨m,by simp only;omega,by omega,h2⟩
     ·simp only;omega)
 ·obtain rfl:k=0:=by omega
  rw [jE] at hp
  obtain⟨rfl,rfl⟩:=hp.He
  repeat' (first
   |(refine bq (fun hb=>?_) (fun hb=>?_)<;>(try simp only [aq] at hb)<;>(first|refine gq pG ?_))
   |(refine ab.ao ?_;refine gq pG ?_)
   |(refine fq ?_))
  all_goals first
   |(exfalso;omega)
   |exact⟨[],.aC (.bc fun a ha=>by cases ha),⟨.inl ⟨_,rfl,.same trivial⟩,trivial⟩,rfl⟩
theorem adv (l:List Gl):ah Tryz.prog w0 237 [dC ρ l] (.fn (.func 351) [] [.ip [dC ρ l]]):=by
 refine adt.aH (by simp [Tryz.ntmps237]) ((.fn (fun a ha=>by cases ha) fun a ha=>by obtain rfl:=List.mem_singleton.1 ha;exact .ip fun b hb=>by obtain rfl:=List.mem_singleton.1 hb;exact cV _)) ?_
 refine gq agj ?_
 repeat' (first
  |(refine fq ?_))
 refine aX.fns ?_ ?_
 ·exact trivial
 ·exact⟨aX.box (cs:=[dC ρ l]) (cs':=[dC ρ l]) rfl ⟨.refl _,trivial⟩,trivial⟩
def XF:List AV:=[iv 0,.v (.string ⟨#[]⟩),.sl true [],iv 0,iv 0]
def agm (ρ:Hd) (N:Nat) (p:List fX × Nat):List (Nat × Ob):=[(0,.arr 5 (ρ.h (iN (tC ρ) XF N) p.1) 0 true),(1,.arr 1 [[.ob 0 5 0 p.2 none]] 0 true),(2,.df)]
theorem Gq {B sz fz N:Nat}{s:List fX}{ex:Bool}:jF B (.arr sz (ρ.h (iN (tC ρ) XF N) s) fz ex):=by
 rw [ρ.eq]
 intro row hr a ha
 unfold iN at hr
 rcases List.mem_append.1 hr with hr|hr
 ·obtain⟨x,_,rfl⟩:=List.mem_map.1 hr
  exact (uB x a ha).bM
 ·rw [(List.mem_replicate.1 hr).2] at ha
  simp only [XF,List.mem_cons,List.not_mem_nil,or_false] at ha
  rcases ha with rfl|rfl|rfl|rfl|rfl
  ·exact .v
  ·exact .v
  ·exact qp
  ·exact .v
  ·exact .v
theorem Ov (l:List Gl) (hl:l.length<=1000000):ah Tryz.prog w0 121 [.sl true [],dC ρ l] (oo ρ ((jE l l.length).map rO)):=by
 obtain⟨R,hR⟩:∃ R,R=(jE l l.length).map rO:=⟨_,rfl⟩
 rw [<-hR]
 have hB:=adv (w0:=w0) (ρ:=ρ) l
 have hI:=XE (w0:=w0) (ρ:=ρ) l (by omega)
 have fA:=mS (l:=l) (Nat.le_refl _)
 generalize jE l l.length=W at hI hR fA
 refine adu.aH (by simp [Tryz.ntmps121]) ((by first|exact dR _ )) ?_
 refine gq rN ?_
 refine az fun a0 yF=>?_;obtain rfl:a0=0:=yF
 refine gq rN ?_
 refine az fun a0 yF=>?_;obtain rfl:a0=0:=yF
 refine gq rN ?_
 refine az fun m hm=>?_;rw [af] at hm
 refine gq rN ?_
 refine aS fun Z hZ=>?_
 refine gq rN ?_
 obtain⟨N,hN⟩:∃ N,N=l.length:=⟨_,rfl⟩
 refine ab.V3 (m:=N) ρ (tC ρ) rfl rfl rfl (by omega) rfl (by omega) (by omega) fun aiJ adw=>?_
 refine gq rN ?_
 refine ab.op rfl (ad.VZ rfl rfl) ?_
 refine gq rN ?_
 refine ab.op rfl (ad.ag rfl hB (by exact⟨cV _,trivial⟩)) ?_
 refine gq rN ?_
 refine ab.range (σ:=List fX × Nat) (LY ρ) W 3 3 [] [(5,.pt 1 1 0 0)] (agm ρ N) (fun rest p=>R=p.1++rest.map rO/\p.1.length+rest.length=N/\p.2=p.1.length) ([],0) rfl (fun a ha=>by cases ha) (fun a ha=>by obtain rfl:=List.mem_singleton.1 ha;exact .ip fun b hb=>by obtain rfl:=List.mem_singleton.1 hb;exact cV _) hI rfl ⟨hR,by simp only [List.length_nil];omega,rfl⟩ rfl
  (by intro p hp;simp only [List.mem_cons,List.not_mem_nil,or_false] at hp;rcases hp with rfl;exact .pt (by decide)) rfl (fun x=>⟨rfl,fun a ha=>by simp only [LY,List.mem_cons,List.not_mem_nil,or_false] at ha;rcases ha with rfl|rfl;exact .v;exact eE _⟩)
  (by subst adw;exact⟨⟨.aC rfl (.pt (by decide)),trivial⟩,rfl,⟨.inl ⟨_,rfl,.same Gq⟩,.inl ⟨_,rfl,.arr ⟨⟨.aC (.ob (by decide)),trivial⟩,trivial⟩⟩,.inl ⟨_,rfl,.same trivial⟩,trivial⟩,rfl,rfl,rfl⟩) ?_ ?_
 ·rintro⟨j,⟨xo,xn,xa⟩⟩ rest ⟨acc,len⟩ ⟨h1,h2,h3⟩
  simp only at h1 h2 h3
  rw [List.map_cons] at h1
  rw [List.length_cons] at h2
  refine gq rN ?_
  refine ab.Nh (f:=tC ρ) (ys:=[rO (j,⟨xo,xn,xa⟩)]) (ex':=true) rfl rfl rfl h3 (by rw [dE];rfl) (fun _=>rfl) (fun _=>rfl) (by simp only [List.length_cons,List.length_nil];omega) fun dk gy nI lV=>?_
  refine gq rN ?_
  refine ab.Ha (dk,gy) [] ⟨by simp only;rw [h1,nI];simp,by simp only;rw [nI];simp;omega,lV⟩ ⟨trivial,rfl,⟨.inl ⟨_,rfl,.same Gq⟩,.inl ⟨_,rfl,.arr ⟨⟨.aC (.ob (by decide)),trivial⟩,trivial⟩⟩,.inl ⟨_,rfl,.same trivial⟩,trivial⟩,rfl,rfl,rfl⟩
 ·rintro⟨acc,len⟩ ⟨h1,h2,h3⟩
  simp only at h1 h2 h3
  rw [List.map_nil,List.append_nil] at h1
  refine gq rN ?_
  subst h1
  refine ab.fin (by conv=>lhs;cbv) ?_
  exact aX.V5 rfl h3
theorem AW {S:ae}{x:AV}{l:List fX}{v w:Int}(h:aX S x (oo ρ l)) (hv:v=w):aX S (.agg [x,.sl true [],.sl true [],.sl true [],.v (.int .i64 1),.v (.int .i64 v),.v (.bool false)]) (rL ρ ⟨l,[],[],[],1,w,false⟩):=by
 subst hv
 refine .agg rfl fun i a a' h1 h2=>?_
 match i,h1,h2 with
 |0,h1,h2=>obtain rfl:=Option.some.inj h1;obtain rfl:=Option.some.inj h2;exact h
 |1,h1,h2=>obtain rfl:=Option.some.inj h1;obtain rfl:=Option.some.inj h2;rw [fN,dE];exact aX.wk
 |2,h1,h2=>obtain rfl:=Option.some.inj h1;obtain rfl:=Option.some.inj h2;rw [eL,dE];exact aX.wk
 |3,h1,h2=>obtain rfl:=Option.some.inj h1;obtain rfl:=Option.some.inj h2;rw [gW,dE];exact aX.wk
 |i+4,h1,h2=>obtain rfl:a=a':=Option.some.inj (h1.symm.trans h2);exact .refl _
theorem Ow (l:List Gl) (v:Int) (hl:l.length<=1000000):ah Tryz.prog w0 49 [dC ρ l,iv v] (rL ρ (fP l v)):=by
 have hp:=wS (ρ:=ρ) (fP l v)
 have hP:=Ov (w0:=w0) (ρ:=ρ) l hl
 unfold fP at hp ⊢
 generalize (jE l l.length).map rO=L at hp hP ⊢
 have hn:c_ [.sl true [],dC ρ l]:=by exact⟨.sl (fun row h=>by cases h),cV _,trivial⟩
 refine agk.aH (by simp [Tryz.ntmps49]) (hp) ?_
 refine gq XC ?_
 refine ab.int rfl (ad.max (k:=.i64) (a:=v) (b:=0) rfl rfl) fun m hm=>?_
 refine gq XC ?_
 refine ab.op rfl (ad.ag rfl hP hn) ?_
 refine gq XC ?_
 refine ab.fin (by conv=>lhs;cbv) ?_
 refine AW (.refl _) ?_
 rw [hm,Int.max_def]
 split<;>split<;>omega
def cf0:List AV:=[.sl true [],.sl true [],.sl true [],.sl true [],iv 0,iv 0,.v (.bool false)]
def XG (ρ:Hd) (l:List fX):Ob:=.arr 5 (ρ.h (List.map (tC ρ)) l) 0 false
theorem Gr {B sz fz:Nat}{s:List fX}{ex:Bool}:jF B (.arr sz (ρ.h (List.map (tC ρ)) s) fz ex):=s8 fun x _=>uB x
theorem Ox (l:List Gl) (v:Int) (hl:l.length<=1000000):ah Tryz.prog w0 50 [dC ρ l,iv v] (rL ρ (fP l v)):=by
 have hp:=wS (ρ:=ρ) (fP l v)
 unfold fP at hp ⊢
 obtain⟨R,hR⟩:∃ R,R=(jE l l.length).map rO:=⟨_,rfl⟩
 rw [<-hR] at hp ⊢
 refine agl.aH (by simp [Tryz.ntmps50]) (hp) ?_
 refine gq ng ?_
 refine bq (fun hb=>?_) (fun hb=>?_)<;>(try simp only [aq] at hb)<;>refine gq ng ?_
 all_goals
  refine az fun m hm=>?_;rw [af] at hm
  refine gq ng ?_
  refine aS fun i0 KU=>?_
  refine gq ng ?_
 ·refine ab.aP (σ:=Int × List fX × Nat) 1 2 [] (fun p=>[(0,dC ρ l),(1,iv 0),(4,.pt 0 7 0 0),(5,.gr 1 5 p.2.2),(6,.v (.int .i64 p.1))]) [] (fun p=>[(0,.arr 7 [cf0] 0 true),(1,XG ρ p.2.1)])
   (fun p=>∃ k:Nat,p.1+1=k/\k<=l.length/\R=p.2.1++(jE l k).map rO/\p.2.2=p.2.1.length/\p.2.1.length<=l.length) (fun p=>(p.1+1).toNat) (i0,[],0) ⟨l.length,by simp only;omega,Nat.le_refl _,by simpa using hR,rfl,by simp⟩ rfl (by exact⟨sq,rfl,⟨.inl ⟨_,rfl,.arr (by exact⟨kq,trivial⟩)⟩,⟨.inr rfl,trivial⟩⟩,rfl,rfl,rfl⟩) ?_
  rintro⟨i,acc,len⟩ ⟨k,hi,hk,ca,fA,bG⟩
  simp only at hi ca fA bG
  refine gq ng ?_
  by_cases au:0 < k
  ·obtain⟨q,rfl⟩:∃ q,k=q+1:=⟨k - 1,by omega⟩
   have XH:i=(q:Int):=by omega
   obtain⟨y,eC⟩:∃ y,l[q]?=some y:=⟨_,List.getElem?_eq_getElem (by omega)⟩
   have ef:=congrArg List.length ca
   rw [hR,List.length_append,List.length_map,List.length_map,mS (Nat.le_refl _),mS hk] at ef
   rw [jE,eC] at ca
   simp only [List.map_cons] at ca
   obtain⟨yo,yn,ya⟩:=y
   repeat' (first
    |(refine ab.op rfl (ad.ind rfl rfl (ay (l:=l) XH eC) (aw fun _=>rfl)) ?_;refine gq ng ?_)
    |((refine ab.app (x:=rO (q,⟨yo,yn,ya⟩)) (f:=tC ρ) rfl rfl rfl fA (fun _=>rfl) rfl rfl rfl rfl (by omega) fun s' cF iK fe=>?_;refine gq ng ?_))
    |(refine bq (fun hb=>?_) (fun hb=>?_)<;>(try simp only [aq] at hb)<;>(first|refine gq ng ?_))
    |(refine aS fun _ _=>?_;refine gq ng ?_)
    |(refine ab.ao ?_;refine gq ng ?_)
    |(refine fq ?_))
   all_goals first
    |(exfalso;omega)
    |(refine ab.aK (σ:=Int × List fX × Nat) (_,s',cF) [(1,2)] ?_ ?_ (by exact⟨sq,rfl,⟨.inl ⟨_,rfl,.arr (by exact⟨kq,trivial⟩)⟩,⟨.inl ⟨_,rfl,.same Gr⟩,trivial⟩⟩,rfl,rfl,rfl⟩)
      ·exact⟨q,by simp only;omega,by omega,by simp only;rw [ca,iK];simp,fe,by simp only;rw [iK,List.length_append];simp only [List.length_cons,List.length_nil];omega⟩
      ·simp only;omega)
  ·obtain rfl:k=0:=by omega
   rw [jE,List.map_nil,List.append_nil] at ca
   repeat' (first
    |(refine bq (fun hb=>?_) (fun hb=>?_)<;>(try simp only [aq] at hb)<;>(first|refine gq ng ?_))
    |(refine ab.ao ?_;refine gq ng ?_)
    |(refine fq ?_))
   all_goals first
    |(exfalso;omega)
    |(subst ca;exact AW (aX.grow rfl fA) (by rw [if_pos (by assumption)]))
 ·refine ab.aP (σ:=Int × List fX × Nat) 1 2 [] (fun p=>[(0,dC ρ l),(1,iv v),(4,.pt 0 7 0 0),(5,.gr 1 5 p.2.2),(6,.v (.int .i64 p.1))]) [] (fun p=>[(0,.arr 7 [cf0] 0 true),(1,XG ρ p.2.1)])
   (fun p=>∃ k:Nat,p.1+1=k/\k<=l.length/\R=p.2.1++(jE l k).map rO/\p.2.2=p.2.1.length/\p.2.1.length<=l.length) (fun p=>(p.1+1).toNat) (i0,[],0) ⟨l.length,by simp only;omega,Nat.le_refl _,by simpa using hR,rfl,by simp⟩ rfl (by exact⟨sq,rfl,⟨.inl ⟨_,rfl,.arr (by exact⟨kq,trivial⟩)⟩,⟨.inr rfl,trivial⟩⟩,rfl,rfl,rfl⟩) ?_
  rintro⟨i,acc,len⟩ ⟨k,hi,hk,ca,fA,bG⟩
  simp only at hi ca fA bG
  refine gq ng ?_
  by_cases au:0 < k
  ·obtain⟨q,rfl⟩:∃ q,k=q+1:=⟨k - 1,by omega⟩
   have XH:i=(q:Int):=by omega
   obtain⟨y,eC⟩:∃ y,l[q]?=some y:=⟨_,List.getElem?_eq_getElem (by omega)⟩
   have ef:=congrArg List.length ca
   rw [hR,List.length_append,List.length_map,List.length_map,mS (Nat.le_refl _),mS hk] at ef
   rw [jE,eC] at ca
   simp only [List.map_cons] at ca
   obtain⟨yo,yn,ya⟩:=y
   repeat' (first
    |(refine ab.op rfl (ad.ind rfl rfl (ay (l:=l) XH eC) (aw fun _=>rfl)) ?_;refine gq ng ?_)
    |((refine ab.app (x:=rO (q,⟨yo,yn,ya⟩)) (f:=tC ρ) rfl rfl rfl fA (fun _=>rfl) rfl rfl rfl rfl (by omega) fun s' cF iK fe=>?_;refine gq ng ?_))
    |(refine bq (fun hb=>?_) (fun hb=>?_)<;>(try simp only [aq] at hb)<;>(first|refine gq ng ?_))
    |(refine aS fun _ _=>?_;refine gq ng ?_)
    |(refine ab.ao ?_;refine gq ng ?_)
    |(refine fq ?_))
   all_goals first
    |(exfalso;omega)
    |(refine ab.aK (σ:=Int × List fX × Nat) (_,s',cF) [(1,2)] ?_ ?_ (by exact⟨sq,rfl,⟨.inl ⟨_,rfl,.arr (by exact⟨kq,trivial⟩)⟩,⟨.inl ⟨_,rfl,.same Gr⟩,trivial⟩⟩,rfl,rfl,rfl⟩)
      ·exact⟨q,by simp only;omega,by omega,by simp only;rw [ca,iK];simp,fe,by simp only;rw [iK,List.length_append];simp only [List.length_cons,List.length_nil];omega⟩
      ·simp only;omega)
  ·obtain rfl:k=0:=by omega
   rw [jE,List.map_nil,List.append_nil] at ca
   repeat' (first
    |(refine bq (fun hb=>?_) (fun hb=>?_)<;>(try simp only [aq] at hb)<;>(first|refine gq ng ?_))
    |(refine ab.ao ?_;refine gq ng ?_)
    |(refine fq ?_))
   all_goals first
    |(exfalso;omega)
    |(subst ca;exact AW (aX.grow rfl fA) (by rw [if_neg (by assumption)]))
end
end
end Go.Proofs.YtgphljokbodciaaGreat
