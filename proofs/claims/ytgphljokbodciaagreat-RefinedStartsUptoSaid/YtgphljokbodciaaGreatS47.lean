import Derived.Test.YtgphljokbodciaaGreatS45
namespace Go.Proofs.YtgphljokbodciaaGreat
set_option linter.unusedVariables false
set_option linter.unusedSimpArgs false
open Go.RowKit
section
set_option maxRecDepth 100000
attribute [local irreducible] ah aV ad ab
def Sy:CF Tryz.f139:=⟨_,by conv=>lhs;cbv⟩
theorem adx:aD Tryz.prog 139 Sy.1 Tryz.f139.ntmps:=aO Tryz.func139 Sy.2 Tryz.call139
def oQ:List Nat:=[17,0,1,6,14,16,18,15,7,2,8,9,30]
section
variable {w0:World}{ρ:Hd}
theorem ady (p:fX->fX->Bool) (a b:List fX) (gid:FuncId) (fs cs:List AV) (ha:a.length<=1099511627776) (gj:b.length<=1099511627776) (hF:Pure (.fn (.func gid) fs cs)) (h:∀ x ∈ a,∀ y ∈ b,yN Tryz.prog w0 (.fn (.func gid) fs cs) [tD ρ x,tD ρ y] (p x y)):ah Tryz.prog w0 139 [oo ρ a,oo ρ b,.fn (.func gid) fs cs] (.v (.bool (de p a b))):=by
 obtain⟨R,hR⟩:∃ R,R=de p a b:=⟨_,rfl⟩
 rw [<-hR]
 refine adx.aH (by simp [Tryz.ntmps139]) (.v) ?_
 refine gq oQ ?_
 repeat' (first
  |(refine bq (fun hb=>?_) (fun hb=>?_)<;>(try simp only [aq] at hb)<;>(first|refine gq oQ ?_))
  |(refine az fun m hm=>?_;(try rw [af] at hm);refine gq oQ ?_)
  |(refine fq ?_))
 ·refine aI ?_
  rw [hR,ny (by omega)]
 have bH:a.length=b.length:=by omega
 refine ab.aP (σ:=Int) 0 0 [] (fun i=>[(1,oo ρ b),(2,.fn (.func gid) fs cs),(15,oo ρ a),(16,.v (.int .i64 m)),(17,.v (.int .i64 i))]) [] (fun _=>[])
  (fun i=>∃ k:Nat,i=k/\k<=a.length/\R=de p (a.drop k) (b.drop k)) (fun i=>a.length - i.toNat) 0 ⟨0,rfl,by simp,by simpa using hR⟩ rfl ⟨⟨.aC rfl (Pure.bM (dR _)),.aC rfl (Pure.bM hF),.aC rfl (Pure.bM (dR _)),.aC rfl .v,.aC rfl .v,trivial⟩,rfl,trivial,rfl,rfl,rfl⟩ ?_
 rintro i ⟨k,hi,hk,hp⟩
 clear hR
 refine gq oQ ?_
 by_cases au:k < a.length
 ·obtain⟨x,hx,aQ⟩:=aA au
  obtain⟨y,hy,cT⟩:=aA (show k < b.length by omega)
  rw [aQ,cT,de] at hp
  have hf:=h x (aZ hx) y (aZ hy)
  repeat' (first
   |(refine ab.op rfl (ad.ind rfl rfl (ay (l:=a) hi hx) (aw fun _=>rfl)) ?_;refine gq oQ ?_)
   |(refine ab.op rfl (ad.ind rfl rfl (ay (l:=b) hi hy) (aw fun _=>rfl)) ?_;refine gq oQ ?_)
   |(refine ab.bif rfl (ad.FB rfl rfl hf) (fun _=>?_) (fun _=>?_)<;>refine gq oQ ?_)
   |(refine bq (fun hb=>?_) (fun hb=>?_)<;>(try simp only [aq] at hb)<;>(first|refine gq oQ ?_))
   |(refine aS fun _ _=>?_;refine gq oQ ?_)
   |(refine ab.ao ?_;refine gq oQ ?_)
   |(refine ab.bK ?_;refine gq oQ ?_)
   |(refine fq ?_))
  all_goals first
   |(refine aI ?_;rw [hp];simp_all;done)
   |(refine ab.aK (σ:=Int) _ [] ?_ ?_ ⟨⟨.aC rfl (Pure.bM (dR _)),.aC rfl (Pure.bM hF),.aC rfl (Pure.bM (dR _)),.aC rfl .v,.aC rfl .v,trivial⟩,rfl,trivial,rfl,rfl,rfl⟩
     ·exact⟨k+1,by omega,by omega,by rw [hp];simp_all⟩
     ·omega)
 ·skip
  repeat' (first
   |(refine bq (fun hb=>?_) (fun hb=>?_)<;>(try simp only [aq] at hb)<;>(first|refine gq oQ ?_))
   |(refine ab.ao ?_;refine gq oQ ?_)
   |(refine fq ?_))
  all_goals first
   |(exfalso;omega)
   |(rw [hp,List.drop_eq_nil_of_le (by omega),List.drop_eq_nil_of_le (by omega)];exact aI rfl)
end
end
section
set_option maxRecDepth 100000
attribute [local irreducible] ah aV ad ab
section
variable {w0:World}{ρ:Hd}
def ocO (ρ:Hd) (acc:List Oc):Ob:=.arr 3 (ρ.h (List.map rM) acc) 0 false
set_option maxHeartbeats 1000000 in
theorem XI (ds:List Dc) (rs:List Rl) (hl:rs.length<=1099511627776) (hr:∀ r ∈ rs,r.aT.length+r.rem.length<=549755813888) (hn:(ep rs 0).length<=1099511627776):ah Tryz.prog w0 135 [pg ρ ⟨ds,rs⟩] (LX ρ (ep rs 0)):=by
 have ju:=j7 (ρ:=ρ) ⟨ds,rs⟩
 have hO:∀ (B:Nat),jF B (.arr 2 [iY ρ ⟨ds,rs⟩] 0 true):=fun B row hr a ha=>by
  obtain rfl:=List.mem_singleton.1 hr
  exact (ju a ha).bM
 obtain⟨R,hR⟩:∃ R,R=ep rs 0:=⟨_,rfl⟩
 rw [<-hR] at hn ⊢
 refine adp.aH (by simp [Tryz.ntmps135]) ((Ot _)) ?_
 refine gq kB ?_
 refine ab.aP (σ:=Int × List Oc × Nat) 1 2 [] (fun p=>[(1,.pt 0 2 0 0),(3,.gr 1 3 p.2.2),(4,.v (.int .i64 p.1))]) [] (fun p=>[(0,.arr 2 [iY ρ ⟨ds,rs⟩] 0 true),(1,ocO ρ p.2.1)])
  (fun p=>∃ k:Nat,p.1=k/\k<=rs.length/\R=p.2.1++ep (rs.drop k) p.1/\p.2.2=p.2.1.length) (fun p=>rs.length - p.1.toNat) (0,[],0) ⟨0,rfl,by simp,by simpa using hR,rfl⟩ rfl (by exact⟨sq,rfl,⟨.inl ⟨_,rfl,.same (hO _)⟩,.inr rfl,trivial⟩,rfl,rfl,rfl⟩) ?_
 rintro⟨i,acc,len⟩ ⟨k,hi,hk,hp,fA⟩
 simp only at hi hp fA
 clear hR
 refine gq kB ?_
 by_cases au:k < rs.length
 ·obtain⟨r,fO,aQ⟩:=aA au
  have gZ:=hr r (aZ fO)
  rw [aQ,ep] at hp
  obtain⟨rest,kn⟩:∃ l,l=ep (rs.drop (k+1)) (i+1):=⟨_,rfl⟩
  rw [<-kn] at hp
  obtain⟨rn,ke,re,gu,bo,va⟩:=r
  dsimp only at hp gZ
  repeat' (first
   |(refine ab.op rfl (ad.ind rfl rfl (ay (l:=rs) hi fO) (aw fun _=>rfl)) ?_;refine gq kB ?_)
   |(refine az fun q hq=>?_;rw [af] at hq;refine gq kB ?_)
   |(refine bq (fun hb=>?_) (fun hb=>?_)<;>(try simp only [aq] at hb)<;>(first|refine gq kB ?_))
   |(refine aS fun _ _=>?_;refine gq kB ?_)
   |(refine ab.ao ?_;refine gq kB ?_)
   |(refine fq ?_))
  all_goals first
   |(exfalso;omega)
   |skip
  rename_i q1 hq1 nk XJ s0 QX j0 hj0
  refine ab.aP (σ:=Int × List Oc × Nat) 2 3 [(2,1)] (fun p=>[(1,.pt 0 2 0 0),(3,.gr 2 3 p.2.2),(4,.v (.int .i64 i)),(5,.v (.int .i64 nk)),(6,.v (.int .i64 p.1))]) [] (fun p=>[(0,.arr 2 [iY ρ ⟨ds,rs⟩] 0 true),(2,ocO ρ p.2.1)])
   (fun p=>∃ z:Nat,p.1+1=z/\z<=ke.length+re.length/\R=p.2.1++(uD i ke.length z++rest)/\p.2.2=p.2.1.length) (fun p=>(p.1+1).toNat) (j0,acc,len) ⟨ke.length+re.length,by simp only;omega,Nat.le_refl _,hp,fA⟩ rfl (by exact⟨sq,rfl,⟨.inl ⟨_,rfl,.same (hO _)⟩,.inl ⟨_,rfl,.same wT⟩,trivial⟩,rfl,rfl,rfl⟩) ?_
  rintro⟨j,dk,gy⟩ ⟨z,hz,hzk,ca,kT⟩
  simp only at hz ca kT
  clear hp fA
  refine gq kB ?_
  by_cases Ej:0 < z
  ·obtain⟨m,rfl⟩:∃ m,z=m+1:=⟨z - 1,by omega⟩
   have hjm:(m:Int)=j:=by omega
   rw [uD,List.cons_append,hjm] at ca
   have ef:=congrArg List.length ca
   rw [List.length_append,List.length_cons] at ef
   repeat' (first
    |((refine ab.app (x:=⟨i,j,true⟩) (f:=rM) rfl rfl rfl kT (fun _=>rfl) rfl rfl rfl rfl (by omega) fun s' cF iK fe=>?_;refine gq kB ?_))
    |((refine ab.app (x:=⟨i,j,false⟩) (f:=rM) rfl rfl rfl kT (fun _=>rfl) rfl rfl rfl rfl (by omega) fun s' cF iK fe=>?_;refine gq kB ?_))
    |(refine bq (fun hb=>?_) (fun hb=>?_)<;>(try simp only [aq] at hb)<;>(first|refine gq kB ?_))
    |(refine aS fun _ _=>?_;refine gq kB ?_)
    |(refine ab.ao ?_;refine gq kB ?_)
    )
   all_goals first
    |(exfalso;omega)
    |(rw [decide_eq_true (by omega)] at ca
      refine ab.aK (σ:=Int × List Oc × Nat) (_,s',cF) [(2,3)] ?_ ?_ (by exact⟨sq,rfl,⟨.inl ⟨_,rfl,.same (hO _)⟩,.inl ⟨_,rfl,.same wT⟩,trivial⟩,rfl,rfl,rfl⟩)
      ·exact⟨m,by simp only;omega,by omega,by simp only;rw [ca,iK];simp,fe⟩
      ·simp only;omega)
    |(rw [decide_eq_false (by omega)] at ca
      refine ab.aK (σ:=Int × List Oc × Nat) (_,s',cF) [(2,3)] ?_ ?_ (by exact⟨sq,rfl,⟨.inl ⟨_,rfl,.same (hO _)⟩,.inl ⟨_,rfl,.same wT⟩,trivial⟩,rfl,rfl,rfl⟩)
      ·exact⟨m,by simp only;omega,by omega,by simp only;rw [ca,iK];simp,fe⟩
      ·simp only;omega)
  ·obtain rfl:z=0:=by omega
   rw [uD,List.nil_append] at ca
   repeat' (first
    |(refine bq (fun hb=>?_) (fun hb=>?_)<;>(try simp only [aq] at hb)<;>(first|refine gq kB ?_))
    |(refine aS fun _ _=>?_;refine gq kB ?_)
    |(refine ab.ao ?_;refine gq kB ?_)
    )
   all_goals first
    |(exfalso;omega)
    |(refine ab.aK (σ:=Int × List Oc × Nat) (_,dk,gy) [(1,2)] ?_ ?_ (by exact⟨sq,rfl,⟨.inl ⟨_,rfl,.same (hO _)⟩,.inl ⟨_,rfl,.same wT⟩,trivial⟩,rfl,rfl,rfl⟩)
      ·exact⟨k+1,by simp only;omega,by omega,by simp only;rw [ca,kn];congr 2;omega,kT⟩
      ·simp only;omega)
 ·rw [List.drop_eq_nil_of_le (by omega),ep,List.append_nil] at hp
  repeat' (first
   |(refine bq (fun hb=>?_) (fun hb=>?_)<;>(try simp only [aq] at hb)<;>(first|refine gq kB ?_))
   |(refine az fun m hm=>?_;(try rw [af] at hm);refine gq kB ?_)
   |(refine ab.ao ?_;refine gq kB ?_)
   |(refine fq ?_))
  all_goals first
   |(exfalso;omega)
   |(subst hp;exact aX.grow rfl fA)
end
end
section
set_option maxRecDepth 100000
attribute [local irreducible] ah aV ad ab
def EB (i:Int) (q:Nat) (hs:List At):Nat->List (Oc × At)
 |0=>[]
 |m+1=>match hs[m]? with|some h=>(⟨i,m,decide ((m:Int) < q)⟩,h)::EB i q hs m|none=>[]
def xA:List Rl->Int->List (Oc × At)
 |[],_=>[]
 |r::l,i=>EB i r.aT.length (r.aT++r.rem) (r.aT.length+r.rem.length)++xA l (i+1)
def v7 (ρ:Hd) (p:Oc × At):List AV:=[.agg (rM p.1),at_ ρ p.2]
theorem Gs {i:Int}{q:Nat}{hs:List At}:∀ {m:Nat},m<=hs.length->(EB i q hs m).map (·.1)=uD i q m
 |0,_=>rfl
 |m+1,h=>by
  rw [EB,List.getElem?_eq_getElem (show m < hs.length by omega),uD]
  simp only [List.map_cons]
  rw [Gs (by omega)]
theorem Gt:∀ (l:List Rl) (i:Int),(xA l i).map (·.1)=ep l i
 |[],_=>rfl
 |r::l,i=>by rw [xA,ep,List.map_append,Gt,Gs (by simp)]
section
variable {w0:World}{ρ:Hd}
theorem XK (p:Pg) (hl:p.rs.length<=1099511627776) (hr:∀ r ∈ p.rs,r.aT.length+r.rem.length<=549755813888):Iter Tryz.prog w0 358 [] [.ip (iY ρ p)] ((xA p.rs 0).map (v7 ρ)):=by
 intro J b J' hy
 refine⟨.bc [],aE [(0,.fo J')] 1,?_,rfl⟩
 have ju:=j7 (ρ:=ρ) p
 obtain⟨ds,rs⟩:=p
 dsimp only at hl hr hy
 refine aD.dw 1 1 _ adm (by simp [Tryz.ntmps358]) rfl rfl ?_
 refine gq jj ?_
 refine az fun m hm=>?_;rw [af] at hm
 refine gq jj ?_
 refine ab.aP (σ:=Int × iX) 1 1 [] (fun p=>[(0,.yl 0),(8,Fs ρ rs),(9,.v (.int .i64 m)),(10,.v (.int .i64 p.1))]) [] (fun p=>[(0,.fo p.2)])
  (fun p=>∃ k:Nat,p.1=k/\k<=rs.length/\Ys Tryz.prog w0 p.2 ((xA (rs.drop k) p.1).map (v7 ρ)) b J') (fun p=>rs.length - p.1.toNat) (0,J) ⟨0,rfl,by simp,by simpa using hy⟩ rfl (by exact⟨sq,rfl,⟨.inl ⟨_,rfl,.same trivial⟩,trivial⟩,rfl,rfl,rfl⟩) ?_
 rintro⟨i,J⟩ ⟨k,hi,hk,hp⟩
 simp only at hi hp
 clear hy
 refine gq jj ?_
 by_cases au:k < rs.length
 ·obtain⟨r,fO,aQ⟩:=aA au
  have gZ:=hr r (aZ fO)
  have hH:=Ou (w0:=w0) (ρ:=ρ) r gZ
  have lJ:=iz (ρ:=ρ) r
  rw [aQ,xA,List.map_append] at hp
  obtain⟨rest,kn⟩:∃ l,l=(xA (rs.drop (k+1)) (i+1)).map (v7 ρ):=⟨_,rfl⟩
  rw [<-kn] at hp
  obtain⟨rn,ke,re,gu,bo,va⟩:=r
  dsimp only at hp gZ hH
  obtain⟨hs,hhs⟩:∃ l,l=ke++re:=⟨_,rfl⟩
  have hhl:hs.length=ke.length+re.length:=by rw [hhs,List.length_append]
  rw [<-hhs] at hp hH
  repeat' (first
   |(refine ab.op rfl (ad.ind rfl rfl (ay (l:=rs) hi fO) (aw fun _=>rfl)) ?_;refine gq jj ?_)
   |(refine ab.op rfl (ad.ag rfl hH ⟨lJ,trivial⟩) ?_;refine gq jj ?_)
   |(refine az fun q hq=>?_;rw [af] at hq;refine gq jj ?_)
   |(refine bq (fun hb=>?_) (fun hb=>?_)<;>(try simp only [aq] at hb)<;>(first|refine gq jj ?_))
   |(refine aS fun _ _=>?_;refine gq jj ?_)
   |(refine ab.ao ?_;refine gq jj ?_)
   |(refine fq ?_))
  all_goals first
   |(exfalso;omega)
   |skip
  rename_i j0 hj0
  have hO:jF 2 (.arr 6 [fW ρ ⟨rn,ke,re,gu,bo,va⟩] 0 true):=fun row hr a ha=>by
   obtain rfl:=List.mem_singleton.1 hr
   cases lJ with
   |agg h=>exact (h a ha).bM
  refine ab.aP (σ:=Int × iX) 2 2 [] (fun p=>[(0,.yl 0),(3,.v (.int .i64 i)),(4,.pt 1 6 0 0),(5,eK ρ hs),(6,.v (.int .i64 p.1)),(8,Fs ρ rs),(9,.v (.int .i64 m)),(10,.v (.int .i64 i))]) [] (fun p=>[(0,.fo p.2),(1,.arr 6 [fW ρ ⟨rn,ke,re,gu,bo,va⟩] 0 true)])
   (fun p=>∃ z:Nat,p.1+1=z/\z<=hs.length/\Ys Tryz.prog w0 p.2 ((EB i ke.length hs z).map (v7 ρ)++rest) b J') (fun p=>(p.1+1).toNat) (j0,J) ⟨hs.length,by simp only;omega,Nat.le_refl _,by rw [hhl];exact hp⟩ rfl (by exact⟨sq,rfl,⟨.inl ⟨_,rfl,.same trivial⟩,.inl ⟨_,rfl,.same hO⟩,trivial⟩,rfl,rfl,rfl⟩) ?_
  rintro⟨j,J2⟩ ⟨z,hz,Wj,ca⟩
  simp only at hz ca
  refine gq jj ?_
  by_cases Ej:0 < z
  ·obtain⟨y,rfl⟩:∃ y,z=y+1:=⟨z - 1,by omega⟩
   have hjy:j=(y:Int):=by omega
   obtain⟨a,ha⟩:∃ a,hs[y]?=some a:=⟨_,List.getElem?_eq_getElem (by omega)⟩
   rw [EB,ha] at ca
   simp only [List.map_cons,List.cons_append] at ca
   obtain⟨d,J1,h1,h2⟩:=ca.head
   obtain⟨K,hK⟩:∃ K,K=decide (j < (ke.length:Int)):=⟨_,rfl⟩
   rw [v7,<-hjy,<-hK] at h1
   obtain⟨an,aa⟩:=a
   rcases h2 with ⟨rfl,h2⟩|⟨rfl,rfl,rfl⟩
   all_goals
    repeat' (first
     |((refine ab.WV rfl (fun T=>ad.len rfl) fun nk XJ=>?_;rw [af] at XJ;refine ab.og (r:=.v (.bool K)) rfl (fun T=>by rw [hK,<-XJ];exact ad.bit rfl) ?_;refine gq jj ?_))
     |((refine ab.og rfl (fun T=>ad.ind rfl rfl (ay (l:=hs) hjy ha) (aw fun _=>rfl)) ?_;refine gq jj ?_))
     |((refine ab.vq rfl (cj.yl rfl rfl rfl h1) ?_;refine gq jj ?_))
     |(refine bq (fun hb=>?_) (fun hb=>?_)<;>(try simp only [aq] at hb)<;>(first|refine gq jj ?_))
     |(refine aS fun _ _=>?_;refine gq jj ?_)
     |(refine ab.ao ?_;refine gq jj ?_)
     |(refine ab.bK ?_;refine gq jj ?_)
     |(refine fq ?_))
   all_goals first
    |(exfalso;omega)
    |exact⟨[],.aC (.bc fun a ha=>by cases ha),⟨.inl ⟨_,rfl,.same trivial⟩,trivial⟩,rfl⟩
    |(refine ab.aK (σ:=Int × iX) (_,J1) [] ?_ ?_ (by exact⟨sq,rfl,⟨.inl ⟨_,rfl,.same trivial⟩,.inl ⟨_,rfl,.same hO⟩,trivial⟩,rfl,rfl,rfl⟩)
      ·exact⟨y,by simp only;omega,by omega,h2⟩
      ·simp only;omega)
  ·obtain rfl:z=0:=by omega
   rw [EB,List.map_nil,List.nil_append] at ca
   have hgo:∀ x,x=i+1->Ys Tryz.prog w0 J2 ((xA (rs.drop (k+1)) x).map (v7 ρ)) b J':=fun x hx=>by rw [hx,<-kn];exact ca
   repeat' (first
    |(refine bq (fun hb=>?_) (fun hb=>?_)<;>(try simp only [aq] at hb)<;>(first|refine gq jj ?_))
    |(refine aS fun _ _=>?_;refine gq jj ?_)
    |(refine ab.ao ?_;refine gq jj ?_)
    )
   all_goals first
    |(exfalso;omega)
    |(refine ab.aK (σ:=Int × iX) (_,J2) [] ?_ ?_ (by exact⟨sq,rfl,⟨.inl ⟨_,rfl,.same trivial⟩,trivial⟩,rfl,rfl,rfl⟩)
      ·exact⟨k+1,by simp only;omega,by omega,hgo _ (by omega)⟩
      ·simp only;omega)
 ·rw [List.drop_eq_nil_of_le (by omega),xA] at hp
  obtain⟨rfl,rfl⟩:=hp.He
  repeat' (first
   |(refine bq (fun hb=>?_) (fun hb=>?_)<;>(try simp only [aq] at hb)<;>(first|refine gq jj ?_))
   |(refine ab.ao ?_;refine gq jj ?_)
   |(refine fq ?_))
  all_goals first
   |(exfalso;omega)
   |exact⟨[],.aC (.bc fun a ha=>by cases ha),⟨.inl ⟨_,rfl,.same trivial⟩,trivial⟩,rfl⟩
theorem LZ (p:Pg):ah Tryz.prog w0 242 [pg ρ p] (.fn (.func 358) [] [.ip (iY ρ p)]):=by
 have ju:=j7 (ρ:=ρ) p
 obtain⟨ds,rs⟩:=p
 refine adn.aH (by simp [Tryz.ntmps242]) ((.fn (fun a ha=>by cases ha) fun a ha=>by obtain rfl:=List.mem_singleton.1 ha;exact .ip ju)) ?_
 refine gq agf ?_
 repeat' (first
  |(refine fq ?_))
 refine aX.fns ?_ ?_
 ·exact trivial
 ·exact⟨aX.box (cs:=iY ρ ⟨ds,rs⟩) (cs':=iY ρ ⟨ds,rs⟩) rfl ⟨.refl _,.refl _,trivial⟩,trivial⟩
def XL (ρ:Hd) (p:List Oc × Nat):List (Nat × Ob):=[(1,.arr 1 [[.gr 3 3 p.2]] 0 true),(2,.df),(3,.arr 3 (ρ.h (List.map rM) p.1) 0 false)]
theorem Oy {B sz fz:Nat}{s:List Oc}{ex:Bool}:jF B (.arr sz (ρ.h (List.map rM) s) fz ex):=s8 fun x _ a ha=>by
 simp only [rM,List.mem_cons,List.not_mem_nil,or_false] at ha
 rcases ha with rfl|rfl|rfl<;>exact .v
theorem Oz (p:Pg) (hl:p.rs.length<=1099511627776) (hr:∀ r ∈ p.rs,r.aT.length+r.rem.length<=549755813888) (hn:(ep p.rs 0).length<=1099511627776):ah Tryz.prog w0 125 [pg ρ p] (LX ρ (ep p.rs 0)):=by
 have lq:=mW (ρ:=ρ) p
 have ju:=j7 (ρ:=ρ) p
 have hE:=LZ (w0:=w0) (ρ:=ρ) p
 have hI:=XK (w0:=w0) (ρ:=ρ) p hl hr
 obtain⟨R,hR⟩:∃ R,R=ep p.rs 0:=⟨_,rfl⟩
 rw [<-hR] at hn ⊢
 rw [<-Gt] at hR
 generalize xA p.rs 0=W at hI hR
 obtain⟨ds,rs⟩:=p
 refine ado.aH (by simp [Tryz.ntmps125]) ((e9 fun x _ a ha=>by simp only [rM,List.mem_cons,List.not_mem_nil,or_false] at ha;rcases ha with rfl|rfl|rfl<;>exact .v)) ?_
 refine gq Ew ?_
 refine ab.op rfl (ad.ag rfl hE (by exact⟨lq,trivial⟩)) ?_
 refine gq Ew ?_
 refine ab.range (σ:=List Oc × Nat) (v7 ρ) W 3 4 [] [(3,.pt 1 1 0 0)] (XL ρ) (fun rest p=>R=p.1++rest.map (·.1)/\p.2=p.1.length) ([],0) rfl (fun a ha=>by cases ha) (fun a ha=>by obtain rfl:=List.mem_singleton.1 ha;exact .ip ju) hI rfl ⟨by simpa using hR,rfl⟩ rfl
  (by intro p hp;simp only [List.mem_cons,List.not_mem_nil,or_false] at hp;rcases hp with rfl;exact .pt (by decide)) rfl (fun x=>⟨rfl,fun a ha=>by simp only [v7,List.mem_cons,List.not_mem_nil,or_false] at ha;rcases ha with rfl|rfl;exact .agg (fun a ha=>by simp only [rM,List.mem_cons,List.not_mem_nil,or_false] at ha;rcases ha with rfl|rfl|rfl<;>exact .v);exact cX _⟩)
  ⟨⟨.aC rfl (.pt (by decide)),trivial⟩,rfl,⟨.inl ⟨_,rfl,.arr ⟨⟨.iW,trivial⟩,trivial⟩⟩,.inl ⟨_,rfl,.same trivial⟩,.inr rfl,trivial⟩,rfl,rfl,rfl⟩ ?_ ?_
 ·rintro⟨⟨or,oh,ok⟩,⟨hn,ha⟩⟩ rest ⟨acc,len⟩ ⟨h1,h2⟩
  simp only at h1 h2
  rw [List.map_cons] at h1
  have Rk:=congrArg List.length h1
  rw [List.length_append,List.length_cons] at Rk
  refine gq Ew ?_
  refine ab.app (x:=⟨or,oh,ok⟩) (f:=rM) rfl rfl rfl h2 (fun _=>rfl) rfl rfl rfl rfl (by omega) fun s' cF iK fe=>?_
  refine gq Ew ?_
  refine ab.Ha (s',cF) [(3,5)] ⟨by simp only;rw [h1,iK];simp,fe⟩ ⟨trivial,rfl,⟨.inl ⟨_,rfl,.arr ⟨⟨.ll rfl rfl,trivial⟩,trivial⟩⟩,.inl ⟨_,rfl,.same trivial⟩,.inl ⟨_,rfl,.same Oy⟩,trivial⟩,rfl,rfl,rfl⟩
 ·rintro⟨acc,len⟩ ⟨h1,h2⟩
  simp only at h1 h2
  rw [List.map_nil,List.append_nil] at h1
  refine gq Ew ?_
  subst h1
  refine ab.fin (by conv=>lhs;cbv) ?_
  exact aX.grow rfl h2
end
end
end Go.Proofs.YtgphljokbodciaaGreat
