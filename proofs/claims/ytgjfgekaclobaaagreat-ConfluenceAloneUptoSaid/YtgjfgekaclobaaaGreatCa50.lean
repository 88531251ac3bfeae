import Derived.Test.YtgjfgekaclobaaaGreatCa48
import Derived.Test.YtgjfgekaclobaaaGreatCa49
namespace Go.Proofs.YtgjfgekaclobaaaGreat
set_option linter.unusedVariables false
set_option linter.unusedSimpArgs false
open Go.RowKit
section
set_option maxRecDepth 100000
attribute [local irreducible] ah aK ae aa
def V4:CF Tryz.f220:=⟨_,by conv=>lhs;cbv⟩
theorem V5:aT Tryz.prog 220 V4.1 Tryz.f220.ntmps:=bX Tryz.func220 V4.2 Tryz.call220
def HH:List Nat:=[0,2,4]
def V6:CF Tryz.f315:=⟨_,by conv=>lhs;cbv⟩
theorem agU:aT Tryz.prog 315 V6.1 Tryz.f315.ntmps:=bX Tryz.func315 V6.2 Tryz.call315
def Tk:List Nat:=[2,3,4,0,1]
def V7:CF Tryz.f251:=⟨_,by conv=>lhs;cbv⟩
theorem agV:aT Tryz.prog 251 V7.1 Tryz.f251.ntmps:=bX Tryz.func251 V7.2 Tryz.call251
def alq:List Nat:=[2,0,1]
def V8:CF Tryz.f313:=⟨_,by conv=>lhs;cbv⟩
theorem agW:aT Tryz.prog 313 V8.1 Tryz.f313.ntmps:=bX Tryz.func313 V8.2 Tryz.call313
def ab8:List Nat:=[3,0,1,2]
def V9:CF Tryz.f314:=⟨_,by conv=>lhs;cbv⟩
theorem V_:aT Tryz.prog 314 V9.1 Tryz.f314.ntmps:=bX Tryz.func314 V9.2 Tryz.call314
def fS:List Nat:=[0,27,1,3,6,5,13,2,23,26,28,25,7,55]
def Wa:CF Tryz.f252:=⟨_,by conv=>lhs;cbv⟩
theorem agX:aT Tryz.prog 252 Wa.1 Tryz.f252.ntmps:=bX Tryz.func252 Wa.2 Tryz.call252
def qu:List Nat:=[2,16,8,6,7,5,4,0,1,15,17,14]
def iO (ρ:Hd) (p:Pg) (i j:Int) (a b:Rl) (f t:List At):List AV:=[gI ρ p.ds,TW ρ p.rs,iv i,iv j,.v (.string a.n),dh ρ a.a7,dh ρ a.rem,eP ρ a.guard,eP ρ a.body,iv a.vars,.v (.string b.n),dh ρ b.a7,dh ρ b.rem,eP ρ b.guard,eP ρ b.body,iv b.vars,dh ρ f,dh ρ t]
theorem pB {ρ:Hd}(p:Pg) (i j:Int) (a b:Rl) (f t:List At):∀ x ∈ iO ρ p i j a b f t,Pure x:=by
 simp [iO,dK,rL,dy,dz,Pure.v,iv]
def sw (c:List AV):List AV:=[.fn (.func 314) [] [.ip c,.pt 1 1 0 0,.pt 2 1 0 0]]
def so0 (c:List AV) (J:iq):List (Nat × Ob):=[(0,.fo J),(1,.arr 1 [[.yl 0]] 0 true),(2,.arr 1 [sw c] 0 true)]
def so1 (c:List AV) (J:iq) (x:Int):List (Nat × Ob):=[(0,.fo J),(1,.arr 1 [[.yl 0]] 0 true),(2,.arr 1 [sw c] 0 true),(3,.arr 1 [[iv x]] 0 false)]
section
variable {w0:World}{ρ:Hd}
theorem NI (A:Option Addr) (c:Nat):ah Tryz.prog w0 220 [.v (.slice A 0 c)] (.sl true []):=by
 cases A with
 |none =>
  refine V5.bu (by simp [Tryz.ntmps220]) ((.sl fun r h=>by cases h)) ?_
  refine gq HH ?_
  refine aa.op rfl (ae.nil (b:=true) rfl rfl) ?_
  refine gq HH ?_
  refine fq ?_
  exact .refl _
 |some A =>
  refine V5.bu (by simp [Tryz.ntmps220]) ((.sl fun r h=>by cases h)) ?_
  refine gq HH ?_
  refine aa.op rfl (ae.nil (b:=false) rfl rfl) ?_
  refine gq HH ?_
  refine aa.op rfl (ae.BX rfl rfl) ?_
  refine gq HH ?_
  refine fq ?_
  exact .refl _
theorem Tl {ex:Bool}:ah Tryz.prog w0 220 [.sl ex []] (.sl true []):=ah.emp NI
theorem ab9 (a b:At) (hn:b.n=a.n) (hl:b.a.length=a.a.length):ah Tryz.prog w0 315 [at_ ρ a,at_ ρ b] (.v (.bool true)):=by
 obtain⟨n,l⟩:=a
 obtain⟨n',m⟩:=b
 simp only at hn hl
 subst hn
 refine agU.bu (by simp [Tryz.ntmps315]) (.v) ?_
 refine gq Tk ?_
 repeat' (first
  |(refine bq (fun hb=>?_) (fun hb=>?_)<;>(try simp only [aM] at hb)<;>(first|exact absurd hb (by decide)|refine gq Tk ?_))
  |(refine bL fun m hm=>?_;(try rw [aF] at hm);refine gq Tk ?_)
  |(refine fq ?_))
 all_goals first
  |(exfalso;omega)
  |exact .refl _
theorem HI {c:List AV}(hc:∀ a ∈ c,Pure a) {B:Nat}(hB:3<=B):fV B (.arr 1 [sw c] 0 true):=fun row hr a ha=>by
 obtain rfl:=List.mem_singleton.1 hr
 obtain rfl:=List.mem_singleton.1 ha
 refine .fn (fun a h=>by cases h) fun a h=>?_
 simp only [List.mem_cons,List.not_mem_nil,or_false] at h
 rcases h with rfl|rfl|rfl
 ·exact .ip fun b hb=>(hc b hb).b9
 ·exact .pt (by omega)
 ·exact .pt (by omega)
theorem uL {B:Nat}(hB:1<=B):fV B (.arr 1 [[.yl 0]] 0 true):=fun row hr a ha=>by
 obtain rfl:=List.mem_singleton.1 hr
 obtain rfl:=List.mem_singleton.1 ha
 exact .yl (by omega)
theorem PZ (p:Pg) (i j:Int) (a b:Rl) (f t:List At) (hf:f.length=1) {J J':iq}{bb:Bool}{x:Int}(h:∀ (T:ad) (k:Nat),T.get k=some (.fo J)->oo Tryz.prog w0 k [.sl false [[iv x]]] T (.v (.bool bb)) (T.set k (some (.fo J')))) :
  aK Tryz.prog w0 314 [.gr 3 1 1,.ip (iO ρ p i j a b f t),.pt 1 1 0 0,.pt 2 1 0 0] (au (so1 (iO ρ p i j a b f t) J x) 4) (.v (.bool bb)) (au (so0 (iO ρ p i j a b f t) J') 4):=by
 obtain⟨c,hc⟩:∃ c,c=sw (iO ρ p i j a b f t):=⟨_,rfl⟩
 have hk:=HI (pB (ρ:=ρ) p i j a b f t) (B:=4) (by decide)
 unfold so1 so0
 rw [<-hc] at hk ⊢
 unfold iO
 obtain⟨ds,rs⟩:=p
 obtain⟨an,ak,ar,ag,ab,av⟩:=a
 obtain⟨bn,bk,br,bg,sy,bv⟩:=b
 refine aT.fM 4 4 _ V_ (by simp [Tryz.ntmps314]) rfl rfl ?_
 refine gq fS ?_
 refine aa.int rfl (ae.qk rfl) fun n hn=>?_
 refine gq fS ?_
 refine bL fun m hm=>?_;rw [aF,hf] at hm
 refine gq fS ?_
 refine bq (fun hb=>?_) (fun hb=>?_)<;>(try simp only [aM] at hb)
 rotate_left
 ·exfalso;omega
 refine gq fS ?_
 refine aa.TR (Cv.freeze (t:=15) rfl rfl (.inl rfl) rfl (by decide)) ?_
 refine aa.op rfl (ae.yl rfl rfl (h _ _ rfl)) ?_
 refine gq fS ?_
 refine fq ?_
 exact⟨[],.aB .v,⟨.inl ⟨_,rfl,.same trivial⟩,.inl ⟨_,rfl,.same (uL (by decide))⟩,.inl ⟨_,rfl,.same hk⟩,trivial⟩,rfl⟩
theorem P0 {C:List AV}{J:iq}{q:Nat}{x:Int}{T:ad}(hC:∀ a ∈ C,Pure a) (hq:q=3\/3 < q) (hT:fu T [(0,.fo J),(1,.arr 1 [[.yl 0]] 0 true),(2,.arr 1 [sw C] 0 true),(q,.arr 1 [[iv x]] 0 false)]):ir (aN [(3,q)]) 4 T (so1 C J x):=by
 have h0:=hT (0,.fo J) (by simp)
 have h1:=hT (1,.arr 1 [[.yl 0]] 0 true) (by simp)
 have h2:=hT (2,.arr 1 [sw C] 0 true) (by simp)
 have h3:=hT (q,.arr 1 [[iv x]] 0 false) (by simp)
 refine⟨⟨_,h0,.fo⟩,⟨_,h1,.row ⟨.yl rfl rfl,trivial⟩⟩,⟨_,h2,.row ⟨.fn trivial ⟨.pure (.ip hC),.pt rfl rfl,.pt rfl rfl,trivial⟩,trivial⟩⟩,⟨_,h3,.pure fun row hr a ha=>?_⟩,trivial⟩
 obtain rfl:=List.mem_singleton.1 hr
 obtain rfl:=List.mem_singleton.1 ha
 exact .v
theorem Wb {C:List AV}{J:iq}{q:Nat}{x:Int}{T:ad}{a0 a1 a3:AV}(hT:fu T [(0,.fo J),(1,.arr 1 [[.yl 0]] 0 true),(2,.arr 1 [sw C] 0 true),(q,.arr 1 [[iv x]] 0 false)]):Hy w0 T [a0,a1,.pt 1 1 0 0,a3] 4 [(3,q)] :=
 Hy.cell (i:=2) (q:=0) (j0:=0) rfl (hT (1,.arr 1 [[.yl 0]] 0 true) (by simp)) rfl (hT (0,.fo J) (by simp)) (by decide) rfl
theorem P1 {C:List AV}{J:iq}{q nx:Nat}{K:List (Nat × Option Ob)}(hC:∀ a ∈ C,Pure a) (hK:gk (cV (aN [(3,q)]) 4 nx) (so0 C J) K):gk (cV (aN [(3,q)]) 4 nx) (so0 C J) ((0,some (.fo J))::(1,some (.arr 1 [[.yl 0]] 0 true))::(2,some (.arr 1 [sw C] 0 true))::K) :=
 ⟨⟨0,_,rfl,rfl,.fo⟩,⟨1,_,rfl,rfl,.row ⟨.yl rfl,trivial⟩⟩,⟨2,_,rfl,rfl,.row ⟨.fn trivial ⟨.pure (.ip hC),.pt rfl,.pt rfl,trivial⟩,trivial⟩⟩,hK⟩
theorem ab_ (p:Pg) (i j:Int) (a b:Rl) (f t:List At) (f0 t0:At) (hf:f=[f0]) (ht:t=[t0]) (hn:t0.n=f0.n) (hl:t0.a.length=f0.a.length) {J J':iq}{bb:Bool}(h:Ys Tryz.prog w0 J [[.sl false [[iv (-1)]]],[.sl false [[iv 0]]]] bb J') :
  aK Tryz.prog w0 314 [.sl true [],.ip (iO ρ p i j a b f t),.pt 1 1 0 0,.pt 2 1 0 0] (au (so0 (iO ρ p i j a b f t) J) 3) (.v (.bool bb)) (au (so0 (iO ρ p i j a b f t) J') 3):=by
 have uv:=Tl (w0:=w0) (ex:=true)
 have hfl:f.length=1:=by rw [hf];rfl
 have tX:t.length=1:=by rw [ht];rfl
 have A_:f[0]?=some f0:=by rw [hf];rfl
 have ht0:t[0]?=some t0:=by rw [ht];rfl
 clear hf ht
 have eS:=pB (ρ:=ρ) p i j a b f t
 obtain⟨d,J1,h1,h2⟩:=h.head
 have e1:=PZ (w0:=w0) (ρ:=ρ) p i j a b f t hfl h1
 have hk:=HI eS (B:=3) (by decide)
 unfold so0 sw iO
 obtain⟨ds,rs⟩:=p
 obtain⟨an,ak,ar,ag,ab,av⟩:=a
 obtain⟨bn,bk,br,bg,sy,bv⟩:=b
 refine aT.fM 3 3 _ V_ (by simp [Tryz.ntmps314]) rfl rfl ?_
 refine gq fS ?_
 refine bL fun m0 G1=>?_
 refine gq fS ?_
 refine bL fun m hm=>?_;rw [aF,hfl] at hm
 refine gq fS ?_
 refine bq (fun hb=>?_) (fun hb=>?_)<;>(try simp only [aM] at hb)
 ·exfalso;simp at G1;omega
 refine gq fS ?_
 refine aa.gm rfl (fun T=>ae.aL rfl uv ⟨.sl fun r h=>(by cases h),trivial⟩) ?_
 refine gq fS ?_
 refine aa.Uv (ρ:=.plain) (f:=cM) (ys:=[-1]) rfl rfl rfl (fun _=>rfl) (by decide) fun acc len kV hlen=>?_
 obtain rfl:len=1:=by rw [hlen,kV];rfl
 subst kV
 refine gq fS ?_
 refine aa.lP rfl (bc.E3 [(3,3)] [(0,.fo J),(1,.arr 1 [[.yl 0]] 0 true),(2,.arr 1 [sw (iO ρ ⟨ds,rs⟩ i j ⟨an,ak,ar,ag,ab,av⟩ ⟨bn,bk,br,bg,sy,bv⟩ f t)] 0 true),(3,.arr 1 [[iv (-1)]] 0 false)] [(0,some (.fo J1)),(1,some (.arr 1 [[.yl 0]] 0 true)),(2,some (.arr 1 [sw (iO ρ ⟨ds,rs⟩ i j ⟨an,ak,ar,ag,ab,av⟩ ⟨bn,bk,br,bg,sy,bv⟩ f t)] 0 true)),(3,none),(4,none),(5,none),(6,none),(7,none)] e1 rfl ⟨.gr rfl rfl,.pure (.ip eS),.pt rfl rfl,.pt rfl rfl,trivial⟩ (.pure .v) (fun p hp=>by simp only [List.mem_cons,List.not_mem_nil,or_false] at hp;rcases hp with rfl|rfl|rfl|rfl<;>rfl) (fun T hT=>P0 eS (.inl rfl) hT) (P1 eS trivial) (fun T hT=>Wb hT)) ?_
 rcases h2 with ⟨rfl,h2⟩|⟨rfl,rfl,rfl⟩
 rotate_left
 ·refine gq fS ?_
  refine fq ?_
  exact⟨[],.aB .v,⟨.inl ⟨_,rfl,.same trivial⟩,.inl ⟨_,rfl,.same (uL (by decide))⟩,.inl ⟨_,rfl,.same hk⟩,trivial⟩,rfl⟩
 refine gq fS ?_
 refine bL fun m2 gH=>?_;rw [aF,tX] at gH
 refine gq fS ?_
 have acb:=HI eS (B:=20) (by decide)
 refine aa.bP (σ:=Int × iq) 20 20 [] (fun p=>[(0,.sl true []),(1,.ip (iO ρ ⟨ds,rs⟩ i j ⟨an,ak,ar,ag,ab,av⟩ ⟨bn,bk,br,bg,sy,bv⟩ f t)),(3,.pt 2 1 0 0),(25,dh ρ t),(26,.v (.int .i64 m2)),(27,.v (.int .i64 p.1))]) [] (fun p=>so0 (iO ρ ⟨ds,rs⟩ i j ⟨an,ak,ar,ag,ab,av⟩ ⟨bn,bk,br,bg,sy,bv⟩ f t) p.2)
  (fun p=>(p.1=0/\Ys Tryz.prog w0 p.2 [[.sl false [[iv 0]]]] bb J')\/(p.1=1/\bb=true/\p.2=J')) (fun p=>1 - p.1.toNat) (0,J1) (.inl ⟨rfl,h2⟩) rfl
  ⟨⟨.aB rfl jB,.aB rfl (.ip fun b hb=>(eS b hb).b9),.aB rfl (.pt (by decide)),.aB rfl (Pure.b9 (dy _)),.aB rfl .v,.aB rfl .v,trivial⟩,rfl,⟨.inl ⟨_,rfl,.same trivial⟩,.inl ⟨_,rfl,.same (uL (by decide))⟩,.inl ⟨_,rfl,.same acb⟩,trivial⟩,rfl,rfl,rfl⟩ ?_
 rintro⟨i2,Jc⟩ hI
 simp only at hI
 unfold so0 sw iO
 refine gq fS ?_
 refine bq (fun eB=>?_) (fun eB=>?_)<;>(try simp only [aM] at eB)
 rotate_left
 ·rcases hI with ⟨Br,hY⟩|⟨lQ,rfl,rfl⟩
  ·exfalso;omega
  refine gq fS ?_
  refine aa.aR ?_
  refine gq fS ?_
  refine fq ?_
  exact⟨[],.aB .v,⟨.inl ⟨_,rfl,.same trivial⟩,.inl ⟨_,rfl,.same (uL (by decide))⟩,.inl ⟨_,rfl,.same hk⟩,trivial⟩,rfl⟩
 rcases hI with ⟨rfl,hY⟩|⟨lQ,rfl,rfl⟩
 rotate_left
 ·exfalso;omega
 have ep:=ab9 (w0:=w0) (ρ:=ρ) f0 t0 hn hl
 have alr:=OM (w0:=w0) (ρ:=ρ) [] 0 (by simp)
 have e2:=PZ (w0:=w0) (ρ:=ρ) ⟨ds,rs⟩ i j ⟨an,ak,ar,ag,ab,av⟩ ⟨bn,bk,br,bg,sy,bv⟩ f t hfl hY.one
 obtain⟨tn,ta⟩:=t0
 obtain⟨fn,fa⟩:=f0
 refine gq fS ?_
 refine aa.op rfl (ae.ind rfl rfl (bU (l:=t) (k:=0) rfl ht0) (bV fun _=>rfl)) ?_
 refine gq fS ?_
 refine aa.Zm rfl (fun T=>ae.len rfl) fun z hz=>?_
 refine gq fS ?_
 refine aa.gm rfl (fun T=>ae.ind rfl rfl (bU (l:=f) (k:=0) (by simpa using hz) A_) (bV fun _=>rfl)) ?_
 refine gq fS ?_
 refine aa.gm rfl (fun T=>ae.aL rfl ep ⟨mI (ρ:=ρ) ⟨fn,fa⟩,mI (ρ:=ρ) ⟨tn,ta⟩,trivial⟩) ?_
 refine gq fS ?_
 refine aa.gm rfl (fun T=>ae.Fo rfl alr ⟨gy _,.v,trivial⟩ ⟨Wk.nil,.refl _,trivial⟩) ?_
 refine gq fS ?_
 refine aa.gm rfl (fun T=>ae.aL rfl uv ⟨.sl fun r h=>(by cases h),trivial⟩) ?_
 refine gq fS ?_
 refine aa.Uv (ρ:=.plain) (f:=cM) (ys:=[0]) rfl rfl rfl (fun _=>rfl) (by decide) fun acc len kV hlen=>?_
 obtain rfl:len=1:=by rw [hlen,kV];rfl
 subst kV
 refine gq fS ?_
 refine aa.lP rfl (bc.E3 [(3,21)] [(0,.fo Jc),(1,.arr 1 [[.yl 0]] 0 true),(2,.arr 1 [sw (iO ρ ⟨ds,rs⟩ i j ⟨an,ak,ar,ag,ab,av⟩ ⟨bn,bk,br,bg,sy,bv⟩ f t)] 0 true),(21,.arr 1 [[iv 0]] 0 false)] [(0,some (.fo J')),(1,some (.arr 1 [[.yl 0]] 0 true)),(2,some (.arr 1 [sw (iO ρ ⟨ds,rs⟩ i j ⟨an,ak,ar,ag,ab,av⟩ ⟨bn,bk,br,bg,sy,bv⟩ f t)] 0 true)),(21,none),(22,none),(23,none),(24,none),(25,none)] e2 rfl ⟨.gr rfl rfl,.pure (.ip eS),.pt rfl rfl,.pt rfl rfl,trivial⟩ (.pure .v) (fun p hp=>by simp only [List.mem_cons,List.not_mem_nil,or_false] at hp;rcases hp with rfl|rfl|rfl|rfl<;>rfl) (fun T hT=>P0 eS (.inr (by decide)) hT) (P1 eS trivial) (fun T hT=>Wb hT)) ?_
 cases bb with
 |false =>
  refine gq fS ?_
  refine aa.iB ?_
  refine gq fS ?_
  refine fq ?_
  exact⟨[],.aB .v,⟨.inl ⟨_,rfl,.same trivial⟩,.inl ⟨_,rfl,.same (uL (by decide))⟩,.inl ⟨_,rfl,.same hk⟩,trivial⟩,rfl⟩
 |true =>
  refine gq fS ?_
  refine cr (fun i3 td=>?_)
  refine gq fS ?_
  refine aa.bm (σ:=Int × iq) (i3,J') [] (.inr ⟨by simp only;omega,rfl,rfl⟩) ?_ ⟨⟨.aB rfl jB,.aB rfl (.ip fun b hb=>(eS b hb).b9),.aB rfl (.pt (by decide)),.aB rfl (Pure.b9 (dy _)),.aB rfl .v,.aB rfl .v,trivial⟩,rfl,⟨.inl ⟨_,rfl,.same trivial⟩,.inl ⟨_,rfl,.same (uL (by decide))⟩,.inl ⟨_,rfl,.same acb⟩,trivial⟩,rfl,rfl,rfl⟩
  simp only;omega
end
end
end Go.Proofs.YtgjfgekaclobaaaGreat
