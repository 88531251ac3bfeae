import Derived.Test.YtbofilglphfceaaGreatD49
import Derived.Test.YtbofilglphfceaaGreatD50
import Derived.Test.YtbofilglphfceaaGreatD52
namespace Go.Proofs.YtbofilglphfceaaGreat
set_option linter.unusedVariables false
set_option linter.unusedSimpArgs false
open Go.RowKit
section
set_option maxRecDepth 100000
attribute [local irreducible] ag aR aa ab
def PU:CF Tryz.f5:=⟨_,by conv=>lhs;cbv⟩
theorem KX:bN Tryz.prog 5 PU.1 Tryz.f5.ntmps:=cd Tryz.func5 PU.2 Tryz.call5
def g5:List Nat:=[3,4,7,8,6,0,1,18,25,2]
def qX (s:eN) (i:Nat):eN:=⟨s.goals.drop i++s.goals.take i,s.store,s.binds,s.cn,s.known,s.next,s.fresh,s.failed⟩
theorem BW (s:eN) (i:Nat):gm s (qX s i)=true:=Dj (b:=s.goals.take i) (c:=s.goals.drop i) (List.take_append_drop i s.goals).symm
theorem Fu {s:eN}(h:jE s) (i:Nat):jE (qX s i):=⟨by have:=h.gl;simp only [qX,List.length_append,List.length_drop,List.length_take];omega,h.st,h.bl,h.fl,h.kl,fun x hx=>by
 rcases List.mem_append.1 hx with hx|hx
 ·exact h.gx x (List.mem_of_mem_drop hx)
 ·exact h.gx x (List.mem_of_mem_take hx),h.sx,h.bx,h.fx,h.kx⟩
theorem KY:Kd ⟨[],[]⟩:=⟨by simp,by simp,(fun _ h=>by cases h),(fun _ h=>by cases h)⟩
theorem KZ {a b i:Int}(h:i=a.tmod b) (ha:0<=a) (hb:0 < b):0<=i/\i < b:=by
 subst h
 exact⟨Int.tmod_nonneg _ ha,Int.tmod_lt_of_pos _ hb⟩
theorem qn {p:Pg}{s:eN}(h:lV p s=true):s.goals.length<=10:=by
 unfold lV at h
 simp only [Bool.and_eq_true,decide_eq_true_eq] at h
 omega
section
variable {w0:World}{ρ:Hd}
theorem Ii {S:U}{x:AV}{l:List Gl}{st:List Im}{b:List Bd}{f:List Fi}{k:List Gl}{n r:Int}{e:Bool}(h:bG S x (gd ρ l)):bG S (.agg [x,ko ρ st,kp ρ b,jC ρ f,gd ρ k,iv n,iv r,.v (.bool e)]) (l8 ρ ⟨l,st,b,f,k,n,r,e⟩):=by
 refine .agg rfl fun i a a' h1 h2=>?_
 match i,h1,h2 with
 |0,h1,h2=>obtain rfl:=Option.some.inj h1;obtain rfl:=Option.some.inj h2;exact h
 |i+1,h1,h2=>obtain rfl:a=a':=Option.some.inj (h1.symm.trans h2);exact .refl _
theorem Dq (hA:ag Tryz.prog w0 27 [] (.v (.bool true))) (a b:eN) (k:Int) (ha:jE a) (eG:jE b) (iY:0<=k) (gS:k<=255):ag Tryz.prog w0 5 [l8 ρ a,l8 ρ b,.v (.int .u8 k)] (.v (.bool true)):=by
 have fc:=fa (ρ:=ρ) a
 have ui:=fa (ρ:=ρ) b
 have wu:=mN (ρ:=ρ) ⟨[],[]⟩
 have yd:=yc (w0:=w0) (ρ:=ρ) ⟨[],[]⟩ a KY ha
 have Dr:=yc (w0:=w0) (ρ:=ρ) ⟨[],[]⟩ b KY eG
 cases wv:lV ⟨[],[]⟩ a with
 |false =>
  rw [wv] at yd
  clear wv Dr ha eG
  obtain⟨g1,s1,b1,f1,k1,n1,r1,e1⟩:=a
  obtain⟨g2,s2,b2,f2,k2,n2,r2,e2⟩:=b
  refine KX.bc (by simp [Tryz.ntmps5]) (.v) ?_
  refine gq g5 ?_
  repeat' (first
   |(refine ab.op rfl (aa.ea rfl yd (by exact⟨wu,fc,trivial⟩) ⟨Wk.agg ⟨Wk.nil,Wk.nil,trivial⟩,.refl _,trivial⟩) ?_;refine gq g5 ?_)
   |(refine ab.op rfl (aa.aB rfl hA trivial) ?_;refine gq g5 ?_)
   |(refine bq (fun hb=>?_) (fun hb=>?_)<;>(try simp only [aJ] at hb)<;>(first|exact absurd hb (by decide)|refine gq g5 ?_))
   |(refine aS fun m hm=>?_;(try rw [aq] at hm);refine gq g5 ?_)
   |(refine cQ fun _ _=>?_;refine gq g5 ?_)
   |(refine xw fun _ _=>?_;refine gq g5 ?_)
   |(refine ab.str rfl (aa.cat rfl rfl (by assumption)) fun _ _=>?_;refine gq g5 ?_)
   |(refine ab.aK ?_;refine gq g5 ?_)
   |(refine ab.de ?_;refine gq g5 ?_)
   |(refine fq ?_))
  all_goals exact aT rfl
 |true =>
  cases Ds:lV ⟨[],[]⟩ b with
  |false =>
   rw [wv] at yd
   rw [Ds] at Dr
   clear wv Ds ha eG
   obtain⟨g1,s1,b1,f1,k1,n1,r1,e1⟩:=a
   obtain⟨g2,s2,b2,f2,k2,n2,r2,e2⟩:=b
   refine KX.bc (by simp [Tryz.ntmps5]) (.v) ?_
   refine gq g5 ?_
   repeat' (first
    |(refine ab.op rfl (aa.ea rfl yd (by exact⟨wu,fc,trivial⟩) ⟨Wk.agg ⟨Wk.nil,Wk.nil,trivial⟩,.refl _,trivial⟩) ?_;refine gq g5 ?_)
    |(refine ab.op rfl (aa.ea rfl Dr (by exact⟨wu,ui,trivial⟩) ⟨Wk.agg ⟨Wk.nil,Wk.nil,trivial⟩,.refl _,trivial⟩) ?_;refine gq g5 ?_)
    |(refine ab.op rfl (aa.aB rfl hA trivial) ?_;refine gq g5 ?_)
    |(refine bq (fun hb=>?_) (fun hb=>?_)<;>(try simp only [aJ] at hb)<;>(first|exact absurd hb (by decide)|refine gq g5 ?_))
    |(refine aS fun m hm=>?_;(try rw [aq] at hm);refine gq g5 ?_)
    |(refine cQ fun _ _=>?_;refine gq g5 ?_)
    |(refine xw fun _ _=>?_;refine gq g5 ?_)
    |(refine ab.str rfl (aa.cat rfl rfl (by assumption)) fun _ _=>?_;refine gq g5 ?_)
    |(refine ab.aK ?_;refine gq g5 ?_)
    |(refine ab.de ?_;refine gq g5 ?_)
    |(refine fq ?_))
   all_goals exact aT rfl
  |true =>
   have TV:=qn wv
   have TW:=qn Ds
   have h1:=td (w0:=w0) (ρ:=ρ) a b ha eG (by omega)
   have h2:=Ig (w0:=w0) (ρ:=ρ) a b ha eG
   have h3:=td (w0:=w0) (ρ:=ρ) b a eG ha (by omega)
   have h4:=fun i=>td (w0:=w0) (ρ:=ρ) a (qX a i) ha (Fu ha i) (by simp only [qX,List.length_append,List.length_drop,List.length_take];omega)
   simp only [BW] at h4
   rw [<-Fq] at h2
   rw [BS] at h3
   rw [wv] at yd
   rw [Ds] at Dr
   have K0:=fun i=>fa (ρ:=ρ) (qX a i)
   generalize gm a b=X at h1 h2 h3
   clear wv Ds ha eG
   obtain⟨g1,s1,b1,f1,k1,n1,r1,e1⟩:=a
   obtain⟨g2,s2,b2,f2,k2,n2,r2,e2⟩:=b
   dsimp only [qX] at h4 TV TW K0
   cases X
   all_goals
    refine KX.bc (by simp [Tryz.ntmps5]) (.v) ?_
    refine gq g5 ?_
    repeat' (first
     |(refine ab.op rfl (aa.ea rfl yd (by exact⟨wu,fc,trivial⟩) ⟨Wk.agg ⟨Wk.nil,Wk.nil,trivial⟩,.refl _,trivial⟩) ?_;refine gq g5 ?_)
     |(refine ab.op rfl (aa.ea rfl Dr (by exact⟨wu,ui,trivial⟩) ⟨Wk.agg ⟨Wk.nil,Wk.nil,trivial⟩,.refl _,trivial⟩) ?_;refine gq g5 ?_)
     |(refine bq (fun hb=>?_) (fun hb=>?_)<;>(try simp only [aJ] at hb)<;>(first|exact absurd hb (by decide)|refine gq g5 ?_))
     |(refine aS fun m hm=>?_;(try rw [aq] at hm);refine gq g5 ?_)
     |(refine cQ fun _ _=>?_;refine gq g5 ?_)
     |(refine xw fun _ _=>?_;refine gq g5 ?_)
     |(refine ab.str rfl (aa.cat rfl rfl (by assumption)) fun _ _=>?_;refine gq g5 ?_)
     |(refine ab.aK ?_;refine gq g5 ?_)
     |(refine ab.de ?_;refine gq g5 ?_)
     |(refine fq ?_))
   all_goals first
    |(refine ab.int rfl (aa.rem rfl rfl (by omega)) fun i hi=>?_
      refine gq g5 ?_
      obtain⟨FC,UD⟩:=KZ hi (by omega) (by omega)
      refine ab.IW (gd ρ) rfl (fun T=>aa.Ld rfl rfl (fun _=>rfl) (by omega) (by omega)) fun d hd=>?_
      refine gq g5 ?_
      refine ab.Lw (f:=tI ρ) (ys:=d) rfl rfl rfl (fun _=>rfl) (by rw [hd,List.length_drop];omega) fun acc len K1 hlen=>?_
      refine gq g5 ?_
      refine ab.IW (gd ρ) rfl (fun T=>aa.IB rfl rfl rfl (fun _=>rfl) (by decide) (by omega) (by omega)) fun d2 gY=>?_
      refine gq g5 ?_
      refine ab.Lv (f:=tI ρ) (ys:=d2) rfl rfl rfl hlen (fun _=>rfl) rfl (fun _=>rfl) (fun _=>rfl) (by rw [hlen,K1,hd,gY];simp only [List.length_drop,List.length_take];omega) fun R3 Ui OU OV=>?_
      refine gq g5 ?_
      obtain rfl:R3=g1.drop i.toNat++g1.take i.toNat:=by rw [OU,K1,hd,gY,Int.toNat_zero,List.drop_zero]
      repeat' (first
       |(refine ab.op rfl (aa.aB rfl h1 (by exact⟨fc,ui,trivial⟩)) ?_;refine gq g5 ?_)
       |(refine ab.op rfl (aa.aB rfl h2 (by exact⟨fc,ui,trivial⟩)) ?_;refine gq g5 ?_)
       |(refine ab.op rfl (aa.aB rfl h3 (by exact⟨ui,fc,trivial⟩)) ?_;refine gq g5 ?_)
       |(refine ab.op rfl (aa.FK rfl (h4 i.toNat) (by exact⟨fc,K0 _,trivial⟩) .v ⟨.refl _,Ii (bG.grow rfl OV),trivial⟩) ?_;refine gq g5 ?_)
       |(refine ab.op rfl (aa.aB rfl hA trivial) ?_;refine gq g5 ?_)
       |(refine bq (fun hb=>?_) (fun hb=>?_)<;>(try simp only [aJ] at hb)<;>(first|exact absurd hb (by decide)|refine gq g5 ?_))
       |(refine aS fun m hm=>?_;(try rw [aq] at hm);refine gq g5 ?_)
       |(refine cQ fun _ _=>?_;refine gq g5 ?_)
       |(refine xw fun _ _=>?_;refine gq g5 ?_)
       |(refine ab.str rfl (aa.cat rfl rfl (by assumption)) fun _ _=>?_;refine gq g5 ?_)
       |(refine ab.aK ?_;refine gq g5 ?_)
       |(refine ab.de ?_;refine gq g5 ?_)
       |(refine fq ?_))
      all_goals exact aT rfl)
    |(obtain rfl:g1=[]:=List.length_eq_zero_iff.1 (by omega)
      have h5:=h4 0
      have PV:=K0 0
      simp only [List.drop_nil,List.take_nil,List.append_nil] at h5 PV
      repeat' (first
       |(refine ab.op rfl (aa.aB rfl h1 (by exact⟨fc,ui,trivial⟩)) ?_;refine gq g5 ?_)
       |(refine ab.op rfl (aa.aB rfl h2 (by exact⟨fc,ui,trivial⟩)) ?_;refine gq g5 ?_)
       |(refine ab.op rfl (aa.aB rfl h3 (by exact⟨ui,fc,trivial⟩)) ?_;refine gq g5 ?_)
       |(refine ab.op rfl (aa.ea rfl h5 (by exact⟨fc,PV,trivial⟩) ⟨.refl _,Wk.agg ⟨Wk.nil,.refl _,.refl _,.refl _,.refl _,.refl _,.refl _,.refl _,trivial⟩,trivial⟩) ?_;refine gq g5 ?_)
       |(refine ab.op rfl (aa.aB rfl hA trivial) ?_;refine gq g5 ?_)
       |(refine bq (fun hb=>?_) (fun hb=>?_)<;>(try simp only [aJ] at hb)<;>(first|exact absurd hb (by decide)|refine gq g5 ?_))
       |(refine aS fun m hm=>?_;(try rw [aq] at hm);refine gq g5 ?_)
       |(refine cQ fun _ _=>?_;refine gq g5 ?_)
       |(refine xw fun _ _=>?_;refine gq g5 ?_)
       |(refine ab.str rfl (aa.cat rfl rfl (by assumption)) fun _ _=>?_;refine gq g5 ?_)
       |(refine ab.aK ?_;refine gq g5 ?_)
       |(refine ab.de ?_;refine gq g5 ?_)
       |(refine fq ?_))
      all_goals exact aT rfl)
end
end
end Go.Proofs.YtbofilglphfceaaGreat
