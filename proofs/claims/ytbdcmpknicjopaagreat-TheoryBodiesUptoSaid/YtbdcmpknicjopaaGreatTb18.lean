import Derived.RecoverIn
import Derived.TacticsIn
import Derived.TacticsInMore
import Derived.Test.YtbdcmpknicjopaaGreatProg
import Derived.Test.YtbdcmpknicjopaaGreatTb17
namespace Go.Proofs.YtbdcmpknicjopaaGreat
set_option linter.all false
set_option maxRecDepth 100000
open Go.RowKit Proofs.Tryz
variable{A:Nat->Prop}{E e:Int}{F:Fence}{K:List gE}{O:Hd}{P:Program}{Q:Exit->AA->ah->Prop}{R:Ending->World->Prop}{S S':ah}{U:AA}{Y w:World}{b0 m n:Nat}{bs jX:List QO}{c:QC}{cf:QF}{ex:Exit}{g:FuncId}{ps:List MemPlace}{q:QC×List QR}{qs:List QR}{sp:Nat->Bool}{v:Value}{zzH:Type}{enc:TypeId×Value->zzH}
variable{tmps:Array Value}{f:FuncId}{args:List AV}{l:List Tm}{d:Option Nat}
mutual def mT:Tm->Nat|⟨k,i,n,a⟩=>n.size+uG a+5def uG:List Tm->Nat|[]=>0|x::l=>mT x+uG l end
theorem ni:∀l,eV mT l=uG l|[]=>by rw[uG];rfl|x::l=>by rw[uG,eV,ni l]
theorem Qu{U:Type}:∀l:List U,eV (λ_=>1) l=l.length|[]=>rfl|x::l=>by rw[eV,Qu l,aC_];omega
def rJ(x:At):Nat:=x.n.size+uG x.a+3
def vj(x:Gl):Nat:=x.n.size+uG x.a+4
def ND(x:Im):Nat:=x.n.size+uG x.a+5
def NF(x:Bd):Nat:=mT x.t+2
def NG(x:Fi):Nat:=x.ids.length+3
def NH(x:Dc):Nat:=x.n.size+3
def E4(x:Rl):Nat:=x.n.size+eV rJ x.aQ+eV rJ x.rem+eV vj x.guard+eV vj x.body+7
def Ze(x:Pg):Nat:=eV NH x.ds+eV E4 x.rs+3
def Qv(x:cH):Nat:=eV vj x.goals+eV ND x.store+eV NF x.binds+eV NG x.a7+eV vj x.known+9
theorem ae7:∀n,bV prog n 58 4 mn mT:=by intro n;induction n with|zero=>intro zzH enc w sp held m g;omega|succ n l =>intro zzH enc w sp held m g A d B h;obtain⟨k,f,rfl,o,C,c⟩:=bV.fields underlying58 h;have p:=kO (xs:=f);rw[o]at p;let⟨q,b0,_,r⟩:=bV.part (i:=0) (n:=k+1) (bV.int underlying3) X (by kernel_rfl) X (c 0 3 0 rfl);let⟨s,E,_,t⟩:=bV.part (i:=1) (n:=k+1) (bV.int underlying3) X (by kernel_rfl) X (c 1 3 1 rfl);let⟨u,F,_,x⟩:=bV.part (i:=2) (n:=k+1) (bV.str underlying9) X (by kernel_rfl) X (c 2 9 2 rfl);let⟨y,G,_,z⟩:=bV.part (i:=3) (bV.slice underlying56 (by kernel_rfl) aC l) X (by kernel_rfl) X (c 3 56 3 rfl);refine⟨⟨q,s,u,y⟩,?_,by rw[qY (O:=.plain)];rfl,λj a v b e=>?_⟩;grind[mT,ni,nB];rw[qY (O:=.plain)]at b;match j with|0=>exact r 0 a v b e|1=>exact t 0 a v b e|2=>exact x 0 a v b e|3=>exact z 0 a v b e|j+4=>cases b
theorem ae8(n:Nat):bV prog n 56 1 (λl=>[tl .plain l]) λl=>uG l+1:=by have h:=(bV.slice underlying56 (by kernel_rfl) aC (ae7 n)).less (bI_ n);simp only[ni]at h;exact h
theorem US(n:Nat):bV prog n 33 1 (λl=>[aY .plain aR false l]) λl=>l.length+1:=by have h:=(bV.slice underlying33 (by kernel_rfl) aC (bV.int (n:=n) underlying3)).less (bI_ n);simp only[Qu]at h;exact h
theorem ae9(n:Nat):bV prog n 62 2 (atR .plain) rJ:=by intro zzH enc w sp held m s t d u h;obtain⟨k,c,rfl,g,x,e⟩:=bV.fields underlying62 h;have l:=kO (xs:=c);rw[g]at l;let⟨o,b0,_,p⟩:=bV.part (i:=0) (n:=k+1) (bV.str underlying9) X (by kernel_rfl) X (e 0 9 0 rfl);let⟨q,y,_,r⟩:=bV.part (i:=1) (n:=k+1) (ae8 (k+1)) X (by kernel_rfl) X (e 1 56 1 rfl);refine⟨⟨o,q⟩,?_,rfl,λj a v b f=>?_⟩;grind[nB,rJ];match j with|0=>exact p 0 a v b f|1=>exact r 0 a v b f|j+2=>cases b
theorem Zf(n:Nat):bV prog n 63 1 (λl=>[fI .plain l]) λl=>eV rJ l+1:=(bV.slice underlying63 (by kernel_rfl) aC (ae9 n)).less (bI_ n)
theorem ao3(n:Nat):bV prog n 65 3 (E2 .plain) vj:=by intro zzH enc w sp held m u x d y h;obtain⟨k,f,rfl,g,z,c⟩:=bV.fields underlying65 h;have l:=kO (xs:=f);rw[g]at l;let⟨o,b0,_,p⟩:=bV.part (i:=0) (n:=k+1) (bV.int underlying3) X (by kernel_rfl) X (c 0 3 0 rfl);let⟨q,A,_,r⟩:=bV.part (i:=1) (n:=k+1) (bV.str underlying9) X (by kernel_rfl) X (c 1 9 1 rfl);let⟨s,B,_,t⟩:=bV.part (i:=2) (n:=k+1) (ae8 (k+1)) X (by kernel_rfl) X (c 2 56 2 rfl);refine⟨⟨o,q,s⟩,?_,rfl,λj a v b e=>?_⟩;grind[nB,vj,rJ];match j with|0=>exact p 0 a v b e|1=>exact r 0 a v b e|2=>exact t 0 a v b e|j+3=>cases b
theorem KV(n:Nat):bV prog n 26 1 (λl=>[dJ .plain l]) λl=>eV vj l+1:=(bV.slice underlying26 (by kernel_rfl) aC (ao3 n)).less (bI_ n)
theorem ao4(n:Nat):bV prog n 75 3 (Zg .plain) ND:=by intro zzH enc w sp held m s t d u h;obtain⟨k,e,rfl,o,x,f⟩:=bV.fields underlying75 h;have p:=kO (xs:=e);rw[o]at p;let⟨q,b0,_,r⟩:=bV.part (i:=0) (n:=k+1) (bV.int underlying3) X (by kernel_rfl) X (f 0 3 0 rfl);let⟨g,y,_,l⟩:=bV.part (i:=1) (n:=k+1) (ae9 (k+1)) X (by kernel_rfl) X (f 1 62 1 rfl);refine⟨⟨q,g.n,g.a⟩,?_,rfl,λj a v b c=>?_⟩;grind[nB,ND,rJ];match j with|0=>exact r 0 a v b c|1=>exact l 0 a v b c|2=>exact l 1 a v b c|j+3=>cases b
theorem ajI(n:Nat):bV prog n 27 1 (λl=>[lj .plain l]) λl=>eV ND l+1:=(bV.slice underlying27 (by kernel_rfl) aC (ao4 n)).less (bI_ n)
theorem ao5(n:Nat):bV prog n 102 5 (bR .plain) NF:=by intro zzH enc w sp held m t u d x h;obtain⟨k,l,rfl,p,y,o⟩:=bV.fields underlying102 h;have q:=kO (xs:=l);rw[p]at q;let⟨r,b0,_,s⟩:=bV.part (i:=0) (n:=k+1) (bV.int underlying3) X (by kernel_rfl) X (o 0 3 0 rfl);let⟨g,z,_,c⟩:=bV.part (i:=1) (n:=k+1) (ae7 (k+1)) X (by kernel_rfl) X (o 1 58 1 rfl);refine⟨⟨r,g⟩,?_,rfl,λj a v b f=>?_⟩;grind[nB,NF,rJ];have e:mn g=ld .plain g:=qY g;rw[e]at c;match j with|0=>exact s 0 a v b f|1=>exact c 0 a v b f|2=>exact c 1 a v b f|3=>exact c 2 a v b f|4=>exact c 3 a v b f|j+5=>cases b
theorem ajJ(n:Nat):bV prog n 29 1 (λl=>[bf .plain l]) λl=>eV NF l+1:=(bV.slice underlying29 (by kernel_rfl) aC (ao5 n)).less (bI_ n)
theorem ao6(n:Nat):bV prog n 104 2 (IM .plain) NG:=by intro zzH enc w sp held m s t d u h;obtain⟨k,c,rfl,g,x,e⟩:=bV.fields underlying104 h;have l:=kO (xs:=c);rw[g]at l;let⟨o,b0,_,p⟩:=bV.part (i:=0) (n:=k+1) (bV.int underlying3) X (by kernel_rfl) X (e 0 3 0 rfl);let⟨q,y,_,r⟩:=bV.part (i:=1) (n:=k+1) (US (k+1)) X (by kernel_rfl) X (e 1 33 1 rfl);refine⟨⟨o,q⟩,?_,rfl,λj a v b f=>?_⟩;grind[nB,NG,rJ];match j with|0=>exact p 0 a v b f|1=>exact r 0 a v b f|j+2=>cases b
theorem ajK(n:Nat):bV prog n 30 1 (λl=>[kJ .plain l]) λl=>eV NG l+1:=(bV.slice underlying30 (by kernel_rfl) aC (ao6 n)).less (bI_ n)
theorem ao7(n:Nat):bV prog n 60 2 YH NH:=by intro zzH enc w sp held m s t d u h;obtain⟨k,c,rfl,g,x,e⟩:=bV.fields underlying60 h;have l:=kO (xs:=c);rw[g]at l;let⟨o,b0,_,p⟩:=bV.part (i:=0) (n:=k+1) (bV.str underlying9) X (by kernel_rfl) X (e 0 9 0 rfl);let⟨q,y,_,r⟩:=bV.part (i:=1) (n:=k+1) (bV.int underlying3) X (by kernel_rfl) X (e 1 3 1 rfl);refine⟨⟨o,q⟩,?_,rfl,λj a v b f=>?_⟩;grind[nB,NH,rJ];match j with|0=>exact p 0 a v b f|1=>exact r 0 a v b f|j+2=>cases b
theorem ajL(n:Nat):bV prog n 22 1 (λl=>[h_ .plain l]) λl=>eV NH l+1:=(bV.slice underlying22 (by kernel_rfl) aC (ao7 n)).less (bI_ n)
theorem ao8(n:Nat):bV prog n 67 6 (lY .plain) E4:=by intro zzH enc w sp held m C E d F h;obtain⟨k,f,rfl,g,G,c⟩:=bV.fields underlying67 h;have l:=kO (xs:=f);rw[g]at l;let⟨o,b0,_,p⟩:=bV.part (i:=0) (n:=k+1) (bV.str underlying9) X (by kernel_rfl) X (c 0 9 0 rfl);let⟨q,J,_,r⟩:=bV.part (i:=1) (n:=k+1) (Zf (k+1)) X (by kernel_rfl) X (c 1 63 1 rfl);let⟨s,K,_,t⟩:=bV.part (i:=2) (n:=k+1) (Zf (k+1)) X (by kernel_rfl) X (c 2 63 2 rfl);let⟨u,L,_,x⟩:=bV.part (i:=3) (n:=k+1) (KV (k+1)) X (by kernel_rfl) X (c 3 26 3 rfl);let⟨y,M,_,z⟩:=bV.part (i:=4) (n:=k+1) (KV (k+1)) X (by kernel_rfl) X (c 4 26 4 rfl);let⟨A,N,_,B⟩:=bV.part (i:=5) (n:=k+1) (bV.int underlying3) X (by kernel_rfl) X (c 5 3 5 rfl);refine⟨⟨o,q,s,u,y,A⟩,?_,rfl,λj a v b e=>?_⟩;grind[nB,E4,rJ];match j with|0=>exact p 0 a v b e|1=>exact r 0 a v b e|2=>exact t 0 a v b e|3=>exact x 0 a v b e|4=>exact z 0 a v b e|5=>exact B 0 a v b e|j+6=>cases b
theorem ajM(n:Nat):bV prog n 23 1 (λl=>[UT .plain l]) λl=>eV E4 l+1:=(bV.slice underlying23 (by kernel_rfl) aC (ao8 n)).less (bI_ n)
theorem ao9(n:Nat):bV prog n 25 2 (ju .plain) Ze:=by intro zzH enc w sp held m s t d u h;obtain⟨k,c,rfl,g,x,e⟩:=bV.fields underlying25 h;have l:=kO (xs:=c);rw[g]at l;let⟨o,b0,_,p⟩:=bV.part (i:=0) (n:=k+1) (ajL (k+1)) X (by kernel_rfl) X (e 0 22 0 rfl);let⟨q,y,_,r⟩:=bV.part (i:=1) (n:=k+1) (ajM (k+1)) X (by kernel_rfl) X (e 1 23 1 rfl);refine⟨⟨o,q⟩,?_,rfl,λj a v b f=>?_⟩;grind[nB,Ze,rJ];match j with|0=>exact p 0 a v b f|1=>exact r 0 a v b f|j+2=>cases b
theorem ajN(n:Nat):bV prog n 32 8 (po .plain) Qv:=by intro zzH enc w sp held m K L d M h;obtain⟨k,f,rfl,l,o,c⟩:=bV.fields underlying32 h;have g:=kO (xs:=f);rw[l]at g;let⟨p,b0,_,q⟩:=bV.part (i:=0) (n:=k+1) (KV (k+1)) X (by kernel_rfl) X (c 0 26 0 rfl);let⟨r,N,_,s⟩:=bV.part (i:=1) (n:=k+1) (ajI (k+1)) X (by kernel_rfl) X (c 1 27 1 rfl);let⟨t,P,_,u⟩:=bV.part (i:=2) (n:=k+1) (ajJ (k+1)) X (by kernel_rfl) X (c 2 29 2 rfl);let⟨x,Q,_,y⟩:=bV.part (i:=3) (n:=k+1) (ajK (k+1)) X (by kernel_rfl) X (c 3 30 3 rfl);let⟨z,R,_,A⟩:=bV.part (i:=4) (n:=k+1) (KV (k+1)) X (by kernel_rfl) X (c 4 26 4 rfl);let⟨B,S,_,C⟩:=bV.part (i:=5) (n:=k+1) (bV.int underlying3) X (by kernel_rfl) X (c 5 3 5 rfl);let⟨E,T,_,F⟩:=bV.part (i:=6) (n:=k+1) (bV.int underlying3) X (by kernel_rfl) X (c 6 3 6 rfl);let⟨G,V,_,J⟩:=bV.part (i:=7) (n:=k+1) (bV.bool underlying4) X (by kernel_rfl) X (c 7 4 7 rfl);refine⟨⟨p,r,t,x,z,B,E,G⟩,?_,rfl,λj a v b e=>?_⟩;rw[o,<-g];simp only[bv_,aC_,bg_,nB,Nat.reduceAdd,Qv,rJ]at*;omega;match j with|0=>exact q 0 a v b e|1=>exact s 0 a v b e|2=>exact u 0 a v b e|3=>exact y 0 a v b e|4=>exact A 0 a v b e|5=>exact C 0 a v b e|6=>exact F 0 a v b e|7=>exact J 0 a v b e|j+8=>cases b
theorem DY{P:Program}{r:Reach}{b0:Nat}{t:TypeId}{v:Value}{fs:Array Field}(a:P.underlying t=some (.struct fs))(h:Value.okWide P w r b0 t v):∃cs,v=.agg cs/\cs.size=P.cellsOf t:=by unfold Value.okWide at h;rw[a]at h;let⟨cs,e,b,_⟩:=h;exact⟨cs,e,b⟩
section
variable{r:Reach}{held:Bool}{d:DataW zzH}
theorem ajO(b:Value.okWide prog w r b0 25 v)(h:DataW.Trod enc prog w 0 sp held 25 v d ps):∃x:Pg,Ze x<=Rows.uptoBulk d/\aN (g0 w) w (pg .plain x) v:=by let⟨fuel,c⟩:=h;obtain⟨e,rfl,f⟩:=DY underlying25 b;have g:e.size=2:=f.trans (by kernel_rfl);let⟨x,j,_,k⟩:=ao9 (fuel+1) zzH enc w sp held fuel X _ _ (by rw[bm_];exact g) c;refine⟨x,j,.agg I λi a y l m=>k i a y l ?_⟩;rw[<-m];exact bf_
theorem ahc(b:Value.okWide prog w r b0 32 v)(h:DataW.Trod enc prog w 0 sp held 32 v d ps):∃x:cH,Qv x<=Rows.uptoBulk d/\aN (g0 w) w (oN .plain x) v:=by let⟨fuel,c⟩:=h;obtain⟨e,rfl,f⟩:=DY underlying32 b;have g:e.size=8:=f.trans (by kernel_rfl);let⟨x,j,_,k⟩:=ajN (fuel+1) zzH enc w sp held fuel X _ _ (by rw[bm_];exact g) c;refine⟨x,j,.agg I λi a y l m=>k i a y l ?_⟩;rw[<-m];exact bf_
end
section
attribute [local irreducible] ao aF D H
def atZ:=aD func90 call90
def g90:List Nat:=[0,5,1]
def WC(e:Int):Value:=.iface 212 (.agg #[.int .i64 e])
def sA(e:Int):List PanicEntry:=[{v:=WC e,recovered:=false }]
theorem ajP(b:Bool)(e:Int):OX prog Y 90 [.v (.bool b),iv e] b (.aJ []) (sA e):=by refine qz.afa atZ.2 (by simp[ntmps90]) (.aJ λa c=>I) ?_;cases b;refine Z g90 ?_;refine og g90 (D.Qw rfl (by kernel_rfl)) ?_;refine H.IS rfl (zY.IS rfl) ?_;refine Z g90 ?_;exact H.ajQ rfl ⟨rfl,rfl⟩;refine Z g90 ?_;exact H.ajR rfl (by conv=>lhs;cbv) ⟨rfl,aH.of_eq rfl⟩
def DZ(Y:World)(f:FuncId)(args:List AV)(E:Int):Prop:=OX prog Y f args (decide (E=0)) (.aJ []) (sA E)
section
variable{rd:Bool}{l:List QI}{r:AV}
theorem OY(F:qz prog f q n)(b:args.length<=n)(h:H prog Y false n (Ge q.2 (λc S=>decide (E=0)=true/\aH S c (.aJ [])) λd S=>decide (E=0)=false/\d=sA E) (.run q.1 []) ⟨qc args,[]⟩ ah.none_):DZ Y f args E :=qz.afa F b (.aJ λa e=>I) h
def JN(a:OZ ex=true)(h:Mu qs ex U S=some (.aJ [],S'))(k:E=0):H prog Y rd n (Ge qs (λb S=>decide (E=0)=true/\aH S b (.aJ [])) λc S=>decide (E=0)=false/\c=sA E) (.out ex []) U S :=H.ajR a h ⟨decide_eq_true k,.refl _⟩
theorem sY(a:U.df=[])(d:decide (e=0)=false)(k:E=e):H prog Y rd n (Ge qs (λb S=>decide (E=0)=true/\aH S b (.aJ [])) λc S=>decide (E=0)=false/\c=sA E) (.out (.panic (sA e)) []) U S :=H.ajQ a ⟨I,by rw[k]⟩
theorem H.vk{b:Bool}{gd:Option (Nat×Bool)}{f:QO}(c:bD U.tm gd=some true)(h:fp (f.ev U.tm) (jX.map (·.ev U.tm))=some (90,[.v (.bool b),.v (.int .i64 e)]))(g:b=true->H prog Y rd n Q (.bk false l K) (bW d U (.aJ [])) S)(i:b=false->H prog Y rd n Q (.out (.panic (sA e)) K) U S):H prog Y rd n Q (.bk false (⟨d,gd,.call f jX⟩::l) K) U S :=H.afb c h (ajP b e) ⟨.v,.v,trivial⟩ (.aJ λa j=>I) (iW.refl _ _) g i
theorem H.vl{gd:Option (Nat×Bool)}{f:QO}(b:bD U.tm gd=some true)(h:fp (f.ev U.tm) (jX.map (·.ev U.tm))=some (g,args))(c:DZ Y g args E)(e:iU args)(i:E=0->H prog Y rd n Q (.bk false l K) (bW d U (.aJ [])) S)(j:¬E=0->H prog Y rd n Q (.out (.panic (sA E)) K) U S):H prog Y rd n Q (.bk false (⟨d,gd,.call f jX⟩::l) K) U S :=H.afb b h c e (.aJ λa k=>I) (iW.refl _ _) (λh=>i (of_decide_eq_true h)) λh=>j (of_decide_eq_false h)
end
def ao_:=aD func162 call162
def ajS:List Nat:=[0,2]
def apa:=aD func228 call228
def ajT:List Nat:=[3,0,2,1]
def apb:=aD func160 call160
def WD:List Nat:=[0,4,1,6,2]
def apc:=aD func161 call161
def ye:List Nat:=[8,5,1,7,9,6,14,0]
def nC(o:Int):Bool:=decide (5<=o)&&decide (o<=12)
def named(n:ByteArray)(d:Dc):Bool:=d.n.toList==n.toList
def sB(ds:List Dc)(n:ByteArray)(a:Int):Int:=if ds.any (named n) then if jh ds n a then 0 else 9 else 7
def vl(ds:List Dc)(g:Gl):Int:=if g.op=0 then sB ds g.n g.a.length else 0
def bw(e k:Int):Int:=if e=0 then k else e
theorem bZ{k:Int}(h:e=0):bw e k=k:=by rw[bw,if_pos h]
theorem eD{k:Int}(h:¬e=0):bw e k=e:=by rw[bw,if_neg h]
def lZ(ds:List Dc):List Gl->Int|[]=>0|g::l=>bw (vl ds g) (lZ ds l)
theorem Zh(o:Int):ab Y 162 [iv o] (.v (.bool (nC o))):=by
 refine st ao_ ajS .v ?_;repeat' first|refine cg ajS (λa=>?_) λa=>?_|refine fq ?_
 all_goals subst_vars;refine aL ?_;rw[nC,bG_];simp;omega
theorem ahd(d:Dc)(n:ByteArray):ab Y 228 [dc d,.ip [.v (.string n)]] (.v (.bool (named n d))):=by
 let⟨dn,b⟩:=d;refine st apa ajT .v ?_;repeat' first|refine cg ajT (λa=>?_) λa=>?_|refine fq ?_
 all_goals subst_vars;refine aL ?_;unfold named;simp_all
theorem UU(ds:List Dc)(n:ByteArray)(a:Int)(g:ds.length<=1099511627776):DZ Y 160 [h_ O ds,.v (.string n),iv a] (sB ds n a):=by
 have h:Pure (.fn (.func 228) [] [.ip [.v (.string n)]]):=.fn (λa d=>by cases d) λa d=>by cases ak_.1 d;exact .ip λb c=>by cases ak_.1 c;exact .v
 have i:=ai_ (Y:=Y) (O:=O) (named n) ds _ [] _ g h λx _=>⟨_,_,rfl,⟨Me x,.ip λb c=>by cases ak_.1 c;exact .v,trivial⟩,ahd x n⟩;have j:=DL (Y:=Y) (O:=O) ds n a g;unfold sB;let⟨l,e⟩:=aq (ds.any (named n));let⟨m,f⟩:=aq (jh ds n a);rw[<-e]at i;rw[<-f]at j;rw[<-e,<-f];clear e f;refine OY apb.2 (by simp[ntmps160]) ?_;refine Z WD ?_;repeat' first|refine og WD (D.tI rfl i ⟨eN _,h,trivial⟩ .v ⟨.refl _,aH.fns trivial ⟨aH.box (cs:=[.v (.string n)]) (cs':=[.v (.string n)]) rfl ⟨.refl _,trivial⟩,trivial⟩,trivial⟩) ?_|refine og WD (D.bM rfl j ⟨eN _,.v,.v,trivial⟩) ?_|refine H.vk rfl rfl (λc=>?_) λc=>?_<;>(try simp only[bY]at c)<;>(first|refine Z WD ?_)|refine JN rfl (by conv=>lhs;cbv) ?_|refine sY rfl (by first|rfl) ?_
 all_goals subst_vars;simp
theorem UW(ds:List Dc)(l:List Gl)(u:ds.length<=1099511627776)(F:l.length<=1099511627776)(v:∀g∈l,g.a.length<=1099511627776):DZ Y 161 [h_ O ds,dJ O l] (lZ ds l):=by
 let⟨R,d⟩:=aq (lZ ds l);rw[<-d];refine OY apc.2 (by simp[ntmps161]) ?_;refine Z ye ?_;repeat' first|refine lg ye λm p=>?_
 refine bE 0 0 [] (λi=>[(0,h_ O ds),(6,dJ O l),(7,.v (.int .i64 m)),(8,.v (.int .i64 i))]) [] (λ_=>[]) l.length (λk=>R=lZ ds (l.drop k)) (by simpa using d) λi k w G b=>?_;clear d;refine Z ye ?_;by_cases y:k<l.length
 ·let⟨x,r,z⟩:=aA y;rw[z,lZ]at b;have A:=v x (am_ r);let⟨o,n,a⟩:=x;dsimp only at A;have f:=UU (Y:=Y) (O:=O) ds n a.length u;have c:vl ds ⟨o,n,a⟩=if o=0 then sB ds n a.length else 0:=rfl;let⟨h,s⟩:=aq (sB ds n a.length);rw[<-s]at c f;let⟨C,t⟩:=aq (vl ds ⟨o,n,a⟩);rw[<-t]at c b;let⟨q,B⟩:∃q:Int,q=a.length:=⟨_,rfl⟩;rw[<-B]at f;clear s t;repeat' first|refine og ye (D.bh w r) ?_|refine H.int rfl (D.len rfl) λm p=>?_;rw[az]at p;cases(X:m=q);refine Z ye ?_|refine H.vl rfl rfl f (by repeat' first|exact trivial|refine⟨?_,?_⟩;first|exact .v|exact eN _) (λE=>?_) λE=>?_<;>refine Z ye ?_|refine H.DJ ?_;refine Z ye ?_|refine JN rfl (by conv=>lhs;cbv) ?_|refine sY rfl (by first|exact decide_eq_false (by assumption)) ?_|refine cg ye (λj=>?_) λj=>?_|refine ag ye λ_ _=>?_|refine xG ye ?_
  all_goals first
   |omega
   |(have e:C=0:=by rw[c];simp_all
     rw[bZ e]at b;exact cw _ [] (k+1) b)
   |(have e:C=h:=by rw[c];simp_all
     rw[eD X]at b;rw[b,e])
 ·skip;repeat' first|refine JN rfl (by conv=>lhs;cbv) ?_|refine cg ye (λj=>?_) λj=>?_|refine xG ye ?_
  all_goals first|omega|rw[b,al_ X];rfl
def apd:=aD func133 call133
def ajU:List Nat:=[3,0,1]
def at0:=aD func68 call68
def g68:List Nat:=[3,2,4,0,1]
def ajV:=aD func66 call66
def tq:List Nat:=[3,0,43,5,4,1,18,39,42,44,41,7,9,58]
def xB(O:Hd)(p:Pg)(s:cH):List AV:=[h_ O p.ds,UT O p.rs,dJ O s.goals,lj O s.store,bf O s.binds,kJ O s.a7,dJ O s.known,iv s.next,iv s.fresh,.v (.bool s.failed)]
def D0(s:cH)(x:Bd):Bool:=decide (x.v<s.fresh) &&!(varsOf [x.t]).any λv=>decide (s.fresh<=v)
def A9(p:Pg)(s:cH)(x:Fi):Bool:=match p.rs[x.tV.toNat]? with|none=>false|some r=>r.rem.isEmpty&&decide (x.ids.length=r.aQ.length)&&x.ids.all λid=>(jl s.store id).2
theorem JO(p:Pg)(s:cH):∀a∈xB O p s,Pure a:=by intro a b;simp only[xB,ae_,aw_,or_false]at b;rcases b with rfl|rfl|rfl|rfl|rfl|rfl|rfl|rfl|rfl|rfl;exact eN _;exact qd _;exact a6 _;exact dH _;exact bC _;exact eu _;exact a6 _;exact .v;exact .v;exact .v
theorem ahe(p:Pg)(s:cH)(v:Int):ab Y 133 [iv v,.ip [.ip (xB O p s)]] (.v (.bool (decide (s.fresh<=v)))):=by
 let⟨b,c⟩:=p;let⟨goals,store,d,e,f,next,fresh,failed⟩:=s;dsimp only;refine st apd ajU .v ?_;repeat' first|refine cg ajU (λa=>?_) λa=>?_|refine fq ?_
 all_goals first|exact aL (decide_eq_true X).symm|exact aL (decide_eq_false X).symm
theorem ajW(p:Pg)(s:cH)(x:Bd)(d:x.ok):ab Y 68 [.ip (xB O p s),bd O x] (.v (.bool (D0 s x))):=by
 have C:Pure (.ip (xB O p s)):=.ip (JO p s);have h:Pure (.fn (.func 133) [] [.ip [.ip (xB O p s)]]):=.fn (λa i=>I) λa i=>by cases ak_.1 i;exact .ip λb e=>I
 have c:(aZ [x.t]).length<=1099511627776:=by rw[aZ,aZ,aG_];exact az_ (pZ _) d.2
 have j:=YW (Y:=Y) (O:=O) x.t d.1 (by first|exact az_ (pZ _) d.2);have k:(varsOf [x.t]).length<=1099511627776:=az_ (lW _ _) c;have f:=ai9 (Y:=Y) (O:=O) (λv=>decide (s.fresh<=v)) (varsOf [x.t]) _ [] _ k h λv _=>⟨_,_,rfl,⟨.v,.ip λb e=>I,trivial⟩,ahe p s v⟩;unfold D0;let⟨B,l⟩:=aq ((varsOf [x.t]).any λv=>decide (s.fresh<=v));rw[<-l]at f⊢;let⟨E,m⟩:=aq (varsOf [x.t]);rw[<-m]at j f;clear l m c k;let⟨n,o⟩:=p;let⟨goals,store,q,r,t,next,fresh,failed⟩:=s;let⟨g,u,w,y,z⟩:=x;dsimp only;refine st at0 g68 .v ?_;repeat' first|refine og g68 (D.bM rfl j ⟨bI (O:=O) ⟨u,w,y,z⟩,trivial⟩) ?_|refine bg g68 (D.tI rfl f ⟨bJ _,h,trivial⟩ .v ⟨.refl _,aH.fns trivial ⟨aH.box (cs:=[.ip (xB O ⟨n,o⟩ ⟨goals,store,q,r,t,next,fresh,failed⟩)]) (cs':=[.ip (xB O ⟨n,o⟩ ⟨goals,store,q,r,t,next,fresh,failed⟩)]) rfl ⟨.refl _,trivial⟩,trivial⟩,trivial⟩) (λ_=>?_) λ_=>?_|refine cg g68 (λe=>?_) λe=>?_|refine fq ?_
 all_goals first|refine aL ?_;rw[decide_eq_false (show¬g<fresh by omega)];rfl|refine aL ?_;rw[decide_eq_true (show g<fresh by omega),show B=true by grind];rfl|refine aL ?_;rw[decide_eq_true (show g<fresh by omega),show B=false by grind];rfl
theorem ajX(p:Pg)(s:cH)(x:Fi)(h0:0<=x.tV)(hi:x.ids.length<=1099511627776)(A:p.rs.length<=1099511627776)(g:∀r∈p.rs,r.aQ.length<=1099511627776/\r.rem.length<=1099511627776)(hs:s.store.length<=1099511627776):ab Y 66 [.ip (xB O p s),fi O x] (.v (.bool (A9 p s x))):=by have Q:Pure (.ip (xB O p s)):=.ip (JO p s);let⟨R,a⟩:=aq (A9 p s x);rw[<-a];unfold A9 at a;let⟨B,j⟩:=p;let⟨goals,store,C,E,F,next,fresh,failed⟩:=s;let⟨u,b⟩:=x;dsimp only at a h0 hi A g hs;cases e:j[u.toNat]? with
 |none =>
  rw[e]at a;dsimp only at a;have G:=dS_.1 e;refine st ajV tq .v ?_;repeat' first|refine cg tq (λc=>?_) λc=>?_|refine lg tq λm J=>?_|refine fq ?_
  all_goals first|omega|rw[a];exact aL rfl
 |some r =>
  rw[e]at a;have v:=(aA_.1 e).1;have n:=Uz (Y:=Y) (O:=O) r (g r (am_ e)).2;have K:=(g r (am_ e)).1;have L:=jr (O:=O) r;let⟨rn,f,o,rg,S,rv⟩:=r;dsimp only at a n K;let⟨w,t⟩:=aq o.isEmpty;rw[<-t]at a n;refine st ajV tq .v ?_;repeat' first|refine bg tq (D.bM rfl n ⟨L,trivial⟩) (λ_=>?_) λ_=>?_|refine H.eM rfl (λT=>D.ind rfl rfl (eZ (l:=j) (k:=u.toNat) X e) (ec λ_=>rfl)) ?_;refine Z tq ?_|refine cg tq (λc=>?_) λc=>?_|refine lg tq λm J=>?_|refine fq ?_
  all_goals first|omega|rw[a,show w=false by grind];exact aL rfl|rw[a,decide_eq_false (show¬b.length=f.length by omega)];refine aL ?_;simp;done|skip
  rw[show w=true by grind,decide_eq_true (show b.length=f.length by omega),ay_,ay_]at a;refine bE 3 3 [] (λi=>[(0,.ip (xB O ⟨B,j⟩ ⟨goals,store,C,E,F,next,fresh,failed⟩)),(41,aY O aR false b),(42,.v (.int .i64 m)),(43,.v (.int .i64 i))]) [] (λ_=>[]) b.length (λk=>R=(b.drop k).all λid=>(jl store id).2) I λi k hi g d=>?_;clear a;refine Z tq ?_;by_cases v:k<b.length
  ·let⟨y,z,M⟩:=aA v;rw[M,aJ_]at d;have h:=ajl (Y:=Y) (O:=O) store y hs;let⟨⟨⟨V,W⟩,N⟩,P⟩:∃q,q=jl store y:=⟨_,rfl⟩;rw[<-P]at d h;dsimp only at d h;cases N
   ·skip;repeat' first|refine og tq (D.bh hi z) ?_|refine og tq (D.bM rfl h ⟨dH _,.v,trivial⟩) ?_|refine cg tq (λc=>?_) λc=>?_|refine xG tq ?_|refine rG tq ?_|refine fq ?_
    all_goals first|omega|rw[d];exact aL rfl
   ·skip;repeat' first|refine og tq (D.bh hi z) ?_|refine og tq (D.bM rfl h ⟨dH _,.v,trivial⟩) ?_|refine cg tq (λc=>?_) λc=>?_|refine ag tq λ_ _=>?_|refine xG tq ?_|refine fq ?_
    all_goals first|omega|rw[ay_]at d;exact cw _ [] (k+1) d
  ·rw[al_ X,bk_]at d;repeat' first|refine cg tq (λc=>?_) λc=>?_|refine xG tq ?_|refine fq ?_
   all_goals first|omega|rw[d];exact aL rfl
end
section
variable{r:AV}
def WE(P:Program)(t:Target):Prop:=∃(fI:Array TypeId) (b:TypeId) (c:Array Bool) (mt a d:TypeId) (e:IntKind),t=.builtin .delete fI b c/\fI[0]?=some mt/\P.underlying mt=some (.map a d)/\P.underlying a=some (.int e)
theorem Zj{g:Gh}{t:Target}{k:Nat}{es:List (Value×AV)}{m:Int}(r:St Y A g S w)(Q:WE P t)(s:S.get k=some (.mp es))(hi:qP es)(u:g.al k):∃w',(invoke t #[.map (some (g.ob k)),.int .i64 m]).run P w=.ok (.value (.tuple #[])) w'/\St Y A g (S.set k (some (.mp (Mw es m)))) w'/\Ext A g w g w':=by obtain⟨fI,T,V,mt,v,W,G,rfl,J,K,x⟩:=Q;let⟨_,_,entries,clock,p,y,h⟩:=r.cY k _ s u;have l:=F8 y h hi (kk:=G) m;have n:∀b,(Instr.checkKey b 10000 v (.int .i64 m)).run P w=.ok () w:=λb=>run_checkKey x b m;unfold Mw;cases z:nu es m with|none =>rw[z]at l;let⟨w',q1,B,C⟩:=r.FM (P:=P) s u p (entries':=entries) (clock':=clock) (es':=es) y h;refine⟨w',?_,B,C⟩;have F:(Instr.findKey v (.int .i64 m) entries.toList).run P w=.ok none w:=run_findKey x l;simp[invoke,builtin,Builtin.delete_,J,Sem.run_bind,run_underlying K,iV p,n,F,q1]|some j =>
  let⟨a,R⟩:=zh hi z;let⟨e,L,r2,r3⟩:=h j _ a R;rw[z]at l;simp only[L,aK_]at l;have M:j<entries.size:=(cA_.1 L).1;have o:entries.eraseIdxIfInBounds j=entries.eraseIdx j M:=by simp[Array.eraseIdxIfInBounds,M]
  let⟨w',q1,B,C⟩:=r.FM (P:=P) s u p (entries':=entries.eraseIdxIfInBounds j) (clock':=clock) (es':=es.eraseIdx j) (by rw[o,Array.size_eraseIdx,List.length_eraseIdx,if_pos X,y]) (λi key N q=>by rw[List.getElem?_eraseIdx]at q;rw[o,Array.getElem?_eraseIdx];split at q;rename_i c;rw[if_pos c];exact h i key N q;rename_i c;rw[if_neg c];exact h (i+1) key N q);refine⟨w',?_,B,C⟩;have F:(Instr.findKey v (.int .i64 m) entries.toList).run P w=.ok (some (j,e.val)) w:=run_findKey x l;simp[invoke,builtin,Builtin.delete_,J,Sem.run_bind,run_underlying K,iV p,n,F,q1]
theorem TU{fr:Frame}{cs:List Frame}{w':World}{d:Deferred}{ds:List Deferred}{b:Builtin}{fI:Array TypeId}{ty:TypeId}{c:Array Bool}{v:Value}(h:fr.mode≠.run)(f:fr.defers=d::ds)(g:d.target=.builtin b fI ty c)(hi:(invoke d.target d.args).run P w=.ok (.value v) w'):step P (lone fr cs w)=.next (lone {fr with defers:=ds } cs w'):=by let⟨t,a⟩:=d;simp only at g hi;subst g;refine step_lone_go ?_;cases e:fr.mode with|run=>exact absurd e h|returning=>simp[stepG,unwind,callDeferred,e,f,Sem.runT_eq,hi,GStep.bare_after]|panicking chain=>simp[stepG,unwind,callDeferred,e,f,Sem.runT_eq,hi,GStep.bare_after]
def CJ(F:Fence)(n:Nat)(P:Program)(fn:Func)(tmps:Array Value)(R:Ending->World->Prop):List Deferred->World->Prop|[],w=>LeavesIn F n P fn tmps R [] .returning w|d::c,w=>∃a,((∃r,d.target=.collected r/\(Instr.takeDeferred r).run P w=.ok [] a)\/∃b fI e f v,d.target=.builtin b fI e f/\(invoke d.target d.args).run P w=.ok (.value v) a)/\CJ F n P fn tmps R c a
theorem E6{n:Nat}{fn:Func}:∀(ds:List Deferred)(w:World)(fr:Frame)(cs:List Frame),fr.mode=.returning->fr.defers=ds->fr.tmps=tmps->P.funcs[fr.fn]?=some fn->fr.kind=.normal->F.fn fr.fn->F.room (cs.length+1+n) ->CJ F n P fn tmps R ds w->∃e w' a,R e w'/\ComesIn (Machine.fenced P F) P (lone fr cs w) (lone a cs w') e/\a.fn=fr.fn/\a.leaving P w' e:=by intro ds;induction ds with|nil=>exactλw fr cs m f o p q i j h=>leaves_stepsIn [] .returning w fr cs m f o p q i j h|cons d ds G =>intro w fr cs m f o p q i j h;let⟨w',h,J⟩:=h;have s:fr.mode≠.run:=I;rcases h with⟨r,k,u⟩|⟨b,fI,K,t,v,k,hinv⟩;have x:=step_collected (cs:=cs) s f k u;have y:(lone fr cs w).fenced P F:=fenced_out i j s f (λg l=>by rw[k]at l;simp[Target.leads]at l);let⟨z,A,a,B,C,c,E⟩:=G w' {fr with defers:=[]++ds } cs m rfl o p q i j J;exact⟨z,A,a,B,ComesIn.of_steps (.one y x) C,c,E⟩;have x:=TU (cs:=cs) s f k hinv;have y:(lone fr cs w).fenced P F:=fenced_out i j s f (λg l=>by rw[k]at l;simp[Target.leads]at l);let⟨z,A,a,B,C,c,E⟩:=G w' {fr with defers:=ds } cs m rfl o p q i j J;exact⟨z,A,a,B,ComesIn.of_steps (.one y x) C,c,E⟩
def Zl(F:Fence)(n:Nat)(P:Program)(fn:Func)(R:Ending->World->Prop):Exit->Act->World->Prop|.normal,a,w|.ret,a,w=>CJ F n P fn a.tmps R a.defers w|_,_,_=>False
theorem zs9{n:Nat}{fn:Func}{c:Code}{args:Array Value}(j:P.funcs[f]?=some fn)(y:fn.body=some c)(d:F.fn f)(h:c.wpIn F n P (Zl F n P fn R) {tmps:=args++Array.replicate (fn.ntmps-args.size) undef,defers:=[] } w)(z:F.round=none:=by rfl):CallsIn F n P f args w R:=by
 refine⟨d,λk i=>?_⟩;let b:Frame:={ (default:Frame) with fn:=f,kind:=.normal,roundOf:=none };have A:Frame.enter P f args .normal =b.atR {tmps:=args++Array.replicate (fn.ntmps-args.size) undef,defers:=[] } [.code c]:=by simp[Frame.enter,Frame.atR,j,y,b]
 let⟨e,g,x,a,m⟩:=h b [] k z.symm d i;rw[<-A]at m;cases e with|normal =>let⟨o,p,q,r,s,t,u⟩:=E6 g.defers x {b.atR g [] with mode:=.returning } k rfl rfl rfl j rfl d i a;exact⟨o,p,q,r,ComesIn.of_steps (StepsIn.trans m (.one (fenced_calm (fr:=b.atR g []) d i rfl) (stepR_end rfl))) s,t,u⟩|ret =>let⟨todo,v⟩:=m.1 rfl;let⟨o,p,q,r,s,t,u⟩:=E6 g.defers x {b.atR g todo with mode:=.returning } k rfl rfl rfl j rfl d i a;exact⟨o,p,q,r,ComesIn.of_steps v s,t,u⟩|panic chain=>exact a.elim|exit id=>exact a.elim|goto l=>exact a.elim|outgrown=>exact a.elim
inductive CK(P:Program):ah->List DE->ah->Prop|nil {S:ah}:CK P S [] S|ob {S S':ah}{k:Nat}{ks:List DE}(hk:S.get k=some .df) (h:CK P (S.set k none) ks S'):CK P S (.ob k::ks) S'|del {S S':ah}{t:Target}{k:Nat}{i:Int}{ks:List DE}{es:List (Value×AV)}(ht:WE P t) (hk:S.get k=some (.mp es)) (he:qP es) (h:CK P (S.set k (some (.mp (Mw es i)))) ks S'):CK P S (.del t k i::ks) S'
theorem Zm{m:Nat}{fn:Func}{ks:List DE}{S S':ah}(s:CK P S ks S'):∀{g:Gh}{w:World},St Y A g S w->(∀d∈ks,g.al d.k) ->(∀w',St Y A g S' w'->Ext A g w g w'->∃v,(results fn tmps).run P w'=.ok v w'/\R (.returned v) w')->CJ F m P fn tmps R (ks.map (Px g.ob)) w:=by induction s with|nil=>exactλa _ h=>h _ a (Ext.refl ..)|ob c _ e =>intro g w a b h;let⟨w',f,j,l⟩:=a.take (P:=P) c (b _ (.head _));exact⟨w',.inl ⟨_,rfl,f⟩,e l (λd n=>b d (.tail _ n)) λo p q=>h o p (j.trans q)⟩|@del S S' t k i ks x r c u _ e =>intro g w a b h;let⟨w',f,j,l⟩:=Zj (m:=i) a r c u (b _ (.head _));obtain⟨fI,y,z,mt,B,C,E,rfl,_⟩:=r;exact⟨w',.inr ⟨_,_,_,_,_,rfl,f⟩,e j (λd n=>b d (.tail _ n)) λo p q=>h o p (l.trans q)⟩
def acm(P:Program)(qs:List QR)(R:AV->ah->Prop)(ex:Exit)(U:AA)(S:ah):Prop :=OZ ex=true/\∃S' r,CK P S U.df S'/\(match yX U.tm S' qs with|some [a]=>some a|some l=>some (.aJ l)|none=>none)=some r/\R r S'
theorem qz.at1{R:AV->ah->Prop}(F:qz P f q n)(u:args.length<=n)(h:H P Y false n (acm P q.2 R) (.run q.1 []) ⟨qc args,[]⟩ S):∃r S',aF P Y f args S r S'/\R r S':=by
 let⟨fn,c,x,y,z,hr,B,C,E⟩:=F.out;let⟨ex,G,S1,J,K,S',r,L,cQ,M⟩:=h c B C;have i:Gg P fn.results G S'=some r:=by grind[Gg,Qz]
 refine⟨r,S',⟨E,λF m A g d w l N Q=>?_⟩,M⟩;have key:CallsIn F.plain m P f d w λe a=>∃v b,e=.returned v/\aN b a r v/\St Y A b S' a/\Ext A g w b a:=by
  refine zs9 x y (l.1 f) ?_ rfl;rw[z];refine wpIn_mono (J F.plain m A g _ w l.plain rfl N (D1 Q u)) ?_;rintro j o a⟨rfl,b,T,k,V⟩;have p:CJ F.plain m P fn o.tmps (λe a=>∃v b,e=.returned v/\aN b a r v/\St Y A b S' a/\Ext A g w b a) o.defers a:=by rw[k.df];refine Zm L T k.yE λqB s t=>?_;let⟨v,W,h7⟩:=KW s (k.later t.toLater) i;exact⟨v,W,v,b,rfl,h7,s,V.trans t⟩
  cases j with|normal=>exact p|ret=>exact p|_=>cases K
 exact key
theorem qz.aph{a:AV}(B N:Nat)(so:List (Nat×Ob))(F:qz P f q n)(b:args.length<=n)(c:Nat.ble S.nx B=true)(d:Nat.ble B N=true)(h:H P Y false n (acm P q.2 λr S'=>∃m,lM B m N r a/\gK B m N S' so/\tN B m (so.map (·.1))=true) (.run q.1 []) ⟨qc args,[]⟩ S):aF P Y f args S a (aw so N):=by let⟨r,S',e,m,g,i,j⟩:=qz.at1 F b h;exact e.canon c g i j d
end
inductive Tr(U:Type) where|nil|nd (l:Tr U) (v:Option U) (r:Tr U)
def QA{U:Type}:Nat->Tr U->Nat->U->Tr U
 |0,t,_,_=>t|m+1,.nil,k,a=>match Nat.beq k 0 with|true=>.nd .nil (some a) .nil|false=>match Nat.beq (k%2) 1 with|true=>.nd (QA m .nil (k/2) a) none .nil|false=>.nd .nil none (QA m .nil (k/2-1) a)
 |m+1,.nd l v r,k,a=>match Nat.beq k 0 with|true=>.nd l (some a) r|false=>match Nat.beq (k%2) 1 with|true=>.nd (QA m l (k/2) a) v r|false=>.nd l v (QA m r (k/2-1) a)
def put{U:Type}(t:Tr U)(k:Nat)(a:U):Tr U:=QA (k+1) t k a
abbrev zz9:=Nat->(Nat->Nat->Prop)->(Nat->Prop)->World->Prop
structure XS where
 m:Tr (Option Ob)nx:Nat
 lw:Nat
 yk:Option Nat
 an:Nat
 lg:List (List AV×Bool)
def wF(F:AV->Option AV):List AV->Option (List AV)|[]=>some []|a::l=>match F a with
  |some b=>match wF F l with|some c=>some (b::c)|none=>none
  |none=>none
def Gi(F:AV->Option AV):List (List AV)->Option (List (List AV))|[]=>some []|a::l=>match wF F a with
  |some b=>match Gi F l with|some c=>some (b::c)|none=>none
  |none=>none
def nN(S:ah):Nat->AV->Option AV|0,_=>none|m+1,a=>match a with
  |.v x=>some (.v x)|.agg l=>match wF (nN S m) l with|some b=>some (.agg b)|none=>none
  |.aJ l=>match wF (nN S m) l with|some b=>some (.aJ b)|none=>none
  |.sl _ rows=>match Gi (nN S m) rows with|some b=>some (.sl false b)|none=>none
  |.ip g=>match wF (nN S m) g with|some b=>some (.ip b)|none=>none
  |.fn f l c=>match wF (nN S m) l,wF (nN S m) c with|some b,some h=>some (.fn f b h)|_,_=>none
  |.ob k e off len _=>match S.get k with
   |some (.arr d rows _ _)=>match Nat.beq d e&&Nat.ble (off+len) rows.length with
    |true=>match Gi (nN S m) ((rows.drop off).take len) with|some b=>some (.sl false b)|none=>none
    |false=>none
   |_=>none
  |.gr k e len=>match S.get k with
   |some (.arr d rows _ _)=>match Nat.beq d e&&Nat.ble len rows.length with
    |true=>match Gi (nN S m) (rows.take len) with|some b=>some (.sl false b)|none=>none
    |false=>none
   |_=>none
  |.pt k e i j=>match S.get k with
   |some (.arr d rows _ _)=>match Nat.beq d e with
    |true=>match rows[i]? with
     |some row=>match Nat.ble j row.length with
      |true=>match wF (nN S m) (row.drop j) with|some b=>some (.ip b)|none=>none
      |false=>none
     |none=>none
    |false=>none
   |_=>none
  |_=>none
def B6(F:AV->Bool):List AV->Bool|[]=>true|a::l=>match F a with|true=>B6 F l|false=>false
def WH(F:AV->Bool):List (List AV)->Bool|[]=>true|a::l=>match B6 F a with|true=>WH F l|false=>false
def D2:Nat->AV->Bool|0,_=>false|m+1,a=>match a with
  |.v _=>true|.agg l|.aJ l|.ip l=>B6 (D2 m) l|.sl _ rows=>WH (D2 m) rows|.fn _ l c=>match B6 (D2 m) l with|true=>B6 (D2 m) c|false=>false
  |_=>false
theorem rK{F:AV->Bool}:∀{l:List AV},B6 F l=true->∀a∈l,F a=true|[],_,a,h=>I|b::l,c,a,h=>by simp only[B6]at c;split at c;rename_i d;rcases ae_.1 h with rfl|h;grind;exact rK c a h;grind
theorem QB{F:AV->Bool}:∀{l:List (List AV)},WH F l=true->∀r∈l,∀a∈r,F a=true|[],_,a,h=>I|b::l,c,a,h=>by simp only[WH]at c;split at c;rename_i d;rcases ae_.1 h with rfl|h;exact rK d;exact QB c a h;grind
theorem lN:∀{m:Nat}{a:AV},D2 m a=true->Pure a|0,a,h=>by cases h|m+1,a,h=>by cases a with|v x=>exact .v|agg l=>exact .agg λa b=>lN (rK h a b)|aJ l=>exact .aJ λa b=>lN (rK h a b)|ip l=>exact .ip λa b=>lN (rK h a b)|sl ex rows=>exact .sl λr d a b=>lN (QB h r d a b)|fn f l c =>simp only[D2]at h;split at h;rename_i e;exact .fn (λa b=>lN (rK e a b)) λa b=>lN (rK h a b);grind|_=>cases h
theorem QD{m:Nat}:∀{l:List AV},B6 (D2 m) l=true->iU l|[],_=>trivial|a::l,h=>by simp only[B6]at h;split at h;rename_i b;exact⟨lN b,QD h⟩;grind
theorem H8{F:AV->Option AV}:∀{l c:List AV},wF F l=some c->l.length=c.length/\∀(i:Nat)(a a':AV),l[i]?=some a->c[i]?=some a'->F a=some a'
 |[],c,h=>by cases oJ_ h;exact⟨rfl,λi a a' h=>I⟩|b::l,c,h=>by
  simp only[wF]at h;split at h;rename_i k f;split at h;rename_i m g;cases oJ_ h;let⟨n,j⟩:=H8 g;refine⟨I,λi a a' d e=>?_⟩;cases i with|zero=>simp at d e;subst d e;exact f|succ i=>simp at d e;exact j i a a' d e
  grind;grind
theorem CL{F:AV->Option AV}:∀{l c:List (List AV)},Gi F l=some c->l.length=c.length/\∀(i:Nat)(a a':List AV),l[i]?=some a->c[i]?=some a'->wF F a=some a'
 |[],c,h=>by cases oJ_ h;exact⟨rfl,λi a a' h=>I⟩|b::l,c,h=>by
  simp only[Gi]at h;split at h;rename_i k f;split at h;rename_i m g;cases oJ_ h;let⟨n,j⟩:=CL g;refine⟨I,λi a a' d e=>?_⟩;cases i with|zero=>simp at d e;subst d e;exact f|succ i=>simp at d e;exact j i a a' d e
  grind;grind
theorem yY:∀{m:Nat}{a a':AV},nN S m a=some a'->aH S a a'/\Pure a'
 |0,a,a',h=>by cases h|m+1,a,a',h=>by
  have u:∀{l g:List AV},wF (nN S m) l=some g->∀b∈g,Pure b:=λ{l g}d b s=>by let⟨o,n⟩:=H8 d;let⟨i,y⟩:=cv_ s;have F:i<l.length:=I;exact(yY (n i _ b (av_ F) y)).2
  have bh:∀{l g:List AV},wF (nN S m) l=some g->l.length=g.length/\∀(i:Nat)(a a':AV),l[i]?=some a->g[i]?=some a'->aH S a a':=λd=>⟨(H8 d).1,λi a a' o n=>(yY ((H8 d).2 i a a' o n)).1⟩;have w:∀{l g:List (List AV)},Gi (nN S m) l=some g->∀r∈g,∀b∈r,Pure b:=λ{l g}d r P=>by let⟨o,n⟩:=CL d;let⟨i,y⟩:=cv_ P;have F:i<l.length:=I;exact u (n i _ r (av_ F) y)
  have atR:∀{l g:List (List AV)},Gi (nN S m) l=some g->l.length=g.length/\(∀(i:Nat)(r t:List AV),l[i]?=some r->g[i]?=some t->r.length=t.length) /\∀(i j:Nat)(r t:List AV)(a a':AV),l[i]?=some r->g[i]?=some t->r[j]?=some a->t[j]?=some a'->aH S a a':=λd =>⟨(CL d).1,λi r t o n=>(bh ((CL d).2 i r t o n)).1,λi j r t a a' o n z A=>(bh ((CL d).2 i r t o n)).2 j a a' z A⟩;cases a with|v x=>cases oJ_ h;exact⟨.refl _,.v⟩|agg l =>simp only[nN]at h;split at h;rename_i g d;cases oJ_ h;exact⟨.agg (bh d).1 (bh d).2,.agg (u d)⟩;grind|aJ l =>simp only[nN]at h;split at h;rename_i g d;cases oJ_ h;exact⟨.aJ (bh d).1 (bh d).2,.aJ (u d)⟩;grind|ip l =>simp only[nN]at h;split at h;rename_i g d;cases oJ_ h;exact⟨.ip (bX_ (bh d).1.symm) (bh d).2,.ip (u d)⟩;grind|sl ex rows =>simp only[nN]at h;split at h;rename_i g d;cases oJ_ h;exact⟨.sl (atR d).1 (atR d).2.1 (atR d).2.2,.sl (w d)⟩;grind|fn f l c =>simp only[nN]at h;split at h;rename_i g Q d G;cases oJ_ h;exact⟨.fn (bh d).1 (bh G).1 (bh d).2 (bh G).2,.fn (u d) (u G)⟩;grind|ob k M off len cx =>simp only[nN]at h;split at h;rename_i B rows fz ex C;split at h;rename_i s;simp only[as_]at s;have e:=aS_ s.1;have J:=ax_ s.2;subst e;split at h;rename_i g d;cases oJ_ h;let⟨q1,E,K⟩:=atR d;have L:g.length=len:=I;have get:∀(i:Nat)(row p:List AV),rows[off+i]?=some row->g[i]?=some p->((rows.drop off).take len)[i]?=some row:=λi row p o n=>I;exact⟨.ob C J L (λi row p o n=>E i row p (get i row p o n) n) λi j row p a a' o n z A=>K i j row p a a' (get i row p o n) n z A,.sl (w d)⟩;grind;grind;grind|gr k M len =>simp only[nN]at h;split at h;rename_i B rows fz ex C;split at h;rename_i s;simp only[as_]at s;have e:=aS_ s.1;have J:=ax_ s.2;subst e;split at h;rename_i g d;cases oJ_ h;let⟨q1,E,K⟩:=atR d;have L:g.length=len:=I;have get:∀(i:Nat)(row p:List AV),rows[i]?=some row->g[i]?=some p->(rows.take len)[i]?=some row:=λi row p o n=>I;exact⟨.gr C J L (λi row p o n=>E i row p (get i row p o n) n) λi j row p a a' o n z A=>K i j row p a a' (get i row p o n) n z A,.sl (w d)⟩;grind;grind;grind|pt k M i j =>simp only[nN]at h;split at h;rename_i B rows fz ex C;split at h;rename_i s;have e:=aS_ s;subst e;split at h;rename_i row y;split at h;rename_i N;have N:=ax_ N;split at h;rename_i g d;cases oJ_ h;let⟨q1,E⟩:=bh d;simp at q1;exact⟨.pt C y X λq a a' o n=>E q a a' I n,.ip (u d)⟩;grind;grind;grind;grind;grind|_=>cases h
theorem aH.mono{S T:ah}(h:∀k sz rows fz ex,S.get k=some (.arr sz rows fz ex)->T.get k=some (.arr sz rows fz ex)){a a':AV}(j:aH S a a'):aH T a a':=by induction j with|refl a=>exact .refl a|agg g h b=>exact .agg g b|aJ g h b=>exact .aJ g b|ob f c d e i b=>exact .ob (h _ _ _ _ _ f) c d e b|pt f c d e b=>exact .pt (h _ _ _ _ _ f) c d b|fn c d e i l m=>exact .fn c d l m|sl c d e b=>exact .sl c d b|ip c d b=>exact .ip c b|gr f c d e i b=>exact .gr (h _ _ _ _ _ f) c d e b
theorem QE{n:ByteArray}{a:List Tm}(h:x9 n a=true):n=⟨#[]⟩/\a=[]:=by unfold x9 at h;rw[as_]at h;exact⟨Zn.1 (eq_of_beq h.1),List.isEmpty_iff.1 h.2⟩
mutual theorem QG:∀x:Tm,lK x=true->x.ok->eY x/\kN x/\vi x/\td x/\cP x=dm x |⟨k,i,n,a⟩,h,b=>by rw[lK]at h;rw[Tm.ok]at b;rw[eY,kN,vi,td,cP,dm];by_cases d:k=0;rw[if_pos d]at h;simp only[as_,decide_eq_true_eq]at h;obtain⟨rfl,rfl⟩:=QE h.2;rw[if_neg X,if_neg X];exact⟨⟨by rw[fe];trivial,.inr rfl⟩,⟨aB,b.2.1,by rw[lA];trivial⟩,⟨X,by rw[tL];trivial⟩,⟨X,by rw[pb];trivial⟩,by rw[bG]⟩;rw[if_neg d]at h;by_cases c:k=1;rw[if_pos c]at h;simp only[as_,decide_eq_true_eq]at h;obtain⟨rfl,rfl⟩:=QE h.2;rw[if_pos c,if_neg X];exact⟨⟨rfl,rfl⟩,⟨aB,b.2.1,by rw[lA];trivial⟩,⟨λ_=>h.1.1,by rw[tL];trivial⟩,⟨λ_=>⟨h.1.1,X⟩,by rw[pb];trivial⟩,by rw[bG]⟩;rw[if_neg c]at h;split at h;rename_i f;simp only[as_,cf_,beq_iff_eq,decide_eq_true_eq]at h;let⟨g,j,m,o,s⟩:=Gj a h.2 b.2.2;rw[if_neg c,if_pos f];refine⟨⟨g,.inl f⟩,⟨?_,b.2.1,j⟩,⟨λe=>absurd e c,m⟩,⟨λe=>absurd e c,o⟩,X⟩;rcases h.1.2 with p|p<;>omega;grind;theorem Gj:∀l:List Tm,kW l=true->dS l->fe l/\lA l/\tL l/\pb l/\bG l=bt l|[],_,_=>⟨by rw[fe];trivial,by rw[lA];trivial,by rw[tL];trivial,by rw[pb];trivial,by rw[bG,bt]⟩|x::l,h,b=>by rw[kW,as_]at h;rw[dS]at b;let⟨t,u,v,w,q⟩:=QG x h.1 b.1;let⟨y,z,A,B,r⟩:=Gj l h.2 b.2;exact⟨by grind[fe],by grind[lA],by grind[tL],by grind[pb],by rw[bG,bt,q,r]⟩;end
theorem xD{x:Tm}(h:cK x=true)(a:x.ok):eY x/\kN x/\vi x/\td x/\cP x<=200:=by grind[cK,QG]
theorem Zo(h:l.all cK=true):kW l=true:=by induction l with|nil=>rw[kW]|cons x l a =>rw[aJ_,as_]at h;rw[kW,as_];refine⟨?_,a h.2⟩;have:=h.1;unfold cK at this;simp only[as_]at this;exact this.1.1
theorem KX(h:nU l=true)(a:dS l):fe l/\lA l/\tL l/\pb l/\bG l<=200:=by grind[nU,Gj,Zo]
def gA:List Nat:=List.range 120
section
variable{rd:Bool}{l:List QI}{d:Option Nat}{y:Option (Nat×Bool)}{f:QO}{args:List AV}
def Zp(P:Program)(Y:World)(rd:Bool)(n:Nat)(Q:Exit->AA->ah->Prop)(c:QC)(K:List gE)(U:AA)(S:ah):Prop :=∀a,comp P.toTables n a=some c->gR P a=true->∃ex b S',BX P Y rd n a U S ex b S'/\eI P Y rd n Q K ex b S'
def QH(P:Program)(Y:World)(rd:Bool)(n:Nat)(Q:Exit->AA->ah->Prop)(c:QC)(K:List gE):Exit->AA->ah->Prop :=λex U S=>match ex with|.normal=>Zp P Y rd n Q c K U S|e=>H P Y rd n Q (.out e K) U S
theorem Zp.round(h:H P Y rd n (QH P Y rd n Q c K) (.run c []) U S):Zp P Y rd n Q c K U S:=by intro a b d;let⟨ex,g,i,e,f⟩:Wp P Y rd n a (QH P Y rd n Q c K) U S:=h a b d;cases ex with|normal =>let⟨ex,j,S',k,l⟩:=f a b d;exact⟨ex,j,S',BX.step e k,l⟩|_=>exact⟨_,g,i,BX.done e aB,f⟩
theorem H.afg(h:H P Y rd n (QH P Y rd n Q c K) (.run c []) U S):H P Y rd n Q (.run (.loop c) K) U S:=by intro j a b;obtain⟨d,rfl,e⟩:=NJ a;let⟨ex,f,S',g,i⟩:=Zp.round h d e b;exact⟨ex,f,S',ez.loop g,i⟩
def H.A_(h:H P Y rd n (QH P Y rd n Q c K) (.run c []) U S):H P Y rd n (QH P Y rd n Q c K) (.out .normal []) U S:=Zp.round h
def H.afh{id:Nat}(h:H P Y rd n Q (.out (.exit id) K) U S):H P Y rd n (QH P Y rd n Q c K) (.out (.exit id) []) U S:=h
def H.at2(h:H P Y rd n Q (.out .ret K) U S):H P Y rd n (QH P Y rd n Q c K) (.out .ret []) U S:=h
end
class FN(g:FuncId) where
 f:Func
 q:FQ g f
section
variable{rd:Bool}{l:List QI}{d:Option Nat}{y:Option (Nat×Bool)}{f:QO}{args:List AV}
theorem inl(h:fp (f.ev U.tm) (bs.map (·.ev U.tm))=some (g,args))[x:FN g]{a:AA}{S':ah}(k:H prog Y false x.f.ntmps (vm x.q.1.2 λr S'=>H prog Y rd n Q (.bk false l K) (bW d U r) S') cf a S')(b:args.length<=x.f.ntmps:=by exact ax_ rfl)(e:nO gA 400 (.run x.q.1.1 []) ⟨qc args,[]⟩ S=(cf,a,S'):=by conv=>lhs;cbv)(c:bD U.tm y=some true:=by rfl):H prog Y rd n Q (.bk false (⟨d,y,.call f bs⟩::l) K) U S:=by let⟨r,S',i,j⟩:=qz.QJ x.q.2 b (H.xE gA 400 e k);exact H.op c (D.call h i λe=>nomatch e) j
end
theorem kw{P:Prop}(h:P:=by repeat' first|exact trivial|refine⟨?_,?_⟩;first|exact .aK .v|exact .aK (Pure.bu (lN (m:=60) rfl))|exact .aK (.mp (by decide))|exact .aK (.pt (by decide))|exact .aK (.yl (by decide))|exact .pj rfl rfl):P:=h
theorem oz{P:Prop}(h:P:=by repeat' first|exact trivial|refine⟨?_,?_⟩;first|exact .inr rfl|refine .inl ⟨_,rfl,?_⟩;first|exact .same trivial|exact .same (List.forall_mem_nil _)|exact .arr ⟨kw,trivial⟩):P:=h
theorem rn{p:Prop}(h:p:=by repeat' first|refine H.afg ?_;refine Z gA ?_|refine og gA (D.bit rfl) ?_|refine og gA (D.len rfl) ?_|refine og gA (D.ind rfl rfl rfl (by first|decide|simp)) ?_|refine og gA (D.yU rfl rfl rfl (by decide) (by decide)) ?_|refine og gA (D.nil rfl rfl) ?_|refine og gA (D.O0 rfl rfl) ?_|refine og gA (D.Mh rfl rfl) ?_|refine og gA (D.PV rfl rfl (by first|decide|simp) (by first|decide|simp) (by first|decide|simp)) ?_|refine og gA (D.aco rfl rfl rfl (by decide) (by decide) (by decide) (by decide)) ?_|refine og gA (D.max (k:=.i64) (a:=0) (b:=0) rfl rfl) ?_|refine og gA (D.at3 rfl rfl rfl rfl rfl (by decide) (by decide)) ?_|refine og gA (D.acp rfl rfl rfl (by decide) (by decide)) ?_|refine og gA (D.at4 rfl rfl rfl rfl) ?_|refine og gA (D.at5 rfl rfl rfl rfl rfl (by decide) (by decide) (by decide)) ?_|refine og gA (D.ajY rfl rfl rfl rfl (by decide) (by decide) (by decide)) ?_|refine og gA (D.ajZ (O:=.plain) (f:=Zg .plain) (Mx:=[]) rfl rfl rfl rfl λ_=>rfl) ?_|refine og gA (pl at6) ?_|refine og gA (pl api) ?_|refine og gA (pl apj) ?_|refine og gA (pl apk) ?_|refine og gA (pl apl) ?_|refine og gA (pl apm) ?_|refine H.eM rfl (λT=>pl at7) ?_;refine Z gA ?_|refine H.eM rfl (λT=>D.ind rfl rfl rfl (by first|decide|simp)) ?_;refine Z gA ?_|refine og gA (D.Wu rfl rfl rfl) ?_|refine inl rfl ?_|refine H.afh ?_;refine Z gA ?_|refine fq ?_;refine Z gA ?_|refine fq ?_;first|exact .refl _|exact aH.at8 (O:=.plain) rfl rfl|exact aH.grow (O:=.plain) rfl rfl|exact(yY (m:=60) rfl).1|exact⟨[],.aK .v,oz,rfl⟩|exact⟨[],.aK (Pure.bu (lN (m:=60) rfl)),oz,rfl⟩):p:=h
theorem py{p:Prop}(h:p:=by exact lN (m:=60) rfl):p:=h
theorem px{Y:World}{r:AV}[x:FN g]{U:AA}{S:ah}(a:Pure r:=by exact py)(b:args.length<=x.f.ntmps:=by exact ax_ rfl)(e:nO gA 400 (.run x.q.1.1 []) ⟨qc args,[]⟩ ah.none_=(cf,U,S):=by conv=>lhs;cbv)(k:H prog Y false x.f.ntmps (vm x.q.1.2 λc S=>aH S c r) cf U S:=by exact rn):ab Y g args r:=st x.q gA a k b e
theorem cx{Y:World}{r:AV}{so so':List (Nat×Ob)}{N M:Nat}[x:FN g]{U:AA}{S:ah}(a:args.length<=x.f.ntmps:=by exact ax_ rfl)(b:Nat.ble N N=true:=by rfl)(c:Nat.ble N M=true:=by rfl)(e:nO gA 400 (.run x.q.1.1 []) ⟨qc args,[]⟩ (aw so N)=(cf,U,S):=by conv=>lhs;cbv)(k:H prog Y false x.f.ntmps (vm x.q.1.2 λd S=>∃m,lM N m M d r/\gK N m M S so'/\tN N m (so'.map (·.1))=true) cf U S:=by exact rn):aF prog Y g args (aw so N) r (aw so' M):=sc N M x.q (H.xE gA 400 e k) a b c
end Go.Proofs.YtbdcmpknicjopaaGreat
