import Derived.RecoverIn
import Derived.TacticsIn
import Derived.TacticsInMore
import Derived.Test.YtbdcmpknicjopaaGreatProg
import Derived.Test.YtbdcmpknicjopaaGreatTo16
namespace Go.Proofs.YtbdcmpknicjopaaGreat
set_option linter.all false
set_option maxRecDepth 100000
open Go.RowKit Proofs.Tryz
variable{A:Nat->Prop}{B b0 n:Nat}{F:Fence}{K:List iu}{O:Hd}{P:Program}{Q:Exit->AA->ao->Prop}{R:Ending->World->Prop}{S S':ao}{T zzH:Type}{U w:World}{V:List (Nat×Nat)}{Y:AA}{a z:AV}{b i x:QO}{bs:List QO}{c:QC}{cf:QF}{es:List (Value×AV)}{kk:IntKind}{o:Oper}{p:Value×AV}{ps:List MemPlace}{q:QC×List QR}{rs:List Nat}{sp:Nat->Bool}{t:TypeId}{u:Operand}{enc:TypeId×Value->zzH}{kv:List (Int×T)}
variable{tmps:Array Value}{f:FuncId}{m:Int}{args:List AV}{l:List Tm}{v:Operand}{g:Option (Nat×Bool)}{d:Option Nat}
mutual def mT:Tm->Nat|⟨k,i,n,a⟩=>n.size+uJ a+5def uJ:List Tm->Nat|[]=>0|x::l=>mT x+uJ l end
theorem nf:∀l,fk mT l=uJ l|[]=>by rw[uJ];rfl|x::l=>by rw[uJ,fk,nf l]
theorem QB{Y:Type}:∀l:List Y,fk (λ_=>1) l=l.length|[]=>rfl|x::l=>by rw[fk,QB l,aH_];omega
def rF(x:At):Nat:=x.n.size+uJ x.a+3
def vm(x:Gl):Nat:=x.n.size+uJ x.a+4
def NP(x:Im):Nat:=x.n.size+uJ x.a+5
def NQ(x:Bd):Nat:=mT x.t+2
def NR(x:Fi):Nat:=x.ids.length+3
def NS(x:Dc):Nat:=x.n.size+3
def E3(x:Rl):Nat:=x.n.size+fk rF x.aP+fk rF x.rem+fk vm x.guard+fk vm x.body+7
def Za(x:Pg):Nat:=fk NS x.ds+fk E3 x.rs+3
def QD(x:dp):Nat:=fk vm x.goals+fk NP x.store+fk NQ x.binds+fk NR x.bE+fk vm x.known+9
theorem afo:∀n,bY prog n 58 4 kN mT:=by intro n;induction n with|zero=>intro zzH enc w sp held m g;omega|succ n l =>intro zzH enc w sp held m g z d A h;obtain⟨k,f,rfl,o,B,c⟩:=bY.fields underlying58 h;have p:=kO (xs:=f);rw[o]at p;let⟨x0,b0,_,q⟩:=bY.part (i:=0) (n:=k+1) (bY.int underlying3) X (by kernel_rfl) X (c 0 3 0 rfl);let⟨r,C,_,s⟩:=bY.part (i:=1) (n:=k+1) (bY.int underlying3) X (by kernel_rfl) X (c 1 3 1 rfl);let⟨t,E,_,u⟩:=bY.part (i:=2) (n:=k+1) (bY.str underlying9) X (by kernel_rfl) X (c 2 9 2 rfl);let⟨x,F,_,y⟩:=bY.part (i:=3) (bY.slice underlying56 (by kernel_rfl) aJ l) X (by kernel_rfl) X (c 3 56 3 rfl);refine⟨⟨x0,r,t,x⟩,?_,by rw[qQ (O:=.plain)];rfl,λj a v b e=>?_⟩;grind[mT,nf,nw];rw[qQ (O:=.plain)]at b;match j with|0=>exact q 0 a v b e|1=>exact s 0 a v b e|2=>exact u 0 a v b e|3=>exact y 0 a v b e|j+4=>cases b
theorem afp(n:Nat):bY prog n 56 1 (λl=>[tl .plain l]) λl=>uJ l+1:=by have h:=(bY.slice underlying56 (by kernel_rfl) aJ (afo n)).less (bI_ n);simp only[nf]at h;exact h
theorem MJ(n:Nat):bY prog n 33 1 (λl=>[aQ .plain aH false l]) λl=>l.length+1:=by have h:=(bY.slice underlying33 (by kernel_rfl) aJ (bY.int (n:=n) underlying3)).less (bI_ n);simp only[QB]at h;exact h
theorem afq(n:Nat):bY prog n 62 2 (atR .plain) rF:=by intro zzH enc w sp held m r s d t h;obtain⟨k,c,rfl,g,u,e⟩:=bY.fields underlying62 h;have l:=kO (xs:=c);rw[g]at l;let⟨x0,b0,_,o⟩:=bY.part (i:=0) (n:=k+1) (bY.str underlying9) X (by kernel_rfl) X (e 0 9 0 rfl);let⟨p,x,_,q⟩:=bY.part (i:=1) (n:=k+1) (afp (k+1)) X (by kernel_rfl) X (e 1 56 1 rfl);refine⟨⟨x0,p⟩,?_,rfl,λj a v b f=>?_⟩;grind[nw,rF];match j with|0=>exact o 0 a v b f|1=>exact q 0 a v b f|j+2=>cases b
theorem Zb(n:Nat):bY prog n 63 1 (λl=>[dW .plain l]) λl=>fk rF l+1:=(bY.slice underlying63 (by kernel_rfl) aJ (afq n)).less (bI_ n)
theorem apM(n:Nat):bY prog n 65 3 (sQ .plain) vm:=by intro zzH enc w sp held m t u d x h;obtain⟨k,f,rfl,g,y,c⟩:=bY.fields underlying65 h;have l:=kO (xs:=f);rw[g]at l;let⟨x0,b0,_,o⟩:=bY.part (i:=0) (n:=k+1) (bY.int underlying3) X (by kernel_rfl) X (c 0 3 0 rfl);let⟨p,z,_,q⟩:=bY.part (i:=1) (n:=k+1) (bY.str underlying9) X (by kernel_rfl) X (c 1 9 1 rfl);let⟨r,A,_,s⟩:=bY.part (i:=2) (n:=k+1) (afp (k+1)) X (by kernel_rfl) X (c 2 56 2 rfl);refine⟨⟨x0,p,r⟩,?_,rfl,λj a v b e=>?_⟩;grind[nw,vm,rF];match j with|0=>exact o 0 a v b e|1=>exact q 0 a v b e|2=>exact s 0 a v b e|j+3=>cases b
theorem K6(n:Nat):bY prog n 26 1 (λl=>[dI .plain l]) λl=>fk vm l+1:=(bY.slice underlying26 (by kernel_rfl) aJ (apM n)).less (bI_ n)
theorem apN(n:Nat):bY prog n 75 3 (E4 .plain) NP:=by intro zzH enc w sp held m r s d t h;obtain⟨k,e,rfl,o,u,f⟩:=bY.fields underlying75 h;have p:=kO (xs:=e);rw[o]at p;let⟨x0,b0,_,q⟩:=bY.part (i:=0) (n:=k+1) (bY.int underlying3) X (by kernel_rfl) X (f 0 3 0 rfl);let⟨g,x,_,l⟩:=bY.part (i:=1) (n:=k+1) (afq (k+1)) X (by kernel_rfl) X (f 1 62 1 rfl);refine⟨⟨x0,g.n,g.a⟩,?_,rfl,λj a v b c=>?_⟩;grind[nw,NP,rF];match j with|0=>exact q 0 a v b c|1=>exact l 0 a v b c|2=>exact l 1 a v b c|j+3=>cases b
theorem akd(n:Nat):bY prog n 27 1 (λl=>[mH .plain l]) λl=>fk NP l+1:=(bY.slice underlying27 (by kernel_rfl) aJ (apN n)).less (bI_ n)
theorem apO(n:Nat):bY prog n 102 5 (bS .plain) NQ:=by intro zzH enc w sp held m s t d u h;obtain⟨k,l,rfl,p,x,o⟩:=bY.fields underlying102 h;have q:=kO (xs:=l);rw[p]at q;let⟨x0,b0,_,r⟩:=bY.part (i:=0) (n:=k+1) (bY.int underlying3) X (by kernel_rfl) X (o 0 3 0 rfl);let⟨g,y,_,c⟩:=bY.part (i:=1) (n:=k+1) (afo (k+1)) X (by kernel_rfl) X (o 1 58 1 rfl);refine⟨⟨x0,g⟩,?_,rfl,λj a v b f=>?_⟩;grind[nw,NQ,rF];have e:kN g=jG .plain g:=qQ g;rw[e]at c;match j with|0=>exact r 0 a v b f|1=>exact c 0 a v b f|2=>exact c 1 a v b f|3=>exact c 2 a v b f|4=>exact c 3 a v b f|j+5=>cases b
theorem ake(n:Nat):bY prog n 29 1 (λl=>[a_ .plain l]) λl=>fk NQ l+1:=(bY.slice underlying29 (by kernel_rfl) aJ (apO n)).less (bI_ n)
theorem apP(n:Nat):bY prog n 104 2 (I9 .plain) NR:=by intro zzH enc w sp held m r s d t h;obtain⟨k,c,rfl,g,u,e⟩:=bY.fields underlying104 h;have l:=kO (xs:=c);rw[g]at l;let⟨x0,b0,_,o⟩:=bY.part (i:=0) (n:=k+1) (bY.int underlying3) X (by kernel_rfl) X (e 0 3 0 rfl);let⟨p,x,_,q⟩:=bY.part (i:=1) (n:=k+1) (MJ (k+1)) X (by kernel_rfl) X (e 1 33 1 rfl);refine⟨⟨x0,p⟩,?_,rfl,λj a v b f=>?_⟩;grind[nw,NR,rF];match j with|0=>exact o 0 a v b f|1=>exact q 0 a v b f|j+2=>cases b
theorem akf(n:Nat):bY prog n 30 1 (λl=>[mX .plain l]) λl=>fk NR l+1:=(bY.slice underlying30 (by kernel_rfl) aJ (apP n)).less (bI_ n)
theorem apQ(n:Nat):bY prog n 60 2 YN NS:=by intro zzH enc w sp held m r s d t h;obtain⟨k,c,rfl,g,u,e⟩:=bY.fields underlying60 h;have l:=kO (xs:=c);rw[g]at l;let⟨x0,b0,_,o⟩:=bY.part (i:=0) (n:=k+1) (bY.str underlying9) X (by kernel_rfl) X (e 0 9 0 rfl);let⟨p,x,_,q⟩:=bY.part (i:=1) (n:=k+1) (bY.int underlying3) X (by kernel_rfl) X (e 1 3 1 rfl);refine⟨⟨x0,p⟩,?_,rfl,λj a v b f=>?_⟩;grind[nw,NS,rF];match j with|0=>exact o 0 a v b f|1=>exact q 0 a v b f|j+2=>cases b
theorem akg(n:Nat):bY prog n 22 1 (λl=>[ir .plain l]) λl=>fk NS l+1:=(bY.slice underlying22 (by kernel_rfl) aJ (apQ n)).less (bI_ n)
theorem apR(n:Nat):bY prog n 67 6 (lV .plain) E3:=by intro zzH enc w sp held m B C d E h;obtain⟨k,f,rfl,g,F,c⟩:=bY.fields underlying67 h;have l:=kO (xs:=f);rw[g]at l;let⟨x0,b0,_,o⟩:=bY.part (i:=0) (n:=k+1) (bY.str underlying9) X (by kernel_rfl) X (c 0 9 0 rfl);let⟨p,G,_,q⟩:=bY.part (i:=1) (n:=k+1) (Zb (k+1)) X (by kernel_rfl) X (c 1 63 1 rfl);let⟨r,J,_,s⟩:=bY.part (i:=2) (n:=k+1) (Zb (k+1)) X (by kernel_rfl) X (c 2 63 2 rfl);let⟨t,K,_,u⟩:=bY.part (i:=3) (n:=k+1) (K6 (k+1)) X (by kernel_rfl) X (c 3 26 3 rfl);let⟨x,L,_,y⟩:=bY.part (i:=4) (n:=k+1) (K6 (k+1)) X (by kernel_rfl) X (c 4 26 4 rfl);let⟨z,M,_,A⟩:=bY.part (i:=5) (n:=k+1) (bY.int underlying3) X (by kernel_rfl) X (c 5 3 5 rfl);refine⟨⟨x0,p,r,t,x,z⟩,?_,rfl,λj a v b e=>?_⟩;grind[nw,E3,rF];match j with|0=>exact o 0 a v b e|1=>exact q 0 a v b e|2=>exact s 0 a v b e|3=>exact u 0 a v b e|4=>exact y 0 a v b e|5=>exact A 0 a v b e|j+6=>cases b
theorem akh(n:Nat):bY prog n 23 1 (λl=>[QE .plain l]) λl=>fk E3 l+1:=(bY.slice underlying23 (by kernel_rfl) aJ (apR n)).less (bI_ n)
theorem apS(n:Nat):bY prog n 25 2 (oP .plain) Za:=by intro zzH enc w sp held m r s d t h;obtain⟨k,c,rfl,g,u,e⟩:=bY.fields underlying25 h;have l:=kO (xs:=c);rw[g]at l;let⟨x0,b0,_,o⟩:=bY.part (i:=0) (n:=k+1) (akg (k+1)) X (by kernel_rfl) X (e 0 22 0 rfl);let⟨p,x,_,q⟩:=bY.part (i:=1) (n:=k+1) (akh (k+1)) X (by kernel_rfl) X (e 1 23 1 rfl);refine⟨⟨x0,p⟩,?_,rfl,λj a v b f=>?_⟩;grind[nw,Za,rF];match j with|0=>exact o 0 a v b f|1=>exact q 0 a v b f|j+2=>cases b
theorem aki(n:Nat):bY prog n 32 8 (CN .plain) QD:=by intro zzH enc w sp held m J K d L h;obtain⟨k,f,rfl,l,o,c⟩:=bY.fields underlying32 h;have g:=kO (xs:=f);rw[l]at g;let⟨x0,b0,_,p⟩:=bY.part (i:=0) (n:=k+1) (K6 (k+1)) X (by kernel_rfl) X (c 0 26 0 rfl);let⟨q,M,_,r⟩:=bY.part (i:=1) (n:=k+1) (akd (k+1)) X (by kernel_rfl) X (c 1 27 1 rfl);let⟨s,N,_,t⟩:=bY.part (i:=2) (n:=k+1) (ake (k+1)) X (by kernel_rfl) X (c 2 29 2 rfl);let⟨u,P,_,x⟩:=bY.part (i:=3) (n:=k+1) (akf (k+1)) X (by kernel_rfl) X (c 3 30 3 rfl);let⟨y,Q,_,z⟩:=bY.part (i:=4) (n:=k+1) (K6 (k+1)) X (by kernel_rfl) X (c 4 26 4 rfl);let⟨A,R,_,B⟩:=bY.part (i:=5) (n:=k+1) (bY.int underlying3) X (by kernel_rfl) X (c 5 3 5 rfl);let⟨C,S,_,E⟩:=bY.part (i:=6) (n:=k+1) (bY.int underlying3) X (by kernel_rfl) X (c 6 3 6 rfl);let⟨F,T,_,G⟩:=bY.part (i:=7) (n:=k+1) (bY.bool underlying4) X (by kernel_rfl) X (c 7 4 7 rfl);refine⟨⟨x0,q,s,u,y,A,C,F⟩,?_,rfl,λj a v b e=>?_⟩;rw[o,<-g];simp only[bv_,aH_,bd_,nw,Nat.reduceAdd,QD,rF]at*;omega;match j with|0=>exact p 0 a v b e|1=>exact r 0 a v b e|2=>exact t 0 a v b e|3=>exact x 0 a v b e|4=>exact z 0 a v b e|5=>exact B 0 a v b e|6=>exact E 0 a v b e|7=>exact G 0 a v b e|j+8=>cases b
theorem K7{P:Program}{r:Reach}{b0:Nat}{v:Value}{fs:Array Field}(a:P.underlying t=some (.struct fs))(h:Value.okWide P w r b0 t v):∃cs,v=.agg cs/\cs.size=P.cellsOf t:=by unfold Value.okWide at h;rw[a]at h;let⟨cs,e,b,_⟩:=h;exact⟨cs,e,b⟩
section
variable{r:Reach}{v:Value}{held:Bool}{d:DataW zzH}
theorem akj(b:Value.okWide prog w r b0 25 v)(h:DataW.Trod enc prog w 0 sp held 25 v d ps):∃x:Pg,Za x<=Rows.uptoBulk d/\aT (g0 w) w (pg .plain x) v:=by let⟨fuel,c⟩:=h;obtain⟨e,rfl,f⟩:=K7 underlying25 b;have g:e.size=2:=f.trans (by kernel_rfl);let⟨x,j,_,k⟩:=apS (fuel+1) zzH enc w sp held fuel X _ _ (by rw[bu_];exact g) c;refine⟨x,j,.agg Z λi a y l m=>k i a y l ?_⟩;rw[<-m];exact bq_
end
section
attribute [local irreducible] aq aG D I
def auQ:=aD func90 call90
def g90:=[0,5,1]
def WH(e:Int):Value:=.iface 212 (.agg #[.int .i64 e])
def sA(e:Int):List PanicEntry:=[{v:=WH e,recovered:=false }]
theorem akk(b:Bool)(e:Int):O6 prog U 90 [.v (.bool b),iv e] b (.aM []) (sA e):=by refine qx.afs auQ.2 (by simp[ntmps90]) (.aM λa c=>Z) ?_;cases b;refine H g90 ?_;refine og g90 (D.QG rfl (by kernel_rfl)) ?_;refine I.I_ rfl (An.I_ rfl) ?_;refine H g90 ?_;exact I.akl rfl ⟨rfl,rfl⟩;refine H g90 ?_;exact I.akm rfl (by conv=>lhs;cbv) ⟨rfl,aL.of_eq rfl⟩
end
section
def iH:=[3,0,2,6,10,35]
attribute [local irreducible] aq aG D I
def QH(p x:Fi):Bool:=decide (po p x<0)
theorem K8(l:List Fi):lu l=(decide ((l.length:Int)<=5000)&&lj ue QH none l):=rfl
theorem Zc(l:List Fi)(A:l.length<=1099511627776)(e:∀x∈l,x.ok):ad U 59 [mX O l] (.v (.bool (lu l))):=by
 let⟨R,c⟩:=au (lu l);rw[<-c];rw[K8]at c;refine st auO uH .v ?_;repeat' first|refine cg uH (λb=>?_) λb=>?_|refine lg uH λm B=>?_|refine fq ?_
 grind[aO];rw[decide_eq_true X,az_]at c;refine I.eH (σ:=Int) 0 0 [] (λi=>[(0,mX O l),(8,.v (.int .i64 m)),(9,.v (.int .i64 i))]) [] (λ_=>[]) (λi=>∃(k:Nat) (f:Option Fi),i=k/\k<=l.length/\R=lj ue QH f (l.drop k)/\CM l k f) (λi=>l.length-i.toNat) 0 ⟨0,none,rfl,aE,Z,.inl ⟨rfl,rfl⟩⟩ rfl cq ?_;rintro i⟨k,f,j,E,a,t⟩;clear c;refine H uH ?_;by_cases u:k<l.length
 ·let⟨x,d,v⟩:=aC u;rw[v,j_]at a;have g:=acq (U:=U) (O:=O) x (e x (aZ d));let⟨V,w⟩:=au (ue x);rw[<-w]at g a;let⟨n,o⟩:=x;rcases t with⟨rfl,rfl⟩|⟨⟨p,q⟩,y,r,rfl⟩
  ·simp only[Bi,bC_]at a;repeat' first|refine og uH (D.bw j d) ?_|refine bg uH (pl g) (λ_=>?_) λ_=>?_|refine cg uH (λb=>?_) λb=>?_|refine ag uH λ_ _=>?_|refine xG uH ?_|refine rG uH ?_|refine fq ?_
   all_goals first|omega|refine aO ?_;rw[a,show V=false by grind];rfl|refine I.bu (σ:=Int) _ [] ?_ ?_ cq;grind[kc];omega
  ·have s:=Y8 (U:=U) (O:=O) ⟨p,q⟩ ⟨n,o⟩ (e _ (aZ r)) (e _ (aZ d));simp only[Bi,QH]at a;let⟨C,z⟩:=au (po ⟨p,q⟩ ⟨n,o⟩);rw[<-z]at s a;repeat' first|refine og uH (D.bw j d) ?_|refine og uH (D.ind rfl rfl (du (l:=l) (k:=k-1) X r) (cJ λ_=>rfl)) ?_|refine bg uH (pl g) (λ_=>?_) λ_=>?_|refine ig uH (pl s) λ_ _=>?_|refine cg uH (λb=>?_) λb=>?_|refine ag uH λ_ _=>?_|refine xG uH ?_|refine rG uH ?_|refine fq ?_
   all_goals first|omega|refine aO ?_;rw[a,show V=false by grind];rfl|refine aO ?_;rw[a,decide_eq_false (show¬C<0 by omega)];simp;done|refine I.bu (σ:=Int) _ [] ?_ ?_ cq;grind[kc];omega
 ·skip;repeat' first|refine cg uH (λb=>?_) λb=>?_|refine xG uH ?_|refine fq ?_
  all_goals first|omega|rw[a,ar_ X,sv];exact aO rfl
theorem Zd(l:List Fi)(B:l.length<=1099511627776)(g:∀x∈l,x.ok):ad U 112 [mX O l] (.v (.bool (lu l))):=by
 let⟨R,d⟩:=au (lu l);rw[<-d];rw[K8]at d;refine st apK iH .v ?_;repeat' first|exact dV a|refine cg iH (λa=>?_) λa=>?_|refine lg iH λm h=>?_|refine ag iH λ_ _=>?_|refine iJ λ_ _=>?_;refine H iH ?_|refine I.str rfl (D.cat rfl rfl Z) λ_ _=>?_;refine H iH ?_|refine xG iH ?_|refine rG iH ?_|refine fq ?_
 refine aO ?_;rw[d,decide_eq_false X];rfl;rw[decide_eq_true X,az_]at d;refine I.eH (σ:=Int) 0 0 [] (λi=>[(0,mX O l),(3,.v (.int .i64 i))]) [] (λ_=>[]) (λi=>∃(k:Nat) (j:Option Fi),i=k/\k<=l.length/\R=lj ue QH j (l.drop k)/\CM l k j) (λi=>l.length-i.toNat) 0 ⟨0,none,rfl,aE,Z,.inl ⟨rfl,rfl⟩⟩ rfl cq ?_;rintro i⟨k,j,p,E,b,u⟩;clear d;refine H iH ?_;by_cases v:k<l.length
 ·let⟨x,c,w⟩:=aC v;rw[w,j_]at b;have n:=ahG (U:=U) (O:=O) x (g x (aZ c));let⟨V,y⟩:=au (ue x);rw[<-y]at n b;let⟨e,f⟩:=x;rcases u with⟨rfl,rfl⟩|⟨⟨q,r⟩,z,s,rfl⟩
  ·simp only[Bi,bC_]at b;repeat' first|refine og iH (D.bw p c) ?_|refine bg iH (pl n) (λ_=>?_) λ_=>?_|exact dV a|refine cg iH (λa=>?_) λa=>?_|refine lg iH λm h=>?_|refine ag iH λ_ _=>?_|refine iJ λ_ _=>?_;refine H iH ?_|refine I.str rfl (D.cat rfl rfl Z) λ_ _=>?_;refine H iH ?_|refine xG iH ?_|refine rG iH ?_|refine fq ?_
   all_goals first|omega|refine aO ?_;rw[b,show V=false by grind];rfl|refine I.bu (σ:=Int) _ [] ?_ ?_ cq;refine⟨0+1,some ⟨e,f⟩,X,X,?_,kc c⟩;rw[b,show V=true by grind];rfl;omega
  ·have t:=Y_ (U:=U) (O:=O) ⟨q,r⟩ ⟨e,f⟩ (g _ (aZ s)) (g _ (aZ c));simp only[Bi,QH]at b;let⟨C,A⟩:=au (po ⟨q,r⟩ ⟨e,f⟩);rw[<-A]at t b;repeat' first|refine og iH (D.bw p c) ?_|refine og iH (D.ind rfl rfl (du (l:=l) (k:=k-1) X s) (cJ λ_=>rfl)) ?_|refine bg iH (pl n) (λ_=>?_) λ_=>?_|refine ig iH (pl t) λ_ _=>?_|exact dV a|refine cg iH (λa=>?_) λa=>?_|refine lg iH λm h=>?_|refine ag iH λ_ _=>?_|refine iJ λ_ _=>?_;refine H iH ?_|refine I.str rfl (D.cat rfl rfl Z) λ_ _=>?_;refine H iH ?_|refine xG iH ?_|refine rG iH ?_|refine fq ?_
   all_goals first|omega|refine aO ?_;rw[b,show V=false by grind];rfl|refine aO ?_;rw[b,decide_eq_false (show¬C<0 by omega)];simp;done|refine I.bu (σ:=Int) _ [] ?_ ?_ cq;refine⟨k+1,some ⟨e,f⟩,X,X,?_,kc c⟩;rw[b,show V=true by grind,decide_eq_true (show C<0 by omega)];rfl;omega
 ·skip;repeat' first|exact dV a|refine cg iH (λa=>?_) λa=>?_|refine lg iH λm h=>?_|refine ag iH λ_ _=>?_|refine iJ λ_ _=>?_;refine H iH ?_|refine I.str rfl (D.cat rfl rfl Z) λ_ _=>?_;refine H iH ?_|refine xG iH ?_|refine rG iH ?_|refine fq ?_
  all_goals first|omega|rw[b,ar_ X,sv];exact aO rfl
end
inductive Tr(Y:Type) where|nil|nd (l:Tr Y) (v:Option Y) (r:Tr Y)
def QJ{Y:Type}:Nat->Tr Y->Nat->Y->Tr Y
 |0,t,_,_=>t|m+1,.nil,k,a=>match Nat.beq k 0 with|true=>.nd .nil (some a) .nil|false=>match Nat.beq (k%2) 1 with|true=>.nd (QJ m .nil (k/2) a) none .nil|false=>.nd .nil none (QJ m .nil (k/2-1) a)
 |m+1,.nd l v r,k,a=>match Nat.beq k 0 with|true=>.nd l (some a) r|false=>match Nat.beq (k%2) 1 with|true=>.nd (QJ m l (k/2) a) v r|false=>.nd l v (QJ m r (k/2-1) a)
def put{Y:Type}(t:Tr Y)(k:Nat)(a:Y):Tr Y:=QJ (k+1) t k a
abbrev zz9:=Nat->(Nat->Nat->Prop)->(Nat->Prop)->World->Prop
structure XS where
 m:Tr (Option Ob)nx:Nat
 lw:Nat
 yk:Option Nat
 an:Nat
 lg:List (List AV×Bool)
def wP(F:AV->Option AV):List AV->Option (List AV)|[]=>some []|a::l=>match F a with
  |some b=>match wP F l with|some c=>some (b::c)|none=>none
  |none=>none
def Gk(F:AV->Option AV):List (List AV)->Option (List (List AV))|[]=>some []|a::l=>match wP F a with
  |some b=>match Gk F l with|some c=>some (b::c)|none=>none
  |none=>none
def nM(S:ao):Nat->AV->Option AV|0,_=>none|m+1,a=>match a with
  |.v x=>some (.v x)|.agg l=>match wP (nM S m) l with|some b=>some (.agg b)|none=>none
  |.aM l=>match wP (nM S m) l with|some b=>some (.aM b)|none=>none
  |.sl _ rows=>match Gk (nM S m) rows with|some b=>some (.sl false b)|none=>none
  |.ip g=>match wP (nM S m) g with|some b=>some (.ip b)|none=>none
  |.fn f l c=>match wP (nM S m) l,wP (nM S m) c with|some b,some h=>some (.fn f b h)|_,_=>none
  |.ob k e off len _=>match S.get k with
   |some (.arr d rows _ _)=>match Nat.beq d e&&Nat.ble (off+len) rows.length with
    |true=>match Gk (nM S m) ((rows.drop off).take len) with|some b=>some (.sl false b)|none=>none
    |false=>none
   |_=>none
  |.gr k e len=>match S.get k with
   |some (.arr d rows _ _)=>match Nat.beq d e&&Nat.ble len rows.length with
    |true=>match Gk (nM S m) (rows.take len) with|some b=>some (.sl false b)|none=>none
    |false=>none
   |_=>none
  |.pt k e i j=>match S.get k with
   |some (.arr d rows _ _)=>match Nat.beq d e with
    |true=>match rows[i]? with
     |some row=>match Nat.ble j row.length with
      |true=>match wP (nM S m) (row.drop j) with|some b=>some (.ip b)|none=>none
      |false=>none
     |none=>none
    |false=>none
   |_=>none
  |_=>none
def D2(F:AV->Bool):List AV->Bool|[]=>true|a::l=>match F a with|true=>D2 F l|false=>false
def WI(F:AV->Bool):List (List AV)->Bool|[]=>true|a::l=>match D2 F a with|true=>WI F l|false=>false
def D3:Nat->AV->Bool|0,_=>false|m+1,a=>match a with
  |.v _=>true|.agg l|.aM l|.ip l=>D2 (D3 m) l|.sl _ rows=>WI (D3 m) rows|.fn _ l c=>match D2 (D3 m) l with|true=>D2 (D3 m) c|false=>false
  |_=>false
theorem uh{F:AV->Bool}:∀{l:List AV},D2 F l=true->∀a∈l,F a=true|[],_,a,h=>Z|b::l,c,a,h=>by simp only[D2]at c;split at c;rename_i d;rcases al_.1 h with rfl|h;grind;exact uh c a h;grind
theorem QK{F:AV->Bool}:∀{l:List (List AV)},WI F l=true->∀r∈l,∀a∈r,F a=true|[],_,a,h=>Z|b::l,c,a,h=>by simp only[WI]at c;split at c;rename_i d;rcases al_.1 h with rfl|h;exact uh d;exact QK c a h;grind
theorem lJ:∀{m:Nat}{a:AV},D3 m a=true->Pure a|0,a,h=>by cases h|m+1,a,h=>by cases a with|v x=>exact .v|agg l=>exact .agg λa b=>lJ (uh h a b)|aM l=>exact .aM λa b=>lJ (uh h a b)|ip l=>exact .ip λa b=>lJ (uh h a b)|sl g rows=>exact .sl λr d a b=>lJ (QK h r d a b)|fn f l c =>simp only[D3]at h;split at h;rename_i e;exact .fn (λa b=>lJ (uh e a b)) λa b=>lJ (uh h a b);grind|_=>cases h
theorem QL{m:Nat}:∀{l:List AV},D2 (D3 m) l=true->iZ l|[],_=>trivial|a::l,h=>by simp only[D2]at h;split at h;rename_i b;exact⟨lJ b,QL h⟩;grind
theorem Iq{F:AV->Option AV}:∀{l c:List AV},wP F l=some c->l.length=c.length/\∀(i:Nat)(a a':AV),l[i]?=some a->c[i]?=some a'->F a=some a'
 |[],c,h=>by cases oJ_ h;exact⟨rfl,λi a a' h=>Z⟩|b::l,c,h=>by
  simp only[wP]at h;split at h;rename_i k f;split at h;rename_i m g;cases oJ_ h;let⟨n,j⟩:=Iq g;refine⟨Z,λi a a' d e=>?_⟩;cases i with|zero=>simp at d e;subst d e;exact f|succ i=>simp at d e;exact j i a a' d e
  grind;grind
theorem CO{F:AV->Option AV}:∀{l c:List (List AV)},Gk F l=some c->l.length=c.length/\∀(i:Nat)(a a':List AV),l[i]?=some a->c[i]?=some a'->wP F a=some a'
 |[],c,h=>by cases oJ_ h;exact⟨rfl,λi a a' h=>Z⟩|b::l,c,h=>by
  simp only[Gk]at h;split at h;rename_i k f;split at h;rename_i m g;cases oJ_ h;let⟨n,j⟩:=CO g;refine⟨Z,λi a a' d e=>?_⟩;cases i with|zero=>simp at d e;subst d e;exact f|succ i=>simp at d e;exact j i a a' d e
  grind;grind
theorem vn:∀{m:Nat}{a a':AV},nM S m a=some a'->aL S a a'/\Pure a'
 |0,a,a',h=>by cases h|m+1,a,a',h=>by
  have u:∀{l g:List AV},wP (nM S m) l=some g->∀b∈g,Pure b:=λ{l g}d b s=>by let⟨o,n⟩:=Iq d;let⟨i,y⟩:=cA_ s;have F:i<l.length:=Z;exact(vn (n i _ b (ax_ F) y)).2
  have bw:∀{l g:List AV},wP (nM S m) l=some g->l.length=g.length/\∀(i:Nat)(a a':AV),l[i]?=some a->g[i]?=some a'->aL S a a':=λd=>⟨(Iq d).1,λi a a' o n=>(vn ((Iq d).2 i a a' o n)).1⟩;have w:∀{l g:List (List AV)},Gk (nM S m) l=some g->∀r∈g,∀b∈r,Pure b:=λ{l g}d r Q=>by let⟨o,n⟩:=CO d;let⟨i,y⟩:=cA_ Q;have F:i<l.length:=Z;exact u (n i _ r (ax_ F) y)
  have atR:∀{l g:List (List AV)},Gk (nM S m) l=some g->l.length=g.length/\(∀(i:Nat)(r t:List AV),l[i]?=some r->g[i]?=some t->r.length=t.length) /\∀(i j:Nat)(r t:List AV)(a a':AV),l[i]?=some r->g[i]?=some t->r[j]?=some a->t[j]?=some a'->aL S a a':=λd =>⟨(CO d).1,λi r t o n=>(bw ((CO d).2 i r t o n)).1,λi j r t a a' o n z A=>(bw ((CO d).2 i r t o n)).2 j a a' z A⟩;cases a with|v x=>cases oJ_ h;exact⟨.refl _,.v⟩|agg l =>simp only[nM]at h;split at h;rename_i g d;cases oJ_ h;exact⟨.agg (bw d).1 (bw d).2,.agg (u d)⟩;grind|aM l =>simp only[nM]at h;split at h;rename_i g d;cases oJ_ h;exact⟨.aM (bw d).1 (bw d).2,.aM (u d)⟩;grind|ip l =>simp only[nM]at h;split at h;rename_i g d;cases oJ_ h;exact⟨.ip (bZ_ (bw d).1.symm) (bw d).2,.ip (u d)⟩;grind|sl G rows =>simp only[nM]at h;split at h;rename_i g d;cases oJ_ h;exact⟨.sl (atR d).1 (atR d).2.1 (atR d).2.2,.sl (w d)⟩;grind|fn f l c =>simp only[nM]at h;split at h;rename_i g R d J;cases oJ_ h;exact⟨.fn (bw d).1 (bw J).1 (bw d).2 (bw J).2,.fn (u d) (u J)⟩;grind|ob k N off len cx =>simp only[nM]at h;split at h;rename_i B rows fz G C;split at h;rename_i s;simp only[aw_]at s;have e:=aT_ s.1;have K:=aA_ s.2;subst e;split at h;rename_i g d;cases oJ_ h;let⟨q1,E,L⟩:=atR d;have M:g.length=len:=Z;have get:∀(i:Nat)(row p:List AV),rows[off+i]?=some row->g[i]?=some p->((rows.drop off).take len)[i]?=some row:=λi row p o n=>Z;exact⟨.ob C K M (λi row p o n=>E i row p (get i row p o n) n) λi j row p a a' o n z A=>L i j row p a a' (get i row p o n) n z A,.sl (w d)⟩;grind;grind;grind|gr k N len =>simp only[nM]at h;split at h;rename_i B rows fz G C;split at h;rename_i s;simp only[aw_]at s;have e:=aT_ s.1;have K:=aA_ s.2;subst e;split at h;rename_i g d;cases oJ_ h;let⟨q1,E,L⟩:=atR d;have M:g.length=len:=Z;have get:∀(i:Nat)(row p:List AV),rows[i]?=some row->g[i]?=some p->(rows.take len)[i]?=some row:=λi row p o n=>Z;exact⟨.gr C K M (λi row p o n=>E i row p (get i row p o n) n) λi j row p a a' o n z A=>L i j row p a a' (get i row p o n) n z A,.sl (w d)⟩;grind;grind;grind|pt k N i j =>simp only[nM]at h;split at h;rename_i B rows fz G C;split at h;rename_i s;have e:=aT_ s;subst e;split at h;rename_i row y;split at h;rename_i P;have P:=aA_ P;split at h;rename_i g d;cases oJ_ h;let⟨q1,E⟩:=bw d;simp at q1;exact⟨.pt C y X λq a a' o n=>E q a a' Z n,.ip (u d)⟩;grind;grind;grind;grind;grind|_=>cases h
theorem aL.mono{S T:ao}(h:∀k sz rows fz ex,S.get k=some (.arr sz rows fz ex)->T.get k=some (.arr sz rows fz ex)){a':AV}(j:aL S a a'):aL T a a':=by induction j with|refl a=>exact .refl a|agg g h b=>exact .agg g b|aM g h b=>exact .aM g b|ob f c d e i b=>exact .ob (h _ _ _ _ _ f) c d e b|pt f c d e b=>exact .pt (h _ _ _ _ _ f) c d b|fn c d e i l m=>exact .fn c d l m|sl c d e b=>exact .sl c d b|ip c d b=>exact .ip c b|gr f c d e i b=>exact .gr (h _ _ _ _ _ f) c d e b
section
variable{r:AV}
theorem St.Ir{g:Gh}{k:Nat}{ob:Ob}{es':List (Value×AV)}{entries entries':Array MapEntry}{clock:Nat}(c:St U A g S w)(d:S.get k=some ob)(f:∀J,ob≠.fo J)(h:g.al k)(b:w.heap[g.ob k]?=some (.map entries clock))(j:entries'.size=es'.length)(l:∀(i:Nat) (k:Value) (a:AV),es'[i]?=some (k,a)->∃e:MapEntry,entries'[i]?=some e/\e.key=k/\aT g w a e.val)(m:∀(i:Nat) (e:MapEntry),entries'[i]?=some e->e.born=i):∃w',(setObj (g.ob k) (.map entries' entries'.size)).run P w=.ok () w'/\St U A g (S.set k (some (.mb es'))) w'/\Ext A g w g w':=by have n:({w with heap:=w.heap.setIfInBounds (g.ob k) (.map entries' entries'.size) }:World).heap[g.ob k]?=some (.map entries' entries'.size):=Z;let⟨o,p⟩:=c.putObj (ob:=.mb es') d h (λJ=>⟨f J,aE⟩) (x':=.map entries' entries'.size) rfl λq=>by simp only[World.cell?,n,b] λr s=>⟨entries',s,j,λi key a t=>by let⟨e,q1,u,v⟩:=l i key a t;exact⟨e,q1,u,v.later r⟩,m⟩;exact⟨_,by simp[setObj,Sem.run,b],p,o⟩
theorem WJ(c:o.op=.makeMap t none):bt P U n o Y S (.mp S.nx) (S.new (.mb [])):=by intro A g q w d l;let⟨f,j⟩:=d.new (.map #[] 0) (.mb []) 0 (λJ=>aE) λm=>⟨#[],eB,rfl,λi k a h=>Z,λi e h=>Z⟩;have b:=aT.mp (g:=g.new S.nx w.heap.size 0) (w:=w.alloc (.map #[] 0)) (.inr rfl);rw[show(g.new S.nx w.heap.size 0).ob S.nx=w.heap.size from aK _ _ _]at b;refine⟨_,_,_,.inl ?_,b,j,f⟩;simp[execOp,c,Instr.makeMap,newObj,Sem.run]
theorem D.K9:D P U false (.kY none) Y S (.mp S.nx) (S.new (.mb [])):=D.run λn o a=>by let⟨t,y,d,e,b,c,f⟩:=Gm a;cases y with|some y=>cases c|none=>exact WJ b
theorem D.gG{c:Bool}{k:Nat}(b:x.ev Y.tm=.mp k)(d:S.get k=some (.mb es))(e:qM es)(hi:i.ev Y.tm=.v (.int .i64 m)):D P U false (.look z c x i) Y S (match vo es m with|some a=>if c then .aM [a,.v (.bool true)] else a|none=>if c then .aM [z,.v (.bool false)] else z) S:=D.run λn o f=>by obtain⟨t,u,v,B,C,kk,E,h,rfl,rfl,j,l,p,rfl⟩:=J3 f;rw[aY]at b hi;exact Gp h j l p b (λA g w q r=>by let⟨_,_,entries,q1,s,y,_⟩:=q.dh k _ d r;exact⟨entries,_,q1,s,y⟩) e hi
theorem Ze{W et:TypeId}{x i y:Operand}{k:Nat}{b:AV}(ho:o.op=.mapUpdate t x i y)(ht:P.underlying t=some (.map W et))(p:P.underlying W=some (.int kk))(hx:Y.ev x=.mp k)(u:S.get k=some (.mb es))(hk:qM es)(hi:Y.ev i=.v (dM m))(hy:Y.ev y=b):bt P U n o Y S (.v undef) (S.set k (some (.mb (DY es m b)))):=by
 intro A g q w z B;have h1:=B.ev x;have h2:=B.ev i;have C:=B.ev y;rw[hx]at h1;rw[hi]at h2;rw[hy]at C;let⟨e1,E⟩:=vf h1;have e2:=cF h2;let⟨v,F⟩:∃v,q.eval y=v:=⟨_,rfl⟩;rw[F]at C;let⟨_,_,entries,r,s,G,K⟩:=z.dh k _ u E;have l:=Gq s G hk (kk:=kk) m;unfold DY;cases L:nr es m with|none =>
  rw[L]at l;let⟨M,q1,N,Q⟩:=z.Ir (P:=P) u (λJ=>aE) E r (entries':=entries.push {key:=dM m,val:=v,born:=entries.size }) (es':=es++[(dM m,b)]) (by simp[s]) (λi key a hi=>by
   by_cases c:i<es.length;rw[bj_ c]at hi;let⟨e,h,T,r3⟩:=G i key a hi;exact⟨e,Z,T,r3⟩;rw[br_ X]at hi;have Qo:i=es.length:=by have:=(aC_.1 hi).1;simp at this;omega
   subst Qo;simp at hi;obtain⟨rfl,rfl⟩:=hi;exact⟨{key:=dM m,val:=v,born:=entries.size },by rw[<-s];simp,rfl,C⟩) (λi e f=>by rw[dQ_]at f;split at f;rename_i V;rw[<-oJ_ f,V];exact K i e f);refine⟨undef,M,g,.inr ⟨?_,rfl⟩,.v,N,Q⟩;simp only[Array.size_push]at q1;simp only[execOp,ho,e1,e2,F,Instr.mapUpdate,Sem.run_bind,run_underlying ht,Result.andThen_ok,i_ r,run_checkKey p,run_findKey p l,q1,Sem.run_pure]|some j =>
  let⟨a,ha⟩:=zw hk L;let⟨e,h,T,r3⟩:=G j _ a ha;rw[L]at l;simp only[h,aN_]at l;have nB:j<entries.size:=(cF_.1 h).1;let⟨M,q1,N,Q⟩:=z.Ir (P:=P) u (λJ=>aE) E r (entries':=entries.modify j λe=>{e with key:=dM m,val:=v }) (es':=es.set j (dM m,b)) (by simp[s]) λi key a' hi=>by grind[dM] (λi V f=>by rw[dR_]at f;split at f;rename_i c;subst c;rw[h]at f;cases oJ_ f;exact K j e h;exact K i V f);refine⟨undef,M,g,.inr ⟨?_,rfl⟩,.v,N,Q⟩;have fH:(Instr.keyThatStays ((entries[j]?.map (·.key)).getD (dM m)) (dM m)).run P w=.ok (dM m) w:=by rw[h];simp[Instr.keyThatStays,T,Instr.sameBits,dM]
  simp only[Array.size_modify]at q1;simp only[execOp,ho,e1,e2,F,Instr.mapUpdate,Sem.run_bind,run_underlying ht,Result.andThen_ok,i_ r,run_checkKey p,run_findKey p l,fH,q1,Sem.run_pure]
theorem D.Bm{k:Nat}(c:x.ev Y.tm=.mp k)(e:S.get k=some (.mb es))(f:qM es)(hi:i.ev Y.tm=.v (.int .i64 m))(d:b.ev Y.tm=a):D P U false (.pj x i b) Y S (.v undef) (S.set k (some (.mb (DY es m a)))):=D.run λn o g=>by obtain⟨t,u,v,y,p,q,kk,h,rfl,rfl,rfl,j,l⟩:=JW g;rw[aY]at c hi d;exact Ze h j l c e f hi d
theorem acv{o:Op}(h:res P.toTables o=some (.J4 z x i)):∃t u v a b kk c,o=.mapEntry t u v/\x=qo u/\i=qo v/\P.underlying t=some (.map a b)/\P.underlying a=some (.int kk)/\eL P b=some c/\z=lift c:=by cases o with|mapEntry t u v =>simp only[res,cU,lS]at h;split at h;grind;grind|_ =>
  simp only[res]at h;repeat' split at h
  all_goals cases h
theorem acw{o:Op}(h:res P.toTables o=some (.J5 x i b)):∃t u v y,o=.entryStore t u v y/\x=qo u/\i=qo v/\b=qo y:=by cases o with|entryStore t u v y =>simp only[res,cU]at h;split at h;grind;grind|_ =>
  simp only[res]at h;repeat' split at h
  all_goals cases h
theorem acx{l E:TypeId}{b:Value}{k:Nat}(ho:o.op=.mapEntry t u v)(ht:P.underlying t=some (.map l E))(F:P.underlying l=some (.int kk))(hz:eL P E=some b)(f:Y.ev u=.mp k)(G:S.get k=some (.mb es))(K:qM es)(hi:Y.ev v=.v (.int .i64 m))(y:vo es m=none):bt P U n o Y S (.aM [lift b,.v (.int .i64 es.length)]) (S.set k (some (.mb (es++[(dM m,lift b)])))):=by
 intro A g q w L M;have N:=M.ev u;have Q:=M.ev v;rw[f]at N;rw[hi]at Q;let⟨e1,R⟩:=vf N;have z:=cF Q;let⟨_,_,entries,T,p,V,p4⟩:=L.dh k _ G R;have W:=Gq p V K (kk:=kk) m;have r:nr es m=none:=by unfold vo at y;cases r:nr es m with|none=>rfl|some j =>let⟨a,d⟩:=zw K r;rw[r]at y;simp[d]at y
 rw[r]at W;let⟨w',q1,q2,q3⟩:=L.Ir (P:=P) G (λJ=>aE) R T (entries':=entries.push {key:=dM m,val:=b,born:=entries.size }) (es':=es++[(dM m,lift b)]) (by simp[p]) (λi key a hi=>by
  by_cases c:i<es.length;rw[bj_ c]at hi;let⟨e,r1,r2,r3⟩:=V i key a hi;exact⟨e,Z,r2,r3⟩;rw[br_ X]at hi;have Qo:i=es.length:=by have:=(aC_.1 hi).1;simp at this;omega
  subst Qo;simp at hi;obtain⟨rfl,rfl⟩:=hi;exact⟨{key:=dM m,val:=b,born:=entries.size },by rw[<-p];simp,rfl,zH b⟩) (λi e s=>by rw[dQ_]at s;split at s;rename_i e';rw[<-oJ_ s,e'];exact p4 i e s);refine⟨.tuple #[b,goInt entries.size],w',g,.inl ?_,?_,q2,q3⟩;simp only[Array.size_push]at q1;have B:(Instr.checkKey false 10000 l (dM m)).run P w=.ok () w:=run_checkKey F false m;have C:(Instr.findKey l (dM m) entries.toList).run P w=.ok none w:=run_findKey F W;have z:q.eval v=dM m:=z;simp only[execOp,ho,e1,z,Instr.mapEntry,Sem.run_bind,run_underlying ht,Result.andThen_ok,i_ T,B,C,rf hz,q1,Sem.run_pure];refine .aM rfl λi a x d f=>?_;match i with|0=>simp at d f;subst d f;exact zH b|1=>simp at d f;subst d f;rw[p];exact .v|i+2=>simp at d
theorem bj.J4{B:Nat}{k:Nat}(h:x.ev Y.tm=.mp k)(y:S.get k=some (.mb es))(j:qM es)(hi:i.ev Y.tm=.v (.int .i64 m))(l:vo es m=none):bj P U B (.J4 z x i) Y S (.aM [z,.v (.int .i64 es.length)]) ⟨[(k,.mb es)],[(k,some (.mb (es++[(dM m,z)])))],false⟩:=by
 intro n o q;obtain⟨t,u,v,A,C,kk,g,a,rfl,rfl,b,r,d,rfl⟩:=acv q;rw[aY]at h hi;refine⟨λf=>(by rw[a]at f;cases f),show gQ S [(k,.mb es)] fromλp f=>Z,λT _ s _=>?_⟩;have e:∀z∈[u,v],(Y.only (d_ o)).ev z=Y.ev z:=λz d=>h_ λt b=>ic (by rw[a];simp[Op.operands,<-b];simpa using d);have w:fA T [(k,some (.mb (es++[(dM m,lift g)])))] false=T.set k (some (.mb (es++[(dM m,lift g)]))):=by cases T;rfl
 rw[w];exact(acx a b r d Z (s (k,_) aE) j Z l).ops λc e=>Z
theorem acy{y:Operand}{k j:Nat}(M:o.op=.entryStore t u v y)(N:Y.ev u=.mp k)(r:S.get k=some (.mb es))(hi:Y.ev v=.v (.int .i64 j))(Q:Y.ev y=a)(R:es[j]?=some p):bt P U n o Y S (.v undef) (S.set k (some (.mb (es.set j (p.1,a))))):=by
 intro A g q w s h;have x:=h.ev u;have z:=h.ev v;have B:=h.ev y;rw[N]at x;rw[hi]at z;rw[Q]at B;let⟨T,C⟩:=vf x;have V:=cF z;let⟨W,E⟩:∃v,q.eval y=v:=⟨_,rfl⟩;rw[E]at B;let⟨_,_,entries,F,p2,G,f⟩:=s.dh k _ r C;let⟨K,pa⟩:=p;let⟨e,l,r2,r3⟩:=G j K pa R;have L:j<entries.size:=(cF_.1 l).1;have U0:entries.findIdx? λe=>(e.born:Int)==(j:Int)=some j:=by rw[Array.findIdx?_eq_some_iff_getElem];refine⟨L,?_,λi hi=>?_⟩;have:=f j _ (aM_ L);simp[this];have:=f i _ (aM_ X);simp[this];omega
 let⟨w',q1,q2,q3⟩:=s.Ir (P:=P) r (λJ=>aE) C F (entries':=entries.modify j λe=>{e with val:=W }) (es':=es.set j (K,a)) (by simp[p2]) (λi key a' hi=>by rw[List.getElem?_set]at hi;by_cases c:j=i;grind;rw[if_neg c]at hi;let⟨m,s1,s2,s3⟩:=G i key a' hi;exact⟨m,Z,s2,s3⟩) (λi m d=>by rw[dR_]at d;split at d;rename_i c;subst c;rw[l]at d;cases oJ_ d;exact f j e l;exact f i m d);refine⟨undef,w',g,.inr ⟨?_,rfl⟩,.v,q2,q3⟩;simp only[Array.size_modify]at q1;simp only[execOp,M,T,V,E,Instr.entryStore,Sem.run_bind,Sem.run_pure,Result.andThen_ok,i_ F,asInt,asIntOf,U0,q1]
theorem bj.J5{B:Nat}{k j:Nat}(g:x.ev Y.tm=.mp k)(A:S.get k=some (.mb es))(hi:i.ev Y.tm=.v (.int .i64 j))(h:b.ev Y.tm=a)(l:es[j]?=some p):bj P U B (.J5 x i b) Y S (.v undef) ⟨[(k,.mb es)],[(k,some (.mb (es.set j (p.1,a))))],false⟩:=by
 intro n o m;obtain⟨t,u,v,y,d,rfl,rfl,rfl⟩:=acw m;rw[aY]at g hi h;refine⟨λf=>(by rw[d]at f;cases f),show gQ S [(k,.mb es)] fromλp f=>Z,λT _ q _=>?_⟩;have e:∀z∈[u,v,y],(Y.only (d_ o)).ev z=Y.ev z:=λz r=>h_ λt s=>ic (by rw[d];simp[Op.operands,<-s];simpa using r);have w:fA T [(k,some (.mb (es.set j (p.1,a))))] false=T.set k (some (.mb (es.set j (p.1,a)))):=by cases T;rfl
 rw[w];exact(acy d Z (q (k,_) aE) Z Z l).ops λc e=>Z
end
section
variable{rd:Bool}{r:AV}{l:List QI}
variable{f:T->AV}
theorem I.K9(O:Hd)(f:T->AV)(a:bJ Y.tm g=some true)(b:∀kv:List (Int×T),kv=[]->I P U rd n Q (.bp false l K) (bX d Y (.mp S.nx)) (S.new (.mb (O.h (ec f) kv)))):I P U rd n Q (.bp false (⟨d,g,.kY none⟩::l) K) Y S:=by have h:=b [] rfl;rw[O.eq]at h;exact I.op (i:=⟨d,g,.kY none⟩) a D.K9 h
theorem I.gG{c:Bool}{k:Nat}(b:bJ Y.tm g=some true)(e:x.ev Y.tm=.mp k)(j:S.get k=some (.mb (O.h (ec f) kv)))(hi:i.ev Y.tm=.v (.int .i64 m))(o:∀v,aN kv m=some v->I P U rd n Q (.bp false l K) (bX d Y (if c then .aM [f v,.v (.bool true)] else f v)) S)(p:aN kv m=none->I P U rd n Q (.bp false l K) (bX d Y (if c then .aM [z,.v (.bool false)] else z)) S):I P U rd n Q (.bp false (⟨d,g,.look z c x i⟩::l) K) Y S:=by have h:=D.gG (P:=P) (U:=U) (z:=z) (c:=c) e j (by rw[O.eq];exact uF) hi;rw[O.eq,Bn]at h;refine I.op (i:=⟨d,g,.look z c x i⟩) b h ?_;cases a:aN kv m with|some v=>exact o v a|none=>exact p a
theorem I.Bm{k:Nat}{v:T}(c:bJ Y.tm g=some true)(e:x.ev Y.tm=.mp k)(j:S.get k=some (.mb (O.h (ec f) kv)))(hi:i.ev Y.tm=.v (.int .i64 m))(o:b.ev Y.tm=f v)(p:∀a,a=iA kv m v->I P U rd n Q (.bp false l K) (bX d Y (.v undef)) (S.set k (some (.mb (O.h (ec f) a))))):I P U rd n Q (.bp false (⟨d,g,.pj x i b⟩::l) K) Y S:=by have h:=D.Bm (P:=P) (U:=U) e j (by rw[O.eq];exact uF) hi o;rw[O.eq,JX,<-O.eq (ec f)]at h;exact I.op (i:=⟨d,g,.pj x i b⟩) c h (p _ rfl)
theorem I.aft{lg:List (List Nat×List Nat×Bool)}{k:Nat}{z0:T}(b:bJ Y.tm g=some true)(c:x.ev Y.tm=.mp k)(o:S.get k=some (.mb (O.h (ec f) kv)))(hi:i.ev Y.tm=.v (.int .i64 m))(p:f z0=z)(q:aN kv m=none)(r:∀a (j:Int),a=kv++[(m,z0)]->j=kv.length->I P U rd n Q (.kM B V (lg++[([k],[k],false)]) rs l K) (bX d Y (.aM [z,.v (.int .i64 j)])) (fA S [(k,some (.mb (O.h (ec f) a)))] false)):I P U rd n Q (.kM B V lg rs (⟨d,g,.J4 z x i⟩::l) K) Y S:=by
 have h:=bj.J4 (P:=P) (U:=U) (B:=B) (z:=z) c o (by rw[O.eq];exact uF) hi (by rw[O.eq,Bn,q];rfl);have s:=r _ _ rfl rfl;have e:O.h (ec f) kv++[(dM m,z)]=O.h (ec f) (kv++[(m,z0)]):=by rw[O.eq,O.eq];simp[ec,p]
 have t:(O.h (ec f) kv).length=kv.length:=by rw[O.eq];simp[ec]
 rw[e,t]at h;exact I.eV (i:=⟨d,g,.J4 z x i⟩) b h s
theorem I.afu{lg:List (List Nat×List Nat×Bool)}{k:Nat}{j:Int}{v z0:T}{a:List (Int×T)}(q:bJ Y.tm g=some true)(r:x.ev Y.tm=.mp k)(s:S.get k=some (.mb (O.h (ec f) kv)))(hi:i.ev Y.tm=.v (.int .i64 j))(t:b.ev Y.tm=f v)(u:kv=a++[(m,z0)])(w:j=a.length)(y:∀c,c=a++[(m,v)]->I P U rd n Q (.kM B V (lg++[([k],[k],false)]) rs l K) (bX d Y (.v undef)) (fA S [(k,some (.mb (O.h (ec f) c)))] false)):I P U rd n Q (.kM B V lg rs (⟨d,g,.J5 x i b⟩::l) K) Y S:=by
 subst u w;have o:(ec f a).length=a.length:=by simp[ec]
 have e:ec f (a++[(m,z0)])=ec f a++[(dM m,f z0)]:=by simp[ec]
 have h:=bj.J5 (P:=P) (U:=U) (B:=B) (p:=(dM m,f z0)) r s hi t (by rw[O.eq,e,<-o];simp);have z:=y _ rfl;have A:(O.h (ec f) (a++[(m,z0)])).set a.length (dM m,f v)=O.h (ec f) (a++[(m,v)]):=by rw[O.eq,O.eq,e,<-o,ce_ _ _ (aj_ _)];simp[ec]
 rw[A]at h;exact I.eV (i:=⟨d,g,.J5 x i b⟩) q h z
end
section
variable{r:AV}
def WK(P:Program)(t:Target):Prop:=∃(dW:Array TypeId) (b:TypeId) (c:Array Bool) (mt a d:TypeId) (kk:IntKind),t=.builtin .delete dW b c/\dW[0]?=some mt/\P.underlying mt=some (.map a d)/\P.underlying a=some (.int kk)
theorem Zf{g:Gh}{t:Target}{k:Nat}(r:St U A g S w)(N:WK P t)(s:S.get k=some (.mp es))(hi:qM es)(u:g.al k):∃w',(invoke t #[.map (some (g.ob k)),.int .i64 m]).run P w=.ok (.value (.tuple #[])) w'/\St U A g (S.set k (some (.mp (MK es m)))) w'/\Ext A g w g w':=by obtain⟨dW,R,T,mt,v,V,kk,rfl,G,J,x⟩:=N;let⟨_,_,entries,clock,p,y,h⟩:=r.dh k _ s u;have l:=Gq y h hi (kk:=kk) m;have n:∀b,(Instr.checkKey b 10000 v (.int .i64 m)).run P w=.ok () w:=λb=>run_checkKey x b m;unfold MK;cases z:nr es m with|none =>rw[z]at l;let⟨w',q1,B,C⟩:=r.Gb (P:=P) s u p (entries':=entries) (clock':=clock) (es':=es) y h;refine⟨w',?_,B,C⟩;have F:(Instr.findKey v (.int .i64 m) entries.toList).run P w=.ok none w:=run_findKey x l;simp[invoke,builtin,Builtin.delete_,G,Sem.run_bind,run_underlying J,i_ p,n,F,q1]|some j =>
  let⟨a,Q⟩:=zw hi z;let⟨e,K,W,r3⟩:=h j _ a Q;rw[z]at l;simp only[K,aN_]at l;have L:j<entries.size:=(cF_.1 K).1;have o:entries.eraseIdxIfInBounds j=entries.eraseIdx j L:=by simp[Array.eraseIdxIfInBounds,L]
  let⟨w',q1,B,C⟩:=r.Gb (P:=P) s u p (entries':=entries.eraseIdxIfInBounds j) (clock':=clock) (es':=es.eraseIdx j) (by rw[o,Array.size_eraseIdx,List.length_eraseIdx,if_pos X,y]) (λi key M q=>by rw[List.getElem?_eraseIdx]at q;rw[o,Array.getElem?_eraseIdx];split at q;rename_i c;rw[if_pos c];exact h i key M q;rename_i c;rw[if_neg c];exact h (i+1) key M q);refine⟨w',?_,B,C⟩;have F:(Instr.findKey v (.int .i64 m) entries.toList).run P w=.ok (some (j,e.val)) w:=run_findKey x l;simp[invoke,builtin,Builtin.delete_,G,Sem.run_bind,run_underlying J,i_ p,n,F,q1]
theorem T7{fr:Frame}{cs:List Frame}{w':World}{d:Deferred}{ds:List Deferred}{b:Builtin}{dW:Array TypeId}{ty:TypeId}{c:Array Bool}{v:Value}(h:fr.mode≠.run)(f:fr.defers=d::ds)(g:d.target=.builtin b dW ty c)(hi:(invoke d.target d.args).run P w=.ok (.value v) w'):step P (lone fr cs w)=.next (lone {fr with defers:=ds } cs w'):=by let⟨t,a⟩:=d;simp only at g hi;subst g;refine step_lone_go ?_;cases e:fr.mode with|run=>exact absurd e h|returning=>simp[stepG,unwind,callDeferred,e,f,Sem.runT_eq,hi,GStep.bare_after]|panicking chain=>simp[stepG,unwind,callDeferred,e,f,Sem.runT_eq,hi,GStep.bare_after]
def CP(F:Fence)(n:Nat)(P:Program)(fn:Func)(tmps:Array Value)(R:Ending->World->Prop):List Deferred->World->Prop|[],w=>LeavesIn F n P fn tmps R [] .returning w|d::c,w=>∃a,((∃r,d.target=.collected r/\(Instr.takeDeferred r).run P w=.ok [] a)\/∃b dW e f v,d.target=.builtin b dW e f/\(invoke d.target d.args).run P w=.ok (.value v) a)/\CP F n P fn tmps R c a
theorem E5{n:Nat}{fn:Func}:∀(ds:List Deferred)(w:World)(fr:Frame)(cs:List Frame),fr.mode=.returning->fr.defers=ds->fr.tmps=tmps->P.funcs[fr.fn]?=some fn->fr.kind=.normal->F.fn fr.fn->F.room (cs.length+1+n) ->CP F n P fn tmps R ds w->∃e w' a,R e w'/\ComesIn (Machine.fenced P F) P (lone fr cs w) (lone a cs w') e/\a.fn=fr.fn/\a.leaving P w' e:=by intro ds;induction ds with|nil=>exactλw fr cs m f o p q i j h=>leaves_stepsIn [] .returning w fr cs m f o p q i j h|cons d ds G =>intro w fr cs m f o p q i j h;let⟨w',h,J⟩:=h;have s:fr.mode≠.run:=Z;rcases h with⟨r,k,u⟩|⟨b,dW,K,t,v,k,hinv⟩;have x:=step_collected (cs:=cs) s f k u;have y:(lone fr cs w).fenced P F:=fenced_out i j s f (λg l=>by rw[k]at l;simp[Target.leads]at l);let⟨z,A,a,B,C,c,E⟩:=G w' {fr with defers:=[]++ds } cs m rfl o p q i j J;exact⟨z,A,a,B,ComesIn.of_steps (.one y x) C,c,E⟩;have x:=T7 (cs:=cs) s f k hinv;have y:(lone fr cs w).fenced P F:=fenced_out i j s f (λg l=>by rw[k]at l;simp[Target.leads]at l);let⟨z,A,a,B,C,c,E⟩:=G w' {fr with defers:=ds } cs m rfl o p q i j J;exact⟨z,A,a,B,ComesIn.of_steps (.one y x) C,c,E⟩
def Zh(F:Fence)(n:Nat)(P:Program)(fn:Func)(R:Ending->World->Prop):Exit->Act->World->Prop|.normal,a,w|.ret,a,w=>CP F n P fn a.tmps R a.defers w|_,_,_=>False
theorem zu9{n:Nat}{fn:Func}{c:Code}{args:Array Value}(j:P.funcs[f]?=some fn)(y:fn.body=some c)(d:F.fn f)(h:c.wpIn F n P (Zh F n P fn R) {tmps:=args++Array.replicate (fn.ntmps-args.size) undef,defers:=[] } w)(z:F.round=none:=by rfl):CallsIn F n P f args w R:=by
 refine⟨d,λk i=>?_⟩;let b:Frame:={ (default:Frame) with fn:=f,kind:=.normal,roundOf:=none };have A:Frame.enter P f args .normal =b.atR {tmps:=args++Array.replicate (fn.ntmps-args.size) undef,defers:=[] } [.code c]:=by simp[Frame.enter,Frame.atR,j,y,b]
 let⟨e,g,x,a,m⟩:=h b [] k z.symm d i;rw[<-A]at m;cases e with|normal =>let⟨o,p,q,r,s,t,u⟩:=E5 g.defers x {b.atR g [] with mode:=.returning } k rfl rfl rfl j rfl d i a;exact⟨o,p,q,r,ComesIn.of_steps (StepsIn.trans m (.one (fenced_calm (fr:=b.atR g []) d i rfl) (stepR_end rfl))) s,t,u⟩|ret =>let⟨todo,v⟩:=m.1 rfl;let⟨o,p,q,r,s,t,u⟩:=E5 g.defers x {b.atR g todo with mode:=.returning } k rfl rfl rfl j rfl d i a;exact⟨o,p,q,r,ComesIn.of_steps v s,t,u⟩|panic chain=>exact a.elim|exit id=>exact a.elim|goto l=>exact a.elim|outgrown=>exact a.elim
inductive CQ(P:Program):ao->List DE->ao->Prop|nil {S:ao}:CQ P S [] S|ob {S S':ao}{k:Nat}{ks:List DE}(hk:S.get k=some .df) (h:CQ P (S.set k none) ks S'):CQ P S (.ob k::ks) S'|del {S S':ao}{t:Target}{k:Nat}{i:Int}{ks:List DE}{es:List (Value×AV)}(ht:WK P t) (hk:S.get k=some (.mp es)) (he:qM es) (h:CQ P (S.set k (some (.mp (MK es i)))) ks S'):CQ P S (.del t k i::ks) S'
theorem Zi{m:Nat}{fn:Func}{ks:List DE}{S S':ao}(s:CQ P S ks S'):∀{g:Gh}{w:World},St U A g S w->(∀d∈ks,g.al d.k) ->(∀w',St U A g S' w'->Ext A g w g w'->∃v,(results fn tmps).run P w'=.ok v w'/\R (.returned v) w')->CP F m P fn tmps R (ks.map (PI g.ob)) w:=by induction s with|nil=>exactλa _ h=>h _ a (Ext.refl ..)|ob c _ e =>intro g w a b h;let⟨w',f,j,l⟩:=a.take (P:=P) c (b _ (.head _));exact⟨w',.inl ⟨_,rfl,f⟩,e l (λd n=>b d (.tail _ n)) λo p q=>h o p (j.trans q)⟩|@del S S' t k i ks es r c u _ e =>intro g w a b h;let⟨w',f,j,l⟩:=Zf (m:=i) a r c u (b _ (.head _));obtain⟨dW,x,y,mt,z,B,kk,rfl,_⟩:=r;exact⟨w',.inr ⟨_,_,_,_,_,rfl,f⟩,e j (λd n=>b d (.tail _ n)) λo p q=>h o p (l.trans q)⟩
def acA(P:Program)(b:List QR)(R:AV->ao->Prop)(ex:Exit)(Y:AA)(S:ao):Prop :=O7 ex=true/\∃S' r,CQ P S Y.df S'/\(match y_ Y.tm S' b with|some [a]=>some a|some l=>some (.aM l)|none=>none)=some r/\R r S'
theorem qx.auR{R:AV->ao->Prop}(F:qx P f q n)(u:args.length<=n)(h:I P U false n (acA P q.2 R) (.run q.1 []) ⟨qc args,[]⟩ S):∃r S',aG P U f args S r S'/\R r S':=by
 let⟨fn,c,x,y,z,hr,B,C,E⟩:=F.out;let⟨ex,G,S1,J,K,S',r,L,c9,M⟩:=h c B C;have i:Gs P fn.results G S'=some r:=by grind[Gs,QP]
 refine⟨r,S',⟨E,λF m A g d w l N Q=>?_⟩,M⟩;have key:CallsIn F.plain m P f d w λe a=>∃v b,e=.returned v/\aT b a r v/\St U A b S' a/\Ext A g w b a:=by
  refine zu9 x y (l.1 f) ?_ rfl;rw[z];refine wpIn_mono (J F.plain m A g _ w l.plain rfl N (D4 Q u)) ?_;rintro j o a⟨rfl,b,T,k,V⟩;have p:CP F.plain m P fn o.tmps (λe a=>∃v b,e=.returned v/\aT b a r v/\St U A b S' a/\Ext A g w b a) o.defers a:=by rw[k.df];refine Zi L T k.yN λqy s t=>?_;let⟨v,W,h7⟩:=K_ s (k.later t.toLater) i;exact⟨v,W,v,b,rfl,h7,s,V.trans t⟩
  cases j with|normal=>exact p|ret=>exact p|_=>cases K
 exact key
theorem qx.apW{a:AV}(B N:Nat)(so:List (Nat×Ob))(F:qx P f q n)(b:args.length<=n)(c:Nat.ble S.nx B=true)(d:Nat.ble B N=true)(h:I P U false n (acA P q.2 λr S'=>∃m,lK B m N r a/\g7 B m N S' so/\tV B m (so.map (·.1))=true) (.run q.1 []) ⟨qc args,[]⟩ S):aG P U f args S a (aw so N):=by let⟨r,S',e,m,g,i,j⟩:=qx.auR F b h;exact e.canon c g i j d
end
theorem QQ{n:ByteArray}{a:List Tm}(h:yq n a=true):n=⟨#[]⟩/\a=[]:=by unfold yq at h;rw[aw_]at h;exact⟨Zj.1 (eq_of_beq h.1),List.isEmpty_iff.1 h.2⟩
mutual theorem QS:∀x:Tm,lH x=true->x.ok->e_ x/\kL x/\ve x/\tp x/\cL x=dD x |⟨k,i,n,a⟩,h,b=>by rw[lH]at h;rw[Tm.ok]at b;rw[e_,kL,ve,tp,cL,dD];by_cases d:k=0;rw[if_pos d]at h;simp only[aw_,decide_eq_true_eq]at h;obtain⟨rfl,rfl⟩:=QQ h.2;rw[if_neg X,if_neg X];exact⟨⟨by rw[fy];trivial,.inr rfl⟩,⟨aE,b.2.1,by rw[lq];trivial⟩,⟨X,by rw[tQ];trivial⟩,⟨X,by rw[pe];trivial⟩,by rw[bC]⟩;rw[if_neg d]at h;by_cases c:k=1;rw[if_pos c]at h;simp only[aw_,decide_eq_true_eq]at h;obtain⟨rfl,rfl⟩:=QQ h.2;rw[if_pos c,if_neg X];exact⟨⟨rfl,rfl⟩,⟨aE,b.2.1,by rw[lq];trivial⟩,⟨λ_=>h.1.1,by rw[tQ];trivial⟩,⟨λ_=>⟨h.1.1,X⟩,by rw[pe];trivial⟩,by rw[bC]⟩;rw[if_neg c]at h;split at h;rename_i f;simp only[aw_,cD_,beq_iff_eq,decide_eq_true_eq]at h;let⟨g,j,m,o,s⟩:=Gt a h.2 b.2.2;rw[if_neg c,if_pos f];refine⟨⟨g,.inl f⟩,⟨?_,b.2.1,j⟩,⟨λe=>absurd e c,m⟩,⟨λe=>absurd e c,o⟩,X⟩;rcases h.1.2 with p|p<;>omega;grind;theorem Gt:∀l:List Tm,kX l=true->dO l->fy l/\lq l/\tQ l/\pe l/\bC l=bF l|[],_,_=>⟨by rw[fy];trivial,by rw[lq];trivial,by rw[tQ];trivial,by rw[pe];trivial,by rw[bC,bF]⟩|x::l,h,b=>by rw[kX,aw_]at h;rw[dO]at b;let⟨t,u,v,w,q⟩:=QS x h.1 b.1;let⟨y,z,A,B,r⟩:=Gt l h.2 b.2;exact⟨by grind[fy],by grind[lq],by grind[tQ],by grind[pe],by rw[bC,bF,q,r]⟩;end
theorem xK{x:Tm}(h:cB x=true)(a:x.ok):e_ x/\kL x/\ve x/\tp x/\cL x<=200:=by grind[cB,QS]
theorem Zk(h:l.all cB=true):kX l=true:=by induction l with|nil=>rw[kX]|cons x l a =>rw[aL_,aw_]at h;rw[kX,aw_];refine⟨?_,a h.2⟩;have:=h.1;unfold cB at this;simp only[aw_]at this;exact this.1.1
theorem La(h:nS l=true)(a:dO l):fy l/\lq l/\tQ l/\pe l/\bC l<=200:=by grind[nS,Gt,Zk]
def gA:List Nat:=List.range 120
section
variable{rd:Bool}{m:Nat}{l:List QI}{d:Option Nat}{y:Option (Nat×Bool)}{f:QO}{g:FuncId}{args:List AV}
def Zl(P:Program)(U:World)(rd:Bool)(n:Nat)(Q:Exit->AA->ao->Prop)(c:QC)(K:List iu)(Y:AA)(S:ao):Prop :=∀a,comp P.toTables n a=some c->im P a=true->∃b d S',Ca P U rd n a Y S b d S'/\eO P U rd n Q K b d S'
def QT(P:Program)(U:World)(rd:Bool)(n:Nat)(Q:Exit->AA->ao->Prop)(c:QC)(K:List iu):Exit->AA->ao->Prop :=λa Y S=>match a with|.normal=>Zl P U rd n Q c K Y S|e=>I P U rd n Q (.out e K) Y S
theorem Zl.round(h:I P U rd n (QT P U rd n Q c K) (.run c []) Y S):Zl P U rd n Q c K Y S:=by intro a d e;let⟨b,i,j,f,g⟩:Wp P U rd n a (QT P U rd n Q c K) Y S:=h a d e;cases b with|normal =>let⟨b,k,S',l,m⟩:=g a d e;exact⟨b,k,S',Ca.step f l,m⟩|_=>exact⟨_,i,j,Ca.done f aE,g⟩
theorem I.apX(h:I P U rd n (QT P U rd n Q c K) (.run c []) Y S):I P U rd n Q (.run (.loop c) K) Y S:=by intro k a b;obtain⟨d,rfl,e⟩:=NT a;let⟨f,g,S',i,j⟩:=Zl.round h d e b;exact⟨f,g,S',eE.loop i,j⟩
def I.apY(h:I P U rd n (QT P U rd n Q c K) (.run c []) Y S):I P U rd n (QT P U rd n Q c K) (.out .normal []) Y S:=Zl.round h
def I.apZ{id:Nat}(h:I P U rd n Q (.out (.exit id) K) Y S):I P U rd n (QT P U rd n Q c K) (.out (.exit id) []) Y S:=h
def I.auS(h:I P U rd n Q (.out .ret K) Y S):I P U rd n (QT P U rd n Q c K) (.out .ret []) Y S:=h
end
class FN(g:FuncId) where
 f:Func
 q:FQ g f
section
variable{rd:Bool}{l:List QI}{d:Option Nat}{y:Option (Nat×Bool)}{f:QO}{g:FuncId}{args:List AV}
theorem inl(h:fO (f.ev Y.tm) (bs.map (·.ev Y.tm))=some (g,args))[x:FN g]{a:AA}{S':ao}(k:I prog U false x.f.ntmps (vp x.q.1.2 λr S'=>I prog U rd n Q (.bp false l K) (bX d Y r) S') cf a S')(b:args.length<=x.f.ntmps:=by exact aA_ rfl)(e:nN gA 400 (.run x.q.1.1 []) ⟨qc args,[]⟩ S=(cf,a,S'):=by conv=>lhs;cbv)(c:bJ Y.tm y=some true:=by rfl):I prog U rd n Q (.bp false (⟨d,y,.call f bs⟩::l) K) Y S:=by let⟨r,S',i,j⟩:=qx.QU x.q.2 b (I.wi gA 400 e k);exact I.op c (D.call h i λe=>nomatch e) j
end
theorem kw{P:Prop}(h:P:=by repeat' first|exact trivial|refine⟨?_,?_⟩;first|exact .aF .v|exact .aF (Pure.bm (lJ (m:=60) rfl))|exact .aF (.mp (by decide))|exact .aF (.pt (by decide))|exact .aF (.yl (by decide))|exact .pf rfl rfl):P:=h
theorem oz{P:Prop}(h:P:=by repeat' first|exact trivial|refine⟨?_,?_⟩;first|exact .inr rfl|refine .inl ⟨_,rfl,?_⟩;first|exact .same trivial|exact .same (List.forall_mem_nil _)|exact .arr ⟨kw,trivial⟩):P:=h
theorem rn{p:Prop}(h:p:=by repeat' first|refine I.apX ?_;refine H gA ?_|refine og gA (D.bit rfl) ?_|refine og gA (D.len rfl) ?_|refine og gA (D.ind rfl rfl rfl (by first|decide|simp)) ?_|refine og gA (D.y7 rfl rfl rfl (by decide) (by decide)) ?_|refine og gA (D.nil rfl rfl) ?_|refine og gA (D.D5 rfl rfl) ?_|refine og gA (D.MB rfl rfl) ?_|refine og gA (D.Ql rfl rfl (by first|decide|simp) (by first|decide|simp) (by first|decide|simp)) ?_|refine og gA (D.acB rfl rfl rfl (by decide) (by decide) (by decide) (by decide)) ?_|refine I.dF rfl (λT=>D.ind rfl rfl rfl (by first|decide|simp)) ?_;refine H gA ?_|refine og gA (D.WB rfl rfl rfl) ?_|refine og gA (pl ap0) ?_|refine og gA (pl ap1) ?_|refine og gA (pl ap2) ?_|refine og gA (pl ap3) ?_|refine og gA (pl auT) ?_|refine og gA (pl okT) ?_|refine og gA (pl noT) ?_|refine og gA (pl ap4) ?_|refine og gA (pl auU) ?_|refine og gA (D.qS rfl rfl (by decide) (by decide)) ?_|refine og gA (D.Cj rfl rfl rfl (by decide) (by decide)) ?_|refine og gA (D.cap rfl) ?_|refine og gA (pl auV) ?_|refine og gA (pl auW) ?_|refine og gA (pl auX) ?_|refine og gA (pl auY) ?_|refine og gA (pl auZ) ?_|refine inl rfl ?_|refine I.apY ?_;refine H gA ?_|refine I.apZ ?_;refine H gA ?_|refine I.auS ?_;refine H gA ?_|refine fq ?_;refine H gA ?_|refine fq ?_;first|exact .refl _|exact aL.au0 (O:=.plain) rfl rfl|exact aL.grow (O:=.plain) rfl rfl|exact(vn (m:=60) rfl).1|exact⟨[],.aF .v,oz,rfl⟩|exact⟨[],.aF (Pure.bm (lJ (m:=60) rfl)),oz,rfl⟩):p:=h
theorem py{p:Prop}(h:p:=by exact lJ (m:=60) rfl):p:=h
theorem px{U:World}{g:FuncId}{r:AV}[x:FN g]{Y:AA}{S:ao}(a:Pure r:=by exact py)(b:args.length<=x.f.ntmps:=by exact aA_ rfl)(e:nN gA 400 (.run x.q.1.1 []) ⟨qc args,[]⟩ ao.none_=(cf,Y,S):=by conv=>lhs;cbv)(k:I prog U false x.f.ntmps (vp x.q.1.2 λc S=>aL S c r) cf Y S:=by exact rn):ad U g args r:=st x.q gA a k b e
theorem cx{U:World}{g:FuncId}{r:AV}{so so':List (Nat×Ob)}{N M:Nat}[x:FN g]{Y:AA}{S:ao}(a:args.length<=x.f.ntmps:=by exact aA_ rfl)(b:Nat.ble N N=true:=by rfl)(c:Nat.ble N M=true:=by rfl)(e:nN gA 400 (.run x.q.1.1 []) ⟨qc args,[]⟩ (aw so N)=(cf,Y,S):=by conv=>lhs;cbv)(k:I prog U false x.f.ntmps (vp x.q.1.2 λd S=>∃m,lK N m M d r/\g7 N m M S so'/\tV N m (so'.map (·.1))=true) cf Y S:=by exact rn):aG prog U g args (aw so N) r (aw so' M):=sc N M x.q (I.wi gA 400 e k) a b c
end Go.Proofs.YtbdcmpknicjopaaGreat
