import Derived.Test.YtgjfgekaclobaaaGreatCm41
namespace Go.Proofs.YtgjfgekaclobaaaGreat
set_option linter.unusedVariables false
set_option linter.unusedSimpArgs false
open Go.RowKit
structure Fr where
 t:Tr AV
 ds:List DE
def bE (F:Fr):AA:=⟨dI F.t,F.ds⟩
inductive XR where
 |dn (ex:Exit) (F:Fr) (s:XS)
 |mr (cf:QF) (F:Fr) (s:XS)
 |no
abbrev Rec:=Bool->Nat->QF->Fr->XS->XR
structure Env where
 qR:Nat->Option ((QC × List QR) × Nat)
 ext:Nat->List AV->Option AV
 nat:Nat->List AV->Option Value
 x7:Nat->Option AV
 wm:Nat->Bool
 Ez:Nat->Value->Bool
 S8:Value->Value->Bool
 seq:Nat->Value->Value->Option Bool
 sp:Nat->Option Nat
 fx:Nat->Bool
def AO (s:XS):List DE->Option XS
 |[]=>some s
 |.del _ _ _::_=>none
 |.ob k::ks=>match (dy s).get k with
  |some .df=>AO (jb s k none) ks
  |_=>none
def Cs (qs:List QR) (ex:Exit) (F:Fr) (s:XS):Option (AV × XS):=match EX ex,AO s F.ds with
 |true,some s'=>match jJ (dI F.t) (dy s') qs with
  |some [a]=>some (a,s')
  |some l=>some (.aC l,s')
  |none=>none
 |_,_=>none
def ZI (args:List AV) (s:XS):AV × XS:=match s.an with
 |0=>(.v (.bool false),⟨s.m,s.nx,s.lw,s.yk,0,(args,false)::s.lg⟩)
 |a+1=>(.v (.bool true),⟨s.m,s.nx,s.lw,s.yk,a,(args,true)::s.lg⟩)
def S9:XS:=⟨.nil,0,0,none,0,[]⟩
def y9 (E:Env) (rc:Rec) (g:Nat) (aZ9:List AV):Option AV:=match E.qR g with
 |none=>none
 |some (c,n)=>match Nat.ble aZ9.length n,eV (gJ 60) aZ9 with
  |true,true=>match rc false n (.run c.1 []) ⟨ov aZ9 0 .nil,[]⟩ S9 with
   |.dn ex F s'=>match s'.lg,Cs c.2 ex F s' with
    |[],some (r,s2)=>match gJ 60 r with
     |true=>some r
     |false=>fk (dy s2) 60 r
    |_,_=>none
   |_=>none
  |_,_=>none
def S_ (E:Env) (rc:Rec) (g:Nat) (aZ9:List AV):Option (Nat × Nat × List (List AV) × Nat × Bool):=match E.qR g with
 |none=>none
 |some (c,n)=>match Nat.ble aZ9.length n,eV (gJ 60) aZ9 with
  |true,true=>match rc false n (.run c.1 []) ⟨ov aZ9 0 .nil,[]⟩ S9 with
   |.dn ex F s'=>match s'.lg,Cs c.2 ex F s' with
    |[],some (.ob k sz 0 len none,s2)=>match (dy s2).get k with
     |some (.arr sz' rows fz ex)=>match Nat.beq sz' sz && o6 (gJ 60) rows with
      |true=>some (sz,len,rows,fz,ex)
      |false=>none
     |_=>none
    |_,_=>none
   |_=>none
  |_,_=>none
def EA (E:Env) (rc:Rec) (g:Nat) (aZ9:List AV):Option AV:=match E.ext g aZ9 with
 |some r=>some r
 |none=>match E.x7 g with
  |some v=>match aZ9 with
   |[.fn (.func h) first cap]=>match y9 E rc h (first++cap) with
    |some (.aC [])=>some v
    |_=>none
   |_=>none
  |none=>y9 E rc g aZ9
def FO:Nat->AV->Bool
 |0,_=>false
 |m+1,a=>match a with
  |.v _=>true
  |.aC l|.agg l=>eV (FO m) l
  |_=>false
def ZJ (E:Env) (rc:Rec) (g:Nat) (aZ9:List AV) (s:XS):Option AV:=match eV (gJ 60) aZ9 with
 |true=>EA E rc g aZ9
 |false=>match jm (fk (dy s) 60) aZ9 with
  |some mN=>match EA E rc g mN with
   |some r=>match FO 9 r with
    |true=>some r
    |false=>none
   |none=>none
  |none=>none
def Ox (E:Env) (rc:Rec) (g:Nat) (aZ9:List AV) (s:XS):Option (AV × XS):=match E.qR g with
 |none=>none
 |some (c,n)=>match Nat.ble aZ9.length n with
  |true=>match rc false n (.run c.1 []) ⟨ov aZ9 0 .nil,[]⟩ ⟨s.m,s.nx,s.nx,s.yk,s.an,s.lg⟩ with
   |.dn ex F s'=>Cs c.2 ex F s'
   |_=>none
  |false=>none
def JY (s:XS) (kb:Nat):XS:=match cY s.yk kb,(dy s).get kb with
 |false,some (.arr sz [.ob k sz' 0 m none::cs] fz ex)=>match cY s.yk k,Nat.beq kb k,(dy s).get k with
  |false,false,some (.arr ew rows Ac ex')=>match Nat.beq sz' ew && Nat.beq m rows.length with
   |true=>jb (jb s k (some (.arr ew rows rows.length ex'))) kb (some (.arr sz [.sl false rows::cs] fz ex))
   |false=>s
  |_,_,_=>s
 |_,_=>s
def EB (E:Env) (g:Nat) (s:XS):XS:=match E.sp g with
 |some kb=>JY s kb
 |none=>s
def ZK (E:Env) (g:Nat) (aZ9:List AV) (s:XS):Option (AV × XS):=match E.fx g with
 |true=>match B7 s aZ9 with
  |some (mN,s1)=>match E.ext g mN with
   |some r=>some (r,s1)
   |none=>none
  |none=>none
 |false=>none
def FP (E:Env) (rc:Rec) (fw:Bool) (fv:AV) (args:List AV) (s:XS):Option (AV × XS):=match fv with
 |.yl k=>match cY s.yk k with
  |true=>match B7 s args with
   |some (aV,s1)=>some (ZI aV s1)
   |none=>none
  |false=>none
 |fv=>match dZ fv args with
  |none=>none
  |some (g,aZ9)=>match E.nat g aZ9 with
   |some v=>match fv with
    |.v _=>some (.v v,s)
    |_=>none
   |none=>match (match E.wm g || fw with|true=>E.ext g aZ9|false=>ZJ E rc g aZ9 s) with
    |some r=>some (r,s)
    |none=>match ZK E g aZ9 s with
     |some q=>some q
     |none=>match Ox E rc g aZ9 (EB E g s) with
      |some (r,s')=>some (r,⟨s'.m,s'.nx,Nat.min (EB E g s).lw s'.lw,s'.yk,s'.an,s'.lg⟩)
      |none=>none
def JZ (E:Env) (q:cB) (f:Nat->AV):Option AV:=match q with
 |.eqs t x y=>match toV (x.ev f),toV (y.ev f) with
  |some a,some b=>match E.seq t a b with
   |some e=>some (.v (.bool e))
   |none=>none
  |_,_=>none
 |_=>none
def Ct (E:Env) (kt:Nat):List (Value × AV)->Bool
 |[]=>true
 |p::l=>match E.Ez kt p.1 with|true=>Ct E kt l|false=>false
def Cu (E:Env) (rc:Rec) (fw:Bool) (q:cB) (f:Nat->AV) (s:XS):Option (AV × XS):=match q with
 |.call g aZ9=>FP E rc fw (g.ev f) (aZ9.map (·.ev f)) s
 |.append sz by_ a b=>match Ft sz by_ s (a.ev f) (b.ev f) with
  |some r=>some r
  |none=>match a.ev f,cI (dy s) (b.ev f) with
   |.sl ex rows,some []=>some (.sl ex rows,s)
   |.sl ex rows,none=>match b.ev f with
    |.v (.slice _ 0 _)=>some (.sl ex rows,s)
    |_=>none
   |_,_=>none
 |.iI kt z c x i=>match x.ev f,toV (i.ev f) with
  |.mp k,some v=>match (dy s).get k with
   |some (.mp es)=>match E.Ez kt v && Ct E kt es with
    |true=>some ((match iI (E.S8 v) es with|some a=>(if c then .aC [a,.v (.bool true)] else a)|none=>(if c then .aC [z,.v (.bool false)] else z)),s)
    |false=>none
   |_=>none
  |_,_=>none
 |.l5 kt x i b=>match x.ev f,toV (i.ev f) with
  |.mp k,some v=>match (dy s).get k with
   |some (.mp es)=>match E.Ez kt v && Ct E kt es,nO (E.S8 v) es with
    |true,none=>some (.v undef,jb s k (some (.mp (es++[(v,b.ev f)]))))
    |_,_=>none
   |_=>none
  |_,_=>none
 |q=>match JZ E q f with
  |some r=>some (r,s)
  |none=>oI false q f s
def Oy (E:Env) (rc:Rec) (fw:Bool) (q:cB) (f:Nat->AV) (s:XS):Option (AV × XS):=match Cn q f s with
 |some r=>some r
 |none=>Cu E rc fw q f s
def FQ (body:Fr->XS->XR):Nat->Fr->XS->Option (Exit × Fr × XS)
 |0,_,_=>none
 |k+1,F,s=>match body F s with
  |.dn ex F' s'=>match ex with
   |.normal=>FQ body k F' s'
   |e=>some (e,F',s')
  |_=>none
def aW (s:XS) (W:List (Nat × Option Ob)) (m:Bool):Option XS:=match W,m with
 |[],false=>some s
 |[(k,o)],false=>match cY s.yk k with
  |false=>some (jb s k o)
  |true=>none
 |[(k,some o)],true=>match Nat.beq k s.nx && !cY s.yk s.nx with
  |true=>some (jA s o)
  |false=>none
 |[(k,some o),(j,none)],true=>match Nat.beq k s.nx && !cY s.yk s.nx && !cY s.yk j with
  |true=>some (jA (jb s j none) o)
  |false=>none
 |_,_=>none
def FR (s:XS):List Nat->Option XS
 |[]=>some s
 |k::ks=>match FR s ks with
  |some s'=>match cY s'.yk k with
   |false=>some (jb s' k (some .un))
   |true=>none
  |none=>none
def y_ (d:Option Nat):List QI->Bool
 |[]=>false
 |i::l=>match i.q,d with
  |.append _ _ (.t t) _,some d=>match Nat.beq t d with|true=>true|false=>y_ (some d) l
  |_,d=>y_ d l
def Oz (E:Env) (rc:Rec) (fr:Bool) (q:cB) (f:Nat->AV) (s:XS) (rs:List Nat):Option (AV × (List Nat × List Nat × Bool) × List Nat × XS):=match o7 true q f with
 |some r=>some (r,([],[],false),rs,s)
 |none=>match JZ E q f with
  |some r=>some (r,([],[],false),rs,s)
  |none=>match q with
   |.call g aZ9=>match dZ (g.ev f) (aZ9.map (·.ev f)) with
    |some (h,aZ9)=>match (match fr,cY s.yk s.nx with|true,false=>S_ E rc h aZ9|_,_=>none) with
     |some (sz,len,rows,fz,ex)=>some (.ob s.nx sz 0 len none,([],[s.nx],true),rs,jA s (.arr sz rows fz ex))
     |none=>match EA E rc h aZ9 with
      |some r=>some (r,([],[],false),rs,s)
      |none=>none
    |none=>none
   |.append sz by_ a b=>match LU sz by_ s (a.ev f) (b.ev f) with
    |some (r,d)=>match aW s d.W d.m with
     |some s'=>some (r,d.ns,rs,s')
     |none=>none
    |none=>none
   |q=>match dq q f (dy s) rs with
    |some (r,d,lQ)=>match aW s d.W d.m with
     |some s'=>some (r,d.ns,lQ,s')
     |none=>none
    |none=>none
def L7:QC->Option (Option (List QI) × List QI)
 |.skip=>some (none,[])
 |.aR false l=>some (none,l)
 |.seq (.aR false a) (.aR false l)=>some (some a,l)
 |_=>none
def FT (rc:Rec) (n:Nat) (qa qb:QC) (F:Fr) (s:XS):XR:=match L7 qa with
 |some (none,l)=>rc true n (.aR false l [.seq qb]) F s
 |some (some a,l)=>match rc true n (.aR false a []) F s with
  |.dn .normal F1 s1=>match Nat.beq s1.lg.length s.lg.length with
   |true=>rc true n (.aR false l [.seq qb]) F1 s1
   |false=>.no
  |_=>.no
 |none=>.no
def uc (rc:Rec) (n B N:Nat) (qa:QC) (qb:QC) (ps:List Nat) (t:Tr AV):List (List AV × Bool)->XS->Option (Exit × XS)
 |[],s=>some (.normal,s)
 |(x,b)::rest,s=>match Nat.beq x.length ps.length && eV (gJ 60) x with
  |true=>match FT rc n qa qb ⟨uW t (ps.zip x),[]⟩ s with
   |.dn ex F s2=>match F.ds,Ot B N s2 with
    |[],some s3=>match ex,b,rest with
     |.normal,true,rest=>uc rc n B N qa qb ps t rest s3
     |.ret,false,[]=>some (.ret,s3)
     |.exit id,false,[]=>some (.exit id,s3)
     |_,_,_=>none
    |_,_=>none
   |_=>none
  |false=>none
def Ta (rc:Rec) (n B N:Nat) (qa:QC) (qb:QC) (ps:List Nat) (t:Tr AV):List (List AV × Bool)->XS->Nat->Option Nat
 |[],s,i=>none
 |(x,b)::rest,s,i=>match FT rc n qa qb ⟨uW t (ps.zip x),[]⟩ s with
  |.dn ex F s2=>match ex with
   |.normal=>match Ot B N s2 with
    |some s3=>Ta rc n B N qa qb ps t rest s3 (i+1)
    |none=>none
   |_=>some i
  |_=>none
def FU (E:Env) (rc:Rec) (g:Nat) (aZ9:List AV) (an:Nat):Option (List (List AV × Bool)):=match Ox E rc g aZ9 ⟨.nil,1,1,some 0,an,[]⟩ with
 |some (_,s)=>some s.lg.reverse
 |none=>none
def FV (B:Nat):List (Nat × AV)->Bool
 |[]=>true
 |p::l=>match qi B 60 p.2 with|true=>FV B l|false=>false
def FW (B:Nat) (s:XS):List (Nat × Option Ob)->Bool
 |[]=>true
 |p::l=>match Nat.blt p.1 B && (match p.2 with|some o=>LQ B o|none=>true) with|true=>FW B s l|false=>false
def L8 (rc:Rec) (E:Env) (gid:Nat) (aZ9:List AV) (R:List (List AV × Bool)->Option (Exit × XS)) (C:List (List AV × Bool)->Option Nat):Option (Exit × XS):=match FU E rc gid aZ9 1000000 with
 |some lg=>match R lg with
  |some q=>some q
  |none=>match C lg with
   |some i=>match FU E rc gid aZ9 i with
    |some lg=>R lg
    |none=>none
   |none=>none
 |none=>none
def L9 (E:Env) (rc:Rec) (n:Nat) (a:AV) (ps:List Nat) (qa qb:QC) (F:Fr) (s:XS):Option (Exit × Fr × XS):=match a with
 |.fn (.func gid) first cap =>
  match eV (gJ 60) first && eV (gJ 60) cap && ps.all (Nat.blt · n) && !cY s.yk s.nx && F.ds.all (fun d=>Nat.blt d.k (s.nx+1)) && FV (s.nx+1) (toLk F.t) && FW (s.nx+1) s (toLk (jA s .df).m) && ly (s.nx+1) [] (xX (jA s .df)) && (match s.yk with|some k=>Nat.blt k (s.nx+1)|none=>true) with
  |true =>
   match L8 rc E gid (first++[.yl 0]++cap) (fun lg=>uc rc n (s.nx+1) (s.nx+41) qa qb ps F.t lg ⟨(jA s .df).m,s.nx+41,0,s.yk,s.an,s.lg⟩) (fun lg=>Ta rc n (s.nx+1) (s.nx+41) qa qb ps F.t lg ⟨(jA s .df).m,s.nx+41,0,s.yk,s.an,s.lg⟩ 0) with
   |some (ex,s')=>some (ex,⟨F.t,s.nx::F.ds⟩,s')
   |none=>none
  |false=>none
 |_=>none
def L_ (x:QO) (F:Fr) (s:XS):Option (Fr × XS):=match x with
 |.t t=>match dI F.t t with
  |.fn f first cap=>match eV (gJ 60) first && eV (gJ 60) cap with
   |true=>none
   |false=>match B7 s [.fn f first cap] with
    |some ([a],s')=>some (⟨put F.t t a,F.ds⟩,s')
    |_=>none
  |_=>none
 |_=>none
def Cw (s s':XS):Nat:=match Nat.beq s'.lg.length s.lg.length with|true=>s'.lw|false=>0
def OA (s s':XS):List Nat:=match Nat.beq s'.lg.length s.lg.length with
 |true=>(xX s).filter fun k=>match cY s.yk k with|true=>false|false=>LW (dJ s k) (dJ s' k)
 |false=>[]
def jH (E:Env) (rc:Rec) (rd:Bool) (n:Nat):QF->Fr->XS->XR
 |.run c K,F,s=>match c with
  |.skip=>.mr (.out .normal K) F s
  |.aR true l=>.no
  |.aR false l=>.mr (.aR false l K) F s
  |.dh V l=>match FR s (fK l s.nx) with
   |some s'=>.mr (.dh (s.nx+(fK l s.nx).length) V [] (fK l s.nx) l K) F ⟨s'.m,s.nx+(fK l s.nx).length,s'.lw,s'.yk,s'.an,s'.lg⟩
   |none=>.no
  |.seq a c=>.mr (.run a (.seq c::K)) F s
  |.cond x a c=>match x.ev (dI F.t) with
   |.v (.bool true)=>.mr (.run a K) F s
   |.v (.bool false)=>.mr (.run c K) F s
   |_=>.no
  |.block id c=>.mr (.run c (.nU id::K)) F s
  |.scope c=>.mr (.run c (.xd::K)) F s
  |.loop c=>match FQ (fun F s=>rc rd n (.run c []) F s) 400 F s with
   |some (ex,F',s')=>.mr (.out ex K) F' s'
   |none=>.no
  |.exit id=>.mr (.out (.exit id) K) F s
  |.ret=>.mr (.out .ret K) F s
  |.vW x ps a c=>match L_ x F s with
   |some (F',s')=>.mr (.run (.vW x ps a c) K) F' s'
   |none=>match rd,L9 E rc n (x.ev (dI F.t)) ps a c F s with
    |false,some (ex,F',s')=>.mr (.out ex K) F' s'
    |_,_=>.no
  |_=>.no
 |.out ex K,F,s=>match K with
  |[]=>.dn ex F s
  |.seq c::K=>match ex with
   |.normal=>.mr (.run c K) F s
   |e=>.mr (.out e K) F s
  |.nU id::K=>match ex with
   |.exit j=>match Nat.beq j id with
    |true=>.mr (.out .normal K) F s
    |false=>.mr (.out (.exit j) K) F s
   |e=>.mr (.out e K) F s
  |.xd::K=>match ex with
   |.goto _=>.no
   |e=>.mr (.out e K) F s
 |.aR true l K,F,s=>.no
 |.aR false l K,F,s=>match l with
  |[]=>.mr (.out .normal K) F s
  |i::l=>match bB (dI F.t) i.g with
   |some true=>match Oy E rc (y_ i.d l) i.q (dI F.t) s with
    |some (r,s')=>.mr (.aR false l K) ⟨rU i.d F.t r,F.ds⟩ s'
    |none=>.no
   |some false=>.mr (.aR false l K) ⟨rU i.d F.t (.v undef),F.ds⟩ s
   |none=>.no
 |.dh B V lg rs l K,F,s=>match l with
  |[]=>match L5 V lg with
   |true=>.mr (.out .normal K) F s
   |false=>.no
  |i::l=>match bB (dI F.t) i.g with
   |some true=>match (match Cr i.q || ZH lg.length V with|true=>Oz E rc (y_ i.d l) i.q (dI F.t) s rs|false=>none) with
    |some (r,ns,lQ,s')=>match Ag ns with
     |none=>.mr (.dh B V (lg++[ns]) lQ l K) ⟨rU i.d F.t r,F.ds⟩ s'
     |some _=>.no
    |none=>match Cr i.q with
     |true=>.no
     |false=>match Oy E rc (y_ i.d l) i.q (u0 (x6 (ln i.q)) (dI F.t)) ⟨s.m,s.nx,s.nx,s.yk,s.an,s.lg⟩ with
      |some (r,s')=>.mr (.dh B V (lg++[(Cw s s'::OA s s',[],true)]) rs l K) ⟨rU i.d F.t r,F.ds⟩ ⟨s'.m,s'.nx,Nat.min s.lw s'.lw,s'.yk,s'.an,s'.lg⟩
      |none=>.no
   |some false=>.mr (.dh B V (lg++[([],[],false)]) rs l K) ⟨rU i.d F.t (.v undef),F.ds⟩ s
   |none=>.no
def J2 (f:QF->Fr->XS->XR):Nat->QF->Fr->XS->XR
 |0,c,t,s=>f c t s
 |k+1,c,t,s=>match J2 f k c t s with
  |.mr c t s=>J2 f k c t s
  |r=>r
def Cx (E:Env):Nat->Rec
 |0=>fun _ _ _ _ _=>.no
 |m+1=>fun rd n c F s=>J2 (jH E (Cx E m) rd n) 14 c F s
end Go.Proofs.YtgjfgekaclobaaaGreat
