import Derived.Test.YtbofilglphfceaaGreatD34
namespace Go.Proofs.YtbofilglphfceaaGreat
set_option linter.unusedVariables false
set_option linter.unusedSimpArgs false
open Go.RowKit
structure Fr where
 t:Tr AV
 ds:List Nat
def bo (F:Fr):AA:=⟨cM F.t,F.ds⟩
inductive XR where
 |dn (ex:Exit) (F:Fr) (s:XS)
 |mr (cf:QF) (F:Fr) (s:XS)
 |no
abbrev Rec:=Bool->Nat->QF->Fr->XS->XR
structure Env where
 o6:Nat->Option ((QC × List QR) × Nat)
 ext:Nat->List AV->Option AV
 nat:Nat->List AV->Option Value
 vC:Nat->Option AV
 wm:Nat->Bool
 xP:Nat->Value->Bool
 JQ:Value->Value->Bool
 seq:Nat->Value->Value->Option Bool
def uz (s:XS):List Nat->Option XS
 |[]=>some s
 |k::ks=>match (cS s).get k with
  |some .df=>uz (h_ s k none) ks
  |_=>none
def vD (qs:List QR) (ex:Exit) (F:Fr) (s:XS):Option (AV × XS):=match FB ex,uz s F.ds with
 |true,some s'=>match iC (cM F.t) (cS s') qs with
  |some [a]=>some (a,s')
  |some l=>some (.aL l,s')
  |none=>none
 |_,_=>none
def Pz (args:List AV) (s:XS):AV × XS:=match s.an with
 |0=>(.v (.bool false),⟨s.m,s.nx,s.lw,s.yk,0,(args,false)::s.lg⟩)
 |a+1=>(.v (.bool true),⟨s.m,s.nx,s.lw,s.yk,a,(args,true)::s.lg⟩)
def JR:XS:=⟨.nil,0,0,none,0,[]⟩
def sU (E:Env) (rc:Rec) (g:Nat) (aZ9:List AV):Option AV:=match E.o6 g with
 |none=>none
 |some (c,n)=>match Nat.ble aZ9.length n,dA (eL 60) aZ9 with
  |true,true=>match rc false n (.run c.1 []) ⟨kW aZ9 0 .nil,[]⟩ JR with
   |.dn ex F s'=>match s'.lg,vD c.2 ex F s' with
    |[],some (r,s2)=>match eL 60 r with
     |true=>some r
     |false=>dN (cS s2) 60 r
    |_,_=>none
   |_=>none
  |_,_=>none
def JS (E:Env) (rc:Rec) (g:Nat) (aZ9:List AV):Option (Nat × Nat × List (List AV) × Nat × Bool):=match E.o6 g with
 |none=>none
 |some (c,n)=>match Nat.ble aZ9.length n,dA (eL 60) aZ9 with
  |true,true=>match rc false n (.run c.1 []) ⟨kW aZ9 0 .nil,[]⟩ JR with
   |.dn ex F s'=>match s'.lg,vD c.2 ex F s' with
    |[],some (.ob k sz 0 len none,s2)=>match (cS s2).get k with
     |some (.arr sz' rows fz ex)=>match Nat.beq sz' sz && lL (eL 60) rows with
      |true=>some (sz,len,rows,fz,ex)
      |false=>none
     |_=>none
    |_,_=>none
   |_=>none
  |_,_=>none
def xQ (E:Env) (rc:Rec) (g:Nat) (aZ9:List AV):Option AV:=match E.ext g aZ9 with
 |some r=>some r
 |none=>match E.vC g with
  |some v=>match aZ9 with
   |[.fn (.func h) first cap]=>match sU E rc h (first++cap) with
    |some (.aL [])=>some v
    |_=>none
   |_=>none
  |none=>sU E rc g aZ9
def y8:Nat->AV->Bool
 |0,_=>false
 |m+1,a=>match a with
  |.v _=>true
  |.aL l|.agg l=>dA (y8 m) l
  |_=>false
def PA (E:Env) (rc:Rec) (g:Nat) (aZ9:List AV) (s:XS):Option AV:=match dA (eL 60) aZ9 with
 |true=>xQ E rc g aZ9
 |false=>match fT (dN (cS s) 60) aZ9 with
  |some lN=>match xQ E rc g lN with
   |some r=>match y8 9 r with
    |true=>some r
    |false=>none
   |none=>none
  |none=>none
def GI (E:Env) (rc:Rec) (g:Nat) (aZ9:List AV) (s:XS):Option (AV × XS):=match E.o6 g with
 |none=>none
 |some (c,n)=>match Nat.ble aZ9.length n with
  |true=>match rc false n (.run c.1 []) ⟨kW aZ9 0 .nil,[]⟩ ⟨s.m,s.nx,s.nx,s.yk,s.an,s.lg⟩ with
   |.dn ex F s'=>vD c.2 ex F s'
   |_=>none
  |false=>none
def y9 (E:Env) (rc:Rec) (fw:Bool) (fv:AV) (args:List AV) (s:XS):Option (AV × XS):=match fv with
 |.yl k=>match cI s.yk k with
  |true=>match yU s args with
   |some (bz,s1)=>some (Pz bz s1)
   |none=>none
  |false=>none
 |fv=>match fh fv args with
  |none=>none
  |some (g,aZ9)=>match E.nat g aZ9 with
   |some v=>match fv with
    |.v _=>some (.v v,s)
    |_=>none
   |none=>match (match E.wm g || fw with|true=>E.ext g aZ9|false=>PA E rc g aZ9 s) with
    |some r=>some (r,s)
    |none=>match GI E rc g aZ9 s with
     |some (r,s')=>some (r,⟨s'.m,s'.nx,Nat.min s.lw s'.lw,s'.yk,s'.an,s'.lg⟩)
     |none=>none
def CX (E:Env) (q:cj) (f:Nat->AV):Option AV:=match q with
 |.eqs t x y=>match toV (x.ev f),toV (y.ev f) with
  |some a,some b=>match E.seq t a b with
   |some e=>some (.v (.bool e))
   |none=>none
  |_,_=>none
 |_=>none
def vE (E:Env) (kt:Nat):List (Value × AV)->Bool
 |[]=>true
 |p::l=>match E.xP kt p.1 with|true=>vE E kt l|false=>false
def vF (E:Env) (rc:Rec) (fw:Bool) (q:cj) (f:Nat->AV) (s:XS):Option (AV × XS):=match q with
 |.call g aZ9=>y9 E rc fw (g.ev f) (aZ9.map (·.ev f)) s
 |.append sz by_ a b=>match yP sz by_ s (a.ev f) (b.ev f) with
  |some r=>some r
  |none=>match a.ev f,cu (cS s) (b.ev f) with
   |.sl ex rows,some []=>some (.sl ex rows,s)
   |.sl ex rows,none=>match b.ev f with
    |.v (.slice _ 0 _)=>some (.sl ex rows,s)
    |_=>none
   |_,_=>none
 |.fg kt z c x i=>match x.ev f,toV (i.ev f) with
  |.mp k,some v=>match (cS s).get k with
   |some (.mp es)=>match E.xP kt v && vE E kt es with
    |true=>some ((match fg (E.JQ v) es with|some a=>(if c then .aL [a,.v (.bool true)] else a)|none=>(if c then .aL [z,.v (.bool false)] else z)),s)
    |false=>none
   |_=>none
  |_,_=>none
 |.jf kt x i b=>match x.ev f,toV (i.ev f) with
  |.mp k,some v=>match (cS s).get k with
   |some (.mp es)=>match E.xP kt v && vE E kt es,kC (E.JQ v) es with
    |true,none=>some (.v undef,h_ s k (some (.mp (es++[(v,b.ev f)]))))
    |_,_=>none
   |_=>none
  |_,_=>none
 |q=>match CX E q f with
  |some r=>some (r,s)
  |none=>lu false q f s
def GJ (E:Env) (rc:Rec) (fw:Bool) (q:cj) (f:Nat->AV) (s:XS):Option (AV × XS):=match y3 q f s with
 |some r=>some r
 |none=>vF E rc fw q f s
def y_ (body:Fr->XS->XR):Nat->Fr->XS->Option (Exit × Fr × XS)
 |0,_,_=>none
 |k+1,F,s=>match body F s with
  |.dn ex F' s'=>match ex with
   |.normal=>y_ body k F' s'
   |e=>some (e,F',s')
  |_=>none
def aW (s:XS) (W:List (Nat × Option Ob)) (m:Bool):Option XS:=match W,m with
 |[],false=>some s
 |[(k,o)],false=>match cI s.yk k with
  |false=>some (h_ s k o)
  |true=>none
 |[(k,some o)],true=>match Nat.beq k s.nx && !cI s.yk s.nx with
  |true=>some (gj s o)
  |false=>none
 |[(k,some o),(j,none)],true=>match Nat.beq k s.nx && !cI s.yk s.nx && !cI s.yk j with
  |true=>some (gj (h_ s j none) o)
  |false=>none
 |_,_=>none
def za (s:XS):List Nat->Option XS
 |[]=>some s
 |k::ks=>match za s ks with
  |some s'=>match cI s'.yk k with
   |false=>some (h_ s' k (some .un))
   |true=>none
  |none=>none
def sV (d:Option Nat):List QI->Bool
 |[]=>false
 |i::l=>match i.q,d with
  |.append _ _ (.t t) _,some d=>match Nat.beq t d with|true=>true|false=>sV (some d) l
  |_,d=>sV d l
def GK (E:Env) (rc:Rec) (fr:Bool) (q:cj) (f:Nat->AV) (s:XS) (rs:List Nat):Option (AV × (List Nat × List Nat × Bool) × List Nat × XS):=match lM true q f with
 |some r=>some (r,([],[],false),rs,s)
 |none=>match CX E q f with
  |some r=>some (r,([],[],false),rs,s)
  |none=>match q with
   |.call g aZ9=>match fh (g.ev f) (aZ9.map (·.ev f)) with
    |some (h,aZ9)=>match (match fr,cI s.yk s.nx with|true,false=>JS E rc h aZ9|_,_=>none) with
     |some (sz,len,rows,fz,ex)=>some (.ob s.nx sz 0 len none,([],[s.nx],true),rs,gj s (.arr sz rows fz ex))
     |none=>match xQ E rc h aZ9 with
      |some r=>some (r,([],[],false),rs,s)
      |none=>none
    |none=>none
   |.append sz by_ a b=>match Ek sz by_ s (a.ev f) (b.ev f) with
    |some (r,d)=>match aW s d.W d.m with
     |some s'=>some (r,d.ns,rs,s')
     |none=>none
    |none=>none
   |q=>match dq q f (cS s) rs with
    |some (r,d,iU)=>match aW s d.W d.m with
     |some s'=>some (r,d.ns,iU,s')
     |none=>none
    |none=>none
def Er:QC->Option (Option (List QI) × List QI)
 |.skip=>some (none,[])
 |.bB false l=>some (none,l)
 |.seq (.bB false a) (.bB false l)=>some (some a,l)
 |_=>none
def zb (rc:Rec) (n:Nat) (qa qb:QC) (F:Fr) (s:XS):XR:=match Er qa with
 |some (none,l)=>rc true n (.bB false l [.seq qb]) F s
 |some (some a,l)=>match rc true n (.bB false a []) F s with
  |.dn .normal F1 s1=>match Nat.beq s1.lg.length s.lg.length with
   |true=>rc true n (.bB false l [.seq qb]) F1 s1
   |false=>.no
  |_=>.no
 |none=>.no
def o7 (rc:Rec) (n B N:Nat) (qa:QC) (qb:QC) (ps:List Nat) (t:Tr AV):List (List AV × Bool)->XS->Option (Exit × XS)
 |[],s=>some (.normal,s)
 |(x,b)::rest,s=>match Nat.beq x.length ps.length && dA (eL 60) x with
  |true=>match zb rc n qa qb ⟨pD t (ps.zip x),[]⟩ s with
   |.dn ex F s2=>match F.ds,Gz B N s2 with
    |[],some s3=>match ex,b,rest with
     |.normal,true,rest=>o7 rc n B N qa qb ps t rest s3
     |.ret,false,[]=>some (.ret,s3)
     |.exit id,false,[]=>some (.exit id,s3)
     |_,_,_=>none
    |_,_=>none
   |_=>none
  |false=>none
def JT (rc:Rec) (n B N:Nat) (qa:QC) (qb:QC) (ps:List Nat) (t:Tr AV):List (List AV × Bool)->XS->Nat->Option Nat
 |[],s,i=>none
 |(x,b)::rest,s,i=>match zb rc n qa qb ⟨pD t (ps.zip x),[]⟩ s with
  |.dn ex F s2=>match ex with
   |.normal=>match Gz B N s2 with
    |some s3=>JT rc n B N qa qb ps t rest s3 (i+1)
    |none=>none
   |_=>some i
  |_=>none
def zc (E:Env) (rc:Rec) (g:Nat) (aZ9:List AV) (an:Nat):Option (List (List AV × Bool)):=match GI E rc g aZ9 ⟨.nil,1,1,some 0,an,[]⟩ with
 |some (_,s)=>some s.lg.reverse
 |none=>none
def zd (B:Nat):List (Nat × AV)->Bool
 |[]=>true
 |p::l=>match mB B 60 p.2 with|true=>zd B l|false=>false
def ze (B:Nat) (s:XS):List (Nat × Option Ob)->Bool
 |[]=>true
 |p::l=>match Nat.blt p.1 B && (match p.2 with|some o=>Ei B o|none=>true) with|true=>ze B s l|false=>false
def Es (rc:Rec) (E:Env) (gid:Nat) (aZ9:List AV) (R:List (List AV × Bool)->Option (Exit × XS)) (C:List (List AV × Bool)->Option Nat):Option (Exit × XS):=match zc E rc gid aZ9 1000000 with
 |some lg=>match R lg with
  |some q=>some q
  |none=>match C lg with
   |some i=>match zc E rc gid aZ9 i with
    |some lg=>R lg
    |none=>none
   |none=>none
 |none=>none
def Et (E:Env) (rc:Rec) (n:Nat) (a:AV) (ps:List Nat) (qa qb:QC) (F:Fr) (s:XS):Option (Exit × Fr × XS):=match a with
 |.fn (.func gid) first cap =>
  match dA (eL 60) first && dA (eL 60) cap && ps.all (Nat.blt · n) && !cI s.yk s.nx && F.ds.all (Nat.blt · (s.nx+1)) && zd (s.nx+1) (toLk F.t) && ze (s.nx+1) s (toLk (gj s .df).m) && jk (s.nx+1) [] (uy (gj s .df)) && (match s.yk with|some k=>Nat.blt k (s.nx+1)|none=>true) with
  |true =>
   match Es rc E gid (first++[.yl 0]++cap) (fun lg=>o7 rc n (s.nx+1) (s.nx+41) qa qb ps F.t lg ⟨(gj s .df).m,s.nx+41,0,s.yk,s.an,s.lg⟩) (fun lg=>JT rc n (s.nx+1) (s.nx+41) qa qb ps F.t lg ⟨(gj s .df).m,s.nx+41,0,s.yk,s.an,s.lg⟩ 0) with
   |some (ex,s')=>some (ex,⟨F.t,s.nx::F.ds⟩,s')
   |none=>none
  |false=>none
 |_=>none
def Eu (x:QO) (F:Fr) (s:XS):Option (Fr × XS):=match x with
 |.t t=>match cM F.t t with
  |.fn f first cap=>match dA (eL 60) first && dA (eL 60) cap with
   |true=>none
   |false=>match yU s [.fn f first cap] with
    |some ([a],s')=>some (⟨put F.t t a,F.ds⟩,s')
    |_=>none
  |_=>none
 |_=>none
def GM (s s':XS):Nat:=match Nat.beq s'.lg.length s.lg.length with|true=>s'.lw|false=>0
def gB (E:Env) (rc:Rec) (rd:Bool) (n:Nat):QF->Fr->XS->XR
 |.run c K,F,s=>match c with
  |.skip=>.mr (.out .normal K) F s
  |.bB true l=>.no
  |.bB false l=>.mr (.bB false l K) F s
  |.cB V l=>match za s (dV l s.nx) with
   |some s'=>.mr (.cB (s.nx+(dV l s.nx).length) V [] (dV l s.nx) l K) F ⟨s'.m,s.nx+(dV l s.nx).length,s'.lw,s'.yk,s'.an,s'.lg⟩
   |none=>.no
  |.seq a c=>.mr (.run a (.seq c::K)) F s
  |.cond x a c=>match x.ev (cM F.t) with
   |.v (.bool true)=>.mr (.run a K) F s
   |.v (.bool false)=>.mr (.run c K) F s
   |_=>.no
  |.block id c=>.mr (.run c (.nT id::K)) F s
  |.scope c=>.mr (.run c (.rq::K)) F s
  |.loop c=>match y_ (fun F s=>rc rd n (.run c []) F s) 400 F s with
   |some (ex,F',s')=>.mr (.out ex K) F' s'
   |none=>.no
  |.exit id=>.mr (.out (.exit id) K) F s
  |.ret=>.mr (.out .ret K) F s
  |.qy x ps a c=>match Eu x F s with
   |some (F',s')=>.mr (.run (.qy x ps a c) K) F' s'
   |none=>match rd,Et E rc n (x.ev (cM F.t)) ps a c F s with
    |false,some (ex,F',s')=>.mr (.out ex K) F' s'
    |_,_=>.no
  |_=>.no
 |.out ex K,F,s=>match K with
  |[]=>.dn ex F s
  |.seq c::K=>match ex with
   |.normal=>.mr (.run c K) F s
   |e=>.mr (.out e K) F s
  |.nT id::K=>match ex with
   |.exit j=>match Nat.beq j id with
    |true=>.mr (.out .normal K) F s
    |false=>.mr (.out (.exit j) K) F s
   |e=>.mr (.out e K) F s
  |.rq::K=>match ex with
   |.goto _=>.no
   |e=>.mr (.out e K) F s
 |.bB true l K,F,s=>.no
 |.bB false l K,F,s=>match l with
  |[]=>.mr (.out .normal K) F s
  |i::l=>match ca (cM F.t) i.g with
   |some true=>match GJ E rc (sV i.d l) i.q (cM F.t) s with
    |some (r,s')=>.mr (.bB false l K) ⟨nC i.d F.t r,F.ds⟩ s'
    |none=>.no
   |some false=>.mr (.bB false l K) ⟨nC i.d F.t (.v undef),F.ds⟩ s
   |none=>.no
 |.cB B V lg rs l K,F,s=>match l with
  |[]=>match Eo V lg with
   |true=>.mr (.out .normal K) F s
   |false=>.no
  |i::l=>match ca (cM F.t) i.g with
   |some true=>match (match vB i.q || Py lg.length V with|true=>GK E rc (sV i.d l) i.q (cM F.t) s rs|false=>none) with
    |some (r,ns,iU,s')=>match tV ns with
     |none=>.mr (.cB B V (lg++[ns]) iU l K) ⟨nC i.d F.t r,F.ds⟩ s'
     |some _=>.no
    |none=>match vB i.q with
     |true=>.no
     |false=>match GJ E rc (sV i.d l) i.q (pH (r6 (iy i.q)) (cM F.t)) ⟨s.m,s.nx,s.nx,s.yk,s.an,s.lg⟩ with
      |some (r,s')=>.mr (.cB B V (lg++[([GM s s'],[],true)]) rs l K) ⟨nC i.d F.t r,F.ds⟩ ⟨s'.m,s'.nx,Nat.min s.lw s'.lw,s'.yk,s'.an,s'.lg⟩
      |none=>.no
   |some false=>.mr (.cB B V (lg++[([],[],false)]) rs l K) ⟨nC i.d F.t (.v undef),F.ds⟩ s
   |none=>.no
def CY (f:QF->Fr->XS->XR):Nat->QF->Fr->XS->XR
 |0,c,t,s=>f c t s
 |k+1,c,t,s=>match CY f k c t s with
  |.mr c t s=>CY f k c t s
  |r=>r
def vG (E:Env):Nat->Rec
 |0=>fun _ _ _ _ _=>.no
 |m+1=>fun rd n c F s=>CY (gB E (vG E m) rd n) 14 c F s
end Go.Proofs.YtbofilglphfceaaGreat
